import Derived.Test.YtnjbjpaiepefoaaGreatDoorPureRef5
import Derived.Test.YtnjbjpaiepefoaaGreatDoorPureOver
namespace Go.Proofs.YtnjbjpaiepefoaaGreatDoor
open Go Go.RowKit
set_option linter.unusedVariables false
set_option linter.unusedSimpArgs false
set_option maxRecDepth 100000
theorem QAp (a b:Qk) (hl:a.Pairs.length=b.Pairs.length) (hb:a.Pairs.length≤1000000):∀ (j i:Nat),i+j=a.Pairs.length→∀ k,j<k→YS a b k (i:Int)=some (if a.Pairs.drop i=b.Pairs.drop i then .inr () else .inl false):=by
 intro j
 induction j with
 | zero =>
  intro i hi k hk;obtain ⟨k,rfl⟩:∃ k',k=k'+1:=⟨k-1,by omega⟩;rw [YS.eq_2,List.drop_of_length_le (by omega),List.drop_of_length_le (by omega),if_neg (by simp;omega)];simp
 | succ j ih =>
  intro i hi k hk;obtain ⟨k,rfl⟩:∃ k',k=k'+1:=⟨k-1,by omega⟩;have B:i<a.Pairs.length:=by omega
  have E:i<b.Pairs.length:=by omega
  rw [YS.eq_2,List.drop_eq_getElem_cons B,List.drop_eq_getElem_cons E,if_pos (by simpa using B),if_pos (inR B),if_pos (inR E),rdN B,rdN E,qM,wr1 (by omega)]
  by_cases hc:a.Pairs[i]=b.Pairs[i]
  ·simp only [hc,decide_true,Bool.not_true,Bool.false_eq_true,if_false,List.cons.injEq,true_and];exact ih (i+1) (by omega) k (by omega)
  ·have hn:¬ (a.Pairs[i]::a.Pairs.drop (i+1)=b.Pairs[i]::b.Pairs.drop (i+1)):=fun e=>hc (List.cons.inj e).1;rw [if_neg hn,if_pos (by simpa using hc)]
theorem JS (a b:Qk) (hb:a.Pairs.length≤1000000):Ev (fun k=>Zw k a b) (decide (a=b)):=by
 refine ⟨a.Pairs.length+1,fun k hk=>?_⟩
 have key:a=b↔a.Err=b.Err∧a.Found=b.Found∧a.Value=b.Value∧a.Pairs=b.Pairs:=by
  cases a;cases b;simp [Qk.mk.injEq]
 have sn:sbin .neq a.Value b.Value=!decide (a.Value=b.Value):=by
  simp only [sbin]
  by_cases h:a.Value=b.Value<;>simp [h]
 show Zw k a b=_;unfold Zw;rw [sn]
 by_cases h:a.Err=b.Err∧a.Found=b.Found∧a.Value=b.Value∧a.Pairs.length=b.Pairs.length
 ·obtain ⟨B,E,G,H⟩:=h;have h0:YS a b k (0:Int)=_:=QAp a b H hb a.Pairs.length 0 (by omega) k hk;rw [if_neg (by simp [B,E,G,H]),h0,List.drop_zero,List.drop_zero]
  by_cases hc:a.Pairs=b.Pairs
  ·have:a=b:=key.2 ⟨B,E,G,hc⟩;simp [hc,this]
  ·have:a≠b:=fun e=>hc (by rw [e]);simp [hc,this]
 ·have:a≠b:=fun e=>h (by rw [e];exact ⟨rfl,rfl,rfl,rfl⟩)
  rw [if_pos (by
   simp only [Bool.or_eq_true,bne_iff_ne,ne_eq,Bool.not_eq_true',decide_eq_false_iff_not,beq_eq_false_iff_ne]
   by_cases K:a.Err=b.Err
   ·by_cases O:a.Found=b.Found
    ·by_cases U:a.Value=b.Value
     ·exact .inr (fun e=>h ⟨K,O,U,by omega⟩)
     ·exact .inl (.inr U)
    ·exact .inl (.inl (.inr O))
   ·exact .inl (.inl (.inl K)))]
  simp [this]
section
variable {n:Nat} {m:Mod} {x:RM}
def retL:List RK→Int
 | []=>0
 | y::t=>(y.L.length:Int)+(if y.Has=true then 1 else 0)+retL t
theorem QCG (x:RM) (n:Nat) (hn:n≤1000000) (hl:x.L.length≤1000000) (hL:∀ y∈x.L,y.L.length≤n):∀ (j i:Nat) (s:Int),i+j=x.L.length→0≤s→s≤(i:Int)*((n:Int)+1)→∀ k,j<k→ZA x k s (i:Int)=some (s+retL (x.L.drop i)):=by
 intro j
 induction j with
 | zero =>
  intro i s hi h0 B k hk;obtain ⟨k,rfl⟩:∃ q,k=q+1:=⟨k-1,by omega⟩;rw [ZA.eq_2,if_neg (by simp;omega),List.drop_of_length_le (by omega)];simp [retL]
 | succ j ih =>
  intro i s hi h0 B k hk;obtain ⟨k,rfl⟩:∃ q,k=q+1:=⟨k-1,by omega⟩;have hlt:i<x.L.length:=by omega
  have hy:=hL _ (List.getElem_mem hlt);have e:((i:Int)+1)*((n:Int)+1)=(i:Int)*((n:Int)+1)+((n:Int)+1):=by rw [Int.add_mul,Int.one_mul]
  have hb:(i:Int)*((n:Int)+1)≤1000000*1000001:=Int.mul_le_mul (by omega) (by omega) (by omega) (by omega);rw [ZA.eq_2,if_pos (by simpa using hlt),if_pos (inR hlt),if_pos (inR hlt),rdN hlt,wr1 (i:=i) (by omega),List.drop_eq_getElem_cons hlt,retL,wr (x:=s+_) (by omega) (by omega)]
  cases hH:x.L[i].Has
  ·simp only [Bool.false_eq_true,if_false,Option.bind_some];rw [ih (i+1) _ (by omega) (by omega) (by rw [show (((i+1:Nat)):Int)=(i:Int)+1 from rfl,e];omega) k (by omega)]
   congr 1;omega
  ·simp only [if_true,Option.bind_some];rw [wr (x:=s+_+1) (by omega) (by omega),ih (i+1) _ (by omega) (by omega) (by rw [show (((i+1:Nat)):Int)=(i:Int)+1 from rfl,e];omega) k (by omega)]
   congr 1;omega
theorem Rel.ret_ev (R:Rel m x) (I:Inv n m) (hn:n≤1000000):Ev (fun k=>Zf k x) (retS m (keysS m)):=by
 have hll:=R.llen I;have hrl:=I.rl
 have e:∀ L:List RK,(∀ y∈L,y∈x.L)→retL L=retS m (L.map (·.Key)):=by
  intro L
  induction L with
  | nil=>intro _;rfl
  | cons y L ih =>
   intro h;have hy:=R.at_ I (h y List.mem_cons_self);have hw:=(I.row y.Key).2;rw [retL,List.map_cons,retS,ih fun z hz=>h z (List.mem_cons_of_mem _ hz)];have B:y.L=(rowOf m y.Key).l:=by rw [hy];rfl
   have E:y.Has=decide ((rowOf m y.Key).intent.Writer≠0):=by rw [hy];rfl
   rw [B,E]
   by_cases q:(rowOf m y.Key).intent.Writer=0
   ·rw [if_neg (by simp [q]),q];rfl
   ·rw [if_pos (by simp [q]),show imin 1 (rowOf m y.Key).intent.Writer=1 from by unfold imin;split<;>omega]
 refine ⟨x.L.length+1,fun k hk=>?_⟩
 have h0:ZA x k (0:Int) (0:Int)=_:=QCG x n hn (by omega) (fun y hy=>by
  obtain ⟨p,hp,rfl⟩:=(R.me y).1 hy;exact I.vl p hp) x.L.length 0 0 (by omega) (by omega) (by simp) k (by omega)
 show Zf k x=_;unfold Zf;rw [h0,List.drop_zero,e x.L (fun _ h=>h),R.keys I,Int.zero_add];rfl
theorem QCe (I:Inv n m) (hn:n≤1000000) (key:Str):Ev (fun k=>Yv k m key) (rowOf m key).l:=by
 have:=(I.row key).1;refine ⟨0,fun k _=>?_⟩;show Option.bind (Qx k (rowOf m key).l) _=_;simp only [Qx];rw [if_pos (by simp;omega)];rfl
end
end Go.Proofs.YtnjbjpaiepefoaaGreatDoor
