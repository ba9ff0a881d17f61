import Derived.Test.YtkknoimjgifhlaaGreatDoorPureRef5
import Derived.Test.YtkknoimjgifhlaaGreatDoorPureOver
namespace Go.Proofs.YtkknoimjgifhlaaGreatDoor
open Go Go.RowKit
set_option linter.unusedVariables false
set_option linter.unusedSimpArgs false
set_option maxRecDepth 100000
theorem qo (a b:Ql) (hl:a.Pairs.length=b.Pairs.length) (hb:a.Pairs.length≤1000000):∀ (j i:Nat),i+j=a.Pairs.length→∀ k,j<k→Z4 a b k (i:Int)=some (if a.Pairs.drop i=b.Pairs.drop i then .inr () else .inl false):=by
 intro j
 induction j with
 | zero =>
  intro i hi k hk
  obtain ⟨k,rfl⟩:∃ k',k=k'+1:=⟨k-1,by omega⟩
  rw [Z4.eq_2,List.drop_of_length_le (by omega),List.drop_of_length_le (by omega),if_neg (by simp;omega)]
  simp
 | succ j ih =>
  intro i hi k hk
  obtain ⟨k,rfl⟩:∃ k',k=k'+1:=⟨k-1,by omega⟩
  have h1:i<a.Pairs.length:=by omega
  have h2:i<b.Pairs.length:=by omega
  rw [Z4.eq_2,List.drop_eq_getElem_cons h1,List.drop_eq_getElem_cons h2,if_pos (by simpa using h1),if_pos (inR h1),if_pos (inR h2),rdN h1,rdN h2,KX,wr1 (by omega)]
  by_cases hc:a.Pairs[i]=b.Pairs[i]
  ·simp only [hc,decide_true,Bool.not_true,Bool.false_eq_true,if_false,List.cons.injEq,true_and]
   exact ih (i+1) (by omega) k (by omega)
  ·have hn:¬ (a.Pairs[i]::a.Pairs.drop (i+1)=b.Pairs[i]::b.Pairs.drop (i+1)):=fun e=>hc (List.cons.inj e).1
   rw [if_neg hn,if_pos (by simpa using hc)]
theorem qp (a b:Ql) (hb:a.Pairs.length≤1000000):Ev (fun k=>Yh k a b) (decide (a=b)):=by
 refine ⟨a.Pairs.length+1,fun k hk=>?_⟩
 have key:a=b↔a.Err=b.Err∧a.Found=b.Found∧a.Value=b.Value∧a.Pairs=b.Pairs:=by
  cases a;cases b;simp [Ql.mk.injEq]
 have sn:sbin .neq a.Value b.Value=!decide (a.Value=b.Value):=by
  simp only [sbin]
  by_cases h:a.Value=b.Value<;>simp [h]
 show Yh k a b=_
 unfold Yh
 rw [sn]
 by_cases h:a.Err=b.Err∧a.Found=b.Found∧a.Value=b.Value∧a.Pairs.length=b.Pairs.length
 ·obtain ⟨h1,h2,h3,h4⟩:=h
  have h0:Z4 a b k (0:Int)=_:=qo a b h4 hb a.Pairs.length 0 (by omega) k hk
  rw [if_neg (by simp [h1,h2,h3,h4]),h0,List.drop_zero,List.drop_zero]
  by_cases hc:a.Pairs=b.Pairs
  ·have:a=b:=key.2 ⟨h1,h2,h3,hc⟩
   simp [hc,this]
  ·have:a≠b:=fun e=>hc (by rw [e])
   simp [hc,this]
 ·have:a≠b:=fun e=>h (by rw [e];exact ⟨rfl,rfl,rfl,rfl⟩)
  rw [if_pos (by
   simp only [Bool.or_eq_true,bne_iff_ne,ne_eq,Bool.not_eq_true',decide_eq_false_iff_not,beq_eq_false_iff_ne]
   by_cases g1:a.Err=b.Err
   ·by_cases g2:a.Found=b.Found
    ·by_cases g3:a.Value=b.Value
     ·exact .inr (fun e=>h ⟨g1,g2,g3,by omega⟩)
     ·exact .inl (.inr g3)
    ·exact .inl (.inl (.inr g2))
   ·exact .inl (.inl (.inl g1)))]
  simp [this]
theorem Vr {p:Prop} [Decidable p] {a b:Ql×Mod} (h:0≤a.1.Err) (h':0≤b.1.Err):0≤(if p then a else b).1.Err:=by split<;>assumption
theorem QAT (m:Mod) (t:Int) (c:QY):0≤refS m t c:=by unfold refS;split<;>(try split)<;>(try split)<;>(try split)<;>omega
theorem doS_err (m:Mod) (t:Int) (c:QY):0≤(doS m t c).1.Err:=by
 have z:∀ e:Int,0≤e→0≤(ans e).Err:=fun e h=>h
 have hg:∀ w,0≤(getS m w c).Err:=fun w=>by unfold getS;split<;>exact Int.le_refl _
 have hw:∀ k v,0≤(writeS m k v).1.Err:=fun k v=>Vr (z 33 (by decide)) (Vr (z 0 (by decide)) (Vr (z 34 (by decide)) (Int.le_refl _)))
 have hc:∀ w,0≤(commitS m w).1.Err:=fun w=>Vr (z 0 (by decide)) (Vr (z 35 (by decide)) (z 0 (by decide)))
 exact Vr (z _ (QAT m t c)) (Vr (Vr (z 34 (by decide)) (z 0 (by decide))) (Vr (hg _) (Vr (hw _ _) (Vr (hw _ _) (Vr (Int.le_refl _) (Vr (hc _) (Vr (z 0 (by decide)) (Vr (z 0 (by decide)) (z 0 (by decide))))))))))
section
variable {n:Nat} {m:Mod} {x:RM}
def retL:List RK→Int
 | []=>0
 | y::t=>(y.L.length:Int)+(if y.Has=true then 1 else 0)+retL t
theorem QBO (x:RM) (n:Nat) (hn:n≤1000000) (hl:x.L.length≤1000000) (hL:∀ y∈x.L,y.L.length≤n):∀ (j i:Nat) (s:Int),i+j=x.L.length→0≤s→s≤(i:Int)*((n:Int)+1)→∀ k,j<k→Q8 x k s (i:Int)=some (s+retL (x.L.drop i)):=by
 intro j
 induction j with
 | zero =>
  intro i s hi h0 h1 k hk
  obtain ⟨k,rfl⟩:∃ q,k=q+1:=⟨k-1,by omega⟩
  rw [Q8.eq_2,if_neg (by simp;omega),List.drop_of_length_le (by omega)]
  simp [retL]
 | succ j ih =>
  intro i s hi h0 h1 k hk
  obtain ⟨k,rfl⟩:∃ q,k=q+1:=⟨k-1,by omega⟩
  have hlt:i<x.L.length:=by omega
  have hy:=hL _ (List.getElem_mem hlt)
  have e:((i:Int)+1)*((n:Int)+1)=(i:Int)*((n:Int)+1)+((n:Int)+1):=by rw [Int.add_mul,Int.one_mul]
  have hb:(i:Int)*((n:Int)+1)≤1000000*1000001:=Int.mul_le_mul (by omega) (by omega) (by omega) (by omega)
  rw [Q8.eq_2,if_pos (by simpa using hlt),if_pos (inR hlt),if_pos (inR hlt),rdN hlt,wr1 (i:=i) (by omega),List.drop_eq_getElem_cons hlt,retL,wr (x:=s+_) (by omega) (by omega)]
  cases hH:x.L[i].Has
  ·simp only [Bool.false_eq_true,if_false,Option.bind_some]
   rw [ih (i+1) _ (by omega) (by omega) (by rw [show (((i+1:Nat)):Int)=(i:Int)+1 from rfl,e];omega) k (by omega)]
   congr 1;omega
  ·simp only [if_true,Option.bind_some]
   rw [wr (x:=s+_+1) (by omega) (by omega),ih (i+1) _ (by omega) (by omega) (by rw [show (((i+1:Nat)):Int)=(i:Int)+1 from rfl,e];omega) k (by omega)]
   congr 1;omega
theorem Rel.ret_ev (R:Rel m x) (I:Inv n m) (hn:n≤1000000):Ev (fun k=>Qj k x) (retS m (keysS m)):=by
 have hll:=R.llen I
 have hrl:=I.rl
 have e:∀ L:List RK,(∀ y∈L,y∈x.L)→retL L=retS m (L.map (·.Key)):=by
  intro L
  induction L with
  | nil=>intro _;rfl
  | cons y L ih =>
   intro h
   have hy:=R.at_ I (h y List.mem_cons_self)
   have hw:=(I.row y.Key).2
   rw [retL,List.map_cons,retS,ih fun z hz=>h z (List.mem_cons_of_mem _ hz)]
   have e1:y.L=(rowOf m y.Key).l:=by rw [hy];rfl
   have e2:y.Has=decide ((rowOf m y.Key).intent.Writer≠0):=by rw [hy];rfl
   rw [e1,e2]
   by_cases q:(rowOf m y.Key).intent.Writer=0
   ·rw [if_neg (by simp [q]),q];rfl
   ·rw [if_pos (by simp [q]),show imin 1 (rowOf m y.Key).intent.Writer=1 from by unfold imin;split<;>omega]
 refine ⟨x.L.length+1,fun k hk=>?_⟩
 have h0:Q8 x k (0:Int) (0:Int)=_:=QBO x n hn (by omega) (fun y hy=>by
  obtain ⟨p,hp,rfl⟩:=(R.me y).1 hy
  exact I.vl p hp) x.L.length 0 0 (by omega) (by omega) (by simp) k (by omega)
 show Qj k x=_
 unfold Qj
 rw [h0,List.drop_zero,e x.L (fun _ h=>h),R.keys I,Int.zero_add];rfl
end
end Go.Proofs.YtkknoimjgifhlaaGreatDoor
