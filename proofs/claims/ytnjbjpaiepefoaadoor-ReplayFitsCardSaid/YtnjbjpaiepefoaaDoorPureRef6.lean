import Derived.Test.YtnjbjpaiepefoaaDoorPureRef5
import Derived.Test.YtnjbjpaiepefoaaDoorPureOver
namespace Go.Proofs.YtnjbjpaiepefoaaDoor
open Go Go.RowKit
set_option linter.unusedVariables false
set_option linter.unusedSimpArgs false
set_option maxRecDepth 100000
theorem QAx (a b:Qc) (hl:a.Pairs.length=b.Pairs.length) (hb:a.Pairs.length≤1000000):∀ (j i:Nat),i+j=a.Pairs.length→∀ k,j<k→YK a b k (i:Int)=some (if a.Pairs.drop i=b.Pairs.drop i then .inr () else .inl false):=by
 intro j
 induction j with
 | zero =>
  intro i hi k hk;obtain ⟨k,rfl⟩:∃ k',k=k'+1:=⟨k-1,by omega⟩;rw [YK.eq_2,List.drop_of_length_le (by omega),List.drop_of_length_le (by omega),if_neg (by simp;omega)];simp
 | succ j ih =>
  intro i hi k hk;obtain ⟨k,rfl⟩:∃ k',k=k'+1:=⟨k-1,by omega⟩;have B:i<a.Pairs.length:=by omega
  have E:i<b.Pairs.length:=by omega
  rw [YK.eq_2,List.drop_eq_getElem_cons B,List.drop_eq_getElem_cons E,if_pos (by simpa using B),if_pos (inR B),if_pos (inR E),rdN B,rdN E,qQ,wr1 (by omega)]
  by_cases hc:a.Pairs[i]=b.Pairs[i]
  ·simp only [hc,decide_true,Bool.not_true,Bool.false_eq_true,if_false,List.cons.injEq,true_and];exact ih (i+1) (by omega) k (by omega)
  ·have hn:¬ (a.Pairs[i]::a.Pairs.drop (i+1)=b.Pairs[i]::b.Pairs.drop (i+1)):=fun e=>hc (List.cons.inj e).1;rw [if_neg hn,if_pos (by simpa using hc)]
theorem JO (a b:Qc) (hb:a.Pairs.length≤1000000):Ev (fun k=>ZG k a b) (decide (a=b)):=by
 refine ⟨a.Pairs.length+1,fun k hk=>?_⟩
 have key:a=b↔a.Err=b.Err∧a.Found=b.Found∧a.Value=b.Value∧a.Pairs=b.Pairs:=by
  cases a;cases b;simp [Qc.mk.injEq]
 have sn:sbin .neq a.Value b.Value=!decide (a.Value=b.Value):=by
  simp only [sbin]
  by_cases h:a.Value=b.Value<;>simp [h]
 show ZG k a b=_;unfold ZG;rw [sn]
 by_cases h:a.Err=b.Err∧a.Found=b.Found∧a.Value=b.Value∧a.Pairs.length=b.Pairs.length
 ·obtain ⟨B,E,H,K⟩:=h;have h0:YK a b k (0:Int)=_:=QAx a b K hb a.Pairs.length 0 (by omega) k hk;rw [if_neg (by simp [B,E,H,K]),h0,List.drop_zero,List.drop_zero]
  by_cases hc:a.Pairs=b.Pairs
  ·have:a=b:=key.2 ⟨B,E,H,hc⟩;simp [hc,this]
  ·have:a≠b:=fun e=>hc (by rw [e]);simp [hc,this]
 ·have:a≠b:=fun e=>h (by rw [e];exact ⟨rfl,rfl,rfl,rfl⟩)
  rw [if_pos (by
   simp only [Bool.or_eq_true,bne_iff_ne,ne_eq,Bool.not_eq_true',decide_eq_false_iff_not,beq_eq_false_iff_ne]
   by_cases U:a.Err=b.Err
   ·by_cases V:a.Found=b.Found
    ·by_cases W:a.Value=b.Value
     ·exact .inr (fun e=>h ⟨U,V,W,by omega⟩)
     ·exact .inl (.inr W)
    ·exact .inl (.inl (.inr V))
   ·exact .inl (.inl (.inl U)))]
  simp [this]
section
variable {n:Nat} {m:Mod} {x:RM}
end
end Go.Proofs.YtnjbjpaiepefoaaDoor
