import Derived.Test.YtnjbjpaiepefoaaDoorPureMade
import Derived.Test.YtnjbjpaiepefoaaDoorPureCfg
namespace Go.Proofs.YtnjbjpaiepefoaaDoor
open Go Go.RowKit
set_option linter.unusedVariables false
set_option linter.unusedSimpArgs false
set_option maxRecDepth 100000
section
variable {c:Qo} {p:Progs} {L:List QG} {T:Nat} {x0:Run}
theorem KInv0 (R:RI T p 0 x0):KInv T L 0 (coreOf x0):=by
 have h0:x0.done = []:=List.length_eq_zero_iff.1 (by have:=R.dl; omega)
 have hd:(coreOf x0).done = []:=h0
 have no:∀ t:Nat,t < T → (rd (coreOf x0).tasks (t:Int)).at_ = 2 → False:=fun t ht h=>by have:=R.ls t ht h; rw [h0] at this; simp at this; omega
 refine ⟨R.rc.len,R.la,fun d h=>?_,fun j j' h=>?_,fun d h=>?_,fun t ht h=>(no t ht h).elim,fun t u ht hu h=>(no t ht h).elim⟩
 ·rw [hd] at h; cases h
 ·rw [hd] at h; simp at h
 ·rw [hd] at h; cases h
theorem made_l0_ev (D:List ZL) (hD:D.length ≤ 100000):∀ (j i:Nat) (l:List QG),i + j = D.length → (∀ d ∈ D,d.Back < (l.length:Int)) → Ev (fun k=>Yi D k l (i:Int)) (madeL (D.drop i) l):=by
 intro j
 induction j with
 | zero =>
  intro i l hi h
  rw [List.drop_of_length_le (by omega)]
  refine Ev.shift 1 ⟨0,fun k _=>?_⟩
  show Yi D (k + 1) l (i:Int) = some l
  have:¬ ((i:Int) < (D.length:Int)):=by omega
  rw [Yi.eq_2]
  simp [this]
 | succ j ih =>
  intro i l hi h
  have hlt:i < D.length:=by omega
  have h3:(i:Int) < (D.length:Int):=by omega
  have hB:=h _ (List.getElem_mem hlt)
  rw [List.drop_eq_getElem_cons hlt]
  refine Ev.shift 1 ((ih (i + 1) (putA l D[i]) (by omega) (fun d hd=>by rw [putA_len]; exact h d hd)).congr fun k=>?_)
  show Yi D (k + 1) l (i:Int) = _
  rw [Yi.eq_2]
  simp only [h3,decide_true,if_true,inR hlt,and_self,rdN hlt,wr1 (i:=i) (by omega)]
  unfold putA
  by_cases hk:0 ≤ D[i].Back
  ·simp only [ge_iff_le,hk,hB,decide_true,if_true,and_self,Option.bind_some]
  ·simp only [ge_iff_le,hk,decide_false,Bool.false_eq_true,if_false,Option.bind_some]
theorem made_some (hl:L.length ≤ 1000) {D:List ZL} (hD:D.length ≤ 100000) (hB:∀ d ∈ D,d.Back < (L.length:Int)) (h:Ev (fun k=>XG k c p L) D):Ev (fun k=>YQ k c p L) (madeL D L):=by
 unfold YQ
 exact Ev.chk (by simp; omega) (h.bind ((made_l0_ev D hD D.length 0 ([] ++ L) (by omega) hB).bind (Ev.pure _)))
end
end Go.Proofs.YtnjbjpaiepefoaaDoor
