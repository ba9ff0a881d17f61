import Derived.Test.YtkknoimjgifhlaaGreatDoorOpnr3
import Derived.Test.YtkknoimjgifhlaaGreatDoorPureNow30
import Derived.Test.YtkknoimjgifhlaaGreatDoorPureBound30
import Derived.Test.YtkknoimjgifhlaaGreatDoorPureLong
namespace Go.Proofs.YtkknoimjgifhlaaGreatDoor
open Go Go.RowKit
set_option linter.unusedVariables false
set_option linter.unusedSimpArgs false
set_option maxRecDepth 100000
theorem pure_RoomTells (a0:QI) (a1:Int) (a2:(List (List QY))) (a3:(List QL)) (_:UR a0) (_:(wfInt .u8) a1) (w2:(wfSl (wfSl Ux)) a2) (w3:(wfSl Ua) a3):∃ k,Yx k a0 a1 a2 a3=some true:=by
 refine Ev.ex (f:=fun k=>Yx k a0 a1 a2 a3) ?_
 have b1:a2.length≤9223372036854775807:=Nat.le_trans w2.1 (by decide)
 have b3:∀ q∈a2,q.length≤9223372036854775807:=fun q hq=>Nat.le_trans (w2.2 q hq).1 (by decide)
 have b2:a3.length≤9223372036854775807:=Nat.le_trans w3.1 (by decide)
 unfold Yx
 obtain ⟨x,hx,hx2⟩:=QBY a2 a3 b1 b3 b2
 refine hx.bind ?_
 cases x with
 | true=>exact Ev.pos rfl (KL.bind (Ev.pure _))
 | false =>
  obtain ⟨l1,l2⟩:=hx2 rfl
  obtain ⟨v,v1,v2⟩:=now_ev a0 a2 a3 l1 (fun e he=>⟨l2 e he,by have:=(w3.2 e he).1;simp only [wfInt,Lit.wf,Bool.and_eq_true,decide_eq_true_eq] at this;exact this⟩)
  refine Ev.neg (by simp) (Ev.bind (Jo a0) (Ev.bind (Jm a0) (Ev.bind v1 (Ev.bind v2 ?_))))
  refine Ev.bind (v:=true) (Ev.pos (by simp) (Ev.bind (qr a0 a1) (Ev.bind (Jl a0 a1) ((Ev.pure _).eq (by simp))))) ?_
  refine Ev.bind (v:=true) (Ev.pos rfl (Ev.bind (K5 a0) (Ev.bind (K3 a0) ((Ev.pure _).eq (by simp))))) ?_
  exact Ev.bind (v:=true) (Ev.pos rfl (KL.bind (Ev.pure _))) (Ev.pure _)
end Go.Proofs.YtkknoimjgifhlaaGreatDoor
