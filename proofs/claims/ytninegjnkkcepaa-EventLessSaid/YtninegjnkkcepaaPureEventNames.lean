/-  The plain law EventNames: closed. -/
import Derived.Test.YtninegjnkkcepaaOpne1
import Derived.Test.YtninegjnkkcepaaGe1LEventNames
namespace Go.Proofs.Ytninegjnkkcepaa
open Go Go.RowKit
theorem pure_EventNames : ∃ k, ferrymanlaw06_EventNames k = some true := ⟨30, by decide +kernel⟩
theorem works_at : ferrymanlaw06_works 30 = some true := by decide +kernel
theorem works_up {k : Nat} (h : 30 ≤ k) : ferrymanlaw06_works k = some true := OLe.up (f := fun k => ferrymanlaw06_works k) (fun k => ferrymanlaw06_works.mono) h _ works_at
end Go.Proofs.Ytninegjnkkcepaa
