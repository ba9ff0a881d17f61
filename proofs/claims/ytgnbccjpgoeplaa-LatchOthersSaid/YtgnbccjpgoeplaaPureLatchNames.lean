/-  The plain law LatchNames: closed. -/
import Derived.Test.YtgnbccjpgoeplaaOpnl1
import Derived.Test.YtgnbccjpgoeplaaGl1LLatchNames
namespace Go.Proofs.Ytgnbccjpgoeplaa
open Go Go.RowKit
theorem pure_LatchNames : ∃ k, ferrymanlaw05_LatchNames k = some true := ⟨20, by decide +kernel⟩
theorem awake_at : ferrymanlaw05_awake 20 = some true := by decide +kernel
theorem awake_up {k : Nat} (h : 20 ≤ k) : ferrymanlaw05_awake k = some true := OLe.up (f := fun k => ferrymanlaw05_awake k) (fun k => ferrymanlaw05_awake.mono) h _ awake_at
end Go.Proofs.Ytgnbccjpgoeplaa
