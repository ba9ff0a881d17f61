/-  The plain law KeepNames: a closed one. -/
import Derived.Test.YtmoackfjfklfaaaOpnt8
import Derived.Test.YtmoackfjfklfaaaGt8LKeepNames
namespace Go.Proofs.Ytmoackfjfklfaaa
open Go Go.RowKit
theorem pure_KeepNames : ∃ k, ferrymanlaw11_KeepNames k = some true := ⟨60, by decide +kernel⟩
end Go.Proofs.Ytmoackfjfklfaaa
