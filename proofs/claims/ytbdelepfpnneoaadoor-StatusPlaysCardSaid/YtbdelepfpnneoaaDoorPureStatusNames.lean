import Derived.Test.YtbdelepfpnneoaaDoorOpns1
import Derived.Test.YtbdelepfpnneoaaDoorGs1LStatusNames
namespace Go.Proofs.YtbdelepfpnneoaaDoor
open Go Go.RowKit
theorem works_60 : ferrymanlaw08_works 60 = some true := by decide +kernel
theorem works_hold : ∃ k, ferrymanlaw08_works k = some true := ⟨60, works_60⟩
theorem pure_StatusNames : ∃ k, ferrymanlaw08_StatusNames k = some true := ⟨60, by decide +kernel⟩
end Go.Proofs.YtbdelepfpnneoaaDoor
