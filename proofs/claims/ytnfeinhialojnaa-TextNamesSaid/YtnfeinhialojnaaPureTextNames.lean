/-  The plain law TextNames. -/
import Derived.Test.YtnfeinhialojnaaPureBase
import Derived.Test.YtnfeinhialojnaaGt1LTextNames
namespace Go.Proofs.Ytnfeinhialojnaa
open Go Go.RowKit
set_option linter.unusedVariables false
set_option linter.unusedSimpArgs false
set_option maxRecDepth 100000 in
theorem pure_TextNames : ∃ k, ferrymanlaw02_TextNames k = some true := ⟨300, by decide +kernel⟩
end Go.Proofs.Ytnfeinhialojnaa
