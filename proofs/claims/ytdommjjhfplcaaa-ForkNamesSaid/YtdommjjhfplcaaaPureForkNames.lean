/-  The plain law ForkNames: a closed one. -/
import Derived.Test.YtdommjjhfplcaaaOpnf1
import Derived.Test.YtdommjjhfplcaaaGf1LForkNames
namespace Go.Proofs.Ytdommjjhfplcaaa
open Go Go.RowKit
set_option maxRecDepth 100000 in
theorem pure_ForkNames : ∃ k, ferrymanlaw13_ForkNames k = some true := ⟨60, by decide +kernel⟩
end Go.Proofs.Ytdommjjhfplcaaa
