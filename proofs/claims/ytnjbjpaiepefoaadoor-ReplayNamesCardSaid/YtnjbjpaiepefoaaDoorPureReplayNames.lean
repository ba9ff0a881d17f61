/-  The plain law ReplayNames: closed. -/
import Derived.Test.YtnjbjpaiepefoaaDoorOpnp1
import Derived.Test.YtnjbjpaiepefoaaDoorGp1LReplayNames
namespace Go.Proofs.YtnjbjpaiepefoaaDoor
open Go Go.RowKit
theorem pure_ReplayNames : ∃ k, YL k = some true := ⟨200, by decide +kernel⟩
end Go.Proofs.YtnjbjpaiepefoaaDoor
