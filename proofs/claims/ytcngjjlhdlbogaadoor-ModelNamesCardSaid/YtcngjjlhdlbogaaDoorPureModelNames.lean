/-  The plain law ModelNames: closed. -/
import Derived.Test.YtcngjjlhdlbogaaDoorOpnm1
import Derived.Test.YtcngjjlhdlbogaaDoorGm1LModelNames
namespace Go.Proofs.YtcngjjlhdlbogaaDoor
open Go Go.RowKit
theorem pure_ModelNames : ∃ k, ferrymanlaw16_ModelNames k = some true := ⟨60, by decide +kernel⟩
end Go.Proofs.YtcngjjlhdlbogaaDoor
