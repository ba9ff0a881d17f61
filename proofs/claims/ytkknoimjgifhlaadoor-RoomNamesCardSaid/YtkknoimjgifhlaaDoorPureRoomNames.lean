/-  The plain law RoomNames: closed. -/
import Derived.Test.YtkknoimjgifhlaaDoorOpnr1
import Derived.Test.YtkknoimjgifhlaaDoorGr1LRoomNames
namespace Go.Proofs.YtkknoimjgifhlaaDoor
open Go Go.RowKit
theorem pure_RoomNames : ∃ k, ferrymanlaw30_RoomNames k = some true := ⟨200, by decide +kernel⟩
end Go.Proofs.YtkknoimjgifhlaaDoor
