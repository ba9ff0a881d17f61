/-
  DERIVED. GIVEN WITH THE SEED: THE CARDS: each row of YtkknoimjgifhlaaGreatDoorRows.lean that lists a variable, with what it lists TIED to the program's text (the seventh form; the later family's looks); each row that meets fmt, with fmt's text TOLD by the authors' own Lean function (tested against real Go, not proved from fmt's source: count such statements apart). THE CARD IS WHAT COUNTS. Prove the row's statement (the work); the ties are given (YtkknoimjgifhlaaGreatDoorTie.lean); close each card by the builder's one call (the guide's Derived/Test/ToyasCard.lean, 'card_holds'). Laid BY PROGRAM, IN A SANDBOX (cutbox-door.mjs). By AI agents, Wed Nov 11 2026. No macro, syntax, notation, axiom, sorry.
-/
import Derived.Test.YtkknoimjgifhlaaGreatDoorRows
import GoSem.ClaimSeven
namespace Go.Proofs.YtkknoimjgifhlaaGreatDoor
namespace Rows

/-- THE TIED CARD OF 'ferrymanlaw30.RoomTells'. -/
def roomTellsCard : Claim7 := { stood := { row := roomTellsRow, standIns := [], harness := (true, "b0195d5e3b61ea175c800dbc37e2d0c8b3753828556238428204c3ebce390905"), looks := false }, kinds := [], alts := [], laidByText := true, laidKinds := [.funcs, .funcs], laidTests := true, laidLooks := .later }
def RoomTellsCardSaid : Prop := Claim7.holds Tryz.pinned (.plain (OpenSpec.ofChange roomTellsSpec)) roomTellsCard

/-- THE SECOND FORM's CARD OF 'ferrymanlaw30.RoomTells'. -/
def roomTellsUptoCard : Claim7 := { stood := { row := roomTellsUptoRow, standIns := [], harness := (true, "b0195d5e3b61ea175c800dbc37e2d0c8b3753828556238428204c3ebce390905"), looks := false }, kinds := [], alts := [], laidByText := true, laidKinds := [.funcs, .funcs], laidTests := true, laidLooks := .later }
def RoomTellsUptoCardSaid : Prop := Claim7.holds Tryz.pinned (.plain (OpenSpec.upto roomTellsSpec)) roomTellsUptoCard
end Rows
end Go.Proofs.YtkknoimjgifhlaaGreatDoor
