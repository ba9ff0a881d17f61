/-
  DERIVED. GIVEN WITH THE SEED: THE CARDS: each row of YtnjbjpaiepefoaaGreatDoorRows.lean that lists a variable, with what it lists TIED to the program's text (the seventh form; the later family's looks); each row that meets fmt, with fmt's text TOLD by the authors' own Lean function (tested against real Go, not proved from fmt's source: count such statements apart). THE CARD IS WHAT COUNTS. Prove the row's statement (the work); the ties are given (YtnjbjpaiepefoaaGreatDoorTie.lean); close each card by the builder's one call (the guide's Derived/Test/ToyasCard.lean, 'card_holds'). Laid BY PROGRAM, IN A SANDBOX (cutbox-door.mjs). By AI agents, Wed Nov 11 2026. No macro, syntax, notation, axiom, sorry.
-/
import Derived.Test.YtnjbjpaiepefoaaGreatDoorRows
import GoSem.ClaimSeven
namespace Go.Proofs.YtnjbjpaiepefoaaGreatDoor
namespace Rows

/-- THE TIED CARD OF 'ferrymanlaw28.ReplayTells'. -/
def replayTellsCard : Claim7 := { stood := { row := replayTellsRow, standIns := [], harness := (true, "4b856c391e5d02d9cbff14c5b7734510dfbc5a1cb06b6826eeb748e7970a8c21"), looks := true }, kinds := [], alts := [], laidByText := true, laidKinds := [.funcs, .funcs], laidTests := true, laidLooks := .later }
def ReplayTellsCardSaid : Prop := Claim7.holds Tryz.pinned (.plain (OpenSpec.ofChange replayTellsSpec)) replayTellsCard

/-- THE SECOND FORM's CARD OF 'ferrymanlaw28.ReplayTells'. -/
def replayTellsUptoCard : Claim7 := { stood := { row := replayTellsUptoRow, standIns := [], harness := (true, "4b856c391e5d02d9cbff14c5b7734510dfbc5a1cb06b6826eeb748e7970a8c21"), looks := true }, kinds := [], alts := [], laidByText := true, laidKinds := [.funcs, .funcs], laidTests := true, laidLooks := .later }
def ReplayTellsUptoCardSaid : Prop := Claim7.holds Tryz.pinned (.plain (OpenSpec.upto replayTellsSpec)) replayTellsUptoCard
end Rows
end Go.Proofs.YtnjbjpaiepefoaaGreatDoor
