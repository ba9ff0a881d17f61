/-
  DERIVED. GIVEN WITH THE SEED: THE CARDS: each row of YtnjbjpaiepefoaaDoorRows.lean that lists a variable, with what it lists TIED to the program's text (the seventh form; the later family's looks); each row that meets fmt, with fmt's text TOLD by the authors' own Lean function (tested against real Go, not proved from fmt's source: count such statements apart). THE CARD IS WHAT COUNTS. Prove the row's statement (the work); the ties are given (YtnjbjpaiepefoaaDoorTie.lean); close each card by the builder's one call (the guide's Derived/Test/ToyasCard.lean, 'card_holds'). Laid BY PROGRAM, IN A SANDBOX (cutbox-door.mjs). By AI agents, Wed Nov 11 2026. No macro, syntax, notation, axiom, sorry.
-/
import Derived.Test.YtnjbjpaiepefoaaDoorRows
import GoSem.ClaimSeven
namespace Go.Proofs.YtnjbjpaiepefoaaDoor
namespace Rows

/-- THE TIED CARD OF 'ferrymanlaw28.ReplayFits'. -/
def replayFitsCard : Claim7 := { stood := { row := replayFitsRow, standIns := [], harness := (true, "5de67cd261801eb75172567f34929df6682a7cb18c80bb1a555d6bfc7d34c10e"), looks := true }, kinds := [], alts := [], laidByText := true, laidKinds := [.funcs, .funcs], laidTests := true, laidLooks := .later }
def ReplayFitsCardSaid : Prop := Claim7.holds Tryd.pinned (.plain (OpenSpec.ofChange replayFitsSpec)) replayFitsCard

/-- THE TIED CARD OF 'ferrymanlaw28.ReplayOne'. -/
def replayOneCard : Claim7 := { stood := { row := replayOneRow, standIns := [], harness := (true, "5de67cd261801eb75172567f34929df6682a7cb18c80bb1a555d6bfc7d34c10e"), looks := true }, kinds := [], alts := [], laidByText := true, laidKinds := [.funcs, .funcs], laidTests := true, laidLooks := .later }
def ReplayOneCardSaid : Prop := Claim7.holds Tryd.pinned (.plain (OpenSpec.ofChange replayOneSpec)) replayOneCard

/-- THE TIED CARD OF 'ferrymanlaw28.ReplayBare'. -/
def replayBareCard : Claim7 := { stood := { row := replayBareRow, standIns := [], harness := (true, "5de67cd261801eb75172567f34929df6682a7cb18c80bb1a555d6bfc7d34c10e"), looks := true }, kinds := [], alts := [], laidByText := true, laidKinds := [.funcs, .funcs], laidTests := true, laidLooks := .later }
def ReplayBareCardSaid : Prop := Claim7.holds Tryd.pinned (.plain (OpenSpec.ofChange replayBareSpec)) replayBareCard

/-- THE TIED CARD OF 'ferrymanlaw28.ReplayNames'. -/
def replayNamesCard : Claim7 := { stood := { row := replayNamesRow, standIns := [], harness := (true, "5de67cd261801eb75172567f34929df6682a7cb18c80bb1a555d6bfc7d34c10e"), looks := true }, kinds := [], alts := [], laidByText := true, laidKinds := [.funcs, .funcs], laidTests := true, laidLooks := .later }
def ReplayNamesCardSaid : Prop := Claim7.holds Tryd.pinned (.plain (OpenSpec.ofChange replayNamesSpec)) replayNamesCard

/-- THE TIED CARD OF 'ferrymanlaw28.ReplayMade'. -/
def replayMadeCard : Claim7 := { stood := { row := replayMadeRow, standIns := [], harness := (true, "5de67cd261801eb75172567f34929df6682a7cb18c80bb1a555d6bfc7d34c10e"), looks := true }, kinds := [], alts := [], laidByText := true, laidKinds := [.funcs, .funcs], laidTests := true, laidLooks := .later }
def ReplayMadeCardSaid : Prop := Claim7.holds Tryd.pinned (.plain (OpenSpec.ofChange replayMadeSpec)) replayMadeCard

/-- THE SECOND FORM's CARD OF 'ferrymanlaw28.ReplayFits'. -/
def replayFitsUptoCard : Claim7 := { stood := { row := replayFitsUptoRow, standIns := [], harness := (true, "5de67cd261801eb75172567f34929df6682a7cb18c80bb1a555d6bfc7d34c10e"), looks := true }, kinds := [], alts := [], laidByText := true, laidKinds := [.funcs, .funcs], laidTests := true, laidLooks := .later }
def ReplayFitsUptoCardSaid : Prop := Claim7.holds Tryd.pinned (.plain (OpenSpec.upto replayFitsSpec)) replayFitsUptoCard

/-- THE SECOND FORM's CARD OF 'ferrymanlaw28.ReplayOne'. -/
def replayOneUptoCard : Claim7 := { stood := { row := replayOneUptoRow, standIns := [], harness := (true, "5de67cd261801eb75172567f34929df6682a7cb18c80bb1a555d6bfc7d34c10e"), looks := true }, kinds := [], alts := [], laidByText := true, laidKinds := [.funcs, .funcs], laidTests := true, laidLooks := .later }
def ReplayOneUptoCardSaid : Prop := Claim7.holds Tryd.pinned (.plain (OpenSpec.upto replayOneSpec)) replayOneUptoCard

/-- THE SECOND FORM's CARD OF 'ferrymanlaw28.ReplayBare'. -/
def replayBareUptoCard : Claim7 := { stood := { row := replayBareUptoRow, standIns := [], harness := (true, "5de67cd261801eb75172567f34929df6682a7cb18c80bb1a555d6bfc7d34c10e"), looks := true }, kinds := [], alts := [], laidByText := true, laidKinds := [.funcs, .funcs], laidTests := true, laidLooks := .later }
def ReplayBareUptoCardSaid : Prop := Claim7.holds Tryd.pinned (.plain (OpenSpec.upto replayBareSpec)) replayBareUptoCard

/-- THE SECOND FORM's CARD OF 'ferrymanlaw28.ReplayNames'. -/
def replayNamesUptoCard : Claim7 := { stood := { row := replayNamesUptoRow, standIns := [], harness := (true, "5de67cd261801eb75172567f34929df6682a7cb18c80bb1a555d6bfc7d34c10e"), looks := true }, kinds := [], alts := [], laidByText := true, laidKinds := [.funcs, .funcs], laidTests := true, laidLooks := .later }
def ReplayNamesUptoCardSaid : Prop := Claim7.holds Tryd.pinned (.plain (OpenSpec.upto replayNamesSpec)) replayNamesUptoCard

/-- THE SECOND FORM's CARD OF 'ferrymanlaw28.ReplayMade'. -/
def replayMadeUptoCard : Claim7 := { stood := { row := replayMadeUptoRow, standIns := [], harness := (true, "5de67cd261801eb75172567f34929df6682a7cb18c80bb1a555d6bfc7d34c10e"), looks := true }, kinds := [], alts := [], laidByText := true, laidKinds := [.funcs, .funcs], laidTests := true, laidLooks := .later }
def ReplayMadeUptoCardSaid : Prop := Claim7.holds Tryd.pinned (.plain (OpenSpec.upto replayMadeSpec)) replayMadeUptoCard
end Rows
end Go.Proofs.YtnjbjpaiepefoaaDoor
