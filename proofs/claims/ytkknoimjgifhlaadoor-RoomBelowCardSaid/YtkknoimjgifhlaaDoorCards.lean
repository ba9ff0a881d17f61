/-
  DERIVED. GIVEN WITH THE SEED: THE CARDS: each row of YtkknoimjgifhlaaDoorRows.lean that lists a variable, with what it lists TIED to the program's text (the seventh form; the later family's looks); each row that meets fmt, with fmt's text TOLD by the authors' own Lean function (tested against real Go, not proved from fmt's source: count such statements apart). THE CARD IS WHAT COUNTS. Prove the row's statement (the work); the ties are given (YtkknoimjgifhlaaDoorTie.lean); close each card by the builder's one call (the guide's Derived/Test/ToyasCard.lean, 'card_holds'). Laid BY PROGRAM, IN A SANDBOX (cutbox-door.mjs). By AI agents, Wed Nov 11 2026. No macro, syntax, notation, axiom, sorry.
-/
import Derived.Test.YtkknoimjgifhlaaDoorRows
import GoSem.ClaimSeven
namespace Go.Proofs.YtkknoimjgifhlaaDoor
namespace Rows

/-- THE TIED CARD OF 'ferrymanlaw30.RoomNames'. -/
def roomNamesCard : Claim7 := { stood := { row := roomNamesRow, standIns := [], harness := (true, "71d9c753759b1b9d26a6e5a50e890dcb0a5a1679bfff6326daa03aee44eeaf56"), looks := false }, kinds := [], alts := [], laidByText := true, laidKinds := [.funcs, .funcs], laidTests := true, laidLooks := .later }
def RoomNamesCardSaid : Prop := Claim7.holds Tryd.pinned (.plain (OpenSpec.ofChange roomNamesSpec)) roomNamesCard

/-- THE TIED CARD OF 'ferrymanlaw30.RoomBelow'. -/
def roomBelowCard : Claim7 := { stood := { row := roomBelowRow, standIns := [], harness := (true, "71d9c753759b1b9d26a6e5a50e890dcb0a5a1679bfff6326daa03aee44eeaf56"), looks := false }, kinds := [], alts := [], laidByText := true, laidKinds := [.funcs, .funcs], laidTests := true, laidLooks := .later }
def RoomBelowCardSaid : Prop := Claim7.holds Tryd.pinned (.plain (OpenSpec.ofChange roomBelowSpec)) roomBelowCard

/-- THE TIED CARD OF 'ferrymanlaw30.RoomRests'. -/
def roomRestsCard : Claim7 := { stood := { row := roomRestsRow, standIns := [], harness := (true, "71d9c753759b1b9d26a6e5a50e890dcb0a5a1679bfff6326daa03aee44eeaf56"), looks := false }, kinds := [], alts := [], laidByText := true, laidKinds := [.funcs, .funcs], laidTests := true, laidLooks := .later }
def RoomRestsCardSaid : Prop := Claim7.holds Tryd.pinned (.plain (OpenSpec.ofChange roomRestsSpec)) roomRestsCard

/-- THE TIED CARD OF 'ferrymanlaw30.RoomEvents'. -/
def roomEventsCard : Claim7 := { stood := { row := roomEventsRow, standIns := [], harness := (true, "71d9c753759b1b9d26a6e5a50e890dcb0a5a1679bfff6326daa03aee44eeaf56"), looks := false }, kinds := [], alts := [], laidByText := true, laidKinds := [.funcs, .funcs], laidTests := true, laidLooks := .later }
def RoomEventsCardSaid : Prop := Claim7.holds Tryd.pinned (.plain (OpenSpec.ofChange roomEventsSpec)) roomEventsCard

/-- THE TIED CARD OF 'ferrymanlaw30.RoomLarger'. -/
def roomLargerCard : Claim7 := { stood := { row := roomLargerRow, standIns := [], harness := (true, "71d9c753759b1b9d26a6e5a50e890dcb0a5a1679bfff6326daa03aee44eeaf56"), looks := false }, kinds := [], alts := [], laidByText := true, laidKinds := [.funcs, .funcs], laidTests := true, laidLooks := .later }
def RoomLargerCardSaid : Prop := Claim7.holds Tryd.pinned (.plain (OpenSpec.ofChange roomLargerSpec)) roomLargerCard

/-- THE SECOND FORM's CARD OF 'ferrymanlaw30.RoomNames'. -/
def roomNamesUptoCard : Claim7 := { stood := { row := roomNamesUptoRow, standIns := [], harness := (true, "71d9c753759b1b9d26a6e5a50e890dcb0a5a1679bfff6326daa03aee44eeaf56"), looks := false }, kinds := [], alts := [], laidByText := true, laidKinds := [.funcs, .funcs], laidTests := true, laidLooks := .later }
def RoomNamesUptoCardSaid : Prop := Claim7.holds Tryd.pinned (.plain (OpenSpec.upto roomNamesSpec)) roomNamesUptoCard

/-- THE SECOND FORM's CARD OF 'ferrymanlaw30.RoomBelow'. -/
def roomBelowUptoCard : Claim7 := { stood := { row := roomBelowUptoRow, standIns := [], harness := (true, "71d9c753759b1b9d26a6e5a50e890dcb0a5a1679bfff6326daa03aee44eeaf56"), looks := false }, kinds := [], alts := [], laidByText := true, laidKinds := [.funcs, .funcs], laidTests := true, laidLooks := .later }
def RoomBelowUptoCardSaid : Prop := Claim7.holds Tryd.pinned (.plain (OpenSpec.upto roomBelowSpec)) roomBelowUptoCard

/-- THE SECOND FORM's CARD OF 'ferrymanlaw30.RoomRests'. -/
def roomRestsUptoCard : Claim7 := { stood := { row := roomRestsUptoRow, standIns := [], harness := (true, "71d9c753759b1b9d26a6e5a50e890dcb0a5a1679bfff6326daa03aee44eeaf56"), looks := false }, kinds := [], alts := [], laidByText := true, laidKinds := [.funcs, .funcs], laidTests := true, laidLooks := .later }
def RoomRestsUptoCardSaid : Prop := Claim7.holds Tryd.pinned (.plain (OpenSpec.upto roomRestsSpec)) roomRestsUptoCard

/-- THE SECOND FORM's CARD OF 'ferrymanlaw30.RoomEvents'. -/
def roomEventsUptoCard : Claim7 := { stood := { row := roomEventsUptoRow, standIns := [], harness := (true, "71d9c753759b1b9d26a6e5a50e890dcb0a5a1679bfff6326daa03aee44eeaf56"), looks := false }, kinds := [], alts := [], laidByText := true, laidKinds := [.funcs, .funcs], laidTests := true, laidLooks := .later }
def RoomEventsUptoCardSaid : Prop := Claim7.holds Tryd.pinned (.plain (OpenSpec.upto roomEventsSpec)) roomEventsUptoCard

/-- THE SECOND FORM's CARD OF 'ferrymanlaw30.RoomLarger'. -/
def roomLargerUptoCard : Claim7 := { stood := { row := roomLargerUptoRow, standIns := [], harness := (true, "71d9c753759b1b9d26a6e5a50e890dcb0a5a1679bfff6326daa03aee44eeaf56"), looks := false }, kinds := [], alts := [], laidByText := true, laidKinds := [.funcs, .funcs], laidTests := true, laidLooks := .later }
def RoomLargerUptoCardSaid : Prop := Claim7.holds Tryd.pinned (.plain (OpenSpec.upto roomLargerSpec)) roomLargerUptoCard
end Rows
end Go.Proofs.YtkknoimjgifhlaaDoor
