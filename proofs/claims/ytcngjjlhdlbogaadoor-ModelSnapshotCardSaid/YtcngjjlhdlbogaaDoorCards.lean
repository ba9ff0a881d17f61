/-
  DERIVED. GIVEN WITH THE SEED: THE CARDS: each row of YtcngjjlhdlbogaaDoorRows.lean that lists a variable, with what it lists TIED to the program's text (the seventh form; the later family's looks); each row that meets fmt, with fmt's text TOLD by the authors' own Lean function (tested against real Go, not proved from fmt's source: count such statements apart). THE CARD IS WHAT COUNTS. Prove the row's statement (the work); the ties are given (YtcngjjlhdlbogaaDoorTie.lean); close each card by the builder's one call (the guide's Derived/Test/ToyasCard.lean, 'card_holds'). Laid BY PROGRAM, IN A SANDBOX (cutbox-door.mjs). By AI agents, Wed Nov 11 2026. No macro, syntax, notation, axiom, sorry.
-/
import Derived.Test.YtcngjjlhdlbogaaDoorRows
import GoSem.ClaimSeven
namespace Go.Proofs.YtcngjjlhdlbogaaDoor
namespace Rows

/-- THE TIED CARD OF 'ferrymanlaw16.ModelSnapshot'. -/
def modelSnapshotCard : Claim7 := { stood := { row := modelSnapshotRow, standIns := [], harness := (true, "7c4b62a3dc433218a7948d2223e3b2038ee4aea3fcffa94ebb689130c94172b9"), looks := true }, kinds := [], alts := [], laidByText := true, laidKinds := [.funcs], laidTests := true, laidLooks := .later }
def ModelSnapshotCardSaid : Prop := Claim7.holds Tryd.pinned (.plain (OpenSpec.ofChange modelSnapshotSpec)) modelSnapshotCard

/-- THE TIED CARD OF 'ferrymanlaw16.ModelFirst'. -/
def modelFirstCard : Claim7 := { stood := { row := modelFirstRow, standIns := [], harness := (true, "7c4b62a3dc433218a7948d2223e3b2038ee4aea3fcffa94ebb689130c94172b9"), looks := true }, kinds := [], alts := [], laidByText := true, laidKinds := [.funcs], laidTests := true, laidLooks := .later }
def ModelFirstCardSaid : Prop := Claim7.holds Tryd.pinned (.plain (OpenSpec.ofChange modelFirstSpec)) modelFirstCard

/-- THE TIED CARD OF 'ferrymanlaw16.ModelVacuums'. -/
def modelVacuumsCard : Claim7 := { stood := { row := modelVacuumsRow, standIns := [], harness := (true, "7c4b62a3dc433218a7948d2223e3b2038ee4aea3fcffa94ebb689130c94172b9"), looks := true }, kinds := [], alts := [], laidByText := true, laidKinds := [.funcs], laidTests := true, laidLooks := .later }
def ModelVacuumsCardSaid : Prop := Claim7.holds Tryd.pinned (.plain (OpenSpec.ofChange modelVacuumsSpec)) modelVacuumsCard

/-- THE TIED CARD OF 'ferrymanlaw16.ModelNames'. -/
def modelNamesCard : Claim7 := { stood := { row := modelNamesRow, standIns := [], harness := (true, "7c4b62a3dc433218a7948d2223e3b2038ee4aea3fcffa94ebb689130c94172b9"), looks := true }, kinds := [], alts := [], laidByText := true, laidKinds := [.funcs], laidTests := true, laidLooks := .later }
def ModelNamesCardSaid : Prop := Claim7.holds Tryd.pinned (.plain (OpenSpec.ofChange modelNamesSpec)) modelNamesCard

/-- THE TIED CARD OF 'ferrymanlaw16.ModelTasks'. -/
def modelTasksCard : Claim7 := { stood := { row := modelTasksRow, standIns := [], harness := (true, "7c4b62a3dc433218a7948d2223e3b2038ee4aea3fcffa94ebb689130c94172b9"), looks := true }, kinds := [], alts := [], laidByText := true, laidKinds := [.funcs], laidTests := true, laidLooks := .later }
def ModelTasksCardSaid : Prop := Claim7.holds Tryd.pinned (.plain (OpenSpec.ofChange modelTasksSpec)) modelTasksCard

/-- THE TIED CARD OF 'ferrymanlaw16.ModelCopies'. -/
def modelCopiesCard : Claim7 := { stood := { row := modelCopiesRow, standIns := [], harness := (true, "7c4b62a3dc433218a7948d2223e3b2038ee4aea3fcffa94ebb689130c94172b9"), looks := true }, kinds := [], alts := [], laidByText := true, laidKinds := [.funcs], laidTests := true, laidLooks := .later }
def ModelCopiesCardSaid : Prop := Claim7.holds Tryd.pinned (.plain (OpenSpec.ofChange modelCopiesSpec)) modelCopiesCard

/-- THE TIED CARD OF 'ferrymanlaw16.ModelPlays'. -/
def modelPlaysCard : Claim7 := { stood := { row := modelPlaysRow, standIns := [], harness := (true, "7c4b62a3dc433218a7948d2223e3b2038ee4aea3fcffa94ebb689130c94172b9"), looks := true }, kinds := [], alts := [], laidByText := true, laidKinds := [.funcs], laidTests := true, laidLooks := .later }
def ModelPlaysCardSaid : Prop := Claim7.holds Tryd.pinned (.plain (OpenSpec.ofChange modelPlaysSpec)) modelPlaysCard

/-- THE TIED CARD OF 'ferrymanlaw16.ModelMany'. -/
def modelManyCard : Claim7 := { stood := { row := modelManyRow, standIns := [], harness := (true, "7c4b62a3dc433218a7948d2223e3b2038ee4aea3fcffa94ebb689130c94172b9"), looks := true }, kinds := [], alts := [], laidByText := true, laidKinds := [.funcs], laidTests := true, laidLooks := .later }
def ModelManyCardSaid : Prop := Claim7.holds Tryd.pinned (.plain (OpenSpec.ofChange modelManySpec)) modelManyCard

/-- THE SECOND FORM's CARD OF 'ferrymanlaw16.ModelSnapshot'. -/
def modelSnapshotUptoCard : Claim7 := { stood := { row := modelSnapshotUptoRow, standIns := [], harness := (true, "7c4b62a3dc433218a7948d2223e3b2038ee4aea3fcffa94ebb689130c94172b9"), looks := true }, kinds := [], alts := [], laidByText := true, laidKinds := [.funcs], laidTests := true, laidLooks := .later }
def ModelSnapshotUptoCardSaid : Prop := Claim7.holds Tryd.pinned (.plain (OpenSpec.upto modelSnapshotSpec)) modelSnapshotUptoCard

/-- THE SECOND FORM's CARD OF 'ferrymanlaw16.ModelFirst'. -/
def modelFirstUptoCard : Claim7 := { stood := { row := modelFirstUptoRow, standIns := [], harness := (true, "7c4b62a3dc433218a7948d2223e3b2038ee4aea3fcffa94ebb689130c94172b9"), looks := true }, kinds := [], alts := [], laidByText := true, laidKinds := [.funcs], laidTests := true, laidLooks := .later }
def ModelFirstUptoCardSaid : Prop := Claim7.holds Tryd.pinned (.plain (OpenSpec.upto modelFirstSpec)) modelFirstUptoCard

/-- THE SECOND FORM's CARD OF 'ferrymanlaw16.ModelVacuums'. -/
def modelVacuumsUptoCard : Claim7 := { stood := { row := modelVacuumsUptoRow, standIns := [], harness := (true, "7c4b62a3dc433218a7948d2223e3b2038ee4aea3fcffa94ebb689130c94172b9"), looks := true }, kinds := [], alts := [], laidByText := true, laidKinds := [.funcs], laidTests := true, laidLooks := .later }
def ModelVacuumsUptoCardSaid : Prop := Claim7.holds Tryd.pinned (.plain (OpenSpec.upto modelVacuumsSpec)) modelVacuumsUptoCard

/-- THE SECOND FORM's CARD OF 'ferrymanlaw16.ModelNames'. -/
def modelNamesUptoCard : Claim7 := { stood := { row := modelNamesUptoRow, standIns := [], harness := (true, "7c4b62a3dc433218a7948d2223e3b2038ee4aea3fcffa94ebb689130c94172b9"), looks := true }, kinds := [], alts := [], laidByText := true, laidKinds := [.funcs], laidTests := true, laidLooks := .later }
def ModelNamesUptoCardSaid : Prop := Claim7.holds Tryd.pinned (.plain (OpenSpec.upto modelNamesSpec)) modelNamesUptoCard

/-- THE SECOND FORM's CARD OF 'ferrymanlaw16.ModelTasks'. -/
def modelTasksUptoCard : Claim7 := { stood := { row := modelTasksUptoRow, standIns := [], harness := (true, "7c4b62a3dc433218a7948d2223e3b2038ee4aea3fcffa94ebb689130c94172b9"), looks := true }, kinds := [], alts := [], laidByText := true, laidKinds := [.funcs], laidTests := true, laidLooks := .later }
def ModelTasksUptoCardSaid : Prop := Claim7.holds Tryd.pinned (.plain (OpenSpec.upto modelTasksSpec)) modelTasksUptoCard

/-- THE SECOND FORM's CARD OF 'ferrymanlaw16.ModelCopies'. -/
def modelCopiesUptoCard : Claim7 := { stood := { row := modelCopiesUptoRow, standIns := [], harness := (true, "7c4b62a3dc433218a7948d2223e3b2038ee4aea3fcffa94ebb689130c94172b9"), looks := true }, kinds := [], alts := [], laidByText := true, laidKinds := [.funcs], laidTests := true, laidLooks := .later }
def ModelCopiesUptoCardSaid : Prop := Claim7.holds Tryd.pinned (.plain (OpenSpec.upto modelCopiesSpec)) modelCopiesUptoCard

/-- THE SECOND FORM's CARD OF 'ferrymanlaw16.ModelPlays'. -/
def modelPlaysUptoCard : Claim7 := { stood := { row := modelPlaysUptoRow, standIns := [], harness := (true, "7c4b62a3dc433218a7948d2223e3b2038ee4aea3fcffa94ebb689130c94172b9"), looks := true }, kinds := [], alts := [], laidByText := true, laidKinds := [.funcs], laidTests := true, laidLooks := .later }
def ModelPlaysUptoCardSaid : Prop := Claim7.holds Tryd.pinned (.plain (OpenSpec.upto modelPlaysSpec)) modelPlaysUptoCard

/-- THE SECOND FORM's CARD OF 'ferrymanlaw16.ModelMany'. -/
def modelManyUptoCard : Claim7 := { stood := { row := modelManyUptoRow, standIns := [], harness := (true, "7c4b62a3dc433218a7948d2223e3b2038ee4aea3fcffa94ebb689130c94172b9"), looks := true }, kinds := [], alts := [], laidByText := true, laidKinds := [.funcs], laidTests := true, laidLooks := .later }
def ModelManyUptoCardSaid : Prop := Claim7.holds Tryd.pinned (.plain (OpenSpec.upto modelManySpec)) modelManyUptoCard
end Rows
end Go.Proofs.YtcngjjlhdlbogaaDoor
