/-
  DERIVED. GIVEN WITH THE SEED: THE CARDS: each row of YtbdelepfpnneoaaDoorRows.lean that lists a variable, with what it lists TIED to the program's text (the seventh form; the later family's looks); each row that meets fmt, with fmt's text TOLD by the authors' own Lean function (tested against real Go, not proved from fmt's source: count such statements apart). THE CARD IS WHAT COUNTS. Prove the row's statement (the work); the ties are given (YtbdelepfpnneoaaDoorTie.lean); close each card by the builder's one call (the guide's Derived/Test/ToyasCard.lean, 'card_holds'). Laid BY PROGRAM, IN A SANDBOX (cutbox-door.mjs). By AI agents, Wed Nov 11 2026. No macro, syntax, notation, axiom, sorry.
-/
import Derived.Test.YtbdelepfpnneoaaDoorRows
import GoSem.ClaimSeven
namespace Go.Proofs.YtbdelepfpnneoaaDoor
namespace Rows

/-- THE TIED CARD OF 'ferrymanlaw08.StatusBusy'. -/
def statusBusyCard : Claim7 := { stood := { row := statusBusyRow, standIns := [], harness := (true, "4241d7c6fa54462a6213aaa3f43af2d92295d3c4f7091f930cc8cff0cd5e961a"), looks := false }, kinds := [], alts := [], laidByText := true, laidKinds := [.data], laidTests := true, laidLooks := .later }
def StatusBusyCardSaid : Prop := Claim7.holds Tryd.pinned (.plain (OpenSpec.ofChange statusBusySpec)) statusBusyCard

/-- THE TIED CARD OF 'ferrymanlaw08.StatusNames'. -/
def statusNamesCard : Claim7 := { stood := { row := statusNamesRow, standIns := [], harness := (true, "4241d7c6fa54462a6213aaa3f43af2d92295d3c4f7091f930cc8cff0cd5e961a"), looks := false }, kinds := [], alts := [], laidByText := true, laidKinds := [.data], laidTests := true, laidLooks := .later }
def StatusNamesCardSaid : Prop := Claim7.holds Tryd.pinned (.plain (OpenSpec.ofChange statusNamesSpec)) statusNamesCard

/-- THE TIED CARD OF 'ferrymanlaw08.StatusPlays'. -/
def statusPlaysCard : Claim7 := { stood := { row := statusPlaysRow, standIns := [], harness := (true, "4241d7c6fa54462a6213aaa3f43af2d92295d3c4f7091f930cc8cff0cd5e961a"), looks := false }, kinds := [], alts := [], laidByText := true, laidKinds := [.data], laidTests := true, laidLooks := .later }
def StatusPlaysCardSaid : Prop := Claim7.holds Tryd.pinned (.plain (OpenSpec.ofChange statusPlaysSpec)) statusPlaysCard

/-- THE TIED CARD OF 'ferrymanlaw08.StatusRises'. -/
def statusRisesCard : Claim7 := { stood := { row := statusRisesRow, standIns := [], harness := (true, "4241d7c6fa54462a6213aaa3f43af2d92295d3c4f7091f930cc8cff0cd5e961a"), looks := false }, kinds := [], alts := [], laidByText := true, laidKinds := [.data], laidTests := true, laidLooks := .later }
def StatusRisesCardSaid : Prop := Claim7.holds Tryd.pinned (.plain (OpenSpec.ofChange statusRisesSpec)) statusRisesCard

/-- THE TIED CARD OF 'ferrymanlaw08.StatusOthers'. -/
def statusOthersCard : Claim7 := { stood := { row := statusOthersRow, standIns := [], harness := (true, "4241d7c6fa54462a6213aaa3f43af2d92295d3c4f7091f930cc8cff0cd5e961a"), looks := false }, kinds := [], alts := [], laidByText := true, laidKinds := [.data], laidTests := true, laidLooks := .later }
def StatusOthersCardSaid : Prop := Claim7.holds Tryd.pinned (.plain (OpenSpec.ofChange statusOthersSpec)) statusOthersCard

/-- THE SECOND FORM's CARD OF 'ferrymanlaw08.StatusBusy'. -/
def statusBusyUptoCard : Claim7 := { stood := { row := statusBusyUptoRow, standIns := [], harness := (true, "4241d7c6fa54462a6213aaa3f43af2d92295d3c4f7091f930cc8cff0cd5e961a"), looks := false }, kinds := [], alts := [], laidByText := true, laidKinds := [.data], laidTests := true, laidLooks := .later }
def StatusBusyUptoCardSaid : Prop := Claim7.holds Tryd.pinned (.plain (OpenSpec.upto statusBusySpec)) statusBusyUptoCard

/-- THE SECOND FORM's CARD OF 'ferrymanlaw08.StatusNames'. -/
def statusNamesUptoCard : Claim7 := { stood := { row := statusNamesUptoRow, standIns := [], harness := (true, "4241d7c6fa54462a6213aaa3f43af2d92295d3c4f7091f930cc8cff0cd5e961a"), looks := false }, kinds := [], alts := [], laidByText := true, laidKinds := [.data], laidTests := true, laidLooks := .later }
def StatusNamesUptoCardSaid : Prop := Claim7.holds Tryd.pinned (.plain (OpenSpec.upto statusNamesSpec)) statusNamesUptoCard

/-- THE SECOND FORM's CARD OF 'ferrymanlaw08.StatusPlays'. -/
def statusPlaysUptoCard : Claim7 := { stood := { row := statusPlaysUptoRow, standIns := [], harness := (true, "4241d7c6fa54462a6213aaa3f43af2d92295d3c4f7091f930cc8cff0cd5e961a"), looks := false }, kinds := [], alts := [], laidByText := true, laidKinds := [.data], laidTests := true, laidLooks := .later }
def StatusPlaysUptoCardSaid : Prop := Claim7.holds Tryd.pinned (.plain (OpenSpec.upto statusPlaysSpec)) statusPlaysUptoCard

/-- THE SECOND FORM's CARD OF 'ferrymanlaw08.StatusRises'. -/
def statusRisesUptoCard : Claim7 := { stood := { row := statusRisesUptoRow, standIns := [], harness := (true, "4241d7c6fa54462a6213aaa3f43af2d92295d3c4f7091f930cc8cff0cd5e961a"), looks := false }, kinds := [], alts := [], laidByText := true, laidKinds := [.data], laidTests := true, laidLooks := .later }
def StatusRisesUptoCardSaid : Prop := Claim7.holds Tryd.pinned (.plain (OpenSpec.upto statusRisesSpec)) statusRisesUptoCard

/-- THE SECOND FORM's CARD OF 'ferrymanlaw08.StatusOthers'. -/
def statusOthersUptoCard : Claim7 := { stood := { row := statusOthersUptoRow, standIns := [], harness := (true, "4241d7c6fa54462a6213aaa3f43af2d92295d3c4f7091f930cc8cff0cd5e961a"), looks := false }, kinds := [], alts := [], laidByText := true, laidKinds := [.data], laidTests := true, laidLooks := .later }
def StatusOthersUptoCardSaid : Prop := Claim7.holds Tryd.pinned (.plain (OpenSpec.upto statusOthersSpec)) statusOthersUptoCard
end Rows
end Go.Proofs.YtbdelepfpnneoaaDoor
