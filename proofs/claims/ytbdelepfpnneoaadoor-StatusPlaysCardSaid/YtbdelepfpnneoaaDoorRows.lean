/-
  NARROWER THAN 'FOR EVERY INPUT', by the rows' own cells (each row's printed sentence says how): StatusBusy: laid · StatusNames: laid · StatusPlays: laid · StatusRises: laid · StatusOthers: laid.
  DERIVED. THE GIVEN ROWS OF THIS SEAT. 5 by the template 'for every input the law returns true; each argument reads behind the call as it read before'; 0 by the template 'total and deterministic' (their statements: YtbdelepfpnneoaaDoorTotals.lean).
  GIVEN WITH THE SEED: the statements are not yours to turn. If you find one false, say at which input.
  Laid BY PROGRAM, IN A SANDBOX (cutbox-rows.mjs): the forced cells as the released guide's own fill.sh prints them over the translation d81777c2cf04be0e… (all of the seat's roots in one cut). By AI agents, Wed Nov 11 2026. No macro, syntax, notation, axiom, sorry.
-/
import Derived.Test.YtbdelepfpnneoaaDoorChecked
import GoSem.Claim
import GoSem.ClaimJoined
import GoSem.ClaimMapViews
import Derived.JoinedTies
import Derived.KernelRfl
namespace Go.Proofs.YtbdelepfpnneoaaDoor
/- THE CELL 'sum', in the pinned program and in every row, IS THE sha256 OF THE DUMP (.gsa) THAT YtbdelepfpnneoaaDoorProg.lean LOADS. Nothing in Lean hashes anything: it is a label: what it is worth is what the hold of that sum in a sandbox is worth. -/
noncomputable def Tryd.pinned : Pinned := { name := "ytbdelepfpnneoaadoor", sum := "d81777c2cf04be0e9ba797b7757c2a749c0df7c45a1d0ac4a264d4fa28aab3b7", checked := Tryd.checked }
namespace Rows
def none {H : Type} : Left H := { results := [], args := [] }

/- WHAT THE LISTED PACKAGE-LEVEL VARIABLES READ AS WHEN THE CALL BEGINS. Each datum BY PROGRAM (the guide's laid-datum.mjs) off the statement by which the dump's own 'gosem.cut.vars' lays the variable. In a bare row this is a premise. The card (YtbdelepfpnneoaaDoorCards.lean) ties it to the program's text. -/
def laid_ferryman_status_before {H : Type} : DataW H := .agg [.lit (.int .u8 0), .lit (.int .u8 0), .lit (.int .u8 1), .lit (.int .u8 1), .lit (.int .u8 2)]

/-- 'ferrymanlaw08.StatusBusy': WHATEVER THE INPUT: true; the input reads as it did. -/
def statusBusySpec : ChangeSpec := { name := "statusBusy", fn := fun _ => fun
  | [d] => { results := [.lit (.bool true)], args := [d] }
  | _ => none }
def statusBusyRow : OpenClaim := { program := "ytbdelepfpnneoaadoor", sum := "d81777c2cf04be0e9ba797b7757c2a749c0df7c45a1d0ac4a264d4fa28aab3b7", func := "ferryman/ferrymanlaw08.StatusBusy", spec := "statusBusy", unfollowed := true, recurses := true, named := ["ferryman/status.before"], apart := false, laid := [("ferryman/status.before", laid_ferryman_status_before)] }
def StatusBusySaid : Prop := statusBusyRow.holds Tryd.pinned (OpenSpec.ofChange statusBusySpec)

/-- ITS FALSE NEIGHBOUR: 'it returns false'. Refute it at one input. -/
def statusBusyWrong : ChangeSpec := { name := "statusBusy", fn := fun _ => fun
  | [d] => { results := [.lit (.bool false)], args := [d] }
  | _ => none }
def StatusBusyWrongFalsely : Prop := statusBusyRow.holds Tryd.pinned (OpenSpec.ofChange statusBusyWrong)

/-- 'ferrymanlaw08.StatusNames': WHATEVER THE INPUT: true; the input reads as it did. -/
def statusNamesSpec : ChangeSpec := { name := "statusNames", fn := fun _ => fun
  | [] => { results := [.lit (.bool true)], args := [] }
  | _ => none }
def statusNamesRow : OpenClaim := { program := "ytbdelepfpnneoaadoor", sum := "d81777c2cf04be0e9ba797b7757c2a749c0df7c45a1d0ac4a264d4fa28aab3b7", func := "ferryman/ferrymanlaw08.StatusNames", spec := "statusNames", unfollowed := true, recurses := true, named := ["ferryman/status.before"], apart := false, laid := [("ferryman/status.before", laid_ferryman_status_before)] }
def StatusNamesSaid : Prop := statusNamesRow.holds Tryd.pinned (OpenSpec.ofChange statusNamesSpec)

/-- ITS FALSE NEIGHBOUR: 'it returns false'. Refute it at one input. -/
def statusNamesWrong : ChangeSpec := { name := "statusNames", fn := fun _ => fun
  | [] => { results := [.lit (.bool false)], args := [] }
  | _ => none }
def StatusNamesWrongFalsely : Prop := statusNamesRow.holds Tryd.pinned (OpenSpec.ofChange statusNamesWrong)

/-- 'ferrymanlaw08.StatusPlays': WHATEVER THE INPUT: true; the input reads as it did. -/
def statusPlaysSpec : ChangeSpec := { name := "statusPlays", fn := fun _ => fun
  | [d] => { results := [.lit (.bool true)], args := [d] }
  | _ => none }
def statusPlaysRow : OpenClaim := { program := "ytbdelepfpnneoaadoor", sum := "d81777c2cf04be0e9ba797b7757c2a749c0df7c45a1d0ac4a264d4fa28aab3b7", func := "ferryman/ferrymanlaw08.StatusPlays", spec := "statusPlays", unfollowed := true, recurses := true, named := ["ferryman/status.before"], apart := false, laid := [("ferryman/status.before", laid_ferryman_status_before)] }
def StatusPlaysSaid : Prop := statusPlaysRow.holds Tryd.pinned (OpenSpec.ofChange statusPlaysSpec)

/-- ITS FALSE NEIGHBOUR: 'it returns false'. Refute it at one input. -/
def statusPlaysWrong : ChangeSpec := { name := "statusPlays", fn := fun _ => fun
  | [d] => { results := [.lit (.bool false)], args := [d] }
  | _ => none }
def StatusPlaysWrongFalsely : Prop := statusPlaysRow.holds Tryd.pinned (OpenSpec.ofChange statusPlaysWrong)

/-- 'ferrymanlaw08.StatusRises': WHATEVER THE INPUT: true; the input reads as it did. -/
def statusRisesSpec : ChangeSpec := { name := "statusRises", fn := fun _ => fun
  | [d] => { results := [.lit (.bool true)], args := [d] }
  | _ => none }
def statusRisesRow : OpenClaim := { program := "ytbdelepfpnneoaadoor", sum := "d81777c2cf04be0e9ba797b7757c2a749c0df7c45a1d0ac4a264d4fa28aab3b7", func := "ferryman/ferrymanlaw08.StatusRises", spec := "statusRises", unfollowed := true, recurses := true, named := ["ferryman/status.before"], apart := false, laid := [("ferryman/status.before", laid_ferryman_status_before)] }
def StatusRisesSaid : Prop := statusRisesRow.holds Tryd.pinned (OpenSpec.ofChange statusRisesSpec)

/-- ITS FALSE NEIGHBOUR: 'it returns false'. Refute it at one input. -/
def statusRisesWrong : ChangeSpec := { name := "statusRises", fn := fun _ => fun
  | [d] => { results := [.lit (.bool false)], args := [d] }
  | _ => none }
def StatusRisesWrongFalsely : Prop := statusRisesRow.holds Tryd.pinned (OpenSpec.ofChange statusRisesWrong)

/-- 'ferrymanlaw08.StatusOthers': WHATEVER THE INPUT: true; the input reads as it did. -/
def statusOthersSpec : ChangeSpec := { name := "statusOthers", fn := fun _ => fun
  | [d1, d2] => { results := [.lit (.bool true)], args := [d1, d2] }
  | _ => none }
def statusOthersRow : OpenClaim := { program := "ytbdelepfpnneoaadoor", sum := "d81777c2cf04be0e9ba797b7757c2a749c0df7c45a1d0ac4a264d4fa28aab3b7", func := "ferryman/ferrymanlaw08.StatusOthers", spec := "statusOthers", unfollowed := true, recurses := true, named := ["ferryman/status.before"], apart := false, laid := [("ferryman/status.before", laid_ferryman_status_before)] }
def StatusOthersSaid : Prop := statusOthersRow.holds Tryd.pinned (OpenSpec.ofChange statusOthersSpec)

/-- ITS FALSE NEIGHBOUR: 'it returns false'. Refute it at one input. -/
def statusOthersWrong : ChangeSpec := { name := "statusOthers", fn := fun _ => fun
  | [d1, d2] => { results := [.lit (.bool false)], args := [d1, d2] }
  | _ => none }
def StatusOthersWrongFalsely : Prop := statusOthersRow.holds Tryd.pinned (OpenSpec.ofChange statusOthersWrong)

/- THE SECOND FORM. 'bulk': how many values and letters a reading holds, each counted each time it is reached (what is shared counts as often as it is met; a slice's spare places count too). A statement '..UptoSaid' is the law's where the arguments, and the package variables that the reading takes, are together of bulk at most 1048576: NARROWER than '..Said'. Prove '..Said' where nothing that the law and all that it calls make is longer than what came in: it says more and counts as full. Else prove '..UptoSaid'. A law counts once. -/
mutual
def uptoBulk {H : Type} : DataW H → Nat
  | .lit (.string bytes) => bytes.length + 1
  | .lit _ => 1
  | .nil => 1
  | .ptr d => uptoBulk d + 1
  | .slice elems spare => uptoBulkAll elems + uptoBulkAll spare + 1
  | .agg parts => uptoBulkAll parts + 1
  | .iface _ d => uptoBulk d + 1
  | .map entries => uptoBulkEntries entries + 1
  | .held _ => 1
def uptoBulkAll {H : Type} : List (DataW H) → Nat
  | [] => 0
  | d :: r => uptoBulk d + uptoBulkAll r
def uptoBulkEntries {H : Type} : List (Lit × DataW H) → Nat
  | [] => 0
  | x :: r => uptoBulkEntry x + uptoBulkEntries r
def uptoBulkEntry {H : Type} : Lit × DataW H → Nat
  | (.string bytes, d) => bytes.length + uptoBulk d + 1
  | (_, d) => uptoBulk d + 1
 end
def uptoSmall : (H : Type) → List (DataW H) → Bool := fun _ ds => decide (uptoBulkAll ds ≤ 1048576)
def OpenSpec.upto (s : _root_.Go.ChangeSpec) : _root_.Go.OpenSpec := { _root_.Go.OpenSpec.ofChange s with cond := some uptoSmall }

/-- 'ferrymanlaw08.StatusBusy', WHERE WHAT IT READS IS OF BULK AT MOST 1048576: true; the input reads as it did. -/
def statusBusyUptoRow : OpenClaim := { program := "ytbdelepfpnneoaadoor", sum := "d81777c2cf04be0e9ba797b7757c2a749c0df7c45a1d0ac4a264d4fa28aab3b7", func := "ferryman/ferrymanlaw08.StatusBusy", spec := "statusBusy", unfollowed := true, recurses := true, named := ["ferryman/status.before"], apart := false, laid := [("ferryman/status.before", laid_ferryman_status_before)], narrowed := true }
def StatusBusyUptoSaid : Prop := statusBusyUptoRow.holds Tryd.pinned (OpenSpec.upto statusBusySpec)

/-- 'ferrymanlaw08.StatusNames', WHERE WHAT IT READS IS OF BULK AT MOST 1048576: true; the input reads as it did. -/
def statusNamesUptoRow : OpenClaim := { program := "ytbdelepfpnneoaadoor", sum := "d81777c2cf04be0e9ba797b7757c2a749c0df7c45a1d0ac4a264d4fa28aab3b7", func := "ferryman/ferrymanlaw08.StatusNames", spec := "statusNames", unfollowed := true, recurses := true, named := ["ferryman/status.before"], apart := false, laid := [("ferryman/status.before", laid_ferryman_status_before)], narrowed := true }
def StatusNamesUptoSaid : Prop := statusNamesUptoRow.holds Tryd.pinned (OpenSpec.upto statusNamesSpec)

/-- 'ferrymanlaw08.StatusPlays', WHERE WHAT IT READS IS OF BULK AT MOST 1048576: true; the input reads as it did. -/
def statusPlaysUptoRow : OpenClaim := { program := "ytbdelepfpnneoaadoor", sum := "d81777c2cf04be0e9ba797b7757c2a749c0df7c45a1d0ac4a264d4fa28aab3b7", func := "ferryman/ferrymanlaw08.StatusPlays", spec := "statusPlays", unfollowed := true, recurses := true, named := ["ferryman/status.before"], apart := false, laid := [("ferryman/status.before", laid_ferryman_status_before)], narrowed := true }
def StatusPlaysUptoSaid : Prop := statusPlaysUptoRow.holds Tryd.pinned (OpenSpec.upto statusPlaysSpec)

/-- 'ferrymanlaw08.StatusRises', WHERE WHAT IT READS IS OF BULK AT MOST 1048576: true; the input reads as it did. -/
def statusRisesUptoRow : OpenClaim := { program := "ytbdelepfpnneoaadoor", sum := "d81777c2cf04be0e9ba797b7757c2a749c0df7c45a1d0ac4a264d4fa28aab3b7", func := "ferryman/ferrymanlaw08.StatusRises", spec := "statusRises", unfollowed := true, recurses := true, named := ["ferryman/status.before"], apart := false, laid := [("ferryman/status.before", laid_ferryman_status_before)], narrowed := true }
def StatusRisesUptoSaid : Prop := statusRisesUptoRow.holds Tryd.pinned (OpenSpec.upto statusRisesSpec)

/-- 'ferrymanlaw08.StatusOthers', WHERE WHAT IT READS IS OF BULK AT MOST 1048576: true; the input reads as it did. -/
def statusOthersUptoRow : OpenClaim := { program := "ytbdelepfpnneoaadoor", sum := "d81777c2cf04be0e9ba797b7757c2a749c0df7c45a1d0ac4a264d4fa28aab3b7", func := "ferryman/ferrymanlaw08.StatusOthers", spec := "statusOthers", unfollowed := true, recurses := true, named := ["ferryman/status.before"], apart := false, laid := [("ferryman/status.before", laid_ferryman_status_before)], narrowed := true }
def StatusOthersUptoSaid : Prop := statusOthersUptoRow.holds Tryd.pinned (OpenSpec.upto statusOthersSpec)

end Rows
end Go.Proofs.YtbdelepfpnneoaaDoor
