/-
  NARROWER THAN 'FOR EVERY INPUT', by the rows' own cells (each row's printed sentence says how): ReplayTells: laid.
  DERIVED. THE GIVEN ROWS OF THIS SEAT. 1 by the template 'for every input the law returns true; each argument reads behind the call as it read before'; 0 by the template 'total and deterministic' (their statements: YtnjbjpaiepefoaaGreatDoorTotals.lean).
  GIVEN WITH THE SEED: the statements are not yours to turn. If you find one false, say at which input.
  Laid BY PROGRAM, IN A SANDBOX (cutbox-rows.mjs): the forced cells as the released guide's own fill.sh prints them over the translation 7b794616b2ea731f… (all of the seat's roots in one cut). By AI agents, Wed Nov 11 2026. No macro, syntax, notation, axiom, sorry.
-/
import Derived.Test.YtnjbjpaiepefoaaGreatDoorChecked
import GoSem.Claim
import GoSem.ClaimJoined
import GoSem.ClaimMapViews
import Derived.JoinedTies
import Derived.KernelRfl
namespace Go.Proofs.YtnjbjpaiepefoaaGreatDoor
/- THE CELL 'sum', in the pinned program and in every row, IS THE sha256 OF THE DUMP (.gsa) THAT YtnjbjpaiepefoaaGreatDoorProg.lean LOADS. Nothing in Lean hashes anything: it is a label: what it is worth is what the hold of that sum in a sandbox is worth. -/
noncomputable def Tryz.pinned : Pinned := { name := "ytnjbjpaiepefoaagreatdoor", sum := "7b794616b2ea731f73eec6e724220f982f3efc5520c76b318c95535886118eed", checked := Tryz.checked }
namespace Rows
def none {H : Type} : Left H := { results := [], args := [] }

/- WHAT THE LISTED PACKAGE-LEVEL VARIABLES READ AS WHEN THE CALL BEGINS. Each datum BY PROGRAM (the guide's laid-datum.mjs) off the statement by which the dump's own 'gosem.cut.vars' lays the variable. In a bare row this is a premise. The card (YtnjbjpaiepefoaaGreatDoorCards.lean) ties it to the program's text. -/
def laid_ferryman_model_does {H : Type} : DataW H := .iface "func table" (.agg [.nil, .iface "func" (.lit (.string [40, 42, 102, 101, 114, 114, 121, 109, 97, 110, 47, 109, 111, 100, 101, 108, 46, 77, 111, 100, 101, 108, 41, 46, 98, 101, 103, 105, 110])), .iface "func" (.lit (.string [40, 42, 102, 101, 114, 114, 121, 109, 97, 110, 47, 109, 111, 100, 101, 108, 46, 77, 111, 100, 101, 108, 41, 46, 103, 101, 116])), .iface "func" (.lit (.string [40, 42, 102, 101, 114, 114, 121, 109, 97, 110, 47, 109, 111, 100, 101, 108, 46, 77, 111, 100, 101, 108, 41, 46, 112, 117, 116])), .iface "func" (.lit (.string [40, 42, 102, 101, 114, 114, 121, 109, 97, 110, 47, 109, 111, 100, 101, 108, 46, 77, 111, 100, 101, 108, 41, 46, 100, 101, 108])), .iface "func" (.lit (.string [40, 42, 102, 101, 114, 114, 121, 109, 97, 110, 47, 109, 111, 100, 101, 108, 46, 77, 111, 100, 101, 108, 41, 46, 115, 99, 97, 110])), .iface "func" (.lit (.string [40, 42, 102, 101, 114, 114, 121, 109, 97, 110, 47, 109, 111, 100, 101, 108, 46, 77, 111, 100, 101, 108, 41, 46, 99, 111, 109, 109, 105, 116])), .iface "func" (.lit (.string [40, 42, 102, 101, 114, 114, 121, 109, 97, 110, 47, 109, 111, 100, 101, 108, 46, 77, 111, 100, 101, 108, 41, 46, 97, 98, 111, 114, 116])), .iface "func" (.lit (.string [40, 42, 102, 101, 114, 114, 121, 109, 97, 110, 47, 109, 111, 100, 101, 108, 46, 77, 111, 100, 101, 108, 41, 46, 118, 97, 99, 117, 117, 109])), .iface "func" (.lit (.string [40, 42, 102, 101, 114, 114, 121, 109, 97, 110, 47, 109, 111, 100, 101, 108, 46, 77, 111, 100, 101, 108, 41, 46, 109, 105, 103, 114, 97, 116, 101]))])
def laid_ferryman_replay_steps {H : Type} : DataW H := .iface "func table" (.agg [.nil, .iface "func" (.lit (.string [102, 101, 114, 114, 121, 109, 97, 110, 47, 114, 101, 112, 108, 97, 121, 46, 115, 116, 101, 112, 115, 36, 49])), .iface "func" (.lit (.string [102, 101, 114, 114, 121, 109, 97, 110, 47, 114, 101, 112, 108, 97, 121, 46, 115, 116, 101, 112, 115, 36, 50])), .iface "func" (.lit (.string [102, 101, 114, 114, 121, 109, 97, 110, 47, 114, 101, 112, 108, 97, 121, 46, 115, 116, 101, 112, 115, 36, 51]))])

/-- 'ferrymanlaw28.ReplayTells': WHATEVER THE INPUT: true; the input reads as it did. -/
def replayTellsSpec : ChangeSpec := { name := "replayTells", fn := fun _ => fun
  | [d1, d2, d3] => { results := [.lit (.bool true)], args := [d1, d2, d3] }
  | _ => none }
def replayTellsRow : OpenClaim := { program := "ytnjbjpaiepefoaagreatdoor", sum := "7b794616b2ea731f73eec6e724220f982f3efc5520c76b318c95535886118eed", func := "ferryman/ferrymanlaw28.ReplayTells", spec := "replayTells", inPlace := ["maps.clone", "internal/bytealg.abigen_runtime_cmpstring"], unfollowed := true, recurses := true, named := ["ferryman/replay.steps", "ferryman/model.does"], plainKeys := false, apart := false, laid := [("ferryman/model.does", laid_ferryman_model_does), ("ferryman/replay.steps", laid_ferryman_replay_steps)] }
def ReplayTellsSaid : Prop := replayTellsRow.holds Tryz.pinned (OpenSpec.ofChange replayTellsSpec)

/-- ITS FALSE NEIGHBOUR: 'it returns false'. Refute it at one input. -/
def replayTellsWrong : ChangeSpec := { name := "replayTells", fn := fun _ => fun
  | [d1, d2, d3] => { results := [.lit (.bool false)], args := [d1, d2, d3] }
  | _ => none }
def ReplayTellsWrongFalsely : Prop := replayTellsRow.holds Tryz.pinned (OpenSpec.ofChange replayTellsWrong)

/- THE SECOND FORM. 'bulk': how many values and letters a reading holds, each counted each time it is reached (what is shared counts as often as it is met; a slice's spare places count too). A statement '..UptoSaid' is the law's where the arguments, and the package variables that the reading takes, are together of bulk at most 1048576: NARROWER than '..Said'. Prove '..Said' where nothing that the law and all that it calls make is longer than what came in: it says more and counts as full. Else prove '..UptoSaid'. A law counts once. -/
mutual
def uptoBulk {H : Type} : DataW H → Nat
  | .lit (.string bytes) => bytes.length + 1
  | .lit _ => 1
  | .nil => 1
  | .ptr d => uptoBulk d + 1
  | .slice elems spare => uptoBulkAll elems + uptoBulkAll spare + 1
  | .agg parts => uptoBulkAll parts + 1
  | .iface _ d => uptoBulk d + 1
  | .map entries => uptoBulkEntries entries + 1
  | .held _ => 1
def uptoBulkAll {H : Type} : List (DataW H) → Nat
  | [] => 0
  | d :: r => uptoBulk d + uptoBulkAll r
def uptoBulkEntries {H : Type} : List (Lit × DataW H) → Nat
  | [] => 0
  | x :: r => uptoBulkEntry x + uptoBulkEntries r
def uptoBulkEntry {H : Type} : Lit × DataW H → Nat
  | (.string bytes, d) => bytes.length + uptoBulk d + 1
  | (_, d) => uptoBulk d + 1
 end
def uptoSmall : (H : Type) → List (DataW H) → Bool := fun _ ds => decide (uptoBulkAll ds ≤ 1048576)
def OpenSpec.upto (s : _root_.Go.ChangeSpec) : _root_.Go.OpenSpec := { _root_.Go.OpenSpec.ofChange s with cond := some uptoSmall }

/-- 'ferrymanlaw28.ReplayTells', WHERE WHAT IT READS IS OF BULK AT MOST 1048576: true; the input reads as it did. -/
def replayTellsUptoRow : OpenClaim := { program := "ytnjbjpaiepefoaagreatdoor", sum := "7b794616b2ea731f73eec6e724220f982f3efc5520c76b318c95535886118eed", func := "ferryman/ferrymanlaw28.ReplayTells", spec := "replayTells", inPlace := ["maps.clone", "internal/bytealg.abigen_runtime_cmpstring"], unfollowed := true, recurses := true, named := ["ferryman/replay.steps", "ferryman/model.does"], plainKeys := false, apart := false, laid := [("ferryman/model.does", laid_ferryman_model_does), ("ferryman/replay.steps", laid_ferryman_replay_steps)], narrowed := true }
def ReplayTellsUptoSaid : Prop := replayTellsUptoRow.holds Tryz.pinned (OpenSpec.upto replayTellsSpec)

end Rows
end Go.Proofs.YtnjbjpaiepefoaaGreatDoor
