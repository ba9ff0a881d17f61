/-
  No cell of these rows narrows 'for every input' (looked for: loops, veiled, ifaces, maps, wideKeys, modest, calm, conditions, laid).
  DERIVED. THE GIVEN ROWS OF THIS SEAT. 6 by the template 'for every input the law returns true; each argument reads behind the call as it read before'; 0 by the template 'total and deterministic' (their statements: YtmoackfjfklfaaaTotals.lean).
  GIVEN WITH THE SEED: the statements are not yours to turn. If you find one false, say at which input.
  Laid BY PROGRAM, IN A SANDBOX (cutbox-rows.mjs): the forced cells as the released guide's own fill.sh prints them over the translation 9eeb6f99be84188a… (all of the seat's roots in one cut). By AI agents, Wed Nov 11 2026. No macro, syntax, notation, axiom, sorry.
-/
import Derived.Test.YtmoackfjfklfaaaChecked
import GoSem.Claim
import GoSem.ClaimJoined
import GoSem.ClaimMapViews
import Derived.JoinedTies
import Derived.KernelRfl
namespace Go.Proofs.Ytmoackfjfklfaaa
/- THE CELL 'sum', in the pinned program and in every row, IS THE sha256 OF THE DUMP (.gsa) THAT YtmoackfjfklfaaaProg.lean LOADS. Nothing in Lean hashes anything: it is a label: what it is worth is what the hold of that sum in a sandbox is worth. -/
noncomputable def Try.pinned : Pinned := { name := "ytmoackfjfklfaaa", sum := "9eeb6f99be84188afe2383106f797bcb2f66e83655b32fe93d417affe131822c", checked := Try.checked }
namespace Rows
def none {H : Type} : Left H := { results := [], args := [] }

/-- 'ferrymanlaw11.KeepLost': WHATEVER THE INPUT: true; the input reads as it did. -/
def keepLostSpec : ChangeSpec := { name := "keepLost", fn := fun _ => fun
  | [d1, d2, d3] => { results := [.lit (.bool true)], args := [d1, d2, d3] }
  | _ => none }
def keepLostRow : OpenClaim := { program := "ytmoackfjfklfaaa", sum := "9eeb6f99be84188afe2383106f797bcb2f66e83655b32fe93d417affe131822c", func := "ferryman/ferrymanlaw11.KeepLost", spec := "keepLost", unfollowed := true, recurses := true, apart := false }
def KeepLostSaid : Prop := keepLostRow.holds Try.pinned (OpenSpec.ofChange keepLostSpec)

/-- ITS FALSE NEIGHBOUR: 'it returns false'. Refute it at one input. -/
def keepLostWrong : ChangeSpec := { name := "keepLost", fn := fun _ => fun
  | [d1, d2, d3] => { results := [.lit (.bool false)], args := [d1, d2, d3] }
  | _ => none }
def KeepLostWrongFalsely : Prop := keepLostRow.holds Try.pinned (OpenSpec.ofChange keepLostWrong)

/-- 'ferrymanlaw11.KeepLeft': WHATEVER THE INPUT: true; the input reads as it did. -/
def keepLeftSpec : ChangeSpec := { name := "keepLeft", fn := fun _ => fun
  | [d1, d2] => { results := [.lit (.bool true)], args := [d1, d2] }
  | _ => none }
def keepLeftRow : OpenClaim := { program := "ytmoackfjfklfaaa", sum := "9eeb6f99be84188afe2383106f797bcb2f66e83655b32fe93d417affe131822c", func := "ferryman/ferrymanlaw11.KeepLeft", spec := "keepLeft", unfollowed := true, recurses := true, apart := false }
def KeepLeftSaid : Prop := keepLeftRow.holds Try.pinned (OpenSpec.ofChange keepLeftSpec)

/-- ITS FALSE NEIGHBOUR: 'it returns false'. Refute it at one input. -/
def keepLeftWrong : ChangeSpec := { name := "keepLeft", fn := fun _ => fun
  | [d1, d2] => { results := [.lit (.bool false)], args := [d1, d2] }
  | _ => none }
def KeepLeftWrongFalsely : Prop := keepLeftRow.holds Try.pinned (OpenSpec.ofChange keepLeftWrong)

/-- 'ferrymanlaw11.KeepMore': WHATEVER THE INPUT: true; the input reads as it did. -/
def keepMoreSpec : ChangeSpec := { name := "keepMore", fn := fun _ => fun
  | [d1, d2, d3] => { results := [.lit (.bool true)], args := [d1, d2, d3] }
  | _ => none }
def keepMoreRow : OpenClaim := { program := "ytmoackfjfklfaaa", sum := "9eeb6f99be84188afe2383106f797bcb2f66e83655b32fe93d417affe131822c", func := "ferryman/ferrymanlaw11.KeepMore", spec := "keepMore", unfollowed := true, recurses := true, apart := false }
def KeepMoreSaid : Prop := keepMoreRow.holds Try.pinned (OpenSpec.ofChange keepMoreSpec)

/-- ITS FALSE NEIGHBOUR: 'it returns false'. Refute it at one input. -/
def keepMoreWrong : ChangeSpec := { name := "keepMore", fn := fun _ => fun
  | [d1, d2, d3] => { results := [.lit (.bool false)], args := [d1, d2, d3] }
  | _ => none }
def KeepMoreWrongFalsely : Prop := keepMoreRow.holds Try.pinned (OpenSpec.ofChange keepMoreWrong)

/-- 'ferrymanlaw11.KeepSteps': WHATEVER THE INPUT: true; the input reads as it did. -/
def keepStepsSpec : ChangeSpec := { name := "keepSteps", fn := fun _ => fun
  | [d1, d2, d3] => { results := [.lit (.bool true)], args := [d1, d2, d3] }
  | _ => none }
def keepStepsRow : OpenClaim := { program := "ytmoackfjfklfaaa", sum := "9eeb6f99be84188afe2383106f797bcb2f66e83655b32fe93d417affe131822c", func := "ferryman/ferrymanlaw11.KeepSteps", spec := "keepSteps", unfollowed := true, recurses := true, apart := false }
def KeepStepsSaid : Prop := keepStepsRow.holds Try.pinned (OpenSpec.ofChange keepStepsSpec)

/-- ITS FALSE NEIGHBOUR: 'it returns false'. Refute it at one input. -/
def keepStepsWrong : ChangeSpec := { name := "keepSteps", fn := fun _ => fun
  | [d1, d2, d3] => { results := [.lit (.bool false)], args := [d1, d2, d3] }
  | _ => none }
def KeepStepsWrongFalsely : Prop := keepStepsRow.holds Try.pinned (OpenSpec.ofChange keepStepsWrong)

/-- 'ferrymanlaw11.KeepNames': WHATEVER THE INPUT: true; the input reads as it did. -/
def keepNamesSpec : ChangeSpec := { name := "keepNames", fn := fun _ => fun
  | [] => { results := [.lit (.bool true)], args := [] }
  | _ => none }
def keepNamesRow : OpenClaim := { program := "ytmoackfjfklfaaa", sum := "9eeb6f99be84188afe2383106f797bcb2f66e83655b32fe93d417affe131822c", func := "ferryman/ferrymanlaw11.KeepNames", spec := "keepNames", unfollowed := true, recurses := true, apart := false }
def KeepNamesSaid : Prop := keepNamesRow.holds Try.pinned (OpenSpec.ofChange keepNamesSpec)

/-- ITS FALSE NEIGHBOUR: 'it returns false'. Refute it at one input. -/
def keepNamesWrong : ChangeSpec := { name := "keepNames", fn := fun _ => fun
  | [] => { results := [.lit (.bool false)], args := [] }
  | _ => none }
def KeepNamesWrongFalsely : Prop := keepNamesRow.holds Try.pinned (OpenSpec.ofChange keepNamesWrong)

/-- 'ferrymanlaw11.KeepTells': WHATEVER THE INPUT: true; the input reads as it did. -/
def keepTellsSpec : ChangeSpec := { name := "keepTells", fn := fun _ => fun
  | [d1, d2, d3] => { results := [.lit (.bool true)], args := [d1, d2, d3] }
  | _ => none }
def keepTellsRow : OpenClaim := { program := "ytmoackfjfklfaaa", sum := "9eeb6f99be84188afe2383106f797bcb2f66e83655b32fe93d417affe131822c", func := "ferryman/ferrymanlaw11.KeepTells", spec := "keepTells", unfollowed := true, recurses := true, apart := false }
def KeepTellsSaid : Prop := keepTellsRow.holds Try.pinned (OpenSpec.ofChange keepTellsSpec)

/-- ITS FALSE NEIGHBOUR: 'it returns false'. Refute it at one input. -/
def keepTellsWrong : ChangeSpec := { name := "keepTells", fn := fun _ => fun
  | [d1, d2, d3] => { results := [.lit (.bool false)], args := [d1, d2, d3] }
  | _ => none }
def KeepTellsWrongFalsely : Prop := keepTellsRow.holds Try.pinned (OpenSpec.ofChange keepTellsWrong)

/- THE SECOND FORM. 'bulk': how many values and letters a reading holds, each counted each time it is reached (what is shared counts as often as it is met; a slice's spare places count too). A statement '..UptoSaid' is the law's where the arguments, and the package variables that the reading takes, are together of bulk at most 1048576: NARROWER than '..Said'. Prove '..Said' where nothing that the law and all that it calls make is longer than what came in: it says more and counts as full. Else prove '..UptoSaid'. A law counts once. -/
mutual
def uptoBulk {H : Type} : DataW H → Nat
  | .lit (.string bytes) => bytes.length + 1
  | .lit _ => 1
  | .nil => 1
  | .ptr d => uptoBulk d + 1
  | .slice elems spare => uptoBulkAll elems + uptoBulkAll spare + 1
  | .agg parts => uptoBulkAll parts + 1
  | .iface _ d => uptoBulk d + 1
  | .map entries => uptoBulkEntries entries + 1
  | .held _ => 1
def uptoBulkAll {H : Type} : List (DataW H) → Nat
  | [] => 0
  | d :: r => uptoBulk d + uptoBulkAll r
def uptoBulkEntries {H : Type} : List (Lit × DataW H) → Nat
  | [] => 0
  | x :: r => uptoBulkEntry x + uptoBulkEntries r
def uptoBulkEntry {H : Type} : Lit × DataW H → Nat
  | (.string bytes, d) => bytes.length + uptoBulk d + 1
  | (_, d) => uptoBulk d + 1
 end
def uptoSmall : (H : Type) → List (DataW H) → Bool := fun _ ds => decide (uptoBulkAll ds ≤ 1048576)
def OpenSpec.upto (s : _root_.Go.ChangeSpec) : _root_.Go.OpenSpec := { _root_.Go.OpenSpec.ofChange s with cond := some uptoSmall }

/-- 'ferrymanlaw11.KeepLost', WHERE WHAT IT READS IS OF BULK AT MOST 1048576: true; the input reads as it did. -/
def keepLostUptoRow : OpenClaim := { program := "ytmoackfjfklfaaa", sum := "9eeb6f99be84188afe2383106f797bcb2f66e83655b32fe93d417affe131822c", func := "ferryman/ferrymanlaw11.KeepLost", spec := "keepLost", unfollowed := true, recurses := true, apart := false, narrowed := true }
def KeepLostUptoSaid : Prop := keepLostUptoRow.holds Try.pinned (OpenSpec.upto keepLostSpec)

/-- 'ferrymanlaw11.KeepLeft', WHERE WHAT IT READS IS OF BULK AT MOST 1048576: true; the input reads as it did. -/
def keepLeftUptoRow : OpenClaim := { program := "ytmoackfjfklfaaa", sum := "9eeb6f99be84188afe2383106f797bcb2f66e83655b32fe93d417affe131822c", func := "ferryman/ferrymanlaw11.KeepLeft", spec := "keepLeft", unfollowed := true, recurses := true, apart := false, narrowed := true }
def KeepLeftUptoSaid : Prop := keepLeftUptoRow.holds Try.pinned (OpenSpec.upto keepLeftSpec)

/-- 'ferrymanlaw11.KeepMore', WHERE WHAT IT READS IS OF BULK AT MOST 1048576: true; the input reads as it did. -/
def keepMoreUptoRow : OpenClaim := { program := "ytmoackfjfklfaaa", sum := "9eeb6f99be84188afe2383106f797bcb2f66e83655b32fe93d417affe131822c", func := "ferryman/ferrymanlaw11.KeepMore", spec := "keepMore", unfollowed := true, recurses := true, apart := false, narrowed := true }
def KeepMoreUptoSaid : Prop := keepMoreUptoRow.holds Try.pinned (OpenSpec.upto keepMoreSpec)

/-- 'ferrymanlaw11.KeepSteps', WHERE WHAT IT READS IS OF BULK AT MOST 1048576: true; the input reads as it did. -/
def keepStepsUptoRow : OpenClaim := { program := "ytmoackfjfklfaaa", sum := "9eeb6f99be84188afe2383106f797bcb2f66e83655b32fe93d417affe131822c", func := "ferryman/ferrymanlaw11.KeepSteps", spec := "keepSteps", unfollowed := true, recurses := true, apart := false, narrowed := true }
def KeepStepsUptoSaid : Prop := keepStepsUptoRow.holds Try.pinned (OpenSpec.upto keepStepsSpec)

/-- 'ferrymanlaw11.KeepNames', WHERE WHAT IT READS IS OF BULK AT MOST 1048576: true; the input reads as it did. -/
def keepNamesUptoRow : OpenClaim := { program := "ytmoackfjfklfaaa", sum := "9eeb6f99be84188afe2383106f797bcb2f66e83655b32fe93d417affe131822c", func := "ferryman/ferrymanlaw11.KeepNames", spec := "keepNames", unfollowed := true, recurses := true, apart := false, narrowed := true }
def KeepNamesUptoSaid : Prop := keepNamesUptoRow.holds Try.pinned (OpenSpec.upto keepNamesSpec)

/-- 'ferrymanlaw11.KeepTells', WHERE WHAT IT READS IS OF BULK AT MOST 1048576: true; the input reads as it did. -/
def keepTellsUptoRow : OpenClaim := { program := "ytmoackfjfklfaaa", sum := "9eeb6f99be84188afe2383106f797bcb2f66e83655b32fe93d417affe131822c", func := "ferryman/ferrymanlaw11.KeepTells", spec := "keepTells", unfollowed := true, recurses := true, apart := false, narrowed := true }
def KeepTellsUptoSaid : Prop := keepTellsUptoRow.holds Try.pinned (OpenSpec.upto keepTellsSpec)

end Rows
end Go.Proofs.Ytmoackfjfklfaaa
