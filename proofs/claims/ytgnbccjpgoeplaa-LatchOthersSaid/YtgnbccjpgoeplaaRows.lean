/-
  No cell of these rows narrows 'for every input' (looked for: loops, veiled, ifaces, maps, wideKeys, modest, calm, conditions, laid).
  DERIVED. THE GIVEN ROWS OF THIS SEAT. 6 by the template 'for every input the law returns true; each argument reads behind the call as it read before'; 0 by the template 'total and deterministic' (their statements: YtgnbccjpgoeplaaTotals.lean).
  GIVEN WITH THE SEED: the statements are not yours to turn. If you find one false, say at which input.
  Laid BY PROGRAM, IN A SANDBOX (cutbox-rows.mjs): the forced cells as the released guide's own fill.sh prints them over the translation f65ba5d33eb091a9… (all of the seat's roots in one cut). By AI agents, Wed Nov 11 2026. No macro, syntax, notation, axiom, sorry.
-/
import Derived.Test.YtgnbccjpgoeplaaChecked
import GoSem.Claim
import GoSem.ClaimJoined
import GoSem.ClaimMapViews
import Derived.JoinedTies
import Derived.KernelRfl
namespace Go.Proofs.Ytgnbccjpgoeplaa
/- THE CELL 'sum', in the pinned program and in every row, IS THE sha256 OF THE DUMP (.gsa) THAT YtgnbccjpgoeplaaProg.lean LOADS. Nothing in Lean hashes anything: it is a label: what it is worth is what the hold of that sum in a sandbox is worth. -/
noncomputable def Try.pinned : Pinned := { name := "ytgnbccjpgoeplaa", sum := "f65ba5d33eb091a9222a1ccb3ea7eeb531f7864522a024d62f4b0ba91831e024", checked := Try.checked }
namespace Rows
def none {H : Type} : Left H := { results := [], args := [] }

/-- 'ferrymanlaw05.LatchOne': WHATEVER THE INPUT: true; the input reads as it did. -/
def latchOneSpec : ChangeSpec := { name := "latchOne", fn := fun _ => fun
  | [d1, d2] => { results := [.lit (.bool true)], args := [d1, d2] }
  | _ => none }
def latchOneRow : OpenClaim := { program := "ytgnbccjpgoeplaa", sum := "f65ba5d33eb091a9222a1ccb3ea7eeb531f7864522a024d62f4b0ba91831e024", func := "ferryman/ferrymanlaw05.LatchOne", spec := "latchOne", unfollowed := true, recurses := true, plainKeys := false, apart := false }
def LatchOneSaid : Prop := latchOneRow.holds Try.pinned (OpenSpec.ofChange latchOneSpec)

/-- ITS FALSE NEIGHBOUR: 'it returns false'. Refute it at one input. -/
def latchOneWrong : ChangeSpec := { name := "latchOne", fn := fun _ => fun
  | [d1, d2] => { results := [.lit (.bool false)], args := [d1, d2] }
  | _ => none }
def LatchOneWrongFalsely : Prop := latchOneRow.holds Try.pinned (OpenSpec.ofChange latchOneWrong)

/-- 'ferrymanlaw05.LatchOthers': WHATEVER THE INPUT: true; the input reads as it did. -/
def latchOthersSpec : ChangeSpec := { name := "latchOthers", fn := fun _ => fun
  | [d1, d2] => { results := [.lit (.bool true)], args := [d1, d2] }
  | _ => none }
def latchOthersRow : OpenClaim := { program := "ytgnbccjpgoeplaa", sum := "f65ba5d33eb091a9222a1ccb3ea7eeb531f7864522a024d62f4b0ba91831e024", func := "ferryman/ferrymanlaw05.LatchOthers", spec := "latchOthers", unfollowed := true, recurses := true, plainKeys := false, apart := false }
def LatchOthersSaid : Prop := latchOthersRow.holds Try.pinned (OpenSpec.ofChange latchOthersSpec)

/-- ITS FALSE NEIGHBOUR: 'it returns false'. Refute it at one input. -/
def latchOthersWrong : ChangeSpec := { name := "latchOthers", fn := fun _ => fun
  | [d1, d2] => { results := [.lit (.bool false)], args := [d1, d2] }
  | _ => none }
def LatchOthersWrongFalsely : Prop := latchOthersRow.holds Try.pinned (OpenSpec.ofChange latchOthersWrong)

/-- 'ferrymanlaw05.LatchSums': WHATEVER THE INPUT: true; the input reads as it did. -/
def latchSumsSpec : ChangeSpec := { name := "latchSums", fn := fun _ => fun
  | [d] => { results := [.lit (.bool true)], args := [d] }
  | _ => none }
def latchSumsRow : OpenClaim := { program := "ytgnbccjpgoeplaa", sum := "f65ba5d33eb091a9222a1ccb3ea7eeb531f7864522a024d62f4b0ba91831e024", func := "ferryman/ferrymanlaw05.LatchSums", spec := "latchSums", unfollowed := true, recurses := true, plainKeys := false, apart := false }
def LatchSumsSaid : Prop := latchSumsRow.holds Try.pinned (OpenSpec.ofChange latchSumsSpec)

/-- ITS FALSE NEIGHBOUR: 'it returns false'. Refute it at one input. -/
def latchSumsWrong : ChangeSpec := { name := "latchSums", fn := fun _ => fun
  | [d] => { results := [.lit (.bool false)], args := [d] }
  | _ => none }
def LatchSumsWrongFalsely : Prop := latchSumsRow.holds Try.pinned (OpenSpec.ofChange latchSumsWrong)

/-- 'ferrymanlaw05.LatchNames': WHATEVER THE INPUT: true; the input reads as it did. -/
def latchNamesSpec : ChangeSpec := { name := "latchNames", fn := fun _ => fun
  | [] => { results := [.lit (.bool true)], args := [] }
  | _ => none }
def latchNamesRow : OpenClaim := { program := "ytgnbccjpgoeplaa", sum := "f65ba5d33eb091a9222a1ccb3ea7eeb531f7864522a024d62f4b0ba91831e024", func := "ferryman/ferrymanlaw05.LatchNames", spec := "latchNames", inPlace := ["maps.clone"], unfollowed := true, recurses := true, plainKeys := false, apart := false }
def LatchNamesSaid : Prop := latchNamesRow.holds Try.pinned (OpenSpec.ofChange latchNamesSpec)

/-- ITS FALSE NEIGHBOUR: 'it returns false'. Refute it at one input. -/
def latchNamesWrong : ChangeSpec := { name := "latchNames", fn := fun _ => fun
  | [] => { results := [.lit (.bool false)], args := [] }
  | _ => none }
def LatchNamesWrongFalsely : Prop := latchNamesRow.holds Try.pinned (OpenSpec.ofChange latchNamesWrong)

/-- 'ferrymanlaw05.LatchPlays': WHATEVER THE INPUT: true; the input reads as it did. -/
def latchPlaysSpec : ChangeSpec := { name := "latchPlays", fn := fun _ => fun
  | [d] => { results := [.lit (.bool true)], args := [d] }
  | _ => none }
def latchPlaysRow : OpenClaim := { program := "ytgnbccjpgoeplaa", sum := "f65ba5d33eb091a9222a1ccb3ea7eeb531f7864522a024d62f4b0ba91831e024", func := "ferryman/ferrymanlaw05.LatchPlays", spec := "latchPlays", inPlace := ["maps.clone"], unfollowed := true, recurses := true, plainKeys := false, apart := false }
def LatchPlaysSaid : Prop := latchPlaysRow.holds Try.pinned (OpenSpec.ofChange latchPlaysSpec)

/-- ITS FALSE NEIGHBOUR: 'it returns false'. Refute it at one input. -/
def latchPlaysWrong : ChangeSpec := { name := "latchPlays", fn := fun _ => fun
  | [d] => { results := [.lit (.bool false)], args := [d] }
  | _ => none }
def LatchPlaysWrongFalsely : Prop := latchPlaysRow.holds Try.pinned (OpenSpec.ofChange latchPlaysWrong)

/-- 'ferrymanlaw05.LatchCopies': WHATEVER THE INPUT: true; the input reads as it did. -/
def latchCopiesSpec : ChangeSpec := { name := "latchCopies", fn := fun _ => fun
  | [d1, d2, d3] => { results := [.lit (.bool true)], args := [d1, d2, d3] }
  | _ => none }
def latchCopiesRow : OpenClaim := { program := "ytgnbccjpgoeplaa", sum := "f65ba5d33eb091a9222a1ccb3ea7eeb531f7864522a024d62f4b0ba91831e024", func := "ferryman/ferrymanlaw05.LatchCopies", spec := "latchCopies", inPlace := ["maps.clone"], unfollowed := true, recurses := true, plainKeys := false, apart := false }
def LatchCopiesSaid : Prop := latchCopiesRow.holds Try.pinned (OpenSpec.ofChange latchCopiesSpec)

/-- ITS FALSE NEIGHBOUR: 'it returns false'. Refute it at one input. -/
def latchCopiesWrong : ChangeSpec := { name := "latchCopies", fn := fun _ => fun
  | [d1, d2, d3] => { results := [.lit (.bool false)], args := [d1, d2, d3] }
  | _ => none }
def LatchCopiesWrongFalsely : Prop := latchCopiesRow.holds Try.pinned (OpenSpec.ofChange latchCopiesWrong)

/- THE SECOND FORM. 'bulk': how many values and letters a reading holds, each counted each time it is reached (what is shared counts as often as it is met; a slice's spare places count too). A statement '..UptoSaid' is the law's where the arguments, and the package variables that the reading takes, are together of bulk at most 1048576: NARROWER than '..Said'. Prove '..Said' where nothing that the law and all that it calls make is longer than what came in: it says more and counts as full. Else prove '..UptoSaid'. A law counts once. -/
mutual
def uptoBulk {H : Type} : DataW H → Nat
  | .lit (.string bytes) => bytes.length + 1
  | .lit _ => 1
  | .nil => 1
  | .ptr d => uptoBulk d + 1
  | .slice elems spare => uptoBulkAll elems + uptoBulkAll spare + 1
  | .agg parts => uptoBulkAll parts + 1
  | .iface _ d => uptoBulk d + 1
  | .map entries => uptoBulkEntries entries + 1
  | .held _ => 1
def uptoBulkAll {H : Type} : List (DataW H) → Nat
  | [] => 0
  | d :: r => uptoBulk d + uptoBulkAll r
def uptoBulkEntries {H : Type} : List (Lit × DataW H) → Nat
  | [] => 0
  | x :: r => uptoBulkEntry x + uptoBulkEntries r
def uptoBulkEntry {H : Type} : Lit × DataW H → Nat
  | (.string bytes, d) => bytes.length + uptoBulk d + 1
  | (_, d) => uptoBulk d + 1
 end
def uptoSmall : (H : Type) → List (DataW H) → Bool := fun _ ds => decide (uptoBulkAll ds ≤ 1048576)
def OpenSpec.upto (s : _root_.Go.ChangeSpec) : _root_.Go.OpenSpec := { _root_.Go.OpenSpec.ofChange s with cond := some uptoSmall }

/-- 'ferrymanlaw05.LatchOne', WHERE WHAT IT READS IS OF BULK AT MOST 1048576: true; the input reads as it did. -/
def latchOneUptoRow : OpenClaim := { program := "ytgnbccjpgoeplaa", sum := "f65ba5d33eb091a9222a1ccb3ea7eeb531f7864522a024d62f4b0ba91831e024", func := "ferryman/ferrymanlaw05.LatchOne", spec := "latchOne", unfollowed := true, recurses := true, plainKeys := false, apart := false, narrowed := true }
def LatchOneUptoSaid : Prop := latchOneUptoRow.holds Try.pinned (OpenSpec.upto latchOneSpec)

/-- 'ferrymanlaw05.LatchOthers', WHERE WHAT IT READS IS OF BULK AT MOST 1048576: true; the input reads as it did. -/
def latchOthersUptoRow : OpenClaim := { program := "ytgnbccjpgoeplaa", sum := "f65ba5d33eb091a9222a1ccb3ea7eeb531f7864522a024d62f4b0ba91831e024", func := "ferryman/ferrymanlaw05.LatchOthers", spec := "latchOthers", unfollowed := true, recurses := true, plainKeys := false, apart := false, narrowed := true }
def LatchOthersUptoSaid : Prop := latchOthersUptoRow.holds Try.pinned (OpenSpec.upto latchOthersSpec)

/-- 'ferrymanlaw05.LatchSums', WHERE WHAT IT READS IS OF BULK AT MOST 1048576: true; the input reads as it did. -/
def latchSumsUptoRow : OpenClaim := { program := "ytgnbccjpgoeplaa", sum := "f65ba5d33eb091a9222a1ccb3ea7eeb531f7864522a024d62f4b0ba91831e024", func := "ferryman/ferrymanlaw05.LatchSums", spec := "latchSums", unfollowed := true, recurses := true, plainKeys := false, apart := false, narrowed := true }
def LatchSumsUptoSaid : Prop := latchSumsUptoRow.holds Try.pinned (OpenSpec.upto latchSumsSpec)

/-- 'ferrymanlaw05.LatchNames', WHERE WHAT IT READS IS OF BULK AT MOST 1048576: true; the input reads as it did. -/
def latchNamesUptoRow : OpenClaim := { program := "ytgnbccjpgoeplaa", sum := "f65ba5d33eb091a9222a1ccb3ea7eeb531f7864522a024d62f4b0ba91831e024", func := "ferryman/ferrymanlaw05.LatchNames", spec := "latchNames", inPlace := ["maps.clone"], unfollowed := true, recurses := true, plainKeys := false, apart := false, narrowed := true }
def LatchNamesUptoSaid : Prop := latchNamesUptoRow.holds Try.pinned (OpenSpec.upto latchNamesSpec)

/-- 'ferrymanlaw05.LatchPlays', WHERE WHAT IT READS IS OF BULK AT MOST 1048576: true; the input reads as it did. -/
def latchPlaysUptoRow : OpenClaim := { program := "ytgnbccjpgoeplaa", sum := "f65ba5d33eb091a9222a1ccb3ea7eeb531f7864522a024d62f4b0ba91831e024", func := "ferryman/ferrymanlaw05.LatchPlays", spec := "latchPlays", inPlace := ["maps.clone"], unfollowed := true, recurses := true, plainKeys := false, apart := false, narrowed := true }
def LatchPlaysUptoSaid : Prop := latchPlaysUptoRow.holds Try.pinned (OpenSpec.upto latchPlaysSpec)

/-- 'ferrymanlaw05.LatchCopies', WHERE WHAT IT READS IS OF BULK AT MOST 1048576: true; the input reads as it did. -/
def latchCopiesUptoRow : OpenClaim := { program := "ytgnbccjpgoeplaa", sum := "f65ba5d33eb091a9222a1ccb3ea7eeb531f7864522a024d62f4b0ba91831e024", func := "ferryman/ferrymanlaw05.LatchCopies", spec := "latchCopies", inPlace := ["maps.clone"], unfollowed := true, recurses := true, plainKeys := false, apart := false, narrowed := true }
def LatchCopiesUptoSaid : Prop := latchCopiesUptoRow.holds Try.pinned (OpenSpec.upto latchCopiesSpec)

end Rows
end Go.Proofs.Ytgnbccjpgoeplaa
