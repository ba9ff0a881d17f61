/-
  No cell of these rows narrows 'for every input' (looked for: loops, veiled, ifaces, maps, wideKeys, modest, calm, conditions, laid).
  DERIVED. THE GIVEN ROWS OF THIS SEAT. 6 by the template 'for every input the law returns true; each argument reads behind the call as it read before'; 0 by the template 'total and deterministic' (their statements: YtdommjjhfplcaaaTotals.lean).
  GIVEN WITH THE SEED: the statements are not yours to turn. If you find one false, say at which input.
  Laid BY PROGRAM, IN A SANDBOX (cutbox-rows.mjs): the forced cells as the released guide's own fill.sh prints them over the translation ca52b1fe6579ea82… (all of the seat's roots in one cut). By AI agents, Wed Nov 11 2026. No macro, syntax, notation, axiom, sorry.
-/
import Derived.Test.YtdommjjhfplcaaaChecked
import GoSem.Claim
import GoSem.ClaimJoined
import GoSem.ClaimMapViews
import Derived.JoinedTies
import Derived.KernelRfl
namespace Go.Proofs.Ytdommjjhfplcaaa
/- THE CELL 'sum', in the pinned program and in every row, IS THE sha256 OF THE DUMP (.gsa) THAT YtdommjjhfplcaaaProg.lean LOADS. Nothing in Lean hashes anything: it is a label: what it is worth is what the hold of that sum in a sandbox is worth. -/
noncomputable def Try.pinned : Pinned := { name := "ytdommjjhfplcaaa", sum := "ca52b1fe6579ea8290f272b847bdc467802f254e68ef9eb271c1af11eb013646", checked := Try.checked }
namespace Rows
def none {H : Type} : Left H := { results := [], args := [] }

/-- 'ferrymanlaw13.ForkPlaces': WHATEVER THE INPUT: true; the input reads as it did. -/
def forkPlacesSpec : ChangeSpec := { name := "forkPlaces", fn := fun _ => fun
  | [d1, d2] => { results := [.lit (.bool true)], args := [d1, d2] }
  | _ => none }
def forkPlacesRow : OpenClaim := { program := "ytdommjjhfplcaaa", sum := "ca52b1fe6579ea8290f272b847bdc467802f254e68ef9eb271c1af11eb013646", func := "ferryman/ferrymanlaw13.ForkPlaces", spec := "forkPlaces", inPlace := ["internal/bytealg.abigen_runtime_cmpstring"], unfollowed := true, recurses := true, apart := false }
def ForkPlacesSaid : Prop := forkPlacesRow.holds Try.pinned (OpenSpec.ofChange forkPlacesSpec)

/-- ITS FALSE NEIGHBOUR: 'it returns false'. Refute it at one input. -/
def forkPlacesWrong : ChangeSpec := { name := "forkPlaces", fn := fun _ => fun
  | [d1, d2] => { results := [.lit (.bool false)], args := [d1, d2] }
  | _ => none }
def ForkPlacesWrongFalsely : Prop := forkPlacesRow.holds Try.pinned (OpenSpec.ofChange forkPlacesWrong)

/-- 'ferrymanlaw13.ForkHalves': WHATEVER THE INPUT: true; the input reads as it did. -/
def forkHalvesSpec : ChangeSpec := { name := "forkHalves", fn := fun _ => fun
  | [d1, d2] => { results := [.lit (.bool true)], args := [d1, d2] }
  | _ => none }
def forkHalvesRow : OpenClaim := { program := "ytdommjjhfplcaaa", sum := "ca52b1fe6579ea8290f272b847bdc467802f254e68ef9eb271c1af11eb013646", func := "ferryman/ferrymanlaw13.ForkHalves", spec := "forkHalves", inPlace := ["internal/bytealg.abigen_runtime_cmpstring"], unfollowed := true, recurses := true, apart := false }
def ForkHalvesSaid : Prop := forkHalvesRow.holds Try.pinned (OpenSpec.ofChange forkHalvesSpec)

/-- ITS FALSE NEIGHBOUR: 'it returns false'. Refute it at one input. -/
def forkHalvesWrong : ChangeSpec := { name := "forkHalves", fn := fun _ => fun
  | [d1, d2] => { results := [.lit (.bool false)], args := [d1, d2] }
  | _ => none }
def ForkHalvesWrongFalsely : Prop := forkHalvesRow.holds Try.pinned (OpenSpec.ofChange forkHalvesWrong)

/-- 'ferrymanlaw13.ForkBack': WHATEVER THE INPUT: true; the input reads as it did. -/
def forkBackSpec : ChangeSpec := { name := "forkBack", fn := fun _ => fun
  | [d1, d2, d3, d4] => { results := [.lit (.bool true)], args := [d1, d2, d3, d4] }
  | _ => none }
def forkBackRow : OpenClaim := { program := "ytdommjjhfplcaaa", sum := "ca52b1fe6579ea8290f272b847bdc467802f254e68ef9eb271c1af11eb013646", func := "ferryman/ferrymanlaw13.ForkBack", spec := "forkBack", inPlace := ["internal/bytealg.abigen_runtime_cmpstring"], unfollowed := true, recurses := true, apart := false }
def ForkBackSaid : Prop := forkBackRow.holds Try.pinned (OpenSpec.ofChange forkBackSpec)

/-- ITS FALSE NEIGHBOUR: 'it returns false'. Refute it at one input. -/
def forkBackWrong : ChangeSpec := { name := "forkBack", fn := fun _ => fun
  | [d1, d2, d3, d4] => { results := [.lit (.bool false)], args := [d1, d2, d3, d4] }
  | _ => none }
def ForkBackWrongFalsely : Prop := forkBackRow.holds Try.pinned (OpenSpec.ofChange forkBackWrong)

/-- 'ferrymanlaw13.ForkNames': WHATEVER THE INPUT: true; the input reads as it did. -/
def forkNamesSpec : ChangeSpec := { name := "forkNames", fn := fun _ => fun
  | [] => { results := [.lit (.bool true)], args := [] }
  | _ => none }
def forkNamesRow : OpenClaim := { program := "ytdommjjhfplcaaa", sum := "ca52b1fe6579ea8290f272b847bdc467802f254e68ef9eb271c1af11eb013646", func := "ferryman/ferrymanlaw13.ForkNames", spec := "forkNames", inPlace := ["internal/bytealg.abigen_runtime_cmpstring"], unfollowed := true, recurses := true, apart := false }
def ForkNamesSaid : Prop := forkNamesRow.holds Try.pinned (OpenSpec.ofChange forkNamesSpec)

/-- ITS FALSE NEIGHBOUR: 'it returns false'. Refute it at one input. -/
def forkNamesWrong : ChangeSpec := { name := "forkNames", fn := fun _ => fun
  | [] => { results := [.lit (.bool false)], args := [] }
  | _ => none }
def ForkNamesWrongFalsely : Prop := forkNamesRow.holds Try.pinned (OpenSpec.ofChange forkNamesWrong)

/-- 'ferrymanlaw13.ForkSafe': WHATEVER THE INPUT: true; the input reads as it did. -/
def forkSafeSpec : ChangeSpec := { name := "forkSafe", fn := fun _ => fun
  | [d1, d2, d3, d4, d5] => { results := [.lit (.bool true)], args := [d1, d2, d3, d4, d5] }
  | _ => none }
def forkSafeRow : OpenClaim := { program := "ytdommjjhfplcaaa", sum := "ca52b1fe6579ea8290f272b847bdc467802f254e68ef9eb271c1af11eb013646", func := "ferryman/ferrymanlaw13.ForkSafe", spec := "forkSafe", inPlace := ["internal/bytealg.abigen_runtime_cmpstring"], unfollowed := true, recurses := true, apart := false }
def ForkSafeSaid : Prop := forkSafeRow.holds Try.pinned (OpenSpec.ofChange forkSafeSpec)

/-- ITS FALSE NEIGHBOUR: 'it returns false'. Refute it at one input. -/
def forkSafeWrong : ChangeSpec := { name := "forkSafe", fn := fun _ => fun
  | [d1, d2, d3, d4, d5] => { results := [.lit (.bool false)], args := [d1, d2, d3, d4, d5] }
  | _ => none }
def ForkSafeWrongFalsely : Prop := forkSafeRow.holds Try.pinned (OpenSpec.ofChange forkSafeWrong)

/-- 'ferrymanlaw13.ForkTells': WHATEVER THE INPUT: true; the input reads as it did. -/
def forkTellsSpec : ChangeSpec := { name := "forkTells", fn := fun _ => fun
  | [d1, d2, d3, d4, d5, d6, d7] => { results := [.lit (.bool true)], args := [d1, d2, d3, d4, d5, d6, d7] }
  | _ => none }
def forkTellsRow : OpenClaim := { program := "ytdommjjhfplcaaa", sum := "ca52b1fe6579ea8290f272b847bdc467802f254e68ef9eb271c1af11eb013646", func := "ferryman/ferrymanlaw13.ForkTells", spec := "forkTells", inPlace := ["internal/bytealg.abigen_runtime_cmpstring"], unfollowed := true, recurses := true, apart := false }
def ForkTellsSaid : Prop := forkTellsRow.holds Try.pinned (OpenSpec.ofChange forkTellsSpec)

/-- ITS FALSE NEIGHBOUR: 'it returns false'. Refute it at one input. -/
def forkTellsWrong : ChangeSpec := { name := "forkTells", fn := fun _ => fun
  | [d1, d2, d3, d4, d5, d6, d7] => { results := [.lit (.bool false)], args := [d1, d2, d3, d4, d5, d6, d7] }
  | _ => none }
def ForkTellsWrongFalsely : Prop := forkTellsRow.holds Try.pinned (OpenSpec.ofChange forkTellsWrong)

/- THE SECOND FORM. 'bulk': how many values and letters a reading holds, each counted each time it is reached (what is shared counts as often as it is met; a slice's spare places count too). A statement '..UptoSaid' is the law's where the arguments, and the package variables that the reading takes, are together of bulk at most 1048576: NARROWER than '..Said'. Prove '..Said' where nothing that the law and all that it calls make is longer than what came in: it says more and counts as full. Else prove '..UptoSaid'. A law counts once. -/
mutual
def uptoBulk {H : Type} : DataW H → Nat
  | .lit (.string bytes) => bytes.length + 1
  | .lit _ => 1
  | .nil => 1
  | .ptr d => uptoBulk d + 1
  | .slice elems spare => uptoBulkAll elems + uptoBulkAll spare + 1
  | .agg parts => uptoBulkAll parts + 1
  | .iface _ d => uptoBulk d + 1
  | .map entries => uptoBulkEntries entries + 1
  | .held _ => 1
def uptoBulkAll {H : Type} : List (DataW H) → Nat
  | [] => 0
  | d :: r => uptoBulk d + uptoBulkAll r
def uptoBulkEntries {H : Type} : List (Lit × DataW H) → Nat
  | [] => 0
  | x :: r => uptoBulkEntry x + uptoBulkEntries r
def uptoBulkEntry {H : Type} : Lit × DataW H → Nat
  | (.string bytes, d) => bytes.length + uptoBulk d + 1
  | (_, d) => uptoBulk d + 1
 end
def uptoSmall : (H : Type) → List (DataW H) → Bool := fun _ ds => decide (uptoBulkAll ds ≤ 1048576)
def OpenSpec.upto (s : _root_.Go.ChangeSpec) : _root_.Go.OpenSpec := { _root_.Go.OpenSpec.ofChange s with cond := some uptoSmall }

/-- 'ferrymanlaw13.ForkPlaces', WHERE WHAT IT READS IS OF BULK AT MOST 1048576: true; the input reads as it did. -/
def forkPlacesUptoRow : OpenClaim := { program := "ytdommjjhfplcaaa", sum := "ca52b1fe6579ea8290f272b847bdc467802f254e68ef9eb271c1af11eb013646", func := "ferryman/ferrymanlaw13.ForkPlaces", spec := "forkPlaces", inPlace := ["internal/bytealg.abigen_runtime_cmpstring"], unfollowed := true, recurses := true, apart := false, narrowed := true }
def ForkPlacesUptoSaid : Prop := forkPlacesUptoRow.holds Try.pinned (OpenSpec.upto forkPlacesSpec)

/-- 'ferrymanlaw13.ForkHalves', WHERE WHAT IT READS IS OF BULK AT MOST 1048576: true; the input reads as it did. -/
def forkHalvesUptoRow : OpenClaim := { program := "ytdommjjhfplcaaa", sum := "ca52b1fe6579ea8290f272b847bdc467802f254e68ef9eb271c1af11eb013646", func := "ferryman/ferrymanlaw13.ForkHalves", spec := "forkHalves", inPlace := ["internal/bytealg.abigen_runtime_cmpstring"], unfollowed := true, recurses := true, apart := false, narrowed := true }
def ForkHalvesUptoSaid : Prop := forkHalvesUptoRow.holds Try.pinned (OpenSpec.upto forkHalvesSpec)

/-- 'ferrymanlaw13.ForkBack', WHERE WHAT IT READS IS OF BULK AT MOST 1048576: true; the input reads as it did. -/
def forkBackUptoRow : OpenClaim := { program := "ytdommjjhfplcaaa", sum := "ca52b1fe6579ea8290f272b847bdc467802f254e68ef9eb271c1af11eb013646", func := "ferryman/ferrymanlaw13.ForkBack", spec := "forkBack", inPlace := ["internal/bytealg.abigen_runtime_cmpstring"], unfollowed := true, recurses := true, apart := false, narrowed := true }
def ForkBackUptoSaid : Prop := forkBackUptoRow.holds Try.pinned (OpenSpec.upto forkBackSpec)

/-- 'ferrymanlaw13.ForkNames', WHERE WHAT IT READS IS OF BULK AT MOST 1048576: true; the input reads as it did. -/
def forkNamesUptoRow : OpenClaim := { program := "ytdommjjhfplcaaa", sum := "ca52b1fe6579ea8290f272b847bdc467802f254e68ef9eb271c1af11eb013646", func := "ferryman/ferrymanlaw13.ForkNames", spec := "forkNames", inPlace := ["internal/bytealg.abigen_runtime_cmpstring"], unfollowed := true, recurses := true, apart := false, narrowed := true }
def ForkNamesUptoSaid : Prop := forkNamesUptoRow.holds Try.pinned (OpenSpec.upto forkNamesSpec)

/-- 'ferrymanlaw13.ForkSafe', WHERE WHAT IT READS IS OF BULK AT MOST 1048576: true; the input reads as it did. -/
def forkSafeUptoRow : OpenClaim := { program := "ytdommjjhfplcaaa", sum := "ca52b1fe6579ea8290f272b847bdc467802f254e68ef9eb271c1af11eb013646", func := "ferryman/ferrymanlaw13.ForkSafe", spec := "forkSafe", inPlace := ["internal/bytealg.abigen_runtime_cmpstring"], unfollowed := true, recurses := true, apart := false, narrowed := true }
def ForkSafeUptoSaid : Prop := forkSafeUptoRow.holds Try.pinned (OpenSpec.upto forkSafeSpec)

/-- 'ferrymanlaw13.ForkTells', WHERE WHAT IT READS IS OF BULK AT MOST 1048576: true; the input reads as it did. -/
def forkTellsUptoRow : OpenClaim := { program := "ytdommjjhfplcaaa", sum := "ca52b1fe6579ea8290f272b847bdc467802f254e68ef9eb271c1af11eb013646", func := "ferryman/ferrymanlaw13.ForkTells", spec := "forkTells", inPlace := ["internal/bytealg.abigen_runtime_cmpstring"], unfollowed := true, recurses := true, apart := false, narrowed := true }
def ForkTellsUptoSaid : Prop := forkTellsUptoRow.holds Try.pinned (OpenSpec.upto forkTellsSpec)

end Rows
end Go.Proofs.Ytdommjjhfplcaaa
