/-
  No cell of these rows narrows 'for every input' (looked for: loops, veiled, ifaces, maps, wideKeys, modest, calm, conditions, laid).
  DERIVED. THE GIVEN ROWS OF THIS SEAT. 7 by the template 'for every input the law returns true; each argument reads behind the call as it read before'; 0 by the template 'total and deterministic' (their statements: YtninegjnkkcepaaTotals.lean).
  GIVEN WITH THE SEED: the statements are not yours to turn. If you find one false, say at which input.
  Laid BY PROGRAM, IN A SANDBOX (cutbox-rows.mjs): the forced cells as the released guide's own fill.sh prints them over the translation f341b6343ebdbccf… (all of the seat's roots in one cut). By AI agents, Wed Nov 11 2026. No macro, syntax, notation, axiom, sorry.
-/
import Derived.Test.YtninegjnkkcepaaChecked
import GoSem.Claim
import GoSem.ClaimJoined
import GoSem.ClaimMapViews
import Derived.JoinedTies
import Derived.KernelRfl
namespace Go.Proofs.Ytninegjnkkcepaa
/- THE CELL 'sum', in the pinned program and in every row, IS THE sha256 OF THE DUMP (.gsa) THAT YtninegjnkkcepaaProg.lean LOADS. Nothing in Lean hashes anything: it is a label: what it is worth is what the hold of that sum in a sandbox is worth. -/
noncomputable def Try.pinned : Pinned := { name := "ytninegjnkkcepaa", sum := "f341b6343ebdbccf157aec7ab98f8b0daad6b14ffe3fb1dc0e92ff5154a85a21", checked := Try.checked }
namespace Rows
def none {H : Type} : Left H := { results := [], args := [] }

/-- 'ferrymanlaw06.EventParts': WHATEVER THE INPUT: true; the input reads as it did. -/
def eventPartsSpec : ChangeSpec := { name := "eventParts", fn := fun _ => fun
  | [d1, d2, d3, d4] => { results := [.lit (.bool true)], args := [d1, d2, d3, d4] }
  | _ => none }
def eventPartsRow : OpenClaim := { program := "ytninegjnkkcepaa", sum := "f341b6343ebdbccf157aec7ab98f8b0daad6b14ffe3fb1dc0e92ff5154a85a21", func := "ferryman/ferrymanlaw06.EventParts", spec := "eventParts", unfollowed := true, recurses := true, plainKeys := false, apart := false }
def EventPartsSaid : Prop := eventPartsRow.holds Try.pinned (OpenSpec.ofChange eventPartsSpec)

/-- ITS FALSE NEIGHBOUR: 'it returns false'. Refute it at one input. -/
def eventPartsWrong : ChangeSpec := { name := "eventParts", fn := fun _ => fun
  | [d1, d2, d3, d4] => { results := [.lit (.bool false)], args := [d1, d2, d3, d4] }
  | _ => none }
def EventPartsWrongFalsely : Prop := eventPartsRow.holds Try.pinned (OpenSpec.ofChange eventPartsWrong)

/-- 'ferrymanlaw06.EventPlays': WHATEVER THE INPUT: true; the input reads as it did. -/
def eventPlaysSpec : ChangeSpec := { name := "eventPlays", fn := fun _ => fun
  | [d1, d2] => { results := [.lit (.bool true)], args := [d1, d2] }
  | _ => none }
def eventPlaysRow : OpenClaim := { program := "ytninegjnkkcepaa", sum := "f341b6343ebdbccf157aec7ab98f8b0daad6b14ffe3fb1dc0e92ff5154a85a21", func := "ferryman/ferrymanlaw06.EventPlays", spec := "eventPlays", unfollowed := true, recurses := true, plainKeys := false, apart := false }
def EventPlaysSaid : Prop := eventPlaysRow.holds Try.pinned (OpenSpec.ofChange eventPlaysSpec)

/-- ITS FALSE NEIGHBOUR: 'it returns false'. Refute it at one input. -/
def eventPlaysWrong : ChangeSpec := { name := "eventPlays", fn := fun _ => fun
  | [d1, d2] => { results := [.lit (.bool false)], args := [d1, d2] }
  | _ => none }
def EventPlaysWrongFalsely : Prop := eventPlaysRow.holds Try.pinned (OpenSpec.ofChange eventPlaysWrong)

/-- 'ferrymanlaw06.EventTells': WHATEVER THE INPUT: true; the input reads as it did. -/
def eventTellsSpec : ChangeSpec := { name := "eventTells", fn := fun _ => fun
  | [d1, d2, d3, d4] => { results := [.lit (.bool true)], args := [d1, d2, d3, d4] }
  | _ => none }
def eventTellsRow : OpenClaim := { program := "ytninegjnkkcepaa", sum := "f341b6343ebdbccf157aec7ab98f8b0daad6b14ffe3fb1dc0e92ff5154a85a21", func := "ferryman/ferrymanlaw06.EventTells", spec := "eventTells", unfollowed := true, recurses := true, plainKeys := false, apart := false }
def EventTellsSaid : Prop := eventTellsRow.holds Try.pinned (OpenSpec.ofChange eventTellsSpec)

/-- ITS FALSE NEIGHBOUR: 'it returns false'. Refute it at one input. -/
def eventTellsWrong : ChangeSpec := { name := "eventTells", fn := fun _ => fun
  | [d1, d2, d3, d4] => { results := [.lit (.bool false)], args := [d1, d2, d3, d4] }
  | _ => none }
def EventTellsWrongFalsely : Prop := eventTellsRow.holds Try.pinned (OpenSpec.ofChange eventTellsWrong)

/-- 'ferrymanlaw06.EventLegal': WHATEVER THE INPUT: true; the input reads as it did. -/
def eventLegalSpec : ChangeSpec := { name := "eventLegal", fn := fun _ => fun
  | [d1, d2, d3] => { results := [.lit (.bool true)], args := [d1, d2, d3] }
  | _ => none }
def eventLegalRow : OpenClaim := { program := "ytninegjnkkcepaa", sum := "f341b6343ebdbccf157aec7ab98f8b0daad6b14ffe3fb1dc0e92ff5154a85a21", func := "ferryman/ferrymanlaw06.EventLegal", spec := "eventLegal", unfollowed := true, recurses := true, plainKeys := false, apart := false }
def EventLegalSaid : Prop := eventLegalRow.holds Try.pinned (OpenSpec.ofChange eventLegalSpec)

/-- ITS FALSE NEIGHBOUR: 'it returns false'. Refute it at one input. -/
def eventLegalWrong : ChangeSpec := { name := "eventLegal", fn := fun _ => fun
  | [d1, d2, d3] => { results := [.lit (.bool false)], args := [d1, d2, d3] }
  | _ => none }
def EventLegalWrongFalsely : Prop := eventLegalRow.holds Try.pinned (OpenSpec.ofChange eventLegalWrong)

/-- 'ferrymanlaw06.EventLess': WHATEVER THE INPUT: true; the input reads as it did. -/
def eventLessSpec : ChangeSpec := { name := "eventLess", fn := fun _ => fun
  | [d1, d2, d3] => { results := [.lit (.bool true)], args := [d1, d2, d3] }
  | _ => none }
def eventLessRow : OpenClaim := { program := "ytninegjnkkcepaa", sum := "f341b6343ebdbccf157aec7ab98f8b0daad6b14ffe3fb1dc0e92ff5154a85a21", func := "ferryman/ferrymanlaw06.EventLess", spec := "eventLess", unfollowed := true, recurses := true, plainKeys := false, apart := false }
def EventLessSaid : Prop := eventLessRow.holds Try.pinned (OpenSpec.ofChange eventLessSpec)

/-- ITS FALSE NEIGHBOUR: 'it returns false'. Refute it at one input. -/
def eventLessWrong : ChangeSpec := { name := "eventLess", fn := fun _ => fun
  | [d1, d2, d3] => { results := [.lit (.bool false)], args := [d1, d2, d3] }
  | _ => none }
def EventLessWrongFalsely : Prop := eventLessRow.holds Try.pinned (OpenSpec.ofChange eventLessWrong)

/-- 'ferrymanlaw06.EventApart': WHATEVER THE INPUT: true; the input reads as it did. -/
def eventApartSpec : ChangeSpec := { name := "eventApart", fn := fun _ => fun
  | [d1, d2, d3] => { results := [.lit (.bool true)], args := [d1, d2, d3] }
  | _ => none }
def eventApartRow : OpenClaim := { program := "ytninegjnkkcepaa", sum := "f341b6343ebdbccf157aec7ab98f8b0daad6b14ffe3fb1dc0e92ff5154a85a21", func := "ferryman/ferrymanlaw06.EventApart", spec := "eventApart", unfollowed := true, recurses := true, plainKeys := false, apart := false }
def EventApartSaid : Prop := eventApartRow.holds Try.pinned (OpenSpec.ofChange eventApartSpec)

/-- ITS FALSE NEIGHBOUR: 'it returns false'. Refute it at one input. -/
def eventApartWrong : ChangeSpec := { name := "eventApart", fn := fun _ => fun
  | [d1, d2, d3] => { results := [.lit (.bool false)], args := [d1, d2, d3] }
  | _ => none }
def EventApartWrongFalsely : Prop := eventApartRow.holds Try.pinned (OpenSpec.ofChange eventApartWrong)

/-- 'ferrymanlaw06.EventNames': WHATEVER THE INPUT: true; the input reads as it did. -/
def eventNamesSpec : ChangeSpec := { name := "eventNames", fn := fun _ => fun
  | [] => { results := [.lit (.bool true)], args := [] }
  | _ => none }
def eventNamesRow : OpenClaim := { program := "ytninegjnkkcepaa", sum := "f341b6343ebdbccf157aec7ab98f8b0daad6b14ffe3fb1dc0e92ff5154a85a21", func := "ferryman/ferrymanlaw06.EventNames", spec := "eventNames", unfollowed := true, recurses := true, plainKeys := false, apart := false }
def EventNamesSaid : Prop := eventNamesRow.holds Try.pinned (OpenSpec.ofChange eventNamesSpec)

/-- ITS FALSE NEIGHBOUR: 'it returns false'. Refute it at one input. -/
def eventNamesWrong : ChangeSpec := { name := "eventNames", fn := fun _ => fun
  | [] => { results := [.lit (.bool false)], args := [] }
  | _ => none }
def EventNamesWrongFalsely : Prop := eventNamesRow.holds Try.pinned (OpenSpec.ofChange eventNamesWrong)

/- THE SECOND FORM. 'bulk': how many values and letters a reading holds, each counted each time it is reached (what is shared counts as often as it is met; a slice's spare places count too). A statement '..UptoSaid' is the law's where the arguments, and the package variables that the reading takes, are together of bulk at most 1048576: NARROWER than '..Said'. Prove '..Said' where nothing that the law and all that it calls make is longer than what came in: it says more and counts as full. Else prove '..UptoSaid'. A law counts once. -/
mutual
def uptoBulk {H : Type} : DataW H → Nat
  | .lit (.string bytes) => bytes.length + 1
  | .lit _ => 1
  | .nil => 1
  | .ptr d => uptoBulk d + 1
  | .slice elems spare => uptoBulkAll elems + uptoBulkAll spare + 1
  | .agg parts => uptoBulkAll parts + 1
  | .iface _ d => uptoBulk d + 1
  | .map entries => uptoBulkEntries entries + 1
  | .held _ => 1
def uptoBulkAll {H : Type} : List (DataW H) → Nat
  | [] => 0
  | d :: r => uptoBulk d + uptoBulkAll r
def uptoBulkEntries {H : Type} : List (Lit × DataW H) → Nat
  | [] => 0
  | x :: r => uptoBulkEntry x + uptoBulkEntries r
def uptoBulkEntry {H : Type} : Lit × DataW H → Nat
  | (.string bytes, d) => bytes.length + uptoBulk d + 1
  | (_, d) => uptoBulk d + 1
 end
def uptoSmall : (H : Type) → List (DataW H) → Bool := fun _ ds => decide (uptoBulkAll ds ≤ 1048576)
def OpenSpec.upto (s : _root_.Go.ChangeSpec) : _root_.Go.OpenSpec := { _root_.Go.OpenSpec.ofChange s with cond := some uptoSmall }

/-- 'ferrymanlaw06.EventParts', WHERE WHAT IT READS IS OF BULK AT MOST 1048576: true; the input reads as it did. -/
def eventPartsUptoRow : OpenClaim := { program := "ytninegjnkkcepaa", sum := "f341b6343ebdbccf157aec7ab98f8b0daad6b14ffe3fb1dc0e92ff5154a85a21", func := "ferryman/ferrymanlaw06.EventParts", spec := "eventParts", unfollowed := true, recurses := true, plainKeys := false, apart := false, narrowed := true }
def EventPartsUptoSaid : Prop := eventPartsUptoRow.holds Try.pinned (OpenSpec.upto eventPartsSpec)

/-- 'ferrymanlaw06.EventPlays', WHERE WHAT IT READS IS OF BULK AT MOST 1048576: true; the input reads as it did. -/
def eventPlaysUptoRow : OpenClaim := { program := "ytninegjnkkcepaa", sum := "f341b6343ebdbccf157aec7ab98f8b0daad6b14ffe3fb1dc0e92ff5154a85a21", func := "ferryman/ferrymanlaw06.EventPlays", spec := "eventPlays", unfollowed := true, recurses := true, plainKeys := false, apart := false, narrowed := true }
def EventPlaysUptoSaid : Prop := eventPlaysUptoRow.holds Try.pinned (OpenSpec.upto eventPlaysSpec)

/-- 'ferrymanlaw06.EventTells', WHERE WHAT IT READS IS OF BULK AT MOST 1048576: true; the input reads as it did. -/
def eventTellsUptoRow : OpenClaim := { program := "ytninegjnkkcepaa", sum := "f341b6343ebdbccf157aec7ab98f8b0daad6b14ffe3fb1dc0e92ff5154a85a21", func := "ferryman/ferrymanlaw06.EventTells", spec := "eventTells", unfollowed := true, recurses := true, plainKeys := false, apart := false, narrowed := true }
def EventTellsUptoSaid : Prop := eventTellsUptoRow.holds Try.pinned (OpenSpec.upto eventTellsSpec)

/-- 'ferrymanlaw06.EventLegal', WHERE WHAT IT READS IS OF BULK AT MOST 1048576: true; the input reads as it did. -/
def eventLegalUptoRow : OpenClaim := { program := "ytninegjnkkcepaa", sum := "f341b6343ebdbccf157aec7ab98f8b0daad6b14ffe3fb1dc0e92ff5154a85a21", func := "ferryman/ferrymanlaw06.EventLegal", spec := "eventLegal", unfollowed := true, recurses := true, plainKeys := false, apart := false, narrowed := true }
def EventLegalUptoSaid : Prop := eventLegalUptoRow.holds Try.pinned (OpenSpec.upto eventLegalSpec)

/-- 'ferrymanlaw06.EventLess', WHERE WHAT IT READS IS OF BULK AT MOST 1048576: true; the input reads as it did. -/
def eventLessUptoRow : OpenClaim := { program := "ytninegjnkkcepaa", sum := "f341b6343ebdbccf157aec7ab98f8b0daad6b14ffe3fb1dc0e92ff5154a85a21", func := "ferryman/ferrymanlaw06.EventLess", spec := "eventLess", unfollowed := true, recurses := true, plainKeys := false, apart := false, narrowed := true }
def EventLessUptoSaid : Prop := eventLessUptoRow.holds Try.pinned (OpenSpec.upto eventLessSpec)

/-- 'ferrymanlaw06.EventApart', WHERE WHAT IT READS IS OF BULK AT MOST 1048576: true; the input reads as it did. -/
def eventApartUptoRow : OpenClaim := { program := "ytninegjnkkcepaa", sum := "f341b6343ebdbccf157aec7ab98f8b0daad6b14ffe3fb1dc0e92ff5154a85a21", func := "ferryman/ferrymanlaw06.EventApart", spec := "eventApart", unfollowed := true, recurses := true, plainKeys := false, apart := false, narrowed := true }
def EventApartUptoSaid : Prop := eventApartUptoRow.holds Try.pinned (OpenSpec.upto eventApartSpec)

/-- 'ferrymanlaw06.EventNames', WHERE WHAT IT READS IS OF BULK AT MOST 1048576: true; the input reads as it did. -/
def eventNamesUptoRow : OpenClaim := { program := "ytninegjnkkcepaa", sum := "f341b6343ebdbccf157aec7ab98f8b0daad6b14ffe3fb1dc0e92ff5154a85a21", func := "ferryman/ferrymanlaw06.EventNames", spec := "eventNames", unfollowed := true, recurses := true, plainKeys := false, apart := false, narrowed := true }
def EventNamesUptoSaid : Prop := eventNamesUptoRow.holds Try.pinned (OpenSpec.upto eventNamesSpec)

end Rows
end Go.Proofs.Ytninegjnkkcepaa
