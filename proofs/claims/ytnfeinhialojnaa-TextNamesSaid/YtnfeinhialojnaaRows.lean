/-
  No cell of these rows narrows 'for every input' (looked for: loops, veiled, ifaces, maps, wideKeys, modest, calm, conditions, laid).
  DERIVED. THE GIVEN ROWS OF THIS SEAT. 8 by the template 'for every input the law returns true; each argument reads behind the call as it read before'; 0 by the template 'total and deterministic' (their statements: YtnfeinhialojnaaTotals.lean).
  GIVEN WITH THE SEED: the statements are not yours to turn. If you find one false, say at which input.
  Laid BY PROGRAM, IN A SANDBOX (cutbox-rows.mjs): the forced cells as the released guide's own fill.sh prints them over the translation ab3ba7091e530789… (all of the seat's roots in one cut). By AI agents, Wed Nov 11 2026. No macro, syntax, notation, axiom, sorry.
-/
import Derived.Test.YtnfeinhialojnaaChecked
import GoSem.Claim
import GoSem.ClaimJoined
import GoSem.ClaimMapViews
import Derived.JoinedTies
import Derived.KernelRfl
namespace Go.Proofs.Ytnfeinhialojnaa
/- THE CELL 'sum', in the pinned program and in every row, IS THE sha256 OF THE DUMP (.gsa) THAT YtnfeinhialojnaaProg.lean LOADS. Nothing in Lean hashes anything: it is a label: what it is worth is what the hold of that sum in a sandbox is worth. -/
noncomputable def Try.pinned : Pinned := { name := "ytnfeinhialojnaa", sum := "ab3ba7091e530789825996fda802142548ae093d5bcb534af1d187575732b2bc", checked := Try.checked }
namespace Rows
def none {H : Type} : Left H := { results := [], args := [] }

/-- 'ferrymanlaw02.TextTells': WHATEVER THE INPUT: true; the input reads as it did. -/
def textTellsSpec : ChangeSpec := { name := "textTells", fn := fun _ => fun
  | [d1, d2, d3, d4] => { results := [.lit (.bool true)], args := [d1, d2, d3, d4] }
  | _ => none }
def textTellsRow : OpenClaim := { program := "ytnfeinhialojnaa", sum := "ab3ba7091e530789825996fda802142548ae093d5bcb534af1d187575732b2bc", func := "ferryman/ferrymanlaw02.TextTells", spec := "textTells", inPlace := ["internal/bytealg.abigen_runtime_cmpstring"], unfollowed := true, recurses := true, apart := false }
def TextTellsSaid : Prop := textTellsRow.holds Try.pinned (OpenSpec.ofChange textTellsSpec)

/-- ITS FALSE NEIGHBOUR: 'it returns false'. Refute it at one input. -/
def textTellsWrong : ChangeSpec := { name := "textTells", fn := fun _ => fun
  | [d1, d2, d3, d4] => { results := [.lit (.bool false)], args := [d1, d2, d3, d4] }
  | _ => none }
def TextTellsWrongFalsely : Prop := textTellsRow.holds Try.pinned (OpenSpec.ofChange textTellsWrong)

/-- 'ferrymanlaw02.TextRow': WHATEVER THE INPUT: true; the input reads as it did. -/
def textRowSpec : ChangeSpec := { name := "textRow", fn := fun _ => fun
  | [d1, d2, d3] => { results := [.lit (.bool true)], args := [d1, d2, d3] }
  | _ => none }
def textRowRow : OpenClaim := { program := "ytnfeinhialojnaa", sum := "ab3ba7091e530789825996fda802142548ae093d5bcb534af1d187575732b2bc", func := "ferryman/ferrymanlaw02.TextRow", spec := "textRow", inPlace := ["internal/bytealg.abigen_runtime_cmpstring"], unfollowed := true, recurses := true, apart := false }
def TextRowSaid : Prop := textRowRow.holds Try.pinned (OpenSpec.ofChange textRowSpec)

/-- ITS FALSE NEIGHBOUR: 'it returns false'. Refute it at one input. -/
def textRowWrong : ChangeSpec := { name := "textRow", fn := fun _ => fun
  | [d1, d2, d3] => { results := [.lit (.bool false)], args := [d1, d2, d3] }
  | _ => none }
def TextRowWrongFalsely : Prop := textRowRow.holds Try.pinned (OpenSpec.ofChange textRowWrong)

/-- 'ferrymanlaw02.TextNext': WHATEVER THE INPUT: true; the input reads as it did. -/
def textNextSpec : ChangeSpec := { name := "textNext", fn := fun _ => fun
  | [d1, d2] => { results := [.lit (.bool true)], args := [d1, d2] }
  | _ => none }
def textNextRow : OpenClaim := { program := "ytnfeinhialojnaa", sum := "ab3ba7091e530789825996fda802142548ae093d5bcb534af1d187575732b2bc", func := "ferryman/ferrymanlaw02.TextNext", spec := "textNext", inPlace := ["internal/bytealg.abigen_runtime_cmpstring"], unfollowed := true, recurses := true, apart := false }
def TextNextSaid : Prop := textNextRow.holds Try.pinned (OpenSpec.ofChange textNextSpec)

/-- ITS FALSE NEIGHBOUR: 'it returns false'. Refute it at one input. -/
def textNextWrong : ChangeSpec := { name := "textNext", fn := fun _ => fun
  | [d1, d2] => { results := [.lit (.bool false)], args := [d1, d2] }
  | _ => none }
def TextNextWrongFalsely : Prop := textNextRow.holds Try.pinned (OpenSpec.ofChange textNextWrong)

/-- 'ferrymanlaw02.TextUnlike': WHATEVER THE INPUT: true; the input reads as it did. -/
def textUnlikeSpec : ChangeSpec := { name := "textUnlike", fn := fun _ => fun
  | [d1, d2, d3, d4, d5] => { results := [.lit (.bool true)], args := [d1, d2, d3, d4, d5] }
  | _ => none }
def textUnlikeRow : OpenClaim := { program := "ytnfeinhialojnaa", sum := "ab3ba7091e530789825996fda802142548ae093d5bcb534af1d187575732b2bc", func := "ferryman/ferrymanlaw02.TextUnlike", spec := "textUnlike", inPlace := ["internal/bytealg.abigen_runtime_cmpstring"], unfollowed := true, recurses := true, apart := false }
def TextUnlikeSaid : Prop := textUnlikeRow.holds Try.pinned (OpenSpec.ofChange textUnlikeSpec)

/-- ITS FALSE NEIGHBOUR: 'it returns false'. Refute it at one input. -/
def textUnlikeWrong : ChangeSpec := { name := "textUnlike", fn := fun _ => fun
  | [d1, d2, d3, d4, d5] => { results := [.lit (.bool false)], args := [d1, d2, d3, d4, d5] }
  | _ => none }
def TextUnlikeWrongFalsely : Prop := textUnlikeRow.holds Try.pinned (OpenSpec.ofChange textUnlikeWrong)

/-- 'ferrymanlaw02.TextMiddles': WHATEVER THE INPUT: true; the input reads as it did. -/
def textMiddlesSpec : ChangeSpec := { name := "textMiddles", fn := fun _ => fun
  | [d1, d2] => { results := [.lit (.bool true)], args := [d1, d2] }
  | _ => none }
def textMiddlesRow : OpenClaim := { program := "ytnfeinhialojnaa", sum := "ab3ba7091e530789825996fda802142548ae093d5bcb534af1d187575732b2bc", func := "ferryman/ferrymanlaw02.TextMiddles", spec := "textMiddles", inPlace := ["internal/bytealg.abigen_runtime_cmpstring"], unfollowed := true, recurses := true, apart := false }
def TextMiddlesSaid : Prop := textMiddlesRow.holds Try.pinned (OpenSpec.ofChange textMiddlesSpec)

/-- ITS FALSE NEIGHBOUR: 'it returns false'. Refute it at one input. -/
def textMiddlesWrong : ChangeSpec := { name := "textMiddles", fn := fun _ => fun
  | [d1, d2] => { results := [.lit (.bool false)], args := [d1, d2] }
  | _ => none }
def TextMiddlesWrongFalsely : Prop := textMiddlesRow.holds Try.pinned (OpenSpec.ofChange textMiddlesWrong)

/-- 'ferrymanlaw02.TextParts': WHATEVER THE INPUT: true; the input reads as it did. -/
def textPartsSpec : ChangeSpec := { name := "textParts", fn := fun _ => fun
  | [d1, d2, d3, d4] => { results := [.lit (.bool true)], args := [d1, d2, d3, d4] }
  | _ => none }
def textPartsRow : OpenClaim := { program := "ytnfeinhialojnaa", sum := "ab3ba7091e530789825996fda802142548ae093d5bcb534af1d187575732b2bc", func := "ferryman/ferrymanlaw02.TextParts", spec := "textParts", inPlace := ["internal/bytealg.abigen_runtime_cmpstring"], unfollowed := true, recurses := true, apart := false }
def TextPartsSaid : Prop := textPartsRow.holds Try.pinned (OpenSpec.ofChange textPartsSpec)

/-- ITS FALSE NEIGHBOUR: 'it returns false'. Refute it at one input. -/
def textPartsWrong : ChangeSpec := { name := "textParts", fn := fun _ => fun
  | [d1, d2, d3, d4] => { results := [.lit (.bool false)], args := [d1, d2, d3, d4] }
  | _ => none }
def TextPartsWrongFalsely : Prop := textPartsRow.holds Try.pinned (OpenSpec.ofChange textPartsWrong)

/-- 'ferrymanlaw02.TextNames': WHATEVER THE INPUT: true; the input reads as it did. -/
def textNamesSpec : ChangeSpec := { name := "textNames", fn := fun _ => fun
  | [] => { results := [.lit (.bool true)], args := [] }
  | _ => none }
def textNamesRow : OpenClaim := { program := "ytnfeinhialojnaa", sum := "ab3ba7091e530789825996fda802142548ae093d5bcb534af1d187575732b2bc", func := "ferryman/ferrymanlaw02.TextNames", spec := "textNames", inPlace := ["internal/bytealg.abigen_runtime_cmpstring"], unfollowed := true, recurses := true, apart := false }
def TextNamesSaid : Prop := textNamesRow.holds Try.pinned (OpenSpec.ofChange textNamesSpec)

/-- ITS FALSE NEIGHBOUR: 'it returns false'. Refute it at one input. -/
def textNamesWrong : ChangeSpec := { name := "textNames", fn := fun _ => fun
  | [] => { results := [.lit (.bool false)], args := [] }
  | _ => none }
def TextNamesWrongFalsely : Prop := textNamesRow.holds Try.pinned (OpenSpec.ofChange textNamesWrong)

/-- 'ferrymanlaw02.TextMay': WHATEVER THE INPUT: true; the input reads as it did. -/
def textMaySpec : ChangeSpec := { name := "textMay", fn := fun _ => fun
  | [d1, d2] => { results := [.lit (.bool true)], args := [d1, d2] }
  | _ => none }
def textMayRow : OpenClaim := { program := "ytnfeinhialojnaa", sum := "ab3ba7091e530789825996fda802142548ae093d5bcb534af1d187575732b2bc", func := "ferryman/ferrymanlaw02.TextMay", spec := "textMay", inPlace := ["internal/bytealg.abigen_runtime_cmpstring"], unfollowed := true, recurses := true, apart := false }
def TextMaySaid : Prop := textMayRow.holds Try.pinned (OpenSpec.ofChange textMaySpec)

/-- ITS FALSE NEIGHBOUR: 'it returns false'. Refute it at one input. -/
def textMayWrong : ChangeSpec := { name := "textMay", fn := fun _ => fun
  | [d1, d2] => { results := [.lit (.bool false)], args := [d1, d2] }
  | _ => none }
def TextMayWrongFalsely : Prop := textMayRow.holds Try.pinned (OpenSpec.ofChange textMayWrong)

/- THE SECOND FORM. 'bulk': how many values and letters a reading holds, each counted each time it is reached (what is shared counts as often as it is met; a slice's spare places count too). A statement '..UptoSaid' is the law's where the arguments, and the package variables that the reading takes, are together of bulk at most 1048576: NARROWER than '..Said'. Prove '..Said' where nothing that the law and all that it calls make is longer than what came in: it says more and counts as full. Else prove '..UptoSaid'. A law counts once. -/
mutual
def uptoBulk {H : Type} : DataW H → Nat
  | .lit (.string bytes) => bytes.length + 1
  | .lit _ => 1
  | .nil => 1
  | .ptr d => uptoBulk d + 1
  | .slice elems spare => uptoBulkAll elems + uptoBulkAll spare + 1
  | .agg parts => uptoBulkAll parts + 1
  | .iface _ d => uptoBulk d + 1
  | .map entries => uptoBulkEntries entries + 1
  | .held _ => 1
def uptoBulkAll {H : Type} : List (DataW H) → Nat
  | [] => 0
  | d :: r => uptoBulk d + uptoBulkAll r
def uptoBulkEntries {H : Type} : List (Lit × DataW H) → Nat
  | [] => 0
  | x :: r => uptoBulkEntry x + uptoBulkEntries r
def uptoBulkEntry {H : Type} : Lit × DataW H → Nat
  | (.string bytes, d) => bytes.length + uptoBulk d + 1
  | (_, d) => uptoBulk d + 1
 end
def uptoSmall : (H : Type) → List (DataW H) → Bool := fun _ ds => decide (uptoBulkAll ds ≤ 1048576)
def OpenSpec.upto (s : _root_.Go.ChangeSpec) : _root_.Go.OpenSpec := { _root_.Go.OpenSpec.ofChange s with cond := some uptoSmall }

/-- 'ferrymanlaw02.TextTells', WHERE WHAT IT READS IS OF BULK AT MOST 1048576: true; the input reads as it did. -/
def textTellsUptoRow : OpenClaim := { program := "ytnfeinhialojnaa", sum := "ab3ba7091e530789825996fda802142548ae093d5bcb534af1d187575732b2bc", func := "ferryman/ferrymanlaw02.TextTells", spec := "textTells", inPlace := ["internal/bytealg.abigen_runtime_cmpstring"], unfollowed := true, recurses := true, apart := false, narrowed := true }
def TextTellsUptoSaid : Prop := textTellsUptoRow.holds Try.pinned (OpenSpec.upto textTellsSpec)

/-- 'ferrymanlaw02.TextRow', WHERE WHAT IT READS IS OF BULK AT MOST 1048576: true; the input reads as it did. -/
def textRowUptoRow : OpenClaim := { program := "ytnfeinhialojnaa", sum := "ab3ba7091e530789825996fda802142548ae093d5bcb534af1d187575732b2bc", func := "ferryman/ferrymanlaw02.TextRow", spec := "textRow", inPlace := ["internal/bytealg.abigen_runtime_cmpstring"], unfollowed := true, recurses := true, apart := false, narrowed := true }
def TextRowUptoSaid : Prop := textRowUptoRow.holds Try.pinned (OpenSpec.upto textRowSpec)

/-- 'ferrymanlaw02.TextNext', WHERE WHAT IT READS IS OF BULK AT MOST 1048576: true; the input reads as it did. -/
def textNextUptoRow : OpenClaim := { program := "ytnfeinhialojnaa", sum := "ab3ba7091e530789825996fda802142548ae093d5bcb534af1d187575732b2bc", func := "ferryman/ferrymanlaw02.TextNext", spec := "textNext", inPlace := ["internal/bytealg.abigen_runtime_cmpstring"], unfollowed := true, recurses := true, apart := false, narrowed := true }
def TextNextUptoSaid : Prop := textNextUptoRow.holds Try.pinned (OpenSpec.upto textNextSpec)

/-- 'ferrymanlaw02.TextUnlike', WHERE WHAT IT READS IS OF BULK AT MOST 1048576: true; the input reads as it did. -/
def textUnlikeUptoRow : OpenClaim := { program := "ytnfeinhialojnaa", sum := "ab3ba7091e530789825996fda802142548ae093d5bcb534af1d187575732b2bc", func := "ferryman/ferrymanlaw02.TextUnlike", spec := "textUnlike", inPlace := ["internal/bytealg.abigen_runtime_cmpstring"], unfollowed := true, recurses := true, apart := false, narrowed := true }
def TextUnlikeUptoSaid : Prop := textUnlikeUptoRow.holds Try.pinned (OpenSpec.upto textUnlikeSpec)

/-- 'ferrymanlaw02.TextMiddles', WHERE WHAT IT READS IS OF BULK AT MOST 1048576: true; the input reads as it did. -/
def textMiddlesUptoRow : OpenClaim := { program := "ytnfeinhialojnaa", sum := "ab3ba7091e530789825996fda802142548ae093d5bcb534af1d187575732b2bc", func := "ferryman/ferrymanlaw02.TextMiddles", spec := "textMiddles", inPlace := ["internal/bytealg.abigen_runtime_cmpstring"], unfollowed := true, recurses := true, apart := false, narrowed := true }
def TextMiddlesUptoSaid : Prop := textMiddlesUptoRow.holds Try.pinned (OpenSpec.upto textMiddlesSpec)

/-- 'ferrymanlaw02.TextParts', WHERE WHAT IT READS IS OF BULK AT MOST 1048576: true; the input reads as it did. -/
def textPartsUptoRow : OpenClaim := { program := "ytnfeinhialojnaa", sum := "ab3ba7091e530789825996fda802142548ae093d5bcb534af1d187575732b2bc", func := "ferryman/ferrymanlaw02.TextParts", spec := "textParts", inPlace := ["internal/bytealg.abigen_runtime_cmpstring"], unfollowed := true, recurses := true, apart := false, narrowed := true }
def TextPartsUptoSaid : Prop := textPartsUptoRow.holds Try.pinned (OpenSpec.upto textPartsSpec)

/-- 'ferrymanlaw02.TextNames', WHERE WHAT IT READS IS OF BULK AT MOST 1048576: true; the input reads as it did. -/
def textNamesUptoRow : OpenClaim := { program := "ytnfeinhialojnaa", sum := "ab3ba7091e530789825996fda802142548ae093d5bcb534af1d187575732b2bc", func := "ferryman/ferrymanlaw02.TextNames", spec := "textNames", inPlace := ["internal/bytealg.abigen_runtime_cmpstring"], unfollowed := true, recurses := true, apart := false, narrowed := true }
def TextNamesUptoSaid : Prop := textNamesUptoRow.holds Try.pinned (OpenSpec.upto textNamesSpec)

/-- 'ferrymanlaw02.TextMay', WHERE WHAT IT READS IS OF BULK AT MOST 1048576: true; the input reads as it did. -/
def textMayUptoRow : OpenClaim := { program := "ytnfeinhialojnaa", sum := "ab3ba7091e530789825996fda802142548ae093d5bcb534af1d187575732b2bc", func := "ferryman/ferrymanlaw02.TextMay", spec := "textMay", inPlace := ["internal/bytealg.abigen_runtime_cmpstring"], unfollowed := true, recurses := true, apart := false, narrowed := true }
def TextMayUptoSaid : Prop := textMayUptoRow.holds Try.pinned (OpenSpec.upto textMaySpec)

end Rows
end Go.Proofs.Ytnfeinhialojnaa
