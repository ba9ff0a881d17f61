/-
  NARROWER THAN 'FOR EVERY INPUT', by the rows' own cells (each row's printed sentence says how): ModelSnapshot: laid · ModelFirst: laid · ModelVacuums: laid · ModelNames: laid · ModelTasks: laid · ModelCopies: laid · ModelPlays: laid · ModelMany: laid.
  DERIVED. THE GIVEN ROWS OF THIS SEAT. 8 by the template 'for every input the law returns true; each argument reads behind the call as it read before'; 0 by the template 'total and deterministic' (their statements: YtcngjjlhdlbogaaDoorTotals.lean).
  GIVEN WITH THE SEED: the statements are not yours to turn. If you find one false, say at which input.
  Laid BY PROGRAM, IN A SANDBOX (cutbox-rows.mjs): the forced cells as the released guide's own fill.sh prints them over the translation f44bef999af541ee… (all of the seat's roots in one cut). By AI agents, Wed Nov 11 2026. No macro, syntax, notation, axiom, sorry.
-/
import Derived.Test.YtcngjjlhdlbogaaDoorChecked
import GoSem.Claim
import GoSem.ClaimJoined
import GoSem.ClaimMapViews
import Derived.JoinedTies
import Derived.KernelRfl
namespace Go.Proofs.YtcngjjlhdlbogaaDoor
/- THE CELL 'sum', in the pinned program and in every row, IS THE sha256 OF THE DUMP (.gsa) THAT YtcngjjlhdlbogaaDoorProg.lean LOADS. Nothing in Lean hashes anything: it is a label: what it is worth is what the hold of that sum in a sandbox is worth. -/
noncomputable def Tryd.pinned : Pinned := { name := "ytcngjjlhdlbogaadoor", sum := "f44bef999af541ee8e9888486e24314ada1d7dddd94e87aa244fb2e88259f3f6", checked := Tryd.checked }
namespace Rows
def none {H : Type} : Left H := { results := [], args := [] }

/- WHAT THE LISTED PACKAGE-LEVEL VARIABLES READ AS WHEN THE CALL BEGINS. Each datum BY PROGRAM (the guide's laid-datum.mjs) off the statement by which the dump's own 'gosem.cut.vars' lays the variable. In a bare row this is a premise. The card (YtcngjjlhdlbogaaDoorCards.lean) ties it to the program's text. -/
def laid_ferryman_model_does {H : Type} : DataW H := .iface "func table" (.agg [.nil, .iface "func" (.lit (.string [40, 42, 102, 101, 114, 114, 121, 109, 97, 110, 47, 109, 111, 100, 101, 108, 46, 77, 111, 100, 101, 108, 41, 46, 98, 101, 103, 105, 110])), .iface "func" (.lit (.string [40, 42, 102, 101, 114, 114, 121, 109, 97, 110, 47, 109, 111, 100, 101, 108, 46, 77, 111, 100, 101, 108, 41, 46, 103, 101, 116])), .iface "func" (.lit (.string [40, 42, 102, 101, 114, 114, 121, 109, 97, 110, 47, 109, 111, 100, 101, 108, 46, 77, 111, 100, 101, 108, 41, 46, 112, 117, 116])), .iface "func" (.lit (.string [40, 42, 102, 101, 114, 114, 121, 109, 97, 110, 47, 109, 111, 100, 101, 108, 46, 77, 111, 100, 101, 108, 41, 46, 100, 101, 108])), .iface "func" (.lit (.string [40, 42, 102, 101, 114, 114, 121, 109, 97, 110, 47, 109, 111, 100, 101, 108, 46, 77, 111, 100, 101, 108, 41, 46, 115, 99, 97, 110])), .iface "func" (.lit (.string [40, 42, 102, 101, 114, 114, 121, 109, 97, 110, 47, 109, 111, 100, 101, 108, 46, 77, 111, 100, 101, 108, 41, 46, 99, 111, 109, 109, 105, 116])), .iface "func" (.lit (.string [40, 42, 102, 101, 114, 114, 121, 109, 97, 110, 47, 109, 111, 100, 101, 108, 46, 77, 111, 100, 101, 108, 41, 46, 97, 98, 111, 114, 116])), .iface "func" (.lit (.string [40, 42, 102, 101, 114, 114, 121, 109, 97, 110, 47, 109, 111, 100, 101, 108, 46, 77, 111, 100, 101, 108, 41, 46, 118, 97, 99, 117, 117, 109])), .iface "func" (.lit (.string [40, 42, 102, 101, 114, 114, 121, 109, 97, 110, 47, 109, 111, 100, 101, 108, 46, 77, 111, 100, 101, 108, 41, 46, 109, 105, 103, 114, 97, 116, 101]))])

/-- 'ferrymanlaw16.ModelSnapshot': WHATEVER THE INPUT: true; the input reads as it did. -/
def modelSnapshotSpec : ChangeSpec := { name := "modelSnapshot", fn := fun _ => fun
  | [d1, d2] => { results := [.lit (.bool true)], args := [d1, d2] }
  | _ => none }
def modelSnapshotRow : OpenClaim := { program := "ytcngjjlhdlbogaadoor", sum := "f44bef999af541ee8e9888486e24314ada1d7dddd94e87aa244fb2e88259f3f6", func := "ferryman/ferrymanlaw16.ModelSnapshot", spec := "modelSnapshot", inPlace := ["internal/bytealg.abigen_runtime_cmpstring"], unfollowed := true, recurses := true, named := ["ferryman/model.does"], plainKeys := false, apart := false, laid := [("ferryman/model.does", laid_ferryman_model_does)] }
def ModelSnapshotSaid : Prop := modelSnapshotRow.holds Tryd.pinned (OpenSpec.ofChange modelSnapshotSpec)

/-- ITS FALSE NEIGHBOUR: 'it returns false'. Refute it at one input. -/
def modelSnapshotWrong : ChangeSpec := { name := "modelSnapshot", fn := fun _ => fun
  | [d1, d2] => { results := [.lit (.bool false)], args := [d1, d2] }
  | _ => none }
def ModelSnapshotWrongFalsely : Prop := modelSnapshotRow.holds Tryd.pinned (OpenSpec.ofChange modelSnapshotWrong)

/-- 'ferrymanlaw16.ModelFirst': WHATEVER THE INPUT: true; the input reads as it did. -/
def modelFirstSpec : ChangeSpec := { name := "modelFirst", fn := fun _ => fun
  | [d1, d2] => { results := [.lit (.bool true)], args := [d1, d2] }
  | _ => none }
def modelFirstRow : OpenClaim := { program := "ytcngjjlhdlbogaadoor", sum := "f44bef999af541ee8e9888486e24314ada1d7dddd94e87aa244fb2e88259f3f6", func := "ferryman/ferrymanlaw16.ModelFirst", spec := "modelFirst", inPlace := ["internal/bytealg.abigen_runtime_cmpstring"], unfollowed := true, recurses := true, named := ["ferryman/model.does"], plainKeys := false, apart := false, laid := [("ferryman/model.does", laid_ferryman_model_does)] }
def ModelFirstSaid : Prop := modelFirstRow.holds Tryd.pinned (OpenSpec.ofChange modelFirstSpec)

/-- ITS FALSE NEIGHBOUR: 'it returns false'. Refute it at one input. -/
def modelFirstWrong : ChangeSpec := { name := "modelFirst", fn := fun _ => fun
  | [d1, d2] => { results := [.lit (.bool false)], args := [d1, d2] }
  | _ => none }
def ModelFirstWrongFalsely : Prop := modelFirstRow.holds Tryd.pinned (OpenSpec.ofChange modelFirstWrong)

/-- 'ferrymanlaw16.ModelVacuums': WHATEVER THE INPUT: true; the input reads as it did. -/
def modelVacuumsSpec : ChangeSpec := { name := "modelVacuums", fn := fun _ => fun
  | [d1, d2, d3] => { results := [.lit (.bool true)], args := [d1, d2, d3] }
  | _ => none }
def modelVacuumsRow : OpenClaim := { program := "ytcngjjlhdlbogaadoor", sum := "f44bef999af541ee8e9888486e24314ada1d7dddd94e87aa244fb2e88259f3f6", func := "ferryman/ferrymanlaw16.ModelVacuums", spec := "modelVacuums", inPlace := ["internal/bytealg.abigen_runtime_cmpstring"], unfollowed := true, recurses := true, named := ["ferryman/model.does"], plainKeys := false, apart := false, laid := [("ferryman/model.does", laid_ferryman_model_does)] }
def ModelVacuumsSaid : Prop := modelVacuumsRow.holds Tryd.pinned (OpenSpec.ofChange modelVacuumsSpec)

/-- ITS FALSE NEIGHBOUR: 'it returns false'. Refute it at one input. -/
def modelVacuumsWrong : ChangeSpec := { name := "modelVacuums", fn := fun _ => fun
  | [d1, d2, d3] => { results := [.lit (.bool false)], args := [d1, d2, d3] }
  | _ => none }
def ModelVacuumsWrongFalsely : Prop := modelVacuumsRow.holds Tryd.pinned (OpenSpec.ofChange modelVacuumsWrong)

/-- 'ferrymanlaw16.ModelNames': WHATEVER THE INPUT: true; the input reads as it did. -/
def modelNamesSpec : ChangeSpec := { name := "modelNames", fn := fun _ => fun
  | [] => { results := [.lit (.bool true)], args := [] }
  | _ => none }
def modelNamesRow : OpenClaim := { program := "ytcngjjlhdlbogaadoor", sum := "f44bef999af541ee8e9888486e24314ada1d7dddd94e87aa244fb2e88259f3f6", func := "ferryman/ferrymanlaw16.ModelNames", spec := "modelNames", inPlace := ["internal/bytealg.abigen_runtime_cmpstring", "maps.clone"], unfollowed := true, recurses := true, named := ["ferryman/model.does"], plainKeys := false, apart := false, laid := [("ferryman/model.does", laid_ferryman_model_does)] }
def ModelNamesSaid : Prop := modelNamesRow.holds Tryd.pinned (OpenSpec.ofChange modelNamesSpec)

/-- ITS FALSE NEIGHBOUR: 'it returns false'. Refute it at one input. -/
def modelNamesWrong : ChangeSpec := { name := "modelNames", fn := fun _ => fun
  | [] => { results := [.lit (.bool false)], args := [] }
  | _ => none }
def ModelNamesWrongFalsely : Prop := modelNamesRow.holds Tryd.pinned (OpenSpec.ofChange modelNamesWrong)

/-- 'ferrymanlaw16.ModelTasks': WHATEVER THE INPUT: true; the input reads as it did. -/
def modelTasksSpec : ChangeSpec := { name := "modelTasks", fn := fun _ => fun
  | [d1, d2, d3] => { results := [.lit (.bool true)], args := [d1, d2, d3] }
  | _ => none }
def modelTasksRow : OpenClaim := { program := "ytcngjjlhdlbogaadoor", sum := "f44bef999af541ee8e9888486e24314ada1d7dddd94e87aa244fb2e88259f3f6", func := "ferryman/ferrymanlaw16.ModelTasks", spec := "modelTasks", inPlace := ["internal/bytealg.abigen_runtime_cmpstring", "maps.clone"], unfollowed := true, recurses := true, named := ["ferryman/model.does"], plainKeys := false, apart := false, laid := [("ferryman/model.does", laid_ferryman_model_does)] }
def ModelTasksSaid : Prop := modelTasksRow.holds Tryd.pinned (OpenSpec.ofChange modelTasksSpec)

/-- ITS FALSE NEIGHBOUR: 'it returns false'. Refute it at one input. -/
def modelTasksWrong : ChangeSpec := { name := "modelTasks", fn := fun _ => fun
  | [d1, d2, d3] => { results := [.lit (.bool false)], args := [d1, d2, d3] }
  | _ => none }
def ModelTasksWrongFalsely : Prop := modelTasksRow.holds Tryd.pinned (OpenSpec.ofChange modelTasksWrong)

/-- 'ferrymanlaw16.ModelCopies': WHATEVER THE INPUT: true; the input reads as it did. -/
def modelCopiesSpec : ChangeSpec := { name := "modelCopies", fn := fun _ => fun
  | [d1, d2, d3] => { results := [.lit (.bool true)], args := [d1, d2, d3] }
  | _ => none }
def modelCopiesRow : OpenClaim := { program := "ytcngjjlhdlbogaadoor", sum := "f44bef999af541ee8e9888486e24314ada1d7dddd94e87aa244fb2e88259f3f6", func := "ferryman/ferrymanlaw16.ModelCopies", spec := "modelCopies", inPlace := ["internal/bytealg.abigen_runtime_cmpstring", "maps.clone"], unfollowed := true, recurses := true, named := ["ferryman/model.does"], plainKeys := false, apart := false, laid := [("ferryman/model.does", laid_ferryman_model_does)] }
def ModelCopiesSaid : Prop := modelCopiesRow.holds Tryd.pinned (OpenSpec.ofChange modelCopiesSpec)

/-- ITS FALSE NEIGHBOUR: 'it returns false'. Refute it at one input. -/
def modelCopiesWrong : ChangeSpec := { name := "modelCopies", fn := fun _ => fun
  | [d1, d2, d3] => { results := [.lit (.bool false)], args := [d1, d2, d3] }
  | _ => none }
def ModelCopiesWrongFalsely : Prop := modelCopiesRow.holds Tryd.pinned (OpenSpec.ofChange modelCopiesWrong)

/-- 'ferrymanlaw16.ModelPlays': WHATEVER THE INPUT: true; the input reads as it did. -/
def modelPlaysSpec : ChangeSpec := { name := "modelPlays", fn := fun _ => fun
  | [d1, d2] => { results := [.lit (.bool true)], args := [d1, d2] }
  | _ => none }
def modelPlaysRow : OpenClaim := { program := "ytcngjjlhdlbogaadoor", sum := "f44bef999af541ee8e9888486e24314ada1d7dddd94e87aa244fb2e88259f3f6", func := "ferryman/ferrymanlaw16.ModelPlays", spec := "modelPlays", inPlace := ["internal/bytealg.abigen_runtime_cmpstring", "maps.clone"], unfollowed := true, recurses := true, named := ["ferryman/model.does"], plainKeys := false, apart := false, laid := [("ferryman/model.does", laid_ferryman_model_does)] }
def ModelPlaysSaid : Prop := modelPlaysRow.holds Tryd.pinned (OpenSpec.ofChange modelPlaysSpec)

/-- ITS FALSE NEIGHBOUR: 'it returns false'. Refute it at one input. -/
def modelPlaysWrong : ChangeSpec := { name := "modelPlays", fn := fun _ => fun
  | [d1, d2] => { results := [.lit (.bool false)], args := [d1, d2] }
  | _ => none }
def ModelPlaysWrongFalsely : Prop := modelPlaysRow.holds Tryd.pinned (OpenSpec.ofChange modelPlaysWrong)

/-- 'ferrymanlaw16.ModelMany': WHATEVER THE INPUT: true; the input reads as it did. -/
def modelManySpec : ChangeSpec := { name := "modelMany", fn := fun _ => fun
  | [d1, d2] => { results := [.lit (.bool true)], args := [d1, d2] }
  | _ => none }
def modelManyRow : OpenClaim := { program := "ytcngjjlhdlbogaadoor", sum := "f44bef999af541ee8e9888486e24314ada1d7dddd94e87aa244fb2e88259f3f6", func := "ferryman/ferrymanlaw16.ModelMany", spec := "modelMany", inPlace := ["internal/bytealg.abigen_runtime_cmpstring", "maps.clone"], unfollowed := true, recurses := true, named := ["ferryman/model.does"], plainKeys := false, apart := false, laid := [("ferryman/model.does", laid_ferryman_model_does)] }
def ModelManySaid : Prop := modelManyRow.holds Tryd.pinned (OpenSpec.ofChange modelManySpec)

/-- ITS FALSE NEIGHBOUR: 'it returns false'. Refute it at one input. -/
def modelManyWrong : ChangeSpec := { name := "modelMany", fn := fun _ => fun
  | [d1, d2] => { results := [.lit (.bool false)], args := [d1, d2] }
  | _ => none }
def ModelManyWrongFalsely : Prop := modelManyRow.holds Tryd.pinned (OpenSpec.ofChange modelManyWrong)

/- THE SECOND FORM. 'bulk': how many values and letters a reading holds, each counted each time it is reached (what is shared counts as often as it is met; a slice's spare places count too). A statement '..UptoSaid' is the law's where the arguments, and the package variables that the reading takes, are together of bulk at most 1048576: NARROWER than '..Said'. Prove '..Said' where nothing that the law and all that it calls make is longer than what came in: it says more and counts as full. Else prove '..UptoSaid'. A law counts once. -/
mutual
def uptoBulk {H : Type} : DataW H → Nat
  | .lit (.string bytes) => bytes.length + 1
  | .lit _ => 1
  | .nil => 1
  | .ptr d => uptoBulk d + 1
  | .slice elems spare => uptoBulkAll elems + uptoBulkAll spare + 1
  | .agg parts => uptoBulkAll parts + 1
  | .iface _ d => uptoBulk d + 1
  | .map entries => uptoBulkEntries entries + 1
  | .held _ => 1
def uptoBulkAll {H : Type} : List (DataW H) → Nat
  | [] => 0
  | d :: r => uptoBulk d + uptoBulkAll r
def uptoBulkEntries {H : Type} : List (Lit × DataW H) → Nat
  | [] => 0
  | x :: r => uptoBulkEntry x + uptoBulkEntries r
def uptoBulkEntry {H : Type} : Lit × DataW H → Nat
  | (.string bytes, d) => bytes.length + uptoBulk d + 1
  | (_, d) => uptoBulk d + 1
 end
def uptoSmall : (H : Type) → List (DataW H) → Bool := fun _ ds => decide (uptoBulkAll ds ≤ 1048576)
def OpenSpec.upto (s : _root_.Go.ChangeSpec) : _root_.Go.OpenSpec := { _root_.Go.OpenSpec.ofChange s with cond := some uptoSmall }

/-- 'ferrymanlaw16.ModelSnapshot', WHERE WHAT IT READS IS OF BULK AT MOST 1048576: true; the input reads as it did. -/
def modelSnapshotUptoRow : OpenClaim := { program := "ytcngjjlhdlbogaadoor", sum := "f44bef999af541ee8e9888486e24314ada1d7dddd94e87aa244fb2e88259f3f6", func := "ferryman/ferrymanlaw16.ModelSnapshot", spec := "modelSnapshot", inPlace := ["internal/bytealg.abigen_runtime_cmpstring"], unfollowed := true, recurses := true, named := ["ferryman/model.does"], plainKeys := false, apart := false, laid := [("ferryman/model.does", laid_ferryman_model_does)], narrowed := true }
def ModelSnapshotUptoSaid : Prop := modelSnapshotUptoRow.holds Tryd.pinned (OpenSpec.upto modelSnapshotSpec)

/-- 'ferrymanlaw16.ModelFirst', WHERE WHAT IT READS IS OF BULK AT MOST 1048576: true; the input reads as it did. -/
def modelFirstUptoRow : OpenClaim := { program := "ytcngjjlhdlbogaadoor", sum := "f44bef999af541ee8e9888486e24314ada1d7dddd94e87aa244fb2e88259f3f6", func := "ferryman/ferrymanlaw16.ModelFirst", spec := "modelFirst", inPlace := ["internal/bytealg.abigen_runtime_cmpstring"], unfollowed := true, recurses := true, named := ["ferryman/model.does"], plainKeys := false, apart := false, laid := [("ferryman/model.does", laid_ferryman_model_does)], narrowed := true }
def ModelFirstUptoSaid : Prop := modelFirstUptoRow.holds Tryd.pinned (OpenSpec.upto modelFirstSpec)

/-- 'ferrymanlaw16.ModelVacuums', WHERE WHAT IT READS IS OF BULK AT MOST 1048576: true; the input reads as it did. -/
def modelVacuumsUptoRow : OpenClaim := { program := "ytcngjjlhdlbogaadoor", sum := "f44bef999af541ee8e9888486e24314ada1d7dddd94e87aa244fb2e88259f3f6", func := "ferryman/ferrymanlaw16.ModelVacuums", spec := "modelVacuums", inPlace := ["internal/bytealg.abigen_runtime_cmpstring"], unfollowed := true, recurses := true, named := ["ferryman/model.does"], plainKeys := false, apart := false, laid := [("ferryman/model.does", laid_ferryman_model_does)], narrowed := true }
def ModelVacuumsUptoSaid : Prop := modelVacuumsUptoRow.holds Tryd.pinned (OpenSpec.upto modelVacuumsSpec)

/-- 'ferrymanlaw16.ModelNames', WHERE WHAT IT READS IS OF BULK AT MOST 1048576: true; the input reads as it did. -/
def modelNamesUptoRow : OpenClaim := { program := "ytcngjjlhdlbogaadoor", sum := "f44bef999af541ee8e9888486e24314ada1d7dddd94e87aa244fb2e88259f3f6", func := "ferryman/ferrymanlaw16.ModelNames", spec := "modelNames", inPlace := ["internal/bytealg.abigen_runtime_cmpstring", "maps.clone"], unfollowed := true, recurses := true, named := ["ferryman/model.does"], plainKeys := false, apart := false, laid := [("ferryman/model.does", laid_ferryman_model_does)], narrowed := true }
def ModelNamesUptoSaid : Prop := modelNamesUptoRow.holds Tryd.pinned (OpenSpec.upto modelNamesSpec)

/-- 'ferrymanlaw16.ModelTasks', WHERE WHAT IT READS IS OF BULK AT MOST 1048576: true; the input reads as it did. -/
def modelTasksUptoRow : OpenClaim := { program := "ytcngjjlhdlbogaadoor", sum := "f44bef999af541ee8e9888486e24314ada1d7dddd94e87aa244fb2e88259f3f6", func := "ferryman/ferrymanlaw16.ModelTasks", spec := "modelTasks", inPlace := ["internal/bytealg.abigen_runtime_cmpstring", "maps.clone"], unfollowed := true, recurses := true, named := ["ferryman/model.does"], plainKeys := false, apart := false, laid := [("ferryman/model.does", laid_ferryman_model_does)], narrowed := true }
def ModelTasksUptoSaid : Prop := modelTasksUptoRow.holds Tryd.pinned (OpenSpec.upto modelTasksSpec)

/-- 'ferrymanlaw16.ModelCopies', WHERE WHAT IT READS IS OF BULK AT MOST 1048576: true; the input reads as it did. -/
def modelCopiesUptoRow : OpenClaim := { program := "ytcngjjlhdlbogaadoor", sum := "f44bef999af541ee8e9888486e24314ada1d7dddd94e87aa244fb2e88259f3f6", func := "ferryman/ferrymanlaw16.ModelCopies", spec := "modelCopies", inPlace := ["internal/bytealg.abigen_runtime_cmpstring", "maps.clone"], unfollowed := true, recurses := true, named := ["ferryman/model.does"], plainKeys := false, apart := false, laid := [("ferryman/model.does", laid_ferryman_model_does)], narrowed := true }
def ModelCopiesUptoSaid : Prop := modelCopiesUptoRow.holds Tryd.pinned (OpenSpec.upto modelCopiesSpec)

/-- 'ferrymanlaw16.ModelPlays', WHERE WHAT IT READS IS OF BULK AT MOST 1048576: true; the input reads as it did. -/
def modelPlaysUptoRow : OpenClaim := { program := "ytcngjjlhdlbogaadoor", sum := "f44bef999af541ee8e9888486e24314ada1d7dddd94e87aa244fb2e88259f3f6", func := "ferryman/ferrymanlaw16.ModelPlays", spec := "modelPlays", inPlace := ["internal/bytealg.abigen_runtime_cmpstring", "maps.clone"], unfollowed := true, recurses := true, named := ["ferryman/model.does"], plainKeys := false, apart := false, laid := [("ferryman/model.does", laid_ferryman_model_does)], narrowed := true }
def ModelPlaysUptoSaid : Prop := modelPlaysUptoRow.holds Tryd.pinned (OpenSpec.upto modelPlaysSpec)

/-- 'ferrymanlaw16.ModelMany', WHERE WHAT IT READS IS OF BULK AT MOST 1048576: true; the input reads as it did. -/
def modelManyUptoRow : OpenClaim := { program := "ytcngjjlhdlbogaadoor", sum := "f44bef999af541ee8e9888486e24314ada1d7dddd94e87aa244fb2e88259f3f6", func := "ferryman/ferrymanlaw16.ModelMany", spec := "modelMany", inPlace := ["internal/bytealg.abigen_runtime_cmpstring", "maps.clone"], unfollowed := true, recurses := true, named := ["ferryman/model.does"], plainKeys := false, apart := false, laid := [("ferryman/model.does", laid_ferryman_model_does)], narrowed := true }
def ModelManyUptoSaid : Prop := modelManyUptoRow.holds Tryd.pinned (OpenSpec.upto modelManySpec)

end Rows
end Go.Proofs.YtcngjjlhdlbogaaDoor
