/- The law KeepMore holds of the given program: it returns true for every input; the arguments read as before. -/
import Derived.Test.YtmoackfjfklfaaaOpnm1
import Derived.Test.YtmoackfjfklfaaaPureKeepMore
import Derived.WalkKit
import Derived.ProofKit
import Derived.OpenShut
import Derived.ShutString
import Derived.ChangeOld
import Derived.Below
import Derived.SizedLaws
import Derived.Carry
import Derived.JoinedCond
namespace Go.Proofs.Ytmoackfjfklfaaa.keepMore
open Go Go.ChangeShapes Go.WideShapes Go.ChangeAt Go.RowKit
open Go.ChangeMaps (open_string shut_string)
set_option linter.unusedVariables false
set_option linter.unusedSimpArgs false
theorem own : ownKnob Try.prog.godebug = none := by kernel_rfl
theorem laidOut : laidOutB Try.prog = true := by kernel_rfl
set_option maxHeartbeats 4000000 in
theorem contract (H : Type) (enc : TypeId × Value → H) (W : World) (base : Nat) (args : Array Value) (ds gs : List (DataW H)) (before : List MemPlace)
    (hval0 : ∀ (j : Nat) t v, Try.f5.params[j]? = some t → args[j]? = some v → Value.okWide Try.prog W .any base t v)
    (hW : DataW.Whole enc Try.prog Try.f5.params.toList Rows.keepMoreSpec.vars false W args.toList ds gs before) (hwt : (DataW.weightsEach Try.prog (Try.f5.params.toList ++ Rows.keepMoreSpec.plain.varTypes Try.prog) (ds ++ gs)).all (· ≤ reachBytes) = true) :
    Calls Try.prog 5 args W fun e W' => ∃ v, e = .returned v ∧ Rows.keepMoreSpec.post enc Try.prog Try.f5 false true false false W args v W' := by
  have hval : ∀ (j : Nat) t v, Try.f5.params[j]? = some t → args[j]? = some v → Value.okWide Try.prog W .any base t v := hval0
  have hW' := hW
  obtain ⟨p, q, hA0, hV, rfl, hfz, hnd⟩ := hW
  have hA : DataW.TrodAll enc Try.prog W 0 (fun _ => true) true Try.f5.params.toList args.toList ds p := hA0
  rw [Try.params5] at hA hval hwt
  obtain ⟨v0, vs0, d0, ds0, p0, q0, hargs, rfl, rfl, h0, r0⟩ := trodAll_cons hA
  obtain ⟨v1, vs1, d1, ds1, p1, q1, rfl, rfl, rfl, h1, r1⟩ := trodAll_cons r0
  obtain ⟨v2, vs2, d2, ds2, p2, q2, rfl, rfl, rfl, h2, r2⟩ := trodAll_cons r1
  obtain ⟨rfl, rfl, rfl⟩ := trodAll_nil r2
  obtain rfl : args = #[v0, v1, v2] := by cases args; simp_all
  obtain ⟨rfl, rfl⟩ := trodVars_none hV
  have k0 := h0
  have lt0 : ∀ x ∈ p0, x.block < W.heap.size := by obtain ⟨m, hm⟩ := k0; exact DataW.trod_lt m _ _ _ hm
  obtain ⟨A0, n0, c0, rfl⟩ := okWide_slice Try.underlying22 (hval 0 22 v0 rfl rfl)
  obtain ⟨f0, hf0⟩ := h0
  obtain ⟨a0, hR0, wf0, hsz0⟩ := (opens_slice Try.underlying22 (by kernel_rfl) (by decide) open_api_Version) H enc W (fun _ => true) true f0 _ _ hf0
  have wt0 := wt_sl Try.underlying22 hf0 (fun m hm => by simpa using List.all_eq_true.1 hwt m (DataW.weights_mem_each (j := 0) rfl rfl m hm))
  rw [(by kernel_rfl : Try.prog.bytesOf 27 = 40), (by decide : reachBytes = 140737488351232)] at wt0
  replace hsz0 : (szSl sz_api_Version) a0 ≤ Rows.uptoBulk d0 := hsz0
  obtain ⟨_, hr0, e0⟩ := hR0
  cases e0
  obtain ⟨rfl, _⟩ := hr0.len
  have k1 := h1
  have lt1 : ∀ x ∈ p1, x.block < W.heap.size := by obtain ⟨m, hm⟩ := k1; exact DataW.trod_lt m _ _ _ hm
  obtain ⟨z1, rfl⟩ := agg_of Try.underlying27 (hval 1 27 v1 rfl rfl)
  obtain ⟨f1, hf1⟩ := h1
  obtain ⟨a1, hR1, wf1, hsz1⟩ := open_api_Version H enc W (fun _ => true) true f1 _ _ hf1
  replace hsz1 : sz_api_Version a1 ≤ Rows.uptoBulk d1 := hsz1
  have e1 : z1.toList = [.int .i64 a1.Writer, .int .i64 a1.TS, .bool a1.Tomb, .string (bs a1.Value)] := hR1
  obtain rfl : z1 = #[.int .i64 a1.Writer, .int .i64 a1.TS, .bool a1.Tomb, .string (bs a1.Value)] := by rw [← Array.toArray_toList (xs := z1), e1]
  have k2 := h2
  have lt2 : ∀ x ∈ p2, x.block < W.heap.size := by obtain ⟨m, hm⟩ := k2; exact DataW.trod_lt m _ _ _ hm
  obtain ⟨z2, rfl, _⟩ := open_int Try.underlying3 (hval 2 3 v2 rfl rfl) h2
  obtain ⟨f2, hf2⟩ := h2
  obtain ⟨a2, hR2, wf2, hsz2⟩ := (opens_int Try.underlying3) H enc W (fun _ => true) true f2 _ _ hf2
  replace hsz2 : sz1 a2 ≤ Rows.uptoBulk d2 := hsz2
  have e2 : [Value.int .i64 z2] = [Value.int .i64 a2] := hR2
  cases e2
  obtain ⟨k, hpure⟩ := pure_KeepMore a0 a1 z2 wf0 wf1 wf2 wt0
  have hcon := con_row (v0 := .bool true) (ferrymanlaw11_KeepMore.con k (Hp.of W) A0 c0 a0 a1 z2 true hr0 hpure) (fun v M Γ hΦ => hΦ.1)
  refine hcon.mono fun e W' ⟨he, bel⟩ => ?_
  subst he
  exact ⟨_, rfl, _, _, _, [], _, [], hW', trodAll_mk1 (shut_bool Try.underlying4 _), (trodAll_cons_mk (Below.trod laidOut (by kernel_rfl) (of_decide_eq_true (by kernel_rfl)) k0 bel lt0) (trodAll_cons_mk (Below.trod laidOut (by kernel_rfl) (of_decide_eq_true (by kernel_rfl)) k1 bel lt1) (trodAll_cons_mk (Below.trod laidOut (by kernel_rfl) (of_decide_eq_true (by kernel_rfl)) k2 bel lt2) trodAll_mk0))), rfl, bel.frame _, fun h => by cases h⟩
set_option maxRecDepth 100000 in
theorem lifted (os : Os) (started : os.Started) (H : Type) (enc : TypeId × Value → H) :
    ReturnsInHanded {} Try.checked os 5 .any (Rows.keepMoreSpec.pre6 enc Try.prog Try.f5 Rows.keepMoreRow.domain false) (Rows.keepMoreSpec.post enc Try.prog Try.f5 false true false false) := by
  refine returnsInHanded_of_change_sized (C := Try.checked) own started (by kernel_rfl) Try.func5
    (ChangeSpec.witness6 (enc := enc) (C := Try.checked) false ⟨#[], #[.slice none 0 0, .agg #[.int .i64 0, .int .i64 0, .bool false, .string ByteArray.empty], .int .i64 0], []⟩ 8 (by kernel_rfl) (by kernel_rfl) (by kernel_rfl) (by kernel_rfl)) ?_
  intro W base args ds gs before hval0 hW hcnd hsz0 _
  exact contract H enc W base args ds gs before hval0 hW hsz0
theorem over : Rows.keepMoreRow.holds Try.pinned (OpenSpec.ofChange Rows.keepMoreSpec) :=
  OpenClaim.holds_of_wide 5 Try.f5 rfl rfl rfl rfl rfl rfl rfl ⟨rfl, rfl, rfl, rfl, rfl⟩ rfl rfl rfl rfl rfl (by kernel_rfl) Try.func5 (by kernel_rfl)
    (of_decide_eq_true (by kernel_rfl)) (by unfold Func.isWrapper; first | (rw [if_pos (by decide +kernel)]; kernel_rfl) | (rw [if_neg (by decide +kernel)]; exact ⟨rfl, rfl⟩))
    (fun os started H enc _ => lifted os started H enc)
theorem proved : Rows.KeepMoreSaid := over
#print axioms proved
end Go.Proofs.Ytmoackfjfklfaaa.keepMore
namespace Go.Proofs.Ytmoackfjfklfaaa
theorem keepMore_holds : Rows.KeepMoreSaid := keepMore.proved
end Go.Proofs.Ytmoackfjfklfaaa
