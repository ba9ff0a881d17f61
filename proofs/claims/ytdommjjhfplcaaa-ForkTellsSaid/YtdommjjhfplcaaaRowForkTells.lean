/- The law ForkTells holds of the given program: it returns true for every input; the arguments read as before. -/
import Derived.Test.YtdommjjhfplcaaaOpnf2
import Derived.Test.YtdommjjhfplcaaaPureForkTells
import Derived.WalkKit
import Derived.ProofKit
import Derived.OpenShut
import Derived.ShutString
import Derived.ChangeOld
import Derived.Below
import Derived.SizedLaws
import Derived.Carry
import Derived.JoinedCond
namespace Go.Proofs.Ytdommjjhfplcaaa.forkTells
open Go Go.ChangeShapes Go.WideShapes Go.ChangeAt Go.RowKit
open Go.ChangeMaps (open_string shut_string)
set_option linter.unusedVariables false
set_option linter.unusedSimpArgs false
theorem own : ownKnob Try.prog.godebug = none := by kernel_rfl
theorem laidOut : laidOutB Try.prog = true := by kernel_rfl
set_option maxHeartbeats 4000000 in
theorem contract (H : Type) (enc : TypeId × Value → H) (W : World) (base : Nat) (args : Array Value) (ds gs : List (DataW H)) (before : List MemPlace)
    (hval0 : ∀ (j : Nat) t v, Try.f8.params[j]? = some t → args[j]? = some v → Value.okWide Try.prog W .any base t v)
    (hW : DataW.Whole enc Try.prog Try.f8.params.toList Rows.forkTellsSpec.vars false W args.toList ds gs before) (hwt : (DataW.weightsEach Try.prog (Try.f8.params.toList ++ Rows.forkTellsSpec.plain.varTypes Try.prog) (ds ++ gs)).all (· ≤ reachBytes) = true) :
    Calls Try.prog 8 args W fun e W' => ∃ v, e = .returned v ∧ Rows.forkTellsSpec.post enc Try.prog Try.f8 false true false false W args v W' := by
  have hval : ∀ (j : Nat) t v, Try.f8.params[j]? = some t → args[j]? = some v → Value.okWide Try.prog W .any base t v := hval0
  have hW' := hW
  obtain ⟨p, q, hA0, hV, rfl, hfz, hnd⟩ := hW
  have hA : DataW.TrodAll enc Try.prog W 0 (fun _ => true) true Try.f8.params.toList args.toList ds p := hA0
  rw [Try.params8] at hA hval hwt
  obtain ⟨v0, vs0, d0, ds0, p0, q0, hargs, rfl, rfl, h0, r0⟩ := trodAll_cons hA
  obtain ⟨v1, vs1, d1, ds1, p1, q1, rfl, rfl, rfl, h1, r1⟩ := trodAll_cons r0
  obtain ⟨v2, vs2, d2, ds2, p2, q2, rfl, rfl, rfl, h2, r2⟩ := trodAll_cons r1
  obtain ⟨v3, vs3, d3, ds3, p3, q3, rfl, rfl, rfl, h3, r3⟩ := trodAll_cons r2
  obtain ⟨v4, vs4, d4, ds4, p4, q4, rfl, rfl, rfl, h4, r4⟩ := trodAll_cons r3
  obtain ⟨v5, vs5, d5, ds5, p5, q5, rfl, rfl, rfl, h5, r5⟩ := trodAll_cons r4
  obtain ⟨v6, vs6, d6, ds6, p6, q6, rfl, rfl, rfl, h6, r6⟩ := trodAll_cons r5
  obtain ⟨rfl, rfl, rfl⟩ := trodAll_nil r6
  obtain rfl : args = #[v0, v1, v2, v3, v4, v5, v6] := by cases args; simp_all
  obtain ⟨rfl, rfl⟩ := trodVars_none hV
  have k0 := h0
  have lt0 : ∀ x ∈ p0, x.block < W.heap.size := by obtain ⟨m, hm⟩ := k0; exact DataW.trod_lt m _ _ _ hm
  obtain ⟨z0, rfl⟩ := agg_of Try.underlying26 (hval 0 26 v0 rfl rfl)
  obtain ⟨f0, hf0⟩ := h0
  obtain ⟨a0, hR0, wf0, hsz0⟩ := open_fork_Node H enc W (fun _ => true) true f0 _ _ hf0
  have wt0 := wt_fork_Node hf0 hR0 (fun m hm => by simpa using List.all_eq_true.1 hwt m (DataW.weights_mem_each (j := 0) rfl rfl m hm))
  replace hsz0 : sz_fork_Node a0 ≤ Rows.uptoBulk d0 := hsz0
  obtain ⟨_, _, _, hr0_0, hr0_1, hr0_2, e0⟩ := hR0
  obtain ⟨A0_0, c0_0, rfl, _⟩ := hr0_0.form
  obtain ⟨A0_1, c0_1, rfl, _⟩ := hr0_1.form
  obtain ⟨A0_2, c0_2, rfl, _⟩ := hr0_2.form
  replace e0 : z0.toList = [.bool a0.Leaf, .slice A0_0 a0.Keys.length c0_0, .slice A0_1 a0.Kids.length c0_1, .slice A0_2 a0.Rows.length c0_2] := e0
  obtain rfl : z0 = #[.bool a0.Leaf, .slice A0_0 a0.Keys.length c0_0, .slice A0_1 a0.Kids.length c0_1, .slice A0_2 a0.Rows.length c0_2] := by rw [← Array.toArray_toList (xs := z0), e0]
  have k1 := h1
  have lt1 : ∀ x ∈ p1, x.block < W.heap.size := by obtain ⟨m, hm⟩ := k1; exact DataW.trod_lt m _ _ _ hm
  obtain ⟨z1, rfl⟩ := agg_of Try.underlying26 (hval 1 26 v1 rfl rfl)
  obtain ⟨f1, hf1⟩ := h1
  obtain ⟨a1, hR1, wf1, hsz1⟩ := open_fork_Node H enc W (fun _ => true) true f1 _ _ hf1
  have wt1 := wt_fork_Node hf1 hR1 (fun m hm => by simpa using List.all_eq_true.1 hwt m (DataW.weights_mem_each (j := 1) rfl rfl m hm))
  replace hsz1 : sz_fork_Node a1 ≤ Rows.uptoBulk d1 := hsz1
  obtain ⟨_, _, _, hr1_0, hr1_1, hr1_2, e1⟩ := hR1
  obtain ⟨A1_0, c1_0, rfl, _⟩ := hr1_0.form
  obtain ⟨A1_1, c1_1, rfl, _⟩ := hr1_1.form
  obtain ⟨A1_2, c1_2, rfl, _⟩ := hr1_2.form
  replace e1 : z1.toList = [.bool a1.Leaf, .slice A1_0 a1.Keys.length c1_0, .slice A1_1 a1.Kids.length c1_1, .slice A1_2 a1.Rows.length c1_2] := e1
  obtain rfl : z1 = #[.bool a1.Leaf, .slice A1_0 a1.Keys.length c1_0, .slice A1_1 a1.Kids.length c1_1, .slice A1_2 a1.Rows.length c1_2] := by rw [← Array.toArray_toList (xs := z1), e1]
  have k2 := h2
  have lt2 : ∀ x ∈ p2, x.block < W.heap.size := by obtain ⟨m, hm⟩ := k2; exact DataW.trod_lt m _ _ _ hm
  obtain ⟨z2, rfl, _⟩ := open_string Try.underlying9 (hval 2 9 v2 rfl rfl) h2
  obtain ⟨f2, hf2⟩ := h2
  obtain ⟨a2, hR2, wf2, hsz2⟩ := (opens_str Try.underlying9) H enc W (fun _ => true) true f2 _ _ hf2
  replace hsz2 : szStr a2 ≤ Rows.uptoBulk d2 := hsz2
  have e2 : [Value.string z2] = [Value.string (bs a2)] := hR2
  cases e2
  have k3 := h3
  have lt3 : ∀ x ∈ p3, x.block < W.heap.size := by obtain ⟨m, hm⟩ := k3; exact DataW.trod_lt m _ _ _ hm
  obtain ⟨z3, rfl, _⟩ := open_int Try.underlying3 (hval 3 3 v3 rfl rfl) h3
  obtain ⟨f3, hf3⟩ := h3
  obtain ⟨a3, hR3, wf3, hsz3⟩ := (opens_int Try.underlying3) H enc W (fun _ => true) true f3 _ _ hf3
  replace hsz3 : sz1 a3 ≤ Rows.uptoBulk d3 := hsz3
  have e3 : [Value.int .i64 z3] = [Value.int .i64 a3] := hR3
  cases e3
  have k4 := h4
  have lt4 : ∀ x ∈ p4, x.block < W.heap.size := by obtain ⟨m, hm⟩ := k4; exact DataW.trod_lt m _ _ _ hm
  obtain ⟨z4, rfl, _⟩ := open_int Try.underlying3 (hval 4 3 v4 rfl rfl) h4
  obtain ⟨f4, hf4⟩ := h4
  obtain ⟨a4, hR4, wf4, hsz4⟩ := (opens_int Try.underlying3) H enc W (fun _ => true) true f4 _ _ hf4
  replace hsz4 : sz1 a4 ≤ Rows.uptoBulk d4 := hsz4
  have e4 : [Value.int .i64 z4] = [Value.int .i64 a4] := hR4
  cases e4
  have k5 := h5
  have lt5 : ∀ x ∈ p5, x.block < W.heap.size := by obtain ⟨m, hm⟩ := k5; exact DataW.trod_lt m _ _ _ hm
  obtain ⟨z5, rfl, _⟩ := open_int Try.underlying5 (hval 5 5 v5 rfl rfl) h5
  obtain ⟨f5, hf5⟩ := h5
  obtain ⟨a5, hR5, wf5, hsz5⟩ := (opens_int Try.underlying5) H enc W (fun _ => true) true f5 _ _ hf5
  replace hsz5 : sz1 a5 ≤ Rows.uptoBulk d5 := hsz5
  have e5 : [Value.int .u8 z5] = [Value.int .u8 a5] := hR5
  cases e5
  have k6 := h6
  have lt6 : ∀ x ∈ p6, x.block < W.heap.size := by obtain ⟨m, hm⟩ := k6; exact DataW.trod_lt m _ _ _ hm
  obtain ⟨z6, rfl, _⟩ := open_bool Try.underlying4 (hval 6 4 v6 rfl rfl) h6
  obtain ⟨f6, hf6⟩ := h6
  obtain ⟨a6, hR6, wf6, hsz6⟩ := (opens_bool Try.underlying4) H enc W (fun _ => true) true f6 _ _ hf6
  replace hsz6 : sz1 a6 ≤ Rows.uptoBulk d6 := hsz6
  have e6 : [Value.bool z6] = [Value.bool a6] := hR6
  cases e6
  obtain ⟨k, hpure⟩ := pure_ForkTells a0 a1 a2 z3 z4 z5 z6 wf0 wf1 wf2 wf3 wf4 wf5 wf6 wt0 wt1
  have hcon := con_row (v0 := .bool true) (ferrymanlaw13_ForkTells.con k (Hp.of W) A0_0 c0_0 A0_1 c0_1 A0_2 c0_2 a0 A1_0 c1_0 A1_1 c1_1 A1_2 c1_2 a1 a2 z3 z4 z5 z6 true hr0_0 hr0_1 hr0_2 hr1_0 hr1_1 hr1_2 hpure) (fun v M Γ hΦ => hΦ.1)
  refine hcon.mono fun e W' ⟨he, bel⟩ => ?_
  subst he
  exact ⟨_, rfl, _, _, _, [], _, [], hW', trodAll_mk1 (shut_bool Try.underlying4 _), (trodAll_cons_mk (Below.trod laidOut (by kernel_rfl) (of_decide_eq_true (by kernel_rfl)) k0 bel lt0) (trodAll_cons_mk (Below.trod laidOut (by kernel_rfl) (of_decide_eq_true (by kernel_rfl)) k1 bel lt1) (trodAll_cons_mk (Below.trod laidOut (by kernel_rfl) (of_decide_eq_true (by kernel_rfl)) k2 bel lt2) (trodAll_cons_mk (Below.trod laidOut (by kernel_rfl) (of_decide_eq_true (by kernel_rfl)) k3 bel lt3) (trodAll_cons_mk (Below.trod laidOut (by kernel_rfl) (of_decide_eq_true (by kernel_rfl)) k4 bel lt4) (trodAll_cons_mk (Below.trod laidOut (by kernel_rfl) (of_decide_eq_true (by kernel_rfl)) k5 bel lt5) (trodAll_cons_mk (Below.trod laidOut (by kernel_rfl) (of_decide_eq_true (by kernel_rfl)) k6 bel lt6) trodAll_mk0))))))), rfl, bel.frame _, fun h => by cases h⟩
set_option maxRecDepth 100000 in
theorem lifted (os : Os) (started : os.Started) (H : Type) (enc : TypeId × Value → H) :
    ReturnsInHanded {} Try.checked os 8 .any (Rows.forkTellsSpec.pre6 enc Try.prog Try.f8 Rows.forkTellsRow.domain false) (Rows.forkTellsSpec.post enc Try.prog Try.f8 false true false false) := by
  refine returnsInHanded_of_change_sized (C := Try.checked) own started (by kernel_rfl) Try.func8
    (ChangeSpec.witness6 (enc := enc) (C := Try.checked) false ⟨#[], #[.agg #[.bool false, .slice none 0 0, .slice none 0 0, .slice none 0 0], .agg #[.bool false, .slice none 0 0, .slice none 0 0, .slice none 0 0], .string ByteArray.empty, .int .i64 0, .int .i64 0, .int .u8 0, .bool false], []⟩ 8 (by kernel_rfl) (by kernel_rfl) (by kernel_rfl) (by kernel_rfl)) ?_
  intro W base args ds gs before hval0 hW hcnd hsz0 _
  exact contract H enc W base args ds gs before hval0 hW hsz0
theorem over : Rows.forkTellsRow.holds Try.pinned (OpenSpec.ofChange Rows.forkTellsSpec) :=
  OpenClaim.holds_of_wide 8 Try.f8 rfl rfl rfl rfl rfl rfl rfl ⟨rfl, rfl, rfl, rfl, rfl⟩ rfl rfl rfl rfl rfl (by kernel_rfl) Try.func8 (by kernel_rfl)
    (of_decide_eq_true (by kernel_rfl)) (by unfold Func.isWrapper; first | (rw [if_pos (by decide +kernel)]; kernel_rfl) | (rw [if_neg (by decide +kernel)]; exact ⟨rfl, rfl⟩))
    (fun os started H enc _ => lifted os started H enc)
theorem proved : Rows.ForkTellsSaid := over
#print axioms proved
end Go.Proofs.Ytdommjjhfplcaaa.forkTells
namespace Go.Proofs.Ytdommjjhfplcaaa
theorem forkTells_holds : Rows.ForkTellsSaid := forkTells.proved
end Go.Proofs.Ytdommjjhfplcaaa
