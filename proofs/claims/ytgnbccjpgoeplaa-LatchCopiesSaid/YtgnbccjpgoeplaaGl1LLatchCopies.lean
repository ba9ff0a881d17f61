import Derived.Test.YtgnbccjpgoeplaaGl1
namespace Go.Proofs.Ytgnbccjpgoeplaa
open Go
set_option linter.unusedVariables false
set_option linter.unusedSimpArgs false
/-! ### ferryman/ferrymanlaw05.LatchCopies: function 8 -/
def ferrymanlaw05_LatchCopies_l2 (a0 : (List ferrymanlaw05_Step)) (a1 : (List ferrymanlaw05_Step)) (a2 : (List ferrymanlaw05_Step)) (x5374 : List (latch_Name × Int)) (x5378 : List (latch_Name × Int)) (t6160 : latch_Latches) (t6192 : latch_Latches) : Nat → Int → Option ((Bool) ⊕ ((List (latch_Name × Int)) × (List (latch_Name × Int)) × (List (latch_Name × Int)) × (List (latch_Name × Int))))
  | 0, _ => none
  | k + 1, x6361 => (if (decide (x6361 < ((((([] : List ferrymanlaw05_Step) ++ a0) ++ a1) ++ a2).length : Int))) = true then (if 0 ≤ x6361 ∧ x6361 < ((((([] : List ferrymanlaw05_Step) ++ a0) ++ a1) ++ a2).length : Int) then (Option.bind (latch_Latches_Owner_PO k (⟨x5378⟩ : latch_Latches) ((rd (((([] : List ferrymanlaw05_Step) ++ a0) ++ a1) ++ a2) x6361).N)) (fun t6456 => (if 0 ≤ x6361 ∧ x6361 < ((((([] : List ferrymanlaw05_Step) ++ a0) ++ a1) ++ a2).length : Int) then (Option.bind (latch_Latches_Owner_PO k t6160 ((rd (((([] : List ferrymanlaw05_Step) ++ a0) ++ a1) ++ a2) x6361).N)) (fun t6471 => (if 0 ≤ x6361 ∧ x6361 < ((((([] : List ferrymanlaw05_Step) ++ a0) ++ a1) ++ a2).length : Int) then (Option.bind (latch_Latches_Owner_PO k (⟨x5374⟩ : latch_Latches) ((rd (((([] : List ferrymanlaw05_Step) ++ a0) ++ a1) ++ a2) x6361).N)) (fun t6486 => (if 0 ≤ x6361 ∧ x6361 < ((((([] : List ferrymanlaw05_Step) ++ a0) ++ a1) ++ a2).length : Int) then (Option.bind (latch_Latches_Owner_PO k t6192 ((rd (((([] : List ferrymanlaw05_Step) ++ a0) ++ a1) ++ a2) x6361).N)) (fun t6501 => (if ((((t6456.1 != t6471.1) || (!(t6456.2 == t6471.2))) || (t6486.1 != t6501.1)) || (!(t6486.2 == t6501.2))) = true then some (.inl false) else ferrymanlaw05_LatchCopies_l2 a0 a1 a2 x5374 x5378 t6160 t6192 k (IntKind.i64.wrap (x6361 + (1 : Int)))))) else none))) else none))) else none))) else none) else some (.inr (t6192.by_, t6160.by_, x5374, x5378)))
set_option maxHeartbeats 2000000 in
theorem ferrymanlaw05_LatchCopies_l2.mono {a0 : (List ferrymanlaw05_Step)} {a1 : (List ferrymanlaw05_Step)} {a2 : (List ferrymanlaw05_Step)} {x5374 : List (latch_Name × Int)} {x5378 : List (latch_Name × Int)} {t6160 : latch_Latches} {t6192 : latch_Latches} : ∀ {k : Nat} {x0}, OLe (ferrymanlaw05_LatchCopies_l2 a0 a1 a2 x5374 x5378 t6160 t6192 k x0) (ferrymanlaw05_LatchCopies_l2 a0 a1 a2 x5374 x5378 t6160 t6192 (k + 1) x0) := by
  intro k
  induction k with
  | zero => intros; exact OLe.none
  | succ k ih =>
    intros
    rw [ferrymanlaw05_LatchCopies_l2.eq_2, ferrymanlaw05_LatchCopies_l2.eq_2]
    repeat' (first | with_reducible exact OLe.none | with_reducible exact OLe.some | with_reducible refine OLe.ite ?_ ?_ | with_reducible refine OLe.bind ?_ (fun _ => ?_) | with_reducible exact latch_Latches_Owner_PO.mono | exact ih | refine OLe.bind ?_ (fun _ => ?_) | refine OLe.ite ?_ ?_ | refine OLe.elim (fun _ => ?_) (fun _ => ?_) | split)
def ferrymanlaw05_LatchCopies_l1 (a2 : (List ferrymanlaw05_Step)) : Nat → Int → List (latch_Name × Int) → List (latch_Name × Int) → Option (((List (latch_Name × Int)) × (List (latch_Name × Int))))
  | 0, _, _, _ => none
  | k + 1, x4612, x4613, x4617 => (if (decide (x4612 < (a2.length : Int))) = true then (Option.bind (α := (List (latch_Name × Int)) × (List (latch_Name × Int))) (if 0 ≤ x4612 ∧ x4612 < (a2.length : Int) then (Option.bind (α := (List (latch_Name × Int)) × (List (latch_Name × Int))) (if (rd a2 x4612).Drop = true then (if 0 ≤ x4612 ∧ x4612 < (a2.length : Int) then (if 0 ≤ x4612 ∧ x4612 < (a2.length : Int) then (Option.bind (latch_Latches_Drop_PO k (⟨x4617⟩ : latch_Latches) ((rd a2 x4612).N) ((rd a2 x4612).Task)) (fun t6069 => some (t6069.2.by_, x4613))) else none) else none) else (if 0 ≤ x4612 ∧ x4612 < (a2.length : Int) then (if 0 ≤ x4612 ∧ x4612 < (a2.length : Int) then (Option.bind (latch_Latches_Try_PO k (⟨x4617⟩ : latch_Latches) ((rd a2 x4612).N) ((rd a2 x4612).Task)) (fun t6127 => some (t6127.2.by_, x4613))) else none) else none)) (fun ⟨x6009, x6013⟩ => some (x6009, x6013))) else none) (fun ⟨x5756, x5760⟩ => ferrymanlaw05_LatchCopies_l1 a2 k (IntKind.i64.wrap (x4612 + (1 : Int))) x5760 x5756)) else some (x4613, x4617))
set_option maxHeartbeats 2000000 in
theorem ferrymanlaw05_LatchCopies_l1.mono {a2 : (List ferrymanlaw05_Step)} : ∀ {k : Nat} {x0 x1 x2}, OLe (ferrymanlaw05_LatchCopies_l1 a2 k x0 x1 x2) (ferrymanlaw05_LatchCopies_l1 a2 (k + 1) x0 x1 x2) := by
  intro k
  induction k with
  | zero => intros; exact OLe.none
  | succ k ih =>
    intros
    rw [ferrymanlaw05_LatchCopies_l1.eq_2, ferrymanlaw05_LatchCopies_l1.eq_2]
    repeat' (first | with_reducible exact OLe.none | with_reducible exact OLe.some | with_reducible refine OLe.ite ?_ ?_ | with_reducible refine OLe.bind ?_ (fun _ => ?_) | with_reducible exact latch_Latches_Drop_PO.mono | with_reducible exact latch_Latches_Try_PO.mono | exact ih | refine OLe.bind ?_ (fun _ => ?_) | refine OLe.ite ?_ ?_ | refine OLe.elim (fun _ => ?_) (fun _ => ?_) | split)
def ferrymanlaw05_LatchCopies_l0 (a1 : (List ferrymanlaw05_Step)) : Nat → Int → List (latch_Name × Int) → List (latch_Name × Int) → Option (((List (latch_Name × Int)) × (List (latch_Name × Int))))
  | 0, _, _, _ => none
  | k + 1, x1562, x1563, x1567 => (if (decide (x1562 < (a1.length : Int))) = true then (Option.bind (α := (List (latch_Name × Int)) × (List (latch_Name × Int))) (if 0 ≤ x1562 ∧ x1562 < (a1.length : Int) then (Option.bind (α := (List (latch_Name × Int)) × (List (latch_Name × Int))) (if (rd a1 x1562).Drop = true then (if 0 ≤ x1562 ∧ x1562 < (a1.length : Int) then (if 0 ≤ x1562 ∧ x1562 < (a1.length : Int) then (Option.bind (latch_Latches_Drop_PO k (⟨x1563⟩ : latch_Latches) ((rd a1 x1562).N) ((rd a1 x1562).Task)) (fun t3019 => some (t3019.2.by_, x1567))) else none) else none) else (if 0 ≤ x1562 ∧ x1562 < (a1.length : Int) then (if 0 ≤ x1562 ∧ x1562 < (a1.length : Int) then (Option.bind (latch_Latches_Try_PO k (⟨x1563⟩ : latch_Latches) ((rd a1 x1562).N) ((rd a1 x1562).Task)) (fun t3077 => some (t3077.2.by_, x1567))) else none) else none)) (fun ⟨x2959, x2963⟩ => some (x2959, x2963))) else none) (fun ⟨x2706, x2710⟩ => ferrymanlaw05_LatchCopies_l0 a1 k (IntKind.i64.wrap (x1562 + (1 : Int))) x2706 x2710)) else some (x1563, x1567))
set_option maxHeartbeats 2000000 in
theorem ferrymanlaw05_LatchCopies_l0.mono {a1 : (List ferrymanlaw05_Step)} : ∀ {k : Nat} {x0 x1 x2}, OLe (ferrymanlaw05_LatchCopies_l0 a1 k x0 x1 x2) (ferrymanlaw05_LatchCopies_l0 a1 (k + 1) x0 x1 x2) := by
  intro k
  induction k with
  | zero => intros; exact OLe.none
  | succ k ih =>
    intros
    rw [ferrymanlaw05_LatchCopies_l0.eq_2, ferrymanlaw05_LatchCopies_l0.eq_2]
    repeat' (first | with_reducible exact OLe.none | with_reducible exact OLe.some | with_reducible refine OLe.ite ?_ ?_ | with_reducible refine OLe.bind ?_ (fun _ => ?_) | with_reducible exact latch_Latches_Drop_PO.mono | with_reducible exact latch_Latches_Try_PO.mono | exact ih | refine OLe.bind ?_ (fun _ => ?_) | refine OLe.ite ?_ ?_ | refine OLe.elim (fun _ => ?_) (fun _ => ?_) | split)
def ferrymanlaw05_LatchCopies (k : Nat) (a0 : (List ferrymanlaw05_Step)) (a1 : (List ferrymanlaw05_Step)) (a2 : (List ferrymanlaw05_Step)) : Option (Bool) :=
  (Option.bind (α := Bool) (if (decide ((IntKind.i64.wrap ((IntKind.i64.wrap ((a0.length : Int) + (a1.length : Int))) + (a2.length : Int))) > (300 : Int))) = true then some (true) else (Option.bind (ferrymanlaw05_awake k ) (fun t10 => some ((!t10))))) (fun x8 => (if x8 = true then (Option.bind (ferrymanlaw05_awake k ) (fun t15 => some t15)) else (Option.bind (ferrymanlaw05_run k a0) (fun t18 => (Option.bind (latch_Latches_Copy_PO k t18) (fun t28 => (Option.bind (ferrymanlaw05_LatchCopies_l0 a1 k (0 : Int) t28.by_ t18.by_) (fun ⟨x2324, x2328⟩ => (Option.bind (ferrymanlaw05_LatchCopies_l1 a2 k (0 : Int) x2324 x2328) (fun ⟨x5374, x5378⟩ => (if ([] : List ferrymanlaw05_Step).length + a0.length ≤ 4398046511104 then (if (([] : List ferrymanlaw05_Step) ++ a0).length + a2.length ≤ 4398046511104 then (Option.bind (ferrymanlaw05_run k ((([] : List ferrymanlaw05_Step) ++ a0) ++ a2)) (fun t6160 => (if ([] : List ferrymanlaw05_Step).length + a0.length ≤ 4398046511104 then (if (([] : List ferrymanlaw05_Step) ++ a0).length + a1.length ≤ 4398046511104 then (Option.bind (ferrymanlaw05_run k ((([] : List ferrymanlaw05_Step) ++ a0) ++ a1)) (fun t6192 => (if ([] : List ferrymanlaw05_Step).length + a0.length ≤ 4398046511104 then (if (([] : List ferrymanlaw05_Step) ++ a0).length + a1.length ≤ 4398046511104 then (if ((([] : List ferrymanlaw05_Step) ++ a0) ++ a1).length + a2.length ≤ 4398046511104 then (Option.bind (ferrymanlaw05_LatchCopies_l2 a0 a1 a2 x5374 x5378 t6160 t6192 k (0 : Int)) (fun o6443o => Sum.elim (fun r' => some r') (fun ⟨x6427, x6431, x6435, x6439⟩ => (Option.bind (latch_Latches_All_PO k (⟨x6439⟩ : latch_Latches)) (fun t6511 => (Option.bind (latch_Latches_All_PO k (⟨x6431⟩ : latch_Latches)) (fun t6516 => (Option.bind (α := Bool) (if (t6511 == t6516) = true then (Option.bind (latch_Latches_All_PO k (⟨x6435⟩ : latch_Latches)) (fun t6544 => (Option.bind (latch_Latches_All_PO k (⟨x6427⟩ : latch_Latches)) (fun t6549 => some ((t6544 == t6549)))))) else some (false)) (fun x6542 => some x6542))))))) o6443o)) else none) else none) else none))) else none) else none))) else none) else none))))))))))))
set_option maxHeartbeats 2000000 in
theorem ferrymanlaw05_LatchCopies.mono {k : Nat} {a0 : (List ferrymanlaw05_Step)} {a1 : (List ferrymanlaw05_Step)} {a2 : (List ferrymanlaw05_Step)} : OLe (ferrymanlaw05_LatchCopies k a0 a1 a2) (ferrymanlaw05_LatchCopies (k + 1) a0 a1 a2) := by
  unfold ferrymanlaw05_LatchCopies
  repeat' (first | with_reducible exact OLe.none | with_reducible exact OLe.some | with_reducible refine OLe.ite ?_ ?_ | with_reducible refine OLe.bind ?_ (fun _ => ?_) | with_reducible exact ferrymanlaw05_LatchCopies_l0.mono | with_reducible exact ferrymanlaw05_LatchCopies_l1.mono | with_reducible exact ferrymanlaw05_LatchCopies_l2.mono | with_reducible exact ferrymanlaw05_awake.mono | with_reducible exact ferrymanlaw05_run.mono | with_reducible exact latch_Latches_All_PO.mono | with_reducible exact latch_Latches_Copy_PO.mono | refine OLe.bind ?_ (fun _ => ?_) | refine OLe.ite ?_ ?_ | refine OLe.elim (fun _ => ?_) (fun _ => ?_) | split)
set_option maxHeartbeats 8000000 in
set_option maxRecDepth 100000 in
theorem ferrymanlaw05_LatchCopies.con (k : Nat) (M : Hp) (A0 : Option Addr) (c0 : Nat) (a0 : (List ferrymanlaw05_Step)) (A1 : Option Addr) (c1 : Nat) (a1 : (List ferrymanlaw05_Step)) (A2 : Option Addr) (c2 : Nat) (a2 : (List ferrymanlaw05_Step)) (r : Bool) (hr0 : SlR r_ferrymanlaw05_Step M (.slice A0 a0.length c0) a0) (hr1 : SlR r_ferrymanlaw05_Step M (.slice A1 a1.length c1) a1) (hr2 : SlR r_ferrymanlaw05_Step M (.slice A2 a2.length c2) a2) (h : ferrymanlaw05_LatchCopies k a0 a1 a2 = some r) : Con Try.prog 8 #[.slice A0 a0.length c0, .slice A1 a1.length c1, .slice A2 a2.length c2] M [] (fun v M' Γ' => v = .bool r ∧ Γ' = []) := by
  refine con_of_wp Try.func8 rfl Try.ntmps8 Try.results8 rfl ?_
  intro w F rn S hrn
  have E := Ext.refl w
  have HM := Hp.le_refl M
  have H := h
  unfold ferrymanlaw05_LatchCopies at H
  refine Wp_seq ?_
  refine Wp_region_lit ?_
  refine W_v (.bool false) (x_assign rfl) rfl ?_
  refine Wl_nil ?_
  refine tn ?_
  refine Wp_seq ?_
  refine Wp_seq ?_
  refine Wp_region_lit ?_
  refine W_v (.slice A0 a0.length c0) (x_move rfl) rfl ?_
  refine W_v (.int .i64 (a0.length : Int)) (x_len_slice (n := a0.length) Try.underlying22 rfl) rfl ?_
  refine W_v (.slice A1 a1.length c1) (x_move rfl) rfl ?_
  refine W_v (.int .i64 (a1.length : Int)) (x_len_slice (n := a1.length) Try.underlying22 rfl) rfl ?_
  refine W_v (.int .i64 (IntKind.i64.wrap ((a0.length : Int) + (a1.length : Int)))) (x_ibin rfl rfl rfl rfl) rfl ?_
  refine W_v (.slice A2 a2.length c2) (x_move rfl) rfl ?_
  refine W_v (.int .i64 (a2.length : Int)) (x_len_slice (n := a2.length) Try.underlying22 rfl) rfl ?_
  refine W_v (.int .i64 (IntKind.i64.wrap ((IntKind.i64.wrap ((a0.length : Int) + (a1.length : Int))) + (a2.length : Int)))) (x_ibin rfl rfl rfl rfl) rfl ?_
  refine W_v (.bool (decide ((IntKind.i64.wrap ((IntKind.i64.wrap ((a0.length : Int) + (a1.length : Int))) + (a2.length : Int))) > (300 : Int)))) (x_ibin rfl rfl rfl rfl) rfl ?_
  refine W_v (.bool (decide ((IntKind.i64.wrap ((IntKind.i64.wrap ((a0.length : Int) + (a1.length : Int))) + (a2.length : Int))) > (300 : Int)))) (x_move rfl) rfl ?_
  obtain ⟨o9, o9h, o9H⟩ := bindS H
  clear H
  refine Wl_cutN 3 (fun ρ w' => ∃ (x8 : Bool), (x8) = o9 ∧ Agree ρ [(0, .slice A0 a0.length c0), (1, .slice A1 a1.length c1), (2, .slice A2 a2.length c2), (35, .bool x8)] ∧ Ext w w' ∧ St w' M F []) ?_ ?_
  · have H := o9h
    rcases iteS H with ⟨hb7, H⟩ | ⟨hb7, H⟩
    · skip
      refine W_no (skF hb7) rfl ?_
      refine W_no (skF hb7) rfl ?_
      refine W_v (.bool true) (x_pick (k := true) (congrArg Value.bool hb7) rfl) rfl ?_
      refine Wl_nil ?_
      exact ⟨true, Option.some.inj H, ⟨rfl, rfl, rfl, rfl, trivial⟩, E, S.pick [] (by decide)⟩
    · skip
      refine W_yes (congrArg some hb7) ?_
      obtain ⟨t10, ht11, H⟩ := bindS H
      refine W_callF fn9 (ferrymanlaw05_awake.con k M  t10  ht11) S rfl rfl (by rintro _ _ _ ⟨_, rfl⟩; exact flat_nil) ?_
      rintro _ w12 _ Γ' E' S ⟨rfl, rfl⟩
      replace E := E.trans E'
      clear E'
      refine W_yes (congrArg some hb7) ?_
      refine W_v (.bool (!t10)) (x_not rfl) rfl ?_
      refine W_v (.bool (!t10)) (x_pick (k := false) (congrArg Value.bool hb7) rfl) rfl ?_
      refine Wl_nil ?_
      exact ⟨(!t10), Option.some.inj H, ⟨rfl, rfl, rfl, rfl, trivial⟩, E, S.pick [] (by decide)⟩
  clear o9h
  rintro ρ w13 ⟨x8, rfl, hρ, E, S⟩
  rw [agree_eta hρ]
  clear hρ
  have H := o9H
  clear o9H
  refine Wl_nil ?_
  refine tn ?_
  rcases iteS H with ⟨hb14, H⟩ | ⟨hb14, H⟩
  · refine Wp_cond_true (congrArg Value.bool hb14) ?_
    refine Wp_seq ?_
    refine Wp_region_lit ?_
    obtain ⟨t15, ht16, H⟩ := bindS H
    refine W_callF fn9 (ferrymanlaw05_awake.con k M  t15  ht16) S rfl rfl (by rintro _ _ _ ⟨_, rfl⟩; exact flat_nil) ?_
    rintro _ w17 _ Γ' E' S ⟨rfl, rfl⟩
    replace E := E.trans E'
    clear E'
    refine W_v (.bool t15) (x_assign rfl) rfl ?_
    refine Wl_nil ?_
    refine tn ?_
    refine Wp_ret ?_
    refine tr (?_)
    obtain rfl := Option.some.inj H
    exact ⟨_, _, _, fun w1 e1 => run_resR (vs := [.bool t15]) (FA.cons (rfl) (FA.nil)), HM, E, S.pick [] (by decide), ⟨rfl, rfl⟩⟩
  refine Wp_cond_false (congrArg Value.bool hb14) ?_
  refine Wp_skip ?_
  refine tn ?_
  refine Wp_seq ?_
  refine Wp_region_lit ?_
  refine W_v (.slice A0 a0.length c0) (x_move rfl) rfl ?_
  obtain ⟨t18, ht19, H⟩ := bindS H
  refine W_callF2 fn14 (ferrymanlaw05_run.con k M A0 c0 a0 t18 hr0 ht19) (Γ1 := []) (Γ2 := []) S rfl rfl (by rintro _ _ _ ⟨_, _, _, rfl, rfl⟩; exact (flat_cons flat_blk (flat_cons flat_map flat_nil))) ?_
  rintro _ w25 _ Γ' E' S ⟨b20, A22, c23, rfl, rfl⟩
  replace E := E.trans E'
  clear E'
  replace S : St w25 M F [Blk b20 (.cells #[.map (mb A22)] 56 (0, 0)), MapC enc_latch_Name (Value.int .i64) A22 t18.by_] := S
  refine W_v (.pointer (some ⟨b20, 0, none⟩)) (x_assign rfl) rfl ?_
  refine Wl_nil ?_
  refine tn ?_
  refine Wp_seq ?_
  refine Wp_region_lit ?_
  refine W_v (.pointer (some ⟨b20, 0, none⟩)) (x_move rfl) rfl ?_
  obtain ⟨t28, ht29, H⟩ := bindS H
  refine W_callF2 fn17 (latch_Latches_Copy_PO.con k M A22 c23 t18 b20 t28  ht29) (Γ1 := [Blk b20 (.cells #[.map (mb A22)] 56 (0, 0)), MapC enc_latch_Name (Value.int .i64) A22 t18.by_]) (Γ2 := []) S rfl rfl (by rintro _ _ _ ⟨_, _, _, rfl, rfl⟩; exact (flat_cons flat_blk (flat_cons flat_map (flat_cons flat_blk (flat_cons flat_map flat_nil))))) ?_
  rintro _ w35 _ Γ' E' S ⟨b30, A32, c33, rfl, rfl⟩
  replace E := E.trans E'
  clear E'
  replace S : St w35 M F [Blk b30 (.cells #[.map (mb A32)] 56 (0, 0)), MapC enc_latch_Name (Value.int .i64) A32 t28.by_, Blk b20 (.cells #[.map (mb A22)] 56 (0, 0)), MapC enc_latch_Name (Value.int .i64) A22 t18.by_] := S
  refine W_v (.pointer (some ⟨b30, 0, none⟩)) (x_assign rfl) rfl ?_
  refine Wl_nil ?_
  refine tn ?_
  refine Wp_seq ?_
  refine Wp_seq ?_
  refine Wp_region_lit ?_
  refine W_v (.int .i64 0) (x_assign rfl) rfl ?_
  refine Wl_nil ?_
  refine tn ?_
  obtain ⟨o2332, o2332h, o2332H⟩ := bindS H
  clear H
  refine Wp_blockJ (fun ρ w' => ∃ (x2324 : List (latch_Name × Int)) (x2328 : List (latch_Name × Int)) (A2325 : Option Addr) (c2326 : Nat) (A2329 : Option Addr) (c2330 : Nat), (x2324, x2328) = o2332 ∧ Agree ρ [(0, .slice A0 a0.length c0), (1, .slice A1 a1.length c1), (2, .slice A2 a2.length c2), (7, .pointer (some ⟨b20, 0, none⟩)), (8, .pointer (some ⟨b30, 0, none⟩))] ∧ Ext w w' ∧ St w' M F [MapC enc_latch_Name (Value.int .i64) A2329 x2328, MapC enc_latch_Name (Value.int .i64) A2325 x2324, Blk b30 (.cells #[.map (mb A2325)] 56 (0, 0)), Blk b20 (.cells #[.map (mb A2329)] 56 (0, 0))]) ?_ ?_
  · skip
    refine Wp_loop (fun n ρ w' => ∃ (x1562 : Int) (x1563 : List (latch_Name × Int)) (x1567 : List (latch_Name × Int)) (A1564 : Option Addr) (c1565 : Nat) (A1568 : Option Addr) (c1569 : Nat), ferrymanlaw05_LatchCopies_l0 a1 n x1562 x1563 x1567 = some o2332 ∧ Agree ρ [(0, .slice A0 a0.length c0), (1, .slice A1 a1.length c1), (2, .slice A2 a2.length c2), (7, .pointer (some ⟨b20, 0, none⟩)), (8, .pointer (some ⟨b30, 0, none⟩)), (9, .int .i64 x1562)] ∧ Ext w w' ∧ St w' M F [MapC enc_latch_Name (Value.int .i64) A1568 x1567, MapC enc_latch_Name (Value.int .i64) A1564 x1563, Blk b30 (.cells #[.map (mb A1564)] 56 (0, 0)), Blk b20 (.cells #[.map (mb A1568)] 56 (0, 0))]) k ?_ ?_
    · skip
      exact ⟨(0 : Int), t28.by_, t18.by_, A32, c33, A22, c23, o2332h, ⟨rfl, rfl, rfl, rfl, rfl, rfl, trivial⟩, E, S.pick [3, 1, 0, 2] (by decide)⟩
    · intro n
      rintro ρ w2333 ⟨x1562, x1563, x1567, A1564, c1565, A1568, c1569, H, hρ, E, S⟩
      rw [agree_eta hρ]
      clear hρ
      cases n with
      | zero => cases H
      | succ k =>
        rw [ferrymanlaw05_LatchCopies_l0.eq_2] at H
        refine Wp_seq ?_
        refine Wp_seq ?_
        refine Wp_region_lit ?_
        refine W_v (.int .i64 x1562) (x_move rfl) rfl ?_
        refine W_v (.slice A1 a1.length c1) (x_move rfl) rfl ?_
        refine W_v (.int .i64 (a1.length : Int)) (x_len_slice (n := a1.length) Try.underlying22 rfl) rfl ?_
        refine W_v (.bool (decide (x1562 < (a1.length : Int)))) (x_ibin rfl rfl rfl rfl) rfl ?_
        refine Wl_nil ?_
        refine tn ?_
        rcases iteS H with ⟨hb2334, H⟩ | ⟨hb2334, H⟩
        · refine Wp_cond_true (congrArg Value.bool hb2334) ?_
          refine Wp_skip ?_
          refine tn ?_
          refine Wp_seq ?_
          obtain ⟨o2714, o2714h, o2714H⟩ := bindS H
          refine Wp_cut (fun ρ w' => ∃ (x2706 : List (latch_Name × Int)) (x2710 : List (latch_Name × Int)) (A2707 : Option Addr) (c2708 : Nat) (A2711 : Option Addr) (c2712 : Nat), (x2706, x2710) = o2714 ∧ Agree ρ [(0, .slice A0 a0.length c0), (1, .slice A1 a1.length c1), (2, .slice A2 a2.length c2), (7, .pointer (some ⟨b20, 0, none⟩)), (8, .pointer (some ⟨b30, 0, none⟩)), (9, .int .i64 x1562)] ∧ Ext w w' ∧ St w' M F [MapC enc_latch_Name (Value.int .i64) A2711 x2710, MapC enc_latch_Name (Value.int .i64) A2707 x2706, Blk b30 (.cells #[.map (mb A2707)] 56 (0, 0)), Blk b20 (.cells #[.map (mb A2711)] 56 (0, 0))]) ?_ ?_
          · clear o2714H
            have H := o2714h
            clear o2714h
            refine Wp_block ?_
            refine Wp_seq ?_
            refine Wp_region_lit ?_
            refine W_v (.slice A1 a1.length c1) (x_move rfl) rfl ?_
            refine W_v (.int .i64 x1562) (x_move rfl) rfl ?_
            obtain ⟨⟨p2715, p2716⟩, H⟩ := chkS H
            obtain ⟨b2717, o2718, cs2719, _, _, ee2724, hb2720, vs2721, hR2722, hc2723⟩ := SlW.at' hr1 p2715 p2716
            obtain rfl : vs2721 = _ := hR2722
            refine W_v (.pointer (some ⟨b2717, o2718 + x1562.toNat * 4, none⟩)) (x_indexAddr Try.underlying22 ty30 (slA ee2724) rfl p2715 p2716) rfl ?_
            refine W_v (.pointer (some ⟨b2717, o2718 + x1562.toNat * 4, none⟩)) (x_fieldAddr (o := o2718 + x1562.toNat * 4) (off := 0) Try.underlying30 rfl ty4 rfl rfl) rfl ?_
            refine W_v (.bool ((rd a1 x1562).Drop)) (x_load (S.frz hb2720) ty4 rfl (hc2723 0 _ rfl)) rfl ?_
            refine Wl_nil ?_
            refine tn ?_
            obtain ⟨o2967, o2967h, o2967H⟩ := bindS H
            refine Wp_cut (fun ρ w' => ∃ (x2959 : List (latch_Name × Int)) (x2963 : List (latch_Name × Int)) (A2960 : Option Addr) (c2961 : Nat) (A2964 : Option Addr) (c2965 : Nat), (x2959, x2963) = o2967 ∧ Agree ρ [(0, .slice A0 a0.length c0), (1, .slice A1 a1.length c1), (2, .slice A2 a2.length c2), (7, .pointer (some ⟨b20, 0, none⟩)), (8, .pointer (some ⟨b30, 0, none⟩)), (9, .int .i64 x1562)] ∧ Ext w w' ∧ St w' M F [MapC enc_latch_Name (Value.int .i64) A2964 x2963, MapC enc_latch_Name (Value.int .i64) A2960 x2959, Blk b30 (.cells #[.map (mb A2960)] 56 (0, 0)), Blk b20 (.cells #[.map (mb A2964)] 56 (0, 0))]) ?_ ?_
            · clear o2967H
              have H := o2967h
              clear o2967h
              rcases iteS H with ⟨hb2968, H⟩ | ⟨hb2968, H⟩
              · refine Wp_cond_true (congrArg Value.bool hb2968) ?_
                refine Wp_region_any (S := fun w' => ∃ Mx, M.le Mx ∧ St w' Mx F [MapC enc_latch_Name (Value.int .i64) A1568 x1567, Blk b20 (.cells #[.map (mb A1568)] 56 (0, 0))]) (L := 12) mixed ?_
                intro w2997 hw2998 E'
                replace S := S.heap hw2998
                replace E := E.trans E'
                clear E'
                refine Wa_take (i := 0) rfl (by kernel_rfl) rfl rfl (.pointer (some ⟨b30, 0, none⟩)) rfl (fun w' h' => x_move rfl) (⟨M, Hp.le_refl M, S.pick [0, 3] (by decide)⟩) ?_
                refine Wa_take (i := 1) rfl (by kernel_rfl) rfl rfl (.slice A1 a1.length c1) rfl (fun w' h' => x_move rfl) (⟨M, Hp.le_refl M, S.pick [0, 3] (by decide)⟩) ?_
                refine Wa_take (i := 2) rfl (by kernel_rfl) rfl rfl (.int .i64 x1562) rfl (fun w' h' => x_move rfl) (⟨M, Hp.le_refl M, S.pick [0, 3] (by decide)⟩) ?_
                obtain ⟨⟨p2999, p3000⟩, H⟩ := chkS H
                obtain ⟨b3001, o3002, cs3003, _, _, ee3008, hb3004, vs3005, hR3006, hc3007⟩ := SlW.at' hr1 p2999 p3000
                obtain rfl : vs3005 = _ := hR3006
                refine Wa_take (i := 3) rfl (by kernel_rfl) rfl rfl (.pointer (some ⟨b3001, o3002 + x1562.toNat * 4, none⟩)) rfl (fun w' h' => x_indexAddr Try.underlying22 ty30 (slA ee3008) rfl p2999 p3000) (⟨M, Hp.le_refl M, S.pick [0, 3] (by decide)⟩) ?_
                refine Wa_take (i := 4) rfl (by kernel_rfl) rfl rfl (.pointer (some ⟨b3001, o3002 + x1562.toNat * 4 + 1, none⟩)) rfl (fun w' h' => x_fieldAddr (o := o3002 + x1562.toNat * 4) (off := 1) Try.underlying30 rfl ty25 rfl rfl) (⟨M, Hp.le_refl M, S.pick [0, 3] (by decide)⟩) ?_
                refine Wa_take (i := 5) rfl (by kernel_rfl) rfl rfl (.agg #[.int .u8 ((rd a1 x1562).N.Kind), .int .u64 ((rd a1 x1562).N.ID)]) rfl (fun w' h' => x_loadA (cls_frz h' hb3004) ty25 rfl (sub_el hc3007 1 rfl) rfl rfl) (⟨M, Hp.le_refl M, S.pick [0, 3] (by decide)⟩) ?_
                refine Wa_take (i := 6) rfl (by kernel_rfl) rfl rfl (.slice A1 a1.length c1) rfl (fun w' h' => x_move rfl) (⟨M, Hp.le_refl M, S.pick [0, 3] (by decide)⟩) ?_
                refine Wa_take (i := 7) rfl (by kernel_rfl) rfl rfl (.int .i64 x1562) rfl (fun w' h' => x_move rfl) (⟨M, Hp.le_refl M, S.pick [0, 3] (by decide)⟩) ?_
                obtain ⟨⟨p3009, p3010⟩, H⟩ := chkS H
                obtain ⟨b3011, o3012, cs3013, _, _, ee3018, hb3014, vs3015, hR3016, hc3017⟩ := SlW.at' hr1 p3009 p3010
                obtain rfl : vs3015 = _ := hR3016
                refine Wa_take (i := 8) rfl (by kernel_rfl) rfl rfl (.pointer (some ⟨b3011, o3012 + x1562.toNat * 4, none⟩)) rfl (fun w' h' => x_indexAddr Try.underlying22 ty30 (slA ee3018) rfl p3009 p3010) (⟨M, Hp.le_refl M, S.pick [0, 3] (by decide)⟩) ?_
                refine Wa_take (i := 9) rfl (by kernel_rfl) rfl rfl (.pointer (some ⟨b3011, o3012 + x1562.toNat * 4 + 3, none⟩)) rfl (fun w' h' => x_fieldAddr (o := o3012 + x1562.toNat * 4) (off := 3) Try.underlying30 rfl ty3 rfl rfl) (⟨M, Hp.le_refl M, S.pick [0, 3] (by decide)⟩) ?_
                refine Wa_take (i := 10) rfl (by kernel_rfl) rfl rfl (.int .i64 ((rd a1 x1562).Task)) rfl (fun w' h' => x_load (cls_frz h' hb3014) ty3 rfl (hc3017 3 _ rfl)) (⟨M, Hp.le_refl M, S.pick [0, 3] (by decide)⟩) ?_
                refine Wa_solo (i := 11) rfl (by kernel_rfl) ?_
                obtain ⟨t3019, ht3020, H⟩ := bindS H
                replace S : St w2997 M F [Blk b30 (.cells #[.map (mb A1564)] 56 (0, 0)), MapC enc_latch_Name (Value.int .i64) A1564 x1563, MapC enc_latch_Name (Value.int .i64) A1568 x1567, Blk b20 (.cells #[.map (mb A1568)] 56 (0, 0))] := S.pick [2, 1, 0, 3] (by decide)
                refine W_callF2 fn11 (latch_Latches_Drop_PO.con k M A1564 c1565 (⟨x1563⟩ : latch_Latches) ((rd a1 x1562).N) ((rd a1 x1562).Task) b30 t3019  ht3020) (Γ1 := [Blk b30 (.cells #[.map (mb A1564)] 56 (0, 0)), MapC enc_latch_Name (Value.int .i64) A1564 x1563]) (Γ2 := [MapC enc_latch_Name (Value.int .i64) A1568 x1567, Blk b20 (.cells #[.map (mb A1568)] 56 (0, 0))]) S rfl rfl (by rintro _ _ _ ⟨_, _, rfl, rfl⟩; exact (flat_cons flat_blk (flat_cons flat_map flat_nil))) ?_
                rintro _ w3024 _ Γ' E' S ⟨A3021, c3022, rfl, rfl⟩
                replace E := E.trans E'
                clear E'
                replace S : St w3024 M F [Blk b30 (.cells #[.map (mb A3021)] 56 (0, 0)), MapC enc_latch_Name (Value.int .i64) A3021 t3019.2.by_, MapC enc_latch_Name (Value.int .i64) A1568 x1567, Blk b20 (.cells #[.map (mb A1568)] 56 (0, 0))] := S
                refine Wl_nil (on_n ⟨.inr ⟨M, Hp.le_refl M, S.pick [2, 3] (by decide)⟩, ?_⟩)
                refine Wa_done (by kernel_rfl) ?_
                refine tn ?_
                exact ⟨t3019.2.by_, x1567, A3021, c3022, A1568, c1569, Option.some.inj H, ⟨rfl, rfl, rfl, rfl, rfl, rfl, trivial⟩, E, S.pick [2, 1, 0, 3] (by decide)⟩
              refine Wp_cond_false (congrArg Value.bool hb2968) ?_
              refine Wp_region_any (S := fun w' => ∃ Mx, M.le Mx ∧ St w' Mx F [MapC enc_latch_Name (Value.int .i64) A1568 x1567, Blk b20 (.cells #[.map (mb A1568)] 56 (0, 0))]) (L := 12) mixed ?_
              intro w3055 hw3056 E'
              replace S := S.heap hw3056
              replace E := E.trans E'
              clear E'
              refine Wa_take (i := 0) rfl (by kernel_rfl) rfl rfl (.pointer (some ⟨b30, 0, none⟩)) rfl (fun w' h' => x_move rfl) (⟨M, Hp.le_refl M, S.pick [0, 3] (by decide)⟩) ?_
              refine Wa_take (i := 1) rfl (by kernel_rfl) rfl rfl (.slice A1 a1.length c1) rfl (fun w' h' => x_move rfl) (⟨M, Hp.le_refl M, S.pick [0, 3] (by decide)⟩) ?_
              refine Wa_take (i := 2) rfl (by kernel_rfl) rfl rfl (.int .i64 x1562) rfl (fun w' h' => x_move rfl) (⟨M, Hp.le_refl M, S.pick [0, 3] (by decide)⟩) ?_
              obtain ⟨⟨p3057, p3058⟩, H⟩ := chkS H
              obtain ⟨b3059, o3060, cs3061, _, _, ee3066, hb3062, vs3063, hR3064, hc3065⟩ := SlW.at' hr1 p3057 p3058
              obtain rfl : vs3063 = _ := hR3064
              refine Wa_take (i := 3) rfl (by kernel_rfl) rfl rfl (.pointer (some ⟨b3059, o3060 + x1562.toNat * 4, none⟩)) rfl (fun w' h' => x_indexAddr Try.underlying22 ty30 (slA ee3066) rfl p3057 p3058) (⟨M, Hp.le_refl M, S.pick [0, 3] (by decide)⟩) ?_
              refine Wa_take (i := 4) rfl (by kernel_rfl) rfl rfl (.pointer (some ⟨b3059, o3060 + x1562.toNat * 4 + 1, none⟩)) rfl (fun w' h' => x_fieldAddr (o := o3060 + x1562.toNat * 4) (off := 1) Try.underlying30 rfl ty25 rfl rfl) (⟨M, Hp.le_refl M, S.pick [0, 3] (by decide)⟩) ?_
              refine Wa_take (i := 5) rfl (by kernel_rfl) rfl rfl (.agg #[.int .u8 ((rd a1 x1562).N.Kind), .int .u64 ((rd a1 x1562).N.ID)]) rfl (fun w' h' => x_loadA (cls_frz h' hb3062) ty25 rfl (sub_el hc3065 1 rfl) rfl rfl) (⟨M, Hp.le_refl M, S.pick [0, 3] (by decide)⟩) ?_
              refine Wa_take (i := 6) rfl (by kernel_rfl) rfl rfl (.slice A1 a1.length c1) rfl (fun w' h' => x_move rfl) (⟨M, Hp.le_refl M, S.pick [0, 3] (by decide)⟩) ?_
              refine Wa_take (i := 7) rfl (by kernel_rfl) rfl rfl (.int .i64 x1562) rfl (fun w' h' => x_move rfl) (⟨M, Hp.le_refl M, S.pick [0, 3] (by decide)⟩) ?_
              obtain ⟨⟨p3067, p3068⟩, H⟩ := chkS H
              obtain ⟨b3069, o3070, cs3071, _, _, ee3076, hb3072, vs3073, hR3074, hc3075⟩ := SlW.at' hr1 p3067 p3068
              obtain rfl : vs3073 = _ := hR3074
              refine Wa_take (i := 8) rfl (by kernel_rfl) rfl rfl (.pointer (some ⟨b3069, o3070 + x1562.toNat * 4, none⟩)) rfl (fun w' h' => x_indexAddr Try.underlying22 ty30 (slA ee3076) rfl p3067 p3068) (⟨M, Hp.le_refl M, S.pick [0, 3] (by decide)⟩) ?_
              refine Wa_take (i := 9) rfl (by kernel_rfl) rfl rfl (.pointer (some ⟨b3069, o3070 + x1562.toNat * 4 + 3, none⟩)) rfl (fun w' h' => x_fieldAddr (o := o3070 + x1562.toNat * 4) (off := 3) Try.underlying30 rfl ty3 rfl rfl) (⟨M, Hp.le_refl M, S.pick [0, 3] (by decide)⟩) ?_
              refine Wa_take (i := 10) rfl (by kernel_rfl) rfl rfl (.int .i64 ((rd a1 x1562).Task)) rfl (fun w' h' => x_load (cls_frz h' hb3072) ty3 rfl (hc3075 3 _ rfl)) (⟨M, Hp.le_refl M, S.pick [0, 3] (by decide)⟩) ?_
              refine Wa_solo (i := 11) rfl (by kernel_rfl) ?_
              obtain ⟨t3077, ht3078, H⟩ := bindS H
              replace S : St w3055 M F [Blk b30 (.cells #[.map (mb A1564)] 56 (0, 0)), MapC enc_latch_Name (Value.int .i64) A1564 x1563, MapC enc_latch_Name (Value.int .i64) A1568 x1567, Blk b20 (.cells #[.map (mb A1568)] 56 (0, 0))] := S.pick [2, 1, 0, 3] (by decide)
              refine W_callF2 fn12 (latch_Latches_Try_PO.con k M A1564 c1565 (⟨x1563⟩ : latch_Latches) ((rd a1 x1562).N) ((rd a1 x1562).Task) b30 t3077  ht3078) (Γ1 := [Blk b30 (.cells #[.map (mb A1564)] 56 (0, 0)), MapC enc_latch_Name (Value.int .i64) A1564 x1563]) (Γ2 := [MapC enc_latch_Name (Value.int .i64) A1568 x1567, Blk b20 (.cells #[.map (mb A1568)] 56 (0, 0))]) S rfl rfl (by rintro _ _ _ ⟨_, _, rfl, rfl⟩; exact (flat_cons flat_blk (flat_cons flat_map flat_nil))) ?_
              rintro _ w3082 _ Γ' E' S ⟨A3079, c3080, rfl, rfl⟩
              replace E := E.trans E'
              clear E'
              replace S : St w3082 M F [Blk b30 (.cells #[.map (mb A3079)] 56 (0, 0)), MapC enc_latch_Name (Value.int .i64) A3079 t3077.2.by_, MapC enc_latch_Name (Value.int .i64) A1568 x1567, Blk b20 (.cells #[.map (mb A1568)] 56 (0, 0))] := S
              refine Wl_nil (on_n ⟨.inr ⟨M, Hp.le_refl M, S.pick [2, 3] (by decide)⟩, ?_⟩)
              refine Wa_done (by kernel_rfl) ?_
              refine tn ?_
              exact ⟨t3077.2.by_, x1567, A3079, c3080, A1568, c1569, Option.some.inj H, ⟨rfl, rfl, rfl, rfl, rfl, rfl, trivial⟩, E, S.pick [2, 1, 0, 3] (by decide)⟩
            clear o2967h
            rintro ρ w3085 ⟨x2959, x2963, A2960, c2961, A2964, c2965, rfl, hρ, E, S⟩
            rw [agree_eta hρ]
            clear hρ
            have H := o2967H
            clear o2967H
            refine bn ?_
            refine tn ?_
            exact ⟨x2959, x2963, A2960, c2961, A2964, c2965, Option.some.inj H, ⟨rfl, rfl, rfl, rfl, rfl, rfl, trivial⟩, E, S.pick [0, 1, 2, 3] (by decide)⟩
          clear o2714h
          rintro ρ w3086 ⟨x2706, x2710, A2707, c2708, A2711, c2712, rfl, hρ, E, S⟩
          rw [agree_eta hρ]
          clear hρ
          have H := o2714H
          clear o2714H
          refine tn ?_
          refine Wp_region_lit ?_
          refine W_v (.int .i64 x1562) (x_move rfl) rfl ?_
          refine W_v (.int .i64 (IntKind.i64.wrap (x1562 + (1 : Int)))) (x_ibin rfl rfl rfl rfl) rfl ?_
          refine W_v (.int .i64 (IntKind.i64.wrap (x1562 + (1 : Int)))) (x_assign rfl) rfl ?_
          refine Wl_nil ?_
          refine tn ?_
          exact ⟨k, Nat.lt_succ_self k, ⟨(IntKind.i64.wrap (x1562 + (1 : Int))), x2706, x2710, A2707, c2708, A2711, c2712, H, ⟨rfl, rfl, rfl, rfl, rfl, rfl, trivial⟩, E, S.pick [0, 1, 2, 3] (by decide)⟩⟩
        refine Wp_cond_false (congrArg Value.bool hb2334) ?_
        refine Wp_exit ?_
        refine tx (tx (bsm (?_)))
        refine tn ?_
        exact ⟨x1563, x1567, A1564, c1565, A1568, c1569, Option.some.inj H, ⟨rfl, rfl, rfl, rfl, rfl, trivial⟩, E, S.pick [0, 1, 2, 3] (by decide)⟩
  clear o2332h
  rintro ρ w3087 ⟨x2324, x2328, A2325, c2326, A2329, c2330, rfl, hρ, E, S⟩
  rw [agree_eta hρ]
  clear hρ
  have H := o2332H
  clear o2332H
  refine tn ?_
  refine Wp_seq ?_
  refine Wp_seq ?_
  refine Wp_region_lit ?_
  refine W_v (.int .i64 0) (x_assign rfl) rfl ?_
  refine Wl_nil ?_
  refine tn ?_
  obtain ⟨o5382, o5382h, o5382H⟩ := bindS H
  clear H
  refine Wp_blockJ (fun ρ w' => ∃ (x5374 : List (latch_Name × Int)) (x5378 : List (latch_Name × Int)) (A5375 : Option Addr) (c5376 : Nat) (A5379 : Option Addr) (c5380 : Nat), (x5374, x5378) = o5382 ∧ Agree ρ [(0, .slice A0 a0.length c0), (1, .slice A1 a1.length c1), (2, .slice A2 a2.length c2), (7, .pointer (some ⟨b20, 0, none⟩)), (8, .pointer (some ⟨b30, 0, none⟩))] ∧ Ext w w' ∧ St w' M F [MapC enc_latch_Name (Value.int .i64) A5379 x5378, MapC enc_latch_Name (Value.int .i64) A5375 x5374, Blk b30 (.cells #[.map (mb A5375)] 56 (0, 0)), Blk b20 (.cells #[.map (mb A5379)] 56 (0, 0))]) ?_ ?_
  · skip
    refine Wp_loop (fun n ρ w' => ∃ (x4612 : Int) (x4613 : List (latch_Name × Int)) (x4617 : List (latch_Name × Int)) (A4614 : Option Addr) (c4615 : Nat) (A4618 : Option Addr) (c4619 : Nat), ferrymanlaw05_LatchCopies_l1 a2 n x4612 x4613 x4617 = some o5382 ∧ Agree ρ [(0, .slice A0 a0.length c0), (1, .slice A1 a1.length c1), (2, .slice A2 a2.length c2), (7, .pointer (some ⟨b20, 0, none⟩)), (8, .pointer (some ⟨b30, 0, none⟩)), (10, .int .i64 x4612)] ∧ Ext w w' ∧ St w' M F [MapC enc_latch_Name (Value.int .i64) A4618 x4617, MapC enc_latch_Name (Value.int .i64) A4614 x4613, Blk b30 (.cells #[.map (mb A4614)] 56 (0, 0)), Blk b20 (.cells #[.map (mb A4618)] 56 (0, 0))]) k ?_ ?_
    · skip
      exact ⟨(0 : Int), x2324, x2328, A2325, c2326, A2329, c2330, o5382h, ⟨rfl, rfl, rfl, rfl, rfl, rfl, trivial⟩, E, S.pick [0, 1, 2, 3] (by decide)⟩
    · intro n
      rintro ρ w5383 ⟨x4612, x4613, x4617, A4614, c4615, A4618, c4619, H, hρ, E, S⟩
      rw [agree_eta hρ]
      clear hρ
      cases n with
      | zero => cases H
      | succ k =>
        rw [ferrymanlaw05_LatchCopies_l1.eq_2] at H
        refine Wp_seq ?_
        refine Wp_seq ?_
        refine Wp_region_lit ?_
        refine W_v (.int .i64 x4612) (x_move rfl) rfl ?_
        refine W_v (.slice A2 a2.length c2) (x_move rfl) rfl ?_
        refine W_v (.int .i64 (a2.length : Int)) (x_len_slice (n := a2.length) Try.underlying22 rfl) rfl ?_
        refine W_v (.bool (decide (x4612 < (a2.length : Int)))) (x_ibin rfl rfl rfl rfl) rfl ?_
        refine Wl_nil ?_
        refine tn ?_
        rcases iteS H with ⟨hb5384, H⟩ | ⟨hb5384, H⟩
        · refine Wp_cond_true (congrArg Value.bool hb5384) ?_
          refine Wp_skip ?_
          refine tn ?_
          refine Wp_seq ?_
          obtain ⟨o5764, o5764h, o5764H⟩ := bindS H
          refine Wp_cut (fun ρ w' => ∃ (x5756 : List (latch_Name × Int)) (x5760 : List (latch_Name × Int)) (A5757 : Option Addr) (c5758 : Nat) (A5761 : Option Addr) (c5762 : Nat), (x5756, x5760) = o5764 ∧ Agree ρ [(0, .slice A0 a0.length c0), (1, .slice A1 a1.length c1), (2, .slice A2 a2.length c2), (7, .pointer (some ⟨b20, 0, none⟩)), (8, .pointer (some ⟨b30, 0, none⟩)), (10, .int .i64 x4612)] ∧ Ext w w' ∧ St w' M F [MapC enc_latch_Name (Value.int .i64) A5761 x5760, MapC enc_latch_Name (Value.int .i64) A5757 x5756, Blk b20 (.cells #[.map (mb A5757)] 56 (0, 0)), Blk b30 (.cells #[.map (mb A5761)] 56 (0, 0))]) ?_ ?_
          · clear o5764H
            have H := o5764h
            clear o5764h
            refine Wp_block ?_
            refine Wp_seq ?_
            refine Wp_region_lit ?_
            refine W_v (.slice A2 a2.length c2) (x_move rfl) rfl ?_
            refine W_v (.int .i64 x4612) (x_move rfl) rfl ?_
            obtain ⟨⟨p5765, p5766⟩, H⟩ := chkS H
            obtain ⟨b5767, o5768, cs5769, _, _, ee5774, hb5770, vs5771, hR5772, hc5773⟩ := SlW.at' hr2 p5765 p5766
            obtain rfl : vs5771 = _ := hR5772
            refine W_v (.pointer (some ⟨b5767, o5768 + x4612.toNat * 4, none⟩)) (x_indexAddr Try.underlying22 ty30 (slA ee5774) rfl p5765 p5766) rfl ?_
            refine W_v (.pointer (some ⟨b5767, o5768 + x4612.toNat * 4, none⟩)) (x_fieldAddr (o := o5768 + x4612.toNat * 4) (off := 0) Try.underlying30 rfl ty4 rfl rfl) rfl ?_
            refine W_v (.bool ((rd a2 x4612).Drop)) (x_load (S.frz hb5770) ty4 rfl (hc5773 0 _ rfl)) rfl ?_
            refine Wl_nil ?_
            refine tn ?_
            obtain ⟨o6017, o6017h, o6017H⟩ := bindS H
            refine Wp_cut (fun ρ w' => ∃ (x6009 : List (latch_Name × Int)) (x6013 : List (latch_Name × Int)) (A6010 : Option Addr) (c6011 : Nat) (A6014 : Option Addr) (c6015 : Nat), (x6009, x6013) = o6017 ∧ Agree ρ [(0, .slice A0 a0.length c0), (1, .slice A1 a1.length c1), (2, .slice A2 a2.length c2), (7, .pointer (some ⟨b20, 0, none⟩)), (8, .pointer (some ⟨b30, 0, none⟩)), (10, .int .i64 x4612)] ∧ Ext w w' ∧ St w' M F [MapC enc_latch_Name (Value.int .i64) A6014 x6013, MapC enc_latch_Name (Value.int .i64) A6010 x6009, Blk b20 (.cells #[.map (mb A6010)] 56 (0, 0)), Blk b30 (.cells #[.map (mb A6014)] 56 (0, 0))]) ?_ ?_
            · clear o6017H
              have H := o6017h
              clear o6017h
              rcases iteS H with ⟨hb6018, H⟩ | ⟨hb6018, H⟩
              · refine Wp_cond_true (congrArg Value.bool hb6018) ?_
                refine Wp_region_any (S := fun w' => ∃ Mx, M.le Mx ∧ St w' Mx F [MapC enc_latch_Name (Value.int .i64) A4614 x4613, Blk b30 (.cells #[.map (mb A4614)] 56 (0, 0))]) (L := 12) mixed ?_
                intro w6047 hw6048 E'
                replace S := S.heap hw6048
                replace E := E.trans E'
                clear E'
                refine Wa_take (i := 0) rfl (by kernel_rfl) rfl rfl (.pointer (some ⟨b20, 0, none⟩)) rfl (fun w' h' => x_move rfl) (⟨M, Hp.le_refl M, S.pick [1, 2] (by decide)⟩) ?_
                refine Wa_take (i := 1) rfl (by kernel_rfl) rfl rfl (.slice A2 a2.length c2) rfl (fun w' h' => x_move rfl) (⟨M, Hp.le_refl M, S.pick [1, 2] (by decide)⟩) ?_
                refine Wa_take (i := 2) rfl (by kernel_rfl) rfl rfl (.int .i64 x4612) rfl (fun w' h' => x_move rfl) (⟨M, Hp.le_refl M, S.pick [1, 2] (by decide)⟩) ?_
                obtain ⟨⟨p6049, p6050⟩, H⟩ := chkS H
                obtain ⟨b6051, o6052, cs6053, _, _, ee6058, hb6054, vs6055, hR6056, hc6057⟩ := SlW.at' hr2 p6049 p6050
                obtain rfl : vs6055 = _ := hR6056
                refine Wa_take (i := 3) rfl (by kernel_rfl) rfl rfl (.pointer (some ⟨b6051, o6052 + x4612.toNat * 4, none⟩)) rfl (fun w' h' => x_indexAddr Try.underlying22 ty30 (slA ee6058) rfl p6049 p6050) (⟨M, Hp.le_refl M, S.pick [1, 2] (by decide)⟩) ?_
                refine Wa_take (i := 4) rfl (by kernel_rfl) rfl rfl (.pointer (some ⟨b6051, o6052 + x4612.toNat * 4 + 1, none⟩)) rfl (fun w' h' => x_fieldAddr (o := o6052 + x4612.toNat * 4) (off := 1) Try.underlying30 rfl ty25 rfl rfl) (⟨M, Hp.le_refl M, S.pick [1, 2] (by decide)⟩) ?_
                refine Wa_take (i := 5) rfl (by kernel_rfl) rfl rfl (.agg #[.int .u8 ((rd a2 x4612).N.Kind), .int .u64 ((rd a2 x4612).N.ID)]) rfl (fun w' h' => x_loadA (cls_frz h' hb6054) ty25 rfl (sub_el hc6057 1 rfl) rfl rfl) (⟨M, Hp.le_refl M, S.pick [1, 2] (by decide)⟩) ?_
                refine Wa_take (i := 6) rfl (by kernel_rfl) rfl rfl (.slice A2 a2.length c2) rfl (fun w' h' => x_move rfl) (⟨M, Hp.le_refl M, S.pick [1, 2] (by decide)⟩) ?_
                refine Wa_take (i := 7) rfl (by kernel_rfl) rfl rfl (.int .i64 x4612) rfl (fun w' h' => x_move rfl) (⟨M, Hp.le_refl M, S.pick [1, 2] (by decide)⟩) ?_
                obtain ⟨⟨p6059, p6060⟩, H⟩ := chkS H
                obtain ⟨b6061, o6062, cs6063, _, _, ee6068, hb6064, vs6065, hR6066, hc6067⟩ := SlW.at' hr2 p6059 p6060
                obtain rfl : vs6065 = _ := hR6066
                refine Wa_take (i := 8) rfl (by kernel_rfl) rfl rfl (.pointer (some ⟨b6061, o6062 + x4612.toNat * 4, none⟩)) rfl (fun w' h' => x_indexAddr Try.underlying22 ty30 (slA ee6068) rfl p6059 p6060) (⟨M, Hp.le_refl M, S.pick [1, 2] (by decide)⟩) ?_
                refine Wa_take (i := 9) rfl (by kernel_rfl) rfl rfl (.pointer (some ⟨b6061, o6062 + x4612.toNat * 4 + 3, none⟩)) rfl (fun w' h' => x_fieldAddr (o := o6062 + x4612.toNat * 4) (off := 3) Try.underlying30 rfl ty3 rfl rfl) (⟨M, Hp.le_refl M, S.pick [1, 2] (by decide)⟩) ?_
                refine Wa_take (i := 10) rfl (by kernel_rfl) rfl rfl (.int .i64 ((rd a2 x4612).Task)) rfl (fun w' h' => x_load (cls_frz h' hb6064) ty3 rfl (hc6067 3 _ rfl)) (⟨M, Hp.le_refl M, S.pick [1, 2] (by decide)⟩) ?_
                refine Wa_solo (i := 11) rfl (by kernel_rfl) ?_
                obtain ⟨t6069, ht6070, H⟩ := bindS H
                replace S : St w6047 M F [Blk b20 (.cells #[.map (mb A4618)] 56 (0, 0)), MapC enc_latch_Name (Value.int .i64) A4618 x4617, MapC enc_latch_Name (Value.int .i64) A4614 x4613, Blk b30 (.cells #[.map (mb A4614)] 56 (0, 0))] := S.pick [3, 0, 1, 2] (by decide)
                refine W_callF2 fn11 (latch_Latches_Drop_PO.con k M A4618 c4619 (⟨x4617⟩ : latch_Latches) ((rd a2 x4612).N) ((rd a2 x4612).Task) b20 t6069  ht6070) (Γ1 := [Blk b20 (.cells #[.map (mb A4618)] 56 (0, 0)), MapC enc_latch_Name (Value.int .i64) A4618 x4617]) (Γ2 := [MapC enc_latch_Name (Value.int .i64) A4614 x4613, Blk b30 (.cells #[.map (mb A4614)] 56 (0, 0))]) S rfl rfl (by rintro _ _ _ ⟨_, _, rfl, rfl⟩; exact (flat_cons flat_blk (flat_cons flat_map flat_nil))) ?_
                rintro _ w6074 _ Γ' E' S ⟨A6071, c6072, rfl, rfl⟩
                replace E := E.trans E'
                clear E'
                replace S : St w6074 M F [Blk b20 (.cells #[.map (mb A6071)] 56 (0, 0)), MapC enc_latch_Name (Value.int .i64) A6071 t6069.2.by_, MapC enc_latch_Name (Value.int .i64) A4614 x4613, Blk b30 (.cells #[.map (mb A4614)] 56 (0, 0))] := S
                refine Wl_nil (on_n ⟨.inr ⟨M, Hp.le_refl M, S.pick [2, 3] (by decide)⟩, ?_⟩)
                refine Wa_done (by kernel_rfl) ?_
                refine tn ?_
                exact ⟨t6069.2.by_, x4613, A6071, c6072, A4614, c4615, Option.some.inj H, ⟨rfl, rfl, rfl, rfl, rfl, rfl, trivial⟩, E, S.pick [2, 1, 0, 3] (by decide)⟩
              refine Wp_cond_false (congrArg Value.bool hb6018) ?_
              refine Wp_region_any (S := fun w' => ∃ Mx, M.le Mx ∧ St w' Mx F [MapC enc_latch_Name (Value.int .i64) A4614 x4613, Blk b30 (.cells #[.map (mb A4614)] 56 (0, 0))]) (L := 12) mixed ?_
              intro w6105 hw6106 E'
              replace S := S.heap hw6106
              replace E := E.trans E'
              clear E'
              refine Wa_take (i := 0) rfl (by kernel_rfl) rfl rfl (.pointer (some ⟨b20, 0, none⟩)) rfl (fun w' h' => x_move rfl) (⟨M, Hp.le_refl M, S.pick [1, 2] (by decide)⟩) ?_
              refine Wa_take (i := 1) rfl (by kernel_rfl) rfl rfl (.slice A2 a2.length c2) rfl (fun w' h' => x_move rfl) (⟨M, Hp.le_refl M, S.pick [1, 2] (by decide)⟩) ?_
              refine Wa_take (i := 2) rfl (by kernel_rfl) rfl rfl (.int .i64 x4612) rfl (fun w' h' => x_move rfl) (⟨M, Hp.le_refl M, S.pick [1, 2] (by decide)⟩) ?_
              obtain ⟨⟨p6107, p6108⟩, H⟩ := chkS H
              obtain ⟨b6109, o6110, cs6111, _, _, ee6116, hb6112, vs6113, hR6114, hc6115⟩ := SlW.at' hr2 p6107 p6108
              obtain rfl : vs6113 = _ := hR6114
              refine Wa_take (i := 3) rfl (by kernel_rfl) rfl rfl (.pointer (some ⟨b6109, o6110 + x4612.toNat * 4, none⟩)) rfl (fun w' h' => x_indexAddr Try.underlying22 ty30 (slA ee6116) rfl p6107 p6108) (⟨M, Hp.le_refl M, S.pick [1, 2] (by decide)⟩) ?_
              refine Wa_take (i := 4) rfl (by kernel_rfl) rfl rfl (.pointer (some ⟨b6109, o6110 + x4612.toNat * 4 + 1, none⟩)) rfl (fun w' h' => x_fieldAddr (o := o6110 + x4612.toNat * 4) (off := 1) Try.underlying30 rfl ty25 rfl rfl) (⟨M, Hp.le_refl M, S.pick [1, 2] (by decide)⟩) ?_
              refine Wa_take (i := 5) rfl (by kernel_rfl) rfl rfl (.agg #[.int .u8 ((rd a2 x4612).N.Kind), .int .u64 ((rd a2 x4612).N.ID)]) rfl (fun w' h' => x_loadA (cls_frz h' hb6112) ty25 rfl (sub_el hc6115 1 rfl) rfl rfl) (⟨M, Hp.le_refl M, S.pick [1, 2] (by decide)⟩) ?_
              refine Wa_take (i := 6) rfl (by kernel_rfl) rfl rfl (.slice A2 a2.length c2) rfl (fun w' h' => x_move rfl) (⟨M, Hp.le_refl M, S.pick [1, 2] (by decide)⟩) ?_
              refine Wa_take (i := 7) rfl (by kernel_rfl) rfl rfl (.int .i64 x4612) rfl (fun w' h' => x_move rfl) (⟨M, Hp.le_refl M, S.pick [1, 2] (by decide)⟩) ?_
              obtain ⟨⟨p6117, p6118⟩, H⟩ := chkS H
              obtain ⟨b6119, o6120, cs6121, _, _, ee6126, hb6122, vs6123, hR6124, hc6125⟩ := SlW.at' hr2 p6117 p6118
              obtain rfl : vs6123 = _ := hR6124
              refine Wa_take (i := 8) rfl (by kernel_rfl) rfl rfl (.pointer (some ⟨b6119, o6120 + x4612.toNat * 4, none⟩)) rfl (fun w' h' => x_indexAddr Try.underlying22 ty30 (slA ee6126) rfl p6117 p6118) (⟨M, Hp.le_refl M, S.pick [1, 2] (by decide)⟩) ?_
              refine Wa_take (i := 9) rfl (by kernel_rfl) rfl rfl (.pointer (some ⟨b6119, o6120 + x4612.toNat * 4 + 3, none⟩)) rfl (fun w' h' => x_fieldAddr (o := o6120 + x4612.toNat * 4) (off := 3) Try.underlying30 rfl ty3 rfl rfl) (⟨M, Hp.le_refl M, S.pick [1, 2] (by decide)⟩) ?_
              refine Wa_take (i := 10) rfl (by kernel_rfl) rfl rfl (.int .i64 ((rd a2 x4612).Task)) rfl (fun w' h' => x_load (cls_frz h' hb6122) ty3 rfl (hc6125 3 _ rfl)) (⟨M, Hp.le_refl M, S.pick [1, 2] (by decide)⟩) ?_
              refine Wa_solo (i := 11) rfl (by kernel_rfl) ?_
              obtain ⟨t6127, ht6128, H⟩ := bindS H
              replace S : St w6105 M F [Blk b20 (.cells #[.map (mb A4618)] 56 (0, 0)), MapC enc_latch_Name (Value.int .i64) A4618 x4617, MapC enc_latch_Name (Value.int .i64) A4614 x4613, Blk b30 (.cells #[.map (mb A4614)] 56 (0, 0))] := S.pick [3, 0, 1, 2] (by decide)
              refine W_callF2 fn12 (latch_Latches_Try_PO.con k M A4618 c4619 (⟨x4617⟩ : latch_Latches) ((rd a2 x4612).N) ((rd a2 x4612).Task) b20 t6127  ht6128) (Γ1 := [Blk b20 (.cells #[.map (mb A4618)] 56 (0, 0)), MapC enc_latch_Name (Value.int .i64) A4618 x4617]) (Γ2 := [MapC enc_latch_Name (Value.int .i64) A4614 x4613, Blk b30 (.cells #[.map (mb A4614)] 56 (0, 0))]) S rfl rfl (by rintro _ _ _ ⟨_, _, rfl, rfl⟩; exact (flat_cons flat_blk (flat_cons flat_map flat_nil))) ?_
              rintro _ w6132 _ Γ' E' S ⟨A6129, c6130, rfl, rfl⟩
              replace E := E.trans E'
              clear E'
              replace S : St w6132 M F [Blk b20 (.cells #[.map (mb A6129)] 56 (0, 0)), MapC enc_latch_Name (Value.int .i64) A6129 t6127.2.by_, MapC enc_latch_Name (Value.int .i64) A4614 x4613, Blk b30 (.cells #[.map (mb A4614)] 56 (0, 0))] := S
              refine Wl_nil (on_n ⟨.inr ⟨M, Hp.le_refl M, S.pick [2, 3] (by decide)⟩, ?_⟩)
              refine Wa_done (by kernel_rfl) ?_
              refine tn ?_
              exact ⟨t6127.2.by_, x4613, A6129, c6130, A4614, c4615, Option.some.inj H, ⟨rfl, rfl, rfl, rfl, rfl, rfl, trivial⟩, E, S.pick [2, 1, 0, 3] (by decide)⟩
            clear o6017h
            rintro ρ w6135 ⟨x6009, x6013, A6010, c6011, A6014, c6015, rfl, hρ, E, S⟩
            rw [agree_eta hρ]
            clear hρ
            have H := o6017H
            clear o6017H
            refine bn ?_
            refine tn ?_
            exact ⟨x6009, x6013, A6010, c6011, A6014, c6015, Option.some.inj H, ⟨rfl, rfl, rfl, rfl, rfl, rfl, trivial⟩, E, S.pick [0, 1, 2, 3] (by decide)⟩
          clear o5764h
          rintro ρ w6136 ⟨x5756, x5760, A5757, c5758, A5761, c5762, rfl, hρ, E, S⟩
          rw [agree_eta hρ]
          clear hρ
          have H := o5764H
          clear o5764H
          refine tn ?_
          refine Wp_region_lit ?_
          refine W_v (.int .i64 x4612) (x_move rfl) rfl ?_
          refine W_v (.int .i64 (IntKind.i64.wrap (x4612 + (1 : Int)))) (x_ibin rfl rfl rfl rfl) rfl ?_
          refine W_v (.int .i64 (IntKind.i64.wrap (x4612 + (1 : Int)))) (x_assign rfl) rfl ?_
          refine Wl_nil ?_
          refine tn ?_
          exact ⟨k, Nat.lt_succ_self k, ⟨(IntKind.i64.wrap (x4612 + (1 : Int))), x5760, x5756, A5761, c5762, A5757, c5758, H, ⟨rfl, rfl, rfl, rfl, rfl, rfl, trivial⟩, E, S.pick [1, 0, 3, 2] (by decide)⟩⟩
        refine Wp_cond_false (congrArg Value.bool hb5384) ?_
        refine Wp_exit ?_
        refine tx (tx (bsm (?_)))
        refine tn ?_
        exact ⟨x4613, x4617, A4614, c4615, A4618, c4619, Option.some.inj H, ⟨rfl, rfl, rfl, rfl, rfl, trivial⟩, E, S.pick [0, 1, 2, 3] (by decide)⟩
  clear o5382h
  rintro ρ w6137 ⟨x5374, x5378, A5375, c5376, A5379, c5380, rfl, hρ, E, S⟩
  rw [agree_eta hρ]
  clear hρ
  have H := o5382H
  clear o5382H
  refine tn ?_
  refine Wp_seq ?_
  refine Wp_region_lit ?_
  refine W_bslice S #[] Try.underlying22 ty30 rfl rfl #[] (by kernel_rfl) (by kernel_rfl) rfl ?_
  intro b6138 w6139 E' S
  replace E := E.trans E'
  clear E'
  replace S := S.blk_row (r := r_ferrymanlaw05_Step) (l := ([] : List ferrymanlaw05_Step)) 0 rfl 0 (Nat.le_refl 0) rfl Cells.nil
  refine W_v (.slice A0 a0.length c0) (x_move rfl) rfl ?_
  obtain ⟨p6141, H⟩ := chkS H
  obtain ⟨src6142, hs6143, hC6144⟩ := src_of_read (P := Try.prog) (ρ := r_ferrymanlaw05_Step) (l := a0) (SlR.world hr0 S) (by decide)
  refine W_append S 0 rfl rfl rfl Try.underlying22 (.inl Try.underlying22) ty30 rfl (by decide) (by decide) hs6143 hC6144 rfl (by omega) rfl ?_
  intro v6145 w6146 E' S
  replace E := E.trans E'
  clear E'
  obtain ⟨A6147, c6148, rfl, _⟩ := (S.row_read 0 rfl).form
  refine W_v (.slice A2 a2.length c2) (x_move rfl) rfl ?_
  obtain ⟨p6149, H⟩ := chkS H
  obtain ⟨src6150, hs6151, hC6152⟩ := src_of_read (P := Try.prog) (ρ := r_ferrymanlaw05_Step) (l := a2) (SlR.world hr2 S) (by decide)
  refine W_append S 0 rfl rfl rfl Try.underlying22 (.inl Try.underlying22) ty30 rfl (by decide) (by decide) hs6151 hC6152 rfl (by omega) rfl ?_
  intro v6153 w6154 E' S
  replace E := E.trans E'
  clear E'
  obtain ⟨A6155, c6156, rfl, _⟩ := (S.row_read 0 rfl).form
  obtain ⟨M6157, hM6158, hf6159, S⟩ := S.row_freeze 0 rfl
  replace HM := Hp.le_trans HM hM6158
  replace hr0 := SlR.mono hr0 hM6158
  replace hr1 := SlR.mono hr1 hM6158
  replace hr2 := SlR.mono hr2 hM6158
  obtain ⟨t6160, ht6161, H⟩ := bindS H
  refine W_callF2 fn14 (ferrymanlaw05_run.con k M6157 A6155 c6156 ((([] : List ferrymanlaw05_Step) ++ a0) ++ a2) t6160 hf6159 ht6161) (Γ1 := []) (Γ2 := [MapC enc_latch_Name (Value.int .i64) A5379 x5378, MapC enc_latch_Name (Value.int .i64) A5375 x5374, Blk b30 (.cells #[.map (mb A5375)] 56 (0, 0)), Blk b20 (.cells #[.map (mb A5379)] 56 (0, 0))]) S rfl rfl (by rintro _ _ _ ⟨_, _, _, rfl, rfl⟩; exact (flat_cons flat_blk (flat_cons flat_map flat_nil))) ?_
  rintro _ w6167 _ Γ' E' S ⟨b6162, A6164, c6165, rfl, rfl⟩
  replace E := E.trans E'
  clear E'
  replace S : St w6167 M6157 F [Blk b6162 (.cells #[.map (mb A6164)] 56 (0, 0)), MapC enc_latch_Name (Value.int .i64) A6164 t6160.by_, MapC enc_latch_Name (Value.int .i64) A5379 x5378, MapC enc_latch_Name (Value.int .i64) A5375 x5374, Blk b30 (.cells #[.map (mb A5375)] 56 (0, 0)), Blk b20 (.cells #[.map (mb A5379)] 56 (0, 0))] := S
  refine W_bslice S #[] Try.underlying22 ty30 rfl rfl #[] (by kernel_rfl) (by kernel_rfl) rfl ?_
  intro b6170 w6171 E' S
  replace E := E.trans E'
  clear E'
  replace S := S.blk_row (r := r_ferrymanlaw05_Step) (l := ([] : List ferrymanlaw05_Step)) 0 rfl 0 (Nat.le_refl 0) rfl Cells.nil
  refine W_v (.slice A0 a0.length c0) (x_move rfl) rfl ?_
  obtain ⟨p6173, H⟩ := chkS H
  obtain ⟨src6174, hs6175, hC6176⟩ := src_of_read (P := Try.prog) (ρ := r_ferrymanlaw05_Step) (l := a0) (SlR.world hr0 S) (by decide)
  refine W_append S 0 rfl rfl rfl Try.underlying22 (.inl Try.underlying22) ty30 rfl (by decide) (by decide) hs6175 hC6176 rfl (by omega) rfl ?_
  intro v6177 w6178 E' S
  replace E := E.trans E'
  clear E'
  obtain ⟨A6179, c6180, rfl, _⟩ := (S.row_read 0 rfl).form
  refine W_v (.slice A1 a1.length c1) (x_move rfl) rfl ?_
  obtain ⟨p6181, H⟩ := chkS H
  obtain ⟨src6182, hs6183, hC6184⟩ := src_of_read (P := Try.prog) (ρ := r_ferrymanlaw05_Step) (l := a1) (SlR.world hr1 S) (by decide)
  refine W_append S 0 rfl rfl rfl Try.underlying22 (.inl Try.underlying22) ty30 rfl (by decide) (by decide) hs6183 hC6184 rfl (by omega) rfl ?_
  intro v6185 w6186 E' S
  replace E := E.trans E'
  clear E'
  obtain ⟨A6187, c6188, rfl, _⟩ := (S.row_read 0 rfl).form
  obtain ⟨M6189, hM6190, hf6191, S⟩ := S.row_freeze 0 rfl
  replace HM := Hp.le_trans HM hM6190
  replace hr0 := SlR.mono hr0 hM6190
  replace hr1 := SlR.mono hr1 hM6190
  replace hr2 := SlR.mono hr2 hM6190
  replace hf6159 := SlR.mono hf6159 hM6190
  obtain ⟨t6192, ht6193, H⟩ := bindS H
  refine W_callF2 fn14 (ferrymanlaw05_run.con k M6189 A6187 c6188 ((([] : List ferrymanlaw05_Step) ++ a0) ++ a1) t6192 hf6191 ht6193) (Γ1 := []) (Γ2 := [Blk b6162 (.cells #[.map (mb A6164)] 56 (0, 0)), MapC enc_latch_Name (Value.int .i64) A6164 t6160.by_, MapC enc_latch_Name (Value.int .i64) A5379 x5378, MapC enc_latch_Name (Value.int .i64) A5375 x5374, Blk b30 (.cells #[.map (mb A5375)] 56 (0, 0)), Blk b20 (.cells #[.map (mb A5379)] 56 (0, 0))]) S rfl rfl (by rintro _ _ _ ⟨_, _, _, rfl, rfl⟩; exact (flat_cons flat_blk (flat_cons flat_map flat_nil))) ?_
  rintro _ w6199 _ Γ' E' S ⟨b6194, A6196, c6197, rfl, rfl⟩
  replace E := E.trans E'
  clear E'
  replace S : St w6199 M6189 F [Blk b6194 (.cells #[.map (mb A6196)] 56 (0, 0)), MapC enc_latch_Name (Value.int .i64) A6196 t6192.by_, Blk b6162 (.cells #[.map (mb A6164)] 56 (0, 0)), MapC enc_latch_Name (Value.int .i64) A6164 t6160.by_, MapC enc_latch_Name (Value.int .i64) A5379 x5378, MapC enc_latch_Name (Value.int .i64) A5375 x5374, Blk b30 (.cells #[.map (mb A5375)] 56 (0, 0)), Blk b20 (.cells #[.map (mb A5379)] 56 (0, 0))] := S
  refine W_v (.pointer (some ⟨b6162, 0, none⟩)) (x_assign rfl) rfl ?_
  refine W_v (.pointer (some ⟨b6194, 0, none⟩)) (x_assign rfl) rfl ?_
  refine Wl_nil ?_
  refine tn ?_
  refine Wp_seq ?_
  refine Wp_region_lit ?_
  refine W_bslice S #[] Try.underlying22 ty30 rfl rfl #[] (by kernel_rfl) (by kernel_rfl) rfl ?_
  intro b6202 w6203 E' S
  replace E := E.trans E'
  clear E'
  replace S := S.blk_row (r := r_ferrymanlaw05_Step) (l := ([] : List ferrymanlaw05_Step)) 0 rfl 0 (Nat.le_refl 0) rfl Cells.nil
  refine W_v (.slice A0 a0.length c0) (x_move rfl) rfl ?_
  obtain ⟨p6205, H⟩ := chkS H
  obtain ⟨src6206, hs6207, hC6208⟩ := src_of_read (P := Try.prog) (ρ := r_ferrymanlaw05_Step) (l := a0) (SlR.world hr0 S) (by decide)
  refine W_append S 0 rfl rfl rfl Try.underlying22 (.inl Try.underlying22) ty30 rfl (by decide) (by decide) hs6207 hC6208 rfl (by omega) rfl ?_
  intro v6209 w6210 E' S
  replace E := E.trans E'
  clear E'
  obtain ⟨A6211, c6212, rfl, _⟩ := (S.row_read 0 rfl).form
  refine W_v (.slice A1 a1.length c1) (x_move rfl) rfl ?_
  obtain ⟨p6213, H⟩ := chkS H
  obtain ⟨src6214, hs6215, hC6216⟩ := src_of_read (P := Try.prog) (ρ := r_ferrymanlaw05_Step) (l := a1) (SlR.world hr1 S) (by decide)
  refine W_append S 0 rfl rfl rfl Try.underlying22 (.inl Try.underlying22) ty30 rfl (by decide) (by decide) hs6215 hC6216 rfl (by omega) rfl ?_
  intro v6217 w6218 E' S
  replace E := E.trans E'
  clear E'
  obtain ⟨A6219, c6220, rfl, _⟩ := (S.row_read 0 rfl).form
  refine W_v (.slice A2 a2.length c2) (x_move rfl) rfl ?_
  obtain ⟨p6221, H⟩ := chkS H
  obtain ⟨src6222, hs6223, hC6224⟩ := src_of_read (P := Try.prog) (ρ := r_ferrymanlaw05_Step) (l := a2) (SlR.world hr2 S) (by decide)
  refine W_append S 0 rfl rfl rfl Try.underlying22 (.inl Try.underlying22) ty30 rfl (by decide) (by decide) hs6223 hC6224 rfl (by omega) rfl ?_
  intro v6225 w6226 E' S
  replace E := E.trans E'
  clear E'
  obtain ⟨A6227, c6228, rfl, _⟩ := (S.row_read 0 rfl).form
  refine W_v (.slice A6227 (((([] : List ferrymanlaw05_Step) ++ a0) ++ a1) ++ a2).length c6228) (x_assign rfl) rfl ?_
  refine Wl_nil ?_
  refine tn ?_
  refine Wp_seq ?_
  refine Wp_seq ?_
  refine Wp_region_lit ?_
  refine W_v (.int .i64 0) (x_assign rfl) rfl ?_
  refine Wl_nil ?_
  refine tn ?_
  obtain ⟨o6443, o6443h, o6443H⟩ := bindS H
  clear H
  refine Wp_blockJ (fun ρ w' => ∃ (x6427 : List (latch_Name × Int)) (x6431 : List (latch_Name × Int)) (x6435 : List (latch_Name × Int)) (x6439 : List (latch_Name × Int)) (A6428 : Option Addr) (c6429 : Nat) (A6432 : Option Addr) (c6433 : Nat) (A6436 : Option Addr) (c6437 : Nat) (A6440 : Option Addr) (c6441 : Nat), .inr (x6427, x6431, x6435, x6439) = o6443 ∧ Agree ρ [(7, .pointer (some ⟨b20, 0, none⟩)), (8, .pointer (some ⟨b30, 0, none⟩)), (11, .pointer (some ⟨b6162, 0, none⟩)), (12, .pointer (some ⟨b6194, 0, none⟩))] ∧ Ext w w' ∧ St w' M6189 F [MapC enc_latch_Name (Value.int .i64) A6440 x6439, MapC enc_latch_Name (Value.int .i64) A6436 x6435, MapC enc_latch_Name (Value.int .i64) A6432 x6431, MapC enc_latch_Name (Value.int .i64) A6428 x6427, Blk b6194 (.cells #[.map (mb A6428)] 56 (0, 0)), Blk b6162 (.cells #[.map (mb A6432)] 56 (0, 0)), Blk b30 (.cells #[.map (mb A6436)] 56 (0, 0)), Blk b20 (.cells #[.map (mb A6440)] 56 (0, 0))]) ?_ ?_
  · skip
    refine Wp_loop (fun n ρ w' => ∃ (x6361 : Int), ferrymanlaw05_LatchCopies_l2 a0 a1 a2 x5374 x5378 t6160 t6192 n x6361 = some o6443 ∧ Agree ρ [(7, .pointer (some ⟨b20, 0, none⟩)), (8, .pointer (some ⟨b30, 0, none⟩)), (11, .pointer (some ⟨b6162, 0, none⟩)), (12, .pointer (some ⟨b6194, 0, none⟩)), (13, .slice A6227 (((([] : List ferrymanlaw05_Step) ++ a0) ++ a1) ++ a2).length c6228), (14, .int .i64 x6361)] ∧ Ext w w' ∧ St w' M6189 F [Row r_ferrymanlaw05_Step 30 (.slice A6227 (((([] : List ferrymanlaw05_Step) ++ a0) ++ a1) ++ a2).length c6228) (((([] : List ferrymanlaw05_Step) ++ a0) ++ a1) ++ a2), Blk b6194 (.cells #[.map (mb A6196)] 56 (0, 0)), MapC enc_latch_Name (Value.int .i64) A6196 t6192.by_, Blk b6162 (.cells #[.map (mb A6164)] 56 (0, 0)), MapC enc_latch_Name (Value.int .i64) A6164 t6160.by_, MapC enc_latch_Name (Value.int .i64) A5379 x5378, MapC enc_latch_Name (Value.int .i64) A5375 x5374, Blk b30 (.cells #[.map (mb A5375)] 56 (0, 0)), Blk b20 (.cells #[.map (mb A5379)] 56 (0, 0))]) k ?_ ?_
    · skip
      exact ⟨(0 : Int), o6443h, ⟨rfl, rfl, rfl, rfl, rfl, rfl, trivial⟩, E, S.pick [0, 1, 2, 3, 4, 5, 6, 7, 8] (by decide)⟩
    · intro n
      rintro ρ w6444 ⟨x6361, H, hρ, E, S⟩
      rw [agree_eta hρ]
      clear hρ
      cases n with
      | zero => cases H
      | succ k =>
        rw [ferrymanlaw05_LatchCopies_l2.eq_2] at H
        refine Wp_seq ?_
        refine Wp_seq ?_
        refine Wp_region_lit ?_
        refine W_v (.int .i64 x6361) (x_move rfl) rfl ?_
        refine W_v (.slice A6227 (((([] : List ferrymanlaw05_Step) ++ a0) ++ a1) ++ a2).length c6228) (x_move rfl) rfl ?_
        refine W_v (.int .i64 ((((([] : List ferrymanlaw05_Step) ++ a0) ++ a1) ++ a2).length : Int)) (x_len_slice (n := (((([] : List ferrymanlaw05_Step) ++ a0) ++ a1) ++ a2).length) Try.underlying22 rfl) rfl ?_
        refine W_v (.bool (decide (x6361 < ((((([] : List ferrymanlaw05_Step) ++ a0) ++ a1) ++ a2).length : Int)))) (x_ibin rfl rfl rfl rfl) rfl ?_
        refine Wl_nil ?_
        refine tn ?_
        rcases iteS H with ⟨hb6445, H⟩ | ⟨hb6445, H⟩
        · refine Wp_cond_true (congrArg Value.bool hb6445) ?_
          refine Wp_skip ?_
          refine tn ?_
          refine Wp_seq ?_
          refine Wp_block ?_
          refine Wp_seq ?_
          refine Wp_region_lit ?_
          refine W_v (.pointer (some ⟨b20, 0, none⟩)) (x_move rfl) rfl ?_
          refine W_v (.slice A6227 (((([] : List ferrymanlaw05_Step) ++ a0) ++ a1) ++ a2).length c6228) (x_move rfl) rfl ?_
          refine W_v (.int .i64 x6361) (x_move rfl) rfl ?_
          obtain ⟨⟨p6446, p6447⟩, H⟩ := chkS H
          obtain ⟨b6448, o6449, cs6450, _, _, ee6455, hb6451, vs6452, hR6453, hc6454⟩ := SlW.at' (S.row_read 0 rfl) p6446 p6447
          obtain rfl : vs6452 = _ := hR6453
          refine W_v (.pointer (some ⟨b6448, o6449 + x6361.toNat * 4, none⟩)) (x_indexAddr Try.underlying22 ty30 (slA ee6455) rfl p6446 p6447) rfl ?_
          refine W_v (.pointer (some ⟨b6448, o6449 + x6361.toNat * 4 + 1, none⟩)) (x_fieldAddr (o := o6449 + x6361.toNat * 4) (off := 1) Try.underlying30 rfl ty25 rfl rfl) rfl ?_
          refine W_v (.agg #[.int .u8 ((rd (((([] : List ferrymanlaw05_Step) ++ a0) ++ a1) ++ a2) x6361).N.Kind), .int .u64 ((rd (((([] : List ferrymanlaw05_Step) ++ a0) ++ a1) ++ a2) x6361).N.ID)]) (x_loadA (Hp.of_get hb6451) ty25 rfl (sub_el hc6454 1 rfl) rfl rfl) rfl ?_
          obtain ⟨t6456, ht6457, H⟩ := bindS H
          replace S : St w6444 M6189 F [Blk b20 (.cells #[.map (mb A5379)] 56 (0, 0)), MapC enc_latch_Name (Value.int .i64) A5379 x5378, Row r_ferrymanlaw05_Step 30 (.slice A6227 (((([] : List ferrymanlaw05_Step) ++ a0) ++ a1) ++ a2).length c6228) (((([] : List ferrymanlaw05_Step) ++ a0) ++ a1) ++ a2), Blk b6194 (.cells #[.map (mb A6196)] 56 (0, 0)), MapC enc_latch_Name (Value.int .i64) A6196 t6192.by_, Blk b6162 (.cells #[.map (mb A6164)] 56 (0, 0)), MapC enc_latch_Name (Value.int .i64) A6164 t6160.by_, MapC enc_latch_Name (Value.int .i64) A5375 x5374, Blk b30 (.cells #[.map (mb A5375)] 56 (0, 0))] := S.pick [8, 5, 0, 1, 2, 3, 4, 6, 7] (by decide)
          refine W_callF2 fn13 (latch_Latches_Owner_PO.con k M6189 A5379 c5380 (⟨x5378⟩ : latch_Latches) ((rd (((([] : List ferrymanlaw05_Step) ++ a0) ++ a1) ++ a2) x6361).N) b20 t6456  ht6457) (Γ1 := [Blk b20 (.cells #[.map (mb A5379)] 56 (0, 0)), MapC enc_latch_Name (Value.int .i64) A5379 x5378]) (Γ2 := [Row r_ferrymanlaw05_Step 30 (.slice A6227 (((([] : List ferrymanlaw05_Step) ++ a0) ++ a1) ++ a2).length c6228) (((([] : List ferrymanlaw05_Step) ++ a0) ++ a1) ++ a2), Blk b6194 (.cells #[.map (mb A6196)] 56 (0, 0)), MapC enc_latch_Name (Value.int .i64) A6196 t6192.by_, Blk b6162 (.cells #[.map (mb A6164)] 56 (0, 0)), MapC enc_latch_Name (Value.int .i64) A6164 t6160.by_, MapC enc_latch_Name (Value.int .i64) A5375 x5374, Blk b30 (.cells #[.map (mb A5375)] 56 (0, 0))]) S rfl rfl (by rintro _ _ _ ⟨rfl, rfl⟩; exact (flat_cons flat_blk (flat_cons flat_map flat_nil))) ?_
          rintro _ w6458 _ Γ' E' S ⟨rfl, rfl⟩
          replace E := E.trans E'
          clear E'
          replace S : St w6458 M6189 F [Blk b20 (.cells #[.map (mb A5379)] 56 (0, 0)), MapC enc_latch_Name (Value.int .i64) A5379 x5378, Row r_ferrymanlaw05_Step 30 (.slice A6227 (((([] : List ferrymanlaw05_Step) ++ a0) ++ a1) ++ a2).length c6228) (((([] : List ferrymanlaw05_Step) ++ a0) ++ a1) ++ a2), Blk b6194 (.cells #[.map (mb A6196)] 56 (0, 0)), MapC enc_latch_Name (Value.int .i64) A6196 t6192.by_, Blk b6162 (.cells #[.map (mb A6164)] 56 (0, 0)), MapC enc_latch_Name (Value.int .i64) A6164 t6160.by_, MapC enc_latch_Name (Value.int .i64) A5375 x5374, Blk b30 (.cells #[.map (mb A5375)] 56 (0, 0))] := S
          refine W_v (.tuple #[.int .i64 t6456.1, .bool t6456.2]) (x_move rfl) rfl ?_
          refine W_v (.int .i64 t6456.1) (x_extract rfl rfl) rfl ?_
          refine W_v (.bool t6456.2) (x_extract rfl rfl) rfl ?_
          refine W_v (.int .i64 t6456.1) (x_assign rfl) rfl ?_
          refine W_v (.bool t6456.2) (x_assign rfl) rfl ?_
          refine Wl_nil ?_
          refine tn ?_
          refine Wp_seq ?_
          refine Wp_region_lit ?_
          refine W_v (.pointer (some ⟨b6162, 0, none⟩)) (x_move rfl) rfl ?_
          refine W_v (.slice A6227 (((([] : List ferrymanlaw05_Step) ++ a0) ++ a1) ++ a2).length c6228) (x_move rfl) rfl ?_
          refine W_v (.int .i64 x6361) (x_move rfl) rfl ?_
          obtain ⟨⟨p6461, p6462⟩, H⟩ := chkS H
          obtain ⟨b6463, o6464, cs6465, _, _, ee6470, hb6466, vs6467, hR6468, hc6469⟩ := SlW.at' (S.row_read 2 rfl) p6461 p6462
          obtain rfl : vs6467 = _ := hR6468
          refine W_v (.pointer (some ⟨b6463, o6464 + x6361.toNat * 4, none⟩)) (x_indexAddr Try.underlying22 ty30 (slA ee6470) rfl p6461 p6462) rfl ?_
          refine W_v (.pointer (some ⟨b6463, o6464 + x6361.toNat * 4 + 1, none⟩)) (x_fieldAddr (o := o6464 + x6361.toNat * 4) (off := 1) Try.underlying30 rfl ty25 rfl rfl) rfl ?_
          refine W_v (.agg #[.int .u8 ((rd (((([] : List ferrymanlaw05_Step) ++ a0) ++ a1) ++ a2) x6361).N.Kind), .int .u64 ((rd (((([] : List ferrymanlaw05_Step) ++ a0) ++ a1) ++ a2) x6361).N.ID)]) (x_loadA (Hp.of_get hb6466) ty25 rfl (sub_el hc6469 1 rfl) rfl rfl) rfl ?_
          obtain ⟨t6471, ht6472, H⟩ := bindS H
          replace S : St w6458 M6189 F [Blk b6162 (.cells #[.map (mb A6164)] 56 (0, 0)), MapC enc_latch_Name (Value.int .i64) A6164 t6160.by_, Blk b20 (.cells #[.map (mb A5379)] 56 (0, 0)), MapC enc_latch_Name (Value.int .i64) A5379 x5378, Row r_ferrymanlaw05_Step 30 (.slice A6227 (((([] : List ferrymanlaw05_Step) ++ a0) ++ a1) ++ a2).length c6228) (((([] : List ferrymanlaw05_Step) ++ a0) ++ a1) ++ a2), Blk b6194 (.cells #[.map (mb A6196)] 56 (0, 0)), MapC enc_latch_Name (Value.int .i64) A6196 t6192.by_, MapC enc_latch_Name (Value.int .i64) A5375 x5374, Blk b30 (.cells #[.map (mb A5375)] 56 (0, 0))] := S.pick [5, 6, 0, 1, 2, 3, 4, 7, 8] (by decide)
          refine W_callF2 fn13 (latch_Latches_Owner_PO.con k M6189 A6164 c6165 t6160 ((rd (((([] : List ferrymanlaw05_Step) ++ a0) ++ a1) ++ a2) x6361).N) b6162 t6471  ht6472) (Γ1 := [Blk b6162 (.cells #[.map (mb A6164)] 56 (0, 0)), MapC enc_latch_Name (Value.int .i64) A6164 t6160.by_]) (Γ2 := [Blk b20 (.cells #[.map (mb A5379)] 56 (0, 0)), MapC enc_latch_Name (Value.int .i64) A5379 x5378, Row r_ferrymanlaw05_Step 30 (.slice A6227 (((([] : List ferrymanlaw05_Step) ++ a0) ++ a1) ++ a2).length c6228) (((([] : List ferrymanlaw05_Step) ++ a0) ++ a1) ++ a2), Blk b6194 (.cells #[.map (mb A6196)] 56 (0, 0)), MapC enc_latch_Name (Value.int .i64) A6196 t6192.by_, MapC enc_latch_Name (Value.int .i64) A5375 x5374, Blk b30 (.cells #[.map (mb A5375)] 56 (0, 0))]) S rfl rfl (by rintro _ _ _ ⟨rfl, rfl⟩; exact (flat_cons flat_blk (flat_cons flat_map flat_nil))) ?_
          rintro _ w6473 _ Γ' E' S ⟨rfl, rfl⟩
          replace E := E.trans E'
          clear E'
          replace S : St w6473 M6189 F [Blk b6162 (.cells #[.map (mb A6164)] 56 (0, 0)), MapC enc_latch_Name (Value.int .i64) A6164 t6160.by_, Blk b20 (.cells #[.map (mb A5379)] 56 (0, 0)), MapC enc_latch_Name (Value.int .i64) A5379 x5378, Row r_ferrymanlaw05_Step 30 (.slice A6227 (((([] : List ferrymanlaw05_Step) ++ a0) ++ a1) ++ a2).length c6228) (((([] : List ferrymanlaw05_Step) ++ a0) ++ a1) ++ a2), Blk b6194 (.cells #[.map (mb A6196)] 56 (0, 0)), MapC enc_latch_Name (Value.int .i64) A6196 t6192.by_, MapC enc_latch_Name (Value.int .i64) A5375 x5374, Blk b30 (.cells #[.map (mb A5375)] 56 (0, 0))] := S
          refine W_v (.tuple #[.int .i64 t6471.1, .bool t6471.2]) (x_move rfl) rfl ?_
          refine W_v (.int .i64 t6471.1) (x_extract rfl rfl) rfl ?_
          refine W_v (.bool t6471.2) (x_extract rfl rfl) rfl ?_
          refine W_v (.int .i64 t6471.1) (x_assign rfl) rfl ?_
          refine W_v (.bool t6471.2) (x_assign rfl) rfl ?_
          refine Wl_nil ?_
          refine tn ?_
          refine Wp_seq ?_
          refine Wp_region_lit ?_
          refine W_v (.pointer (some ⟨b30, 0, none⟩)) (x_move rfl) rfl ?_
          refine W_v (.slice A6227 (((([] : List ferrymanlaw05_Step) ++ a0) ++ a1) ++ a2).length c6228) (x_move rfl) rfl ?_
          refine W_v (.int .i64 x6361) (x_move rfl) rfl ?_
          obtain ⟨⟨p6476, p6477⟩, H⟩ := chkS H
          obtain ⟨b6478, o6479, cs6480, _, _, ee6485, hb6481, vs6482, hR6483, hc6484⟩ := SlW.at' (S.row_read 4 rfl) p6476 p6477
          obtain rfl : vs6482 = _ := hR6483
          refine W_v (.pointer (some ⟨b6478, o6479 + x6361.toNat * 4, none⟩)) (x_indexAddr Try.underlying22 ty30 (slA ee6485) rfl p6476 p6477) rfl ?_
          refine W_v (.pointer (some ⟨b6478, o6479 + x6361.toNat * 4 + 1, none⟩)) (x_fieldAddr (o := o6479 + x6361.toNat * 4) (off := 1) Try.underlying30 rfl ty25 rfl rfl) rfl ?_
          refine W_v (.agg #[.int .u8 ((rd (((([] : List ferrymanlaw05_Step) ++ a0) ++ a1) ++ a2) x6361).N.Kind), .int .u64 ((rd (((([] : List ferrymanlaw05_Step) ++ a0) ++ a1) ++ a2) x6361).N.ID)]) (x_loadA (Hp.of_get hb6481) ty25 rfl (sub_el hc6484 1 rfl) rfl rfl) rfl ?_
          obtain ⟨t6486, ht6487, H⟩ := bindS H
          replace S : St w6473 M6189 F [Blk b30 (.cells #[.map (mb A5375)] 56 (0, 0)), MapC enc_latch_Name (Value.int .i64) A5375 x5374, Blk b6162 (.cells #[.map (mb A6164)] 56 (0, 0)), MapC enc_latch_Name (Value.int .i64) A6164 t6160.by_, Blk b20 (.cells #[.map (mb A5379)] 56 (0, 0)), MapC enc_latch_Name (Value.int .i64) A5379 x5378, Row r_ferrymanlaw05_Step 30 (.slice A6227 (((([] : List ferrymanlaw05_Step) ++ a0) ++ a1) ++ a2).length c6228) (((([] : List ferrymanlaw05_Step) ++ a0) ++ a1) ++ a2), Blk b6194 (.cells #[.map (mb A6196)] 56 (0, 0)), MapC enc_latch_Name (Value.int .i64) A6196 t6192.by_] := S.pick [8, 7, 0, 1, 2, 3, 4, 5, 6] (by decide)
          refine W_callF2 fn13 (latch_Latches_Owner_PO.con k M6189 A5375 c5376 (⟨x5374⟩ : latch_Latches) ((rd (((([] : List ferrymanlaw05_Step) ++ a0) ++ a1) ++ a2) x6361).N) b30 t6486  ht6487) (Γ1 := [Blk b30 (.cells #[.map (mb A5375)] 56 (0, 0)), MapC enc_latch_Name (Value.int .i64) A5375 x5374]) (Γ2 := [Blk b6162 (.cells #[.map (mb A6164)] 56 (0, 0)), MapC enc_latch_Name (Value.int .i64) A6164 t6160.by_, Blk b20 (.cells #[.map (mb A5379)] 56 (0, 0)), MapC enc_latch_Name (Value.int .i64) A5379 x5378, Row r_ferrymanlaw05_Step 30 (.slice A6227 (((([] : List ferrymanlaw05_Step) ++ a0) ++ a1) ++ a2).length c6228) (((([] : List ferrymanlaw05_Step) ++ a0) ++ a1) ++ a2), Blk b6194 (.cells #[.map (mb A6196)] 56 (0, 0)), MapC enc_latch_Name (Value.int .i64) A6196 t6192.by_]) S rfl rfl (by rintro _ _ _ ⟨rfl, rfl⟩; exact (flat_cons flat_blk (flat_cons flat_map flat_nil))) ?_
          rintro _ w6488 _ Γ' E' S ⟨rfl, rfl⟩
          replace E := E.trans E'
          clear E'
          replace S : St w6488 M6189 F [Blk b30 (.cells #[.map (mb A5375)] 56 (0, 0)), MapC enc_latch_Name (Value.int .i64) A5375 x5374, Blk b6162 (.cells #[.map (mb A6164)] 56 (0, 0)), MapC enc_latch_Name (Value.int .i64) A6164 t6160.by_, Blk b20 (.cells #[.map (mb A5379)] 56 (0, 0)), MapC enc_latch_Name (Value.int .i64) A5379 x5378, Row r_ferrymanlaw05_Step 30 (.slice A6227 (((([] : List ferrymanlaw05_Step) ++ a0) ++ a1) ++ a2).length c6228) (((([] : List ferrymanlaw05_Step) ++ a0) ++ a1) ++ a2), Blk b6194 (.cells #[.map (mb A6196)] 56 (0, 0)), MapC enc_latch_Name (Value.int .i64) A6196 t6192.by_] := S
          refine W_v (.tuple #[.int .i64 t6486.1, .bool t6486.2]) (x_move rfl) rfl ?_
          refine W_v (.int .i64 t6486.1) (x_extract rfl rfl) rfl ?_
          refine W_v (.bool t6486.2) (x_extract rfl rfl) rfl ?_
          refine W_v (.int .i64 t6486.1) (x_assign rfl) rfl ?_
          refine W_v (.bool t6486.2) (x_assign rfl) rfl ?_
          refine Wl_nil ?_
          refine tn ?_
          refine Wp_seq ?_
          refine Wp_region_lit ?_
          refine W_v (.pointer (some ⟨b6194, 0, none⟩)) (x_move rfl) rfl ?_
          refine W_v (.slice A6227 (((([] : List ferrymanlaw05_Step) ++ a0) ++ a1) ++ a2).length c6228) (x_move rfl) rfl ?_
          refine W_v (.int .i64 x6361) (x_move rfl) rfl ?_
          obtain ⟨⟨p6491, p6492⟩, H⟩ := chkS H
          obtain ⟨b6493, o6494, cs6495, _, _, ee6500, hb6496, vs6497, hR6498, hc6499⟩ := SlW.at' (S.row_read 6 rfl) p6491 p6492
          obtain rfl : vs6497 = _ := hR6498
          refine W_v (.pointer (some ⟨b6493, o6494 + x6361.toNat * 4, none⟩)) (x_indexAddr Try.underlying22 ty30 (slA ee6500) rfl p6491 p6492) rfl ?_
          refine W_v (.pointer (some ⟨b6493, o6494 + x6361.toNat * 4 + 1, none⟩)) (x_fieldAddr (o := o6494 + x6361.toNat * 4) (off := 1) Try.underlying30 rfl ty25 rfl rfl) rfl ?_
          refine W_v (.agg #[.int .u8 ((rd (((([] : List ferrymanlaw05_Step) ++ a0) ++ a1) ++ a2) x6361).N.Kind), .int .u64 ((rd (((([] : List ferrymanlaw05_Step) ++ a0) ++ a1) ++ a2) x6361).N.ID)]) (x_loadA (Hp.of_get hb6496) ty25 rfl (sub_el hc6499 1 rfl) rfl rfl) rfl ?_
          obtain ⟨t6501, ht6502, H⟩ := bindS H
          replace S : St w6488 M6189 F [Blk b6194 (.cells #[.map (mb A6196)] 56 (0, 0)), MapC enc_latch_Name (Value.int .i64) A6196 t6192.by_, Blk b30 (.cells #[.map (mb A5375)] 56 (0, 0)), MapC enc_latch_Name (Value.int .i64) A5375 x5374, Blk b6162 (.cells #[.map (mb A6164)] 56 (0, 0)), MapC enc_latch_Name (Value.int .i64) A6164 t6160.by_, Blk b20 (.cells #[.map (mb A5379)] 56 (0, 0)), MapC enc_latch_Name (Value.int .i64) A5379 x5378, Row r_ferrymanlaw05_Step 30 (.slice A6227 (((([] : List ferrymanlaw05_Step) ++ a0) ++ a1) ++ a2).length c6228) (((([] : List ferrymanlaw05_Step) ++ a0) ++ a1) ++ a2)] := S.pick [7, 8, 0, 1, 2, 3, 4, 5, 6] (by decide)
          refine W_callF2 fn13 (latch_Latches_Owner_PO.con k M6189 A6196 c6197 t6192 ((rd (((([] : List ferrymanlaw05_Step) ++ a0) ++ a1) ++ a2) x6361).N) b6194 t6501  ht6502) (Γ1 := [Blk b6194 (.cells #[.map (mb A6196)] 56 (0, 0)), MapC enc_latch_Name (Value.int .i64) A6196 t6192.by_]) (Γ2 := [Blk b30 (.cells #[.map (mb A5375)] 56 (0, 0)), MapC enc_latch_Name (Value.int .i64) A5375 x5374, Blk b6162 (.cells #[.map (mb A6164)] 56 (0, 0)), MapC enc_latch_Name (Value.int .i64) A6164 t6160.by_, Blk b20 (.cells #[.map (mb A5379)] 56 (0, 0)), MapC enc_latch_Name (Value.int .i64) A5379 x5378, Row r_ferrymanlaw05_Step 30 (.slice A6227 (((([] : List ferrymanlaw05_Step) ++ a0) ++ a1) ++ a2).length c6228) (((([] : List ferrymanlaw05_Step) ++ a0) ++ a1) ++ a2)]) S rfl rfl (by rintro _ _ _ ⟨rfl, rfl⟩; exact (flat_cons flat_blk (flat_cons flat_map flat_nil))) ?_
          rintro _ w6503 _ Γ' E' S ⟨rfl, rfl⟩
          replace E := E.trans E'
          clear E'
          replace S : St w6503 M6189 F [Blk b6194 (.cells #[.map (mb A6196)] 56 (0, 0)), MapC enc_latch_Name (Value.int .i64) A6196 t6192.by_, Blk b30 (.cells #[.map (mb A5375)] 56 (0, 0)), MapC enc_latch_Name (Value.int .i64) A5375 x5374, Blk b6162 (.cells #[.map (mb A6164)] 56 (0, 0)), MapC enc_latch_Name (Value.int .i64) A6164 t6160.by_, Blk b20 (.cells #[.map (mb A5379)] 56 (0, 0)), MapC enc_latch_Name (Value.int .i64) A5379 x5378, Row r_ferrymanlaw05_Step 30 (.slice A6227 (((([] : List ferrymanlaw05_Step) ++ a0) ++ a1) ++ a2).length c6228) (((([] : List ferrymanlaw05_Step) ++ a0) ++ a1) ++ a2)] := S
          refine W_v (.tuple #[.int .i64 t6501.1, .bool t6501.2]) (x_move rfl) rfl ?_
          refine W_v (.int .i64 t6501.1) (x_extract rfl rfl) rfl ?_
          refine W_v (.bool t6501.2) (x_extract rfl rfl) rfl ?_
          refine W_v (.int .i64 t6501.1) (x_assign rfl) rfl ?_
          refine W_v (.bool t6501.2) (x_assign rfl) rfl ?_
          refine Wl_nil ?_
          refine tn ?_
          refine Wp_seq ?_
          refine Wp_region_lit ?_
          refine W_v (.int .i64 t6456.1) (x_move rfl) rfl ?_
          refine W_v (.int .i64 t6471.1) (x_move rfl) rfl ?_
          refine W_v (.bool (t6456.1 != t6471.1)) (x_ibin rfl rfl rfl rfl) rfl ?_
          refine W_v (.bool (t6456.1 != t6471.1)) (x_move rfl) rfl ?_
          refine Wl_cutN 4 (fun ρ w' => Agree ρ [(7, .pointer (some ⟨b20, 0, none⟩)), (8, .pointer (some ⟨b30, 0, none⟩)), (11, .pointer (some ⟨b6162, 0, none⟩)), (12, .pointer (some ⟨b6194, 0, none⟩)), (13, .slice A6227 (((([] : List ferrymanlaw05_Step) ++ a0) ++ a1) ++ a2).length c6228), (14, .int .i64 x6361), (19, .int .i64 t6486.1), (20, .bool t6486.2), (21, .int .i64 t6501.1), (22, .bool t6501.2), (183, .bool ((t6456.1 != t6471.1) || (!(t6456.2 == t6471.2))))] ∧ w6503 = w') ?_ ?_
          · rcases boolCases (t6456.1 != t6471.1) with hb6506 | hb6506
            · skip
              refine W_yes (congrArg some hb6506) ?_
              refine W_v (.bool t6456.2) (x_move rfl) rfl ?_
              refine W_yes (congrArg some hb6506) ?_
              refine W_v (.bool t6471.2) (x_move rfl) rfl ?_
              refine W_yes (congrArg some hb6506) ?_
              refine W_v (.bool (!(t6456.2 == t6471.2))) (x_bne Try.underlying4 rfl rfl) rfl ?_
              refine W_v (.bool (!(t6456.2 == t6471.2))) (x_pick (k := false) (congrArg Value.bool hb6506) rfl) rfl ?_
              refine Wl_nil ?_
              exact ⟨⟨rfl, rfl, rfl, rfl, rfl, rfl, rfl, rfl, rfl, rfl, (by first | rfl | (rw [hb6506]; rfl) | (simp only [hb6506]; rfl)), trivial⟩, rfl⟩
            · skip
              refine W_no (skF hb6506) rfl ?_
              refine W_no (skF hb6506) rfl ?_
              refine W_no (skF hb6506) rfl ?_
              refine W_v (.bool true) (x_pick (k := true) (congrArg Value.bool hb6506) rfl) rfl ?_
              refine Wl_nil ?_
              exact ⟨⟨rfl, rfl, rfl, rfl, rfl, rfl, rfl, rfl, rfl, rfl, (by first | rfl | (rw [hb6506]; rfl) | (simp only [hb6506]; rfl)), trivial⟩, rfl⟩
          rintro ρ _ ⟨hρ, rfl⟩
          rw [agree_eta hρ]
          clear hρ
          refine W_v (.bool ((t6456.1 != t6471.1) || (!(t6456.2 == t6471.2)))) (x_move rfl) rfl ?_
          refine Wl_cutN 4 (fun ρ w' => Agree ρ [(7, .pointer (some ⟨b20, 0, none⟩)), (8, .pointer (some ⟨b30, 0, none⟩)), (11, .pointer (some ⟨b6162, 0, none⟩)), (12, .pointer (some ⟨b6194, 0, none⟩)), (13, .slice A6227 (((([] : List ferrymanlaw05_Step) ++ a0) ++ a1) ++ a2).length c6228), (14, .int .i64 x6361), (20, .bool t6486.2), (22, .bool t6501.2), (188, .bool (((t6456.1 != t6471.1) || (!(t6456.2 == t6471.2))) || (t6486.1 != t6501.1)))] ∧ w6503 = w') ?_ ?_
          · rcases boolCases ((t6456.1 != t6471.1) || (!(t6456.2 == t6471.2))) with hb6507 | hb6507
            · skip
              refine W_yes (congrArg some hb6507) ?_
              refine W_v (.int .i64 t6486.1) (x_move rfl) rfl ?_
              refine W_yes (congrArg some hb6507) ?_
              refine W_v (.int .i64 t6501.1) (x_move rfl) rfl ?_
              refine W_yes (congrArg some hb6507) ?_
              refine W_v (.bool (t6486.1 != t6501.1)) (x_ibin rfl rfl rfl rfl) rfl ?_
              refine W_v (.bool (t6486.1 != t6501.1)) (x_pick (k := false) (congrArg Value.bool hb6507) rfl) rfl ?_
              refine Wl_nil ?_
              exact ⟨⟨rfl, rfl, rfl, rfl, rfl, rfl, rfl, rfl, (by first | rfl | (rw [hb6507]; rfl) | (simp only [hb6507]; rfl)), trivial⟩, rfl⟩
            · skip
              refine W_no (skF hb6507) rfl ?_
              refine W_no (skF hb6507) rfl ?_
              refine W_no (skF hb6507) rfl ?_
              refine W_v (.bool true) (x_pick (k := true) (congrArg Value.bool hb6507) rfl) rfl ?_
              refine Wl_nil ?_
              exact ⟨⟨rfl, rfl, rfl, rfl, rfl, rfl, rfl, rfl, (by first | rfl | (rw [hb6507]; rfl) | (simp only [hb6507]; rfl)), trivial⟩, rfl⟩
          rintro ρ _ ⟨hρ, rfl⟩
          rw [agree_eta hρ]
          clear hρ
          refine W_v (.bool (((t6456.1 != t6471.1) || (!(t6456.2 == t6471.2))) || (t6486.1 != t6501.1))) (x_move rfl) rfl ?_
          refine Wl_cutN 4 (fun ρ w' => Agree ρ [(7, .pointer (some ⟨b20, 0, none⟩)), (8, .pointer (some ⟨b30, 0, none⟩)), (11, .pointer (some ⟨b6162, 0, none⟩)), (12, .pointer (some ⟨b6194, 0, none⟩)), (13, .slice A6227 (((([] : List ferrymanlaw05_Step) ++ a0) ++ a1) ++ a2).length c6228), (14, .int .i64 x6361), (193, .bool ((((t6456.1 != t6471.1) || (!(t6456.2 == t6471.2))) || (t6486.1 != t6501.1)) || (!(t6486.2 == t6501.2))))] ∧ w6503 = w') ?_ ?_
          · rcases boolCases (((t6456.1 != t6471.1) || (!(t6456.2 == t6471.2))) || (t6486.1 != t6501.1)) with hb6508 | hb6508
            · skip
              refine W_yes (congrArg some hb6508) ?_
              refine W_v (.bool t6486.2) (x_move rfl) rfl ?_
              refine W_yes (congrArg some hb6508) ?_
              refine W_v (.bool t6501.2) (x_move rfl) rfl ?_
              refine W_yes (congrArg some hb6508) ?_
              refine W_v (.bool (!(t6486.2 == t6501.2))) (x_bne Try.underlying4 rfl rfl) rfl ?_
              refine W_v (.bool (!(t6486.2 == t6501.2))) (x_pick (k := false) (congrArg Value.bool hb6508) rfl) rfl ?_
              refine Wl_nil ?_
              exact ⟨⟨rfl, rfl, rfl, rfl, rfl, rfl, (by first | rfl | (rw [hb6508]; rfl) | (simp only [hb6508]; rfl)), trivial⟩, rfl⟩
            · skip
              refine W_no (skF hb6508) rfl ?_
              refine W_no (skF hb6508) rfl ?_
              refine W_no (skF hb6508) rfl ?_
              refine W_v (.bool true) (x_pick (k := true) (congrArg Value.bool hb6508) rfl) rfl ?_
              refine Wl_nil ?_
              exact ⟨⟨rfl, rfl, rfl, rfl, rfl, rfl, (by first | rfl | (rw [hb6508]; rfl) | (simp only [hb6508]; rfl)), trivial⟩, rfl⟩
          rintro ρ _ ⟨hρ, rfl⟩
          rw [agree_eta hρ]
          clear hρ
          refine Wl_nil ?_
          refine tn ?_
          rcases iteS H with ⟨hb6509, H⟩ | ⟨hb6509, H⟩
          · refine Wp_cond_true (congrArg Value.bool hb6509) ?_
            refine Wp_seq ?_
            refine Wp_region_lit ?_
            refine W_v (.bool false) (x_assign rfl) rfl ?_
            refine Wl_nil ?_
            refine tn ?_
            refine Wp_ret ?_
            refine br (tr (tr (br (tr (tr (?_))))))
            obtain rfl := Option.some.inj H
            have H := o6443H
            replace H := elimL H
            obtain rfl := Option.some.inj H
            exact ⟨_, _, _, fun w1 e1 => run_resR (vs := [.bool false]) (FA.cons (rfl) (FA.nil)), HM, E, S.pick [] (by decide), ⟨rfl, rfl⟩⟩
          refine Wp_cond_false (congrArg Value.bool hb6509) ?_
          refine Wp_skip ?_
          refine bn ?_
          refine tn ?_
          refine Wp_region_lit ?_
          refine W_v (.int .i64 x6361) (x_move rfl) rfl ?_
          refine W_v (.int .i64 (IntKind.i64.wrap (x6361 + (1 : Int)))) (x_ibin rfl rfl rfl rfl) rfl ?_
          refine W_v (.int .i64 (IntKind.i64.wrap (x6361 + (1 : Int)))) (x_assign rfl) rfl ?_
          refine Wl_nil ?_
          refine tn ?_
          exact ⟨k, Nat.lt_succ_self k, ⟨(IntKind.i64.wrap (x6361 + (1 : Int))), H, ⟨rfl, rfl, rfl, rfl, rfl, rfl, trivial⟩, E, S.pick [8, 0, 1, 4, 5, 7, 3, 2, 6] (by decide)⟩⟩
        refine Wp_cond_false (congrArg Value.bool hb6445) ?_
        refine Wp_exit ?_
        refine tx (tx (bsm (?_)))
        refine tn ?_
        exact ⟨t6192.by_, t6160.by_, x5374, x5378, A6196, c6197, A6164, c6165, A5375, c5376, A5379, c5380, Option.some.inj H, ⟨rfl, rfl, rfl, rfl, trivial⟩, E, S.pick [5, 6, 4, 2, 1, 3, 7, 8] (by decide)⟩
  clear o6443h
  rintro ρ w6510 ⟨x6427, x6431, x6435, x6439, A6428, c6429, A6432, c6433, A6436, c6437, A6440, c6441, rfl, hρ, E, S⟩
  rw [agree_eta hρ]
  clear hρ
  have H := o6443H
  clear o6443H
  replace H := elimR H
  refine tn ?_
  refine Wp_seq ?_
  refine Wp_region_lit ?_
  refine W_v (.pointer (some ⟨b20, 0, none⟩)) (x_move rfl) rfl ?_
  obtain ⟨t6511, ht6512, H⟩ := bindS H
  replace S : St w6510 M6189 F [Blk b20 (.cells #[.map (mb A6440)] 56 (0, 0)), MapC enc_latch_Name (Value.int .i64) A6440 x6439, MapC enc_latch_Name (Value.int .i64) A6436 x6435, MapC enc_latch_Name (Value.int .i64) A6432 x6431, MapC enc_latch_Name (Value.int .i64) A6428 x6427, Blk b6194 (.cells #[.map (mb A6428)] 56 (0, 0)), Blk b6162 (.cells #[.map (mb A6432)] 56 (0, 0)), Blk b30 (.cells #[.map (mb A6436)] 56 (0, 0))] := S.pick [7, 0, 1, 2, 3, 4, 5, 6] (by decide)
  refine W_callF2 fn15 (latch_Latches_All_PO.con k M6189 A6440 c6441 (⟨x6439⟩ : latch_Latches) b20 t6511  ht6512) (Γ1 := [Blk b20 (.cells #[.map (mb A6440)] 56 (0, 0)), MapC enc_latch_Name (Value.int .i64) A6440 x6439]) (Γ2 := [MapC enc_latch_Name (Value.int .i64) A6436 x6435, MapC enc_latch_Name (Value.int .i64) A6432 x6431, MapC enc_latch_Name (Value.int .i64) A6428 x6427, Blk b6194 (.cells #[.map (mb A6428)] 56 (0, 0)), Blk b6162 (.cells #[.map (mb A6432)] 56 (0, 0)), Blk b30 (.cells #[.map (mb A6436)] 56 (0, 0))]) S rfl rfl (by rintro _ _ _ ⟨rfl, rfl⟩; exact (flat_cons flat_blk (flat_cons flat_map flat_nil))) ?_
  rintro _ w6513 _ Γ' E' S ⟨rfl, rfl⟩
  replace E := E.trans E'
  clear E'
  replace S : St w6513 M6189 F [Blk b20 (.cells #[.map (mb A6440)] 56 (0, 0)), MapC enc_latch_Name (Value.int .i64) A6440 x6439, MapC enc_latch_Name (Value.int .i64) A6436 x6435, MapC enc_latch_Name (Value.int .i64) A6432 x6431, MapC enc_latch_Name (Value.int .i64) A6428 x6427, Blk b6194 (.cells #[.map (mb A6428)] 56 (0, 0)), Blk b6162 (.cells #[.map (mb A6432)] 56 (0, 0)), Blk b30 (.cells #[.map (mb A6436)] 56 (0, 0))] := S
  refine W_v (.pointer (some ⟨b6162, 0, none⟩)) (x_move rfl) rfl ?_
  obtain ⟨t6516, ht6517, H⟩ := bindS H
  replace S : St w6513 M6189 F [Blk b6162 (.cells #[.map (mb A6432)] 56 (0, 0)), MapC enc_latch_Name (Value.int .i64) A6432 x6431, Blk b20 (.cells #[.map (mb A6440)] 56 (0, 0)), MapC enc_latch_Name (Value.int .i64) A6440 x6439, MapC enc_latch_Name (Value.int .i64) A6436 x6435, MapC enc_latch_Name (Value.int .i64) A6428 x6427, Blk b6194 (.cells #[.map (mb A6428)] 56 (0, 0)), Blk b30 (.cells #[.map (mb A6436)] 56 (0, 0))] := S.pick [6, 3, 0, 1, 2, 4, 5, 7] (by decide)
  refine W_callF2 fn15 (latch_Latches_All_PO.con k M6189 A6432 c6433 (⟨x6431⟩ : latch_Latches) b6162 t6516  ht6517) (Γ1 := [Blk b6162 (.cells #[.map (mb A6432)] 56 (0, 0)), MapC enc_latch_Name (Value.int .i64) A6432 x6431]) (Γ2 := [Blk b20 (.cells #[.map (mb A6440)] 56 (0, 0)), MapC enc_latch_Name (Value.int .i64) A6440 x6439, MapC enc_latch_Name (Value.int .i64) A6436 x6435, MapC enc_latch_Name (Value.int .i64) A6428 x6427, Blk b6194 (.cells #[.map (mb A6428)] 56 (0, 0)), Blk b30 (.cells #[.map (mb A6436)] 56 (0, 0))]) S rfl rfl (by rintro _ _ _ ⟨rfl, rfl⟩; exact (flat_cons flat_blk (flat_cons flat_map flat_nil))) ?_
  rintro _ w6518 _ Γ' E' S ⟨rfl, rfl⟩
  replace E := E.trans E'
  clear E'
  replace S : St w6518 M6189 F [Blk b6162 (.cells #[.map (mb A6432)] 56 (0, 0)), MapC enc_latch_Name (Value.int .i64) A6432 x6431, Blk b20 (.cells #[.map (mb A6440)] 56 (0, 0)), MapC enc_latch_Name (Value.int .i64) A6440 x6439, MapC enc_latch_Name (Value.int .i64) A6436 x6435, MapC enc_latch_Name (Value.int .i64) A6428 x6427, Blk b6194 (.cells #[.map (mb A6428)] 56 (0, 0)), Blk b30 (.cells #[.map (mb A6436)] 56 (0, 0))] := S
  refine W_v (.bool (t6511 == t6516)) (x_ibin rfl rfl rfl rfl) rfl ?_
  refine W_v (.bool (t6511 == t6516)) (x_move rfl) rfl ?_
  obtain ⟨o6543, o6543h, o6543H⟩ := bindS H
  clear H
  refine Wl_cutN 6 (fun ρ w' => ∃ (x6542 : Bool), (x6542) = o6543 ∧ Agree ρ [(205, .bool x6542)] ∧ Ext w w' ∧ St w' M6189 F []) ?_ ?_
  · have H := o6543h
    rcases iteS H with ⟨hb6541, H⟩ | ⟨hb6541, H⟩
    · skip
      refine W_yes (congrArg some hb6541) ?_
      refine W_v (.pointer (some ⟨b30, 0, none⟩)) (x_move rfl) rfl ?_
      refine W_yes (congrArg some hb6541) ?_
      obtain ⟨t6544, ht6545, H⟩ := bindS H
      replace S : St w6518 M6189 F [Blk b30 (.cells #[.map (mb A6436)] 56 (0, 0)), MapC enc_latch_Name (Value.int .i64) A6436 x6435, Blk b6162 (.cells #[.map (mb A6432)] 56 (0, 0)), MapC enc_latch_Name (Value.int .i64) A6432 x6431, Blk b20 (.cells #[.map (mb A6440)] 56 (0, 0)), MapC enc_latch_Name (Value.int .i64) A6440 x6439, MapC enc_latch_Name (Value.int .i64) A6428 x6427, Blk b6194 (.cells #[.map (mb A6428)] 56 (0, 0))] := S.pick [7, 4, 0, 1, 2, 3, 5, 6] (by decide)
      refine W_callF2 fn15 (latch_Latches_All_PO.con k M6189 A6436 c6437 (⟨x6435⟩ : latch_Latches) b30 t6544  ht6545) (Γ1 := [Blk b30 (.cells #[.map (mb A6436)] 56 (0, 0)), MapC enc_latch_Name (Value.int .i64) A6436 x6435]) (Γ2 := [Blk b6162 (.cells #[.map (mb A6432)] 56 (0, 0)), MapC enc_latch_Name (Value.int .i64) A6432 x6431, Blk b20 (.cells #[.map (mb A6440)] 56 (0, 0)), MapC enc_latch_Name (Value.int .i64) A6440 x6439, MapC enc_latch_Name (Value.int .i64) A6428 x6427, Blk b6194 (.cells #[.map (mb A6428)] 56 (0, 0))]) S rfl rfl (by rintro _ _ _ ⟨rfl, rfl⟩; exact (flat_cons flat_blk (flat_cons flat_map flat_nil))) ?_
      rintro _ w6546 _ Γ' E' S ⟨rfl, rfl⟩
      replace E := E.trans E'
      clear E'
      replace S : St w6546 M6189 F [Blk b30 (.cells #[.map (mb A6436)] 56 (0, 0)), MapC enc_latch_Name (Value.int .i64) A6436 x6435, Blk b6162 (.cells #[.map (mb A6432)] 56 (0, 0)), MapC enc_latch_Name (Value.int .i64) A6432 x6431, Blk b20 (.cells #[.map (mb A6440)] 56 (0, 0)), MapC enc_latch_Name (Value.int .i64) A6440 x6439, MapC enc_latch_Name (Value.int .i64) A6428 x6427, Blk b6194 (.cells #[.map (mb A6428)] 56 (0, 0))] := S
      refine W_yes (congrArg some hb6541) ?_
      refine W_v (.pointer (some ⟨b6194, 0, none⟩)) (x_move rfl) rfl ?_
      refine W_yes (congrArg some hb6541) ?_
      obtain ⟨t6549, ht6550, H⟩ := bindS H
      replace S : St w6546 M6189 F [Blk b6194 (.cells #[.map (mb A6428)] 56 (0, 0)), MapC enc_latch_Name (Value.int .i64) A6428 x6427, Blk b30 (.cells #[.map (mb A6436)] 56 (0, 0)), MapC enc_latch_Name (Value.int .i64) A6436 x6435, Blk b6162 (.cells #[.map (mb A6432)] 56 (0, 0)), MapC enc_latch_Name (Value.int .i64) A6432 x6431, Blk b20 (.cells #[.map (mb A6440)] 56 (0, 0)), MapC enc_latch_Name (Value.int .i64) A6440 x6439] := S.pick [7, 6, 0, 1, 2, 3, 4, 5] (by decide)
      refine W_callF2 fn15 (latch_Latches_All_PO.con k M6189 A6428 c6429 (⟨x6427⟩ : latch_Latches) b6194 t6549  ht6550) (Γ1 := [Blk b6194 (.cells #[.map (mb A6428)] 56 (0, 0)), MapC enc_latch_Name (Value.int .i64) A6428 x6427]) (Γ2 := [Blk b30 (.cells #[.map (mb A6436)] 56 (0, 0)), MapC enc_latch_Name (Value.int .i64) A6436 x6435, Blk b6162 (.cells #[.map (mb A6432)] 56 (0, 0)), MapC enc_latch_Name (Value.int .i64) A6432 x6431, Blk b20 (.cells #[.map (mb A6440)] 56 (0, 0)), MapC enc_latch_Name (Value.int .i64) A6440 x6439]) S rfl rfl (by rintro _ _ _ ⟨rfl, rfl⟩; exact (flat_cons flat_blk (flat_cons flat_map flat_nil))) ?_
      rintro _ w6551 _ Γ' E' S ⟨rfl, rfl⟩
      replace E := E.trans E'
      clear E'
      replace S : St w6551 M6189 F [Blk b6194 (.cells #[.map (mb A6428)] 56 (0, 0)), MapC enc_latch_Name (Value.int .i64) A6428 x6427, Blk b30 (.cells #[.map (mb A6436)] 56 (0, 0)), MapC enc_latch_Name (Value.int .i64) A6436 x6435, Blk b6162 (.cells #[.map (mb A6432)] 56 (0, 0)), MapC enc_latch_Name (Value.int .i64) A6432 x6431, Blk b20 (.cells #[.map (mb A6440)] 56 (0, 0)), MapC enc_latch_Name (Value.int .i64) A6440 x6439] := S
      refine W_yes (congrArg some hb6541) ?_
      refine W_v (.bool (t6544 == t6549)) (x_ibin rfl rfl rfl rfl) rfl ?_
      refine W_v (.bool (t6544 == t6549)) (x_pick (k := true) (congrArg Value.bool hb6541) rfl) rfl ?_
      refine Wl_nil ?_
      exact ⟨(t6544 == t6549), Option.some.inj H, ⟨rfl, trivial⟩, E, S.pick [] (by decide)⟩
    · skip
      refine W_no (skT hb6541) rfl ?_
      refine W_no (skT hb6541) rfl ?_
      refine W_no (skT hb6541) rfl ?_
      refine W_no (skT hb6541) rfl ?_
      refine W_no (skT hb6541) rfl ?_
      refine W_v (.bool false) (x_pick (k := false) (congrArg Value.bool hb6541) rfl) rfl ?_
      refine Wl_nil ?_
      exact ⟨false, Option.some.inj H, ⟨rfl, trivial⟩, E, S.pick [] (by decide)⟩
  clear o6543h
  rintro ρ w6554 ⟨x6542, rfl, hρ, E, S⟩
  rw [agree_eta hρ]
  clear hρ
  have H := o6543H
  clear o6543H
  refine W_v (.bool x6542) (x_assign rfl) rfl ?_
  refine Wl_nil ?_
  refine tn ?_
  refine Wp_ret ?_
  obtain rfl := Option.some.inj H
  exact ⟨_, _, _, fun w1 e1 => run_resR (vs := [.bool x6542]) (FA.cons (rfl) (FA.nil)), HM, E, S.pick [] (by decide), ⟨rfl, rfl⟩⟩
end Go.Proofs.Ytgnbccjpgoeplaa
