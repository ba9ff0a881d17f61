import Derived.Test.YtgnbccjpgoeplaaGl1
namespace Go.Proofs.Ytgnbccjpgoeplaa
open Go
set_option linter.unusedVariables false
set_option linter.unusedSimpArgs false
/-! ### ferryman/ferrymanlaw05.LatchSums: function 5 -/
def ferrymanlaw05_LatchSums_l8 (a0 : (List ferrymanlaw05_Step)) (x1499 : Int) (t2719 : (List latch_Name)) : Nat → Int → List (latch_Name × Int) → Option ((Bool) ⊕ ((List (latch_Name × Int))))
  | 0, _, _ => none
  | k + 1, x2847, x2848 => (if (decide (x2847 < (t2719.length : Int))) = true then (if 0 ≤ x2847 ∧ x2847 < (t2719.length : Int) then (Option.bind (latch_Latches_Owner_PO k (⟨x2848⟩ : latch_Latches) (rd t2719 x2847)) (fun t2924 => (Option.bind (α := Bool × (List (latch_Name × Int))) (if (!t2924.2) = true then some (true, x2848) else (if 0 ≤ x1499 ∧ x1499 < (a0.length : Int) then some ((t2924.1 != (rd a0 x1499).Task), x2848) else none)) (fun ⟨x2950, x2951⟩ => (if x2950 = true then some (.inl false) else ferrymanlaw05_LatchSums_l8 a0 x1499 t2719 k (IntKind.i64.wrap (x2847 + (1 : Int))) x2951))))) else none) else some (.inr (x2848)))
set_option maxHeartbeats 2000000 in
theorem ferrymanlaw05_LatchSums_l8.mono {a0 : (List ferrymanlaw05_Step)} {x1499 : Int} {t2719 : (List latch_Name)} : ∀ {k : Nat} {x0 x1}, OLe (ferrymanlaw05_LatchSums_l8 a0 x1499 t2719 k x0 x1) (ferrymanlaw05_LatchSums_l8 a0 x1499 t2719 (k + 1) x0 x1) := by
  intro k
  induction k with
  | zero => intros; exact OLe.none
  | succ k ih =>
    intros
    rw [ferrymanlaw05_LatchSums_l8.eq_2, ferrymanlaw05_LatchSums_l8.eq_2]
    repeat' (first | with_reducible exact OLe.none | with_reducible exact OLe.some | with_reducible refine OLe.ite ?_ ?_ | with_reducible refine OLe.bind ?_ (fun _ => ?_) | with_reducible exact latch_Latches_Owner_PO.mono | exact ih | refine OLe.bind ?_ (fun _ => ?_) | refine OLe.ite ?_ ?_ | refine OLe.elim (fun _ => ?_) (fun _ => ?_) | split)
def ferrymanlaw05_LatchSums_l7 (a0 : (List ferrymanlaw05_Step)) (x1499 : Int) : Nat → Bool → Int → List (latch_Name × Int) → Option ((Bool × (List (latch_Name × Int))))
  | 0, _, _, _ => none
  | k + 1, x2496, x2497, x2498 => (if (decide (x2497 < x1499)) = true then (Option.bind (α := Bool × (List (latch_Name × Int))) (if x2496 = true then some (true, x2498) else (if 0 ≤ x2497 ∧ x2497 < (a0.length : Int) then (if 0 ≤ x1499 ∧ x1499 < (a0.length : Int) then some (((rd a0 x2497).Task == (rd a0 x1499).Task), x2498) else none) else none)) (fun ⟨x2680, x2681⟩ => ferrymanlaw05_LatchSums_l7 a0 x1499 k x2680 (IntKind.i64.wrap (x2497 + (1 : Int))) x2681)) else some (x2496, x2498))
set_option maxHeartbeats 2000000 in
theorem ferrymanlaw05_LatchSums_l7.mono {a0 : (List ferrymanlaw05_Step)} {x1499 : Int} : ∀ {k : Nat} {x0 x1 x2}, OLe (ferrymanlaw05_LatchSums_l7 a0 x1499 k x0 x1 x2) (ferrymanlaw05_LatchSums_l7 a0 x1499 (k + 1) x0 x1 x2) := by
  intro k
  induction k with
  | zero => intros; exact OLe.none
  | succ k ih =>
    intros
    rw [ferrymanlaw05_LatchSums_l7.eq_2, ferrymanlaw05_LatchSums_l7.eq_2]
    repeat' (first | with_reducible exact OLe.none | with_reducible exact OLe.some | with_reducible refine OLe.ite ?_ ?_ | with_reducible refine OLe.bind ?_ (fun _ => ?_) | exact ih | refine OLe.bind ?_ (fun _ => ?_) | refine OLe.ite ?_ ?_ | refine OLe.elim (fun _ => ?_) (fun _ => ?_) | split)
def ferrymanlaw05_LatchSums_l4 (a0 : (List ferrymanlaw05_Step)) : Nat → Int → Int → List (latch_Name × Int) → Option ((Bool) ⊕ (Int × (List (latch_Name × Int))))
  | 0, _, _, _ => none
  | k + 1, x1498, x1499, x1500 => (if (decide (x1499 < (a0.length : Int))) = true then (Option.bind (ferrymanlaw05_LatchSums_l7 a0 x1499 k false (0 : Int) x1500) (fun ⟨x2601, x2602⟩ => (if x2601 = true then ferrymanlaw05_LatchSums_l4 a0 k x1498 (IntKind.i64.wrap (x1499 + (1 : Int))) x2602 else (if 0 ≤ x1499 ∧ x1499 < (a0.length : Int) then (Option.bind (latch_Latches_Held_PO k (⟨x2602⟩ : latch_Latches) ((rd a0 x1499).Task)) (fun t2719 => (Option.bind (ferrymanlaw05_LatchSums_l8 a0 x1499 t2719 k (0 : Int) x2602) (fun o2911o => Sum.elim (fun r' => some (.inl r')) (fun x2907 => ferrymanlaw05_LatchSums_l4 a0 k (IntKind.i64.wrap (x1498 + (t2719.length : Int))) (IntKind.i64.wrap (x1499 + (1 : Int))) x2907) o2911o)))) else none)))) else some (.inr (x1498, x1500)))
set_option maxHeartbeats 2000000 in
theorem ferrymanlaw05_LatchSums_l4.mono {a0 : (List ferrymanlaw05_Step)} : ∀ {k : Nat} {x0 x1 x2}, OLe (ferrymanlaw05_LatchSums_l4 a0 k x0 x1 x2) (ferrymanlaw05_LatchSums_l4 a0 (k + 1) x0 x1 x2) := by
  intro k
  induction k with
  | zero => intros; exact OLe.none
  | succ k ih =>
    intros
    rw [ferrymanlaw05_LatchSums_l4.eq_2, ferrymanlaw05_LatchSums_l4.eq_2]
    repeat' (first | with_reducible exact OLe.none | with_reducible exact OLe.some | with_reducible refine OLe.ite ?_ ?_ | with_reducible refine OLe.bind ?_ (fun _ => ?_) | with_reducible exact ferrymanlaw05_LatchSums_l7.mono | with_reducible exact ferrymanlaw05_LatchSums_l8.mono | with_reducible exact latch_Latches_Held_PO.mono | exact ih | refine OLe.bind ?_ (fun _ => ?_) | refine OLe.ite ?_ ?_ | refine OLe.elim (fun _ => ?_) (fun _ => ?_) | split)
def ferrymanlaw05_LatchSums (k : Nat) (a0 : (List ferrymanlaw05_Step)) : Option (Bool) :=
  (Option.bind (α := Bool) (if (decide ((a0.length : Int) > (300 : Int))) = true then some (true) else (Option.bind (ferrymanlaw05_awake k ) (fun t10 => some ((!t10))))) (fun x8 => (if x8 = true then (Option.bind (ferrymanlaw05_awake k ) (fun t15 => some t15)) else (Option.bind (ferrymanlaw05_run k a0) (fun t18 => (Option.bind (ferrymanlaw05_LatchSums_l4 a0 k (0 : Int) (0 : Int) t18.by_) (fun o2238o => Sum.elim (fun r' => some r') (fun ⟨x2233, x2234⟩ => (Option.bind (latch_Latches_All_PO k (⟨x2234⟩ : latch_Latches)) (fun t2970 => some (x2233 == t2970)))) o2238o)))))))
set_option maxHeartbeats 2000000 in
theorem ferrymanlaw05_LatchSums.mono {k : Nat} {a0 : (List ferrymanlaw05_Step)} : OLe (ferrymanlaw05_LatchSums k a0) (ferrymanlaw05_LatchSums (k + 1) a0) := by
  unfold ferrymanlaw05_LatchSums
  repeat' (first | with_reducible exact OLe.none | with_reducible exact OLe.some | with_reducible refine OLe.ite ?_ ?_ | with_reducible refine OLe.bind ?_ (fun _ => ?_) | with_reducible exact ferrymanlaw05_LatchSums_l4.mono | with_reducible exact ferrymanlaw05_awake.mono | with_reducible exact ferrymanlaw05_run.mono | with_reducible exact latch_Latches_All_PO.mono | refine OLe.bind ?_ (fun _ => ?_) | refine OLe.ite ?_ ?_ | refine OLe.elim (fun _ => ?_) (fun _ => ?_) | split)
set_option maxHeartbeats 1000000 in
set_option maxRecDepth 100000 in
theorem ferrymanlaw05_LatchSums.con (k : Nat) (M : Hp) (A0 : Option Addr) (c0 : Nat) (a0 : (List ferrymanlaw05_Step)) (r : Bool) (hr0 : SlR r_ferrymanlaw05_Step M (.slice A0 a0.length c0) a0) (h : ferrymanlaw05_LatchSums k a0 = some r) : Con Try.prog 5 #[.slice A0 a0.length c0] M [] (fun v M' Γ' => v = .bool r ∧ Γ' = []) := by
  refine con_of_wp Try.func5 rfl Try.ntmps5 Try.results5 rfl ?_
  intro w F rn S hrn
  have E := Ext.refl w
  have HM := Hp.le_refl M
  have H := h
  unfold ferrymanlaw05_LatchSums at H
  refine Wp_seq ?_
  refine Wp_region_lit ?_
  refine W_v (.bool false) (x_assign rfl) rfl ?_
  refine Wl_nil ?_
  refine tn ?_
  refine Wp_seq ?_
  refine Wp_seq ?_
  refine Wp_region_lit ?_
  refine W_v (.slice A0 a0.length c0) (x_move rfl) rfl ?_
  refine W_v (.int .i64 (a0.length : Int)) (x_len_slice (n := a0.length) Try.underlying22 rfl) rfl ?_
  refine W_v (.bool (decide ((a0.length : Int) > (300 : Int)))) (x_ibin rfl rfl rfl rfl) rfl ?_
  refine W_v (.bool (decide ((a0.length : Int) > (300 : Int)))) (x_move rfl) rfl ?_
  obtain ⟨o9, o9h, o9H⟩ := bindS H
  clear H
  refine Wl_cutN 3 (fun ρ w' => ∃ (x8 : Bool), (x8) = o9 ∧ Agree ρ [(0, .slice A0 a0.length c0), (18, .bool x8)] ∧ Ext w w' ∧ St w' M F []) ?_ ?_
  · have H := o9h
    rcases iteS H with ⟨hb7, H⟩ | ⟨hb7, H⟩
    · skip
      refine W_no (skF hb7) rfl ?_
      refine W_no (skF hb7) rfl ?_
      refine W_v (.bool true) (x_pick (k := true) (congrArg Value.bool hb7) rfl) rfl ?_
      refine Wl_nil ?_
      exact ⟨true, Option.some.inj H, ⟨rfl, rfl, trivial⟩, E, S.pick [] (by decide)⟩
    · skip
      refine W_yes (congrArg some hb7) ?_
      obtain ⟨t10, ht11, H⟩ := bindS H
      refine W_callF fn9 (ferrymanlaw05_awake.con k M  t10  ht11) S rfl rfl (by rintro _ _ _ ⟨_, rfl⟩; exact flat_nil) ?_
      rintro _ w12 _ Γ' E' S ⟨rfl, rfl⟩
      replace E := E.trans E'
      clear E'
      refine W_yes (congrArg some hb7) ?_
      refine W_v (.bool (!t10)) (x_not rfl) rfl ?_
      refine W_v (.bool (!t10)) (x_pick (k := false) (congrArg Value.bool hb7) rfl) rfl ?_
      refine Wl_nil ?_
      exact ⟨(!t10), Option.some.inj H, ⟨rfl, rfl, trivial⟩, E, S.pick [] (by decide)⟩
  clear o9h
  rintro ρ w13 ⟨x8, rfl, hρ, E, S⟩
  rw [agree_eta hρ]
  clear hρ
  have H := o9H
  clear o9H
  refine Wl_nil ?_
  refine tn ?_
  rcases iteS H with ⟨hb14, H⟩ | ⟨hb14, H⟩
  · refine Wp_cond_true (congrArg Value.bool hb14) ?_
    refine Wp_seq ?_
    refine Wp_region_lit ?_
    obtain ⟨t15, ht16, H⟩ := bindS H
    refine W_callF fn9 (ferrymanlaw05_awake.con k M  t15  ht16) S rfl rfl (by rintro _ _ _ ⟨_, rfl⟩; exact flat_nil) ?_
    rintro _ w17 _ Γ' E' S ⟨rfl, rfl⟩
    replace E := E.trans E'
    clear E'
    refine W_v (.bool t15) (x_assign rfl) rfl ?_
    refine Wl_nil ?_
    refine tn ?_
    refine Wp_ret ?_
    refine tr (?_)
    obtain rfl := Option.some.inj H
    exact ⟨_, _, _, fun w1 e1 => run_resR (vs := [.bool t15]) (FA.cons (rfl) (FA.nil)), HM, E, S.pick [] (by decide), ⟨rfl, rfl⟩⟩
  refine Wp_cond_false (congrArg Value.bool hb14) ?_
  refine Wp_skip ?_
  refine tn ?_
  refine Wp_seq ?_
  refine Wp_region_lit ?_
  refine W_v (.slice A0 a0.length c0) (x_move rfl) rfl ?_
  obtain ⟨t18, ht19, H⟩ := bindS H
  refine W_callF2 fn14 (ferrymanlaw05_run.con k M A0 c0 a0 t18 hr0 ht19) (Γ1 := []) (Γ2 := []) S rfl rfl (by rintro _ _ _ ⟨_, _, _, rfl, rfl⟩; exact (flat_cons flat_blk (flat_cons flat_map flat_nil))) ?_
  rintro _ w25 _ Γ' E' S ⟨b20, A22, c23, rfl, rfl⟩
  replace E := E.trans E'
  clear E'
  replace S : St w25 M F [Blk b20 (.cells #[.map (mb A22)] 56 (0, 0)), MapC enc_latch_Name (Value.int .i64) A22 t18.by_] := S
  refine W_v (.pointer (some ⟨b20, 0, none⟩)) (x_assign rfl) rfl ?_
  refine Wl_nil ?_
  refine tn ?_
  refine Wp_seq ?_
  refine Wp_region_lit ?_
  refine W_v (.int .i64 0) (x_assign rfl) rfl ?_
  refine Wl_nil ?_
  refine tn ?_
  refine Wp_seq ?_
  refine Wp_seq ?_
  refine Wp_region_lit ?_
  refine W_v (.int .i64 0) (x_assign rfl) rfl ?_
  refine Wl_nil ?_
  refine tn ?_
  obtain ⟨o2238, o2238h, o2238H⟩ := bindS H
  clear H
  refine Wp_blockJ (fun ρ w' => ∃ (x2233 : Int) (x2234 : List (latch_Name × Int)) (A2235 : Option Addr) (c2236 : Nat), .inr (x2233, x2234) = o2238 ∧ Agree ρ [(3, .pointer (some ⟨b20, 0, none⟩)), (4, .int .i64 x2233)] ∧ Ext w w' ∧ St w' M F [MapC enc_latch_Name (Value.int .i64) A2235 x2234, Blk b20 (.cells #[.map (mb A2235)] 56 (0, 0))]) ?_ ?_
  · skip
    refine Wp_loop (fun n ρ w' => ∃ (x1498 : Int) (x1499 : Int) (x1500 : List (latch_Name × Int)) (A1501 : Option Addr) (c1502 : Nat), ferrymanlaw05_LatchSums_l4 a0 n x1498 x1499 x1500 = some o2238 ∧ Agree ρ [(0, .slice A0 a0.length c0), (3, .pointer (some ⟨b20, 0, none⟩)), (4, .int .i64 x1498), (5, .int .i64 x1499)] ∧ Ext w w' ∧ St w' M F [MapC enc_latch_Name (Value.int .i64) A1501 x1500, Blk b20 (.cells #[.map (mb A1501)] 56 (0, 0))]) k ?_ ?_
    · skip
      exact ⟨(0 : Int), (0 : Int), t18.by_, A22, c23, o2238h, ⟨rfl, rfl, rfl, rfl, trivial⟩, E, S.pick [1, 0] (by decide)⟩
    · intro n
      rintro ρ w2239 ⟨x1498, x1499, x1500, A1501, c1502, H, hρ, E, S⟩
      rw [agree_eta hρ]
      clear hρ
      cases n with
      | zero => cases H
      | succ k =>
        rw [ferrymanlaw05_LatchSums_l4.eq_2] at H
        refine Wp_seq ?_
        refine Wp_seq ?_
        refine Wp_region_lit ?_
        refine W_v (.int .i64 x1499) (x_move rfl) rfl ?_
        refine W_v (.slice A0 a0.length c0) (x_move rfl) rfl ?_
        refine W_v (.int .i64 (a0.length : Int)) (x_len_slice (n := a0.length) Try.underlying22 rfl) rfl ?_
        refine W_v (.bool (decide (x1499 < (a0.length : Int)))) (x_ibin rfl rfl rfl rfl) rfl ?_
        refine Wl_nil ?_
        refine tn ?_
        rcases iteS H with ⟨hb2240, H⟩ | ⟨hb2240, H⟩
        · refine Wp_cond_true (congrArg Value.bool hb2240) ?_
          refine Wp_skip ?_
          refine tn ?_
          refine Wp_seq ?_
          refine Wp_block ?_
          refine Wp_seq ?_
          refine Wp_region_lit ?_
          refine W_v (.bool false) (x_assign rfl) rfl ?_
          refine Wl_nil ?_
          refine tn ?_
          refine Wp_seq ?_
          refine Wp_seq ?_
          refine Wp_region_lit ?_
          refine W_v (.int .i64 0) (x_assign rfl) rfl ?_
          refine Wl_nil ?_
          refine tn ?_
          obtain ⟨o2606, o2606h, o2606H⟩ := bindS H
          clear H
          refine Wp_blockJ (fun ρ w' => ∃ (x2601 : Bool) (x2602 : List (latch_Name × Int)) (A2603 : Option Addr) (c2604 : Nat), (x2601, x2602) = o2606 ∧ Agree ρ [(0, .slice A0 a0.length c0), (3, .pointer (some ⟨b20, 0, none⟩)), (4, .int .i64 x1498), (5, .int .i64 x1499), (6, .bool x2601)] ∧ Ext w w' ∧ St w' M F [MapC enc_latch_Name (Value.int .i64) A2603 x2602, Blk b20 (.cells #[.map (mb A2603)] 56 (0, 0))]) ?_ ?_
          · skip
            refine Wp_loop (fun n ρ w' => ∃ (x2496 : Bool) (x2497 : Int) (x2498 : List (latch_Name × Int)) (A2499 : Option Addr) (c2500 : Nat), ferrymanlaw05_LatchSums_l7 a0 x1499 n x2496 x2497 x2498 = some o2606 ∧ Agree ρ [(0, .slice A0 a0.length c0), (3, .pointer (some ⟨b20, 0, none⟩)), (4, .int .i64 x1498), (5, .int .i64 x1499), (6, .bool x2496), (7, .int .i64 x2497)] ∧ Ext w w' ∧ St w' M F [MapC enc_latch_Name (Value.int .i64) A2499 x2498, Blk b20 (.cells #[.map (mb A2499)] 56 (0, 0))]) k ?_ ?_
            · skip
              exact ⟨false, (0 : Int), x1500, A1501, c1502, o2606h, ⟨rfl, rfl, rfl, rfl, rfl, rfl, trivial⟩, E, S.pick [0, 1] (by decide)⟩
            · intro n
              rintro ρ w2607 ⟨x2496, x2497, x2498, A2499, c2500, H, hρ, E, S⟩
              rw [agree_eta hρ]
              clear hρ
              cases n with
              | zero => cases H
              | succ k =>
                rw [ferrymanlaw05_LatchSums_l7.eq_2] at H
                refine Wp_seq ?_
                refine Wp_seq ?_
                refine Wp_region_lit ?_
                refine W_v (.int .i64 x2497) (x_move rfl) rfl ?_
                refine W_v (.int .i64 x1499) (x_move rfl) rfl ?_
                refine W_v (.bool (decide (x2497 < x1499))) (x_ibin rfl rfl rfl rfl) rfl ?_
                refine Wl_nil ?_
                refine tn ?_
                rcases iteS H with ⟨hb2608, H⟩ | ⟨hb2608, H⟩
                · refine Wp_cond_true (congrArg Value.bool hb2608) ?_
                  refine Wp_skip ?_
                  refine tn ?_
                  refine Wp_seq ?_
                  refine Wp_block ?_
                  refine Wp_region_any (S := fun w' => ∃ Mx, M.le Mx ∧ St w' Mx F []) (L := 15) mixed ?_
                  intro w2657 hw2658 E'
                  replace S := S.heap hw2658
                  replace E := E.trans E'
                  clear E'
                  refine Wa_take (i := 0) rfl (by kernel_rfl) rfl rfl (.bool x2496) rfl (fun w' h' => x_move rfl) (⟨M, Hp.le_refl M, S.pick [] (by decide)⟩) ?_
                  refine Wa_take (i := 1) rfl (by kernel_rfl) rfl rfl (.bool x2496) rfl (fun w' h' => x_move rfl) (⟨M, Hp.le_refl M, S.pick [] (by decide)⟩) ?_
                  obtain ⟨o2685, o2685h, o2685H⟩ := bindS H
                  clear H
                  refine Wa_join (fun ρ w' => ∃ (x2680 : Bool) (x2681 : List (latch_Name × Int)) (A2682 : Option Addr) (c2683 : Nat), (x2680, x2681) = o2685 ∧ Agree ρ [(0, .slice A0 a0.length c0), (3, .pointer (some ⟨b20, 0, none⟩)), (4, .int .i64 x1498), (5, .int .i64 x1499), (6, .bool x2496), (7, .int .i64 x2497), (46, .bool x2680)] ∧ Ext w w' ∧ St w' M F [MapC enc_latch_Name (Value.int .i64) A2682 x2681, Blk b20 (.cells #[.map (mb A2682)] 56 (0, 0))]) 1 (Ls 15 [0, 1, 2, 3, 4, 5, 6, 7, 8, 9, 10, 11, 12, 13]) ?_ ?_
                  rotate_left
                  · intro hrest
                    have H := o2685h
                    clear o2685h o2685H
                    rcases iteS H with ⟨hb2679, H⟩ | ⟨hb2679, H⟩
                    · skip
                      refine Wa_takeN (i := 2) rfl (by kernel_rfl) rfl rfl rfl (skF hb2679) (⟨M, Hp.le_refl M, S.pick [] (by decide)⟩) ?_
                      refine Wa_takeN (i := 3) rfl (by kernel_rfl) rfl rfl rfl (skF hb2679) (⟨M, Hp.le_refl M, S.pick [] (by decide)⟩) ?_
                      refine Wa_takeN (i := 4) rfl (by kernel_rfl) rfl rfl rfl (skF hb2679) (⟨M, Hp.le_refl M, S.pick [] (by decide)⟩) ?_
                      refine Wa_takeN (i := 5) rfl (by kernel_rfl) rfl rfl rfl (skF hb2679) (⟨M, Hp.le_refl M, S.pick [] (by decide)⟩) ?_
                      refine Wa_takeN (i := 6) rfl (by kernel_rfl) rfl rfl rfl (skF hb2679) (⟨M, Hp.le_refl M, S.pick [] (by decide)⟩) ?_
                      refine Wa_takeN (i := 7) rfl (by kernel_rfl) rfl rfl rfl (skF hb2679) (⟨M, Hp.le_refl M, S.pick [] (by decide)⟩) ?_
                      refine Wa_takeN (i := 8) rfl (by kernel_rfl) rfl rfl rfl (skF hb2679) (⟨M, Hp.le_refl M, S.pick [] (by decide)⟩) ?_
                      refine Wa_takeN (i := 9) rfl (by kernel_rfl) rfl rfl rfl (skF hb2679) (⟨M, Hp.le_refl M, S.pick [] (by decide)⟩) ?_
                      refine Wa_takeN (i := 10) rfl (by kernel_rfl) rfl rfl rfl (skF hb2679) (⟨M, Hp.le_refl M, S.pick [] (by decide)⟩) ?_
                      refine Wa_takeN (i := 11) rfl (by kernel_rfl) rfl rfl rfl (skF hb2679) (⟨M, Hp.le_refl M, S.pick [] (by decide)⟩) ?_
                      refine Wa_takeN (i := 12) rfl (by kernel_rfl) rfl rfl rfl (skF hb2679) (⟨M, Hp.le_refl M, S.pick [] (by decide)⟩) ?_
                      refine Wa_take (i := 13) rfl (by kernel_rfl) rfl rfl (.bool true) rfl (fun w' h' => x_pick (k := true) (congrArg Value.bool hb2679) rfl) (⟨M, Hp.le_refl M, S.pick [] (by decide)⟩) ?_
                      exact hrest _ _ ⟨true, x2498, A2499, c2500, Option.some.inj H, ⟨rfl, rfl, rfl, rfl, rfl, rfl, rfl, trivial⟩, E, S.pick [0, 1] (by decide)⟩
                    · skip
                      refine Wa_takeY (i := 2) rfl (by kernel_rfl) rfl rfl (.slice A0 a0.length c0) rfl (congrArg some hb2679) (fun w' h' => x_move rfl) (⟨M, Hp.le_refl M, S.pick [] (by decide)⟩) ?_
                      refine Wa_takeY (i := 3) rfl (by kernel_rfl) rfl rfl (.int .i64 x2497) rfl (congrArg some hb2679) (fun w' h' => x_move rfl) (⟨M, Hp.le_refl M, S.pick [] (by decide)⟩) ?_
                      obtain ⟨⟨p2686, p2687⟩, H⟩ := chkS H
                      obtain ⟨b2688, o2689, cs2690, _, _, ee2695, hb2691, vs2692, hR2693, hc2694⟩ := SlW.at' hr0 p2686 p2687
                      obtain rfl : vs2692 = _ := hR2693
                      refine Wa_takeY (i := 4) rfl (by kernel_rfl) rfl rfl (.pointer (some ⟨b2688, o2689 + x2497.toNat * 4, none⟩)) rfl (congrArg some hb2679) (fun w' h' => x_indexAddr Try.underlying22 ty30 (slA ee2695) rfl p2686 p2687) (⟨M, Hp.le_refl M, S.pick [] (by decide)⟩) ?_
                      refine Wa_takeY (i := 5) rfl (by kernel_rfl) rfl rfl (.pointer (some ⟨b2688, o2689 + x2497.toNat * 4 + 3, none⟩)) rfl (congrArg some hb2679) (fun w' h' => x_fieldAddr (o := o2689 + x2497.toNat * 4) (off := 3) Try.underlying30 rfl ty3 rfl rfl) (⟨M, Hp.le_refl M, S.pick [] (by decide)⟩) ?_
                      refine Wa_takeY (i := 6) rfl (by kernel_rfl) rfl rfl (.int .i64 ((rd a0 x2497).Task)) rfl (congrArg some hb2679) (fun w' h' => x_load (cls_frz h' hb2691) ty3 rfl (hc2694 3 _ rfl)) (⟨M, Hp.le_refl M, S.pick [] (by decide)⟩) ?_
                      refine Wa_takeY (i := 7) rfl (by kernel_rfl) rfl rfl (.slice A0 a0.length c0) rfl (congrArg some hb2679) (fun w' h' => x_move rfl) (⟨M, Hp.le_refl M, S.pick [] (by decide)⟩) ?_
                      refine Wa_takeY (i := 8) rfl (by kernel_rfl) rfl rfl (.int .i64 x1499) rfl (congrArg some hb2679) (fun w' h' => x_move rfl) (⟨M, Hp.le_refl M, S.pick [] (by decide)⟩) ?_
                      obtain ⟨⟨p2696, p2697⟩, H⟩ := chkS H
                      obtain ⟨b2698, o2699, cs2700, _, _, ee2705, hb2701, vs2702, hR2703, hc2704⟩ := SlW.at' hr0 p2696 p2697
                      obtain rfl : vs2702 = _ := hR2703
                      refine Wa_takeY (i := 9) rfl (by kernel_rfl) rfl rfl (.pointer (some ⟨b2698, o2699 + x1499.toNat * 4, none⟩)) rfl (congrArg some hb2679) (fun w' h' => x_indexAddr Try.underlying22 ty30 (slA ee2705) rfl p2696 p2697) (⟨M, Hp.le_refl M, S.pick [] (by decide)⟩) ?_
                      refine Wa_takeY (i := 10) rfl (by kernel_rfl) rfl rfl (.pointer (some ⟨b2698, o2699 + x1499.toNat * 4 + 3, none⟩)) rfl (congrArg some hb2679) (fun w' h' => x_fieldAddr (o := o2699 + x1499.toNat * 4) (off := 3) Try.underlying30 rfl ty3 rfl rfl) (⟨M, Hp.le_refl M, S.pick [] (by decide)⟩) ?_
                      refine Wa_takeY (i := 11) rfl (by kernel_rfl) rfl rfl (.int .i64 ((rd a0 x1499).Task)) rfl (congrArg some hb2679) (fun w' h' => x_load (cls_frz h' hb2701) ty3 rfl (hc2704 3 _ rfl)) (⟨M, Hp.le_refl M, S.pick [] (by decide)⟩) ?_
                      refine Wa_takeY (i := 12) rfl (by kernel_rfl) rfl rfl (.bool ((rd a0 x2497).Task == (rd a0 x1499).Task)) rfl (congrArg some hb2679) (fun w' h' => x_ibin rfl rfl rfl rfl) (⟨M, Hp.le_refl M, S.pick [] (by decide)⟩) ?_
                      refine Wa_take (i := 13) rfl (by kernel_rfl) rfl rfl (.bool ((rd a0 x2497).Task == (rd a0 x1499).Task)) rfl (fun w' h' => x_pick (k := false) (congrArg Value.bool hb2679) rfl) (⟨M, Hp.le_refl M, S.pick [] (by decide)⟩) ?_
                      exact hrest _ _ ⟨((rd a0 x2497).Task == (rd a0 x1499).Task), x2498, A2499, c2500, Option.some.inj H, ⟨rfl, rfl, rfl, rfl, rfl, rfl, rfl, trivial⟩, E, S.pick [0, 1] (by decide)⟩
                  clear o2685h
                  rintro ρ w2706 ⟨x2680, x2681, A2682, c2683, rfl, hρ, E, S⟩
                  rw [agree_eta hρ]
                  clear hρ
                  have H := o2685H
                  clear o2685H
                  refine Wa_take (i := 14) rfl (by kernel_rfl) rfl rfl (.bool x2680) rfl (fun w' h' => x_assign rfl) (⟨M, Hp.le_refl M, S.pick [] (by decide)⟩) ?_
                  refine Wa_done (by kernel_rfl) ?_
                  refine bn ?_
                  refine tn ?_
                  refine Wp_region_lit ?_
                  refine W_v (.int .i64 x2497) (x_move rfl) rfl ?_
                  refine W_v (.int .i64 (IntKind.i64.wrap (x2497 + (1 : Int)))) (x_ibin rfl rfl rfl rfl) rfl ?_
                  refine W_v (.int .i64 (IntKind.i64.wrap (x2497 + (1 : Int)))) (x_assign rfl) rfl ?_
                  refine Wl_nil ?_
                  refine tn ?_
                  exact ⟨k, Nat.lt_succ_self k, ⟨x2680, (IntKind.i64.wrap (x2497 + (1 : Int))), x2681, A2682, c2683, H, ⟨rfl, rfl, rfl, rfl, rfl, rfl, trivial⟩, E, S.pick [0, 1] (by decide)⟩⟩
                refine Wp_cond_false (congrArg Value.bool hb2608) ?_
                refine Wp_exit ?_
                refine tx (tx (bsm (?_)))
                refine tn ?_
                exact ⟨x2496, x2498, A2499, c2500, Option.some.inj H, ⟨rfl, rfl, rfl, rfl, rfl, trivial⟩, E, S.pick [0, 1] (by decide)⟩
          clear o2606h
          rintro ρ w2707 ⟨x2601, x2602, A2603, c2604, rfl, hρ, E, S⟩
          rw [agree_eta hρ]
          clear hρ
          have H := o2606H
          clear o2606H
          refine tn ?_
          refine Wp_seq ?_
          refine Wp_seq ?_
          refine Wp_region_lit ?_
          refine W_v (.bool x2601) (x_move rfl) rfl ?_
          refine Wl_nil ?_
          refine tn ?_
          rcases iteS H with ⟨hb2708, H⟩ | ⟨hb2708, H⟩
          · refine Wp_cond_true (congrArg Value.bool hb2708) ?_
            refine Wp_exit ?_
            refine tx (bsm (?_))
            refine tn ?_
            refine Wp_region_lit ?_
            refine W_v (.int .i64 x1499) (x_move rfl) rfl ?_
            refine W_v (.int .i64 (IntKind.i64.wrap (x1499 + (1 : Int)))) (x_ibin rfl rfl rfl rfl) rfl ?_
            refine W_v (.int .i64 (IntKind.i64.wrap (x1499 + (1 : Int)))) (x_assign rfl) rfl ?_
            refine Wl_nil ?_
            refine tn ?_
            exact ⟨k, Nat.lt_succ_self k, ⟨x1498, (IntKind.i64.wrap (x1499 + (1 : Int))), x2602, A2603, c2604, H, ⟨rfl, rfl, rfl, rfl, trivial⟩, E, S.pick [0, 1] (by decide)⟩⟩
          refine Wp_cond_false (congrArg Value.bool hb2708) ?_
          refine Wp_skip ?_
          refine tn ?_
          refine Wp_seq ?_
          refine Wp_region_lit ?_
          refine W_v (.pointer (some ⟨b20, 0, none⟩)) (x_move rfl) rfl ?_
          refine W_v (.slice A0 a0.length c0) (x_move rfl) rfl ?_
          refine W_v (.int .i64 x1499) (x_move rfl) rfl ?_
          obtain ⟨⟨p2709, p2710⟩, H⟩ := chkS H
          obtain ⟨b2711, o2712, cs2713, _, _, ee2718, hb2714, vs2715, hR2716, hc2717⟩ := SlW.at' hr0 p2709 p2710
          obtain rfl : vs2715 = _ := hR2716
          refine W_v (.pointer (some ⟨b2711, o2712 + x1499.toNat * 4, none⟩)) (x_indexAddr Try.underlying22 ty30 (slA ee2718) rfl p2709 p2710) rfl ?_
          refine W_v (.pointer (some ⟨b2711, o2712 + x1499.toNat * 4 + 3, none⟩)) (x_fieldAddr (o := o2712 + x1499.toNat * 4) (off := 3) Try.underlying30 rfl ty3 rfl rfl) rfl ?_
          refine W_v (.int .i64 ((rd a0 x1499).Task)) (x_load (S.frz hb2714) ty3 rfl (hc2717 3 _ rfl)) rfl ?_
          obtain ⟨t2719, ht2720, H⟩ := bindS H
          replace S : St w2707 M F [Blk b20 (.cells #[.map (mb A2603)] 56 (0, 0)), MapC enc_latch_Name (Value.int .i64) A2603 x2602] := S.pick [1, 0] (by decide)
          refine W_callF2 fn16 (latch_Latches_Held_PO.con k M A2603 c2604 (⟨x2602⟩ : latch_Latches) ((rd a0 x1499).Task) b20 t2719  ht2720) (Γ1 := [Blk b20 (.cells #[.map (mb A2603)] 56 (0, 0)), MapC enc_latch_Name (Value.int .i64) A2603 x2602]) (Γ2 := []) S rfl rfl (by rintro _ _ _ ⟨_, _, rfl, rfl⟩; exact (flat_cons (flat_row (fun _ _ _ _ h => h)) (flat_cons flat_blk (flat_cons flat_map flat_nil)))) ?_
          rintro _ w2724 _ Γ' E' S ⟨A2721, c2722, rfl, rfl⟩
          replace E := E.trans E'
          clear E'
          replace S : St w2724 M F [Row r_latch_Name 25 (.slice A2721 t2719.length c2722) t2719, Blk b20 (.cells #[.map (mb A2603)] 56 (0, 0)), MapC enc_latch_Name (Value.int .i64) A2603 x2602] := S
          refine W_v (.slice A2721 t2719.length c2722) (x_assign rfl) rfl ?_
          refine Wl_nil ?_
          refine tn ?_
          refine Wp_seq ?_
          refine Wp_region_lit ?_
          refine W_v (.int .i64 x1498) (x_move rfl) rfl ?_
          refine W_v (.slice A2721 t2719.length c2722) (x_move rfl) rfl ?_
          refine W_v (.int .i64 (t2719.length : Int)) (x_len_slice (n := t2719.length) Try.underlying38 rfl) rfl ?_
          refine W_v (.int .i64 (IntKind.i64.wrap (x1498 + (t2719.length : Int)))) (x_ibin rfl rfl rfl rfl) rfl ?_
          refine W_v (.int .i64 (IntKind.i64.wrap (x1498 + (t2719.length : Int)))) (x_assign rfl) rfl ?_
          refine Wl_nil ?_
          refine tn ?_
          refine Wp_seq ?_
          refine Wp_region_lit ?_
          refine W_v (.int .i64 0) (x_assign rfl) rfl ?_
          refine Wl_nil ?_
          refine tn ?_
          obtain ⟨o2911, o2911h, o2911H⟩ := bindS H
          clear H
          refine Wp_blockJ (fun ρ w' => ∃ (x2907 : List (latch_Name × Int)) (A2908 : Option Addr) (c2909 : Nat), .inr (x2907) = o2911 ∧ Agree ρ [(0, .slice A0 a0.length c0), (3, .pointer (some ⟨b20, 0, none⟩)), (4, .int .i64 (IntKind.i64.wrap (x1498 + (t2719.length : Int)))), (5, .int .i64 x1499)] ∧ Ext w w' ∧ St w' M F [MapC enc_latch_Name (Value.int .i64) A2908 x2907, Blk b20 (.cells #[.map (mb A2908)] 56 (0, 0))]) ?_ ?_
          · skip
            refine Wp_loop (fun n ρ w' => ∃ (x2847 : Int) (x2848 : List (latch_Name × Int)) (A2849 : Option Addr) (c2850 : Nat), ferrymanlaw05_LatchSums_l8 a0 x1499 t2719 n x2847 x2848 = some o2911 ∧ Agree ρ [(0, .slice A0 a0.length c0), (3, .pointer (some ⟨b20, 0, none⟩)), (4, .int .i64 (IntKind.i64.wrap (x1498 + (t2719.length : Int)))), (5, .int .i64 x1499), (8, .slice A2721 t2719.length c2722), (9, .int .i64 x2847)] ∧ Ext w w' ∧ St w' M F [MapC enc_latch_Name (Value.int .i64) A2849 x2848, Row r_latch_Name 25 (.slice A2721 t2719.length c2722) t2719, Blk b20 (.cells #[.map (mb A2849)] 56 (0, 0))]) k ?_ ?_
            · skip
              exact ⟨(0 : Int), x2602, A2603, c2604, o2911h, ⟨rfl, rfl, rfl, rfl, rfl, rfl, trivial⟩, E, S.pick [2, 0, 1] (by decide)⟩
            · intro n
              rintro ρ w2912 ⟨x2847, x2848, A2849, c2850, H, hρ, E, S⟩
              rw [agree_eta hρ]
              clear hρ
              cases n with
              | zero => cases H
              | succ k =>
                rw [ferrymanlaw05_LatchSums_l8.eq_2] at H
                refine Wp_seq ?_
                refine Wp_seq ?_
                refine Wp_region_lit ?_
                refine W_v (.int .i64 x2847) (x_move rfl) rfl ?_
                refine W_v (.slice A2721 t2719.length c2722) (x_move rfl) rfl ?_
                refine W_v (.int .i64 (t2719.length : Int)) (x_len_slice (n := t2719.length) Try.underlying38 rfl) rfl ?_
                refine W_v (.bool (decide (x2847 < (t2719.length : Int)))) (x_ibin rfl rfl rfl rfl) rfl ?_
                refine Wl_nil ?_
                refine tn ?_
                rcases iteS H with ⟨hb2913, H⟩ | ⟨hb2913, H⟩
                · refine Wp_cond_true (congrArg Value.bool hb2913) ?_
                  refine Wp_skip ?_
                  refine tn ?_
                  refine Wp_seq ?_
                  refine Wp_block ?_
                  refine Wp_seq ?_
                  refine Wp_region_lit ?_
                  refine W_v (.pointer (some ⟨b20, 0, none⟩)) (x_move rfl) rfl ?_
                  refine W_v (.slice A2721 t2719.length c2722) (x_move rfl) rfl ?_
                  refine W_v (.int .i64 x2847) (x_move rfl) rfl ?_
                  obtain ⟨⟨p2914, p2915⟩, H⟩ := chkS H
                  obtain ⟨b2916, o2917, cs2918, _, _, ee2923, hb2919, vs2920, hR2921, hc2922⟩ := SlW.at' (S.row_read 1 rfl) p2914 p2915
                  obtain rfl : vs2920 = _ := hR2921
                  refine W_v (.pointer (some ⟨b2916, o2917 + x2847.toNat * 2, none⟩)) (x_indexAddr Try.underlying38 ty25 (slA ee2923) rfl p2914 p2915) rfl ?_
                  refine W_v (.agg #[.int .u8 ((rd t2719 x2847).Kind), .int .u64 ((rd t2719 x2847).ID)]) (x_loadA (Hp.of_get hb2919) ty25 rfl (sub_el hc2922 0 rfl) rfl rfl) rfl ?_
                  obtain ⟨t2924, ht2925, H⟩ := bindS H
                  replace S : St w2912 M F [Blk b20 (.cells #[.map (mb A2849)] 56 (0, 0)), MapC enc_latch_Name (Value.int .i64) A2849 x2848, Row r_latch_Name 25 (.slice A2721 t2719.length c2722) t2719] := S.pick [2, 0, 1] (by decide)
                  refine W_callF2 fn13 (latch_Latches_Owner_PO.con k M A2849 c2850 (⟨x2848⟩ : latch_Latches) (rd t2719 x2847) b20 t2924  ht2925) (Γ1 := [Blk b20 (.cells #[.map (mb A2849)] 56 (0, 0)), MapC enc_latch_Name (Value.int .i64) A2849 x2848]) (Γ2 := [Row r_latch_Name 25 (.slice A2721 t2719.length c2722) t2719]) S rfl rfl (by rintro _ _ _ ⟨rfl, rfl⟩; exact (flat_cons flat_blk (flat_cons flat_map flat_nil))) ?_
                  rintro _ w2926 _ Γ' E' S ⟨rfl, rfl⟩
                  replace E := E.trans E'
                  clear E'
                  replace S : St w2926 M F [Blk b20 (.cells #[.map (mb A2849)] 56 (0, 0)), MapC enc_latch_Name (Value.int .i64) A2849 x2848, Row r_latch_Name 25 (.slice A2721 t2719.length c2722) t2719] := S
                  refine W_v (.tuple #[.int .i64 t2924.1, .bool t2924.2]) (x_move rfl) rfl ?_
                  refine W_v (.int .i64 t2924.1) (x_extract rfl rfl) rfl ?_
                  refine W_v (.bool t2924.2) (x_extract rfl rfl) rfl ?_
                  refine W_v (.int .i64 t2924.1) (x_assign rfl) rfl ?_
                  refine W_v (.bool t2924.2) (x_assign rfl) rfl ?_
                  refine Wl_nil ?_
                  refine tn ?_
                  refine Wp_seq ?_
                  refine Wp_region_lit ?_
                  refine W_v (.bool t2924.2) (x_move rfl) rfl ?_
                  refine W_v (.bool (!t2924.2)) (x_not rfl) rfl ?_
                  refine W_v (.bool (!t2924.2)) (x_move rfl) rfl ?_
                  obtain ⟨o2955, o2955h, o2955H⟩ := bindS H
                  clear H
                  refine Wl_cutN 8 (fun ρ w' => ∃ (x2950 : Bool) (x2951 : List (latch_Name × Int)) (A2952 : Option Addr) (c2953 : Nat), (x2950, x2951) = o2955 ∧ Agree ρ [(0, .slice A0 a0.length c0), (3, .pointer (some ⟨b20, 0, none⟩)), (4, .int .i64 (IntKind.i64.wrap (x1498 + (t2719.length : Int)))), (5, .int .i64 x1499), (8, .slice A2721 t2719.length c2722), (9, .int .i64 x2847), (84, .bool x2950)] ∧ Ext w w' ∧ St w' M F [MapC enc_latch_Name (Value.int .i64) A2952 x2951, Blk b20 (.cells #[.map (mb A2952)] 56 (0, 0)), Row r_latch_Name 25 (.slice A2721 t2719.length c2722) t2719]) ?_ ?_
                  · have H := o2955h
                    rcases iteS H with ⟨hb2949, H⟩ | ⟨hb2949, H⟩
                    · skip
                      refine W_no (skF hb2949) rfl ?_
                      refine W_no (skF hb2949) rfl ?_
                      refine W_no (skF hb2949) rfl ?_
                      refine W_no (skF hb2949) rfl ?_
                      refine W_no (skF hb2949) rfl ?_
                      refine W_no (skF hb2949) rfl ?_
                      refine W_no (skF hb2949) rfl ?_
                      refine W_v (.bool true) (x_pick (k := true) (congrArg Value.bool hb2949) rfl) rfl ?_
                      refine Wl_nil ?_
                      exact ⟨true, x2848, A2849, c2850, Option.some.inj H, ⟨rfl, rfl, rfl, rfl, rfl, rfl, rfl, trivial⟩, E, S.pick [1, 0, 2] (by decide)⟩
                    · skip
                      refine W_yes (congrArg some hb2949) ?_
                      refine W_v (.int .i64 t2924.1) (x_move rfl) rfl ?_
                      refine W_yes (congrArg some hb2949) ?_
                      refine W_v (.slice A0 a0.length c0) (x_move rfl) rfl ?_
                      refine W_yes (congrArg some hb2949) ?_
                      refine W_v (.int .i64 x1499) (x_move rfl) rfl ?_
                      refine W_yes (congrArg some hb2949) ?_
                      obtain ⟨⟨p2956, p2957⟩, H⟩ := chkS H
                      obtain ⟨b2958, o2959, cs2960, _, _, ee2965, hb2961, vs2962, hR2963, hc2964⟩ := SlW.at' hr0 p2956 p2957
                      obtain rfl : vs2962 = _ := hR2963
                      refine W_v (.pointer (some ⟨b2958, o2959 + x1499.toNat * 4, none⟩)) (x_indexAddr Try.underlying22 ty30 (slA ee2965) rfl p2956 p2957) rfl ?_
                      refine W_yes (congrArg some hb2949) ?_
                      refine W_v (.pointer (some ⟨b2958, o2959 + x1499.toNat * 4 + 3, none⟩)) (x_fieldAddr (o := o2959 + x1499.toNat * 4) (off := 3) Try.underlying30 rfl ty3 rfl rfl) rfl ?_
                      refine W_yes (congrArg some hb2949) ?_
                      refine W_v (.int .i64 ((rd a0 x1499).Task)) (x_load (S.frz hb2961) ty3 rfl (hc2964 3 _ rfl)) rfl ?_
                      refine W_yes (congrArg some hb2949) ?_
                      refine W_v (.bool (t2924.1 != (rd a0 x1499).Task)) (x_ibin rfl rfl rfl rfl) rfl ?_
                      refine W_v (.bool (t2924.1 != (rd a0 x1499).Task)) (x_pick (k := false) (congrArg Value.bool hb2949) rfl) rfl ?_
                      refine Wl_nil ?_
                      exact ⟨(t2924.1 != (rd a0 x1499).Task), x2848, A2849, c2850, Option.some.inj H, ⟨rfl, rfl, rfl, rfl, rfl, rfl, rfl, trivial⟩, E, S.pick [1, 0, 2] (by decide)⟩
                  clear o2955h
                  rintro ρ w2966 ⟨x2950, x2951, A2952, c2953, rfl, hρ, E, S⟩
                  rw [agree_eta hρ]
                  clear hρ
                  have H := o2955H
                  clear o2955H
                  refine Wl_nil ?_
                  refine tn ?_
                  rcases iteS H with ⟨hb2967, H⟩ | ⟨hb2967, H⟩
                  · refine Wp_cond_true (congrArg Value.bool hb2967) ?_
                    refine Wp_seq ?_
                    refine Wp_region_lit ?_
                    refine W_v (.bool false) (x_assign rfl) rfl ?_
                    refine Wl_nil ?_
                    refine tn ?_
                    refine Wp_ret ?_
                    refine br (tr (tr (br (tr (br (tr (tr (br (tr (tr (?_)))))))))))
                    obtain rfl := Option.some.inj H
                    have H := o2911H
                    replace H := elimL H
                    obtain rfl := Option.some.inj H
                    have H := o2238H
                    replace H := elimL H
                    obtain rfl := Option.some.inj H
                    exact ⟨_, _, _, fun w1 e1 => run_resR (vs := [.bool false]) (FA.cons (rfl) (FA.nil)), HM, E, S.pick [] (by decide), ⟨rfl, rfl⟩⟩
                  refine Wp_cond_false (congrArg Value.bool hb2967) ?_
                  refine Wp_skip ?_
                  refine bn ?_
                  refine tn ?_
                  refine Wp_region_lit ?_
                  refine W_v (.int .i64 x2847) (x_move rfl) rfl ?_
                  refine W_v (.int .i64 (IntKind.i64.wrap (x2847 + (1 : Int)))) (x_ibin rfl rfl rfl rfl) rfl ?_
                  refine W_v (.int .i64 (IntKind.i64.wrap (x2847 + (1 : Int)))) (x_assign rfl) rfl ?_
                  refine Wl_nil ?_
                  refine tn ?_
                  exact ⟨k, Nat.lt_succ_self k, ⟨(IntKind.i64.wrap (x2847 + (1 : Int))), x2951, A2952, c2953, H, ⟨rfl, rfl, rfl, rfl, rfl, rfl, trivial⟩, E, S.pick [0, 2, 1] (by decide)⟩⟩
                refine Wp_cond_false (congrArg Value.bool hb2913) ?_
                refine Wp_exit ?_
                refine tx (tx (bsm (?_)))
                refine tn ?_
                exact ⟨x2848, A2849, c2850, Option.some.inj H, ⟨rfl, rfl, rfl, rfl, trivial⟩, E, S.pick [0, 2] (by decide)⟩
          clear o2911h
          rintro ρ w2968 ⟨x2907, A2908, c2909, rfl, hρ, E, S⟩
          rw [agree_eta hρ]
          clear hρ
          have H := o2911H
          clear o2911H
          replace H := elimR H
          refine bn ?_
          refine tn ?_
          refine Wp_region_lit ?_
          refine W_v (.int .i64 x1499) (x_move rfl) rfl ?_
          refine W_v (.int .i64 (IntKind.i64.wrap (x1499 + (1 : Int)))) (x_ibin rfl rfl rfl rfl) rfl ?_
          refine W_v (.int .i64 (IntKind.i64.wrap (x1499 + (1 : Int)))) (x_assign rfl) rfl ?_
          refine Wl_nil ?_
          refine tn ?_
          exact ⟨k, Nat.lt_succ_self k, ⟨(IntKind.i64.wrap (x1498 + (t2719.length : Int))), (IntKind.i64.wrap (x1499 + (1 : Int))), x2907, A2908, c2909, H, ⟨rfl, rfl, rfl, rfl, trivial⟩, E, S.pick [0, 1] (by decide)⟩⟩
        refine Wp_cond_false (congrArg Value.bool hb2240) ?_
        refine Wp_exit ?_
        refine tx (tx (bsm (?_)))
        refine tn ?_
        exact ⟨x1498, x1500, A1501, c1502, Option.some.inj H, ⟨rfl, rfl, trivial⟩, E, S.pick [0, 1] (by decide)⟩
  clear o2238h
  rintro ρ w2969 ⟨x2233, x2234, A2235, c2236, rfl, hρ, E, S⟩
  rw [agree_eta hρ]
  clear hρ
  have H := o2238H
  clear o2238H
  replace H := elimR H
  refine tn ?_
  refine Wp_seq ?_
  refine Wp_region_lit ?_
  refine W_v (.int .i64 x2233) (x_move rfl) rfl ?_
  refine W_v (.pointer (some ⟨b20, 0, none⟩)) (x_move rfl) rfl ?_
  obtain ⟨t2970, ht2971, H⟩ := bindS H
  replace S : St w2969 M F [Blk b20 (.cells #[.map (mb A2235)] 56 (0, 0)), MapC enc_latch_Name (Value.int .i64) A2235 x2234] := S.pick [1, 0] (by decide)
  refine W_callF2 fn15 (latch_Latches_All_PO.con k M A2235 c2236 (⟨x2234⟩ : latch_Latches) b20 t2970  ht2971) (Γ1 := [Blk b20 (.cells #[.map (mb A2235)] 56 (0, 0)), MapC enc_latch_Name (Value.int .i64) A2235 x2234]) (Γ2 := []) S rfl rfl (by rintro _ _ _ ⟨rfl, rfl⟩; exact (flat_cons flat_blk (flat_cons flat_map flat_nil))) ?_
  rintro _ w2972 _ Γ' E' S ⟨rfl, rfl⟩
  replace E := E.trans E'
  clear E'
  replace S : St w2972 M F [Blk b20 (.cells #[.map (mb A2235)] 56 (0, 0)), MapC enc_latch_Name (Value.int .i64) A2235 x2234] := S
  refine W_v (.bool (x2233 == t2970)) (x_ibin rfl rfl rfl rfl) rfl ?_
  refine W_v (.bool (x2233 == t2970)) (x_assign rfl) rfl ?_
  refine Wl_nil ?_
  refine tn ?_
  refine Wp_ret ?_
  obtain rfl := Option.some.inj H
  exact ⟨_, _, _, fun w1 e1 => run_resR (vs := [.bool (x2233 == t2970)]) (FA.cons (rfl) (FA.nil)), HM, E, S.pick [] (by decide), ⟨rfl, rfl⟩⟩
end Go.Proofs.Ytgnbccjpgoeplaa
