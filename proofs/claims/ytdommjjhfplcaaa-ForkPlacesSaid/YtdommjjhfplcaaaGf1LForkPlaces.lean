import Derived.Test.YtdommjjhfplcaaaGf1
namespace Go.Proofs.Ytdommjjhfplcaaa
open Go
set_option linter.unusedVariables false
set_option linter.unusedSimpArgs false
/-! ### ferryman/ferrymanlaw13.ForkPlaces: function 3 -/
def ferrymanlaw13_ForkPlaces_l0 (a0 : fork_Node) (a1 : Str) (t38 : Int × Bool) : Nat → Int → Option ((Bool) ⊕ (Unit))
  | 0, _ => none
  | k + 1, x143 => (if (decide (x143 < (a0.Keys.length : Int))) = true then (if 0 ≤ x143 ∧ x143 < (a0.Keys.length : Int) then (Option.bind (α := Bool) (if (!((sbin .lss (rd a0.Keys x143) a1) == (decide (x143 < t38.1)))) = true then some (true) else (if 0 ≤ x143 ∧ x143 < (a0.Keys.length : Int) then some ((!((sbin .eql (rd a0.Keys x143) a1) == (t38.2 && (x143 == t38.1))))) else none)) (fun x229 => (if x229 = true then some (.inl false) else ferrymanlaw13_ForkPlaces_l0 a0 a1 t38 k (IntKind.i64.wrap (x143 + (1 : Int)))))) else none) else some (.inr ()))
set_option maxHeartbeats 2000000 in
theorem ferrymanlaw13_ForkPlaces_l0.mono {a0 : fork_Node} {a1 : Str} {t38 : Int × Bool} : ∀ {k : Nat} {x0}, OLe (ferrymanlaw13_ForkPlaces_l0 a0 a1 t38 k x0) (ferrymanlaw13_ForkPlaces_l0 a0 a1 t38 (k + 1) x0) := by
  intro k
  induction k with
  | zero => intros; exact OLe.none
  | succ k ih =>
    intros
    rw [ferrymanlaw13_ForkPlaces_l0.eq_2, ferrymanlaw13_ForkPlaces_l0.eq_2]
    repeat' (first | with_reducible exact OLe.none | with_reducible exact OLe.some | with_reducible refine OLe.ite ?_ ?_ | with_reducible refine OLe.bind ?_ (fun _ => ?_) | exact ih | refine OLe.bind ?_ (fun _ => ?_) | refine OLe.ite ?_ ?_ | refine OLe.elim (fun _ => ?_) (fun _ => ?_) | split)
def ferrymanlaw13_ForkPlaces (k : Nat) (a0 : fork_Node) (a1 : Str) : Option (Bool) :=
  (Option.bind (ferrymanlaw13_large k a0) (fun t4 => (Option.bind (α := Bool) (if (t4 || (decide ((a1.length : Int) > (3000 : Int)))) = true then some (true) else (Option.bind (ferrymanlaw13_awake k ) (fun t17 => some ((!t17))))) (fun x15 => (Option.bind (α := Bool) (if x15 = true then some (true) else (Option.bind (fork_May k a0) (fun t30 => some ((!t30))))) (fun x28 => (if x28 = true then (Option.bind (ferrymanlaw13_awake k ) (fun t35 => some t35)) else (Option.bind (fork_Place k a0 a1) (fun t38 => (if ((decide (t38.1 < (0 : Int))) || (decide (t38.1 > (a0.Keys.length : Int)))) = true then some false else (Option.bind (ferrymanlaw13_ForkPlaces_l0 a0 a1 t38 k (0 : Int)) (fun o193o => Sum.elim (fun r' => some r') (fun _ => (if a0.Leaf = true then some true else (Option.bind (fork_Kid k a0 a1) (fun t246 => (Option.bind (α := Bool) (if ((decide (t246 < (0 : Int))) || (decide (t246 ≥ (a0.Kids.length : Int)))) = true then some (true) else (Option.bind (α := Bool) (if (decide (t246 > (0 : Int))) = true then (if 0 ≤ (IntKind.i64.wrap (t246 - (1 : Int))) ∧ (IntKind.i64.wrap (t246 - (1 : Int))) < (a0.Keys.length : Int) then some ((sbin .gtr (rd a0.Keys (IntKind.i64.wrap (t246 - (1 : Int)))) a1)) else none) else some (false)) (fun x342 => some (x342)))) (fun x319 => (if x319 = true then some false else (Option.bind (fork_Fence k a0 t246) (fun t357 => (Option.bind (α := Bool) (if (t357.2 == (decide (t246 < (a0.Keys.length : Int)))) = true then (Option.bind (α := Bool) (if (!t357.2) = true then some (true) else (if 0 ≤ t246 ∧ t246 < (a0.Keys.length : Int) then some (((sbin .eql t357.1 (rd a0.Keys t246)) && (sbin .lss a1 t357.1))) else none)) (fun x460 => some (x460))) else some (false)) (fun x435 => some x435))))))))))) o193o))))))))))))
set_option maxHeartbeats 2000000 in
theorem ferrymanlaw13_ForkPlaces.mono {k : Nat} {a0 : fork_Node} {a1 : Str} : OLe (ferrymanlaw13_ForkPlaces k a0 a1) (ferrymanlaw13_ForkPlaces (k + 1) a0 a1) := by
  unfold ferrymanlaw13_ForkPlaces
  repeat' (first | with_reducible exact OLe.none | with_reducible exact OLe.some | with_reducible refine OLe.ite ?_ ?_ | with_reducible refine OLe.bind ?_ (fun _ => ?_) | with_reducible exact ferrymanlaw13_ForkPlaces_l0.mono | with_reducible exact ferrymanlaw13_awake.mono | with_reducible exact ferrymanlaw13_large.mono | with_reducible exact fork_Fence.mono | with_reducible exact fork_Kid.mono | with_reducible exact fork_May.mono | with_reducible exact fork_Place.mono | refine OLe.bind ?_ (fun _ => ?_) | refine OLe.ite ?_ ?_ | refine OLe.elim (fun _ => ?_) (fun _ => ?_) | split)
set_option maxHeartbeats 8000000 in
set_option maxRecDepth 100000 in
theorem ferrymanlaw13_ForkPlaces.con (k : Nat) (M : Hp) (A0_0 : Option Addr) (c0_0 : Nat) (A0_1 : Option Addr) (c0_1 : Nat) (A0_2 : Option Addr) (c0_2 : Nat) (a0 : fork_Node) (a1 : Str) (r : Bool) (hr0_0 : SlR rStr M (.slice A0_0 a0.Keys.length c0_0) a0.Keys) (hr0_1 : SlR (rInt .i64) M (.slice A0_1 a0.Kids.length c0_1) a0.Kids) (hr0_2 : SlR (rInt .u64) M (.slice A0_2 a0.Rows.length c0_2) a0.Rows) (h : ferrymanlaw13_ForkPlaces k a0 a1 = some r) : Con Try.prog 3 #[.agg #[.bool a0.Leaf, .slice A0_0 a0.Keys.length c0_0, .slice A0_1 a0.Kids.length c0_1, .slice A0_2 a0.Rows.length c0_2], .string (bs a1)] M [] (fun v M' Γ' => v = .bool r ∧ Γ' = []) := by
  refine con_of_wp Try.func3 rfl Try.ntmps3 Try.results3 rfl ?_
  intro w F rn S hrn
  have E := Ext.refl w
  have HM := Hp.le_refl M
  have H := h
  unfold ferrymanlaw13_ForkPlaces at H
  refine Wp_seq ?_
  refine Wp_region_lit ?_
  refine W_box S #[.bool a0.Leaf, .slice A0_0 a0.Keys.length c0_0, .slice A0_1 a0.Kids.length c0_1, .slice A0_2 a0.Rows.length c0_2] rfl rfl rfl ?_
  intro b1 w2 E' S
  replace E := E.trans E'
  clear E'
  refine W_v (.bool false) (x_assign rfl) rfl ?_
  refine Wl_nil ?_
  refine tn ?_
  refine Wp_seq ?_
  refine Wp_seq ?_
  refine Wp_region_lit ?_
  refine W_v (.agg #[.bool a0.Leaf, .slice A0_0 a0.Keys.length c0_0, .slice A0_1 a0.Kids.length c0_1, .slice A0_2 a0.Rows.length c0_2]) (x_loadA (S.blk 0 rfl) ty26 rfl (sub_of_extract rfl) rfl rfl) rfl ?_
  obtain ⟨t4, ht5, H⟩ := bindS H
  refine W_callF fn9 (ferrymanlaw13_large.con k M A0_0 c0_0 A0_1 c0_1 A0_2 c0_2 a0 t4 hr0_0 hr0_1 hr0_2 ht5) S rfl rfl (by rintro _ _ _ ⟨_, rfl⟩; exact flat_nil) ?_
  rintro _ w6 _ Γ' E' S ⟨rfl, rfl⟩
  replace E := E.trans E'
  clear E'
  refine W_v (.bool t4) (x_move rfl) rfl ?_
  refine Wl_cutN 4 (fun ρ w' => Agree ρ [(1, .string (bs a1)), (2, .pointer (some ⟨b1, 0, none⟩)), (17, .bool (t4 || (decide ((a1.length : Int) > (3000 : Int)))))] ∧ w6 = w') ?_ ?_
  · rcases boolCases t4 with hb7 | hb7
    · skip
      refine W_yes (congrArg some hb7) ?_
      refine W_v (.string (bs a1)) (x_move rfl) rfl ?_
      refine W_yes (congrArg some hb7) ?_
      refine W_v (.int .i64 (a1.length : Int)) (x_len_str Try.underlying9 rfl) rfl ?_
      refine W_yes (congrArg some hb7) ?_
      refine W_v (.bool (decide ((a1.length : Int) > (3000 : Int)))) (x_ibin rfl rfl rfl rfl) rfl ?_
      refine W_v (.bool (decide ((a1.length : Int) > (3000 : Int)))) (x_pick (k := false) (congrArg Value.bool hb7) rfl) rfl ?_
      refine Wl_nil ?_
      exact ⟨⟨rfl, rfl, (by first | rfl | (rw [hb7]; rfl) | (simp only [hb7]; rfl)), trivial⟩, rfl⟩
    · skip
      refine W_no (skF hb7) rfl ?_
      refine W_no (skF hb7) rfl ?_
      refine W_no (skF hb7) rfl ?_
      refine W_v (.bool true) (x_pick (k := true) (congrArg Value.bool hb7) rfl) rfl ?_
      refine Wl_nil ?_
      exact ⟨⟨rfl, rfl, (by first | rfl | (rw [hb7]; rfl) | (simp only [hb7]; rfl)), trivial⟩, rfl⟩
  rintro ρ _ ⟨hρ, rfl⟩
  rw [agree_eta hρ]
  clear hρ
  refine W_v (.bool (t4 || (decide ((a1.length : Int) > (3000 : Int))))) (x_move rfl) rfl ?_
  obtain ⟨o16, o16h, o16H⟩ := bindS H
  clear H
  refine Wl_cutN 3 (fun ρ w' => ∃ (x15 : Bool), (x15) = o16 ∧ Agree ρ [(1, .string (bs a1)), (2, .pointer (some ⟨b1, 0, none⟩)), (21, .bool x15)] ∧ Ext w w' ∧ St w' M F [Blk b1 (.cells #[.bool a0.Leaf, .slice A0_0 a0.Keys.length c0_0, .slice A0_1 a0.Kids.length c0_1, .slice A0_2 a0.Rows.length c0_2] 26 (0, 0))]) ?_ ?_
  · have H := o16h
    rcases iteS H with ⟨hb14, H⟩ | ⟨hb14, H⟩
    · skip
      refine W_no (skF hb14) rfl ?_
      refine W_no (skF hb14) rfl ?_
      refine W_v (.bool true) (x_pick (k := true) (congrArg Value.bool hb14) rfl) rfl ?_
      refine Wl_nil ?_
      exact ⟨true, Option.some.inj H, ⟨rfl, rfl, rfl, trivial⟩, E, S.pick [0] (by decide)⟩
    · skip
      refine W_yes (congrArg some hb14) ?_
      obtain ⟨t17, ht18, H⟩ := bindS H
      refine W_callF fn10 (ferrymanlaw13_awake.con k M  t17  ht18) S rfl rfl (by rintro _ _ _ ⟨_, rfl⟩; exact flat_nil) ?_
      rintro _ w19 _ Γ' E' S ⟨rfl, rfl⟩
      replace E := E.trans E'
      clear E'
      refine W_yes (congrArg some hb14) ?_
      refine W_v (.bool (!t17)) (x_not rfl) rfl ?_
      refine W_v (.bool (!t17)) (x_pick (k := false) (congrArg Value.bool hb14) rfl) rfl ?_
      refine Wl_nil ?_
      exact ⟨(!t17), Option.some.inj H, ⟨rfl, rfl, rfl, trivial⟩, E, S.pick [0] (by decide)⟩
  clear o16h
  rintro ρ w20 ⟨x15, rfl, hρ, E, S⟩
  rw [agree_eta hρ]
  clear hρ
  have H := o16H
  clear o16H
  refine W_v (.bool x15) (x_move rfl) rfl ?_
  obtain ⟨o29, o29h, o29H⟩ := bindS H
  clear H
  refine Wl_cutN 4 (fun ρ w' => ∃ (x28 : Bool), (x28) = o29 ∧ Agree ρ [(1, .string (bs a1)), (2, .pointer (some ⟨b1, 0, none⟩)), (26, .bool x28)] ∧ Ext w w' ∧ St w' M F [Blk b1 (.cells #[.bool a0.Leaf, .slice A0_0 a0.Keys.length c0_0, .slice A0_1 a0.Kids.length c0_1, .slice A0_2 a0.Rows.length c0_2] 26 (0, 0))]) ?_ ?_
  · have H := o29h
    rcases iteS H with ⟨hb27, H⟩ | ⟨hb27, H⟩
    · skip
      refine W_no (skF hb27) rfl ?_
      refine W_no (skF hb27) rfl ?_
      refine W_no (skF hb27) rfl ?_
      refine W_v (.bool true) (x_pick (k := true) (congrArg Value.bool hb27) rfl) rfl ?_
      refine Wl_nil ?_
      exact ⟨true, Option.some.inj H, ⟨rfl, rfl, rfl, trivial⟩, E, S.pick [0] (by decide)⟩
    · skip
      refine W_yes (congrArg some hb27) ?_
      refine W_v (.agg #[.bool a0.Leaf, .slice A0_0 a0.Keys.length c0_0, .slice A0_1 a0.Kids.length c0_1, .slice A0_2 a0.Rows.length c0_2]) (x_loadA (S.blk 0 rfl) ty26 rfl (sub_of_extract rfl) rfl rfl) rfl ?_
      refine W_yes (congrArg some hb27) ?_
      obtain ⟨t30, ht31, H⟩ := bindS H
      refine W_callF fn11 (fork_May.con k M A0_0 c0_0 A0_1 c0_1 A0_2 c0_2 a0 t30 hr0_0 hr0_1 hr0_2 ht31) S rfl rfl (by rintro _ _ _ ⟨_, rfl⟩; exact flat_nil) ?_
      rintro _ w32 _ Γ' E' S ⟨rfl, rfl⟩
      replace E := E.trans E'
      clear E'
      refine W_yes (congrArg some hb27) ?_
      refine W_v (.bool (!t30)) (x_not rfl) rfl ?_
      refine W_v (.bool (!t30)) (x_pick (k := false) (congrArg Value.bool hb27) rfl) rfl ?_
      refine Wl_nil ?_
      exact ⟨(!t30), Option.some.inj H, ⟨rfl, rfl, rfl, trivial⟩, E, S.pick [0] (by decide)⟩
  clear o29h
  rintro ρ w33 ⟨x28, rfl, hρ, E, S⟩
  rw [agree_eta hρ]
  clear hρ
  have H := o29H
  clear o29H
  refine Wl_nil ?_
  refine tn ?_
  rcases iteS H with ⟨hb34, H⟩ | ⟨hb34, H⟩
  · refine Wp_cond_true (congrArg Value.bool hb34) ?_
    refine Wp_seq ?_
    refine Wp_region_lit ?_
    obtain ⟨t35, ht36, H⟩ := bindS H
    refine W_callF fn10 (ferrymanlaw13_awake.con k M  t35  ht36) S rfl rfl (by rintro _ _ _ ⟨_, rfl⟩; exact flat_nil) ?_
    rintro _ w37 _ Γ' E' S ⟨rfl, rfl⟩
    replace E := E.trans E'
    clear E'
    refine W_v (.bool t35) (x_assign rfl) rfl ?_
    refine Wl_nil ?_
    refine tn ?_
    refine Wp_ret ?_
    refine tr (?_)
    obtain rfl := Option.some.inj H
    exact ⟨_, _, _, fun w1 e1 => run_resR (vs := [.bool t35]) (FA.cons (rfl) (FA.nil)), HM, E, S.pick [] (by decide), ⟨rfl, rfl⟩⟩
  refine Wp_cond_false (congrArg Value.bool hb34) ?_
  refine Wp_skip ?_
  refine tn ?_
  refine Wp_seq ?_
  refine Wp_region_lit ?_
  refine W_v (.agg #[.bool a0.Leaf, .slice A0_0 a0.Keys.length c0_0, .slice A0_1 a0.Kids.length c0_1, .slice A0_2 a0.Rows.length c0_2]) (x_loadA (S.blk 0 rfl) ty26 rfl (sub_of_extract rfl) rfl rfl) rfl ?_
  refine W_v (.string (bs a1)) (x_move rfl) rfl ?_
  obtain ⟨t38, ht39, H⟩ := bindS H
  refine W_callF fn12 (fork_Place.con k M A0_0 c0_0 A0_1 c0_1 A0_2 c0_2 a0 a1 t38 hr0_0 hr0_1 hr0_2 ht39) S rfl rfl (by rintro _ _ _ ⟨_, rfl⟩; exact flat_nil) ?_
  rintro _ w40 _ Γ' E' S ⟨rfl, rfl⟩
  replace E := E.trans E'
  clear E'
  refine W_v (.tuple #[.int .i64 t38.1, .bool t38.2]) (x_move rfl) rfl ?_
  refine W_v (.int .i64 t38.1) (x_extract rfl rfl) rfl ?_
  refine W_v (.bool t38.2) (x_extract rfl rfl) rfl ?_
  refine W_v (.int .i64 t38.1) (x_assign rfl) rfl ?_
  refine W_v (.bool t38.2) (x_assign rfl) rfl ?_
  refine Wl_nil ?_
  refine tn ?_
  refine Wp_seq ?_
  refine Wp_seq ?_
  refine Wp_region_lit ?_
  refine W_v (.int .i64 t38.1) (x_move rfl) rfl ?_
  refine W_v (.bool (decide (t38.1 < (0 : Int)))) (x_ibin rfl rfl rfl rfl) rfl ?_
  refine W_v (.bool (decide (t38.1 < (0 : Int)))) (x_move rfl) rfl ?_
  refine Wl_cutN 6 (fun ρ w' => Agree ρ [(1, .string (bs a1)), (2, .pointer (some ⟨b1, 0, none⟩)), (5, .int .i64 t38.1), (6, .bool t38.2), (42, .bool ((decide (t38.1 < (0 : Int))) || (decide (t38.1 > (a0.Keys.length : Int)))))] ∧ w40 = w') ?_ ?_
  · rcases boolCases (decide (t38.1 < (0 : Int))) with hb41 | hb41
    · skip
      refine W_yes (congrArg some hb41) ?_
      refine W_v (.int .i64 t38.1) (x_move rfl) rfl ?_
      refine W_yes (congrArg some hb41) ?_
      refine W_v (.pointer (some ⟨b1, 1, none⟩)) (x_fieldAddr (o := 0) (off := 1) Try.underlying26 rfl ty22 rfl rfl) rfl ?_
      refine W_yes (congrArg some hb41) ?_
      refine W_v (.slice A0_0 a0.Keys.length c0_0) (x_load (S.blk 0 rfl) ty22 rfl rfl) rfl ?_
      refine W_yes (congrArg some hb41) ?_
      refine W_v (.int .i64 (a0.Keys.length : Int)) (x_len_slice (n := a0.Keys.length) Try.underlying22 rfl) rfl ?_
      refine W_yes (congrArg some hb41) ?_
      refine W_v (.bool (decide (t38.1 > (a0.Keys.length : Int)))) (x_ibin rfl rfl rfl rfl) rfl ?_
      refine W_v (.bool (decide (t38.1 > (a0.Keys.length : Int)))) (x_pick (k := false) (congrArg Value.bool hb41) rfl) rfl ?_
      refine Wl_nil ?_
      exact ⟨⟨rfl, rfl, rfl, rfl, (by first | rfl | (rw [hb41]; rfl) | (simp only [hb41]; rfl)), trivial⟩, rfl⟩
    · skip
      refine W_no (skF hb41) rfl ?_
      refine W_no (skF hb41) rfl ?_
      refine W_no (skF hb41) rfl ?_
      refine W_no (skF hb41) rfl ?_
      refine W_no (skF hb41) rfl ?_
      refine W_v (.bool true) (x_pick (k := true) (congrArg Value.bool hb41) rfl) rfl ?_
      refine Wl_nil ?_
      exact ⟨⟨rfl, rfl, rfl, rfl, (by first | rfl | (rw [hb41]; rfl) | (simp only [hb41]; rfl)), trivial⟩, rfl⟩
  rintro ρ _ ⟨hρ, rfl⟩
  rw [agree_eta hρ]
  clear hρ
  refine Wl_nil ?_
  refine tn ?_
  rcases iteS H with ⟨hb42, H⟩ | ⟨hb42, H⟩
  · refine Wp_cond_true (congrArg Value.bool hb42) ?_
    refine Wp_seq ?_
    refine Wp_region_lit ?_
    refine W_v (.bool false) (x_assign rfl) rfl ?_
    refine Wl_nil ?_
    refine tn ?_
    refine Wp_ret ?_
    refine tr (?_)
    obtain rfl := Option.some.inj H
    exact ⟨_, _, _, fun w1 e1 => run_resR (vs := [.bool false]) (FA.cons (rfl) (FA.nil)), HM, E, S.pick [] (by decide), ⟨rfl, rfl⟩⟩
  refine Wp_cond_false (congrArg Value.bool hb42) ?_
  refine Wp_skip ?_
  refine tn ?_
  refine Wp_seq ?_
  refine Wp_seq ?_
  refine Wp_region_lit ?_
  refine W_v (.int .i64 0) (x_assign rfl) rfl ?_
  refine Wl_nil ?_
  refine tn ?_
  obtain ⟨o193, o193h, o193H⟩ := bindS H
  clear H
  refine Wp_blockJ (fun ρ w' => .inr () = o193 ∧ Agree ρ [(1, .string (bs a1)), (2, .pointer (some ⟨b1, 0, none⟩))] ∧ Ext w w' ∧ St w' M F [Blk b1 (.cells #[.bool a0.Leaf, .slice A0_0 a0.Keys.length c0_0, .slice A0_1 a0.Kids.length c0_1, .slice A0_2 a0.Rows.length c0_2] 26 (0, 0))]) ?_ ?_
  · skip
    refine Wp_loop (fun n ρ w' => ∃ (x143 : Int), ferrymanlaw13_ForkPlaces_l0 a0 a1 t38 n x143 = some o193 ∧ Agree ρ [(1, .string (bs a1)), (2, .pointer (some ⟨b1, 0, none⟩)), (5, .int .i64 t38.1), (6, .bool t38.2), (7, .int .i64 x143)] ∧ Ext w w' ∧ St w' M F [Blk b1 (.cells #[.bool a0.Leaf, .slice A0_0 a0.Keys.length c0_0, .slice A0_1 a0.Kids.length c0_1, .slice A0_2 a0.Rows.length c0_2] 26 (0, 0))]) k ?_ ?_
    · skip
      exact ⟨(0 : Int), o193h, ⟨rfl, rfl, rfl, rfl, rfl, trivial⟩, E, S.pick [0] (by decide)⟩
    · intro n
      rintro ρ w194 ⟨x143, H, hρ, E, S⟩
      rw [agree_eta hρ]
      clear hρ
      cases n with
      | zero => cases H
      | succ k =>
        rw [ferrymanlaw13_ForkPlaces_l0.eq_2] at H
        refine Wp_seq ?_
        refine Wp_seq ?_
        refine Wp_region_lit ?_
        refine W_v (.int .i64 x143) (x_move rfl) rfl ?_
        refine W_v (.pointer (some ⟨b1, 1, none⟩)) (x_fieldAddr (o := 0) (off := 1) Try.underlying26 rfl ty22 rfl rfl) rfl ?_
        refine W_v (.slice A0_0 a0.Keys.length c0_0) (x_load (S.blk 0 rfl) ty22 rfl rfl) rfl ?_
        refine W_v (.int .i64 (a0.Keys.length : Int)) (x_len_slice (n := a0.Keys.length) Try.underlying22 rfl) rfl ?_
        refine W_v (.bool (decide (x143 < (a0.Keys.length : Int)))) (x_ibin rfl rfl rfl rfl) rfl ?_
        refine Wl_nil ?_
        refine tn ?_
        rcases iteS H with ⟨hb195, H⟩ | ⟨hb195, H⟩
        · refine Wp_cond_true (congrArg Value.bool hb195) ?_
          refine Wp_skip ?_
          refine tn ?_
          refine Wp_seq ?_
          refine Wp_block ?_
          refine Wp_seq ?_
          refine Wp_region_lit ?_
          refine W_v (.pointer (some ⟨b1, 1, none⟩)) (x_fieldAddr (o := 0) (off := 1) Try.underlying26 rfl ty22 rfl rfl) rfl ?_
          refine W_v (.slice A0_0 a0.Keys.length c0_0) (x_load (S.blk 0 rfl) ty22 rfl rfl) rfl ?_
          refine W_v (.int .i64 x143) (x_move rfl) rfl ?_
          obtain ⟨⟨p196, p197⟩, H⟩ := chkS H
          obtain ⟨b198, o199, cs200, _, _, ee205, hb201, vs202, hR203, hc204⟩ := SlW.at' hr0_0 p196 p197
          obtain rfl : vs202 = _ := hR203
          refine W_v (.pointer (some ⟨b198, o199 + x143.toNat * 1, none⟩)) (x_indexAddr Try.underlying22 ty9 (slA ee205) rfl p196 p197) rfl ?_
          refine W_v (.string (bs (rd a0.Keys x143))) (x_load (S.frz hb201) ty9 rfl (hc204 0 _ rfl)) rfl ?_
          refine W_v (.string (bs a1)) (x_move rfl) rfl ?_
          refine W_v (.bool (sbin .lss (rd a0.Keys x143) a1)) (x_sbin rfl rfl rfl) rfl ?_
          refine W_v (.int .i64 x143) (x_move rfl) rfl ?_
          refine W_v (.int .i64 t38.1) (x_move rfl) rfl ?_
          refine W_v (.bool (decide (x143 < t38.1))) (x_ibin rfl rfl rfl rfl) rfl ?_
          refine W_v (.bool (!((sbin .lss (rd a0.Keys x143) a1) == (decide (x143 < t38.1))))) (x_bne Try.underlying4 rfl rfl) rfl ?_
          refine W_v (.bool (!((sbin .lss (rd a0.Keys x143) a1) == (decide (x143 < t38.1))))) (x_move rfl) rfl ?_
          obtain ⟨o230, o230h, o230H⟩ := bindS H
          clear H
          refine Wl_cutN 15 (fun ρ w' => ∃ (x229 : Bool), (x229) = o230 ∧ Agree ρ [(1, .string (bs a1)), (2, .pointer (some ⟨b1, 0, none⟩)), (5, .int .i64 t38.1), (6, .bool t38.2), (7, .int .i64 x143), (76, .bool x229)] ∧ Ext w w' ∧ St w' M F [Blk b1 (.cells #[.bool a0.Leaf, .slice A0_0 a0.Keys.length c0_0, .slice A0_1 a0.Kids.length c0_1, .slice A0_2 a0.Rows.length c0_2] 26 (0, 0))]) ?_ ?_
          · have H := o230h
            rcases iteS H with ⟨hb228, H⟩ | ⟨hb228, H⟩
            · skip
              refine W_no (skF hb228) rfl ?_
              refine W_no (skF hb228) rfl ?_
              refine W_no (skF hb228) rfl ?_
              refine W_no (skF hb228) rfl ?_
              refine W_no (skF hb228) rfl ?_
              refine W_no (skF hb228) rfl ?_
              refine W_no (skF hb228) rfl ?_
              refine W_no (skF hb228) rfl ?_
              refine W_no (skF hb228) rfl ?_
              refine W_no (rfl) rfl ?_
              refine W_no (rfl) rfl ?_
              refine W_no (rfl) rfl ?_
              refine W_no (skF hb228) rfl ?_
              refine W_no (skF hb228) rfl ?_
              refine W_v (.bool true) (x_pick (k := true) (congrArg Value.bool hb228) rfl) rfl ?_
              refine Wl_nil ?_
              exact ⟨true, Option.some.inj H, ⟨rfl, rfl, rfl, rfl, rfl, rfl, trivial⟩, E, S.pick [0] (by decide)⟩
            · skip
              refine W_yes (congrArg some hb228) ?_
              refine W_v (.pointer (some ⟨b1, 1, none⟩)) (x_fieldAddr (o := 0) (off := 1) Try.underlying26 rfl ty22 rfl rfl) rfl ?_
              refine W_yes (congrArg some hb228) ?_
              refine W_v (.slice A0_0 a0.Keys.length c0_0) (x_load (S.blk 0 rfl) ty22 rfl rfl) rfl ?_
              refine W_yes (congrArg some hb228) ?_
              refine W_v (.int .i64 x143) (x_move rfl) rfl ?_
              refine W_yes (congrArg some hb228) ?_
              obtain ⟨⟨p231, p232⟩, H⟩ := chkS H
              obtain ⟨b233, o234, cs235, _, _, ee240, hb236, vs237, hR238, hc239⟩ := SlW.at' hr0_0 p231 p232
              obtain rfl : vs237 = _ := hR238
              refine W_v (.pointer (some ⟨b233, o234 + x143.toNat * 1, none⟩)) (x_indexAddr Try.underlying22 ty9 (slA ee240) rfl p231 p232) rfl ?_
              refine W_yes (congrArg some hb228) ?_
              refine W_v (.string (bs (rd a0.Keys x143))) (x_load (S.frz hb236) ty9 rfl (hc239 0 _ rfl)) rfl ?_
              refine W_yes (congrArg some hb228) ?_
              refine W_v (.string (bs a1)) (x_move rfl) rfl ?_
              refine W_yes (congrArg some hb228) ?_
              refine W_v (.bool (sbin .eql (rd a0.Keys x143) a1)) (x_sbin rfl rfl rfl) rfl ?_
              refine W_yes (congrArg some hb228) ?_
              refine W_v (.bool t38.2) (x_move rfl) rfl ?_
              refine W_yes (congrArg some hb228) ?_
              refine W_v (.bool t38.2) (x_move rfl) rfl ?_
              refine Wl_cutN 4 (fun ρ w' => Agree ρ [(1, .string (bs a1)), (2, .pointer (some ⟨b1, 0, none⟩)), (5, .int .i64 t38.1), (6, .bool t38.2), (7, .int .i64 x143), (61, .bool (!((sbin .lss (rd a0.Keys x143) a1) == (decide (x143 < t38.1))))), (62, .pointer (some ⟨b1, 1, none⟩)), (63, .slice A0_0 a0.Keys.length c0_0), (64, .int .i64 x143), (65, .pointer (some ⟨b233, o234 + x143.toNat * 1, none⟩)), (66, .string (bs (rd a0.Keys x143))), (67, .string (bs a1)), (68, .bool (sbin .eql (rd a0.Keys x143) a1)), (69, .bool t38.2), (70, .bool t38.2), (74, .bool (t38.2 && (x143 == t38.1)))] ∧ w194 = w') ?_ ?_
              · rcases boolCases t38.2 with hb241 | hb241
                · skip
                  refine W_no (skT hb241) rfl ?_
                  refine W_no (skT hb241) rfl ?_
                  refine W_no (skT hb241) rfl ?_
                  refine W_yes (congrArg some hb228) ?_
                  refine W_v (.bool false) (x_pick (k := false) (congrArg Value.bool hb241) rfl) rfl ?_
                  refine Wl_nil ?_
                  exact ⟨⟨rfl, rfl, rfl, rfl, rfl, rfl, rfl, rfl, rfl, rfl, rfl, rfl, rfl, rfl, rfl, (by first | rfl | (rw [hb241]; rfl) | (simp only [hb241]; rfl)), trivial⟩, rfl⟩
                · skip
                  refine W_yes (congrArg some hb241) ?_
                  refine W_v (.int .i64 x143) (x_move rfl) rfl ?_
                  refine W_yes (congrArg some hb241) ?_
                  refine W_v (.int .i64 t38.1) (x_move rfl) rfl ?_
                  refine W_yes (congrArg some hb241) ?_
                  refine W_v (.bool (x143 == t38.1)) (x_ibin rfl rfl rfl rfl) rfl ?_
                  refine W_yes (congrArg some hb228) ?_
                  refine W_v (.bool (x143 == t38.1)) (x_pick (k := true) (congrArg Value.bool hb241) rfl) rfl ?_
                  refine Wl_nil ?_
                  exact ⟨⟨rfl, rfl, rfl, rfl, rfl, rfl, rfl, rfl, rfl, rfl, rfl, rfl, rfl, rfl, rfl, (by first | rfl | (rw [hb241]; rfl) | (simp only [hb241]; rfl)), trivial⟩, rfl⟩
              rintro ρ _ ⟨hρ, rfl⟩
              rw [agree_eta hρ]
              clear hρ
              refine W_yes (congrArg some hb228) ?_
              refine W_v (.bool (!((sbin .eql (rd a0.Keys x143) a1) == (t38.2 && (x143 == t38.1))))) (x_bne Try.underlying4 rfl rfl) rfl ?_
              refine W_v (.bool (!((sbin .eql (rd a0.Keys x143) a1) == (t38.2 && (x143 == t38.1))))) (x_pick (k := false) (congrArg Value.bool hb228) rfl) rfl ?_
              refine Wl_nil ?_
              exact ⟨(!((sbin .eql (rd a0.Keys x143) a1) == (t38.2 && (x143 == t38.1)))), Option.some.inj H, ⟨rfl, rfl, rfl, rfl, rfl, rfl, trivial⟩, E, S.pick [0] (by decide)⟩
          clear o230h
          rintro ρ w242 ⟨x229, rfl, hρ, E, S⟩
          rw [agree_eta hρ]
          clear hρ
          have H := o230H
          clear o230H
          refine Wl_nil ?_
          refine tn ?_
          rcases iteS H with ⟨hb243, H⟩ | ⟨hb243, H⟩
          · refine Wp_cond_true (congrArg Value.bool hb243) ?_
            refine Wp_seq ?_
            refine Wp_region_lit ?_
            refine W_v (.bool false) (x_assign rfl) rfl ?_
            refine Wl_nil ?_
            refine tn ?_
            refine Wp_ret ?_
            refine br (tr (tr (br (tr (tr (?_))))))
            obtain rfl := Option.some.inj H
            have H := o193H
            replace H := elimL H
            obtain rfl := Option.some.inj H
            exact ⟨_, _, _, fun w1 e1 => run_resR (vs := [.bool false]) (FA.cons (rfl) (FA.nil)), HM, E, S.pick [] (by decide), ⟨rfl, rfl⟩⟩
          refine Wp_cond_false (congrArg Value.bool hb243) ?_
          refine Wp_skip ?_
          refine bn ?_
          refine tn ?_
          refine Wp_region_lit ?_
          refine W_v (.int .i64 x143) (x_move rfl) rfl ?_
          refine W_v (.int .i64 (IntKind.i64.wrap (x143 + (1 : Int)))) (x_ibin rfl rfl rfl rfl) rfl ?_
          refine W_v (.int .i64 (IntKind.i64.wrap (x143 + (1 : Int)))) (x_assign rfl) rfl ?_
          refine Wl_nil ?_
          refine tn ?_
          exact ⟨k, Nat.lt_succ_self k, ⟨(IntKind.i64.wrap (x143 + (1 : Int))), H, ⟨rfl, rfl, rfl, rfl, rfl, trivial⟩, E, S.pick [0] (by decide)⟩⟩
        refine Wp_cond_false (congrArg Value.bool hb195) ?_
        refine Wp_exit ?_
        refine tx (tx (bsm (?_)))
        refine tn ?_
        exact ⟨Option.some.inj H, ⟨rfl, rfl, trivial⟩, E, S.pick [0] (by decide)⟩
  clear o193h
  rintro ρ w244 ⟨rfl, hρ, E, S⟩
  rw [agree_eta hρ]
  clear hρ
  have H := o193H
  clear o193H
  replace H := elimR H
  refine tn ?_
  refine Wp_seq ?_
  refine Wp_seq ?_
  refine Wp_region_lit ?_
  refine W_v (.pointer (some ⟨b1, 0, none⟩)) (x_fieldAddr (o := 0) (off := 0) Try.underlying26 rfl ty4 rfl rfl) rfl ?_
  refine W_v (.bool a0.Leaf) (x_load (S.blk 0 rfl) ty4 rfl rfl) rfl ?_
  refine Wl_nil ?_
  refine tn ?_
  rcases iteS H with ⟨hb245, H⟩ | ⟨hb245, H⟩
  · refine Wp_cond_true (congrArg Value.bool hb245) ?_
    refine Wp_seq ?_
    refine Wp_region_lit ?_
    refine W_v (.bool true) (x_assign rfl) rfl ?_
    refine Wl_nil ?_
    refine tn ?_
    refine Wp_ret ?_
    refine tr (?_)
    obtain rfl := Option.some.inj H
    exact ⟨_, _, _, fun w1 e1 => run_resR (vs := [.bool true]) (FA.cons (rfl) (FA.nil)), HM, E, S.pick [] (by decide), ⟨rfl, rfl⟩⟩
  refine Wp_cond_false (congrArg Value.bool hb245) ?_
  refine Wp_skip ?_
  refine tn ?_
  refine Wp_seq ?_
  refine Wp_region_lit ?_
  refine W_v (.agg #[.bool a0.Leaf, .slice A0_0 a0.Keys.length c0_0, .slice A0_1 a0.Kids.length c0_1, .slice A0_2 a0.Rows.length c0_2]) (x_loadA (S.blk 0 rfl) ty26 rfl (sub_of_extract rfl) rfl rfl) rfl ?_
  refine W_v (.string (bs a1)) (x_move rfl) rfl ?_
  obtain ⟨t246, ht247, H⟩ := bindS H
  refine W_callF fn13 (fork_Kid.con k M A0_0 c0_0 A0_1 c0_1 A0_2 c0_2 a0 a1 t246 hr0_0 hr0_1 hr0_2 ht247) S rfl rfl (by rintro _ _ _ ⟨_, rfl⟩; exact flat_nil) ?_
  rintro _ w248 _ Γ' E' S ⟨rfl, rfl⟩
  replace E := E.trans E'
  clear E'
  refine W_v (.int .i64 t246) (x_assign rfl) rfl ?_
  refine Wl_nil ?_
  refine tn ?_
  refine Wp_seq ?_
  refine Wp_seq ?_
  refine Wp_region_lit ?_
  refine W_v (.int .i64 t246) (x_move rfl) rfl ?_
  refine W_v (.bool (decide (t246 < (0 : Int)))) (x_ibin rfl rfl rfl rfl) rfl ?_
  refine W_v (.bool (decide (t246 < (0 : Int)))) (x_move rfl) rfl ?_
  refine Wl_cutN 6 (fun ρ w' => Agree ρ [(1, .string (bs a1)), (2, .pointer (some ⟨b1, 0, none⟩)), (8, .int .i64 t246), (90, .bool ((decide (t246 < (0 : Int))) || (decide (t246 ≥ (a0.Kids.length : Int)))))] ∧ w248 = w') ?_ ?_
  · rcases boolCases (decide (t246 < (0 : Int))) with hb249 | hb249
    · skip
      refine W_yes (congrArg some hb249) ?_
      refine W_v (.int .i64 t246) (x_move rfl) rfl ?_
      refine W_yes (congrArg some hb249) ?_
      refine W_v (.pointer (some ⟨b1, 2, none⟩)) (x_fieldAddr (o := 0) (off := 2) Try.underlying26 rfl ty23 rfl rfl) rfl ?_
      refine W_yes (congrArg some hb249) ?_
      refine W_v (.slice A0_1 a0.Kids.length c0_1) (x_load (S.blk 0 rfl) ty23 rfl rfl) rfl ?_
      refine W_yes (congrArg some hb249) ?_
      refine W_v (.int .i64 (a0.Kids.length : Int)) (x_len_slice (n := a0.Kids.length) Try.underlying23 rfl) rfl ?_
      refine W_yes (congrArg some hb249) ?_
      refine W_v (.bool (decide (t246 ≥ (a0.Kids.length : Int)))) (x_ibin rfl rfl rfl rfl) rfl ?_
      refine W_v (.bool (decide (t246 ≥ (a0.Kids.length : Int)))) (x_pick (k := false) (congrArg Value.bool hb249) rfl) rfl ?_
      refine Wl_nil ?_
      exact ⟨⟨rfl, rfl, rfl, (by first | rfl | (rw [hb249]; rfl) | (simp only [hb249]; rfl)), trivial⟩, rfl⟩
    · skip
      refine W_no (skF hb249) rfl ?_
      refine W_no (skF hb249) rfl ?_
      refine W_no (skF hb249) rfl ?_
      refine W_no (skF hb249) rfl ?_
      refine W_no (skF hb249) rfl ?_
      refine W_v (.bool true) (x_pick (k := true) (congrArg Value.bool hb249) rfl) rfl ?_
      refine Wl_nil ?_
      exact ⟨⟨rfl, rfl, rfl, (by first | rfl | (rw [hb249]; rfl) | (simp only [hb249]; rfl)), trivial⟩, rfl⟩
  rintro ρ _ ⟨hρ, rfl⟩
  rw [agree_eta hρ]
  clear hρ
  refine W_v (.bool ((decide (t246 < (0 : Int))) || (decide (t246 ≥ (a0.Kids.length : Int))))) (x_move rfl) rfl ?_
  obtain ⟨o320, o320h, o320H⟩ := bindS H
  clear H
  refine Wl_cutN 13 (fun ρ w' => ∃ (x319 : Bool), (x319) = o320 ∧ Agree ρ [(1, .string (bs a1)), (2, .pointer (some ⟨b1, 0, none⟩)), (8, .int .i64 t246), (104, .bool x319)] ∧ Ext w w' ∧ St w' M F [Blk b1 (.cells #[.bool a0.Leaf, .slice A0_0 a0.Keys.length c0_0, .slice A0_1 a0.Kids.length c0_1, .slice A0_2 a0.Rows.length c0_2] 26 (0, 0))]) ?_ ?_
  · have H := o320h
    rcases iteS H with ⟨hb318, H⟩ | ⟨hb318, H⟩
    · skip
      refine W_no (skF hb318) rfl ?_
      refine W_no (skF hb318) rfl ?_
      refine W_no (skF hb318) rfl ?_
      refine W_no (rfl) rfl ?_
      refine W_no (rfl) rfl ?_
      refine W_no (rfl) rfl ?_
      refine W_no (rfl) rfl ?_
      refine W_no (rfl) rfl ?_
      refine W_no (rfl) rfl ?_
      refine W_no (rfl) rfl ?_
      refine W_no (rfl) rfl ?_
      refine W_no (skF hb318) rfl ?_
      refine W_v (.bool true) (x_pick (k := true) (congrArg Value.bool hb318) rfl) rfl ?_
      refine Wl_nil ?_
      exact ⟨true, Option.some.inj H, ⟨rfl, rfl, rfl, rfl, trivial⟩, E, S.pick [0] (by decide)⟩
    · skip
      refine W_yes (congrArg some hb318) ?_
      refine W_v (.int .i64 t246) (x_move rfl) rfl ?_
      refine W_yes (congrArg some hb318) ?_
      refine W_v (.bool (decide (t246 > (0 : Int)))) (x_ibin rfl rfl rfl rfl) rfl ?_
      refine W_yes (congrArg some hb318) ?_
      refine W_v (.bool (decide (t246 > (0 : Int)))) (x_move rfl) rfl ?_
      obtain ⟨o343, o343h, o343H⟩ := bindS H
      clear H
      refine Wl_cutN 9 (fun ρ w' => ∃ (x342 : Bool), (x342) = o343 ∧ Agree ρ [(1, .string (bs a1)), (2, .pointer (some ⟨b1, 0, none⟩)), (8, .int .i64 t246), (91, .bool ((decide (t246 < (0 : Int))) || (decide (t246 ≥ (a0.Kids.length : Int))))), (103, .bool x342)] ∧ Ext w w' ∧ St w' M F [Blk b1 (.cells #[.bool a0.Leaf, .slice A0_0 a0.Keys.length c0_0, .slice A0_1 a0.Kids.length c0_1, .slice A0_2 a0.Rows.length c0_2] 26 (0, 0))]) ?_ ?_
      · have H := o343h
        rcases iteS H with ⟨hb341, H⟩ | ⟨hb341, H⟩
        · skip
          refine W_yes (congrArg some hb341) ?_
          refine W_v (.pointer (some ⟨b1, 1, none⟩)) (x_fieldAddr (o := 0) (off := 1) Try.underlying26 rfl ty22 rfl rfl) rfl ?_
          refine W_yes (congrArg some hb341) ?_
          refine W_v (.slice A0_0 a0.Keys.length c0_0) (x_load (S.blk 0 rfl) ty22 rfl rfl) rfl ?_
          refine W_yes (congrArg some hb341) ?_
          refine W_v (.int .i64 t246) (x_move rfl) rfl ?_
          refine W_yes (congrArg some hb341) ?_
          refine W_v (.int .i64 (IntKind.i64.wrap (t246 - (1 : Int)))) (x_ibin rfl rfl rfl rfl) rfl ?_
          refine W_yes (congrArg some hb341) ?_
          obtain ⟨⟨p344, p345⟩, H⟩ := chkS H
          obtain ⟨b346, o347, cs348, _, _, ee353, hb349, vs350, hR351, hc352⟩ := SlW.at' hr0_0 p344 p345
          obtain rfl : vs350 = _ := hR351
          refine W_v (.pointer (some ⟨b346, o347 + (IntKind.i64.wrap (t246 - (1 : Int))).toNat * 1, none⟩)) (x_indexAddr Try.underlying22 ty9 (slA ee353) rfl p344 p345) rfl ?_
          refine W_yes (congrArg some hb341) ?_
          refine W_v (.string (bs (rd a0.Keys (IntKind.i64.wrap (t246 - (1 : Int)))))) (x_load (S.frz hb349) ty9 rfl (hc352 0 _ rfl)) rfl ?_
          refine W_yes (congrArg some hb341) ?_
          refine W_v (.string (bs a1)) (x_move rfl) rfl ?_
          refine W_yes (congrArg some hb341) ?_
          refine W_v (.bool (sbin .gtr (rd a0.Keys (IntKind.i64.wrap (t246 - (1 : Int)))) a1)) (x_sbin rfl rfl rfl) rfl ?_
          refine W_yes (congrArg some hb318) ?_
          refine W_v (.bool (sbin .gtr (rd a0.Keys (IntKind.i64.wrap (t246 - (1 : Int)))) a1)) (x_pick (k := true) (congrArg Value.bool hb341) rfl) rfl ?_
          refine Wl_nil ?_
          exact ⟨(sbin .gtr (rd a0.Keys (IntKind.i64.wrap (t246 - (1 : Int)))) a1), Option.some.inj H, ⟨rfl, rfl, rfl, rfl, rfl, trivial⟩, E, S.pick [0] (by decide)⟩
        · skip
          refine W_no (skT hb341) rfl ?_
          refine W_no (skT hb341) rfl ?_
          refine W_no (skT hb341) rfl ?_
          refine W_no (skT hb341) rfl ?_
          refine W_no (skT hb341) rfl ?_
          refine W_no (skT hb341) rfl ?_
          refine W_no (skT hb341) rfl ?_
          refine W_no (skT hb341) rfl ?_
          refine W_yes (congrArg some hb318) ?_
          refine W_v (.bool false) (x_pick (k := false) (congrArg Value.bool hb341) rfl) rfl ?_
          refine Wl_nil ?_
          exact ⟨false, Option.some.inj H, ⟨rfl, rfl, rfl, rfl, rfl, trivial⟩, E, S.pick [0] (by decide)⟩
      clear o343h
      rintro ρ w354 ⟨x342, rfl, hρ, E, S⟩
      rw [agree_eta hρ]
      clear hρ
      have H := o343H
      clear o343H
      refine W_v (.bool x342) (x_pick (k := false) (congrArg Value.bool hb318) rfl) rfl ?_
      refine Wl_nil ?_
      exact ⟨x342, Option.some.inj H, ⟨rfl, rfl, rfl, rfl, trivial⟩, E, S.pick [0] (by decide)⟩
  clear o320h
  rintro ρ w355 ⟨x319, rfl, hρ, E, S⟩
  rw [agree_eta hρ]
  clear hρ
  have H := o320H
  clear o320H
  refine Wl_nil ?_
  refine tn ?_
  rcases iteS H with ⟨hb356, H⟩ | ⟨hb356, H⟩
  · refine Wp_cond_true (congrArg Value.bool hb356) ?_
    refine Wp_seq ?_
    refine Wp_region_lit ?_
    refine W_v (.bool false) (x_assign rfl) rfl ?_
    refine Wl_nil ?_
    refine tn ?_
    refine Wp_ret ?_
    refine tr (?_)
    obtain rfl := Option.some.inj H
    exact ⟨_, _, _, fun w1 e1 => run_resR (vs := [.bool false]) (FA.cons (rfl) (FA.nil)), HM, E, S.pick [] (by decide), ⟨rfl, rfl⟩⟩
  refine Wp_cond_false (congrArg Value.bool hb356) ?_
  refine Wp_skip ?_
  refine tn ?_
  refine Wp_seq ?_
  refine Wp_region_lit ?_
  refine W_v (.agg #[.bool a0.Leaf, .slice A0_0 a0.Keys.length c0_0, .slice A0_1 a0.Kids.length c0_1, .slice A0_2 a0.Rows.length c0_2]) (x_loadA (S.blk 0 rfl) ty26 rfl (sub_of_extract rfl) rfl rfl) rfl ?_
  refine W_v (.int .i64 t246) (x_move rfl) rfl ?_
  obtain ⟨t357, ht358, H⟩ := bindS H
  refine W_callF fn14 (fork_Fence.con k M A0_0 c0_0 A0_1 c0_1 A0_2 c0_2 a0 t246 t357 hr0_0 hr0_1 hr0_2 ht358) S rfl rfl (by rintro _ _ _ ⟨_, rfl⟩; exact flat_nil) ?_
  rintro _ w359 _ Γ' E' S ⟨rfl, rfl⟩
  replace E := E.trans E'
  clear E'
  refine W_v (.tuple #[.string (bs t357.1), .bool t357.2]) (x_move rfl) rfl ?_
  refine W_v (.string (bs t357.1)) (x_extract rfl rfl) rfl ?_
  refine W_v (.bool t357.2) (x_extract rfl rfl) rfl ?_
  refine W_v (.string (bs t357.1)) (x_assign rfl) rfl ?_
  refine W_v (.bool t357.2) (x_assign rfl) rfl ?_
  refine Wl_nil ?_
  refine tn ?_
  refine Wp_seq ?_
  refine Wp_region_lit ?_
  refine W_v (.bool t357.2) (x_move rfl) rfl ?_
  refine W_v (.int .i64 t246) (x_move rfl) rfl ?_
  refine W_v (.pointer (some ⟨b1, 1, none⟩)) (x_fieldAddr (o := 0) (off := 1) Try.underlying26 rfl ty22 rfl rfl) rfl ?_
  refine W_v (.slice A0_0 a0.Keys.length c0_0) (x_load (S.blk 0 rfl) ty22 rfl rfl) rfl ?_
  refine W_v (.int .i64 (a0.Keys.length : Int)) (x_len_slice (n := a0.Keys.length) Try.underlying22 rfl) rfl ?_
  refine W_v (.bool (decide (t246 < (a0.Keys.length : Int)))) (x_ibin rfl rfl rfl rfl) rfl ?_
  refine W_v (.bool (t357.2 == (decide (t246 < (a0.Keys.length : Int))))) (x_beq Try.underlying4 rfl rfl) rfl ?_
  refine W_v (.bool (t357.2 == (decide (t246 < (a0.Keys.length : Int))))) (x_move rfl) rfl ?_
  obtain ⟨o436, o436h, o436H⟩ := bindS H
  clear H
  refine Wl_cutN 17 (fun ρ w' => ∃ (x435 : Bool), (x435) = o436 ∧ Agree ρ [(135, .bool x435)] ∧ Ext w w' ∧ St w' M F []) ?_ ?_
  · have H := o436h
    rcases iteS H with ⟨hb434, H⟩ | ⟨hb434, H⟩
    · skip
      refine W_yes (congrArg some hb434) ?_
      refine W_v (.bool t357.2) (x_move rfl) rfl ?_
      refine W_yes (congrArg some hb434) ?_
      refine W_v (.bool (!t357.2)) (x_not rfl) rfl ?_
      refine W_yes (congrArg some hb434) ?_
      refine W_v (.bool (!t357.2)) (x_move rfl) rfl ?_
      obtain ⟨o461, o461h, o461H⟩ := bindS H
      clear H
      refine Wl_cutN 13 (fun ρ w' => ∃ (x460 : Bool), (x460) = o461 ∧ Agree ρ [(118, .bool (t357.2 == (decide (t246 < (a0.Keys.length : Int))))), (134, .bool x460)] ∧ Ext w w' ∧ St w' M F []) ?_ ?_
      · have H := o461h
        rcases iteS H with ⟨hb459, H⟩ | ⟨hb459, H⟩
        · skip
          refine W_no (skF hb459) rfl ?_
          refine W_no (skF hb459) rfl ?_
          refine W_no (skF hb459) rfl ?_
          refine W_no (skF hb459) rfl ?_
          refine W_no (skF hb459) rfl ?_
          refine W_no (skF hb459) rfl ?_
          refine W_no (skF hb459) rfl ?_
          refine W_no (skF hb459) rfl ?_
          refine W_no (rfl) rfl ?_
          refine W_no (rfl) rfl ?_
          refine W_no (rfl) rfl ?_
          refine W_no (skF hb459) rfl ?_
          refine W_yes (congrArg some hb434) ?_
          refine W_v (.bool true) (x_pick (k := true) (congrArg Value.bool hb459) rfl) rfl ?_
          refine Wl_nil ?_
          exact ⟨true, Option.some.inj H, ⟨rfl, rfl, trivial⟩, E, S.pick [] (by decide)⟩
        · skip
          refine W_yes (congrArg some hb459) ?_
          refine W_v (.string (bs t357.1)) (x_move rfl) rfl ?_
          refine W_yes (congrArg some hb459) ?_
          refine W_v (.pointer (some ⟨b1, 1, none⟩)) (x_fieldAddr (o := 0) (off := 1) Try.underlying26 rfl ty22 rfl rfl) rfl ?_
          refine W_yes (congrArg some hb459) ?_
          refine W_v (.slice A0_0 a0.Keys.length c0_0) (x_load (S.blk 0 rfl) ty22 rfl rfl) rfl ?_
          refine W_yes (congrArg some hb459) ?_
          refine W_v (.int .i64 t246) (x_move rfl) rfl ?_
          refine W_yes (congrArg some hb459) ?_
          obtain ⟨⟨p462, p463⟩, H⟩ := chkS H
          obtain ⟨b464, o465, cs466, _, _, ee471, hb467, vs468, hR469, hc470⟩ := SlW.at' hr0_0 p462 p463
          obtain rfl : vs468 = _ := hR469
          refine W_v (.pointer (some ⟨b464, o465 + t246.toNat * 1, none⟩)) (x_indexAddr Try.underlying22 ty9 (slA ee471) rfl p462 p463) rfl ?_
          refine W_yes (congrArg some hb459) ?_
          refine W_v (.string (bs (rd a0.Keys t246))) (x_load (S.frz hb467) ty9 rfl (hc470 0 _ rfl)) rfl ?_
          refine W_yes (congrArg some hb459) ?_
          refine W_v (.bool (sbin .eql t357.1 (rd a0.Keys t246))) (x_sbin rfl rfl rfl) rfl ?_
          refine W_yes (congrArg some hb459) ?_
          refine W_v (.bool (sbin .eql t357.1 (rd a0.Keys t246))) (x_move rfl) rfl ?_
          refine Wl_cutN 4 (fun ρ w' => Agree ρ [(118, .bool (t357.2 == (decide (t246 < (a0.Keys.length : Int))))), (121, .bool (!t357.2)), (133, .bool ((sbin .eql t357.1 (rd a0.Keys t246)) && (sbin .lss a1 t357.1)))] ∧ w359 = w') ?_ ?_
          · rcases boolCases (sbin .eql t357.1 (rd a0.Keys t246)) with hb472 | hb472
            · skip
              refine W_no (skT hb472) rfl ?_
              refine W_no (skT hb472) rfl ?_
              refine W_no (skT hb472) rfl ?_
              refine W_yes (congrArg some hb459) ?_
              refine W_v (.bool false) (x_pick (k := false) (congrArg Value.bool hb472) rfl) rfl ?_
              refine Wl_nil ?_
              exact ⟨⟨rfl, rfl, (by first | rfl | (rw [hb472]; rfl) | (simp only [hb472]; rfl)), trivial⟩, rfl⟩
            · skip
              refine W_yes (congrArg some hb472) ?_
              refine W_v (.string (bs a1)) (x_move rfl) rfl ?_
              refine W_yes (congrArg some hb472) ?_
              refine W_v (.string (bs t357.1)) (x_move rfl) rfl ?_
              refine W_yes (congrArg some hb472) ?_
              refine W_v (.bool (sbin .lss a1 t357.1)) (x_sbin rfl rfl rfl) rfl ?_
              refine W_yes (congrArg some hb459) ?_
              refine W_v (.bool (sbin .lss a1 t357.1)) (x_pick (k := true) (congrArg Value.bool hb472) rfl) rfl ?_
              refine Wl_nil ?_
              exact ⟨⟨rfl, rfl, (by first | rfl | (rw [hb472]; rfl) | (simp only [hb472]; rfl)), trivial⟩, rfl⟩
          rintro ρ _ ⟨hρ, rfl⟩
          rw [agree_eta hρ]
          clear hρ
          refine W_yes (congrArg some hb434) ?_
          refine W_v (.bool ((sbin .eql t357.1 (rd a0.Keys t246)) && (sbin .lss a1 t357.1))) (x_pick (k := false) (congrArg Value.bool hb459) rfl) rfl ?_
          refine Wl_nil ?_
          exact ⟨((sbin .eql t357.1 (rd a0.Keys t246)) && (sbin .lss a1 t357.1)), Option.some.inj H, ⟨rfl, rfl, trivial⟩, E, S.pick [] (by decide)⟩
      clear o461h
      rintro ρ w473 ⟨x460, rfl, hρ, E, S⟩
      rw [agree_eta hρ]
      clear hρ
      have H := o461H
      clear o461H
      refine W_v (.bool x460) (x_pick (k := true) (congrArg Value.bool hb434) rfl) rfl ?_
      refine Wl_nil ?_
      exact ⟨x460, Option.some.inj H, ⟨rfl, trivial⟩, E, S.pick [] (by decide)⟩
    · skip
      refine W_no (skT hb434) rfl ?_
      refine W_no (skT hb434) rfl ?_
      refine W_no (skT hb434) rfl ?_
      refine W_no (rfl) rfl ?_
      refine W_no (rfl) rfl ?_
      refine W_no (rfl) rfl ?_
      refine W_no (rfl) rfl ?_
      refine W_no (rfl) rfl ?_
      refine W_no (rfl) rfl ?_
      refine W_no (rfl) rfl ?_
      refine W_no (rfl) rfl ?_
      refine W_no (rfl) rfl ?_
      refine W_no (rfl) rfl ?_
      refine W_no (rfl) rfl ?_
      refine W_no (rfl) rfl ?_
      refine W_no (skT hb434) rfl ?_
      refine W_v (.bool false) (x_pick (k := false) (congrArg Value.bool hb434) rfl) rfl ?_
      refine Wl_nil ?_
      exact ⟨false, Option.some.inj H, ⟨rfl, trivial⟩, E, S.pick [] (by decide)⟩
  clear o436h
  rintro ρ w474 ⟨x435, rfl, hρ, E, S⟩
  rw [agree_eta hρ]
  clear hρ
  have H := o436H
  clear o436H
  refine W_v (.bool x435) (x_assign rfl) rfl ?_
  refine Wl_nil ?_
  refine tn ?_
  refine Wp_ret ?_
  obtain rfl := Option.some.inj H
  exact ⟨_, _, _, fun w1 e1 => run_resR (vs := [.bool x435]) (FA.cons (rfl) (FA.nil)), HM, E, S.pick [] (by decide), ⟨rfl, rfl⟩⟩
end Go.Proofs.Ytdommjjhfplcaaa
