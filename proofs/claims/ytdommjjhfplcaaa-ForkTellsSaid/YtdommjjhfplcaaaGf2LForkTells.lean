import Derived.Test.YtdommjjhfplcaaaGf2
namespace Go.Proofs.Ytdommjjhfplcaaa
open Go
set_option linter.unusedVariables false
set_option linter.unusedSimpArgs false
/-! ### ferryman/ferrymanlaw13.ForkTells: function 8 -/
def ferrymanlaw13_ForkTells (k : Nat) (a0 : fork_Node) (a1 : fork_Node) (a2 : Str) (a3 : Int) (a4 : Int) (a5 : Int) (a6 : Bool) : Option (Bool) :=
  (Option.bind (ferrymanlaw13_large k a0) (fun t7 => (Option.bind (α := Bool) (if t7 = true then some (true) else (Option.bind (ferrymanlaw13_large k a1) (fun t19 => some (t19)))) (fun x17 => (if (x17 || (decide ((a2.length : Int) > (3000 : Int)))) = true then (Option.bind (ferrymanlaw13_awake k ) (fun t25 => some t25)) else (Option.bind (α := Bool × List Str × List Int × List Int) (Option.bind (ferrymanlaw13_own k a0) (fun t544 => some (t544.Leaf, t544.Keys, t544.Kids, t544.Rows))) (fun ⟨x531, x532, x536, x540⟩ => (Option.bind (fork_Place k (⟨x531, x532, x536, x540⟩ : fork_Node) a2) (fun t778 => (Option.bind (ferrymanref13_Place k (⟨(a0.Leaf), (a0.Keys), (a0.Kids), (a0.Rows)⟩ : ferrymanref13_Node) a2) (fun t781 => (Option.bind (fork_Fence k (⟨x531, x532, x536, x540⟩ : fork_Node) a3) (fun t784 => (Option.bind (ferrymanref13_Fence k (⟨(a0.Leaf), (a0.Keys), (a0.Kids), (a0.Rows)⟩ : ferrymanref13_Node) a3) (fun t787 => (Option.bind (α := Bool) (if ((((t778.1 != t781.1) || (!(t778.2 == t781.2))) || (sbin .neq t784.1 t787.1)) || (!(t784.2 == t787.2))) = true then some (true) else (Option.bind (fork_May k (⟨x531, x532, x536, x540⟩ : fork_Node)) (fun t839 => (Option.bind (ferrymanref13_May k (⟨(a0.Leaf), (a0.Keys), (a0.Kids), (a0.Rows)⟩ : ferrymanref13_Node)) (fun t842 => some ((!(t839 == t842)))))))) (fun x837 => (Option.bind (α := Bool) (if x837 = true then some (true) else (Option.bind (fork_Kid k (⟨x531, x532, x536, x540⟩ : fork_Node) a2) (fun t855 => (Option.bind (ferrymanref13_Kid k (⟨(a0.Leaf), (a0.Keys), (a0.Kids), (a0.Rows)⟩ : ferrymanref13_Node) a2) (fun t858 => some ((t855 != t858))))))) (fun x853 => (if x853 = true then some false else (Option.bind (fork_Safe k (⟨x531, x532, x536, x540⟩ : fork_Node) a4 a5 a6) (fun t897 => (Option.bind (ferrymanref13_Safe k (⟨(a0.Leaf), (a0.Keys), (a0.Kids), (a0.Rows)⟩ : ferrymanref13_Node) a4 a5 a6) (fun t900 => (Option.bind (α := Bool) (if (!(t897 == t900)) = true then some (true) else (Option.bind (fork_Same k (⟨x531, x532, x536, x540⟩ : fork_Node) a1) (fun t912 => (Option.bind (ferrymanref13_Same k (⟨(a0.Leaf), (a0.Keys), (a0.Kids), (a0.Rows)⟩ : ferrymanref13_Node) (⟨a1.Leaf, a1.Keys, a1.Kids, a1.Rows⟩ : ferrymanref13_Node)) (fun t915 => some ((!(t912 == t915)))))))) (fun x910 => (Option.bind (α := Bool) (if x910 = true then some (true) else (Option.bind (fork_Same k (⟨x531, x532, x536, x540⟩ : fork_Node) a0) (fun t925 => some ((!t925))))) (fun x923 => (if x923 = true then some false else (Option.bind (fork_Copy k (⟨x531, x532, x536, x540⟩ : fork_Node)) (fun t967 => (Option.bind (ferrymanlaw13_told k t967 (⟨(a0.Leaf), (a0.Keys), (a0.Kids), (a0.Rows)⟩ : ferrymanref13_Node)) (fun t979 => (Option.bind (α := Bool) (if t979 = true then (Option.bind (ferrymanref13_Same k (⟨x531, x532, x536, x540⟩ : ferrymanref13_Node) (⟨(a0.Leaf), (a0.Keys), (a0.Kids), (a0.Rows)⟩ : ferrymanref13_Node)) (fun t988 => some (t988))) else some (false)) (fun x986 => (Option.bind (α := Bool) (if x986 = true then (Option.bind (ferrymanlaw13_awake k ) (fun t998 => some (t998))) else some (false)) (fun x996 => some x996)))))))))))))))))))))))))))))))))))))
set_option maxHeartbeats 2000000 in
theorem ferrymanlaw13_ForkTells.mono {k : Nat} {a0 : fork_Node} {a1 : fork_Node} {a2 : Str} {a3 : Int} {a4 : Int} {a5 : Int} {a6 : Bool} : OLe (ferrymanlaw13_ForkTells k a0 a1 a2 a3 a4 a5 a6) (ferrymanlaw13_ForkTells (k + 1) a0 a1 a2 a3 a4 a5 a6) := by
  unfold ferrymanlaw13_ForkTells
  repeat' (first | with_reducible exact OLe.none | with_reducible exact OLe.some | with_reducible refine OLe.ite ?_ ?_ | with_reducible refine OLe.bind ?_ (fun _ => ?_) | with_reducible exact ferrymanlaw13_awake.mono | with_reducible exact ferrymanlaw13_large.mono | with_reducible exact ferrymanlaw13_own.mono | with_reducible exact ferrymanlaw13_told.mono | with_reducible exact ferrymanref13_Fence.mono | with_reducible exact ferrymanref13_Kid.mono | with_reducible exact ferrymanref13_May.mono | with_reducible exact ferrymanref13_Place.mono | with_reducible exact ferrymanref13_Safe.mono | with_reducible exact ferrymanref13_Same.mono | with_reducible exact fork_Copy.mono | with_reducible exact fork_Fence.mono | with_reducible exact fork_Kid.mono | with_reducible exact fork_May.mono | with_reducible exact fork_Place.mono | with_reducible exact fork_Safe.mono | with_reducible exact fork_Same.mono | refine OLe.bind ?_ (fun _ => ?_) | refine OLe.ite ?_ ?_ | refine OLe.elim (fun _ => ?_) (fun _ => ?_) | split)
set_option maxHeartbeats 8000000 in
set_option maxRecDepth 100000 in
theorem ferrymanlaw13_ForkTells.con (k : Nat) (M : Hp) (A0_0 : Option Addr) (c0_0 : Nat) (A0_1 : Option Addr) (c0_1 : Nat) (A0_2 : Option Addr) (c0_2 : Nat) (a0 : fork_Node) (A1_0 : Option Addr) (c1_0 : Nat) (A1_1 : Option Addr) (c1_1 : Nat) (A1_2 : Option Addr) (c1_2 : Nat) (a1 : fork_Node) (a2 : Str) (a3 : Int) (a4 : Int) (a5 : Int) (a6 : Bool) (r : Bool) (hr0_0 : SlR rStr M (.slice A0_0 a0.Keys.length c0_0) a0.Keys) (hr0_1 : SlR (rInt .i64) M (.slice A0_1 a0.Kids.length c0_1) a0.Kids) (hr0_2 : SlR (rInt .u64) M (.slice A0_2 a0.Rows.length c0_2) a0.Rows) (hr1_0 : SlR rStr M (.slice A1_0 a1.Keys.length c1_0) a1.Keys) (hr1_1 : SlR (rInt .i64) M (.slice A1_1 a1.Kids.length c1_1) a1.Kids) (hr1_2 : SlR (rInt .u64) M (.slice A1_2 a1.Rows.length c1_2) a1.Rows) (h : ferrymanlaw13_ForkTells k a0 a1 a2 a3 a4 a5 a6 = some r) : Con Try.prog 8 #[.agg #[.bool a0.Leaf, .slice A0_0 a0.Keys.length c0_0, .slice A0_1 a0.Kids.length c0_1, .slice A0_2 a0.Rows.length c0_2], .agg #[.bool a1.Leaf, .slice A1_0 a1.Keys.length c1_0, .slice A1_1 a1.Kids.length c1_1, .slice A1_2 a1.Rows.length c1_2], .string (bs a2), .int .i64 a3, .int .i64 a4, .int .u8 a5, .bool a6] M [] (fun v M' Γ' => v = .bool r ∧ Γ' = []) := by
  refine con_of_wp Try.func8 rfl Try.ntmps8 Try.results8 rfl ?_
  intro w F rn S hrn
  have E := Ext.refl w
  have HM := Hp.le_refl M
  have H := h
  unfold ferrymanlaw13_ForkTells at H
  refine Wp_seq ?_
  refine Wp_region_lit ?_
  refine W_box S #[.bool a0.Leaf, .slice A0_0 a0.Keys.length c0_0, .slice A0_1 a0.Kids.length c0_1, .slice A0_2 a0.Rows.length c0_2] rfl rfl rfl ?_
  intro b1 w2 E' S
  replace E := E.trans E'
  clear E'
  refine W_box S #[.bool a1.Leaf, .slice A1_0 a1.Keys.length c1_0, .slice A1_1 a1.Kids.length c1_1, .slice A1_2 a1.Rows.length c1_2] rfl rfl rfl ?_
  intro b4 w5 E' S
  replace E := E.trans E'
  clear E'
  refine W_v (.bool false) (x_assign rfl) rfl ?_
  refine Wl_nil ?_
  refine tn ?_
  refine Wp_seq ?_
  refine Wp_seq ?_
  refine Wp_region_lit ?_
  refine W_v (.agg #[.bool a0.Leaf, .slice A0_0 a0.Keys.length c0_0, .slice A0_1 a0.Kids.length c0_1, .slice A0_2 a0.Rows.length c0_2]) (x_loadA (S.blk 1 rfl) ty26 rfl (sub_of_extract rfl) rfl rfl) rfl ?_
  obtain ⟨t7, ht8, H⟩ := bindS H
  refine W_callF fn9 (ferrymanlaw13_large.con k M A0_0 c0_0 A0_1 c0_1 A0_2 c0_2 a0 t7 hr0_0 hr0_1 hr0_2 ht8) S rfl rfl (by rintro _ _ _ ⟨_, rfl⟩; exact flat_nil) ?_
  rintro _ w9 _ Γ' E' S ⟨rfl, rfl⟩
  replace E := E.trans E'
  clear E'
  refine W_v (.bool t7) (x_move rfl) rfl ?_
  obtain ⟨o18, o18h, o18H⟩ := bindS H
  clear H
  refine Wl_cutN 3 (fun ρ w' => ∃ (x17 : Bool), (x17) = o18 ∧ Agree ρ [(2, .string (bs a2)), (3, .int .i64 a3), (4, .int .i64 a4), (5, .int .u8 a5), (6, .bool a6), (7, .pointer (some ⟨b1, 0, none⟩)), (8, .pointer (some ⟨b4, 0, none⟩)), (30, .bool x17)] ∧ Ext w w' ∧ St w' M F [Blk b4 (.cells #[.bool a1.Leaf, .slice A1_0 a1.Keys.length c1_0, .slice A1_1 a1.Kids.length c1_1, .slice A1_2 a1.Rows.length c1_2] 26 (0, 0)), Blk b1 (.cells #[.bool a0.Leaf, .slice A0_0 a0.Keys.length c0_0, .slice A0_1 a0.Kids.length c0_1, .slice A0_2 a0.Rows.length c0_2] 26 (0, 0))]) ?_ ?_
  · have H := o18h
    rcases iteS H with ⟨hb16, H⟩ | ⟨hb16, H⟩
    · skip
      refine W_no (skF hb16) rfl ?_
      refine W_no (skF hb16) rfl ?_
      refine W_v (.bool true) (x_pick (k := true) (congrArg Value.bool hb16) rfl) rfl ?_
      refine Wl_nil ?_
      exact ⟨true, Option.some.inj H, ⟨rfl, rfl, rfl, rfl, rfl, rfl, rfl, rfl, trivial⟩, E, S.pick [0, 1] (by decide)⟩
    · skip
      refine W_yes (congrArg some hb16) ?_
      refine W_v (.agg #[.bool a1.Leaf, .slice A1_0 a1.Keys.length c1_0, .slice A1_1 a1.Kids.length c1_1, .slice A1_2 a1.Rows.length c1_2]) (x_loadA (S.blk 0 rfl) ty26 rfl (sub_of_extract rfl) rfl rfl) rfl ?_
      refine W_yes (congrArg some hb16) ?_
      obtain ⟨t19, ht20, H⟩ := bindS H
      refine W_callF fn9 (ferrymanlaw13_large.con k M A1_0 c1_0 A1_1 c1_1 A1_2 c1_2 a1 t19 hr1_0 hr1_1 hr1_2 ht20) S rfl rfl (by rintro _ _ _ ⟨_, rfl⟩; exact flat_nil) ?_
      rintro _ w21 _ Γ' E' S ⟨rfl, rfl⟩
      replace E := E.trans E'
      clear E'
      refine W_v (.bool t19) (x_pick (k := false) (congrArg Value.bool hb16) rfl) rfl ?_
      refine Wl_nil ?_
      exact ⟨t19, Option.some.inj H, ⟨rfl, rfl, rfl, rfl, rfl, rfl, rfl, rfl, trivial⟩, E, S.pick [0, 1] (by decide)⟩
  clear o18h
  rintro ρ w22 ⟨x17, rfl, hρ, E, S⟩
  rw [agree_eta hρ]
  clear hρ
  have H := o18H
  clear o18H
  refine W_v (.bool x17) (x_move rfl) rfl ?_
  refine Wl_cutN 4 (fun ρ w' => Agree ρ [(2, .string (bs a2)), (3, .int .i64 a3), (4, .int .i64 a4), (5, .int .u8 a5), (6, .bool a6), (7, .pointer (some ⟨b1, 0, none⟩)), (8, .pointer (some ⟨b4, 0, none⟩)), (35, .bool (x17 || (decide ((a2.length : Int) > (3000 : Int)))))] ∧ w22 = w') ?_ ?_
  · rcases boolCases x17 with hb23 | hb23
    · skip
      refine W_yes (congrArg some hb23) ?_
      refine W_v (.string (bs a2)) (x_move rfl) rfl ?_
      refine W_yes (congrArg some hb23) ?_
      refine W_v (.int .i64 (a2.length : Int)) (x_len_str Try.underlying9 rfl) rfl ?_
      refine W_yes (congrArg some hb23) ?_
      refine W_v (.bool (decide ((a2.length : Int) > (3000 : Int)))) (x_ibin rfl rfl rfl rfl) rfl ?_
      refine W_v (.bool (decide ((a2.length : Int) > (3000 : Int)))) (x_pick (k := false) (congrArg Value.bool hb23) rfl) rfl ?_
      refine Wl_nil ?_
      exact ⟨⟨rfl, rfl, rfl, rfl, rfl, rfl, rfl, (by first | rfl | (rw [hb23]; rfl) | (simp only [hb23]; rfl)), trivial⟩, rfl⟩
    · skip
      refine W_no (skF hb23) rfl ?_
      refine W_no (skF hb23) rfl ?_
      refine W_no (skF hb23) rfl ?_
      refine W_v (.bool true) (x_pick (k := true) (congrArg Value.bool hb23) rfl) rfl ?_
      refine Wl_nil ?_
      exact ⟨⟨rfl, rfl, rfl, rfl, rfl, rfl, rfl, (by first | rfl | (rw [hb23]; rfl) | (simp only [hb23]; rfl)), trivial⟩, rfl⟩
  rintro ρ _ ⟨hρ, rfl⟩
  rw [agree_eta hρ]
  clear hρ
  refine Wl_nil ?_
  refine tn ?_
  rcases iteS H with ⟨hb24, H⟩ | ⟨hb24, H⟩
  · refine Wp_cond_true (congrArg Value.bool hb24) ?_
    refine Wp_seq ?_
    refine Wp_region_lit ?_
    obtain ⟨t25, ht26, H⟩ := bindS H
    refine W_callF fn10 (ferrymanlaw13_awake.con k M  t25  ht26) S rfl rfl (by rintro _ _ _ ⟨_, rfl⟩; exact flat_nil) ?_
    rintro _ w27 _ Γ' E' S ⟨rfl, rfl⟩
    replace E := E.trans E'
    clear E'
    refine W_v (.bool t25) (x_assign rfl) rfl ?_
    refine Wl_nil ?_
    refine tn ?_
    refine Wp_ret ?_
    refine tr (?_)
    obtain rfl := Option.some.inj H
    exact ⟨_, _, _, fun w1 e1 => run_resR (vs := [.bool t25]) (FA.cons (rfl) (FA.nil)), HM, E, S.pick [] (by decide), ⟨rfl, rfl⟩⟩
  refine Wp_cond_false (congrArg Value.bool hb24) ?_
  refine Wp_skip ?_
  refine tn ?_
  refine Wp_seq ?_
  refine Wp_region_any (S := fun w' => ∃ Mx, M.le Mx ∧ St w' Mx F [Blk b4 (.cells #[.bool a1.Leaf, .slice A1_0 a1.Keys.length c1_0, .slice A1_1 a1.Kids.length c1_1, .slice A1_2 a1.Rows.length c1_2] 26 (0, 0)), Blk b1 (.cells #[.bool a0.Leaf, .slice A0_0 a0.Keys.length c0_0, .slice A0_1 a0.Kids.length c0_1, .slice A0_2 a0.Rows.length c0_2] 26 (0, 0))]) mixed ?_
  intro w402 hw403 E'
  replace S := S.heap hw403
  replace E := E.trans E'
  clear E'
  refine Wa_take (i := 0) rfl (by kernel_rfl) rfl rfl (.agg #[.bool a0.Leaf, .slice A0_0 a0.Keys.length c0_0, .slice A0_1 a0.Kids.length c0_1, .slice A0_2 a0.Rows.length c0_2]) rfl (fun w' h' => x_loadA (cls_blk h' 1 rfl) ty26 rfl (sub_of_extract rfl) rfl rfl) (⟨M, Hp.le_refl M, S.pick [0, 1] (by decide)⟩) ?_
  refine Wa_take (i := 2) rfl (by kernel_rfl) rfl rfl (.agg #[.bool a0.Leaf, .slice A0_0 a0.Keys.length c0_0, .slice A0_1 a0.Kids.length c0_1, .slice A0_2 a0.Rows.length c0_2]) rfl (fun w' h' => x_loadA (cls_blk h' 1 rfl) ty26 rfl (sub_of_extract rfl) rfl rfl) (⟨M, Hp.le_refl M, S.pick [0, 1] (by decide)⟩) ?_
  obtain ⟨o688, o688h, o688H⟩ := bindS H
  clear H
  refine Wa_join (fun ρ w' => ∃ (x531 : Bool) (x532 : List Str) (x536 : List Int) (x540 : List Int) (A533 : Option Addr) (c534 : Nat) (A537 : Option Addr) (c538 : Nat) (A541 : Option Addr) (c542 : Nat) (b527 : Nat) (b529 : Nat), (x531, x532, x536, x540) = o688 ∧ Agree ρ [(2, .string (bs a2)), (3, .int .i64 a3), (4, .int .i64 a4), (5, .int .u8 a5), (6, .bool a6), (7, .pointer (some ⟨b1, 0, none⟩)), (8, .pointer (some ⟨b4, 0, none⟩)), (15, .pointer (some ⟨b527, 0, none⟩)), (16, .pointer (some ⟨b529, 0, none⟩)), (38, .agg #[.bool x531, .slice A533 x532.length c534, .slice A537 x536.length c538, .slice A541 x540.length c542]), (39, .agg #[.bool a0.Leaf, .slice A0_0 a0.Keys.length c0_0, .slice A0_1 a0.Kids.length c0_1, .slice A0_2 a0.Rows.length c0_2])] ∧ Ext w w' ∧ St w' M F [Blk b529 (.cells #[.bool false, .slice none 0 0, .slice none 0 0, .slice none 0 0] 39 (0, 0)), Blk b527 (.cells #[.bool false, .slice none 0 0, .slice none 0 0, .slice none 0 0] 26 (0, 0)), Row (rInt .u64) 41 (.slice A541 x540.length c542) x540, Row (rInt .i64) 3 (.slice A537 x536.length c538) x536, Row rStr 9 (.slice A533 x532.length c534) x532, Blk b4 (.cells #[.bool a1.Leaf, .slice A1_0 a1.Keys.length c1_0, .slice A1_1 a1.Kids.length c1_1, .slice A1_2 a1.Rows.length c1_2] 26 (0, 0)), Blk b1 (.cells #[.bool a0.Leaf, .slice A0_0 a0.Keys.length c0_0, .slice A0_1 a0.Kids.length c0_1, .slice A0_2 a0.Rows.length c0_2] 26 (0, 0))]) 2 (Ls 7 [0, 1, 2, 3, 4]) ?_ ?_
  rotate_left
  · intro hq696
    clear o688H
    refine Wa_join (fun ρ w' => ∃ (b511 : Nat) (b513 : Nat), (Option.bind (ferrymanlaw13_own k a0) (fun t676 => some (t676.Leaf, t676.Keys, t676.Kids, t676.Rows))) = some o688 ∧ Agree ρ [(2, .string (bs a2)), (3, .int .i64 a3), (4, .int .i64 a4), (5, .int .u8 a5), (6, .bool a6), (7, .pointer (some ⟨b1, 0, none⟩)), (8, .pointer (some ⟨b4, 0, none⟩)), (15, .pointer (some ⟨b511, 0, none⟩)), (16, .pointer (some ⟨b513, 0, none⟩)), (37, .agg #[.bool a0.Leaf, .slice A0_0 a0.Keys.length c0_0, .slice A0_1 a0.Kids.length c0_1, .slice A0_2 a0.Rows.length c0_2]), (39, .agg #[.bool a0.Leaf, .slice A0_0 a0.Keys.length c0_0, .slice A0_1 a0.Kids.length c0_1, .slice A0_2 a0.Rows.length c0_2])] ∧ Ext w w' ∧ St w' M F [Blk b513 (.cells #[.bool false, .slice none 0 0, .slice none 0 0, .slice none 0 0] 39 (0, 0)), Blk b511 (.cells #[.bool false, .slice none 0 0, .slice none 0 0, .slice none 0 0] 26 (0, 0)), Blk b4 (.cells #[.bool a1.Leaf, .slice A1_0 a1.Keys.length c1_0, .slice A1_1 a1.Kids.length c1_1, .slice A1_2 a1.Rows.length c1_2] 26 (0, 0)), Blk b1 (.cells #[.bool a0.Leaf, .slice A0_0 a0.Keys.length c0_0, .slice A0_1 a0.Kids.length c0_1, .slice A0_2 a0.Rows.length c0_2] 26 (0, 0))]) 3 (Ls 7 [0, 2, 3, 4]) ?_ ?_
    · clear o688h
      rintro ρ w697 ⟨b511, b513, H, hρ, E, S⟩
      rw [agree_eta hρ]
      clear hρ
      refine Wa_solo (i := 1) rfl (by kernel_rfl) ?_
      obtain ⟨t698, ht699, H⟩ := bindS H
      refine W_callF fn23 (ferrymanlaw13_own.con k M A0_0 c0_0 A0_1 c0_1 A0_2 c0_2 a0 t698 hr0_0 hr0_1 hr0_2 ht699) S rfl rfl (by rintro _ _ _ ⟨_, _, _, _, _, _, _, rfl⟩; exact (flat_cons (flat_row (fun _ _ _ _ h => h)) (flat_cons (flat_row (fun _ _ _ _ h => h)) (flat_cons (flat_row (fun _ _ _ _ h => h)) flat_nil)))) ?_
      rintro _ w709 _ Γ' E' S ⟨A700, c701, A703, c704, A706, c707, rfl, rfl⟩
      replace E := E.trans E'
      clear E'
      refine Wl_nil (on_n ⟨⟨M, Hp.le_refl M, S.pick [5, 6] (by decide)⟩, ?_⟩)
      exact hq696 _ _ ⟨t698.Leaf, t698.Keys, t698.Kids, t698.Rows, A700, c701, A703, c704, A706, c707, b511, b513, Option.some.inj H, ⟨rfl, rfl, rfl, rfl, rfl, rfl, rfl, rfl, rfl, rfl, rfl, trivial⟩, E, S.pick [3, 4, 2, 1, 0, 5, 6] (by decide)⟩
    intro hq695
    refine Wa_join (fun ρ w' => ∃ (x495 : Bool) (x496 : List Str) (x500 : List Int) (x504 : List Int) (A497 : Option Addr) (c498 : Nat) (A501 : Option Addr) (c502 : Nat) (A505 : Option Addr) (c506 : Nat) (b493 : Nat), some (x495, x496, x500, x504) = some o688 ∧ Agree ρ [(2, .string (bs a2)), (3, .int .i64 a3), (4, .int .i64 a4), (5, .int .u8 a5), (6, .bool a6), (7, .pointer (some ⟨b1, 0, none⟩)), (8, .pointer (some ⟨b4, 0, none⟩)), (16, .pointer (some ⟨b493, 0, none⟩)), (38, .agg #[.bool x495, .slice A497 x496.length c498, .slice A501 x500.length c502, .slice A505 x504.length c506]), (39, .agg #[.bool a0.Leaf, .slice A0_0 a0.Keys.length c0_0, .slice A0_1 a0.Kids.length c0_1, .slice A0_2 a0.Rows.length c0_2])] ∧ Ext w w' ∧ St w' M F [Blk b493 (.cells #[.bool false, .slice none 0 0, .slice none 0 0, .slice none 0 0] 39 (0, 0)), Row (rInt .u64) 41 (.slice A505 x504.length c506) x504, Row (rInt .i64) 3 (.slice A501 x500.length c502) x500, Row rStr 9 (.slice A497 x496.length c498) x496, Blk b4 (.cells #[.bool a1.Leaf, .slice A1_0 a1.Keys.length c1_0, .slice A1_1 a1.Kids.length c1_1, .slice A1_2 a1.Rows.length c1_2] 26 (0, 0)), Blk b1 (.cells #[.bool a0.Leaf, .slice A0_0 a0.Keys.length c0_0, .slice A0_1 a0.Kids.length c0_1, .slice A0_2 a0.Rows.length c0_2] 26 (0, 0))]) 3 (Ls 7 [0, 1, 2, 4]) ?_ ?_
    · clear o688h
      rintro ρ w710 ⟨x495, x496, x500, x504, A497, c498, A501, c502, A505, c506, b493, H, hρ, E, S⟩
      rw [agree_eta hρ]
      clear hρ
      refine Wa_solo (i := 3) rfl (by kernel_rfl) ?_
      refine W_alloc S #[.bool false, .slice none 0 0, .slice none 0 0, .slice none 0 0] ty26 rfl rfl ?_
      intro b711 w712 E' S
      replace E := E.trans E'
      clear E'
      refine Wl_nil (on_n ⟨⟨M, Hp.le_refl M, S.pick [5, 6] (by decide)⟩, ?_⟩)
      exact hq696 _ _ ⟨x495, x496, x500, x504, A497, c498, A501, c502, A505, c506, b711, b493, Option.some.inj H, ⟨rfl, rfl, rfl, rfl, rfl, rfl, rfl, rfl, rfl, rfl, rfl, trivial⟩, E, S.pick [1, 0, 2, 3, 4, 5, 6] (by decide)⟩
    intro hq694
    refine Wa_join (fun ρ w' => ∃ (x477 : Bool) (x478 : List Str) (x482 : List Int) (x486 : List Int) (A479 : Option Addr) (c480 : Nat) (A483 : Option Addr) (c484 : Nat) (A487 : Option Addr) (c488 : Nat) (b475 : Nat), some (x477, x478, x482, x486) = some o688 ∧ Agree ρ [(2, .string (bs a2)), (3, .int .i64 a3), (4, .int .i64 a4), (5, .int .u8 a5), (6, .bool a6), (7, .pointer (some ⟨b1, 0, none⟩)), (8, .pointer (some ⟨b4, 0, none⟩)), (15, .pointer (some ⟨b475, 0, none⟩)), (38, .agg #[.bool x477, .slice A479 x478.length c480, .slice A483 x482.length c484, .slice A487 x486.length c488]), (39, .agg #[.bool a0.Leaf, .slice A0_0 a0.Keys.length c0_0, .slice A0_1 a0.Kids.length c0_1, .slice A0_2 a0.Rows.length c0_2])] ∧ Ext w w' ∧ St w' M F [Blk b475 (.cells #[.bool false, .slice none 0 0, .slice none 0 0, .slice none 0 0] 26 (0, 0)), Row (rInt .u64) 41 (.slice A487 x486.length c488) x486, Row (rInt .i64) 3 (.slice A483 x482.length c484) x482, Row rStr 9 (.slice A479 x478.length c480) x478, Blk b4 (.cells #[.bool a1.Leaf, .slice A1_0 a1.Keys.length c1_0, .slice A1_1 a1.Kids.length c1_1, .slice A1_2 a1.Rows.length c1_2] 26 (0, 0)), Blk b1 (.cells #[.bool a0.Leaf, .slice A0_0 a0.Keys.length c0_0, .slice A0_1 a0.Kids.length c0_1, .slice A0_2 a0.Rows.length c0_2] 26 (0, 0))]) 3 (Ls 7 [0, 1, 2, 3]) ?_ ?_
    · clear o688h
      rintro ρ w714 ⟨x477, x478, x482, x486, A479, c480, A483, c484, A487, c488, b475, H, hρ, E, S⟩
      rw [agree_eta hρ]
      clear hρ
      refine Wa_solo (i := 4) rfl (by kernel_rfl) ?_
      refine W_alloc S #[.bool false, .slice none 0 0, .slice none 0 0, .slice none 0 0] ty39 rfl rfl ?_
      intro b715 w716 E' S
      replace E := E.trans E'
      clear E'
      refine Wl_nil (on_n ⟨⟨M, Hp.le_refl M, S.pick [5, 6] (by decide)⟩, ?_⟩)
      exact hq696 _ _ ⟨x477, x478, x482, x486, A479, c480, A483, c484, A487, c488, b475, b715, Option.some.inj H, ⟨rfl, rfl, rfl, rfl, rfl, rfl, rfl, rfl, rfl, rfl, rfl, trivial⟩, E, S.pick [0, 1, 2, 3, 4, 5, 6] (by decide)⟩
    intro hq693
    refine Wa_join (fun ρ w' => ∃ (b458 : Nat), (Option.bind (ferrymanlaw13_own k a0) (fun t640 => some (t640.Leaf, t640.Keys, t640.Kids, t640.Rows))) = some o688 ∧ Agree ρ [(2, .string (bs a2)), (3, .int .i64 a3), (4, .int .i64 a4), (5, .int .u8 a5), (6, .bool a6), (7, .pointer (some ⟨b1, 0, none⟩)), (8, .pointer (some ⟨b4, 0, none⟩)), (16, .pointer (some ⟨b458, 0, none⟩)), (37, .agg #[.bool a0.Leaf, .slice A0_0 a0.Keys.length c0_0, .slice A0_1 a0.Kids.length c0_1, .slice A0_2 a0.Rows.length c0_2]), (39, .agg #[.bool a0.Leaf, .slice A0_0 a0.Keys.length c0_0, .slice A0_1 a0.Kids.length c0_1, .slice A0_2 a0.Rows.length c0_2])] ∧ Ext w w' ∧ St w' M F [Blk b458 (.cells #[.bool false, .slice none 0 0, .slice none 0 0, .slice none 0 0] 39 (0, 0)), Blk b4 (.cells #[.bool a1.Leaf, .slice A1_0 a1.Keys.length c1_0, .slice A1_1 a1.Kids.length c1_1, .slice A1_2 a1.Rows.length c1_2] 26 (0, 0)), Blk b1 (.cells #[.bool a0.Leaf, .slice A0_0 a0.Keys.length c0_0, .slice A0_1 a0.Kids.length c0_1, .slice A0_2 a0.Rows.length c0_2] 26 (0, 0))]) 4 (Ls 7 [0, 2, 4]) ?_ ?_
    · clear o688h
      rintro ρ w718 ⟨b458, H, hρ, E, S⟩
      rw [agree_eta hρ]
      clear hρ
      refine Wa_oneOf (rs := [1, 3]) (by kernel_rfl) (by decide) ?_
      simp only [List.forall_mem_cons, List.not_mem_nil, false_implies, implies_true, and_true]
      refine ⟨?_, ?_⟩
      · refine ⟨_, rfl, ?_⟩
        obtain ⟨t719, ht720, H⟩ := bindS H
        refine W_callF fn23 (ferrymanlaw13_own.con k M A0_0 c0_0 A0_1 c0_1 A0_2 c0_2 a0 t719 hr0_0 hr0_1 hr0_2 ht720) S rfl rfl (by rintro _ _ _ ⟨_, _, _, _, _, _, _, rfl⟩; exact (flat_cons (flat_row (fun _ _ _ _ h => h)) (flat_cons (flat_row (fun _ _ _ _ h => h)) (flat_cons (flat_row (fun _ _ _ _ h => h)) flat_nil)))) ?_
        rintro _ w730 _ Γ' E' S ⟨A721, c722, A724, c725, A727, c728, rfl, rfl⟩
        replace E := E.trans E'
        clear E'
        refine Wl_nil (on_n ⟨⟨M, Hp.le_refl M, S.pick [4, 5] (by decide)⟩, ?_⟩)
        exact hq694 _ _ ⟨t719.Leaf, t719.Keys, t719.Kids, t719.Rows, A721, c722, A724, c725, A727, c728, b458, H, ⟨rfl, rfl, rfl, rfl, rfl, rfl, rfl, rfl, rfl, rfl, trivial⟩, E, S.pick [3, 2, 1, 0, 4, 5] (by decide)⟩
      · refine ⟨_, rfl, ?_⟩
        refine W_alloc S #[.bool false, .slice none 0 0, .slice none 0 0, .slice none 0 0] ty26 rfl rfl ?_
        intro b731 w732 E' S
        replace E := E.trans E'
        clear E'
        refine Wl_nil (on_n ⟨⟨M, Hp.le_refl M, S.pick [2, 3] (by decide)⟩, ?_⟩)
        exact hq695 _ _ ⟨b731, b458, H, ⟨rfl, rfl, rfl, rfl, rfl, rfl, rfl, rfl, rfl, rfl, rfl, trivial⟩, E, S.pick [1, 0, 2, 3] (by decide)⟩
    intro hq692
    refine Wa_join (fun ρ w' => ∃ (b441 : Nat), (Option.bind (ferrymanlaw13_own k a0) (fun t610 => some (t610.Leaf, t610.Keys, t610.Kids, t610.Rows))) = some o688 ∧ Agree ρ [(2, .string (bs a2)), (3, .int .i64 a3), (4, .int .i64 a4), (5, .int .u8 a5), (6, .bool a6), (7, .pointer (some ⟨b1, 0, none⟩)), (8, .pointer (some ⟨b4, 0, none⟩)), (15, .pointer (some ⟨b441, 0, none⟩)), (37, .agg #[.bool a0.Leaf, .slice A0_0 a0.Keys.length c0_0, .slice A0_1 a0.Kids.length c0_1, .slice A0_2 a0.Rows.length c0_2]), (39, .agg #[.bool a0.Leaf, .slice A0_0 a0.Keys.length c0_0, .slice A0_1 a0.Kids.length c0_1, .slice A0_2 a0.Rows.length c0_2])] ∧ Ext w w' ∧ St w' M F [Blk b441 (.cells #[.bool false, .slice none 0 0, .slice none 0 0, .slice none 0 0] 26 (0, 0)), Blk b4 (.cells #[.bool a1.Leaf, .slice A1_0 a1.Keys.length c1_0, .slice A1_1 a1.Kids.length c1_1, .slice A1_2 a1.Rows.length c1_2] 26 (0, 0)), Blk b1 (.cells #[.bool a0.Leaf, .slice A0_0 a0.Keys.length c0_0, .slice A0_1 a0.Kids.length c0_1, .slice A0_2 a0.Rows.length c0_2] 26 (0, 0))]) 4 (Ls 7 [0, 2, 3]) ?_ ?_
    · clear o688h
      rintro ρ w734 ⟨b441, H, hρ, E, S⟩
      rw [agree_eta hρ]
      clear hρ
      refine Wa_oneOf (rs := [1, 4]) (by kernel_rfl) (by decide) ?_
      simp only [List.forall_mem_cons, List.not_mem_nil, false_implies, implies_true, and_true]
      refine ⟨?_, ?_⟩
      · refine ⟨_, rfl, ?_⟩
        obtain ⟨t735, ht736, H⟩ := bindS H
        refine W_callF fn23 (ferrymanlaw13_own.con k M A0_0 c0_0 A0_1 c0_1 A0_2 c0_2 a0 t735 hr0_0 hr0_1 hr0_2 ht736) S rfl rfl (by rintro _ _ _ ⟨_, _, _, _, _, _, _, rfl⟩; exact (flat_cons (flat_row (fun _ _ _ _ h => h)) (flat_cons (flat_row (fun _ _ _ _ h => h)) (flat_cons (flat_row (fun _ _ _ _ h => h)) flat_nil)))) ?_
        rintro _ w746 _ Γ' E' S ⟨A737, c738, A740, c741, A743, c744, rfl, rfl⟩
        replace E := E.trans E'
        clear E'
        refine Wl_nil (on_n ⟨⟨M, Hp.le_refl M, S.pick [4, 5] (by decide)⟩, ?_⟩)
        exact hq693 _ _ ⟨t735.Leaf, t735.Keys, t735.Kids, t735.Rows, A737, c738, A740, c741, A743, c744, b441, H, ⟨rfl, rfl, rfl, rfl, rfl, rfl, rfl, rfl, rfl, rfl, trivial⟩, E, S.pick [3, 2, 1, 0, 4, 5] (by decide)⟩
      · refine ⟨_, rfl, ?_⟩
        refine W_alloc S #[.bool false, .slice none 0 0, .slice none 0 0, .slice none 0 0] ty39 rfl rfl ?_
        intro b747 w748 E' S
        replace E := E.trans E'
        clear E'
        refine Wl_nil (on_n ⟨⟨M, Hp.le_refl M, S.pick [2, 3] (by decide)⟩, ?_⟩)
        exact hq695 _ _ ⟨b441, b747, H, ⟨rfl, rfl, rfl, rfl, rfl, rfl, rfl, rfl, rfl, rfl, rfl, trivial⟩, E, S.pick [0, 1, 2, 3] (by decide)⟩
    intro hq691
    refine Wa_join (fun ρ w' => ∃ (x422 : Bool) (x423 : List Str) (x427 : List Int) (x431 : List Int) (A424 : Option Addr) (c425 : Nat) (A428 : Option Addr) (c429 : Nat) (A432 : Option Addr) (c433 : Nat), some (x422, x423, x427, x431) = some o688 ∧ Agree ρ [(2, .string (bs a2)), (3, .int .i64 a3), (4, .int .i64 a4), (5, .int .u8 a5), (6, .bool a6), (7, .pointer (some ⟨b1, 0, none⟩)), (8, .pointer (some ⟨b4, 0, none⟩)), (38, .agg #[.bool x422, .slice A424 x423.length c425, .slice A428 x427.length c429, .slice A432 x431.length c433]), (39, .agg #[.bool a0.Leaf, .slice A0_0 a0.Keys.length c0_0, .slice A0_1 a0.Kids.length c0_1, .slice A0_2 a0.Rows.length c0_2])] ∧ Ext w w' ∧ St w' M F [Row (rInt .u64) 41 (.slice A432 x431.length c433) x431, Row (rInt .i64) 3 (.slice A428 x427.length c429) x427, Row rStr 9 (.slice A424 x423.length c425) x423, Blk b4 (.cells #[.bool a1.Leaf, .slice A1_0 a1.Keys.length c1_0, .slice A1_1 a1.Kids.length c1_1, .slice A1_2 a1.Rows.length c1_2] 26 (0, 0)), Blk b1 (.cells #[.bool a0.Leaf, .slice A0_0 a0.Keys.length c0_0, .slice A0_1 a0.Kids.length c0_1, .slice A0_2 a0.Rows.length c0_2] 26 (0, 0))]) 4 (Ls 7 [0, 1, 2]) ?_ ?_
    · clear o688h
      rintro ρ w750 ⟨x422, x423, x427, x431, A424, c425, A428, c429, A432, c433, H, hρ, E, S⟩
      rw [agree_eta hρ]
      clear hρ
      refine Wa_oneOf (rs := [3, 4]) (by kernel_rfl) (by decide) ?_
      simp only [List.forall_mem_cons, List.not_mem_nil, false_implies, implies_true, and_true]
      refine ⟨?_, ?_⟩
      · refine ⟨_, rfl, ?_⟩
        refine W_alloc S #[.bool false, .slice none 0 0, .slice none 0 0, .slice none 0 0] ty26 rfl rfl ?_
        intro b751 w752 E' S
        replace E := E.trans E'
        clear E'
        refine Wl_nil (on_n ⟨⟨M, Hp.le_refl M, S.pick [4, 5] (by decide)⟩, ?_⟩)
        exact hq693 _ _ ⟨x422, x423, x427, x431, A424, c425, A428, c429, A432, c433, b751, H, ⟨rfl, rfl, rfl, rfl, rfl, rfl, rfl, rfl, rfl, rfl, trivial⟩, E, S.pick [0, 1, 2, 3, 4, 5] (by decide)⟩
      · refine ⟨_, rfl, ?_⟩
        refine W_alloc S #[.bool false, .slice none 0 0, .slice none 0 0, .slice none 0 0] ty39 rfl rfl ?_
        intro b754 w755 E' S
        replace E := E.trans E'
        clear E'
        refine Wl_nil (on_n ⟨⟨M, Hp.le_refl M, S.pick [4, 5] (by decide)⟩, ?_⟩)
        exact hq694 _ _ ⟨x422, x423, x427, x431, A424, c425, A428, c429, A432, c433, b754, H, ⟨rfl, rfl, rfl, rfl, rfl, rfl, rfl, rfl, rfl, rfl, trivial⟩, E, S.pick [0, 1, 2, 3, 4, 5] (by decide)⟩
    intro hq690
    have H := o688h
    refine Wa_oneOf (rs := [1, 3, 4]) (by kernel_rfl) (by decide) ?_
    simp only [List.forall_mem_cons, List.not_mem_nil, false_implies, implies_true, and_true]
    refine ⟨?_, ?_, ?_⟩
    · refine ⟨_, rfl, ?_⟩
      obtain ⟨t757, ht758, H⟩ := bindS H
      refine W_callF fn23 (ferrymanlaw13_own.con k M A0_0 c0_0 A0_1 c0_1 A0_2 c0_2 a0 t757 hr0_0 hr0_1 hr0_2 ht758) S rfl rfl (by rintro _ _ _ ⟨_, _, _, _, _, _, _, rfl⟩; exact (flat_cons (flat_row (fun _ _ _ _ h => h)) (flat_cons (flat_row (fun _ _ _ _ h => h)) (flat_cons (flat_row (fun _ _ _ _ h => h)) flat_nil)))) ?_
      rintro _ w768 _ Γ' E' S ⟨A759, c760, A762, c763, A765, c766, rfl, rfl⟩
      replace E := E.trans E'
      clear E'
      refine Wl_nil (on_n ⟨⟨M, Hp.le_refl M, S.pick [3, 4] (by decide)⟩, ?_⟩)
      exact hq690 _ _ ⟨t757.Leaf, t757.Keys, t757.Kids, t757.Rows, A759, c760, A762, c763, A765, c766, H, ⟨rfl, rfl, rfl, rfl, rfl, rfl, rfl, rfl, rfl, trivial⟩, E, S.pick [2, 1, 0, 3, 4] (by decide)⟩
    · refine ⟨_, rfl, ?_⟩
      refine W_alloc S #[.bool false, .slice none 0 0, .slice none 0 0, .slice none 0 0] ty26 rfl rfl ?_
      intro b769 w770 E' S
      replace E := E.trans E'
      clear E'
      refine Wl_nil (on_n ⟨⟨M, Hp.le_refl M, S.pick [1, 2] (by decide)⟩, ?_⟩)
      exact hq691 _ _ ⟨b769, H, ⟨rfl, rfl, rfl, rfl, rfl, rfl, rfl, rfl, rfl, rfl, trivial⟩, E, S.pick [0, 1, 2] (by decide)⟩
    · refine ⟨_, rfl, ?_⟩
      refine W_alloc S #[.bool false, .slice none 0 0, .slice none 0 0, .slice none 0 0] ty39 rfl rfl ?_
      intro b772 w773 E' S
      replace E := E.trans E'
      clear E'
      refine Wl_nil (on_n ⟨⟨M, Hp.le_refl M, S.pick [1, 2] (by decide)⟩, ?_⟩)
      exact hq692 _ _ ⟨b772, H, ⟨rfl, rfl, rfl, rfl, rfl, rfl, rfl, rfl, rfl, rfl, trivial⟩, E, S.pick [0, 1, 2] (by decide)⟩
  clear o688h
  rintro ρ w775 ⟨x531, x532, x536, x540, A533, c534, A537, c538, A541, c542, b527, b529, rfl, hρ, E, S⟩
  rw [agree_eta hρ]
  clear hρ
  have H := o688H
  clear o688H
  refine Wa_solo (i := 5) rfl (by kernel_rfl) ?_
  refine W_store S 1 rfl ty26 rfl rfl [.bool x531, .slice A533 x532.length c534, .slice A537 x536.length c538, .slice A541 x540.length c542] rfl rfl rfl #[.bool x531, .slice A533 x532.length c534, .slice A537 x536.length c538, .slice A541 x540.length c542] rfl rfl ?_
  intro w776 E' S
  replace E := E.trans E'
  clear E'
  refine Wl_nil (on_n ⟨⟨M, Hp.le_refl M, S.pick [5, 6] (by decide)⟩, ?_⟩)
  refine Wa_solo (i := 6) rfl (by kernel_rfl) ?_
  refine W_store S 0 rfl ty39 rfl rfl [.bool (a0.Leaf), .slice A0_0 (a0.Keys).length c0_0, .slice A0_1 (a0.Kids).length c0_1, .slice A0_2 (a0.Rows).length c0_2] rfl rfl rfl #[.bool (a0.Leaf), .slice A0_0 (a0.Keys).length c0_0, .slice A0_1 (a0.Kids).length c0_1, .slice A0_2 (a0.Rows).length c0_2] rfl rfl ?_
  intro w777 E' S
  replace E := E.trans E'
  clear E'
  refine Wl_nil (on_n ⟨⟨M, Hp.le_refl M, S.pick [5, 6] (by decide)⟩, ?_⟩)
  refine Wa_done (by kernel_rfl) ?_
  refine tn ?_
  refine Wp_seq ?_
  refine Wp_region_lit ?_
  refine W_v (.agg #[.bool x531, .slice A533 x532.length c534, .slice A537 x536.length c538, .slice A541 x540.length c542]) (x_loadA (S.blk 1 rfl) ty26 rfl (sub_of_extract rfl) rfl rfl) rfl ?_
  refine W_v (.string (bs a2)) (x_move rfl) rfl ?_
  replace S : St w777 M F [Row rStr 9 (.slice A533 x532.length c534) x532, Row (rInt .i64) 3 (.slice A537 x536.length c538) x536, Row (rInt .u64) 41 (.slice A541 x540.length c542) x540, Blk b529 (.cells #[.bool (a0.Leaf), .slice A0_0 (a0.Keys).length c0_0, .slice A0_1 (a0.Kids).length c0_1, .slice A0_2 (a0.Rows).length c0_2] 39 (0, 0)), Blk b527 (.cells #[.bool x531, .slice A533 x532.length c534, .slice A537 x536.length c538, .slice A541 x540.length c542] 26 (0, 0)), Blk b4 (.cells #[.bool a1.Leaf, .slice A1_0 a1.Keys.length c1_0, .slice A1_1 a1.Kids.length c1_1, .slice A1_2 a1.Rows.length c1_2] 26 (0, 0)), Blk b1 (.cells #[.bool a0.Leaf, .slice A0_0 a0.Keys.length c0_0, .slice A0_1 a0.Kids.length c0_1, .slice A0_2 a0.Rows.length c0_2] 26 (0, 0))] := S.pick [4, 3, 2, 0, 1, 5, 6] (by decide)
  obtain ⟨t778, ht779, H⟩ := bindS H
  refine W_callN 3 fn12 (fun h9 hs9 hd9 => fork_Place.con k _ A533 c534 A537 c538 A541 c542 (⟨x531, x532, x536, x540⟩ : fork_Node) a2 t778 (Sats.row hs9 hd9 0 rfl) (Sats.row hs9 hd9 1 rfl) (Sats.row hs9 hd9 2 rfl) ht779) S rfl rfl (by rintro _ _ _ ⟨_, rfl⟩; exact flat_nil) ?_
  rintro _ w780 _ Γ' E' S ⟨rfl, rfl⟩
  replace E := E.trans E'
  clear E'
  refine W_v (.tuple #[.int .i64 t778.1, .bool t778.2]) (x_move rfl) rfl ?_
  refine W_v (.int .i64 t778.1) (x_extract rfl rfl) rfl ?_
  refine W_v (.bool t778.2) (x_extract rfl rfl) rfl ?_
  refine W_v (.int .i64 t778.1) (x_assign rfl) rfl ?_
  refine W_v (.bool t778.2) (x_assign rfl) rfl ?_
  refine Wl_nil ?_
  refine tn ?_
  refine Wp_seq ?_
  refine Wp_region_lit ?_
  refine W_v (.agg #[.bool (a0.Leaf), .slice A0_0 (a0.Keys).length c0_0, .slice A0_1 (a0.Kids).length c0_1, .slice A0_2 (a0.Rows).length c0_2]) (x_loadA (S.blk 3 rfl) ty39 rfl (sub_of_extract rfl) rfl rfl) rfl ?_
  refine W_v (.string (bs a2)) (x_move rfl) rfl ?_
  obtain ⟨t781, ht782, H⟩ := bindS H
  refine W_callF fn24 (ferrymanref13_Place.con k M A0_0 c0_0 A0_1 c0_1 A0_2 c0_2 (⟨(a0.Leaf), (a0.Keys), (a0.Kids), (a0.Rows)⟩ : ferrymanref13_Node) a2 t781 hr0_0 hr0_1 hr0_2 ht782) S rfl rfl (by rintro _ _ _ ⟨_, rfl⟩; exact flat_nil) ?_
  rintro _ w783 _ Γ' E' S ⟨rfl, rfl⟩
  replace E := E.trans E'
  clear E'
  refine W_v (.tuple #[.int .i64 t781.1, .bool t781.2]) (x_move rfl) rfl ?_
  refine W_v (.int .i64 t781.1) (x_extract rfl rfl) rfl ?_
  refine W_v (.bool t781.2) (x_extract rfl rfl) rfl ?_
  refine W_v (.int .i64 t781.1) (x_assign rfl) rfl ?_
  refine W_v (.bool t781.2) (x_assign rfl) rfl ?_
  refine Wl_nil ?_
  refine tn ?_
  refine Wp_seq ?_
  refine Wp_region_lit ?_
  refine W_v (.agg #[.bool x531, .slice A533 x532.length c534, .slice A537 x536.length c538, .slice A541 x540.length c542]) (x_loadA (S.blk 4 rfl) ty26 rfl (sub_of_extract rfl) rfl rfl) rfl ?_
  refine W_v (.int .i64 a3) (x_move rfl) rfl ?_
  obtain ⟨t784, ht785, H⟩ := bindS H
  refine W_callN 3 fn14 (fun h9 hs9 hd9 => fork_Fence.con k _ A533 c534 A537 c538 A541 c542 (⟨x531, x532, x536, x540⟩ : fork_Node) a3 t784 (Sats.row hs9 hd9 0 rfl) (Sats.row hs9 hd9 1 rfl) (Sats.row hs9 hd9 2 rfl) ht785) S rfl rfl (by rintro _ _ _ ⟨_, rfl⟩; exact flat_nil) ?_
  rintro _ w786 _ Γ' E' S ⟨rfl, rfl⟩
  replace E := E.trans E'
  clear E'
  refine W_v (.tuple #[.string (bs t784.1), .bool t784.2]) (x_move rfl) rfl ?_
  refine W_v (.string (bs t784.1)) (x_extract rfl rfl) rfl ?_
  refine W_v (.bool t784.2) (x_extract rfl rfl) rfl ?_
  refine W_v (.string (bs t784.1)) (x_assign rfl) rfl ?_
  refine W_v (.bool t784.2) (x_assign rfl) rfl ?_
  refine Wl_nil ?_
  refine tn ?_
  refine Wp_seq ?_
  refine Wp_region_lit ?_
  refine W_v (.agg #[.bool (a0.Leaf), .slice A0_0 (a0.Keys).length c0_0, .slice A0_1 (a0.Kids).length c0_1, .slice A0_2 (a0.Rows).length c0_2]) (x_loadA (S.blk 3 rfl) ty39 rfl (sub_of_extract rfl) rfl rfl) rfl ?_
  refine W_v (.int .i64 a3) (x_move rfl) rfl ?_
  obtain ⟨t787, ht788, H⟩ := bindS H
  refine W_callF fn25 (ferrymanref13_Fence.con k M A0_0 c0_0 A0_1 c0_1 A0_2 c0_2 (⟨(a0.Leaf), (a0.Keys), (a0.Kids), (a0.Rows)⟩ : ferrymanref13_Node) a3 t787 hr0_0 hr0_1 hr0_2 ht788) S rfl rfl (by rintro _ _ _ ⟨_, rfl⟩; exact flat_nil) ?_
  rintro _ w789 _ Γ' E' S ⟨rfl, rfl⟩
  replace E := E.trans E'
  clear E'
  refine W_v (.tuple #[.string (bs t787.1), .bool t787.2]) (x_move rfl) rfl ?_
  refine W_v (.string (bs t787.1)) (x_extract rfl rfl) rfl ?_
  refine W_v (.bool t787.2) (x_extract rfl rfl) rfl ?_
  refine W_v (.string (bs t787.1)) (x_assign rfl) rfl ?_
  refine W_v (.bool t787.2) (x_assign rfl) rfl ?_
  refine Wl_nil ?_
  refine tn ?_
  refine Wp_seq ?_
  refine Wp_seq ?_
  refine Wp_region_any (S := fun w' => ∃ Mx, M.le Mx ∧ St w' Mx F [Row rStr 9 (.slice A533 x532.length c534) x532, Row (rInt .i64) 3 (.slice A537 x536.length c538) x536, Row (rInt .u64) 41 (.slice A541 x540.length c542) x540, Blk b529 (.cells #[.bool (a0.Leaf), .slice A0_0 (a0.Keys).length c0_0, .slice A0_1 (a0.Kids).length c0_1, .slice A0_2 (a0.Rows).length c0_2] 39 (0, 0)), Blk b527 (.cells #[.bool x531, .slice A533 x532.length c534, .slice A537 x536.length c538, .slice A541 x540.length c542] 26 (0, 0)), Blk b4 (.cells #[.bool a1.Leaf, .slice A1_0 a1.Keys.length c1_0, .slice A1_1 a1.Kids.length c1_1, .slice A1_2 a1.Rows.length c1_2] 26 (0, 0)), Blk b1 (.cells #[.bool a0.Leaf, .slice A0_0 a0.Keys.length c0_0, .slice A0_1 a0.Kids.length c0_1, .slice A0_2 a0.Rows.length c0_2] 26 (0, 0))]) mixed ?_
  intro w825 hw826 E'
  replace S := S.heap hw826
  replace E := E.trans E'
  clear E'
  refine Wa_take (i := 0) rfl (by kernel_rfl) rfl rfl (.int .i64 t778.1) rfl (fun w' h' => x_move rfl) (⟨M, Hp.le_refl M, S.pick [0, 1, 2, 3, 4, 5, 6] (by decide)⟩) ?_
  refine Wa_take (i := 1) rfl (by kernel_rfl) rfl rfl (.int .i64 t781.1) rfl (fun w' h' => x_move rfl) (⟨M, Hp.le_refl M, S.pick [0, 1, 2, 3, 4, 5, 6] (by decide)⟩) ?_
  refine Wa_take (i := 2) rfl (by kernel_rfl) rfl rfl (.bool (t778.1 != t781.1)) rfl (fun w' h' => x_ibin rfl rfl rfl rfl) (⟨M, Hp.le_refl M, S.pick [0, 1, 2, 3, 4, 5, 6] (by decide)⟩) ?_
  refine Wa_take (i := 3) rfl (by kernel_rfl) rfl rfl (.bool (t778.1 != t781.1)) rfl (fun w' h' => x_move rfl) (⟨M, Hp.le_refl M, S.pick [0, 1, 2, 3, 4, 5, 6] (by decide)⟩) ?_
  refine Wa_join (fun ρ w' => Agree ρ [(2, .string (bs a2)), (4, .int .i64 a4), (5, .int .u8 a5), (6, .bool a6), (7, .pointer (some ⟨b1, 0, none⟩)), (8, .pointer (some ⟨b4, 0, none⟩)), (15, .pointer (some ⟨b527, 0, none⟩)), (16, .pointer (some ⟨b529, 0, none⟩)), (21, .string (bs t784.1)), (22, .bool t784.2), (23, .string (bs t787.1)), (24, .bool t787.2), (71, .bool ((t778.1 != t781.1) || (!(t778.2 == t781.2))))] ∧ w825 = w') 26 (Ls 34 [0, 1, 2, 3, 4, 5, 6, 7]) ?_ ?_
  rotate_left
  · intro hrest
    rcases boolCases (t778.1 != t781.1) with hb827 | hb827
    · skip
      refine Wa_takeY (i := 4) rfl (by kernel_rfl) rfl rfl (.bool t778.2) rfl (congrArg some hb827) (fun w' h' => x_move rfl) (⟨M, Hp.le_refl M, S.pick [0, 1, 2, 3, 4, 5, 6] (by decide)⟩) ?_
      refine Wa_takeY (i := 5) rfl (by kernel_rfl) rfl rfl (.bool t781.2) rfl (congrArg some hb827) (fun w' h' => x_move rfl) (⟨M, Hp.le_refl M, S.pick [0, 1, 2, 3, 4, 5, 6] (by decide)⟩) ?_
      refine Wa_takeY (i := 6) rfl (by kernel_rfl) rfl rfl (.bool (!(t778.2 == t781.2))) rfl (congrArg some hb827) (fun w' h' => x_bne Try.underlying4 rfl rfl) (⟨M, Hp.le_refl M, S.pick [0, 1, 2, 3, 4, 5, 6] (by decide)⟩) ?_
      refine Wa_take (i := 7) rfl (by kernel_rfl) rfl rfl (.bool (!(t778.2 == t781.2))) rfl (fun w' h' => x_pick (k := false) (congrArg Value.bool hb827) rfl) (⟨M, Hp.le_refl M, S.pick [0, 1, 2, 3, 4, 5, 6] (by decide)⟩) ?_
      exact hrest _ _ ⟨⟨rfl, rfl, rfl, rfl, rfl, rfl, rfl, rfl, rfl, rfl, rfl, rfl, (by first | rfl | (rw [hb827]; rfl) | (simp only [hb827]; rfl)), trivial⟩, rfl⟩
    · skip
      refine Wa_takeN (i := 4) rfl (by kernel_rfl) rfl rfl rfl (skF hb827) (⟨M, Hp.le_refl M, S.pick [0, 1, 2, 3, 4, 5, 6] (by decide)⟩) ?_
      refine Wa_takeN (i := 5) rfl (by kernel_rfl) rfl rfl rfl (skF hb827) (⟨M, Hp.le_refl M, S.pick [0, 1, 2, 3, 4, 5, 6] (by decide)⟩) ?_
      refine Wa_takeN (i := 6) rfl (by kernel_rfl) rfl rfl rfl (skF hb827) (⟨M, Hp.le_refl M, S.pick [0, 1, 2, 3, 4, 5, 6] (by decide)⟩) ?_
      refine Wa_take (i := 7) rfl (by kernel_rfl) rfl rfl (.bool true) rfl (fun w' h' => x_pick (k := true) (congrArg Value.bool hb827) rfl) (⟨M, Hp.le_refl M, S.pick [0, 1, 2, 3, 4, 5, 6] (by decide)⟩) ?_
      exact hrest _ _ ⟨⟨rfl, rfl, rfl, rfl, rfl, rfl, rfl, rfl, rfl, rfl, rfl, rfl, (by first | rfl | (rw [hb827]; rfl) | (simp only [hb827]; rfl)), trivial⟩, rfl⟩
  rintro ρ _ ⟨hρ, rfl⟩
  rw [agree_eta hρ]
  clear hρ
  refine Wa_take (i := 8) rfl (by kernel_rfl) rfl rfl (.bool ((t778.1 != t781.1) || (!(t778.2 == t781.2)))) rfl (fun w' h' => x_move rfl) (⟨M, Hp.le_refl M, S.pick [0, 1, 2, 3, 4, 5, 6] (by decide)⟩) ?_
  refine Wa_join (fun ρ w' => Agree ρ [(2, .string (bs a2)), (4, .int .i64 a4), (5, .int .u8 a5), (6, .bool a6), (7, .pointer (some ⟨b1, 0, none⟩)), (8, .pointer (some ⟨b4, 0, none⟩)), (15, .pointer (some ⟨b527, 0, none⟩)), (16, .pointer (some ⟨b529, 0, none⟩)), (22, .bool t784.2), (24, .bool t787.2), (76, .bool (((t778.1 != t781.1) || (!(t778.2 == t781.2))) || (sbin .neq t784.1 t787.1)))] ∧ w825 = w') 21 (Ls 34 [0, 1, 2, 3, 4, 5, 6, 7, 8, 9, 10, 11, 12]) ?_ ?_
  rotate_left
  · intro hrest
    rcases boolCases ((t778.1 != t781.1) || (!(t778.2 == t781.2))) with hb828 | hb828
    · skip
      refine Wa_takeY (i := 9) rfl (by kernel_rfl) rfl rfl (.string (bs t784.1)) rfl (congrArg some hb828) (fun w' h' => x_move rfl) (⟨M, Hp.le_refl M, S.pick [0, 1, 2, 3, 4, 5, 6] (by decide)⟩) ?_
      refine Wa_takeY (i := 10) rfl (by kernel_rfl) rfl rfl (.string (bs t787.1)) rfl (congrArg some hb828) (fun w' h' => x_move rfl) (⟨M, Hp.le_refl M, S.pick [0, 1, 2, 3, 4, 5, 6] (by decide)⟩) ?_
      refine Wa_takeY (i := 11) rfl (by kernel_rfl) rfl rfl (.bool (sbin .neq t784.1 t787.1)) rfl (congrArg some hb828) (fun w' h' => x_sbin rfl rfl rfl) (⟨M, Hp.le_refl M, S.pick [0, 1, 2, 3, 4, 5, 6] (by decide)⟩) ?_
      refine Wa_take (i := 12) rfl (by kernel_rfl) rfl rfl (.bool (sbin .neq t784.1 t787.1)) rfl (fun w' h' => x_pick (k := false) (congrArg Value.bool hb828) rfl) (⟨M, Hp.le_refl M, S.pick [0, 1, 2, 3, 4, 5, 6] (by decide)⟩) ?_
      exact hrest _ _ ⟨⟨rfl, rfl, rfl, rfl, rfl, rfl, rfl, rfl, rfl, rfl, (by first | rfl | (rw [hb828]; rfl) | (simp only [hb828]; rfl)), trivial⟩, rfl⟩
    · skip
      refine Wa_takeN (i := 9) rfl (by kernel_rfl) rfl rfl rfl (skF hb828) (⟨M, Hp.le_refl M, S.pick [0, 1, 2, 3, 4, 5, 6] (by decide)⟩) ?_
      refine Wa_takeN (i := 10) rfl (by kernel_rfl) rfl rfl rfl (skF hb828) (⟨M, Hp.le_refl M, S.pick [0, 1, 2, 3, 4, 5, 6] (by decide)⟩) ?_
      refine Wa_takeN (i := 11) rfl (by kernel_rfl) rfl rfl rfl (skF hb828) (⟨M, Hp.le_refl M, S.pick [0, 1, 2, 3, 4, 5, 6] (by decide)⟩) ?_
      refine Wa_take (i := 12) rfl (by kernel_rfl) rfl rfl (.bool true) rfl (fun w' h' => x_pick (k := true) (congrArg Value.bool hb828) rfl) (⟨M, Hp.le_refl M, S.pick [0, 1, 2, 3, 4, 5, 6] (by decide)⟩) ?_
      exact hrest _ _ ⟨⟨rfl, rfl, rfl, rfl, rfl, rfl, rfl, rfl, rfl, rfl, (by first | rfl | (rw [hb828]; rfl) | (simp only [hb828]; rfl)), trivial⟩, rfl⟩
  rintro ρ _ ⟨hρ, rfl⟩
  rw [agree_eta hρ]
  clear hρ
  refine Wa_take (i := 13) rfl (by kernel_rfl) rfl rfl (.bool (((t778.1 != t781.1) || (!(t778.2 == t781.2))) || (sbin .neq t784.1 t787.1))) rfl (fun w' h' => x_move rfl) (⟨M, Hp.le_refl M, S.pick [0, 1, 2, 3, 4, 5, 6] (by decide)⟩) ?_
  refine Wa_join (fun ρ w' => Agree ρ [(2, .string (bs a2)), (4, .int .i64 a4), (5, .int .u8 a5), (6, .bool a6), (7, .pointer (some ⟨b1, 0, none⟩)), (8, .pointer (some ⟨b4, 0, none⟩)), (15, .pointer (some ⟨b527, 0, none⟩)), (16, .pointer (some ⟨b529, 0, none⟩)), (81, .bool ((((t778.1 != t781.1) || (!(t778.2 == t781.2))) || (sbin .neq t784.1 t787.1)) || (!(t784.2 == t787.2))))] ∧ w825 = w') 16 (Ls 34 [0, 1, 2, 3, 4, 5, 6, 7, 8, 9, 10, 11, 12, 13, 14, 15, 16, 17]) ?_ ?_
  rotate_left
  · intro hrest
    rcases boolCases (((t778.1 != t781.1) || (!(t778.2 == t781.2))) || (sbin .neq t784.1 t787.1)) with hb829 | hb829
    · skip
      refine Wa_takeY (i := 14) rfl (by kernel_rfl) rfl rfl (.bool t784.2) rfl (congrArg some hb829) (fun w' h' => x_move rfl) (⟨M, Hp.le_refl M, S.pick [0, 1, 2, 3, 4, 5, 6] (by decide)⟩) ?_
      refine Wa_takeY (i := 15) rfl (by kernel_rfl) rfl rfl (.bool t787.2) rfl (congrArg some hb829) (fun w' h' => x_move rfl) (⟨M, Hp.le_refl M, S.pick [0, 1, 2, 3, 4, 5, 6] (by decide)⟩) ?_
      refine Wa_takeY (i := 16) rfl (by kernel_rfl) rfl rfl (.bool (!(t784.2 == t787.2))) rfl (congrArg some hb829) (fun w' h' => x_bne Try.underlying4 rfl rfl) (⟨M, Hp.le_refl M, S.pick [0, 1, 2, 3, 4, 5, 6] (by decide)⟩) ?_
      refine Wa_take (i := 17) rfl (by kernel_rfl) rfl rfl (.bool (!(t784.2 == t787.2))) rfl (fun w' h' => x_pick (k := false) (congrArg Value.bool hb829) rfl) (⟨M, Hp.le_refl M, S.pick [0, 1, 2, 3, 4, 5, 6] (by decide)⟩) ?_
      exact hrest _ _ ⟨⟨rfl, rfl, rfl, rfl, rfl, rfl, rfl, rfl, (by first | rfl | (rw [hb829]; rfl) | (simp only [hb829]; rfl)), trivial⟩, rfl⟩
    · skip
      refine Wa_takeN (i := 14) rfl (by kernel_rfl) rfl rfl rfl (skF hb829) (⟨M, Hp.le_refl M, S.pick [0, 1, 2, 3, 4, 5, 6] (by decide)⟩) ?_
      refine Wa_takeN (i := 15) rfl (by kernel_rfl) rfl rfl rfl (skF hb829) (⟨M, Hp.le_refl M, S.pick [0, 1, 2, 3, 4, 5, 6] (by decide)⟩) ?_
      refine Wa_takeN (i := 16) rfl (by kernel_rfl) rfl rfl rfl (skF hb829) (⟨M, Hp.le_refl M, S.pick [0, 1, 2, 3, 4, 5, 6] (by decide)⟩) ?_
      refine Wa_take (i := 17) rfl (by kernel_rfl) rfl rfl (.bool true) rfl (fun w' h' => x_pick (k := true) (congrArg Value.bool hb829) rfl) (⟨M, Hp.le_refl M, S.pick [0, 1, 2, 3, 4, 5, 6] (by decide)⟩) ?_
      exact hrest _ _ ⟨⟨rfl, rfl, rfl, rfl, rfl, rfl, rfl, rfl, (by first | rfl | (rw [hb829]; rfl) | (simp only [hb829]; rfl)), trivial⟩, rfl⟩
  rintro ρ _ ⟨hρ, rfl⟩
  rw [agree_eta hρ]
  clear hρ
  refine Wa_take (i := 18) rfl (by kernel_rfl) rfl rfl (.bool ((((t778.1 != t781.1) || (!(t778.2 == t781.2))) || (sbin .neq t784.1 t787.1)) || (!(t784.2 == t787.2)))) rfl (fun w' h' => x_move rfl) (⟨M, Hp.le_refl M, S.pick [0, 1, 2, 3, 4, 5, 6] (by decide)⟩) ?_
  obtain ⟨o838, o838h, o838H⟩ := bindS H
  clear H
  refine Wa_join (fun ρ w' => ∃ (x837 : Bool), (x837) = o838 ∧ Agree ρ [(2, .string (bs a2)), (4, .int .i64 a4), (5, .int .u8 a5), (6, .bool a6), (7, .pointer (some ⟨b1, 0, none⟩)), (8, .pointer (some ⟨b4, 0, none⟩)), (15, .pointer (some ⟨b527, 0, none⟩)), (16, .pointer (some ⟨b529, 0, none⟩)), (88, .bool x837)] ∧ Ext w w' ∧ St w' M F [Row rStr 9 (.slice A533 x532.length c534) x532, Row (rInt .i64) 3 (.slice A537 x536.length c538) x536, Row (rInt .u64) 41 (.slice A541 x540.length c542) x540, Blk b529 (.cells #[.bool (a0.Leaf), .slice A0_0 (a0.Keys).length c0_0, .slice A0_1 (a0.Kids).length c0_1, .slice A0_2 (a0.Rows).length c0_2] 39 (0, 0)), Blk b527 (.cells #[.bool x531, .slice A533 x532.length c534, .slice A537 x536.length c538, .slice A541 x540.length c542] 26 (0, 0)), Blk b4 (.cells #[.bool a1.Leaf, .slice A1_0 a1.Keys.length c1_0, .slice A1_1 a1.Kids.length c1_1, .slice A1_2 a1.Rows.length c1_2] 26 (0, 0)), Blk b1 (.cells #[.bool a0.Leaf, .slice A0_0 a0.Keys.length c0_0, .slice A0_1 a0.Kids.length c0_1, .slice A0_2 a0.Rows.length c0_2] 26 (0, 0))]) 9 (Ls 34 [0, 1, 2, 3, 4, 5, 6, 7, 8, 9, 10, 11, 12, 13, 14, 15, 16, 17, 18, 19, 20, 21, 22, 23, 24]) ?_ ?_
  rotate_left
  · intro hrest
    have H := o838h
    clear o838h o838H
    rcases iteS H with ⟨hb836, H⟩ | ⟨hb836, H⟩
    · skip
      refine Wa_takeN (i := 19) rfl (by kernel_rfl) rfl rfl rfl (skF hb836) (⟨M, Hp.le_refl M, S.pick [0, 1, 2, 3, 4, 5, 6] (by decide)⟩) ?_
      refine Wa_takeN (i := 20) rfl (by kernel_rfl) rfl rfl rfl (skF hb836) (⟨M, Hp.le_refl M, S.pick [0, 1, 2, 3, 4, 5, 6] (by decide)⟩) ?_
      refine Wa_takeN (i := 21) rfl (by kernel_rfl) rfl rfl rfl (skF hb836) (⟨M, Hp.le_refl M, S.pick [0, 1, 2, 3, 4, 5, 6] (by decide)⟩) ?_
      refine Wa_takeN (i := 22) rfl (by kernel_rfl) rfl rfl rfl (skF hb836) (⟨M, Hp.le_refl M, S.pick [0, 1, 2, 3, 4, 5, 6] (by decide)⟩) ?_
      refine Wa_takeN (i := 23) rfl (by kernel_rfl) rfl rfl rfl (skF hb836) (⟨M, Hp.le_refl M, S.pick [0, 1, 2, 3, 4, 5, 6] (by decide)⟩) ?_
      refine Wa_take (i := 24) rfl (by kernel_rfl) rfl rfl (.bool true) rfl (fun w' h' => x_pick (k := true) (congrArg Value.bool hb836) rfl) (⟨M, Hp.le_refl M, S.pick [0, 1, 2, 3, 4, 5, 6] (by decide)⟩) ?_
      exact hrest _ _ ⟨true, Option.some.inj H, ⟨rfl, rfl, rfl, rfl, rfl, rfl, rfl, rfl, rfl, trivial⟩, E, S.pick [0, 1, 2, 3, 4, 5, 6] (by decide)⟩
    · skip
      refine Wa_takeY (i := 19) rfl (by kernel_rfl) rfl rfl (.agg #[.bool x531, .slice A533 x532.length c534, .slice A537 x536.length c538, .slice A541 x540.length c542]) rfl (congrArg some hb836) (fun w' h' => x_loadA (cls_blk h' 4 rfl) ty26 rfl (sub_of_extract rfl) rfl rfl) (⟨M, Hp.le_refl M, S.pick [0, 1, 2, 3, 4, 5, 6] (by decide)⟩) ?_
      refine Wa_takeY (i := 21) rfl (by kernel_rfl) rfl rfl (.agg #[.bool (a0.Leaf), .slice A0_0 (a0.Keys).length c0_0, .slice A0_1 (a0.Kids).length c0_1, .slice A0_2 (a0.Rows).length c0_2]) rfl (congrArg some hb836) (fun w' h' => x_loadA (cls_blk h' 3 rfl) ty39 rfl (sub_of_extract rfl) rfl rfl) (⟨M, Hp.le_refl M, S.pick [0, 1, 2, 3, 4, 5, 6] (by decide)⟩) ?_
      refine Wa_solo (i := 20) rfl (by kernel_rfl) ?_
      refine W_yes (congrArg some hb836) ?_
      obtain ⟨t839, ht840, H⟩ := bindS H
      refine W_callN 3 fn11 (fun h9 hs9 hd9 => fork_May.con k _ A533 c534 A537 c538 A541 c542 (⟨x531, x532, x536, x540⟩ : fork_Node) t839 (Sats.row hs9 hd9 0 rfl) (Sats.row hs9 hd9 1 rfl) (Sats.row hs9 hd9 2 rfl) ht840) S rfl rfl (by rintro _ _ _ ⟨_, rfl⟩; exact flat_nil) ?_
      rintro _ w841 _ Γ' E' S ⟨rfl, rfl⟩
      replace E := E.trans E'
      clear E'
      refine Wl_nil (on_n ⟨⟨M, Hp.le_refl M, S.pick [0, 1, 2, 3, 4, 5, 6] (by decide)⟩, ?_⟩)
      refine Wa_solo (i := 22) rfl (by kernel_rfl) ?_
      refine W_yes (congrArg some hb836) ?_
      obtain ⟨t842, ht843, H⟩ := bindS H
      refine W_callF fn26 (ferrymanref13_May.con k M A0_0 c0_0 A0_1 c0_1 A0_2 c0_2 (⟨(a0.Leaf), (a0.Keys), (a0.Kids), (a0.Rows)⟩ : ferrymanref13_Node) t842 hr0_0 hr0_1 hr0_2 ht843) S rfl rfl (by rintro _ _ _ ⟨_, rfl⟩; exact flat_nil) ?_
      rintro _ w844 _ Γ' E' S ⟨rfl, rfl⟩
      replace E := E.trans E'
      clear E'
      refine Wl_nil (on_n ⟨⟨M, Hp.le_refl M, S.pick [0, 1, 2, 3, 4, 5, 6] (by decide)⟩, ?_⟩)
      refine Wa_takeY (i := 23) rfl (by kernel_rfl) rfl rfl (.bool (!(t839 == t842))) rfl (congrArg some hb836) (fun w' h' => x_bne Try.underlying4 rfl rfl) (⟨M, Hp.le_refl M, S.pick [0, 1, 2, 3, 4, 5, 6] (by decide)⟩) ?_
      refine Wa_take (i := 24) rfl (by kernel_rfl) rfl rfl (.bool (!(t839 == t842))) rfl (fun w' h' => x_pick (k := false) (congrArg Value.bool hb836) rfl) (⟨M, Hp.le_refl M, S.pick [0, 1, 2, 3, 4, 5, 6] (by decide)⟩) ?_
      exact hrest _ _ ⟨(!(t839 == t842)), Option.some.inj H, ⟨rfl, rfl, rfl, rfl, rfl, rfl, rfl, rfl, rfl, trivial⟩, E, S.pick [0, 1, 2, 3, 4, 5, 6] (by decide)⟩
  clear o838h
  rintro ρ w845 ⟨x837, rfl, hρ, E, S⟩
  rw [agree_eta hρ]
  clear hρ
  have H := o838H
  clear o838H
  refine Wa_take (i := 25) rfl (by kernel_rfl) rfl rfl (.bool x837) rfl (fun w' h' => x_move rfl) (⟨M, Hp.le_refl M, S.pick [0, 1, 2, 3, 4, 5, 6] (by decide)⟩) ?_
  obtain ⟨o854, o854h, o854H⟩ := bindS H
  clear H
  refine Wa_join (fun ρ w' => ∃ (x853 : Bool), (x853) = o854 ∧ Agree ρ [(4, .int .i64 a4), (5, .int .u8 a5), (6, .bool a6), (7, .pointer (some ⟨b1, 0, none⟩)), (8, .pointer (some ⟨b4, 0, none⟩)), (15, .pointer (some ⟨b527, 0, none⟩)), (16, .pointer (some ⟨b529, 0, none⟩)), (97, .bool x853)] ∧ Ext w w' ∧ St w' M F [Row rStr 9 (.slice A533 x532.length c534) x532, Row (rInt .i64) 3 (.slice A537 x536.length c538) x536, Row (rInt .u64) 41 (.slice A541 x540.length c542) x540, Blk b529 (.cells #[.bool (a0.Leaf), .slice A0_0 (a0.Keys).length c0_0, .slice A0_1 (a0.Kids).length c0_1, .slice A0_2 (a0.Rows).length c0_2] 39 (0, 0)), Blk b527 (.cells #[.bool x531, .slice A533 x532.length c534, .slice A537 x536.length c538, .slice A541 x540.length c542] 26 (0, 0)), Blk b4 (.cells #[.bool a1.Leaf, .slice A1_0 a1.Keys.length c1_0, .slice A1_1 a1.Kids.length c1_1, .slice A1_2 a1.Rows.length c1_2] 26 (0, 0)), Blk b1 (.cells #[.bool a0.Leaf, .slice A0_0 a0.Keys.length c0_0, .slice A0_1 a0.Kids.length c0_1, .slice A0_2 a0.Rows.length c0_2] 26 (0, 0))]) 0 (Ls 34 [0, 1, 2, 3, 4, 5, 6, 7, 8, 9, 10, 11, 12, 13, 14, 15, 16, 17, 18, 19, 20, 21, 22, 23, 24, 25, 26, 27, 28, 29, 30, 31, 32, 33]) ?_ ?_
  rotate_left
  · intro hrest
    have H := o854h
    clear o854h o854H
    rcases iteS H with ⟨hb852, H⟩ | ⟨hb852, H⟩
    · skip
      refine Wa_takeN (i := 26) rfl (by kernel_rfl) rfl rfl rfl (skF hb852) (⟨M, Hp.le_refl M, S.pick [0, 1, 2, 3, 4, 5, 6] (by decide)⟩) ?_
      refine Wa_takeN (i := 27) rfl (by kernel_rfl) rfl rfl rfl (skF hb852) (⟨M, Hp.le_refl M, S.pick [0, 1, 2, 3, 4, 5, 6] (by decide)⟩) ?_
      refine Wa_takeN (i := 28) rfl (by kernel_rfl) rfl rfl rfl (skF hb852) (⟨M, Hp.le_refl M, S.pick [0, 1, 2, 3, 4, 5, 6] (by decide)⟩) ?_
      refine Wa_takeN (i := 29) rfl (by kernel_rfl) rfl rfl rfl (skF hb852) (⟨M, Hp.le_refl M, S.pick [0, 1, 2, 3, 4, 5, 6] (by decide)⟩) ?_
      refine Wa_takeN (i := 30) rfl (by kernel_rfl) rfl rfl rfl (skF hb852) (⟨M, Hp.le_refl M, S.pick [0, 1, 2, 3, 4, 5, 6] (by decide)⟩) ?_
      refine Wa_takeN (i := 31) rfl (by kernel_rfl) rfl rfl rfl (skF hb852) (⟨M, Hp.le_refl M, S.pick [0, 1, 2, 3, 4, 5, 6] (by decide)⟩) ?_
      refine Wa_takeN (i := 32) rfl (by kernel_rfl) rfl rfl rfl (skF hb852) (⟨M, Hp.le_refl M, S.pick [0, 1, 2, 3, 4, 5, 6] (by decide)⟩) ?_
      refine Wa_take (i := 33) rfl (by kernel_rfl) rfl rfl (.bool true) rfl (fun w' h' => x_pick (k := true) (congrArg Value.bool hb852) rfl) (⟨M, Hp.le_refl M, S.pick [0, 1, 2, 3, 4, 5, 6] (by decide)⟩) ?_
      exact hrest _ _ ⟨true, Option.some.inj H, ⟨rfl, rfl, rfl, rfl, rfl, rfl, rfl, rfl, trivial⟩, E, S.pick [0, 1, 2, 3, 4, 5, 6] (by decide)⟩
    · skip
      refine Wa_takeY (i := 26) rfl (by kernel_rfl) rfl rfl (.agg #[.bool x531, .slice A533 x532.length c534, .slice A537 x536.length c538, .slice A541 x540.length c542]) rfl (congrArg some hb852) (fun w' h' => x_loadA (cls_blk h' 4 rfl) ty26 rfl (sub_of_extract rfl) rfl rfl) (⟨M, Hp.le_refl M, S.pick [0, 1, 2, 3, 4, 5, 6] (by decide)⟩) ?_
      refine Wa_takeY (i := 27) rfl (by kernel_rfl) rfl rfl (.string (bs a2)) rfl (congrArg some hb852) (fun w' h' => x_move rfl) (⟨M, Hp.le_refl M, S.pick [0, 1, 2, 3, 4, 5, 6] (by decide)⟩) ?_
      refine Wa_takeY (i := 29) rfl (by kernel_rfl) rfl rfl (.agg #[.bool (a0.Leaf), .slice A0_0 (a0.Keys).length c0_0, .slice A0_1 (a0.Kids).length c0_1, .slice A0_2 (a0.Rows).length c0_2]) rfl (congrArg some hb852) (fun w' h' => x_loadA (cls_blk h' 3 rfl) ty39 rfl (sub_of_extract rfl) rfl rfl) (⟨M, Hp.le_refl M, S.pick [0, 1, 2, 3, 4, 5, 6] (by decide)⟩) ?_
      refine Wa_takeY (i := 30) rfl (by kernel_rfl) rfl rfl (.string (bs a2)) rfl (congrArg some hb852) (fun w' h' => x_move rfl) (⟨M, Hp.le_refl M, S.pick [0, 1, 2, 3, 4, 5, 6] (by decide)⟩) ?_
      refine Wa_solo (i := 28) rfl (by kernel_rfl) ?_
      refine W_yes (congrArg some hb852) ?_
      obtain ⟨t855, ht856, H⟩ := bindS H
      refine W_callN 3 fn13 (fun h9 hs9 hd9 => fork_Kid.con k _ A533 c534 A537 c538 A541 c542 (⟨x531, x532, x536, x540⟩ : fork_Node) a2 t855 (Sats.row hs9 hd9 0 rfl) (Sats.row hs9 hd9 1 rfl) (Sats.row hs9 hd9 2 rfl) ht856) S rfl rfl (by rintro _ _ _ ⟨_, rfl⟩; exact flat_nil) ?_
      rintro _ w857 _ Γ' E' S ⟨rfl, rfl⟩
      replace E := E.trans E'
      clear E'
      refine Wl_nil (on_n ⟨⟨M, Hp.le_refl M, S.pick [0, 1, 2, 3, 4, 5, 6] (by decide)⟩, ?_⟩)
      refine Wa_solo (i := 31) rfl (by kernel_rfl) ?_
      refine W_yes (congrArg some hb852) ?_
      obtain ⟨t858, ht859, H⟩ := bindS H
      refine W_callF fn27 (ferrymanref13_Kid.con k M A0_0 c0_0 A0_1 c0_1 A0_2 c0_2 (⟨(a0.Leaf), (a0.Keys), (a0.Kids), (a0.Rows)⟩ : ferrymanref13_Node) a2 t858 hr0_0 hr0_1 hr0_2 ht859) S rfl rfl (by rintro _ _ _ ⟨_, rfl⟩; exact flat_nil) ?_
      rintro _ w860 _ Γ' E' S ⟨rfl, rfl⟩
      replace E := E.trans E'
      clear E'
      refine Wl_nil (on_n ⟨⟨M, Hp.le_refl M, S.pick [0, 1, 2, 3, 4, 5, 6] (by decide)⟩, ?_⟩)
      refine Wa_takeY (i := 32) rfl (by kernel_rfl) rfl rfl (.bool (t855 != t858)) rfl (congrArg some hb852) (fun w' h' => x_ibin rfl rfl rfl rfl) (⟨M, Hp.le_refl M, S.pick [0, 1, 2, 3, 4, 5, 6] (by decide)⟩) ?_
      refine Wa_take (i := 33) rfl (by kernel_rfl) rfl rfl (.bool (t855 != t858)) rfl (fun w' h' => x_pick (k := false) (congrArg Value.bool hb852) rfl) (⟨M, Hp.le_refl M, S.pick [0, 1, 2, 3, 4, 5, 6] (by decide)⟩) ?_
      exact hrest _ _ ⟨(t855 != t858), Option.some.inj H, ⟨rfl, rfl, rfl, rfl, rfl, rfl, rfl, rfl, trivial⟩, E, S.pick [0, 1, 2, 3, 4, 5, 6] (by decide)⟩
  clear o854h
  rintro ρ w861 ⟨x853, rfl, hρ, E, S⟩
  rw [agree_eta hρ]
  clear hρ
  have H := o854H
  clear o854H
  refine Wa_done (by kernel_rfl) ?_
  refine tn ?_
  rcases iteS H with ⟨hb862, H⟩ | ⟨hb862, H⟩
  · refine Wp_cond_true (congrArg Value.bool hb862) ?_
    refine Wp_seq ?_
    refine Wp_region_lit ?_
    refine W_v (.bool false) (x_assign rfl) rfl ?_
    refine Wl_nil ?_
    refine tn ?_
    refine Wp_ret ?_
    refine tr (?_)
    obtain rfl := Option.some.inj H
    exact ⟨_, _, _, fun w1 e1 => run_resR (vs := [.bool false]) (FA.cons (rfl) (FA.nil)), HM, E, S.pick [] (by decide), ⟨rfl, rfl⟩⟩
  refine Wp_cond_false (congrArg Value.bool hb862) ?_
  refine Wp_skip ?_
  refine tn ?_
  refine Wp_seq ?_
  refine Wp_seq ?_
  refine Wp_region_any (S := fun w' => ∃ Mx, M.le Mx ∧ St w' Mx F [Row rStr 9 (.slice A533 x532.length c534) x532, Row (rInt .i64) 3 (.slice A537 x536.length c538) x536, Row (rInt .u64) 41 (.slice A541 x540.length c542) x540, Blk b529 (.cells #[.bool (a0.Leaf), .slice A0_0 (a0.Keys).length c0_0, .slice A0_1 (a0.Kids).length c0_1, .slice A0_2 (a0.Rows).length c0_2] 39 (0, 0)), Blk b527 (.cells #[.bool x531, .slice A533 x532.length c534, .slice A537 x536.length c538, .slice A541 x540.length c542] 26 (0, 0)), Blk b4 (.cells #[.bool a1.Leaf, .slice A1_0 a1.Keys.length c1_0, .slice A1_1 a1.Kids.length c1_1, .slice A1_2 a1.Rows.length c1_2] 26 (0, 0)), Blk b1 (.cells #[.bool a0.Leaf, .slice A0_0 a0.Keys.length c0_0, .slice A0_1 a0.Kids.length c0_1, .slice A0_2 a0.Rows.length c0_2] 26 (0, 0))]) mixed ?_
  intro w895 hw896 E'
  replace S := S.heap hw896
  replace E := E.trans E'
  clear E'
  refine Wa_take (i := 0) rfl (by kernel_rfl) rfl rfl (.agg #[.bool x531, .slice A533 x532.length c534, .slice A537 x536.length c538, .slice A541 x540.length c542]) rfl (fun w' h' => x_loadA (cls_blk h' 4 rfl) ty26 rfl (sub_of_extract rfl) rfl rfl) (⟨M, Hp.le_refl M, S.pick [0, 1, 2, 3, 4, 5, 6] (by decide)⟩) ?_
  refine Wa_take (i := 1) rfl (by kernel_rfl) rfl rfl (.int .i64 a4) rfl (fun w' h' => x_move rfl) (⟨M, Hp.le_refl M, S.pick [0, 1, 2, 3, 4, 5, 6] (by decide)⟩) ?_
  refine Wa_take (i := 2) rfl (by kernel_rfl) rfl rfl (.int .u8 a5) rfl (fun w' h' => x_move rfl) (⟨M, Hp.le_refl M, S.pick [0, 1, 2, 3, 4, 5, 6] (by decide)⟩) ?_
  refine Wa_take (i := 3) rfl (by kernel_rfl) rfl rfl (.bool a6) rfl (fun w' h' => x_move rfl) (⟨M, Hp.le_refl M, S.pick [0, 1, 2, 3, 4, 5, 6] (by decide)⟩) ?_
  refine Wa_take (i := 5) rfl (by kernel_rfl) rfl rfl (.agg #[.bool (a0.Leaf), .slice A0_0 (a0.Keys).length c0_0, .slice A0_1 (a0.Kids).length c0_1, .slice A0_2 (a0.Rows).length c0_2]) rfl (fun w' h' => x_loadA (cls_blk h' 3 rfl) ty39 rfl (sub_of_extract rfl) rfl rfl) (⟨M, Hp.le_refl M, S.pick [0, 1, 2, 3, 4, 5, 6] (by decide)⟩) ?_
  refine Wa_take (i := 6) rfl (by kernel_rfl) rfl rfl (.int .i64 a4) rfl (fun w' h' => x_move rfl) (⟨M, Hp.le_refl M, S.pick [0, 1, 2, 3, 4, 5, 6] (by decide)⟩) ?_
  refine Wa_take (i := 7) rfl (by kernel_rfl) rfl rfl (.int .u8 a5) rfl (fun w' h' => x_move rfl) (⟨M, Hp.le_refl M, S.pick [0, 1, 2, 3, 4, 5, 6] (by decide)⟩) ?_
  refine Wa_take (i := 8) rfl (by kernel_rfl) rfl rfl (.bool a6) rfl (fun w' h' => x_move rfl) (⟨M, Hp.le_refl M, S.pick [0, 1, 2, 3, 4, 5, 6] (by decide)⟩) ?_
  refine Wa_solo (i := 4) rfl (by kernel_rfl) ?_
  obtain ⟨t897, ht898, H⟩ := bindS H
  refine W_callN 3 fn22 (fun h9 hs9 hd9 => fork_Safe.con k _ A533 c534 A537 c538 A541 c542 (⟨x531, x532, x536, x540⟩ : fork_Node) a4 a5 a6 t897 (Sats.row hs9 hd9 0 rfl) (Sats.row hs9 hd9 1 rfl) (Sats.row hs9 hd9 2 rfl) ht898) S rfl rfl (by rintro _ _ _ ⟨_, rfl⟩; exact flat_nil) ?_
  rintro _ w899 _ Γ' E' S ⟨rfl, rfl⟩
  replace E := E.trans E'
  clear E'
  refine Wl_nil (on_n ⟨⟨M, Hp.le_refl M, S.pick [0, 1, 2, 3, 4, 5, 6] (by decide)⟩, ?_⟩)
  refine Wa_solo (i := 9) rfl (by kernel_rfl) ?_
  obtain ⟨t900, ht901, H⟩ := bindS H
  refine W_callF fn28 (ferrymanref13_Safe.con k M A0_0 c0_0 A0_1 c0_1 A0_2 c0_2 (⟨(a0.Leaf), (a0.Keys), (a0.Kids), (a0.Rows)⟩ : ferrymanref13_Node) a4 a5 a6 t900 hr0_0 hr0_1 hr0_2 ht901) S rfl rfl (by rintro _ _ _ ⟨_, rfl⟩; exact flat_nil) ?_
  rintro _ w902 _ Γ' E' S ⟨rfl, rfl⟩
  replace E := E.trans E'
  clear E'
  refine Wl_nil (on_n ⟨⟨M, Hp.le_refl M, S.pick [0, 1, 2, 3, 4, 5, 6] (by decide)⟩, ?_⟩)
  refine Wa_take (i := 10) rfl (by kernel_rfl) rfl rfl (.bool (!(t897 == t900))) rfl (fun w' h' => x_bne Try.underlying4 rfl rfl) (⟨M, Hp.le_refl M, S.pick [0, 1, 2, 3, 4, 5, 6] (by decide)⟩) ?_
  refine Wa_take (i := 11) rfl (by kernel_rfl) rfl rfl (.bool (!(t897 == t900))) rfl (fun w' h' => x_move rfl) (⟨M, Hp.le_refl M, S.pick [0, 1, 2, 3, 4, 5, 6] (by decide)⟩) ?_
  obtain ⟨o911, o911h, o911H⟩ := bindS H
  clear H
  refine Wa_join (fun ρ w' => ∃ (x910 : Bool), (x910) = o911 ∧ Agree ρ [(7, .pointer (some ⟨b1, 0, none⟩)), (15, .pointer (some ⟨b527, 0, none⟩)), (16, .pointer (some ⟨b529, 0, none⟩)), (117, .bool x910)] ∧ Ext w w' ∧ St w' M F [Row rStr 9 (.slice A533 x532.length c534) x532, Row (rInt .i64) 3 (.slice A537 x536.length c538) x536, Row (rInt .u64) 41 (.slice A541 x540.length c542) x540, Blk b529 (.cells #[.bool (a0.Leaf), .slice A0_0 (a0.Keys).length c0_0, .slice A0_1 (a0.Kids).length c0_1, .slice A0_2 (a0.Rows).length c0_2] 39 (0, 0)), Blk b527 (.cells #[.bool x531, .slice A533 x532.length c534, .slice A537 x536.length c538, .slice A541 x540.length c542] 26 (0, 0)), Blk b4 (.cells #[.bool a1.Leaf, .slice A1_0 a1.Keys.length c1_0, .slice A1_1 a1.Kids.length c1_1, .slice A1_2 a1.Rows.length c1_2] 26 (0, 0)), Blk b1 (.cells #[.bool a0.Leaf, .slice A0_0 a0.Keys.length c0_0, .slice A0_1 a0.Kids.length c0_1, .slice A0_2 a0.Rows.length c0_2] 26 (0, 0))]) 6 (Ls 26 [0, 1, 2, 3, 5, 6, 7, 8, 4, 9, 10, 11, 12, 13, 14, 15, 16, 17, 18, 19]) ?_ ?_
  rotate_left
  · intro hrest
    have H := o911h
    clear o911h o911H
    rcases iteS H with ⟨hb909, H⟩ | ⟨hb909, H⟩
    · skip
      refine Wa_takeN (i := 12) rfl (by kernel_rfl) rfl rfl rfl (skF hb909) (⟨M, Hp.le_refl M, S.pick [0, 1, 2, 3, 4, 5, 6] (by decide)⟩) ?_
      refine Wa_takeN (i := 13) rfl (by kernel_rfl) rfl rfl rfl (skF hb909) (⟨M, Hp.le_refl M, S.pick [0, 1, 2, 3, 4, 5, 6] (by decide)⟩) ?_
      refine Wa_takeN (i := 14) rfl (by kernel_rfl) rfl rfl rfl (skF hb909) (⟨M, Hp.le_refl M, S.pick [0, 1, 2, 3, 4, 5, 6] (by decide)⟩) ?_
      refine Wa_takeN (i := 15) rfl (by kernel_rfl) rfl rfl rfl (skF hb909) (⟨M, Hp.le_refl M, S.pick [0, 1, 2, 3, 4, 5, 6] (by decide)⟩) ?_
      refine Wa_takeN (i := 16) rfl (by kernel_rfl) rfl rfl rfl (skF hb909) (⟨M, Hp.le_refl M, S.pick [0, 1, 2, 3, 4, 5, 6] (by decide)⟩) ?_
      refine Wa_takeN (i := 17) rfl (by kernel_rfl) rfl rfl rfl (skF hb909) (⟨M, Hp.le_refl M, S.pick [0, 1, 2, 3, 4, 5, 6] (by decide)⟩) ?_
      refine Wa_takeN (i := 18) rfl (by kernel_rfl) rfl rfl rfl (skF hb909) (⟨M, Hp.le_refl M, S.pick [0, 1, 2, 3, 4, 5, 6] (by decide)⟩) ?_
      refine Wa_take (i := 19) rfl (by kernel_rfl) rfl rfl (.bool true) rfl (fun w' h' => x_pick (k := true) (congrArg Value.bool hb909) rfl) (⟨M, Hp.le_refl M, S.pick [0, 1, 2, 3, 4, 5, 6] (by decide)⟩) ?_
      exact hrest _ _ ⟨true, Option.some.inj H, ⟨rfl, rfl, rfl, rfl, trivial⟩, E, S.pick [0, 1, 2, 3, 4, 5, 6] (by decide)⟩
    · skip
      refine Wa_takeY (i := 12) rfl (by kernel_rfl) rfl rfl (.agg #[.bool x531, .slice A533 x532.length c534, .slice A537 x536.length c538, .slice A541 x540.length c542]) rfl (congrArg some hb909) (fun w' h' => x_loadA (cls_blk h' 4 rfl) ty26 rfl (sub_of_extract rfl) rfl rfl) (⟨M, Hp.le_refl M, S.pick [0, 1, 2, 3, 4, 5, 6] (by decide)⟩) ?_
      refine Wa_takeY (i := 13) rfl (by kernel_rfl) rfl rfl (.agg #[.bool a1.Leaf, .slice A1_0 a1.Keys.length c1_0, .slice A1_1 a1.Kids.length c1_1, .slice A1_2 a1.Rows.length c1_2]) rfl (congrArg some hb909) (fun w' h' => x_loadA (cls_blk h' 5 rfl) ty26 rfl (sub_of_extract rfl) rfl rfl) (⟨M, Hp.le_refl M, S.pick [0, 1, 2, 3, 4, 5, 6] (by decide)⟩) ?_
      refine Wa_takeY (i := 15) rfl (by kernel_rfl) rfl rfl (.agg #[.bool (a0.Leaf), .slice A0_0 (a0.Keys).length c0_0, .slice A0_1 (a0.Kids).length c0_1, .slice A0_2 (a0.Rows).length c0_2]) rfl (congrArg some hb909) (fun w' h' => x_loadA (cls_blk h' 3 rfl) ty39 rfl (sub_of_extract rfl) rfl rfl) (⟨M, Hp.le_refl M, S.pick [0, 1, 2, 3, 4, 5, 6] (by decide)⟩) ?_
      refine Wa_takeY (i := 16) rfl (by kernel_rfl) rfl rfl (.agg #[.bool a1.Leaf, .slice A1_0 a1.Keys.length c1_0, .slice A1_1 a1.Kids.length c1_1, .slice A1_2 a1.Rows.length c1_2]) rfl (congrArg some hb909) (fun w' h' => x_loadA (cls_blk h' 5 rfl) ty26 rfl (sub_of_extract rfl) rfl rfl) (⟨M, Hp.le_refl M, S.pick [0, 1, 2, 3, 4, 5, 6] (by decide)⟩) ?_
      refine Wa_solo (i := 14) rfl (by kernel_rfl) ?_
      refine W_yes (congrArg some hb909) ?_
      obtain ⟨t912, ht913, H⟩ := bindS H
      refine W_callN 3 fn29 (fun h9 hs9 hd9 => fork_Same.con k _ A533 c534 A537 c538 A541 c542 (⟨x531, x532, x536, x540⟩ : fork_Node) A1_0 c1_0 A1_1 c1_1 A1_2 c1_2 a1 t912 (Sats.row hs9 hd9 0 rfl) (Sats.row hs9 hd9 1 rfl) (Sats.row hs9 hd9 2 rfl) (SlR.mono hr1_0 (Hp.le_union_left _ _)) (SlR.mono hr1_1 (Hp.le_union_left _ _)) (SlR.mono hr1_2 (Hp.le_union_left _ _)) ht913) S rfl rfl (by rintro _ _ _ ⟨_, rfl⟩; exact flat_nil) ?_
      rintro _ w914 _ Γ' E' S ⟨rfl, rfl⟩
      replace E := E.trans E'
      clear E'
      refine Wl_nil (on_n ⟨⟨M, Hp.le_refl M, S.pick [0, 1, 2, 3, 4, 5, 6] (by decide)⟩, ?_⟩)
      refine Wa_solo (i := 17) rfl (by kernel_rfl) ?_
      refine W_yes (congrArg some hb909) ?_
      obtain ⟨t915, ht916, H⟩ := bindS H
      refine W_callF fn16 (ferrymanref13_Same.con k M A0_0 c0_0 A0_1 c0_1 A0_2 c0_2 (⟨(a0.Leaf), (a0.Keys), (a0.Kids), (a0.Rows)⟩ : ferrymanref13_Node) A1_0 c1_0 A1_1 c1_1 A1_2 c1_2 (⟨a1.Leaf, a1.Keys, a1.Kids, a1.Rows⟩ : ferrymanref13_Node) t915 hr0_0 hr0_1 hr0_2 hr1_0 hr1_1 hr1_2 ht916) S rfl rfl (by rintro _ _ _ ⟨_, rfl⟩; exact flat_nil) ?_
      rintro _ w917 _ Γ' E' S ⟨rfl, rfl⟩
      replace E := E.trans E'
      clear E'
      refine Wl_nil (on_n ⟨⟨M, Hp.le_refl M, S.pick [0, 1, 2, 3, 4, 5, 6] (by decide)⟩, ?_⟩)
      refine Wa_takeY (i := 18) rfl (by kernel_rfl) rfl rfl (.bool (!(t912 == t915))) rfl (congrArg some hb909) (fun w' h' => x_bne Try.underlying4 rfl rfl) (⟨M, Hp.le_refl M, S.pick [0, 1, 2, 3, 4, 5, 6] (by decide)⟩) ?_
      refine Wa_take (i := 19) rfl (by kernel_rfl) rfl rfl (.bool (!(t912 == t915))) rfl (fun w' h' => x_pick (k := false) (congrArg Value.bool hb909) rfl) (⟨M, Hp.le_refl M, S.pick [0, 1, 2, 3, 4, 5, 6] (by decide)⟩) ?_
      exact hrest _ _ ⟨(!(t912 == t915)), Option.some.inj H, ⟨rfl, rfl, rfl, rfl, trivial⟩, E, S.pick [0, 1, 2, 3, 4, 5, 6] (by decide)⟩
  clear o911h
  rintro ρ w918 ⟨x910, rfl, hρ, E, S⟩
  rw [agree_eta hρ]
  clear hρ
  have H := o911H
  clear o911H
  refine Wa_take (i := 20) rfl (by kernel_rfl) rfl rfl (.bool x910) rfl (fun w' h' => x_move rfl) (⟨M, Hp.le_refl M, S.pick [0, 1, 2, 3, 4, 5, 6] (by decide)⟩) ?_
  obtain ⟨o924, o924h, o924H⟩ := bindS H
  clear H
  refine Wa_join (fun ρ w' => ∃ (x923 : Bool), (x923) = o924 ∧ Agree ρ [(15, .pointer (some ⟨b527, 0, none⟩)), (16, .pointer (some ⟨b529, 0, none⟩)), (123, .bool x923)] ∧ Ext w w' ∧ St w' M F [Row rStr 9 (.slice A533 x532.length c534) x532, Row (rInt .i64) 3 (.slice A537 x536.length c538) x536, Row (rInt .u64) 41 (.slice A541 x540.length c542) x540, Blk b529 (.cells #[.bool (a0.Leaf), .slice A0_0 (a0.Keys).length c0_0, .slice A0_1 (a0.Kids).length c0_1, .slice A0_2 (a0.Rows).length c0_2] 39 (0, 0)), Blk b527 (.cells #[.bool x531, .slice A533 x532.length c534, .slice A537 x536.length c538, .slice A541 x540.length c542] 26 (0, 0)), Blk b4 (.cells #[.bool a1.Leaf, .slice A1_0 a1.Keys.length c1_0, .slice A1_1 a1.Kids.length c1_1, .slice A1_2 a1.Rows.length c1_2] 26 (0, 0)), Blk b1 (.cells #[.bool a0.Leaf, .slice A0_0 a0.Keys.length c0_0, .slice A0_1 a0.Kids.length c0_1, .slice A0_2 a0.Rows.length c0_2] 26 (0, 0))]) 0 (Ls 26 [0, 1, 2, 3, 5, 6, 7, 8, 4, 9, 10, 11, 12, 13, 14, 15, 16, 17, 18, 19, 20, 21, 22, 23, 24, 25]) ?_ ?_
  rotate_left
  · intro hrest
    have H := o924h
    clear o924h o924H
    rcases iteS H with ⟨hb922, H⟩ | ⟨hb922, H⟩
    · skip
      refine Wa_takeN (i := 21) rfl (by kernel_rfl) rfl rfl rfl (skF hb922) (⟨M, Hp.le_refl M, S.pick [0, 1, 2, 3, 4, 5, 6] (by decide)⟩) ?_
      refine Wa_takeN (i := 22) rfl (by kernel_rfl) rfl rfl rfl (skF hb922) (⟨M, Hp.le_refl M, S.pick [0, 1, 2, 3, 4, 5, 6] (by decide)⟩) ?_
      refine Wa_takeN (i := 23) rfl (by kernel_rfl) rfl rfl rfl (skF hb922) (⟨M, Hp.le_refl M, S.pick [0, 1, 2, 3, 4, 5, 6] (by decide)⟩) ?_
      refine Wa_takeN (i := 24) rfl (by kernel_rfl) rfl rfl rfl (skF hb922) (⟨M, Hp.le_refl M, S.pick [0, 1, 2, 3, 4, 5, 6] (by decide)⟩) ?_
      refine Wa_take (i := 25) rfl (by kernel_rfl) rfl rfl (.bool true) rfl (fun w' h' => x_pick (k := true) (congrArg Value.bool hb922) rfl) (⟨M, Hp.le_refl M, S.pick [0, 1, 2, 3, 4, 5, 6] (by decide)⟩) ?_
      exact hrest _ _ ⟨true, Option.some.inj H, ⟨rfl, rfl, rfl, trivial⟩, E, S.pick [0, 1, 2, 3, 4, 5, 6] (by decide)⟩
    · skip
      refine Wa_takeY (i := 21) rfl (by kernel_rfl) rfl rfl (.agg #[.bool x531, .slice A533 x532.length c534, .slice A537 x536.length c538, .slice A541 x540.length c542]) rfl (congrArg some hb922) (fun w' h' => x_loadA (cls_blk h' 4 rfl) ty26 rfl (sub_of_extract rfl) rfl rfl) (⟨M, Hp.le_refl M, S.pick [0, 1, 2, 3, 4, 5, 6] (by decide)⟩) ?_
      refine Wa_takeY (i := 22) rfl (by kernel_rfl) rfl rfl (.agg #[.bool a0.Leaf, .slice A0_0 a0.Keys.length c0_0, .slice A0_1 a0.Kids.length c0_1, .slice A0_2 a0.Rows.length c0_2]) rfl (congrArg some hb922) (fun w' h' => x_loadA (cls_blk h' 6 rfl) ty26 rfl (sub_of_extract rfl) rfl rfl) (⟨M, Hp.le_refl M, S.pick [0, 1, 2, 3, 4, 5, 6] (by decide)⟩) ?_
      refine Wa_solo (i := 23) rfl (by kernel_rfl) ?_
      refine W_yes (congrArg some hb922) ?_
      obtain ⟨t925, ht926, H⟩ := bindS H
      refine W_callN 3 fn29 (fun h9 hs9 hd9 => fork_Same.con k _ A533 c534 A537 c538 A541 c542 (⟨x531, x532, x536, x540⟩ : fork_Node) A0_0 c0_0 A0_1 c0_1 A0_2 c0_2 a0 t925 (Sats.row hs9 hd9 0 rfl) (Sats.row hs9 hd9 1 rfl) (Sats.row hs9 hd9 2 rfl) (SlR.mono hr0_0 (Hp.le_union_left _ _)) (SlR.mono hr0_1 (Hp.le_union_left _ _)) (SlR.mono hr0_2 (Hp.le_union_left _ _)) ht926) S rfl rfl (by rintro _ _ _ ⟨_, rfl⟩; exact flat_nil) ?_
      rintro _ w927 _ Γ' E' S ⟨rfl, rfl⟩
      replace E := E.trans E'
      clear E'
      refine Wl_nil (on_n ⟨⟨M, Hp.le_refl M, S.pick [0, 1, 2, 3, 4, 5, 6] (by decide)⟩, ?_⟩)
      refine Wa_takeY (i := 24) rfl (by kernel_rfl) rfl rfl (.bool (!t925)) rfl (congrArg some hb922) (fun w' h' => x_not rfl) (⟨M, Hp.le_refl M, S.pick [0, 1, 2, 3, 4, 5, 6] (by decide)⟩) ?_
      refine Wa_take (i := 25) rfl (by kernel_rfl) rfl rfl (.bool (!t925)) rfl (fun w' h' => x_pick (k := false) (congrArg Value.bool hb922) rfl) (⟨M, Hp.le_refl M, S.pick [0, 1, 2, 3, 4, 5, 6] (by decide)⟩) ?_
      exact hrest _ _ ⟨(!t925), Option.some.inj H, ⟨rfl, rfl, rfl, trivial⟩, E, S.pick [0, 1, 2, 3, 4, 5, 6] (by decide)⟩
  clear o924h
  rintro ρ w928 ⟨x923, rfl, hρ, E, S⟩
  rw [agree_eta hρ]
  clear hρ
  have H := o924H
  clear o924H
  refine Wa_done (by kernel_rfl) ?_
  refine tn ?_
  rcases iteS H with ⟨hb929, H⟩ | ⟨hb929, H⟩
  · refine Wp_cond_true (congrArg Value.bool hb929) ?_
    refine Wp_seq ?_
    refine Wp_region_lit ?_
    refine W_v (.bool false) (x_assign rfl) rfl ?_
    refine Wl_nil ?_
    refine tn ?_
    refine Wp_ret ?_
    refine tr (?_)
    obtain rfl := Option.some.inj H
    exact ⟨_, _, _, fun w1 e1 => run_resR (vs := [.bool false]) (FA.cons (rfl) (FA.nil)), HM, E, S.pick [] (by decide), ⟨rfl, rfl⟩⟩
  refine Wp_cond_false (congrArg Value.bool hb929) ?_
  refine Wp_skip ?_
  refine tn ?_
  refine Wp_seq ?_
  refine Wp_region_any (S := fun w' => ∃ Mx, M.le Mx ∧ St w' Mx F [Row rStr 9 (.slice A533 x532.length c534) x532, Row (rInt .i64) 3 (.slice A537 x536.length c538) x536, Row (rInt .u64) 41 (.slice A541 x540.length c542) x540, Blk b529 (.cells #[.bool (a0.Leaf), .slice A0_0 (a0.Keys).length c0_0, .slice A0_1 (a0.Kids).length c0_1, .slice A0_2 (a0.Rows).length c0_2] 39 (0, 0)), Blk b527 (.cells #[.bool x531, .slice A533 x532.length c534, .slice A537 x536.length c538, .slice A541 x540.length c542] 26 (0, 0)), Blk b4 (.cells #[.bool a1.Leaf, .slice A1_0 a1.Keys.length c1_0, .slice A1_1 a1.Kids.length c1_1, .slice A1_2 a1.Rows.length c1_2] 26 (0, 0)), Blk b1 (.cells #[.bool a0.Leaf, .slice A0_0 a0.Keys.length c0_0, .slice A0_1 a0.Kids.length c0_1, .slice A0_2 a0.Rows.length c0_2] 26 (0, 0))]) mixed ?_
  intro w965 hw966 E'
  replace S := S.heap hw966
  replace E := E.trans E'
  clear E'
  refine Wa_take (i := 0) rfl (by kernel_rfl) rfl rfl (.agg #[.bool x531, .slice A533 x532.length c534, .slice A537 x536.length c538, .slice A541 x540.length c542]) rfl (fun w' h' => x_loadA (cls_blk h' 4 rfl) ty26 rfl (sub_of_extract rfl) rfl rfl) (⟨M, Hp.le_refl M, S.pick [0, 1, 2, 3, 4, 5, 6] (by decide)⟩) ?_
  refine Wa_take (i := 2) rfl (by kernel_rfl) rfl rfl (.agg #[.bool (a0.Leaf), .slice A0_0 (a0.Keys).length c0_0, .slice A0_1 (a0.Kids).length c0_1, .slice A0_2 (a0.Rows).length c0_2]) rfl (fun w' h' => x_loadA (cls_blk h' 3 rfl) ty39 rfl (sub_of_extract rfl) rfl rfl) (⟨M, Hp.le_refl M, S.pick [0, 1, 2, 3, 4, 5, 6] (by decide)⟩) ?_
  refine Wa_solo (i := 1) rfl (by kernel_rfl) ?_
  obtain ⟨t967, ht968, H⟩ := bindS H
  refine W_callN 3 fn31 (fun h9 hs9 hd9 => fork_Copy.con k _ A533 c534 A537 c538 A541 c542 (⟨x531, x532, x536, x540⟩ : fork_Node) t967 (Sats.row hs9 hd9 0 rfl) (Sats.row hs9 hd9 1 rfl) (Sats.row hs9 hd9 2 rfl) ht968) S rfl rfl (by rintro _ _ _ ⟨_, _, _, _, _, _, _, rfl⟩; exact (flat_cons (flat_row (fun _ _ _ _ h => h)) (flat_cons (flat_row (fun _ _ _ _ h => h)) (flat_cons (flat_row (fun _ _ _ _ h => h)) flat_nil)))) ?_
  rintro _ w978 _ Γ' E' S ⟨A969, c970, A972, c973, A975, c976, rfl, rfl⟩
  replace E := E.trans E'
  clear E'
  refine Wl_nil (on_n ⟨⟨M, Hp.le_refl M, S.pick [3, 4, 5, 6, 7, 8, 9] (by decide)⟩, ?_⟩)
  refine Wa_solo (i := 3) rfl (by kernel_rfl) ?_
  replace S : St w978 M F [Row rStr 9 (.slice A969 t967.Keys.length c970) t967.Keys, Row (rInt .i64) 3 (.slice A972 t967.Kids.length c973) t967.Kids, Row (rInt .u64) 41 (.slice A975 t967.Rows.length c976) t967.Rows, Row rStr 9 (.slice A533 x532.length c534) x532, Row (rInt .i64) 3 (.slice A537 x536.length c538) x536, Row (rInt .u64) 41 (.slice A541 x540.length c542) x540, Blk b529 (.cells #[.bool (a0.Leaf), .slice A0_0 (a0.Keys).length c0_0, .slice A0_1 (a0.Kids).length c0_1, .slice A0_2 (a0.Rows).length c0_2] 39 (0, 0)), Blk b527 (.cells #[.bool x531, .slice A533 x532.length c534, .slice A537 x536.length c538, .slice A541 x540.length c542] 26 (0, 0)), Blk b4 (.cells #[.bool a1.Leaf, .slice A1_0 a1.Keys.length c1_0, .slice A1_1 a1.Kids.length c1_1, .slice A1_2 a1.Rows.length c1_2] 26 (0, 0)), Blk b1 (.cells #[.bool a0.Leaf, .slice A0_0 a0.Keys.length c0_0, .slice A0_1 a0.Kids.length c0_1, .slice A0_2 a0.Rows.length c0_2] 26 (0, 0))] := S.pick [0, 1, 2, 3, 4, 5, 6, 7, 8, 9] (by decide)
  obtain ⟨t979, ht980, H⟩ := bindS H
  refine W_callF2 fn30 (ferrymanlaw13_told.con k M A969 c970 A972 c973 A975 c976 t967 A0_0 c0_0 A0_1 c0_1 A0_2 c0_2 (⟨(a0.Leaf), (a0.Keys), (a0.Kids), (a0.Rows)⟩ : ferrymanref13_Node) t979 hr0_0 hr0_1 hr0_2 ht980) (Γ2 := [Row rStr 9 (.slice A533 x532.length c534) x532, Row (rInt .i64) 3 (.slice A537 x536.length c538) x536, Row (rInt .u64) 41 (.slice A541 x540.length c542) x540, Blk b529 (.cells #[.bool (a0.Leaf), .slice A0_0 (a0.Keys).length c0_0, .slice A0_1 (a0.Kids).length c0_1, .slice A0_2 (a0.Rows).length c0_2] 39 (0, 0)), Blk b527 (.cells #[.bool x531, .slice A533 x532.length c534, .slice A537 x536.length c538, .slice A541 x540.length c542] 26 (0, 0)), Blk b4 (.cells #[.bool a1.Leaf, .slice A1_0 a1.Keys.length c1_0, .slice A1_1 a1.Kids.length c1_1, .slice A1_2 a1.Rows.length c1_2] 26 (0, 0)), Blk b1 (.cells #[.bool a0.Leaf, .slice A0_0 a0.Keys.length c0_0, .slice A0_1 a0.Kids.length c0_1, .slice A0_2 a0.Rows.length c0_2] 26 (0, 0))]) S rfl rfl (by rintro _ _ _ ⟨rfl, rfl⟩; exact flat_nil) ?_
  rintro _ w981 _ Γ' E' S ⟨rfl, rfl⟩
  replace E := E.trans E'
  clear E'
  refine Wl_nil (on_n ⟨⟨M, Hp.le_refl M, S.pick [0, 1, 2, 3, 4, 5, 6] (by decide)⟩, ?_⟩)
  refine Wa_take (i := 4) rfl (by kernel_rfl) rfl rfl (.bool t979) rfl (fun w' h' => x_move rfl) (⟨M, Hp.le_refl M, S.pick [0, 1, 2, 3, 4, 5, 6] (by decide)⟩) ?_
  obtain ⟨o987, o987h, o987H⟩ := bindS H
  clear H
  refine Wa_join (fun ρ w' => ∃ (x986 : Bool), (x986) = o987 ∧ Agree ρ [(132, .bool x986)] ∧ Ext w w' ∧ St w' M F [Row rStr 9 (.slice A533 x532.length c534) x532, Row (rInt .i64) 3 (.slice A537 x536.length c538) x536, Row (rInt .u64) 41 (.slice A541 x540.length c542) x540, Blk b529 (.cells #[.bool (a0.Leaf), .slice A0_0 (a0.Keys).length c0_0, .slice A0_1 (a0.Kids).length c0_1, .slice A0_2 (a0.Rows).length c0_2] 39 (0, 0)), Blk b527 (.cells #[.bool x531, .slice A533 x532.length c534, .slice A537 x536.length c538, .slice A541 x540.length c542] 26 (0, 0)), Blk b4 (.cells #[.bool a1.Leaf, .slice A1_0 a1.Keys.length c1_0, .slice A1_1 a1.Kids.length c1_1, .slice A1_2 a1.Rows.length c1_2] 26 (0, 0)), Blk b1 (.cells #[.bool a0.Leaf, .slice A0_0 a0.Keys.length c0_0, .slice A0_1 a0.Kids.length c0_1, .slice A0_2 a0.Rows.length c0_2] 26 (0, 0))]) 4 (Ls 13 [0, 2, 1, 3, 4, 5, 6, 7, 8]) ?_ ?_
  rotate_left
  · intro hrest
    have H := o987h
    clear o987h o987H
    rcases iteS H with ⟨hb985, H⟩ | ⟨hb985, H⟩
    · skip
      refine Wa_takeY (i := 5) rfl (by kernel_rfl) rfl rfl (.agg #[.bool x531, .slice A533 x532.length c534, .slice A537 x536.length c538, .slice A541 x540.length c542]) rfl (congrArg some hb985) (fun w' h' => x_loadA (cls_blk h' 4 rfl) ty26 rfl (sub_of_extract rfl) rfl rfl) (⟨M, Hp.le_refl M, S.pick [0, 1, 2, 3, 4, 5, 6] (by decide)⟩) ?_
      refine Wa_takeY (i := 6) rfl (by kernel_rfl) rfl rfl (.agg #[.bool (a0.Leaf), .slice A0_0 (a0.Keys).length c0_0, .slice A0_1 (a0.Kids).length c0_1, .slice A0_2 (a0.Rows).length c0_2]) rfl (congrArg some hb985) (fun w' h' => x_loadA (cls_blk h' 3 rfl) ty39 rfl (sub_of_extract rfl) rfl rfl) (⟨M, Hp.le_refl M, S.pick [0, 1, 2, 3, 4, 5, 6] (by decide)⟩) ?_
      refine Wa_solo (i := 7) rfl (by kernel_rfl) ?_
      refine W_yes (congrArg some hb985) ?_
      obtain ⟨t988, ht989, H⟩ := bindS H
      refine W_callN 3 fn16 (fun h9 hs9 hd9 => ferrymanref13_Same.con k _ A533 c534 A537 c538 A541 c542 (⟨x531, x532, x536, x540⟩ : ferrymanref13_Node) A0_0 c0_0 A0_1 c0_1 A0_2 c0_2 (⟨(a0.Leaf), (a0.Keys), (a0.Kids), (a0.Rows)⟩ : ferrymanref13_Node) t988 (Sats.row hs9 hd9 0 rfl) (Sats.row hs9 hd9 1 rfl) (Sats.row hs9 hd9 2 rfl) (SlR.mono hr0_0 (Hp.le_union_left _ _)) (SlR.mono hr0_1 (Hp.le_union_left _ _)) (SlR.mono hr0_2 (Hp.le_union_left _ _)) ht989) S rfl rfl (by rintro _ _ _ ⟨_, rfl⟩; exact flat_nil) ?_
      rintro _ w990 _ Γ' E' S ⟨rfl, rfl⟩
      replace E := E.trans E'
      clear E'
      refine Wl_nil (on_n ⟨⟨M, Hp.le_refl M, S.pick [0, 1, 2, 3, 4, 5, 6] (by decide)⟩, ?_⟩)
      refine Wa_take (i := 8) rfl (by kernel_rfl) rfl rfl (.bool t988) rfl (fun w' h' => x_pick (k := true) (congrArg Value.bool hb985) rfl) (⟨M, Hp.le_refl M, S.pick [0, 1, 2, 3, 4, 5, 6] (by decide)⟩) ?_
      exact hrest _ _ ⟨t988, Option.some.inj H, ⟨rfl, trivial⟩, E, S.pick [0, 1, 2, 3, 4, 5, 6] (by decide)⟩
    · skip
      refine Wa_takeN (i := 5) rfl (by kernel_rfl) rfl rfl rfl (skT hb985) (⟨M, Hp.le_refl M, S.pick [0, 1, 2, 3, 4, 5, 6] (by decide)⟩) ?_
      refine Wa_takeN (i := 6) rfl (by kernel_rfl) rfl rfl rfl (skT hb985) (⟨M, Hp.le_refl M, S.pick [0, 1, 2, 3, 4, 5, 6] (by decide)⟩) ?_
      refine Wa_takeN (i := 7) rfl (by kernel_rfl) rfl rfl rfl (skT hb985) (⟨M, Hp.le_refl M, S.pick [0, 1, 2, 3, 4, 5, 6] (by decide)⟩) ?_
      refine Wa_take (i := 8) rfl (by kernel_rfl) rfl rfl (.bool false) rfl (fun w' h' => x_pick (k := false) (congrArg Value.bool hb985) rfl) (⟨M, Hp.le_refl M, S.pick [0, 1, 2, 3, 4, 5, 6] (by decide)⟩) ?_
      exact hrest _ _ ⟨false, Option.some.inj H, ⟨rfl, trivial⟩, E, S.pick [0, 1, 2, 3, 4, 5, 6] (by decide)⟩
  clear o987h
  rintro ρ w991 ⟨x986, rfl, hρ, E, S⟩
  rw [agree_eta hρ]
  clear hρ
  have H := o987H
  clear o987H
  refine Wa_take (i := 9) rfl (by kernel_rfl) rfl rfl (.bool x986) rfl (fun w' h' => x_move rfl) (⟨M, Hp.le_refl M, S.pick [0, 1, 2, 3, 4, 5, 6] (by decide)⟩) ?_
  obtain ⟨o997, o997h, o997H⟩ := bindS H
  clear H
  refine Wa_join (fun ρ w' => ∃ (x996 : Bool), (x996) = o997 ∧ Agree ρ [(135, .bool x996)] ∧ Ext w w' ∧ St w' M F [Row rStr 9 (.slice A533 x532.length c534) x532, Row (rInt .i64) 3 (.slice A537 x536.length c538) x536, Row (rInt .u64) 41 (.slice A541 x540.length c542) x540, Blk b529 (.cells #[.bool (a0.Leaf), .slice A0_0 (a0.Keys).length c0_0, .slice A0_1 (a0.Kids).length c0_1, .slice A0_2 (a0.Rows).length c0_2] 39 (0, 0)), Blk b527 (.cells #[.bool x531, .slice A533 x532.length c534, .slice A537 x536.length c538, .slice A541 x540.length c542] 26 (0, 0)), Blk b4 (.cells #[.bool a1.Leaf, .slice A1_0 a1.Keys.length c1_0, .slice A1_1 a1.Kids.length c1_1, .slice A1_2 a1.Rows.length c1_2] 26 (0, 0)), Blk b1 (.cells #[.bool a0.Leaf, .slice A0_0 a0.Keys.length c0_0, .slice A0_1 a0.Kids.length c0_1, .slice A0_2 a0.Rows.length c0_2] 26 (0, 0))]) 1 (Ls 13 [0, 2, 1, 3, 4, 5, 6, 7, 8, 9, 10, 11]) ?_ ?_
  rotate_left
  · intro hrest
    have H := o997h
    clear o997h o997H
    rcases iteS H with ⟨hb995, H⟩ | ⟨hb995, H⟩
    · skip
      refine Wa_solo (i := 10) rfl (by kernel_rfl) ?_
      refine W_yes (congrArg some hb995) ?_
      obtain ⟨t998, ht999, H⟩ := bindS H
      refine W_callF fn10 (ferrymanlaw13_awake.con k M  t998  ht999) S rfl rfl (by rintro _ _ _ ⟨_, rfl⟩; exact flat_nil) ?_
      rintro _ w1000 _ Γ' E' S ⟨rfl, rfl⟩
      replace E := E.trans E'
      clear E'
      refine Wl_nil (on_n ⟨⟨M, Hp.le_refl M, S.pick [0, 1, 2, 3, 4, 5, 6] (by decide)⟩, ?_⟩)
      refine Wa_take (i := 11) rfl (by kernel_rfl) rfl rfl (.bool t998) rfl (fun w' h' => x_pick (k := true) (congrArg Value.bool hb995) rfl) (⟨M, Hp.le_refl M, S.pick [0, 1, 2, 3, 4, 5, 6] (by decide)⟩) ?_
      exact hrest _ _ ⟨t998, Option.some.inj H, ⟨rfl, trivial⟩, E, S.pick [0, 1, 2, 3, 4, 5, 6] (by decide)⟩
    · skip
      refine Wa_takeN (i := 10) rfl (by kernel_rfl) rfl rfl rfl (skT hb995) (⟨M, Hp.le_refl M, S.pick [0, 1, 2, 3, 4, 5, 6] (by decide)⟩) ?_
      refine Wa_take (i := 11) rfl (by kernel_rfl) rfl rfl (.bool false) rfl (fun w' h' => x_pick (k := false) (congrArg Value.bool hb995) rfl) (⟨M, Hp.le_refl M, S.pick [0, 1, 2, 3, 4, 5, 6] (by decide)⟩) ?_
      exact hrest _ _ ⟨false, Option.some.inj H, ⟨rfl, trivial⟩, E, S.pick [0, 1, 2, 3, 4, 5, 6] (by decide)⟩
  clear o997h
  rintro ρ w1001 ⟨x996, rfl, hρ, E, S⟩
  rw [agree_eta hρ]
  clear hρ
  have H := o997H
  clear o997H
  refine Wa_take (i := 12) rfl (by kernel_rfl) rfl rfl (.bool x996) rfl (fun w' h' => x_assign rfl) (⟨M, Hp.le_refl M, S.pick [0, 1, 2, 3, 4, 5, 6] (by decide)⟩) ?_
  refine Wa_done (by kernel_rfl) ?_
  refine tn ?_
  refine Wp_ret ?_
  obtain rfl := Option.some.inj H
  exact ⟨_, _, _, fun w1 e1 => run_resR (vs := [.bool x996]) (FA.cons (rfl) (FA.nil)), HM, E, S.pick [] (by decide), ⟨rfl, rfl⟩⟩
end Go.Proofs.Ytdommjjhfplcaaa
