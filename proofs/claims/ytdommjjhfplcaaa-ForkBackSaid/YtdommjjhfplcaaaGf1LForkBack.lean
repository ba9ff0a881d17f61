import Derived.Test.YtdommjjhfplcaaaGf1
namespace Go.Proofs.Ytdommjjhfplcaaa
open Go
set_option linter.unusedVariables false
set_option linter.unusedSimpArgs false
/-! ### ferryman/ferrymanlaw13.ForkBack: function 5 -/
def ferrymanlaw13_ForkBack_1 (k : Nat) (a0 : fork_Node) (a1 : fork_Node) : Option (Bool) :=
  (Option.bind (ferrymanref13_Same k (⟨a0.Leaf, a0.Keys, a0.Kids, a0.Rows⟩ : ferrymanref13_Node) (⟨a1.Leaf, a1.Keys, a1.Kids, a1.Rows⟩ : ferrymanref13_Node)) (fun t7 => some t7))
set_option maxHeartbeats 2000000 in
theorem ferrymanlaw13_ForkBack_1.mono {k : Nat} {a0 : fork_Node} {a1 : fork_Node} : OLe (ferrymanlaw13_ForkBack_1 k a0 a1) (ferrymanlaw13_ForkBack_1 (k + 1) a0 a1) := by
  unfold ferrymanlaw13_ForkBack_1
  repeat' (first | with_reducible exact OLe.none | with_reducible exact OLe.some | with_reducible refine OLe.ite ?_ ?_ | with_reducible refine OLe.bind ?_ (fun _ => ?_) | with_reducible exact ferrymanref13_Same.mono | refine OLe.bind ?_ (fun _ => ?_) | refine OLe.ite ?_ ?_ | refine OLe.elim (fun _ => ?_) (fun _ => ?_) | split)
set_option maxHeartbeats 1000000 in
set_option maxRecDepth 100000 in
theorem ferrymanlaw13_ForkBack_1.con (k : Nat) (M : Hp) (A0_0 : Option Addr) (c0_0 : Nat) (A0_1 : Option Addr) (c0_1 : Nat) (A0_2 : Option Addr) (c0_2 : Nat) (a0 : fork_Node) (A1_0 : Option Addr) (c1_0 : Nat) (A1_1 : Option Addr) (c1_1 : Nat) (A1_2 : Option Addr) (c1_2 : Nat) (a1 : fork_Node) (r : Bool) (hr0_0 : SlR rStr M (.slice A0_0 a0.Keys.length c0_0) a0.Keys) (hr0_1 : SlR (rInt .i64) M (.slice A0_1 a0.Kids.length c0_1) a0.Kids) (hr0_2 : SlR (rInt .u64) M (.slice A0_2 a0.Rows.length c0_2) a0.Rows) (hr1_0 : SlR rStr M (.slice A1_0 a1.Keys.length c1_0) a1.Keys) (hr1_1 : SlR (rInt .i64) M (.slice A1_1 a1.Kids.length c1_1) a1.Kids) (hr1_2 : SlR (rInt .u64) M (.slice A1_2 a1.Rows.length c1_2) a1.Rows) (h : ferrymanlaw13_ForkBack_1 k a0 a1 = some r) : Con Try.prog 17 #[.agg #[.bool a0.Leaf, .slice A0_0 a0.Keys.length c0_0, .slice A0_1 a0.Kids.length c0_1, .slice A0_2 a0.Rows.length c0_2], .agg #[.bool a1.Leaf, .slice A1_0 a1.Keys.length c1_0, .slice A1_1 a1.Kids.length c1_1, .slice A1_2 a1.Rows.length c1_2]] M [] (fun v M' Γ' => v = .bool r ∧ Γ' = []) := by
  refine con_of_wp Try.func17 rfl Try.ntmps17 Try.results17 rfl ?_
  intro w F rn S hrn
  have E := Ext.refl w
  have HM := Hp.le_refl M
  have H := h
  unfold ferrymanlaw13_ForkBack_1 at H
  refine Wp_seq ?_
  refine Wp_region_lit ?_
  refine W_box S #[.bool a0.Leaf, .slice A0_0 a0.Keys.length c0_0, .slice A0_1 a0.Kids.length c0_1, .slice A0_2 a0.Rows.length c0_2] rfl rfl rfl ?_
  intro b1 w2 E' S
  replace E := E.trans E'
  clear E'
  refine W_box S #[.bool a1.Leaf, .slice A1_0 a1.Keys.length c1_0, .slice A1_1 a1.Kids.length c1_1, .slice A1_2 a1.Rows.length c1_2] rfl rfl rfl ?_
  intro b4 w5 E' S
  replace E := E.trans E'
  clear E'
  refine W_v (.bool false) (x_assign rfl) rfl ?_
  refine Wl_nil ?_
  refine tn ?_
  refine Wp_seq ?_
  refine Wp_region_lit ?_
  refine W_v (.agg #[.bool a0.Leaf, .slice A0_0 a0.Keys.length c0_0, .slice A0_1 a0.Kids.length c0_1, .slice A0_2 a0.Rows.length c0_2]) (x_loadA (S.blk 1 rfl) ty26 rfl (sub_of_extract rfl) rfl rfl) rfl ?_
  refine W_v (.agg #[.bool a1.Leaf, .slice A1_0 a1.Keys.length c1_0, .slice A1_1 a1.Kids.length c1_1, .slice A1_2 a1.Rows.length c1_2]) (x_loadA (S.blk 0 rfl) ty26 rfl (sub_of_extract rfl) rfl rfl) rfl ?_
  obtain ⟨t7, ht8, H⟩ := bindS H
  refine W_callF fn16 (ferrymanref13_Same.con k M A0_0 c0_0 A0_1 c0_1 A0_2 c0_2 (⟨a0.Leaf, a0.Keys, a0.Kids, a0.Rows⟩ : ferrymanref13_Node) A1_0 c1_0 A1_1 c1_1 A1_2 c1_2 (⟨a1.Leaf, a1.Keys, a1.Kids, a1.Rows⟩ : ferrymanref13_Node) t7 hr0_0 hr0_1 hr0_2 hr1_0 hr1_1 hr1_2 ht8) S rfl rfl (by rintro _ _ _ ⟨_, rfl⟩; exact flat_nil) ?_
  rintro _ w9 _ Γ' E' S ⟨rfl, rfl⟩
  replace E := E.trans E'
  clear E'
  refine W_v (.bool t7) (x_assign rfl) rfl ?_
  refine Wl_nil ?_
  refine tn ?_
  refine Wp_ret ?_
  obtain rfl := Option.some.inj H
  exact ⟨_, _, _, fun w1 e1 => run_resR (vs := [.bool t7]) (FA.cons (rfl) (FA.nil)), HM, E, S.pick [] (by decide), ⟨rfl, rfl⟩⟩
def ferrymanlaw13_ForkBack (k : Nat) (a0 : fork_Node) (a1 : Str) (a2 : Int) (a3 : Int) : Option (Bool) :=
  (Option.bind (ferrymanlaw13_large k a0) (fun t4 => (Option.bind (α := Bool) (if (t4 || (decide ((a1.length : Int) > (3000 : Int)))) = true then some (true) else (Option.bind (ferrymanlaw13_awake k ) (fun t17 => some ((!t17))))) (fun x15 => (Option.bind (α := Bool) (if x15 = true then some (true) else (Option.bind (fork_May k a0) (fun t30 => some ((!t30))))) (fun x28 => (if x28 = true then (Option.bind (ferrymanlaw13_awake k ) (fun t35 => some t35)) else (Option.bind (fork_Place k a0 a1) (fun t38 => (if a0.Leaf = true then (if t38.2 = true then (Option.bind (fork_Take k a0 a1) (fun t43 => (if 0 ≤ t38.1 ∧ t38.1 < (a0.Rows.length : Int) then (Option.bind (α := Bool × List Str × List Int × List Int × Int) (Option.bind (fork_Put k t43.1 a1 (rd a0.Rows t38.1)) (fun t274 => some (t274.1.Leaf, t274.1.Keys, t274.1.Kids, t274.1.Rows, t274.2))) (fun ⟨x260, x261, x265, x269, x273⟩ => (Option.bind (α := Bool) (if (t43.2 == (0 : Int)) = true then (Option.bind (fork_May k t43.1) (fun t352 => some (t352))) else some (false)) (fun x350 => (Option.bind (α := Bool) (if ((x350 && ((t43.1.Keys.length : Int) == (IntKind.i64.wrap ((a0.Keys.length : Int) - (1 : Int))))) && (x273 == (0 : Int))) = true then (Option.bind (ferrymanlaw13_ForkBack_1 k (⟨x260, x261, x265, x269⟩ : fork_Node) a0) (fun t411 => some (t411))) else some (false)) (fun x387 => some x387)))))) else none))) else (Option.bind (fork_Put k a0 a1 a2) (fun t419 => (Option.bind (fork_Take k t419.1 a1) (fun t435 => (Option.bind (fork_Place k t419.1 a1) (fun t451 => (Option.bind (α := Bool) (if (t419.2 == (0 : Int)) = true then (Option.bind (fork_May k t419.1) (fun t463 => some (t463))) else some (false)) (fun x461 => (Option.bind (α := Bool) (if ((x461 && t451.2) && (t451.1 == t38.1)) = true then (if 0 ≤ t38.1 ∧ t38.1 < (t419.1.Rows.length : Int) then some (((rd t419.1.Rows t38.1) == a2)) else none) else some (false)) (fun x490 => (Option.bind (α := Bool) (if (x490 && (t435.2 == (0 : Int))) = true then (Option.bind (ferrymanlaw13_ForkBack_1 k t435.1 a0) (fun t557 => some (t557))) else some (false)) (fun x533 => some x533))))))))))))) else (if t38.2 = true then (Option.bind (fork_Cut k a0 (IntKind.i64.wrap (t38.1 + (1 : Int)))) (fun t566 => (if 0 ≤ (IntKind.i64.wrap (t38.1 + (1 : Int))) ∧ (IntKind.i64.wrap (t38.1 + (1 : Int))) < (a0.Kids.length : Int) then (Option.bind (α := Bool × List Str × List Int × List Int × Int) (Option.bind (fork_Graft k t566.1 a1 (rd a0.Kids (IntKind.i64.wrap (t38.1 + (1 : Int))))) (fun t797 => some (t797.1.Leaf, t797.1.Keys, t797.1.Kids, t797.1.Rows, t797.2))) (fun ⟨x783, x784, x788, x792, x796⟩ => (Option.bind (α := Bool) (if (t566.2 == (0 : Int)) = true then (Option.bind (fork_May k t566.1) (fun t875 => some (t875))) else some (false)) (fun x873 => (Option.bind (α := Bool) (if (x873 && (x796 == (0 : Int))) = true then (Option.bind (ferrymanlaw13_ForkBack_1 k (⟨x783, x784, x788, x792⟩ : fork_Node) a0) (fun t933 => some (t933))) else some (false)) (fun x909 => some x909)))))) else none))) else (Option.bind (fork_Graft k a0 a1 a3) (fun t941 => (Option.bind (fork_Kid k t941.1 a1) (fun t957 => (Option.bind (fork_Cut k t941.1 t957) (fun t960 => (Option.bind (α := Bool) (if (t941.2 == (0 : Int)) = true then (Option.bind (fork_May k t941.1) (fun t985 => some (t985))) else some (false)) (fun x983 => (Option.bind (α := Bool) (if (x983 && (t957 == (IntKind.i64.wrap (t38.1 + (1 : Int))))) = true then (if 0 ≤ t957 ∧ t957 < (t941.1.Kids.length : Int) then some (((rd t941.1.Kids t957) == a3)) else none) else some (false)) (fun x1011 => (Option.bind (α := Bool) (if (x1011 && (t960.2 == (0 : Int))) = true then (Option.bind (ferrymanlaw13_ForkBack_1 k t960.1 a0) (fun t1078 => some (t1078))) else some (false)) (fun x1054 => some x1054)))))))))))))))))))))))
set_option maxHeartbeats 2000000 in
theorem ferrymanlaw13_ForkBack.mono {k : Nat} {a0 : fork_Node} {a1 : Str} {a2 : Int} {a3 : Int} : OLe (ferrymanlaw13_ForkBack k a0 a1 a2 a3) (ferrymanlaw13_ForkBack (k + 1) a0 a1 a2 a3) := by
  unfold ferrymanlaw13_ForkBack
  repeat' (first | with_reducible exact OLe.none | with_reducible exact OLe.some | with_reducible refine OLe.ite ?_ ?_ | with_reducible refine OLe.bind ?_ (fun _ => ?_) | with_reducible exact ferrymanlaw13_ForkBack_1.mono | with_reducible exact ferrymanlaw13_awake.mono | with_reducible exact ferrymanlaw13_large.mono | with_reducible exact fork_Cut.mono | with_reducible exact fork_Graft.mono | with_reducible exact fork_Kid.mono | with_reducible exact fork_May.mono | with_reducible exact fork_Place.mono | with_reducible exact fork_Put.mono | with_reducible exact fork_Take.mono | refine OLe.bind ?_ (fun _ => ?_) | refine OLe.ite ?_ ?_ | refine OLe.elim (fun _ => ?_) (fun _ => ?_) | split)
set_option maxHeartbeats 8000000 in
set_option maxRecDepth 100000 in
theorem ferrymanlaw13_ForkBack.con (k : Nat) (M : Hp) (A0_0 : Option Addr) (c0_0 : Nat) (A0_1 : Option Addr) (c0_1 : Nat) (A0_2 : Option Addr) (c0_2 : Nat) (a0 : fork_Node) (a1 : Str) (a2 : Int) (a3 : Int) (r : Bool) (hr0_0 : SlR rStr M (.slice A0_0 a0.Keys.length c0_0) a0.Keys) (hr0_1 : SlR (rInt .i64) M (.slice A0_1 a0.Kids.length c0_1) a0.Kids) (hr0_2 : SlR (rInt .u64) M (.slice A0_2 a0.Rows.length c0_2) a0.Rows) (h : ferrymanlaw13_ForkBack k a0 a1 a2 a3 = some r) : Con Try.prog 5 #[.agg #[.bool a0.Leaf, .slice A0_0 a0.Keys.length c0_0, .slice A0_1 a0.Kids.length c0_1, .slice A0_2 a0.Rows.length c0_2], .string (bs a1), .int .u64 a2, .int .i64 a3] M [] (fun v M' Γ' => v = .bool r ∧ Γ' = []) := by
  refine con_of_wp Try.func5 rfl Try.ntmps5 Try.results5 rfl ?_
  intro w F rn S hrn
  have E := Ext.refl w
  have HM := Hp.le_refl M
  have H := h
  unfold ferrymanlaw13_ForkBack at H
  refine Wp_seq ?_
  refine Wp_region_lit ?_
  refine W_box S #[.bool a0.Leaf, .slice A0_0 a0.Keys.length c0_0, .slice A0_1 a0.Kids.length c0_1, .slice A0_2 a0.Rows.length c0_2] rfl rfl rfl ?_
  intro b1 w2 E' S
  replace E := E.trans E'
  clear E'
  refine W_v (.bool false) (x_assign rfl) rfl ?_
  refine Wl_nil ?_
  refine tn ?_
  refine Wp_seq ?_
  refine Wp_seq ?_
  refine Wp_region_lit ?_
  refine W_v (.agg #[.bool a0.Leaf, .slice A0_0 a0.Keys.length c0_0, .slice A0_1 a0.Kids.length c0_1, .slice A0_2 a0.Rows.length c0_2]) (x_loadA (S.blk 0 rfl) ty26 rfl (sub_of_extract rfl) rfl rfl) rfl ?_
  obtain ⟨t4, ht5, H⟩ := bindS H
  refine W_callF fn9 (ferrymanlaw13_large.con k M A0_0 c0_0 A0_1 c0_1 A0_2 c0_2 a0 t4 hr0_0 hr0_1 hr0_2 ht5) S rfl rfl (by rintro _ _ _ ⟨_, rfl⟩; exact flat_nil) ?_
  rintro _ w6 _ Γ' E' S ⟨rfl, rfl⟩
  replace E := E.trans E'
  clear E'
  refine W_v (.bool t4) (x_move rfl) rfl ?_
  refine Wl_cutN 4 (fun ρ w' => Agree ρ [(1, .string (bs a1)), (2, .int .u64 a2), (3, .int .i64 a3), (4, .pointer (some ⟨b1, 0, none⟩)), (37, .bool (t4 || (decide ((a1.length : Int) > (3000 : Int)))))] ∧ w6 = w') ?_ ?_
  · rcases boolCases t4 with hb7 | hb7
    · skip
      refine W_yes (congrArg some hb7) ?_
      refine W_v (.string (bs a1)) (x_move rfl) rfl ?_
      refine W_yes (congrArg some hb7) ?_
      refine W_v (.int .i64 (a1.length : Int)) (x_len_str Try.underlying9 rfl) rfl ?_
      refine W_yes (congrArg some hb7) ?_
      refine W_v (.bool (decide ((a1.length : Int) > (3000 : Int)))) (x_ibin rfl rfl rfl rfl) rfl ?_
      refine W_v (.bool (decide ((a1.length : Int) > (3000 : Int)))) (x_pick (k := false) (congrArg Value.bool hb7) rfl) rfl ?_
      refine Wl_nil ?_
      exact ⟨⟨rfl, rfl, rfl, rfl, (by first | rfl | (rw [hb7]; rfl) | (simp only [hb7]; rfl)), trivial⟩, rfl⟩
    · skip
      refine W_no (skF hb7) rfl ?_
      refine W_no (skF hb7) rfl ?_
      refine W_no (skF hb7) rfl ?_
      refine W_v (.bool true) (x_pick (k := true) (congrArg Value.bool hb7) rfl) rfl ?_
      refine Wl_nil ?_
      exact ⟨⟨rfl, rfl, rfl, rfl, (by first | rfl | (rw [hb7]; rfl) | (simp only [hb7]; rfl)), trivial⟩, rfl⟩
  rintro ρ _ ⟨hρ, rfl⟩
  rw [agree_eta hρ]
  clear hρ
  refine W_v (.bool (t4 || (decide ((a1.length : Int) > (3000 : Int))))) (x_move rfl) rfl ?_
  obtain ⟨o16, o16h, o16H⟩ := bindS H
  clear H
  refine Wl_cutN 3 (fun ρ w' => ∃ (x15 : Bool), (x15) = o16 ∧ Agree ρ [(1, .string (bs a1)), (2, .int .u64 a2), (3, .int .i64 a3), (4, .pointer (some ⟨b1, 0, none⟩)), (41, .bool x15)] ∧ Ext w w' ∧ St w' M F [Blk b1 (.cells #[.bool a0.Leaf, .slice A0_0 a0.Keys.length c0_0, .slice A0_1 a0.Kids.length c0_1, .slice A0_2 a0.Rows.length c0_2] 26 (0, 0))]) ?_ ?_
  · have H := o16h
    rcases iteS H with ⟨hb14, H⟩ | ⟨hb14, H⟩
    · skip
      refine W_no (skF hb14) rfl ?_
      refine W_no (skF hb14) rfl ?_
      refine W_v (.bool true) (x_pick (k := true) (congrArg Value.bool hb14) rfl) rfl ?_
      refine Wl_nil ?_
      exact ⟨true, Option.some.inj H, ⟨rfl, rfl, rfl, rfl, rfl, trivial⟩, E, S.pick [0] (by decide)⟩
    · skip
      refine W_yes (congrArg some hb14) ?_
      obtain ⟨t17, ht18, H⟩ := bindS H
      refine W_callF fn10 (ferrymanlaw13_awake.con k M  t17  ht18) S rfl rfl (by rintro _ _ _ ⟨_, rfl⟩; exact flat_nil) ?_
      rintro _ w19 _ Γ' E' S ⟨rfl, rfl⟩
      replace E := E.trans E'
      clear E'
      refine W_yes (congrArg some hb14) ?_
      refine W_v (.bool (!t17)) (x_not rfl) rfl ?_
      refine W_v (.bool (!t17)) (x_pick (k := false) (congrArg Value.bool hb14) rfl) rfl ?_
      refine Wl_nil ?_
      exact ⟨(!t17), Option.some.inj H, ⟨rfl, rfl, rfl, rfl, rfl, trivial⟩, E, S.pick [0] (by decide)⟩
  clear o16h
  rintro ρ w20 ⟨x15, rfl, hρ, E, S⟩
  rw [agree_eta hρ]
  clear hρ
  have H := o16H
  clear o16H
  refine W_v (.bool x15) (x_move rfl) rfl ?_
  obtain ⟨o29, o29h, o29H⟩ := bindS H
  clear H
  refine Wl_cutN 4 (fun ρ w' => ∃ (x28 : Bool), (x28) = o29 ∧ Agree ρ [(1, .string (bs a1)), (2, .int .u64 a2), (3, .int .i64 a3), (4, .pointer (some ⟨b1, 0, none⟩)), (46, .bool x28)] ∧ Ext w w' ∧ St w' M F [Blk b1 (.cells #[.bool a0.Leaf, .slice A0_0 a0.Keys.length c0_0, .slice A0_1 a0.Kids.length c0_1, .slice A0_2 a0.Rows.length c0_2] 26 (0, 0))]) ?_ ?_
  · have H := o29h
    rcases iteS H with ⟨hb27, H⟩ | ⟨hb27, H⟩
    · skip
      refine W_no (skF hb27) rfl ?_
      refine W_no (skF hb27) rfl ?_
      refine W_no (skF hb27) rfl ?_
      refine W_v (.bool true) (x_pick (k := true) (congrArg Value.bool hb27) rfl) rfl ?_
      refine Wl_nil ?_
      exact ⟨true, Option.some.inj H, ⟨rfl, rfl, rfl, rfl, rfl, trivial⟩, E, S.pick [0] (by decide)⟩
    · skip
      refine W_yes (congrArg some hb27) ?_
      refine W_v (.agg #[.bool a0.Leaf, .slice A0_0 a0.Keys.length c0_0, .slice A0_1 a0.Kids.length c0_1, .slice A0_2 a0.Rows.length c0_2]) (x_loadA (S.blk 0 rfl) ty26 rfl (sub_of_extract rfl) rfl rfl) rfl ?_
      refine W_yes (congrArg some hb27) ?_
      obtain ⟨t30, ht31, H⟩ := bindS H
      refine W_callF fn11 (fork_May.con k M A0_0 c0_0 A0_1 c0_1 A0_2 c0_2 a0 t30 hr0_0 hr0_1 hr0_2 ht31) S rfl rfl (by rintro _ _ _ ⟨_, rfl⟩; exact flat_nil) ?_
      rintro _ w32 _ Γ' E' S ⟨rfl, rfl⟩
      replace E := E.trans E'
      clear E'
      refine W_yes (congrArg some hb27) ?_
      refine W_v (.bool (!t30)) (x_not rfl) rfl ?_
      refine W_v (.bool (!t30)) (x_pick (k := false) (congrArg Value.bool hb27) rfl) rfl ?_
      refine Wl_nil ?_
      exact ⟨(!t30), Option.some.inj H, ⟨rfl, rfl, rfl, rfl, rfl, trivial⟩, E, S.pick [0] (by decide)⟩
  clear o29h
  rintro ρ w33 ⟨x28, rfl, hρ, E, S⟩
  rw [agree_eta hρ]
  clear hρ
  have H := o29H
  clear o29H
  refine Wl_nil ?_
  refine tn ?_
  rcases iteS H with ⟨hb34, H⟩ | ⟨hb34, H⟩
  · refine Wp_cond_true (congrArg Value.bool hb34) ?_
    refine Wp_seq ?_
    refine Wp_region_lit ?_
    obtain ⟨t35, ht36, H⟩ := bindS H
    refine W_callF fn10 (ferrymanlaw13_awake.con k M  t35  ht36) S rfl rfl (by rintro _ _ _ ⟨_, rfl⟩; exact flat_nil) ?_
    rintro _ w37 _ Γ' E' S ⟨rfl, rfl⟩
    replace E := E.trans E'
    clear E'
    refine W_v (.bool t35) (x_assign rfl) rfl ?_
    refine Wl_nil ?_
    refine tn ?_
    refine Wp_ret ?_
    refine tr (?_)
    obtain rfl := Option.some.inj H
    exact ⟨_, _, _, fun w1 e1 => run_resR (vs := [.bool t35]) (FA.cons (rfl) (FA.nil)), HM, E, S.pick [] (by decide), ⟨rfl, rfl⟩⟩
  refine Wp_cond_false (congrArg Value.bool hb34) ?_
  refine Wp_skip ?_
  refine tn ?_
  refine Wp_seq ?_
  refine Wp_region_lit ?_
  refine W_v (.func (.func 17) #[] #[]) (x_assign rfl) rfl ?_
  refine Wl_nil ?_
  refine tn ?_
  refine Wp_seq ?_
  refine Wp_region_lit ?_
  refine W_v (.agg #[.bool a0.Leaf, .slice A0_0 a0.Keys.length c0_0, .slice A0_1 a0.Kids.length c0_1, .slice A0_2 a0.Rows.length c0_2]) (x_loadA (S.blk 0 rfl) ty26 rfl (sub_of_extract rfl) rfl rfl) rfl ?_
  refine W_v (.string (bs a1)) (x_move rfl) rfl ?_
  obtain ⟨t38, ht39, H⟩ := bindS H
  refine W_callF fn12 (fork_Place.con k M A0_0 c0_0 A0_1 c0_1 A0_2 c0_2 a0 a1 t38 hr0_0 hr0_1 hr0_2 ht39) S rfl rfl (by rintro _ _ _ ⟨_, rfl⟩; exact flat_nil) ?_
  rintro _ w40 _ Γ' E' S ⟨rfl, rfl⟩
  replace E := E.trans E'
  clear E'
  refine W_v (.tuple #[.int .i64 t38.1, .bool t38.2]) (x_move rfl) rfl ?_
  refine W_v (.int .i64 t38.1) (x_extract rfl rfl) rfl ?_
  refine W_v (.bool t38.2) (x_extract rfl rfl) rfl ?_
  refine W_v (.int .i64 t38.1) (x_assign rfl) rfl ?_
  refine W_v (.bool t38.2) (x_assign rfl) rfl ?_
  refine Wl_nil ?_
  refine tn ?_
  refine Wp_seq ?_
  refine Wp_seq ?_
  refine Wp_region_lit ?_
  refine W_v (.pointer (some ⟨b1, 0, none⟩)) (x_fieldAddr (o := 0) (off := 0) Try.underlying26 rfl ty4 rfl rfl) rfl ?_
  refine W_v (.bool a0.Leaf) (x_load (S.blk 0 rfl) ty4 rfl rfl) rfl ?_
  refine Wl_nil ?_
  refine tn ?_
  rcases iteS H with ⟨hb41, H⟩ | ⟨hb41, H⟩
  · refine Wp_cond_true (congrArg Value.bool hb41) ?_
    refine Wp_seq ?_
    refine Wp_seq ?_
    refine Wp_region_lit ?_
    refine W_v (.bool t38.2) (x_move rfl) rfl ?_
    refine Wl_nil ?_
    refine tn ?_
    rcases iteS H with ⟨hb42, H⟩ | ⟨hb42, H⟩
    · refine Wp_cond_true (congrArg Value.bool hb42) ?_
      refine Wp_seq ?_
      refine Wp_region_lit ?_
      refine W_v (.agg #[.bool a0.Leaf, .slice A0_0 a0.Keys.length c0_0, .slice A0_1 a0.Kids.length c0_1, .slice A0_2 a0.Rows.length c0_2]) (x_loadA (S.blk 0 rfl) ty26 rfl (sub_of_extract rfl) rfl rfl) rfl ?_
      refine W_v (.string (bs a1)) (x_move rfl) rfl ?_
      obtain ⟨t43, ht44, H⟩ := bindS H
      refine W_callF fn18 (fork_Take.con k M A0_0 c0_0 A0_1 c0_1 A0_2 c0_2 a0 a1 t43 hr0_0 hr0_1 hr0_2 ht44) S rfl rfl (by rintro _ _ _ ⟨_, _, _, _, _, _, _, rfl⟩; exact (flat_cons (flat_row (fun _ _ _ _ h => h)) (flat_cons (flat_row (fun _ _ _ _ h => h)) (flat_cons (flat_row (fun _ _ _ _ h => h)) flat_nil)))) ?_
      rintro _ w54 _ Γ' E' S ⟨A45, c46, A48, c49, A51, c52, rfl, rfl⟩
      replace E := E.trans E'
      clear E'
      refine W_v (.tuple #[.agg #[.bool t43.1.Leaf, .slice A45 t43.1.Keys.length c46, .slice A48 t43.1.Kids.length c49, .slice A51 t43.1.Rows.length c52], .int .i64 t43.2]) (x_move rfl) rfl ?_
      refine W_v (.agg #[.bool t43.1.Leaf, .slice A45 t43.1.Keys.length c46, .slice A48 t43.1.Kids.length c49, .slice A51 t43.1.Rows.length c52]) (x_extract rfl rfl) rfl ?_
      refine W_v (.int .i64 t43.2) (x_extract rfl rfl) rfl ?_
      refine W_alloc S #[.bool false, .slice none 0 0, .slice none 0 0, .slice none 0 0] ty26 rfl rfl ?_
      intro b55 w56 E' S
      replace E := E.trans E'
      clear E'
      refine W_store S 0 rfl ty26 rfl rfl [.bool t43.1.Leaf, .slice A45 t43.1.Keys.length c46, .slice A48 t43.1.Kids.length c49, .slice A51 t43.1.Rows.length c52] rfl rfl rfl #[.bool t43.1.Leaf, .slice A45 t43.1.Keys.length c46, .slice A48 t43.1.Kids.length c49, .slice A51 t43.1.Rows.length c52] rfl rfl ?_
      intro w58 E' S
      replace E := E.trans E'
      clear E'
      refine W_v (.int .i64 t43.2) (x_assign rfl) rfl ?_
      refine Wl_nil ?_
      refine tn ?_
      refine Wp_seq ?_
      refine Wp_region_any (S := fun w' => ∃ Mx, M.le Mx ∧ St w' Mx F [Blk b55 (.cells #[.bool t43.1.Leaf, .slice A45 t43.1.Keys.length c46, .slice A48 t43.1.Kids.length c49, .slice A51 t43.1.Rows.length c52] 26 (0, 0)), Row rStr 9 (.slice A45 t43.1.Keys.length c46) t43.1.Keys, Row (rInt .i64) 3 (.slice A48 t43.1.Kids.length c49) t43.1.Kids, Row (rInt .u64) 41 (.slice A51 t43.1.Rows.length c52) t43.1.Rows, Blk b1 (.cells #[.bool a0.Leaf, .slice A0_0 a0.Keys.length c0_0, .slice A0_1 a0.Kids.length c0_1, .slice A0_2 a0.Rows.length c0_2] 26 (0, 0))]) mixed ?_
      intro w200 hw201 E'
      replace S := S.heap hw201
      replace E := E.trans E'
      clear E'
      refine Wa_take (i := 0) rfl (by kernel_rfl) rfl rfl (.agg #[.bool t43.1.Leaf, .slice A45 t43.1.Keys.length c46, .slice A48 t43.1.Kids.length c49, .slice A51 t43.1.Rows.length c52]) rfl (fun w' h' => x_loadA (cls_blk h' 0 rfl) ty26 rfl (sub_of_extract rfl) rfl rfl) (⟨M, Hp.le_refl M, S.pick [0, 1, 2, 3, 4] (by decide)⟩) ?_
      refine Wa_take (i := 1) rfl (by kernel_rfl) rfl rfl (.string (bs a1)) rfl (fun w' h' => x_move rfl) (⟨M, Hp.le_refl M, S.pick [0, 1, 2, 3, 4] (by decide)⟩) ?_
      refine Wa_take (i := 2) rfl (by kernel_rfl) rfl rfl (.pointer (some ⟨b1, 3, none⟩)) rfl (fun w' h' => x_fieldAddr (o := 0) (off := 3) Try.underlying26 rfl ty24 rfl rfl) (⟨M, Hp.le_refl M, S.pick [0, 1, 2, 3, 4] (by decide)⟩) ?_
      refine Wa_take (i := 3) rfl (by kernel_rfl) rfl rfl (.slice A0_2 a0.Rows.length c0_2) rfl (fun w' h' => x_load (cls_blk h' 4 rfl) ty24 rfl rfl) (⟨M, Hp.le_refl M, S.pick [0, 1, 2, 3, 4] (by decide)⟩) ?_
      refine Wa_take (i := 4) rfl (by kernel_rfl) rfl rfl (.int .i64 t38.1) rfl (fun w' h' => x_move rfl) (⟨M, Hp.le_refl M, S.pick [0, 1, 2, 3, 4] (by decide)⟩) ?_
      obtain ⟨⟨p202, p203⟩, H⟩ := chkS H
      obtain ⟨b204, o205, cs206, _, _, ee211, hb207, vs208, hR209, hc210⟩ := SlW.at' hr0_2 p202 p203
      obtain rfl : vs208 = _ := hR209
      refine Wa_take (i := 5) rfl (by kernel_rfl) rfl rfl (.pointer (some ⟨b204, o205 + t38.1.toNat * 1, none⟩)) rfl (fun w' h' => x_indexAddr Try.underlying24 ty41 (slA ee211) rfl p202 p203) (⟨M, Hp.le_refl M, S.pick [0, 1, 2, 3, 4] (by decide)⟩) ?_
      refine Wa_take (i := 6) rfl (by kernel_rfl) rfl rfl (.int .u64 (rd a0.Rows t38.1)) rfl (fun w' h' => x_load (cls_frz h' hb207) ty41 rfl (hc210 0 _ rfl)) (⟨M, Hp.le_refl M, S.pick [0, 1, 2, 3, 4] (by decide)⟩) ?_
      obtain ⟨o304, o304h, o304H⟩ := bindS H
      clear H
      refine Wa_join (fun ρ w' => ∃ (x260 : Bool) (x261 : List Str) (x265 : List Int) (x269 : List Int) (x273 : Int) (A262 : Option Addr) (c263 : Nat) (A266 : Option Addr) (c267 : Nat) (A270 : Option Addr) (c271 : Nat) (b258 : Nat), (x260, x261, x265, x269, x273) = o304 ∧ Agree ρ [(4, .pointer (some ⟨b1, 0, none⟩)), (9, .func (.func 17) #[] #[]), (12, .pointer (some ⟨b55, 0, none⟩)), (13, .int .i64 t43.2), (14, .pointer (some ⟨b258, 0, none⟩)), (72, .agg #[.bool x260, .slice A262 x261.length c263, .slice A266 x265.length c267, .slice A270 x269.length c271]), (73, .int .i64 x273)] ∧ Ext w w' ∧ St w' M F [Blk b258 (.cells #[.bool false, .slice none 0 0, .slice none 0 0, .slice none 0 0] 26 (0, 0)), Row (rInt .u64) 41 (.slice A270 x269.length c271) x269, Row (rInt .i64) 3 (.slice A266 x265.length c267) x265, Row rStr 9 (.slice A262 x261.length c263) x261, Row rStr 9 (.slice A45 t43.1.Keys.length c46) t43.1.Keys, Row (rInt .i64) 3 (.slice A48 t43.1.Kids.length c49) t43.1.Kids, Row (rInt .u64) 41 (.slice A51 t43.1.Rows.length c52) t43.1.Rows, Blk b55 (.cells #[.bool t43.1.Leaf, .slice A45 t43.1.Keys.length c46, .slice A48 t43.1.Kids.length c49, .slice A51 t43.1.Rows.length c52] 26 (0, 0)), Blk b1 (.cells #[.bool a0.Leaf, .slice A0_0 a0.Keys.length c0_0, .slice A0_1 a0.Kids.length c0_1, .slice A0_2 a0.Rows.length c0_2] 26 (0, 0))]) 2 (Ls 14 [0, 1, 2, 3, 4, 5, 6, 7, 8, 9, 10, 11]) ?_ ?_
      rotate_left
      · intro hq308
        clear o304H
        refine Wa_join (fun ρ w' => ∃ (x241 : Bool) (x242 : List Str) (x246 : List Int) (x250 : List Int) (x254 : Int) (A243 : Option Addr) (c244 : Nat) (A247 : Option Addr) (c248 : Nat) (A251 : Option Addr) (c252 : Nat), some (x241, x242, x246, x250, x254) = some o304 ∧ Agree ρ [(4, .pointer (some ⟨b1, 0, none⟩)), (9, .func (.func 17) #[] #[]), (12, .pointer (some ⟨b55, 0, none⟩)), (13, .int .i64 t43.2), (72, .agg #[.bool x241, .slice A243 x242.length c244, .slice A247 x246.length c248, .slice A251 x250.length c252]), (73, .int .i64 x254)] ∧ Ext w w' ∧ St w' M F [Row (rInt .u64) 41 (.slice A251 x250.length c252) x250, Row (rInt .i64) 3 (.slice A247 x246.length c248) x246, Row rStr 9 (.slice A243 x242.length c244) x242, Row rStr 9 (.slice A45 t43.1.Keys.length c46) t43.1.Keys, Row (rInt .i64) 3 (.slice A48 t43.1.Kids.length c49) t43.1.Kids, Row (rInt .u64) 41 (.slice A51 t43.1.Rows.length c52) t43.1.Rows, Blk b55 (.cells #[.bool t43.1.Leaf, .slice A45 t43.1.Keys.length c46, .slice A48 t43.1.Kids.length c49, .slice A51 t43.1.Rows.length c52] 26 (0, 0)), Blk b1 (.cells #[.bool a0.Leaf, .slice A0_0 a0.Keys.length c0_0, .slice A0_1 a0.Kids.length c0_1, .slice A0_2 a0.Rows.length c0_2] 26 (0, 0))]) 3 (Ls 14 [0, 1, 2, 3, 4, 5, 6, 7, 8, 9, 10]) ?_ ?_
        · clear o304h
          rintro ρ w309 ⟨x241, x242, x246, x250, x254, A243, c244, A247, c248, A251, c252, H, hρ, E, S⟩
          rw [agree_eta hρ]
          clear hρ
          refine Wa_solo (i := 11) rfl (by kernel_rfl) ?_
          refine W_alloc S #[.bool false, .slice none 0 0, .slice none 0 0, .slice none 0 0] ty26 rfl rfl ?_
          intro b310 w311 E' S
          replace E := E.trans E'
          clear E'
          refine Wl_nil (on_n ⟨⟨M, Hp.le_refl M, S.pick [7, 4, 5, 6, 8] (by decide)⟩, ?_⟩)
          exact hq308 _ _ ⟨x241, x242, x246, x250, x254, A243, c244, A247, c248, A251, c252, b310, Option.some.inj H, ⟨rfl, rfl, rfl, rfl, rfl, rfl, rfl, trivial⟩, E, S.pick [0, 1, 2, 3, 4, 5, 6, 7, 8] (by decide)⟩
        intro hq307
        refine Wa_join (fun ρ w' => ∃ (b227 : Nat), (Option.bind (fork_Put k t43.1 a1 (rd a0.Rows t38.1)) (fun t289 => some (t289.1.Leaf, t289.1.Keys, t289.1.Kids, t289.1.Rows, t289.2))) = some o304 ∧ Agree ρ [(4, .pointer (some ⟨b1, 0, none⟩)), (9, .func (.func 17) #[] #[]), (12, .pointer (some ⟨b55, 0, none⟩)), (13, .int .i64 t43.2), (14, .pointer (some ⟨b227, 0, none⟩)), (64, .agg #[.bool t43.1.Leaf, .slice A45 t43.1.Keys.length c46, .slice A48 t43.1.Kids.length c49, .slice A51 t43.1.Rows.length c52]), (65, .string (bs a1)), (70, .int .u64 (rd a0.Rows t38.1))] ∧ Ext w w' ∧ St w' M F [Blk b227 (.cells #[.bool false, .slice none 0 0, .slice none 0 0, .slice none 0 0] 26 (0, 0)), Blk b55 (.cells #[.bool t43.1.Leaf, .slice A45 t43.1.Keys.length c46, .slice A48 t43.1.Kids.length c49, .slice A51 t43.1.Rows.length c52] 26 (0, 0)), Row rStr 9 (.slice A45 t43.1.Keys.length c46) t43.1.Keys, Row (rInt .i64) 3 (.slice A48 t43.1.Kids.length c49) t43.1.Kids, Row (rInt .u64) 41 (.slice A51 t43.1.Rows.length c52) t43.1.Rows, Blk b1 (.cells #[.bool a0.Leaf, .slice A0_0 a0.Keys.length c0_0, .slice A0_1 a0.Kids.length c0_1, .slice A0_2 a0.Rows.length c0_2] 26 (0, 0))]) 6 (Ls 14 [0, 1, 2, 3, 4, 5, 6, 11]) ?_ ?_
        · clear o304h
          rintro ρ w313 ⟨b227, H, hρ, E, S⟩
          rw [agree_eta hρ]
          clear hρ
          refine Wa_solo (i := 7) rfl (by kernel_rfl) ?_
          replace S : St w313 M F [Row rStr 9 (.slice A45 t43.1.Keys.length c46) t43.1.Keys, Row (rInt .i64) 3 (.slice A48 t43.1.Kids.length c49) t43.1.Kids, Row (rInt .u64) 41 (.slice A51 t43.1.Rows.length c52) t43.1.Rows, Blk b227 (.cells #[.bool false, .slice none 0 0, .slice none 0 0, .slice none 0 0] 26 (0, 0)), Blk b55 (.cells #[.bool t43.1.Leaf, .slice A45 t43.1.Keys.length c46, .slice A48 t43.1.Kids.length c49, .slice A51 t43.1.Rows.length c52] 26 (0, 0)), Blk b1 (.cells #[.bool a0.Leaf, .slice A0_0 a0.Keys.length c0_0, .slice A0_1 a0.Kids.length c0_1, .slice A0_2 a0.Rows.length c0_2] 26 (0, 0))] := S.pick [2, 3, 4, 0, 1, 5] (by decide)
          obtain ⟨t314, ht315, H⟩ := bindS H
          refine W_callN 3 fn19 (fun h9 hs9 hd9 => fork_Put.con k _ A45 c46 A48 c49 A51 c52 t43.1 a1 (rd a0.Rows t38.1) t314 (Sats.row hs9 hd9 0 rfl) (Sats.row hs9 hd9 1 rfl) (Sats.row hs9 hd9 2 rfl) ht315) S rfl rfl (by rintro _ _ _ ⟨_, _, _, _, _, _, _, rfl⟩; exact (flat_cons (flat_row (fun _ _ _ _ h => h)) (flat_cons (flat_row (fun _ _ _ _ h => h)) (flat_cons (flat_row (fun _ _ _ _ h => h)) flat_nil)))) ?_
          rintro _ w325 _ Γ' E' S ⟨A316, c317, A319, c320, A322, c323, rfl, rfl⟩
          replace E := E.trans E'
          clear E'
          refine Wl_nil (on_n ⟨⟨M, Hp.le_refl M, S.pick [7, 3, 4, 5, 8] (by decide)⟩, ?_⟩)
          refine Wa_take (i := 8) rfl (by kernel_rfl) rfl rfl (.tuple #[.agg #[.bool t314.1.Leaf, .slice A316 t314.1.Keys.length c317, .slice A319 t314.1.Kids.length c320, .slice A322 t314.1.Rows.length c323], .int .i64 t314.2]) rfl (fun w' h' => x_move rfl) (⟨M, Hp.le_refl M, S.pick [7, 3, 4, 5, 8] (by decide)⟩) ?_
          refine Wa_take (i := 9) rfl (by kernel_rfl) rfl rfl (.agg #[.bool t314.1.Leaf, .slice A316 t314.1.Keys.length c317, .slice A319 t314.1.Kids.length c320, .slice A322 t314.1.Rows.length c323]) rfl (fun w' h' => x_extract rfl rfl) (⟨M, Hp.le_refl M, S.pick [7, 3, 4, 5, 8] (by decide)⟩) ?_
          refine Wa_take (i := 10) rfl (by kernel_rfl) rfl rfl (.int .i64 t314.2) rfl (fun w' h' => x_extract rfl rfl) (⟨M, Hp.le_refl M, S.pick [7, 3, 4, 5, 8] (by decide)⟩) ?_
          exact hq308 _ _ ⟨t314.1.Leaf, t314.1.Keys, t314.1.Kids, t314.1.Rows, t314.2, A316, c317, A319, c320, A322, c323, b227, Option.some.inj H, ⟨rfl, rfl, rfl, rfl, rfl, rfl, rfl, trivial⟩, E, S.pick [6, 2, 1, 0, 3, 4, 5, 7, 8] (by decide)⟩
        intro hq306
        have H := o304h
        refine Wa_oneOf (rs := [7, 11]) (by kernel_rfl) (by decide) ?_
        simp only [List.forall_mem_cons, List.not_mem_nil, false_implies, implies_true, and_true]
        refine ⟨?_, ?_⟩
        · refine ⟨_, rfl, ?_⟩
          replace S : St w200 M F [Row rStr 9 (.slice A45 t43.1.Keys.length c46) t43.1.Keys, Row (rInt .i64) 3 (.slice A48 t43.1.Kids.length c49) t43.1.Kids, Row (rInt .u64) 41 (.slice A51 t43.1.Rows.length c52) t43.1.Rows, Blk b55 (.cells #[.bool t43.1.Leaf, .slice A45 t43.1.Keys.length c46, .slice A48 t43.1.Kids.length c49, .slice A51 t43.1.Rows.length c52] 26 (0, 0)), Blk b1 (.cells #[.bool a0.Leaf, .slice A0_0 a0.Keys.length c0_0, .slice A0_1 a0.Kids.length c0_1, .slice A0_2 a0.Rows.length c0_2] 26 (0, 0))] := S.pick [1, 2, 3, 0, 4] (by decide)
          obtain ⟨t326, ht327, H⟩ := bindS H
          refine W_callN 3 fn19 (fun h9 hs9 hd9 => fork_Put.con k _ A45 c46 A48 c49 A51 c52 t43.1 a1 (rd a0.Rows t38.1) t326 (Sats.row hs9 hd9 0 rfl) (Sats.row hs9 hd9 1 rfl) (Sats.row hs9 hd9 2 rfl) ht327) S rfl rfl (by rintro _ _ _ ⟨_, _, _, _, _, _, _, rfl⟩; exact (flat_cons (flat_row (fun _ _ _ _ h => h)) (flat_cons (flat_row (fun _ _ _ _ h => h)) (flat_cons (flat_row (fun _ _ _ _ h => h)) flat_nil)))) ?_
          rintro _ w337 _ Γ' E' S ⟨A328, c329, A331, c332, A334, c335, rfl, rfl⟩
          replace E := E.trans E'
          clear E'
          refine Wl_nil (on_n ⟨⟨M, Hp.le_refl M, S.pick [6, 3, 4, 5, 7] (by decide)⟩, ?_⟩)
          refine Wa_take (i := 8) rfl (by kernel_rfl) rfl rfl (.tuple #[.agg #[.bool t326.1.Leaf, .slice A328 t326.1.Keys.length c329, .slice A331 t326.1.Kids.length c332, .slice A334 t326.1.Rows.length c335], .int .i64 t326.2]) rfl (fun w' h' => x_move rfl) (⟨M, Hp.le_refl M, S.pick [6, 3, 4, 5, 7] (by decide)⟩) ?_
          refine Wa_take (i := 9) rfl (by kernel_rfl) rfl rfl (.agg #[.bool t326.1.Leaf, .slice A328 t326.1.Keys.length c329, .slice A331 t326.1.Kids.length c332, .slice A334 t326.1.Rows.length c335]) rfl (fun w' h' => x_extract rfl rfl) (⟨M, Hp.le_refl M, S.pick [6, 3, 4, 5, 7] (by decide)⟩) ?_
          refine Wa_take (i := 10) rfl (by kernel_rfl) rfl rfl (.int .i64 t326.2) rfl (fun w' h' => x_extract rfl rfl) (⟨M, Hp.le_refl M, S.pick [6, 3, 4, 5, 7] (by decide)⟩) ?_
          exact hq307 _ _ ⟨t326.1.Leaf, t326.1.Keys, t326.1.Kids, t326.1.Rows, t326.2, A328, c329, A331, c332, A334, c335, H, ⟨rfl, rfl, rfl, rfl, rfl, rfl, trivial⟩, E, S.pick [2, 1, 0, 3, 4, 5, 6, 7] (by decide)⟩
        · refine ⟨_, rfl, ?_⟩
          refine W_alloc S #[.bool false, .slice none 0 0, .slice none 0 0, .slice none 0 0] ty26 rfl rfl ?_
          intro b338 w339 E' S
          replace E := E.trans E'
          clear E'
          refine Wl_nil (on_n ⟨⟨M, Hp.le_refl M, S.pick [1, 2, 3, 4, 5] (by decide)⟩, ?_⟩)
          exact hq306 _ _ ⟨b338, H, ⟨rfl, rfl, rfl, rfl, rfl, rfl, rfl, rfl, trivial⟩, E, S.pick [0, 1, 2, 3, 4, 5] (by decide)⟩
      clear o304h
      rintro ρ w341 ⟨x260, x261, x265, x269, x273, A262, c263, A266, c267, A270, c271, b258, rfl, hρ, E, S⟩
      rw [agree_eta hρ]
      clear hρ
      have H := o304H
      clear o304H
      refine Wa_solo (i := 12) rfl (by kernel_rfl) ?_
      refine W_store S 0 rfl ty26 rfl rfl [.bool x260, .slice A262 x261.length c263, .slice A266 x265.length c267, .slice A270 x269.length c271] rfl rfl rfl #[.bool x260, .slice A262 x261.length c263, .slice A266 x265.length c267, .slice A270 x269.length c271] rfl rfl ?_
      intro w342 E' S
      replace E := E.trans E'
      clear E'
      refine Wl_nil (on_n ⟨⟨M, Hp.le_refl M, S.pick [7, 4, 5, 6, 8] (by decide)⟩, ?_⟩)
      refine Wa_take (i := 13) rfl (by kernel_rfl) rfl rfl (.int .i64 x273) rfl (fun w' h' => x_assign rfl) (⟨M, Hp.le_refl M, S.pick [7, 4, 5, 6, 8] (by decide)⟩) ?_
      refine Wa_done (by kernel_rfl) ?_
      refine tn ?_
      refine Wp_seq ?_
      refine Wp_region_lit ?_
      refine W_v (.int .i64 t43.2) (x_move rfl) rfl ?_
      refine W_v (.bool (t43.2 == (0 : Int))) (x_ibin rfl rfl rfl rfl) rfl ?_
      refine W_v (.bool (t43.2 == (0 : Int))) (x_move rfl) rfl ?_
      obtain ⟨o351, o351h, o351H⟩ := bindS H
      clear H
      refine Wl_cutN 3 (fun ρ w' => ∃ (x350 : Bool), (x350) = o351 ∧ Agree ρ [(4, .pointer (some ⟨b1, 0, none⟩)), (9, .func (.func 17) #[] #[]), (12, .pointer (some ⟨b55, 0, none⟩)), (14, .pointer (some ⟨b258, 0, none⟩)), (15, .int .i64 x273), (79, .bool x350)] ∧ Ext w w' ∧ St w' M F [Row rStr 9 (.slice A45 t43.1.Keys.length c46) t43.1.Keys, Row (rInt .i64) 3 (.slice A48 t43.1.Kids.length c49) t43.1.Kids, Row (rInt .u64) 41 (.slice A51 t43.1.Rows.length c52) t43.1.Rows, Blk b258 (.cells #[.bool x260, .slice A262 x261.length c263, .slice A266 x265.length c267, .slice A270 x269.length c271] 26 (0, 0)), Row (rInt .u64) 41 (.slice A270 x269.length c271) x269, Row (rInt .i64) 3 (.slice A266 x265.length c267) x265, Row rStr 9 (.slice A262 x261.length c263) x261, Blk b55 (.cells #[.bool t43.1.Leaf, .slice A45 t43.1.Keys.length c46, .slice A48 t43.1.Kids.length c49, .slice A51 t43.1.Rows.length c52] 26 (0, 0)), Blk b1 (.cells #[.bool a0.Leaf, .slice A0_0 a0.Keys.length c0_0, .slice A0_1 a0.Kids.length c0_1, .slice A0_2 a0.Rows.length c0_2] 26 (0, 0))]) ?_ ?_
      · have H := o351h
        rcases iteS H with ⟨hb349, H⟩ | ⟨hb349, H⟩
        · skip
          refine W_yes (congrArg some hb349) ?_
          refine W_v (.agg #[.bool t43.1.Leaf, .slice A45 t43.1.Keys.length c46, .slice A48 t43.1.Kids.length c49, .slice A51 t43.1.Rows.length c52]) (x_loadA (S.blk 7 rfl) ty26 rfl (sub_of_extract rfl) rfl rfl) rfl ?_
          refine W_yes (congrArg some hb349) ?_
          replace S : St w342 M F [Row rStr 9 (.slice A45 t43.1.Keys.length c46) t43.1.Keys, Row (rInt .i64) 3 (.slice A48 t43.1.Kids.length c49) t43.1.Kids, Row (rInt .u64) 41 (.slice A51 t43.1.Rows.length c52) t43.1.Rows, Blk b258 (.cells #[.bool x260, .slice A262 x261.length c263, .slice A266 x265.length c267, .slice A270 x269.length c271] 26 (0, 0)), Row (rInt .u64) 41 (.slice A270 x269.length c271) x269, Row (rInt .i64) 3 (.slice A266 x265.length c267) x265, Row rStr 9 (.slice A262 x261.length c263) x261, Blk b55 (.cells #[.bool t43.1.Leaf, .slice A45 t43.1.Keys.length c46, .slice A48 t43.1.Kids.length c49, .slice A51 t43.1.Rows.length c52] 26 (0, 0)), Blk b1 (.cells #[.bool a0.Leaf, .slice A0_0 a0.Keys.length c0_0, .slice A0_1 a0.Kids.length c0_1, .slice A0_2 a0.Rows.length c0_2] 26 (0, 0))] := S.pick [4, 5, 6, 0, 1, 2, 3, 7, 8] (by decide)
          obtain ⟨t352, ht353, H⟩ := bindS H
          refine W_callN 3 fn11 (fun h9 hs9 hd9 => fork_May.con k _ A45 c46 A48 c49 A51 c52 t43.1 t352 (Sats.row hs9 hd9 0 rfl) (Sats.row hs9 hd9 1 rfl) (Sats.row hs9 hd9 2 rfl) ht353) S rfl rfl (by rintro _ _ _ ⟨_, rfl⟩; exact flat_nil) ?_
          rintro _ w354 _ Γ' E' S ⟨rfl, rfl⟩
          replace E := E.trans E'
          clear E'
          refine W_v (.bool t352) (x_pick (k := true) (congrArg Value.bool hb349) rfl) rfl ?_
          refine Wl_nil ?_
          exact ⟨t352, Option.some.inj H, ⟨rfl, rfl, rfl, rfl, rfl, rfl, trivial⟩, E, S.pick [0, 1, 2, 3, 4, 5, 6, 7, 8] (by decide)⟩
        · skip
          refine W_no (skT hb349) rfl ?_
          refine W_no (skT hb349) rfl ?_
          refine W_v (.bool false) (x_pick (k := false) (congrArg Value.bool hb349) rfl) rfl ?_
          refine Wl_nil ?_
          exact ⟨false, Option.some.inj H, ⟨rfl, rfl, rfl, rfl, rfl, rfl, trivial⟩, E, S.pick [4, 5, 6, 0, 1, 2, 3, 7, 8] (by decide)⟩
      clear o351h
      rintro ρ w355 ⟨x350, rfl, hρ, E, S⟩
      rw [agree_eta hρ]
      clear hρ
      have H := o351H
      clear o351H
      refine W_v (.bool x350) (x_move rfl) rfl ?_
      refine Wl_cutN 9 (fun ρ w' => Agree ρ [(4, .pointer (some ⟨b1, 0, none⟩)), (9, .func (.func 17) #[] #[]), (14, .pointer (some ⟨b258, 0, none⟩)), (15, .int .i64 x273), (89, .bool (x350 && ((t43.1.Keys.length : Int) == (IntKind.i64.wrap ((a0.Keys.length : Int) - (1 : Int))))))] ∧ w355 = w') ?_ ?_
      · rcases boolCases x350 with hb356 | hb356
        · skip
          refine W_no (skT hb356) rfl ?_
          refine W_no (skT hb356) rfl ?_
          refine W_no (skT hb356) rfl ?_
          refine W_no (skT hb356) rfl ?_
          refine W_no (skT hb356) rfl ?_
          refine W_no (skT hb356) rfl ?_
          refine W_no (skT hb356) rfl ?_
          refine W_no (skT hb356) rfl ?_
          refine W_v (.bool false) (x_pick (k := false) (congrArg Value.bool hb356) rfl) rfl ?_
          refine Wl_nil ?_
          exact ⟨⟨rfl, rfl, rfl, rfl, (by first | rfl | (rw [hb356]; rfl) | (simp only [hb356]; rfl)), trivial⟩, rfl⟩
        · skip
          refine W_yes (congrArg some hb356) ?_
          refine W_v (.pointer (some ⟨b55, 1, none⟩)) (x_fieldAddr (o := 0) (off := 1) Try.underlying26 rfl ty22 rfl rfl) rfl ?_
          refine W_yes (congrArg some hb356) ?_
          refine W_v (.slice A45 t43.1.Keys.length c46) (x_load (S.blk 7 rfl) ty22 rfl rfl) rfl ?_
          refine W_yes (congrArg some hb356) ?_
          refine W_v (.int .i64 (t43.1.Keys.length : Int)) (x_len_slice (n := t43.1.Keys.length) Try.underlying22 rfl) rfl ?_
          refine W_yes (congrArg some hb356) ?_
          refine W_v (.pointer (some ⟨b1, 1, none⟩)) (x_fieldAddr (o := 0) (off := 1) Try.underlying26 rfl ty22 rfl rfl) rfl ?_
          refine W_yes (congrArg some hb356) ?_
          refine W_v (.slice A0_0 a0.Keys.length c0_0) (x_load (S.blk 8 rfl) ty22 rfl rfl) rfl ?_
          refine W_yes (congrArg some hb356) ?_
          refine W_v (.int .i64 (a0.Keys.length : Int)) (x_len_slice (n := a0.Keys.length) Try.underlying22 rfl) rfl ?_
          refine W_yes (congrArg some hb356) ?_
          refine W_v (.int .i64 (IntKind.i64.wrap ((a0.Keys.length : Int) - (1 : Int)))) (x_ibin rfl rfl rfl rfl) rfl ?_
          refine W_yes (congrArg some hb356) ?_
          refine W_v (.bool ((t43.1.Keys.length : Int) == (IntKind.i64.wrap ((a0.Keys.length : Int) - (1 : Int))))) (x_ibin rfl rfl rfl rfl) rfl ?_
          refine W_v (.bool ((t43.1.Keys.length : Int) == (IntKind.i64.wrap ((a0.Keys.length : Int) - (1 : Int))))) (x_pick (k := true) (congrArg Value.bool hb356) rfl) rfl ?_
          refine Wl_nil ?_
          exact ⟨⟨rfl, rfl, rfl, rfl, (by first | rfl | (rw [hb356]; rfl) | (simp only [hb356]; rfl)), trivial⟩, rfl⟩
      rintro ρ _ ⟨hρ, rfl⟩
      rw [agree_eta hρ]
      clear hρ
      refine W_v (.bool (x350 && ((t43.1.Keys.length : Int) == (IntKind.i64.wrap ((a0.Keys.length : Int) - (1 : Int)))))) (x_move rfl) rfl ?_
      refine Wl_cutN 3 (fun ρ w' => Agree ρ [(4, .pointer (some ⟨b1, 0, none⟩)), (9, .func (.func 17) #[] #[]), (14, .pointer (some ⟨b258, 0, none⟩)), (93, .bool ((x350 && ((t43.1.Keys.length : Int) == (IntKind.i64.wrap ((a0.Keys.length : Int) - (1 : Int))))) && (x273 == (0 : Int))))] ∧ w355 = w') ?_ ?_
      · rcases boolCases (x350 && ((t43.1.Keys.length : Int) == (IntKind.i64.wrap ((a0.Keys.length : Int) - (1 : Int))))) with hb357 | hb357
        · skip
          refine W_no (skT hb357) rfl ?_
          refine W_no (skT hb357) rfl ?_
          refine W_v (.bool false) (x_pick (k := false) (congrArg Value.bool hb357) rfl) rfl ?_
          refine Wl_nil ?_
          exact ⟨⟨rfl, rfl, rfl, (by first | rfl | (rw [hb357]; rfl) | (simp only [hb357]; rfl)), trivial⟩, rfl⟩
        · skip
          refine W_yes (congrArg some hb357) ?_
          refine W_v (.int .i64 x273) (x_move rfl) rfl ?_
          refine W_yes (congrArg some hb357) ?_
          refine W_v (.bool (x273 == (0 : Int))) (x_ibin rfl rfl rfl rfl) rfl ?_
          refine W_v (.bool (x273 == (0 : Int))) (x_pick (k := true) (congrArg Value.bool hb357) rfl) rfl ?_
          refine Wl_nil ?_
          exact ⟨⟨rfl, rfl, rfl, (by first | rfl | (rw [hb357]; rfl) | (simp only [hb357]; rfl)), trivial⟩, rfl⟩
      rintro ρ _ ⟨hρ, rfl⟩
      rw [agree_eta hρ]
      clear hρ
      refine W_v (.bool ((x350 && ((t43.1.Keys.length : Int) == (IntKind.i64.wrap ((a0.Keys.length : Int) - (1 : Int))))) && (x273 == (0 : Int)))) (x_move rfl) rfl ?_
      obtain ⟨o400, o400h, o400H⟩ := bindS H
      clear H
      refine Wl_cutN 5 (fun ρ w' => ∃ (x387 : Bool) (Mj : Hp), (x387) = o400 ∧ Agree ρ [(99, .bool x387)] ∧ M.le Mj ∧ Ext w w' ∧ St w' Mj F []) ?_ ?_
      · have H := o400h
        have LE401 := Hp.le_refl M
        rcases iteS H with ⟨hb386, H⟩ | ⟨hb386, H⟩
        · skip
          refine W_yes (congrArg some hb386) ?_
          refine W_v (.func (.func 17) #[] #[]) (x_move rfl) rfl ?_
          refine W_yes (congrArg some hb386) ?_
          refine W_v (.agg #[.bool x260, .slice A262 x261.length c263, .slice A266 x265.length c267, .slice A270 x269.length c271]) (x_loadA (S.blk 3 rfl) ty26 rfl (sub_of_extract rfl) rfl rfl) rfl ?_
          refine W_yes (congrArg some hb386) ?_
          refine W_v (.agg #[.bool a0.Leaf, .slice A0_0 a0.Keys.length c0_0, .slice A0_1 a0.Kids.length c0_1, .slice A0_2 a0.Rows.length c0_2]) (x_loadA (S.blk 8 rfl) ty26 rfl (sub_of_extract rfl) rfl rfl) rfl ?_
          refine W_yes (congrArg some hb386) ?_
          obtain ⟨M402, hM403, hf404, S⟩ := S.row_freeze 6 rfl
          replace HM := Hp.le_trans HM hM403
          replace LE401 := Hp.le_trans LE401 hM403
          replace hr0_0 := SlR.mono hr0_0 hM403
          replace hr0_1 := SlR.mono hr0_1 hM403
          replace hr0_2 := SlR.mono hr0_2 hM403
          obtain ⟨M405, hM406, hf407, S⟩ := S.row_freeze 5 rfl
          replace HM := Hp.le_trans HM hM406
          replace LE401 := Hp.le_trans LE401 hM406
          replace hr0_0 := SlR.mono hr0_0 hM406
          replace hr0_1 := SlR.mono hr0_1 hM406
          replace hr0_2 := SlR.mono hr0_2 hM406
          replace hf404 := SlR.mono hf404 hM406
          obtain ⟨M408, hM409, hf410, S⟩ := S.row_freeze 4 rfl
          replace HM := Hp.le_trans HM hM409
          replace LE401 := Hp.le_trans LE401 hM409
          replace hr0_0 := SlR.mono hr0_0 hM409
          replace hr0_1 := SlR.mono hr0_1 hM409
          replace hr0_2 := SlR.mono hr0_2 hM409
          replace hf404 := SlR.mono hf404 hM409
          replace hf407 := SlR.mono hf407 hM409
          obtain ⟨t411, ht412, H⟩ := bindS H
          replace S : St w355 M408 F [Row rStr 9 (.slice A45 t43.1.Keys.length c46) t43.1.Keys, Row (rInt .i64) 3 (.slice A48 t43.1.Kids.length c49) t43.1.Kids, Row (rInt .u64) 41 (.slice A51 t43.1.Rows.length c52) t43.1.Rows, Blk b258 (.cells #[.bool x260, .slice A262 x261.length c263, .slice A266 x265.length c267, .slice A270 x269.length c271] 26 (0, 0)), Blk b55 (.cells #[.bool t43.1.Leaf, .slice A45 t43.1.Keys.length c46, .slice A48 t43.1.Kids.length c49, .slice A51 t43.1.Rows.length c52] 26 (0, 0)), Blk b1 (.cells #[.bool a0.Leaf, .slice A0_0 a0.Keys.length c0_0, .slice A0_1 a0.Kids.length c0_1, .slice A0_2 a0.Rows.length c0_2] 26 (0, 0))] := S.pick [0, 1, 2, 3, 4, 5] (by decide)
          refine W_callv (fs := []) (cap := []) fn17 rfl (ferrymanlaw13_ForkBack_1.con k M408 A262 c263 A266 c267 A270 c271 (⟨x260, x261, x265, x269⟩ : fork_Node) A0_0 c0_0 A0_1 c0_1 A0_2 c0_2 a0 t411 hf404 hf407 hf410 hr0_0 hr0_1 hr0_2 ht412) (Γ1 := []) (Γ2 := [Row rStr 9 (.slice A45 t43.1.Keys.length c46) t43.1.Keys, Row (rInt .i64) 3 (.slice A48 t43.1.Kids.length c49) t43.1.Kids, Row (rInt .u64) 41 (.slice A51 t43.1.Rows.length c52) t43.1.Rows, Blk b258 (.cells #[.bool x260, .slice A262 x261.length c263, .slice A266 x265.length c267, .slice A270 x269.length c271] 26 (0, 0)), Blk b55 (.cells #[.bool t43.1.Leaf, .slice A45 t43.1.Keys.length c46, .slice A48 t43.1.Kids.length c49, .slice A51 t43.1.Rows.length c52] 26 (0, 0)), Blk b1 (.cells #[.bool a0.Leaf, .slice A0_0 a0.Keys.length c0_0, .slice A0_1 a0.Kids.length c0_1, .slice A0_2 a0.Rows.length c0_2] 26 (0, 0))]) S rfl rfl ?_
          rintro _ w413 M414 Γ' hM415 E' S ⟨rfl, rfl⟩
          replace HM := Hp.le_trans HM hM415
          replace LE401 := Hp.le_trans LE401 hM415
          replace hr0_0 := SlR.mono hr0_0 hM415
          replace hr0_1 := SlR.mono hr0_1 hM415
          replace hr0_2 := SlR.mono hr0_2 hM415
          replace hf404 := SlR.mono hf404 hM415
          replace hf407 := SlR.mono hf407 hM415
          replace hf410 := SlR.mono hf410 hM415
          replace E := E.trans E'
          clear E'
          replace S : St w413 M414 F [Row rStr 9 (.slice A45 t43.1.Keys.length c46) t43.1.Keys, Row (rInt .i64) 3 (.slice A48 t43.1.Kids.length c49) t43.1.Kids, Row (rInt .u64) 41 (.slice A51 t43.1.Rows.length c52) t43.1.Rows, Blk b258 (.cells #[.bool x260, .slice A262 x261.length c263, .slice A266 x265.length c267, .slice A270 x269.length c271] 26 (0, 0)), Blk b55 (.cells #[.bool t43.1.Leaf, .slice A45 t43.1.Keys.length c46, .slice A48 t43.1.Kids.length c49, .slice A51 t43.1.Rows.length c52] 26 (0, 0)), Blk b1 (.cells #[.bool a0.Leaf, .slice A0_0 a0.Keys.length c0_0, .slice A0_1 a0.Kids.length c0_1, .slice A0_2 a0.Rows.length c0_2] 26 (0, 0))] := S
          refine W_v (.bool t411) (x_pick (k := true) (congrArg Value.bool hb386) rfl) rfl ?_
          refine Wl_nil ?_
          exact ⟨t411, M414, Option.some.inj H, ⟨rfl, trivial⟩, LE401, E, S.pick [] (by decide)⟩
        · skip
          refine W_no (skT hb386) rfl ?_
          refine W_no (skT hb386) rfl ?_
          refine W_no (skT hb386) rfl ?_
          refine W_no (skT hb386) rfl ?_
          refine W_v (.bool false) (x_pick (k := false) (congrArg Value.bool hb386) rfl) rfl ?_
          refine Wl_nil ?_
          exact ⟨false, M, Option.some.inj H, ⟨rfl, trivial⟩, (Hp.le_refl M), E, S.pick [] (by decide)⟩
      clear o400h
      rintro ρ w416 ⟨x387, M417, rfl, hρ, hM418, E, S⟩
      rw [agree_eta hρ]
      clear hρ
      replace HM := Hp.le_trans HM hM418
      replace hr0_0 := SlR.mono hr0_0 hM418
      replace hr0_1 := SlR.mono hr0_1 hM418
      replace hr0_2 := SlR.mono hr0_2 hM418
      have H := o400H
      clear o400H
      refine W_v (.bool x387) (x_assign rfl) rfl ?_
      refine Wl_nil ?_
      refine tn ?_
      refine Wp_ret ?_
      refine tr (tr (?_))
      obtain rfl := Option.some.inj H
      exact ⟨_, _, _, fun w1 e1 => run_resR (vs := [.bool x387]) (FA.cons (rfl) (FA.nil)), HM, E, S.pick [] (by decide), ⟨rfl, rfl⟩⟩
    refine Wp_cond_false (congrArg Value.bool hb42) ?_
    refine Wp_skip ?_
    refine tn ?_
    refine Wp_seq ?_
    refine Wp_region_lit ?_
    refine W_v (.agg #[.bool a0.Leaf, .slice A0_0 a0.Keys.length c0_0, .slice A0_1 a0.Kids.length c0_1, .slice A0_2 a0.Rows.length c0_2]) (x_loadA (S.blk 0 rfl) ty26 rfl (sub_of_extract rfl) rfl rfl) rfl ?_
    refine W_v (.string (bs a1)) (x_move rfl) rfl ?_
    refine W_v (.int .u64 a2) (x_move rfl) rfl ?_
    obtain ⟨t419, ht420, H⟩ := bindS H
    refine W_callF fn19 (fork_Put.con k M A0_0 c0_0 A0_1 c0_1 A0_2 c0_2 a0 a1 a2 t419 hr0_0 hr0_1 hr0_2 ht420) S rfl rfl (by rintro _ _ _ ⟨_, _, _, _, _, _, _, rfl⟩; exact (flat_cons (flat_row (fun _ _ _ _ h => h)) (flat_cons (flat_row (fun _ _ _ _ h => h)) (flat_cons (flat_row (fun _ _ _ _ h => h)) flat_nil)))) ?_
    rintro _ w430 _ Γ' E' S ⟨A421, c422, A424, c425, A427, c428, rfl, rfl⟩
    replace E := E.trans E'
    clear E'
    refine W_v (.tuple #[.agg #[.bool t419.1.Leaf, .slice A421 t419.1.Keys.length c422, .slice A424 t419.1.Kids.length c425, .slice A427 t419.1.Rows.length c428], .int .i64 t419.2]) (x_move rfl) rfl ?_
    refine W_v (.agg #[.bool t419.1.Leaf, .slice A421 t419.1.Keys.length c422, .slice A424 t419.1.Kids.length c425, .slice A427 t419.1.Rows.length c428]) (x_extract rfl rfl) rfl ?_
    refine W_v (.int .i64 t419.2) (x_extract rfl rfl) rfl ?_
    refine W_alloc S #[.bool false, .slice none 0 0, .slice none 0 0, .slice none 0 0] ty26 rfl rfl ?_
    intro b431 w432 E' S
    replace E := E.trans E'
    clear E'
    refine W_store S 0 rfl ty26 rfl rfl [.bool t419.1.Leaf, .slice A421 t419.1.Keys.length c422, .slice A424 t419.1.Kids.length c425, .slice A427 t419.1.Rows.length c428] rfl rfl rfl #[.bool t419.1.Leaf, .slice A421 t419.1.Keys.length c422, .slice A424 t419.1.Kids.length c425, .slice A427 t419.1.Rows.length c428] rfl rfl ?_
    intro w434 E' S
    replace E := E.trans E'
    clear E'
    refine W_v (.int .i64 t419.2) (x_assign rfl) rfl ?_
    refine Wl_nil ?_
    refine tn ?_
    refine Wp_seq ?_
    refine Wp_region_lit ?_
    refine W_v (.agg #[.bool t419.1.Leaf, .slice A421 t419.1.Keys.length c422, .slice A424 t419.1.Kids.length c425, .slice A427 t419.1.Rows.length c428]) (x_loadA (S.blk 0 rfl) ty26 rfl (sub_of_extract rfl) rfl rfl) rfl ?_
    refine W_v (.string (bs a1)) (x_move rfl) rfl ?_
    replace S : St w434 M F [Row rStr 9 (.slice A421 t419.1.Keys.length c422) t419.1.Keys, Row (rInt .i64) 3 (.slice A424 t419.1.Kids.length c425) t419.1.Kids, Row (rInt .u64) 41 (.slice A427 t419.1.Rows.length c428) t419.1.Rows, Blk b431 (.cells #[.bool t419.1.Leaf, .slice A421 t419.1.Keys.length c422, .slice A424 t419.1.Kids.length c425, .slice A427 t419.1.Rows.length c428] 26 (0, 0)), Blk b1 (.cells #[.bool a0.Leaf, .slice A0_0 a0.Keys.length c0_0, .slice A0_1 a0.Kids.length c0_1, .slice A0_2 a0.Rows.length c0_2] 26 (0, 0))] := S.pick [1, 2, 3, 0, 4] (by decide)
    obtain ⟨t435, ht436, H⟩ := bindS H
    refine W_callN 3 fn18 (fun h9 hs9 hd9 => fork_Take.con k _ A421 c422 A424 c425 A427 c428 t419.1 a1 t435 (Sats.row hs9 hd9 0 rfl) (Sats.row hs9 hd9 1 rfl) (Sats.row hs9 hd9 2 rfl) ht436) S rfl rfl (by rintro _ _ _ ⟨_, _, _, _, _, _, _, rfl⟩; exact (flat_cons (flat_row (fun _ _ _ _ h => h)) (flat_cons (flat_row (fun _ _ _ _ h => h)) (flat_cons (flat_row (fun _ _ _ _ h => h)) flat_nil)))) ?_
    rintro _ w446 _ Γ' E' S ⟨A437, c438, A440, c441, A443, c444, rfl, rfl⟩
    replace E := E.trans E'
    clear E'
    refine W_v (.tuple #[.agg #[.bool t435.1.Leaf, .slice A437 t435.1.Keys.length c438, .slice A440 t435.1.Kids.length c441, .slice A443 t435.1.Rows.length c444], .int .i64 t435.2]) (x_move rfl) rfl ?_
    refine W_v (.agg #[.bool t435.1.Leaf, .slice A437 t435.1.Keys.length c438, .slice A440 t435.1.Kids.length c441, .slice A443 t435.1.Rows.length c444]) (x_extract rfl rfl) rfl ?_
    refine W_v (.int .i64 t435.2) (x_extract rfl rfl) rfl ?_
    refine W_alloc S #[.bool false, .slice none 0 0, .slice none 0 0, .slice none 0 0] ty26 rfl rfl ?_
    intro b447 w448 E' S
    replace E := E.trans E'
    clear E'
    refine W_store S 0 rfl ty26 rfl rfl [.bool t435.1.Leaf, .slice A437 t435.1.Keys.length c438, .slice A440 t435.1.Kids.length c441, .slice A443 t435.1.Rows.length c444] rfl rfl rfl #[.bool t435.1.Leaf, .slice A437 t435.1.Keys.length c438, .slice A440 t435.1.Kids.length c441, .slice A443 t435.1.Rows.length c444] rfl rfl ?_
    intro w450 E' S
    replace E := E.trans E'
    clear E'
    refine W_v (.int .i64 t435.2) (x_assign rfl) rfl ?_
    refine Wl_nil ?_
    refine tn ?_
    refine Wp_seq ?_
    refine Wp_region_lit ?_
    refine W_v (.agg #[.bool t419.1.Leaf, .slice A421 t419.1.Keys.length c422, .slice A424 t419.1.Kids.length c425, .slice A427 t419.1.Rows.length c428]) (x_loadA (S.blk 7 rfl) ty26 rfl (sub_of_extract rfl) rfl rfl) rfl ?_
    refine W_v (.string (bs a1)) (x_move rfl) rfl ?_
    replace S : St w450 M F [Row rStr 9 (.slice A421 t419.1.Keys.length c422) t419.1.Keys, Row (rInt .i64) 3 (.slice A424 t419.1.Kids.length c425) t419.1.Kids, Row (rInt .u64) 41 (.slice A427 t419.1.Rows.length c428) t419.1.Rows, Blk b447 (.cells #[.bool t435.1.Leaf, .slice A437 t435.1.Keys.length c438, .slice A440 t435.1.Kids.length c441, .slice A443 t435.1.Rows.length c444] 26 (0, 0)), Row rStr 9 (.slice A437 t435.1.Keys.length c438) t435.1.Keys, Row (rInt .i64) 3 (.slice A440 t435.1.Kids.length c441) t435.1.Kids, Row (rInt .u64) 41 (.slice A443 t435.1.Rows.length c444) t435.1.Rows, Blk b431 (.cells #[.bool t419.1.Leaf, .slice A421 t419.1.Keys.length c422, .slice A424 t419.1.Kids.length c425, .slice A427 t419.1.Rows.length c428] 26 (0, 0)), Blk b1 (.cells #[.bool a0.Leaf, .slice A0_0 a0.Keys.length c0_0, .slice A0_1 a0.Kids.length c0_1, .slice A0_2 a0.Rows.length c0_2] 26 (0, 0))] := S.pick [4, 5, 6, 0, 1, 2, 3, 7, 8] (by decide)
    obtain ⟨t451, ht452, H⟩ := bindS H
    refine W_callN 3 fn12 (fun h9 hs9 hd9 => fork_Place.con k _ A421 c422 A424 c425 A427 c428 t419.1 a1 t451 (Sats.row hs9 hd9 0 rfl) (Sats.row hs9 hd9 1 rfl) (Sats.row hs9 hd9 2 rfl) ht452) S rfl rfl (by rintro _ _ _ ⟨_, rfl⟩; exact flat_nil) ?_
    rintro _ w453 _ Γ' E' S ⟨rfl, rfl⟩
    replace E := E.trans E'
    clear E'
    refine W_v (.tuple #[.int .i64 t451.1, .bool t451.2]) (x_move rfl) rfl ?_
    refine W_v (.int .i64 t451.1) (x_extract rfl rfl) rfl ?_
    refine W_v (.bool t451.2) (x_extract rfl rfl) rfl ?_
    refine W_v (.int .i64 t451.1) (x_assign rfl) rfl ?_
    refine W_v (.bool t451.2) (x_assign rfl) rfl ?_
    refine Wl_nil ?_
    refine tn ?_
    refine Wp_seq ?_
    refine Wp_region_lit ?_
    refine W_v (.int .i64 t419.2) (x_move rfl) rfl ?_
    refine W_v (.bool (t419.2 == (0 : Int))) (x_ibin rfl rfl rfl rfl) rfl ?_
    refine W_v (.bool (t419.2 == (0 : Int))) (x_move rfl) rfl ?_
    obtain ⟨o462, o462h, o462H⟩ := bindS H
    clear H
    refine Wl_cutN 3 (fun ρ w' => ∃ (x461 : Bool), (x461) = o462 ∧ Agree ρ [(2, .int .u64 a2), (4, .pointer (some ⟨b1, 0, none⟩)), (9, .func (.func 17) #[] #[]), (10, .int .i64 t38.1), (16, .pointer (some ⟨b431, 0, none⟩)), (18, .pointer (some ⟨b447, 0, none⟩)), (19, .int .i64 t435.2), (20, .int .i64 t451.1), (21, .bool t451.2), (124, .bool x461)] ∧ Ext w w' ∧ St w' M F [Row rStr 9 (.slice A421 t419.1.Keys.length c422) t419.1.Keys, Row (rInt .i64) 3 (.slice A424 t419.1.Kids.length c425) t419.1.Kids, Row (rInt .u64) 41 (.slice A427 t419.1.Rows.length c428) t419.1.Rows, Blk b447 (.cells #[.bool t435.1.Leaf, .slice A437 t435.1.Keys.length c438, .slice A440 t435.1.Kids.length c441, .slice A443 t435.1.Rows.length c444] 26 (0, 0)), Row rStr 9 (.slice A437 t435.1.Keys.length c438) t435.1.Keys, Row (rInt .i64) 3 (.slice A440 t435.1.Kids.length c441) t435.1.Kids, Row (rInt .u64) 41 (.slice A443 t435.1.Rows.length c444) t435.1.Rows, Blk b431 (.cells #[.bool t419.1.Leaf, .slice A421 t419.1.Keys.length c422, .slice A424 t419.1.Kids.length c425, .slice A427 t419.1.Rows.length c428] 26 (0, 0)), Blk b1 (.cells #[.bool a0.Leaf, .slice A0_0 a0.Keys.length c0_0, .slice A0_1 a0.Kids.length c0_1, .slice A0_2 a0.Rows.length c0_2] 26 (0, 0))]) ?_ ?_
    · have H := o462h
      rcases iteS H with ⟨hb460, H⟩ | ⟨hb460, H⟩
      · skip
        refine W_yes (congrArg some hb460) ?_
        refine W_v (.agg #[.bool t419.1.Leaf, .slice A421 t419.1.Keys.length c422, .slice A424 t419.1.Kids.length c425, .slice A427 t419.1.Rows.length c428]) (x_loadA (S.blk 7 rfl) ty26 rfl (sub_of_extract rfl) rfl rfl) rfl ?_
        refine W_yes (congrArg some hb460) ?_
        obtain ⟨t463, ht464, H⟩ := bindS H
        refine W_callN 3 fn11 (fun h9 hs9 hd9 => fork_May.con k _ A421 c422 A424 c425 A427 c428 t419.1 t463 (Sats.row hs9 hd9 0 rfl) (Sats.row hs9 hd9 1 rfl) (Sats.row hs9 hd9 2 rfl) ht464) S rfl rfl (by rintro _ _ _ ⟨_, rfl⟩; exact flat_nil) ?_
        rintro _ w465 _ Γ' E' S ⟨rfl, rfl⟩
        replace E := E.trans E'
        clear E'
        refine W_v (.bool t463) (x_pick (k := true) (congrArg Value.bool hb460) rfl) rfl ?_
        refine Wl_nil ?_
        exact ⟨t463, Option.some.inj H, ⟨rfl, rfl, rfl, rfl, rfl, rfl, rfl, rfl, rfl, rfl, trivial⟩, E, S.pick [0, 1, 2, 3, 4, 5, 6, 7, 8] (by decide)⟩
      · skip
        refine W_no (skT hb460) rfl ?_
        refine W_no (skT hb460) rfl ?_
        refine W_v (.bool false) (x_pick (k := false) (congrArg Value.bool hb460) rfl) rfl ?_
        refine Wl_nil ?_
        exact ⟨false, Option.some.inj H, ⟨rfl, rfl, rfl, rfl, rfl, rfl, rfl, rfl, rfl, rfl, trivial⟩, E, S.pick [0, 1, 2, 3, 4, 5, 6, 7, 8] (by decide)⟩
    clear o462h
    rintro ρ w466 ⟨x461, rfl, hρ, E, S⟩
    rw [agree_eta hρ]
    clear hρ
    have H := o462H
    clear o462H
    refine W_v (.bool x461) (x_move rfl) rfl ?_
    refine Wl_cutN 2 (fun ρ w' => Agree ρ [(2, .int .u64 a2), (4, .pointer (some ⟨b1, 0, none⟩)), (9, .func (.func 17) #[] #[]), (10, .int .i64 t38.1), (16, .pointer (some ⟨b431, 0, none⟩)), (18, .pointer (some ⟨b447, 0, none⟩)), (19, .int .i64 t435.2), (20, .int .i64 t451.1), (127, .bool (x461 && t451.2))] ∧ w466 = w') ?_ ?_
    · rcases boolCases x461 with hb467 | hb467
      · skip
        refine W_no (skT hb467) rfl ?_
        refine W_v (.bool false) (x_pick (k := false) (congrArg Value.bool hb467) rfl) rfl ?_
        refine Wl_nil ?_
        exact ⟨⟨rfl, rfl, rfl, rfl, rfl, rfl, rfl, rfl, (by first | rfl | (rw [hb467]; rfl) | (simp only [hb467]; rfl)), trivial⟩, rfl⟩
      · skip
        refine W_yes (congrArg some hb467) ?_
        refine W_v (.bool t451.2) (x_move rfl) rfl ?_
        refine W_v (.bool t451.2) (x_pick (k := true) (congrArg Value.bool hb467) rfl) rfl ?_
        refine Wl_nil ?_
        exact ⟨⟨rfl, rfl, rfl, rfl, rfl, rfl, rfl, rfl, (by first | rfl | (rw [hb467]; rfl) | (simp only [hb467]; rfl)), trivial⟩, rfl⟩
    rintro ρ _ ⟨hρ, rfl⟩
    rw [agree_eta hρ]
    clear hρ
    refine W_v (.bool (x461 && t451.2)) (x_move rfl) rfl ?_
    refine Wl_cutN 4 (fun ρ w' => Agree ρ [(2, .int .u64 a2), (4, .pointer (some ⟨b1, 0, none⟩)), (9, .func (.func 17) #[] #[]), (10, .int .i64 t38.1), (16, .pointer (some ⟨b431, 0, none⟩)), (18, .pointer (some ⟨b447, 0, none⟩)), (19, .int .i64 t435.2), (132, .bool ((x461 && t451.2) && (t451.1 == t38.1)))] ∧ w466 = w') ?_ ?_
    · rcases boolCases (x461 && t451.2) with hb468 | hb468
      · skip
        refine W_no (skT hb468) rfl ?_
        refine W_no (skT hb468) rfl ?_
        refine W_no (skT hb468) rfl ?_
        refine W_v (.bool false) (x_pick (k := false) (congrArg Value.bool hb468) rfl) rfl ?_
        refine Wl_nil ?_
        exact ⟨⟨rfl, rfl, rfl, rfl, rfl, rfl, rfl, (by first | rfl | (rw [hb468]; rfl) | (simp only [hb468]; rfl)), trivial⟩, rfl⟩
      · skip
        refine W_yes (congrArg some hb468) ?_
        refine W_v (.int .i64 t451.1) (x_move rfl) rfl ?_
        refine W_yes (congrArg some hb468) ?_
        refine W_v (.int .i64 t38.1) (x_move rfl) rfl ?_
        refine W_yes (congrArg some hb468) ?_
        refine W_v (.bool (t451.1 == t38.1)) (x_ibin rfl rfl rfl rfl) rfl ?_
        refine W_v (.bool (t451.1 == t38.1)) (x_pick (k := true) (congrArg Value.bool hb468) rfl) rfl ?_
        refine Wl_nil ?_
        exact ⟨⟨rfl, rfl, rfl, rfl, rfl, rfl, rfl, (by first | rfl | (rw [hb468]; rfl) | (simp only [hb468]; rfl)), trivial⟩, rfl⟩
    rintro ρ _ ⟨hρ, rfl⟩
    rw [agree_eta hρ]
    clear hρ
    refine W_v (.bool ((x461 && t451.2) && (t451.1 == t38.1))) (x_move rfl) rfl ?_
    obtain ⟨o491, o491h, o491H⟩ := bindS H
    clear H
    refine Wl_cutN 8 (fun ρ w' => ∃ (x490 : Bool), (x490) = o491 ∧ Agree ρ [(4, .pointer (some ⟨b1, 0, none⟩)), (9, .func (.func 17) #[] #[]), (18, .pointer (some ⟨b447, 0, none⟩)), (19, .int .i64 t435.2), (141, .bool x490)] ∧ Ext w w' ∧ St w' M F [Blk b447 (.cells #[.bool t435.1.Leaf, .slice A437 t435.1.Keys.length c438, .slice A440 t435.1.Kids.length c441, .slice A443 t435.1.Rows.length c444] 26 (0, 0)), Row rStr 9 (.slice A437 t435.1.Keys.length c438) t435.1.Keys, Row (rInt .i64) 3 (.slice A440 t435.1.Kids.length c441) t435.1.Kids, Row (rInt .u64) 41 (.slice A443 t435.1.Rows.length c444) t435.1.Rows, Blk b1 (.cells #[.bool a0.Leaf, .slice A0_0 a0.Keys.length c0_0, .slice A0_1 a0.Kids.length c0_1, .slice A0_2 a0.Rows.length c0_2] 26 (0, 0))]) ?_ ?_
    · have H := o491h
      rcases iteS H with ⟨hb489, H⟩ | ⟨hb489, H⟩
      · skip
        refine W_yes (congrArg some hb489) ?_
        refine W_v (.pointer (some ⟨b431, 3, none⟩)) (x_fieldAddr (o := 0) (off := 3) Try.underlying26 rfl ty24 rfl rfl) rfl ?_
        refine W_yes (congrArg some hb489) ?_
        refine W_v (.slice A427 t419.1.Rows.length c428) (x_load (S.blk 7 rfl) ty24 rfl rfl) rfl ?_
        refine W_yes (congrArg some hb489) ?_
        refine W_v (.int .i64 t38.1) (x_move rfl) rfl ?_
        refine W_yes (congrArg some hb489) ?_
        obtain ⟨⟨p492, p493⟩, H⟩ := chkS H
        obtain ⟨b494, o495, cs496, _, _, ee501, hb497, vs498, hR499, hc500⟩ := SlW.at' (S.row_read 2 rfl) p492 p493
        obtain rfl : vs498 = _ := hR499
        refine W_v (.pointer (some ⟨b494, o495 + t38.1.toNat * 1, none⟩)) (x_indexAddr Try.underlying24 ty41 (slA ee501) rfl p492 p493) rfl ?_
        refine W_yes (congrArg some hb489) ?_
        refine W_v (.int .u64 (rd t419.1.Rows t38.1)) (x_load (Hp.of_get hb497) ty41 rfl (hc500 0 _ rfl)) rfl ?_
        refine W_yes (congrArg some hb489) ?_
        refine W_v (.int .u64 a2) (x_move rfl) rfl ?_
        refine W_yes (congrArg some hb489) ?_
        refine W_v (.bool ((rd t419.1.Rows t38.1) == a2)) (x_ibin rfl rfl rfl rfl) rfl ?_
        refine W_v (.bool ((rd t419.1.Rows t38.1) == a2)) (x_pick (k := true) (congrArg Value.bool hb489) rfl) rfl ?_
        refine Wl_nil ?_
        exact ⟨((rd t419.1.Rows t38.1) == a2), Option.some.inj H, ⟨rfl, rfl, rfl, rfl, rfl, trivial⟩, E, S.pick [3, 4, 5, 6, 8] (by decide)⟩
      · skip
        refine W_no (skT hb489) rfl ?_
        refine W_no (skT hb489) rfl ?_
        refine W_no (skT hb489) rfl ?_
        refine W_no (skT hb489) rfl ?_
        refine W_no (skT hb489) rfl ?_
        refine W_no (skT hb489) rfl ?_
        refine W_no (skT hb489) rfl ?_
        refine W_v (.bool false) (x_pick (k := false) (congrArg Value.bool hb489) rfl) rfl ?_
        refine Wl_nil ?_
        exact ⟨false, Option.some.inj H, ⟨rfl, rfl, rfl, rfl, rfl, trivial⟩, E, S.pick [3, 4, 5, 6, 8] (by decide)⟩
    clear o491h
    rintro ρ w502 ⟨x490, rfl, hρ, E, S⟩
    rw [agree_eta hρ]
    clear hρ
    have H := o491H
    clear o491H
    refine W_v (.bool x490) (x_move rfl) rfl ?_
    refine Wl_cutN 3 (fun ρ w' => Agree ρ [(4, .pointer (some ⟨b1, 0, none⟩)), (9, .func (.func 17) #[] #[]), (18, .pointer (some ⟨b447, 0, none⟩)), (145, .bool (x490 && (t435.2 == (0 : Int))))] ∧ w502 = w') ?_ ?_
    · rcases boolCases x490 with hb503 | hb503
      · skip
        refine W_no (skT hb503) rfl ?_
        refine W_no (skT hb503) rfl ?_
        refine W_v (.bool false) (x_pick (k := false) (congrArg Value.bool hb503) rfl) rfl ?_
        refine Wl_nil ?_
        exact ⟨⟨rfl, rfl, rfl, (by first | rfl | (rw [hb503]; rfl) | (simp only [hb503]; rfl)), trivial⟩, rfl⟩
      · skip
        refine W_yes (congrArg some hb503) ?_
        refine W_v (.int .i64 t435.2) (x_move rfl) rfl ?_
        refine W_yes (congrArg some hb503) ?_
        refine W_v (.bool (t435.2 == (0 : Int))) (x_ibin rfl rfl rfl rfl) rfl ?_
        refine W_v (.bool (t435.2 == (0 : Int))) (x_pick (k := true) (congrArg Value.bool hb503) rfl) rfl ?_
        refine Wl_nil ?_
        exact ⟨⟨rfl, rfl, rfl, (by first | rfl | (rw [hb503]; rfl) | (simp only [hb503]; rfl)), trivial⟩, rfl⟩
    rintro ρ _ ⟨hρ, rfl⟩
    rw [agree_eta hρ]
    clear hρ
    refine W_v (.bool (x490 && (t435.2 == (0 : Int)))) (x_move rfl) rfl ?_
    obtain ⟨o546, o546h, o546H⟩ := bindS H
    clear H
    refine Wl_cutN 5 (fun ρ w' => ∃ (x533 : Bool) (Mj : Hp), (x533) = o546 ∧ Agree ρ [(151, .bool x533)] ∧ M.le Mj ∧ Ext w w' ∧ St w' Mj F []) ?_ ?_
    · have H := o546h
      have LE547 := Hp.le_refl M
      rcases iteS H with ⟨hb532, H⟩ | ⟨hb532, H⟩
      · skip
        refine W_yes (congrArg some hb532) ?_
        refine W_v (.func (.func 17) #[] #[]) (x_move rfl) rfl ?_
        refine W_yes (congrArg some hb532) ?_
        refine W_v (.agg #[.bool t435.1.Leaf, .slice A437 t435.1.Keys.length c438, .slice A440 t435.1.Kids.length c441, .slice A443 t435.1.Rows.length c444]) (x_loadA (S.blk 0 rfl) ty26 rfl (sub_of_extract rfl) rfl rfl) rfl ?_
        refine W_yes (congrArg some hb532) ?_
        refine W_v (.agg #[.bool a0.Leaf, .slice A0_0 a0.Keys.length c0_0, .slice A0_1 a0.Kids.length c0_1, .slice A0_2 a0.Rows.length c0_2]) (x_loadA (S.blk 4 rfl) ty26 rfl (sub_of_extract rfl) rfl rfl) rfl ?_
        refine W_yes (congrArg some hb532) ?_
        obtain ⟨M548, hM549, hf550, S⟩ := S.row_freeze 1 rfl
        replace HM := Hp.le_trans HM hM549
        replace LE547 := Hp.le_trans LE547 hM549
        replace hr0_0 := SlR.mono hr0_0 hM549
        replace hr0_1 := SlR.mono hr0_1 hM549
        replace hr0_2 := SlR.mono hr0_2 hM549
        obtain ⟨M551, hM552, hf553, S⟩ := S.row_freeze 1 rfl
        replace HM := Hp.le_trans HM hM552
        replace LE547 := Hp.le_trans LE547 hM552
        replace hr0_0 := SlR.mono hr0_0 hM552
        replace hr0_1 := SlR.mono hr0_1 hM552
        replace hr0_2 := SlR.mono hr0_2 hM552
        replace hf550 := SlR.mono hf550 hM552
        obtain ⟨M554, hM555, hf556, S⟩ := S.row_freeze 1 rfl
        replace HM := Hp.le_trans HM hM555
        replace LE547 := Hp.le_trans LE547 hM555
        replace hr0_0 := SlR.mono hr0_0 hM555
        replace hr0_1 := SlR.mono hr0_1 hM555
        replace hr0_2 := SlR.mono hr0_2 hM555
        replace hf550 := SlR.mono hf550 hM555
        replace hf553 := SlR.mono hf553 hM555
        obtain ⟨t557, ht558, H⟩ := bindS H
        replace S : St w502 M554 F [Blk b447 (.cells #[.bool t435.1.Leaf, .slice A437 t435.1.Keys.length c438, .slice A440 t435.1.Kids.length c441, .slice A443 t435.1.Rows.length c444] 26 (0, 0)), Blk b1 (.cells #[.bool a0.Leaf, .slice A0_0 a0.Keys.length c0_0, .slice A0_1 a0.Kids.length c0_1, .slice A0_2 a0.Rows.length c0_2] 26 (0, 0))] := S.pick [0, 1] (by decide)
        refine W_callv (fs := []) (cap := []) fn17 rfl (ferrymanlaw13_ForkBack_1.con k M554 A437 c438 A440 c441 A443 c444 t435.1 A0_0 c0_0 A0_1 c0_1 A0_2 c0_2 a0 t557 hf550 hf553 hf556 hr0_0 hr0_1 hr0_2 ht558) (Γ1 := []) (Γ2 := [Blk b447 (.cells #[.bool t435.1.Leaf, .slice A437 t435.1.Keys.length c438, .slice A440 t435.1.Kids.length c441, .slice A443 t435.1.Rows.length c444] 26 (0, 0)), Blk b1 (.cells #[.bool a0.Leaf, .slice A0_0 a0.Keys.length c0_0, .slice A0_1 a0.Kids.length c0_1, .slice A0_2 a0.Rows.length c0_2] 26 (0, 0))]) S rfl rfl ?_
        rintro _ w559 M560 Γ' hM561 E' S ⟨rfl, rfl⟩
        replace HM := Hp.le_trans HM hM561
        replace LE547 := Hp.le_trans LE547 hM561
        replace hr0_0 := SlR.mono hr0_0 hM561
        replace hr0_1 := SlR.mono hr0_1 hM561
        replace hr0_2 := SlR.mono hr0_2 hM561
        replace hf550 := SlR.mono hf550 hM561
        replace hf553 := SlR.mono hf553 hM561
        replace hf556 := SlR.mono hf556 hM561
        replace E := E.trans E'
        clear E'
        replace S : St w559 M560 F [Blk b447 (.cells #[.bool t435.1.Leaf, .slice A437 t435.1.Keys.length c438, .slice A440 t435.1.Kids.length c441, .slice A443 t435.1.Rows.length c444] 26 (0, 0)), Blk b1 (.cells #[.bool a0.Leaf, .slice A0_0 a0.Keys.length c0_0, .slice A0_1 a0.Kids.length c0_1, .slice A0_2 a0.Rows.length c0_2] 26 (0, 0))] := S
        refine W_v (.bool t557) (x_pick (k := true) (congrArg Value.bool hb532) rfl) rfl ?_
        refine Wl_nil ?_
        exact ⟨t557, M560, Option.some.inj H, ⟨rfl, trivial⟩, LE547, E, S.pick [] (by decide)⟩
      · skip
        refine W_no (skT hb532) rfl ?_
        refine W_no (skT hb532) rfl ?_
        refine W_no (skT hb532) rfl ?_
        refine W_no (skT hb532) rfl ?_
        refine W_v (.bool false) (x_pick (k := false) (congrArg Value.bool hb532) rfl) rfl ?_
        refine Wl_nil ?_
        exact ⟨false, M, Option.some.inj H, ⟨rfl, trivial⟩, (Hp.le_refl M), E, S.pick [] (by decide)⟩
    clear o546h
    rintro ρ w562 ⟨x533, M563, rfl, hρ, hM564, E, S⟩
    rw [agree_eta hρ]
    clear hρ
    replace HM := Hp.le_trans HM hM564
    replace hr0_0 := SlR.mono hr0_0 hM564
    replace hr0_1 := SlR.mono hr0_1 hM564
    replace hr0_2 := SlR.mono hr0_2 hM564
    have H := o546H
    clear o546H
    refine W_v (.bool x533) (x_assign rfl) rfl ?_
    refine Wl_nil ?_
    refine tn ?_
    refine Wp_ret ?_
    refine tr (?_)
    obtain rfl := Option.some.inj H
    exact ⟨_, _, _, fun w1 e1 => run_resR (vs := [.bool x533]) (FA.cons (rfl) (FA.nil)), HM, E, S.pick [] (by decide), ⟨rfl, rfl⟩⟩
  refine Wp_cond_false (congrArg Value.bool hb41) ?_
  refine Wp_skip ?_
  refine tn ?_
  refine Wp_seq ?_
  refine Wp_seq ?_
  refine Wp_region_lit ?_
  refine W_v (.bool t38.2) (x_move rfl) rfl ?_
  refine Wl_nil ?_
  refine tn ?_
  rcases iteS H with ⟨hb565, H⟩ | ⟨hb565, H⟩
  · refine Wp_cond_true (congrArg Value.bool hb565) ?_
    refine Wp_seq ?_
    refine Wp_region_lit ?_
    refine W_v (.agg #[.bool a0.Leaf, .slice A0_0 a0.Keys.length c0_0, .slice A0_1 a0.Kids.length c0_1, .slice A0_2 a0.Rows.length c0_2]) (x_loadA (S.blk 0 rfl) ty26 rfl (sub_of_extract rfl) rfl rfl) rfl ?_
    refine W_v (.int .i64 t38.1) (x_move rfl) rfl ?_
    refine W_v (.int .i64 (IntKind.i64.wrap (t38.1 + (1 : Int)))) (x_ibin rfl rfl rfl rfl) rfl ?_
    obtain ⟨t566, ht567, H⟩ := bindS H
    refine W_callF fn20 (fork_Cut.con k M A0_0 c0_0 A0_1 c0_1 A0_2 c0_2 a0 (IntKind.i64.wrap (t38.1 + (1 : Int))) t566 hr0_0 hr0_1 hr0_2 ht567) S rfl rfl (by rintro _ _ _ ⟨_, _, _, _, _, _, _, rfl⟩; exact (flat_cons (flat_row (fun _ _ _ _ h => h)) (flat_cons (flat_row (fun _ _ _ _ h => h)) (flat_cons (flat_row (fun _ _ _ _ h => h)) flat_nil)))) ?_
    rintro _ w577 _ Γ' E' S ⟨A568, c569, A571, c572, A574, c575, rfl, rfl⟩
    replace E := E.trans E'
    clear E'
    refine W_v (.tuple #[.agg #[.bool t566.1.Leaf, .slice A568 t566.1.Keys.length c569, .slice A571 t566.1.Kids.length c572, .slice A574 t566.1.Rows.length c575], .int .i64 t566.2]) (x_move rfl) rfl ?_
    refine W_v (.agg #[.bool t566.1.Leaf, .slice A568 t566.1.Keys.length c569, .slice A571 t566.1.Kids.length c572, .slice A574 t566.1.Rows.length c575]) (x_extract rfl rfl) rfl ?_
    refine W_v (.int .i64 t566.2) (x_extract rfl rfl) rfl ?_
    refine W_alloc S #[.bool false, .slice none 0 0, .slice none 0 0, .slice none 0 0] ty26 rfl rfl ?_
    intro b578 w579 E' S
    replace E := E.trans E'
    clear E'
    refine W_store S 0 rfl ty26 rfl rfl [.bool t566.1.Leaf, .slice A568 t566.1.Keys.length c569, .slice A571 t566.1.Kids.length c572, .slice A574 t566.1.Rows.length c575] rfl rfl rfl #[.bool t566.1.Leaf, .slice A568 t566.1.Keys.length c569, .slice A571 t566.1.Kids.length c572, .slice A574 t566.1.Rows.length c575] rfl rfl ?_
    intro w581 E' S
    replace E := E.trans E'
    clear E'
    refine W_v (.int .i64 t566.2) (x_assign rfl) rfl ?_
    refine Wl_nil ?_
    refine tn ?_
    refine Wp_seq ?_
    refine Wp_region_any (S := fun w' => ∃ Mx, M.le Mx ∧ St w' Mx F [Blk b578 (.cells #[.bool t566.1.Leaf, .slice A568 t566.1.Keys.length c569, .slice A571 t566.1.Kids.length c572, .slice A574 t566.1.Rows.length c575] 26 (0, 0)), Row rStr 9 (.slice A568 t566.1.Keys.length c569) t566.1.Keys, Row (rInt .i64) 3 (.slice A571 t566.1.Kids.length c572) t566.1.Kids, Row (rInt .u64) 41 (.slice A574 t566.1.Rows.length c575) t566.1.Rows, Blk b1 (.cells #[.bool a0.Leaf, .slice A0_0 a0.Keys.length c0_0, .slice A0_1 a0.Kids.length c0_1, .slice A0_2 a0.Rows.length c0_2] 26 (0, 0))]) mixed ?_
    intro w723 hw724 E'
    replace S := S.heap hw724
    replace E := E.trans E'
    clear E'
    refine Wa_take (i := 0) rfl (by kernel_rfl) rfl rfl (.agg #[.bool t566.1.Leaf, .slice A568 t566.1.Keys.length c569, .slice A571 t566.1.Kids.length c572, .slice A574 t566.1.Rows.length c575]) rfl (fun w' h' => x_loadA (cls_blk h' 0 rfl) ty26 rfl (sub_of_extract rfl) rfl rfl) (⟨M, Hp.le_refl M, S.pick [0, 1, 2, 3, 4] (by decide)⟩) ?_
    refine Wa_take (i := 1) rfl (by kernel_rfl) rfl rfl (.string (bs a1)) rfl (fun w' h' => x_move rfl) (⟨M, Hp.le_refl M, S.pick [0, 1, 2, 3, 4] (by decide)⟩) ?_
    refine Wa_take (i := 2) rfl (by kernel_rfl) rfl rfl (.pointer (some ⟨b1, 2, none⟩)) rfl (fun w' h' => x_fieldAddr (o := 0) (off := 2) Try.underlying26 rfl ty23 rfl rfl) (⟨M, Hp.le_refl M, S.pick [0, 1, 2, 3, 4] (by decide)⟩) ?_
    refine Wa_take (i := 3) rfl (by kernel_rfl) rfl rfl (.slice A0_1 a0.Kids.length c0_1) rfl (fun w' h' => x_load (cls_blk h' 4 rfl) ty23 rfl rfl) (⟨M, Hp.le_refl M, S.pick [0, 1, 2, 3, 4] (by decide)⟩) ?_
    refine Wa_take (i := 4) rfl (by kernel_rfl) rfl rfl (.int .i64 t38.1) rfl (fun w' h' => x_move rfl) (⟨M, Hp.le_refl M, S.pick [0, 1, 2, 3, 4] (by decide)⟩) ?_
    refine Wa_take (i := 5) rfl (by kernel_rfl) rfl rfl (.int .i64 (IntKind.i64.wrap (t38.1 + (1 : Int)))) rfl (fun w' h' => x_ibin rfl rfl rfl rfl) (⟨M, Hp.le_refl M, S.pick [0, 1, 2, 3, 4] (by decide)⟩) ?_
    obtain ⟨⟨p725, p726⟩, H⟩ := chkS H
    obtain ⟨b727, o728, cs729, _, _, ee734, hb730, vs731, hR732, hc733⟩ := SlW.at' hr0_1 p725 p726
    obtain rfl : vs731 = _ := hR732
    refine Wa_take (i := 6) rfl (by kernel_rfl) rfl rfl (.pointer (some ⟨b727, o728 + (IntKind.i64.wrap (t38.1 + (1 : Int))).toNat * 1, none⟩)) rfl (fun w' h' => x_indexAddr Try.underlying23 ty3 (slA ee734) rfl p725 p726) (⟨M, Hp.le_refl M, S.pick [0, 1, 2, 3, 4] (by decide)⟩) ?_
    refine Wa_take (i := 7) rfl (by kernel_rfl) rfl rfl (.int .i64 (rd a0.Kids (IntKind.i64.wrap (t38.1 + (1 : Int))))) rfl (fun w' h' => x_load (cls_frz h' hb730) ty3 rfl (hc733 0 _ rfl)) (⟨M, Hp.le_refl M, S.pick [0, 1, 2, 3, 4] (by decide)⟩) ?_
    obtain ⟨o827, o827h, o827H⟩ := bindS H
    clear H
    refine Wa_join (fun ρ w' => ∃ (x783 : Bool) (x784 : List Str) (x788 : List Int) (x792 : List Int) (x796 : Int) (A785 : Option Addr) (c786 : Nat) (A789 : Option Addr) (c790 : Nat) (A793 : Option Addr) (c794 : Nat) (b781 : Nat), (x783, x784, x788, x792, x796) = o827 ∧ Agree ρ [(4, .pointer (some ⟨b1, 0, none⟩)), (9, .func (.func 17) #[] #[]), (22, .pointer (some ⟨b578, 0, none⟩)), (23, .int .i64 t566.2), (24, .pointer (some ⟨b781, 0, none⟩)), (170, .agg #[.bool x783, .slice A785 x784.length c786, .slice A789 x788.length c790, .slice A793 x792.length c794]), (171, .int .i64 x796)] ∧ Ext w w' ∧ St w' M F [Blk b781 (.cells #[.bool false, .slice none 0 0, .slice none 0 0, .slice none 0 0] 26 (0, 0)), Row (rInt .u64) 41 (.slice A793 x792.length c794) x792, Row (rInt .i64) 3 (.slice A789 x788.length c790) x788, Row rStr 9 (.slice A785 x784.length c786) x784, Row rStr 9 (.slice A568 t566.1.Keys.length c569) t566.1.Keys, Row (rInt .i64) 3 (.slice A571 t566.1.Kids.length c572) t566.1.Kids, Row (rInt .u64) 41 (.slice A574 t566.1.Rows.length c575) t566.1.Rows, Blk b578 (.cells #[.bool t566.1.Leaf, .slice A568 t566.1.Keys.length c569, .slice A571 t566.1.Kids.length c572, .slice A574 t566.1.Rows.length c575] 26 (0, 0)), Blk b1 (.cells #[.bool a0.Leaf, .slice A0_0 a0.Keys.length c0_0, .slice A0_1 a0.Kids.length c0_1, .slice A0_2 a0.Rows.length c0_2] 26 (0, 0))]) 2 (Ls 15 [0, 1, 2, 3, 4, 5, 6, 7, 8, 9, 10, 11, 12]) ?_ ?_
    rotate_left
    · intro hq831
      clear o827H
      refine Wa_join (fun ρ w' => ∃ (x764 : Bool) (x765 : List Str) (x769 : List Int) (x773 : List Int) (x777 : Int) (A766 : Option Addr) (c767 : Nat) (A770 : Option Addr) (c771 : Nat) (A774 : Option Addr) (c775 : Nat), some (x764, x765, x769, x773, x777) = some o827 ∧ Agree ρ [(4, .pointer (some ⟨b1, 0, none⟩)), (9, .func (.func 17) #[] #[]), (22, .pointer (some ⟨b578, 0, none⟩)), (23, .int .i64 t566.2), (170, .agg #[.bool x764, .slice A766 x765.length c767, .slice A770 x769.length c771, .slice A774 x773.length c775]), (171, .int .i64 x777)] ∧ Ext w w' ∧ St w' M F [Row (rInt .u64) 41 (.slice A774 x773.length c775) x773, Row (rInt .i64) 3 (.slice A770 x769.length c771) x769, Row rStr 9 (.slice A766 x765.length c767) x765, Row rStr 9 (.slice A568 t566.1.Keys.length c569) t566.1.Keys, Row (rInt .i64) 3 (.slice A571 t566.1.Kids.length c572) t566.1.Kids, Row (rInt .u64) 41 (.slice A574 t566.1.Rows.length c575) t566.1.Rows, Blk b578 (.cells #[.bool t566.1.Leaf, .slice A568 t566.1.Keys.length c569, .slice A571 t566.1.Kids.length c572, .slice A574 t566.1.Rows.length c575] 26 (0, 0)), Blk b1 (.cells #[.bool a0.Leaf, .slice A0_0 a0.Keys.length c0_0, .slice A0_1 a0.Kids.length c0_1, .slice A0_2 a0.Rows.length c0_2] 26 (0, 0))]) 3 (Ls 15 [0, 1, 2, 3, 4, 5, 6, 7, 8, 9, 10, 11]) ?_ ?_
      · clear o827h
        rintro ρ w832 ⟨x764, x765, x769, x773, x777, A766, c767, A770, c771, A774, c775, H, hρ, E, S⟩
        rw [agree_eta hρ]
        clear hρ
        refine Wa_solo (i := 12) rfl (by kernel_rfl) ?_
        refine W_alloc S #[.bool false, .slice none 0 0, .slice none 0 0, .slice none 0 0] ty26 rfl rfl ?_
        intro b833 w834 E' S
        replace E := E.trans E'
        clear E'
        refine Wl_nil (on_n ⟨⟨M, Hp.le_refl M, S.pick [7, 4, 5, 6, 8] (by decide)⟩, ?_⟩)
        exact hq831 _ _ ⟨x764, x765, x769, x773, x777, A766, c767, A770, c771, A774, c775, b833, Option.some.inj H, ⟨rfl, rfl, rfl, rfl, rfl, rfl, rfl, trivial⟩, E, S.pick [0, 1, 2, 3, 4, 5, 6, 7, 8] (by decide)⟩
      intro hq830
      refine Wa_join (fun ρ w' => ∃ (b750 : Nat), (Option.bind (fork_Graft k t566.1 a1 (rd a0.Kids (IntKind.i64.wrap (t38.1 + (1 : Int))))) (fun t812 => some (t812.1.Leaf, t812.1.Keys, t812.1.Kids, t812.1.Rows, t812.2))) = some o827 ∧ Agree ρ [(4, .pointer (some ⟨b1, 0, none⟩)), (9, .func (.func 17) #[] #[]), (22, .pointer (some ⟨b578, 0, none⟩)), (23, .int .i64 t566.2), (24, .pointer (some ⟨b750, 0, none⟩)), (161, .agg #[.bool t566.1.Leaf, .slice A568 t566.1.Keys.length c569, .slice A571 t566.1.Kids.length c572, .slice A574 t566.1.Rows.length c575]), (162, .string (bs a1)), (168, .int .i64 (rd a0.Kids (IntKind.i64.wrap (t38.1 + (1 : Int)))))] ∧ Ext w w' ∧ St w' M F [Blk b750 (.cells #[.bool false, .slice none 0 0, .slice none 0 0, .slice none 0 0] 26 (0, 0)), Blk b578 (.cells #[.bool t566.1.Leaf, .slice A568 t566.1.Keys.length c569, .slice A571 t566.1.Kids.length c572, .slice A574 t566.1.Rows.length c575] 26 (0, 0)), Row rStr 9 (.slice A568 t566.1.Keys.length c569) t566.1.Keys, Row (rInt .i64) 3 (.slice A571 t566.1.Kids.length c572) t566.1.Kids, Row (rInt .u64) 41 (.slice A574 t566.1.Rows.length c575) t566.1.Rows, Blk b1 (.cells #[.bool a0.Leaf, .slice A0_0 a0.Keys.length c0_0, .slice A0_1 a0.Kids.length c0_1, .slice A0_2 a0.Rows.length c0_2] 26 (0, 0))]) 6 (Ls 15 [0, 1, 2, 3, 4, 5, 6, 7, 12]) ?_ ?_
      · clear o827h
        rintro ρ w836 ⟨b750, H, hρ, E, S⟩
        rw [agree_eta hρ]
        clear hρ
        refine Wa_solo (i := 8) rfl (by kernel_rfl) ?_
        replace S : St w836 M F [Row rStr 9 (.slice A568 t566.1.Keys.length c569) t566.1.Keys, Row (rInt .i64) 3 (.slice A571 t566.1.Kids.length c572) t566.1.Kids, Row (rInt .u64) 41 (.slice A574 t566.1.Rows.length c575) t566.1.Rows, Blk b750 (.cells #[.bool false, .slice none 0 0, .slice none 0 0, .slice none 0 0] 26 (0, 0)), Blk b578 (.cells #[.bool t566.1.Leaf, .slice A568 t566.1.Keys.length c569, .slice A571 t566.1.Kids.length c572, .slice A574 t566.1.Rows.length c575] 26 (0, 0)), Blk b1 (.cells #[.bool a0.Leaf, .slice A0_0 a0.Keys.length c0_0, .slice A0_1 a0.Kids.length c0_1, .slice A0_2 a0.Rows.length c0_2] 26 (0, 0))] := S.pick [2, 3, 4, 0, 1, 5] (by decide)
        obtain ⟨t837, ht838, H⟩ := bindS H
        refine W_callN 3 fn21 (fun h9 hs9 hd9 => fork_Graft.con k _ A568 c569 A571 c572 A574 c575 t566.1 a1 (rd a0.Kids (IntKind.i64.wrap (t38.1 + (1 : Int)))) t837 (Sats.row hs9 hd9 0 rfl) (Sats.row hs9 hd9 1 rfl) (Sats.row hs9 hd9 2 rfl) ht838) S rfl rfl (by rintro _ _ _ ⟨_, _, _, _, _, _, _, rfl⟩; exact (flat_cons (flat_row (fun _ _ _ _ h => h)) (flat_cons (flat_row (fun _ _ _ _ h => h)) (flat_cons (flat_row (fun _ _ _ _ h => h)) flat_nil)))) ?_
        rintro _ w848 _ Γ' E' S ⟨A839, c840, A842, c843, A845, c846, rfl, rfl⟩
        replace E := E.trans E'
        clear E'
        refine Wl_nil (on_n ⟨⟨M, Hp.le_refl M, S.pick [7, 3, 4, 5, 8] (by decide)⟩, ?_⟩)
        refine Wa_take (i := 9) rfl (by kernel_rfl) rfl rfl (.tuple #[.agg #[.bool t837.1.Leaf, .slice A839 t837.1.Keys.length c840, .slice A842 t837.1.Kids.length c843, .slice A845 t837.1.Rows.length c846], .int .i64 t837.2]) rfl (fun w' h' => x_move rfl) (⟨M, Hp.le_refl M, S.pick [7, 3, 4, 5, 8] (by decide)⟩) ?_
        refine Wa_take (i := 10) rfl (by kernel_rfl) rfl rfl (.agg #[.bool t837.1.Leaf, .slice A839 t837.1.Keys.length c840, .slice A842 t837.1.Kids.length c843, .slice A845 t837.1.Rows.length c846]) rfl (fun w' h' => x_extract rfl rfl) (⟨M, Hp.le_refl M, S.pick [7, 3, 4, 5, 8] (by decide)⟩) ?_
        refine Wa_take (i := 11) rfl (by kernel_rfl) rfl rfl (.int .i64 t837.2) rfl (fun w' h' => x_extract rfl rfl) (⟨M, Hp.le_refl M, S.pick [7, 3, 4, 5, 8] (by decide)⟩) ?_
        exact hq831 _ _ ⟨t837.1.Leaf, t837.1.Keys, t837.1.Kids, t837.1.Rows, t837.2, A839, c840, A842, c843, A845, c846, b750, Option.some.inj H, ⟨rfl, rfl, rfl, rfl, rfl, rfl, rfl, trivial⟩, E, S.pick [6, 2, 1, 0, 3, 4, 5, 7, 8] (by decide)⟩
      intro hq829
      have H := o827h
      refine Wa_oneOf (rs := [8, 12]) (by kernel_rfl) (by decide) ?_
      simp only [List.forall_mem_cons, List.not_mem_nil, false_implies, implies_true, and_true]
      refine ⟨?_, ?_⟩
      · refine ⟨_, rfl, ?_⟩
        replace S : St w723 M F [Row rStr 9 (.slice A568 t566.1.Keys.length c569) t566.1.Keys, Row (rInt .i64) 3 (.slice A571 t566.1.Kids.length c572) t566.1.Kids, Row (rInt .u64) 41 (.slice A574 t566.1.Rows.length c575) t566.1.Rows, Blk b578 (.cells #[.bool t566.1.Leaf, .slice A568 t566.1.Keys.length c569, .slice A571 t566.1.Kids.length c572, .slice A574 t566.1.Rows.length c575] 26 (0, 0)), Blk b1 (.cells #[.bool a0.Leaf, .slice A0_0 a0.Keys.length c0_0, .slice A0_1 a0.Kids.length c0_1, .slice A0_2 a0.Rows.length c0_2] 26 (0, 0))] := S.pick [1, 2, 3, 0, 4] (by decide)
        obtain ⟨t849, ht850, H⟩ := bindS H
        refine W_callN 3 fn21 (fun h9 hs9 hd9 => fork_Graft.con k _ A568 c569 A571 c572 A574 c575 t566.1 a1 (rd a0.Kids (IntKind.i64.wrap (t38.1 + (1 : Int)))) t849 (Sats.row hs9 hd9 0 rfl) (Sats.row hs9 hd9 1 rfl) (Sats.row hs9 hd9 2 rfl) ht850) S rfl rfl (by rintro _ _ _ ⟨_, _, _, _, _, _, _, rfl⟩; exact (flat_cons (flat_row (fun _ _ _ _ h => h)) (flat_cons (flat_row (fun _ _ _ _ h => h)) (flat_cons (flat_row (fun _ _ _ _ h => h)) flat_nil)))) ?_
        rintro _ w860 _ Γ' E' S ⟨A851, c852, A854, c855, A857, c858, rfl, rfl⟩
        replace E := E.trans E'
        clear E'
        refine Wl_nil (on_n ⟨⟨M, Hp.le_refl M, S.pick [6, 3, 4, 5, 7] (by decide)⟩, ?_⟩)
        refine Wa_take (i := 9) rfl (by kernel_rfl) rfl rfl (.tuple #[.agg #[.bool t849.1.Leaf, .slice A851 t849.1.Keys.length c852, .slice A854 t849.1.Kids.length c855, .slice A857 t849.1.Rows.length c858], .int .i64 t849.2]) rfl (fun w' h' => x_move rfl) (⟨M, Hp.le_refl M, S.pick [6, 3, 4, 5, 7] (by decide)⟩) ?_
        refine Wa_take (i := 10) rfl (by kernel_rfl) rfl rfl (.agg #[.bool t849.1.Leaf, .slice A851 t849.1.Keys.length c852, .slice A854 t849.1.Kids.length c855, .slice A857 t849.1.Rows.length c858]) rfl (fun w' h' => x_extract rfl rfl) (⟨M, Hp.le_refl M, S.pick [6, 3, 4, 5, 7] (by decide)⟩) ?_
        refine Wa_take (i := 11) rfl (by kernel_rfl) rfl rfl (.int .i64 t849.2) rfl (fun w' h' => x_extract rfl rfl) (⟨M, Hp.le_refl M, S.pick [6, 3, 4, 5, 7] (by decide)⟩) ?_
        exact hq830 _ _ ⟨t849.1.Leaf, t849.1.Keys, t849.1.Kids, t849.1.Rows, t849.2, A851, c852, A854, c855, A857, c858, H, ⟨rfl, rfl, rfl, rfl, rfl, rfl, trivial⟩, E, S.pick [2, 1, 0, 3, 4, 5, 6, 7] (by decide)⟩
      · refine ⟨_, rfl, ?_⟩
        refine W_alloc S #[.bool false, .slice none 0 0, .slice none 0 0, .slice none 0 0] ty26 rfl rfl ?_
        intro b861 w862 E' S
        replace E := E.trans E'
        clear E'
        refine Wl_nil (on_n ⟨⟨M, Hp.le_refl M, S.pick [1, 2, 3, 4, 5] (by decide)⟩, ?_⟩)
        exact hq829 _ _ ⟨b861, H, ⟨rfl, rfl, rfl, rfl, rfl, rfl, rfl, rfl, trivial⟩, E, S.pick [0, 1, 2, 3, 4, 5] (by decide)⟩
    clear o827h
    rintro ρ w864 ⟨x783, x784, x788, x792, x796, A785, c786, A789, c790, A793, c794, b781, rfl, hρ, E, S⟩
    rw [agree_eta hρ]
    clear hρ
    have H := o827H
    clear o827H
    refine Wa_solo (i := 13) rfl (by kernel_rfl) ?_
    refine W_store S 0 rfl ty26 rfl rfl [.bool x783, .slice A785 x784.length c786, .slice A789 x788.length c790, .slice A793 x792.length c794] rfl rfl rfl #[.bool x783, .slice A785 x784.length c786, .slice A789 x788.length c790, .slice A793 x792.length c794] rfl rfl ?_
    intro w865 E' S
    replace E := E.trans E'
    clear E'
    refine Wl_nil (on_n ⟨⟨M, Hp.le_refl M, S.pick [7, 4, 5, 6, 8] (by decide)⟩, ?_⟩)
    refine Wa_take (i := 14) rfl (by kernel_rfl) rfl rfl (.int .i64 x796) rfl (fun w' h' => x_assign rfl) (⟨M, Hp.le_refl M, S.pick [7, 4, 5, 6, 8] (by decide)⟩) ?_
    refine Wa_done (by kernel_rfl) ?_
    refine tn ?_
    refine Wp_seq ?_
    refine Wp_region_lit ?_
    refine W_v (.int .i64 t566.2) (x_move rfl) rfl ?_
    refine W_v (.bool (t566.2 == (0 : Int))) (x_ibin rfl rfl rfl rfl) rfl ?_
    refine W_v (.bool (t566.2 == (0 : Int))) (x_move rfl) rfl ?_
    obtain ⟨o874, o874h, o874H⟩ := bindS H
    clear H
    refine Wl_cutN 3 (fun ρ w' => ∃ (x873 : Bool), (x873) = o874 ∧ Agree ρ [(4, .pointer (some ⟨b1, 0, none⟩)), (9, .func (.func 17) #[] #[]), (24, .pointer (some ⟨b781, 0, none⟩)), (25, .int .i64 x796), (177, .bool x873)] ∧ Ext w w' ∧ St w' M F [Blk b781 (.cells #[.bool x783, .slice A785 x784.length c786, .slice A789 x788.length c790, .slice A793 x792.length c794] 26 (0, 0)), Row (rInt .u64) 41 (.slice A793 x792.length c794) x792, Row (rInt .i64) 3 (.slice A789 x788.length c790) x788, Row rStr 9 (.slice A785 x784.length c786) x784, Blk b1 (.cells #[.bool a0.Leaf, .slice A0_0 a0.Keys.length c0_0, .slice A0_1 a0.Kids.length c0_1, .slice A0_2 a0.Rows.length c0_2] 26 (0, 0))]) ?_ ?_
    · have H := o874h
      rcases iteS H with ⟨hb872, H⟩ | ⟨hb872, H⟩
      · skip
        refine W_yes (congrArg some hb872) ?_
        refine W_v (.agg #[.bool t566.1.Leaf, .slice A568 t566.1.Keys.length c569, .slice A571 t566.1.Kids.length c572, .slice A574 t566.1.Rows.length c575]) (x_loadA (S.blk 7 rfl) ty26 rfl (sub_of_extract rfl) rfl rfl) rfl ?_
        refine W_yes (congrArg some hb872) ?_
        replace S : St w865 M F [Row rStr 9 (.slice A568 t566.1.Keys.length c569) t566.1.Keys, Row (rInt .i64) 3 (.slice A571 t566.1.Kids.length c572) t566.1.Kids, Row (rInt .u64) 41 (.slice A574 t566.1.Rows.length c575) t566.1.Rows, Blk b781 (.cells #[.bool x783, .slice A785 x784.length c786, .slice A789 x788.length c790, .slice A793 x792.length c794] 26 (0, 0)), Row (rInt .u64) 41 (.slice A793 x792.length c794) x792, Row (rInt .i64) 3 (.slice A789 x788.length c790) x788, Row rStr 9 (.slice A785 x784.length c786) x784, Blk b578 (.cells #[.bool t566.1.Leaf, .slice A568 t566.1.Keys.length c569, .slice A571 t566.1.Kids.length c572, .slice A574 t566.1.Rows.length c575] 26 (0, 0)), Blk b1 (.cells #[.bool a0.Leaf, .slice A0_0 a0.Keys.length c0_0, .slice A0_1 a0.Kids.length c0_1, .slice A0_2 a0.Rows.length c0_2] 26 (0, 0))] := S.pick [4, 5, 6, 0, 1, 2, 3, 7, 8] (by decide)
        obtain ⟨t875, ht876, H⟩ := bindS H
        refine W_callN 3 fn11 (fun h9 hs9 hd9 => fork_May.con k _ A568 c569 A571 c572 A574 c575 t566.1 t875 (Sats.row hs9 hd9 0 rfl) (Sats.row hs9 hd9 1 rfl) (Sats.row hs9 hd9 2 rfl) ht876) S rfl rfl (by rintro _ _ _ ⟨_, rfl⟩; exact flat_nil) ?_
        rintro _ w877 _ Γ' E' S ⟨rfl, rfl⟩
        replace E := E.trans E'
        clear E'
        refine W_v (.bool t875) (x_pick (k := true) (congrArg Value.bool hb872) rfl) rfl ?_
        refine Wl_nil ?_
        exact ⟨t875, Option.some.inj H, ⟨rfl, rfl, rfl, rfl, rfl, trivial⟩, E, S.pick [3, 4, 5, 6, 8] (by decide)⟩
      · skip
        refine W_no (skT hb872) rfl ?_
        refine W_no (skT hb872) rfl ?_
        refine W_v (.bool false) (x_pick (k := false) (congrArg Value.bool hb872) rfl) rfl ?_
        refine Wl_nil ?_
        exact ⟨false, Option.some.inj H, ⟨rfl, rfl, rfl, rfl, rfl, trivial⟩, E, S.pick [0, 1, 2, 3, 8] (by decide)⟩
    clear o874h
    rintro ρ w878 ⟨x873, rfl, hρ, E, S⟩
    rw [agree_eta hρ]
    clear hρ
    have H := o874H
    clear o874H
    refine W_v (.bool x873) (x_move rfl) rfl ?_
    refine Wl_cutN 3 (fun ρ w' => Agree ρ [(4, .pointer (some ⟨b1, 0, none⟩)), (9, .func (.func 17) #[] #[]), (24, .pointer (some ⟨b781, 0, none⟩)), (181, .bool (x873 && (x796 == (0 : Int))))] ∧ w878 = w') ?_ ?_
    · rcases boolCases x873 with hb879 | hb879
      · skip
        refine W_no (skT hb879) rfl ?_
        refine W_no (skT hb879) rfl ?_
        refine W_v (.bool false) (x_pick (k := false) (congrArg Value.bool hb879) rfl) rfl ?_
        refine Wl_nil ?_
        exact ⟨⟨rfl, rfl, rfl, (by first | rfl | (rw [hb879]; rfl) | (simp only [hb879]; rfl)), trivial⟩, rfl⟩
      · skip
        refine W_yes (congrArg some hb879) ?_
        refine W_v (.int .i64 x796) (x_move rfl) rfl ?_
        refine W_yes (congrArg some hb879) ?_
        refine W_v (.bool (x796 == (0 : Int))) (x_ibin rfl rfl rfl rfl) rfl ?_
        refine W_v (.bool (x796 == (0 : Int))) (x_pick (k := true) (congrArg Value.bool hb879) rfl) rfl ?_
        refine Wl_nil ?_
        exact ⟨⟨rfl, rfl, rfl, (by first | rfl | (rw [hb879]; rfl) | (simp only [hb879]; rfl)), trivial⟩, rfl⟩
    rintro ρ _ ⟨hρ, rfl⟩
    rw [agree_eta hρ]
    clear hρ
    refine W_v (.bool (x873 && (x796 == (0 : Int)))) (x_move rfl) rfl ?_
    obtain ⟨o922, o922h, o922H⟩ := bindS H
    clear H
    refine Wl_cutN 5 (fun ρ w' => ∃ (x909 : Bool) (Mj : Hp), (x909) = o922 ∧ Agree ρ [(187, .bool x909)] ∧ M.le Mj ∧ Ext w w' ∧ St w' Mj F []) ?_ ?_
    · have H := o922h
      have LE923 := Hp.le_refl M
      rcases iteS H with ⟨hb908, H⟩ | ⟨hb908, H⟩
      · skip
        refine W_yes (congrArg some hb908) ?_
        refine W_v (.func (.func 17) #[] #[]) (x_move rfl) rfl ?_
        refine W_yes (congrArg some hb908) ?_
        refine W_v (.agg #[.bool x783, .slice A785 x784.length c786, .slice A789 x788.length c790, .slice A793 x792.length c794]) (x_loadA (S.blk 0 rfl) ty26 rfl (sub_of_extract rfl) rfl rfl) rfl ?_
        refine W_yes (congrArg some hb908) ?_
        refine W_v (.agg #[.bool a0.Leaf, .slice A0_0 a0.Keys.length c0_0, .slice A0_1 a0.Kids.length c0_1, .slice A0_2 a0.Rows.length c0_2]) (x_loadA (S.blk 4 rfl) ty26 rfl (sub_of_extract rfl) rfl rfl) rfl ?_
        refine W_yes (congrArg some hb908) ?_
        obtain ⟨M924, hM925, hf926, S⟩ := S.row_freeze 3 rfl
        replace HM := Hp.le_trans HM hM925
        replace LE923 := Hp.le_trans LE923 hM925
        replace hr0_0 := SlR.mono hr0_0 hM925
        replace hr0_1 := SlR.mono hr0_1 hM925
        replace hr0_2 := SlR.mono hr0_2 hM925
        obtain ⟨M927, hM928, hf929, S⟩ := S.row_freeze 2 rfl
        replace HM := Hp.le_trans HM hM928
        replace LE923 := Hp.le_trans LE923 hM928
        replace hr0_0 := SlR.mono hr0_0 hM928
        replace hr0_1 := SlR.mono hr0_1 hM928
        replace hr0_2 := SlR.mono hr0_2 hM928
        replace hf926 := SlR.mono hf926 hM928
        obtain ⟨M930, hM931, hf932, S⟩ := S.row_freeze 1 rfl
        replace HM := Hp.le_trans HM hM931
        replace LE923 := Hp.le_trans LE923 hM931
        replace hr0_0 := SlR.mono hr0_0 hM931
        replace hr0_1 := SlR.mono hr0_1 hM931
        replace hr0_2 := SlR.mono hr0_2 hM931
        replace hf926 := SlR.mono hf926 hM931
        replace hf929 := SlR.mono hf929 hM931
        obtain ⟨t933, ht934, H⟩ := bindS H
        replace S : St w878 M930 F [Blk b781 (.cells #[.bool x783, .slice A785 x784.length c786, .slice A789 x788.length c790, .slice A793 x792.length c794] 26 (0, 0)), Blk b1 (.cells #[.bool a0.Leaf, .slice A0_0 a0.Keys.length c0_0, .slice A0_1 a0.Kids.length c0_1, .slice A0_2 a0.Rows.length c0_2] 26 (0, 0))] := S.pick [0, 1] (by decide)
        refine W_callv (fs := []) (cap := []) fn17 rfl (ferrymanlaw13_ForkBack_1.con k M930 A785 c786 A789 c790 A793 c794 (⟨x783, x784, x788, x792⟩ : fork_Node) A0_0 c0_0 A0_1 c0_1 A0_2 c0_2 a0 t933 hf926 hf929 hf932 hr0_0 hr0_1 hr0_2 ht934) (Γ1 := []) (Γ2 := [Blk b781 (.cells #[.bool x783, .slice A785 x784.length c786, .slice A789 x788.length c790, .slice A793 x792.length c794] 26 (0, 0)), Blk b1 (.cells #[.bool a0.Leaf, .slice A0_0 a0.Keys.length c0_0, .slice A0_1 a0.Kids.length c0_1, .slice A0_2 a0.Rows.length c0_2] 26 (0, 0))]) S rfl rfl ?_
        rintro _ w935 M936 Γ' hM937 E' S ⟨rfl, rfl⟩
        replace HM := Hp.le_trans HM hM937
        replace LE923 := Hp.le_trans LE923 hM937
        replace hr0_0 := SlR.mono hr0_0 hM937
        replace hr0_1 := SlR.mono hr0_1 hM937
        replace hr0_2 := SlR.mono hr0_2 hM937
        replace hf926 := SlR.mono hf926 hM937
        replace hf929 := SlR.mono hf929 hM937
        replace hf932 := SlR.mono hf932 hM937
        replace E := E.trans E'
        clear E'
        replace S : St w935 M936 F [Blk b781 (.cells #[.bool x783, .slice A785 x784.length c786, .slice A789 x788.length c790, .slice A793 x792.length c794] 26 (0, 0)), Blk b1 (.cells #[.bool a0.Leaf, .slice A0_0 a0.Keys.length c0_0, .slice A0_1 a0.Kids.length c0_1, .slice A0_2 a0.Rows.length c0_2] 26 (0, 0))] := S
        refine W_v (.bool t933) (x_pick (k := true) (congrArg Value.bool hb908) rfl) rfl ?_
        refine Wl_nil ?_
        exact ⟨t933, M936, Option.some.inj H, ⟨rfl, trivial⟩, LE923, E, S.pick [] (by decide)⟩
      · skip
        refine W_no (skT hb908) rfl ?_
        refine W_no (skT hb908) rfl ?_
        refine W_no (skT hb908) rfl ?_
        refine W_no (skT hb908) rfl ?_
        refine W_v (.bool false) (x_pick (k := false) (congrArg Value.bool hb908) rfl) rfl ?_
        refine Wl_nil ?_
        exact ⟨false, M, Option.some.inj H, ⟨rfl, trivial⟩, (Hp.le_refl M), E, S.pick [] (by decide)⟩
    clear o922h
    rintro ρ w938 ⟨x909, M939, rfl, hρ, hM940, E, S⟩
    rw [agree_eta hρ]
    clear hρ
    replace HM := Hp.le_trans HM hM940
    replace hr0_0 := SlR.mono hr0_0 hM940
    replace hr0_1 := SlR.mono hr0_1 hM940
    replace hr0_2 := SlR.mono hr0_2 hM940
    have H := o922H
    clear o922H
    refine W_v (.bool x909) (x_assign rfl) rfl ?_
    refine Wl_nil ?_
    refine tn ?_
    refine Wp_ret ?_
    refine tr (?_)
    obtain rfl := Option.some.inj H
    exact ⟨_, _, _, fun w1 e1 => run_resR (vs := [.bool x909]) (FA.cons (rfl) (FA.nil)), HM, E, S.pick [] (by decide), ⟨rfl, rfl⟩⟩
  refine Wp_cond_false (congrArg Value.bool hb565) ?_
  refine Wp_skip ?_
  refine tn ?_
  refine Wp_seq ?_
  refine Wp_region_lit ?_
  refine W_v (.agg #[.bool a0.Leaf, .slice A0_0 a0.Keys.length c0_0, .slice A0_1 a0.Kids.length c0_1, .slice A0_2 a0.Rows.length c0_2]) (x_loadA (S.blk 0 rfl) ty26 rfl (sub_of_extract rfl) rfl rfl) rfl ?_
  refine W_v (.string (bs a1)) (x_move rfl) rfl ?_
  refine W_v (.int .i64 a3) (x_move rfl) rfl ?_
  obtain ⟨t941, ht942, H⟩ := bindS H
  refine W_callF fn21 (fork_Graft.con k M A0_0 c0_0 A0_1 c0_1 A0_2 c0_2 a0 a1 a3 t941 hr0_0 hr0_1 hr0_2 ht942) S rfl rfl (by rintro _ _ _ ⟨_, _, _, _, _, _, _, rfl⟩; exact (flat_cons (flat_row (fun _ _ _ _ h => h)) (flat_cons (flat_row (fun _ _ _ _ h => h)) (flat_cons (flat_row (fun _ _ _ _ h => h)) flat_nil)))) ?_
  rintro _ w952 _ Γ' E' S ⟨A943, c944, A946, c947, A949, c950, rfl, rfl⟩
  replace E := E.trans E'
  clear E'
  refine W_v (.tuple #[.agg #[.bool t941.1.Leaf, .slice A943 t941.1.Keys.length c944, .slice A946 t941.1.Kids.length c947, .slice A949 t941.1.Rows.length c950], .int .i64 t941.2]) (x_move rfl) rfl ?_
  refine W_v (.agg #[.bool t941.1.Leaf, .slice A943 t941.1.Keys.length c944, .slice A946 t941.1.Kids.length c947, .slice A949 t941.1.Rows.length c950]) (x_extract rfl rfl) rfl ?_
  refine W_v (.int .i64 t941.2) (x_extract rfl rfl) rfl ?_
  refine W_alloc S #[.bool false, .slice none 0 0, .slice none 0 0, .slice none 0 0] ty26 rfl rfl ?_
  intro b953 w954 E' S
  replace E := E.trans E'
  clear E'
  refine W_store S 0 rfl ty26 rfl rfl [.bool t941.1.Leaf, .slice A943 t941.1.Keys.length c944, .slice A946 t941.1.Kids.length c947, .slice A949 t941.1.Rows.length c950] rfl rfl rfl #[.bool t941.1.Leaf, .slice A943 t941.1.Keys.length c944, .slice A946 t941.1.Kids.length c947, .slice A949 t941.1.Rows.length c950] rfl rfl ?_
  intro w956 E' S
  replace E := E.trans E'
  clear E'
  refine W_v (.int .i64 t941.2) (x_assign rfl) rfl ?_
  refine Wl_nil ?_
  refine tn ?_
  refine Wp_seq ?_
  refine Wp_region_lit ?_
  refine W_v (.agg #[.bool t941.1.Leaf, .slice A943 t941.1.Keys.length c944, .slice A946 t941.1.Kids.length c947, .slice A949 t941.1.Rows.length c950]) (x_loadA (S.blk 0 rfl) ty26 rfl (sub_of_extract rfl) rfl rfl) rfl ?_
  refine W_v (.string (bs a1)) (x_move rfl) rfl ?_
  replace S : St w956 M F [Row rStr 9 (.slice A943 t941.1.Keys.length c944) t941.1.Keys, Row (rInt .i64) 3 (.slice A946 t941.1.Kids.length c947) t941.1.Kids, Row (rInt .u64) 41 (.slice A949 t941.1.Rows.length c950) t941.1.Rows, Blk b953 (.cells #[.bool t941.1.Leaf, .slice A943 t941.1.Keys.length c944, .slice A946 t941.1.Kids.length c947, .slice A949 t941.1.Rows.length c950] 26 (0, 0)), Blk b1 (.cells #[.bool a0.Leaf, .slice A0_0 a0.Keys.length c0_0, .slice A0_1 a0.Kids.length c0_1, .slice A0_2 a0.Rows.length c0_2] 26 (0, 0))] := S.pick [1, 2, 3, 0, 4] (by decide)
  obtain ⟨t957, ht958, H⟩ := bindS H
  refine W_callN 3 fn13 (fun h9 hs9 hd9 => fork_Kid.con k _ A943 c944 A946 c947 A949 c950 t941.1 a1 t957 (Sats.row hs9 hd9 0 rfl) (Sats.row hs9 hd9 1 rfl) (Sats.row hs9 hd9 2 rfl) ht958) S rfl rfl (by rintro _ _ _ ⟨_, rfl⟩; exact flat_nil) ?_
  rintro _ w959 _ Γ' E' S ⟨rfl, rfl⟩
  replace E := E.trans E'
  clear E'
  refine W_v (.int .i64 t957) (x_assign rfl) rfl ?_
  refine Wl_nil ?_
  refine tn ?_
  refine Wp_seq ?_
  refine Wp_region_lit ?_
  refine W_v (.agg #[.bool t941.1.Leaf, .slice A943 t941.1.Keys.length c944, .slice A946 t941.1.Kids.length c947, .slice A949 t941.1.Rows.length c950]) (x_loadA (S.blk 3 rfl) ty26 rfl (sub_of_extract rfl) rfl rfl) rfl ?_
  refine W_v (.int .i64 t957) (x_move rfl) rfl ?_
  obtain ⟨t960, ht961, H⟩ := bindS H
  refine W_callN 3 fn20 (fun h9 hs9 hd9 => fork_Cut.con k _ A943 c944 A946 c947 A949 c950 t941.1 t957 t960 (Sats.row hs9 hd9 0 rfl) (Sats.row hs9 hd9 1 rfl) (Sats.row hs9 hd9 2 rfl) ht961) S rfl rfl (by rintro _ _ _ ⟨_, _, _, _, _, _, _, rfl⟩; exact (flat_cons (flat_row (fun _ _ _ _ h => h)) (flat_cons (flat_row (fun _ _ _ _ h => h)) (flat_cons (flat_row (fun _ _ _ _ h => h)) flat_nil)))) ?_
  rintro _ w971 _ Γ' E' S ⟨A962, c963, A965, c966, A968, c969, rfl, rfl⟩
  replace E := E.trans E'
  clear E'
  refine W_v (.tuple #[.agg #[.bool t960.1.Leaf, .slice A962 t960.1.Keys.length c963, .slice A965 t960.1.Kids.length c966, .slice A968 t960.1.Rows.length c969], .int .i64 t960.2]) (x_move rfl) rfl ?_
  refine W_v (.agg #[.bool t960.1.Leaf, .slice A962 t960.1.Keys.length c963, .slice A965 t960.1.Kids.length c966, .slice A968 t960.1.Rows.length c969]) (x_extract rfl rfl) rfl ?_
  refine W_v (.int .i64 t960.2) (x_extract rfl rfl) rfl ?_
  refine W_alloc S #[.bool false, .slice none 0 0, .slice none 0 0, .slice none 0 0] ty26 rfl rfl ?_
  intro b972 w973 E' S
  replace E := E.trans E'
  clear E'
  refine W_store S 0 rfl ty26 rfl rfl [.bool t960.1.Leaf, .slice A962 t960.1.Keys.length c963, .slice A965 t960.1.Kids.length c966, .slice A968 t960.1.Rows.length c969] rfl rfl rfl #[.bool t960.1.Leaf, .slice A962 t960.1.Keys.length c963, .slice A965 t960.1.Kids.length c966, .slice A968 t960.1.Rows.length c969] rfl rfl ?_
  intro w975 E' S
  replace E := E.trans E'
  clear E'
  refine W_v (.int .i64 t960.2) (x_assign rfl) rfl ?_
  refine Wl_nil ?_
  refine tn ?_
  refine Wp_seq ?_
  refine Wp_region_lit ?_
  refine W_v (.int .i64 t941.2) (x_move rfl) rfl ?_
  refine W_v (.bool (t941.2 == (0 : Int))) (x_ibin rfl rfl rfl rfl) rfl ?_
  refine W_v (.bool (t941.2 == (0 : Int))) (x_move rfl) rfl ?_
  obtain ⟨o984, o984h, o984H⟩ := bindS H
  clear H
  refine Wl_cutN 3 (fun ρ w' => ∃ (x983 : Bool), (x983) = o984 ∧ Agree ρ [(3, .int .i64 a3), (4, .pointer (some ⟨b1, 0, none⟩)), (9, .func (.func 17) #[] #[]), (10, .int .i64 t38.1), (26, .pointer (some ⟨b953, 0, none⟩)), (28, .int .i64 t957), (29, .pointer (some ⟨b972, 0, none⟩)), (30, .int .i64 t960.2), (209, .bool x983)] ∧ Ext w w' ∧ St w' M F [Row rStr 9 (.slice A943 t941.1.Keys.length c944) t941.1.Keys, Row (rInt .i64) 3 (.slice A946 t941.1.Kids.length c947) t941.1.Kids, Row (rInt .u64) 41 (.slice A949 t941.1.Rows.length c950) t941.1.Rows, Blk b972 (.cells #[.bool t960.1.Leaf, .slice A962 t960.1.Keys.length c963, .slice A965 t960.1.Kids.length c966, .slice A968 t960.1.Rows.length c969] 26 (0, 0)), Row rStr 9 (.slice A962 t960.1.Keys.length c963) t960.1.Keys, Row (rInt .i64) 3 (.slice A965 t960.1.Kids.length c966) t960.1.Kids, Row (rInt .u64) 41 (.slice A968 t960.1.Rows.length c969) t960.1.Rows, Blk b953 (.cells #[.bool t941.1.Leaf, .slice A943 t941.1.Keys.length c944, .slice A946 t941.1.Kids.length c947, .slice A949 t941.1.Rows.length c950] 26 (0, 0)), Blk b1 (.cells #[.bool a0.Leaf, .slice A0_0 a0.Keys.length c0_0, .slice A0_1 a0.Kids.length c0_1, .slice A0_2 a0.Rows.length c0_2] 26 (0, 0))]) ?_ ?_
  · have H := o984h
    rcases iteS H with ⟨hb982, H⟩ | ⟨hb982, H⟩
    · skip
      refine W_yes (congrArg some hb982) ?_
      refine W_v (.agg #[.bool t941.1.Leaf, .slice A943 t941.1.Keys.length c944, .slice A946 t941.1.Kids.length c947, .slice A949 t941.1.Rows.length c950]) (x_loadA (S.blk 7 rfl) ty26 rfl (sub_of_extract rfl) rfl rfl) rfl ?_
      refine W_yes (congrArg some hb982) ?_
      replace S : St w975 M F [Row rStr 9 (.slice A943 t941.1.Keys.length c944) t941.1.Keys, Row (rInt .i64) 3 (.slice A946 t941.1.Kids.length c947) t941.1.Kids, Row (rInt .u64) 41 (.slice A949 t941.1.Rows.length c950) t941.1.Rows, Blk b972 (.cells #[.bool t960.1.Leaf, .slice A962 t960.1.Keys.length c963, .slice A965 t960.1.Kids.length c966, .slice A968 t960.1.Rows.length c969] 26 (0, 0)), Row rStr 9 (.slice A962 t960.1.Keys.length c963) t960.1.Keys, Row (rInt .i64) 3 (.slice A965 t960.1.Kids.length c966) t960.1.Kids, Row (rInt .u64) 41 (.slice A968 t960.1.Rows.length c969) t960.1.Rows, Blk b953 (.cells #[.bool t941.1.Leaf, .slice A943 t941.1.Keys.length c944, .slice A946 t941.1.Kids.length c947, .slice A949 t941.1.Rows.length c950] 26 (0, 0)), Blk b1 (.cells #[.bool a0.Leaf, .slice A0_0 a0.Keys.length c0_0, .slice A0_1 a0.Kids.length c0_1, .slice A0_2 a0.Rows.length c0_2] 26 (0, 0))] := S.pick [4, 5, 6, 0, 1, 2, 3, 7, 8] (by decide)
      obtain ⟨t985, ht986, H⟩ := bindS H
      refine W_callN 3 fn11 (fun h9 hs9 hd9 => fork_May.con k _ A943 c944 A946 c947 A949 c950 t941.1 t985 (Sats.row hs9 hd9 0 rfl) (Sats.row hs9 hd9 1 rfl) (Sats.row hs9 hd9 2 rfl) ht986) S rfl rfl (by rintro _ _ _ ⟨_, rfl⟩; exact flat_nil) ?_
      rintro _ w987 _ Γ' E' S ⟨rfl, rfl⟩
      replace E := E.trans E'
      clear E'
      refine W_v (.bool t985) (x_pick (k := true) (congrArg Value.bool hb982) rfl) rfl ?_
      refine Wl_nil ?_
      exact ⟨t985, Option.some.inj H, ⟨rfl, rfl, rfl, rfl, rfl, rfl, rfl, rfl, rfl, trivial⟩, E, S.pick [0, 1, 2, 3, 4, 5, 6, 7, 8] (by decide)⟩
    · skip
      refine W_no (skT hb982) rfl ?_
      refine W_no (skT hb982) rfl ?_
      refine W_v (.bool false) (x_pick (k := false) (congrArg Value.bool hb982) rfl) rfl ?_
      refine Wl_nil ?_
      exact ⟨false, Option.some.inj H, ⟨rfl, rfl, rfl, rfl, rfl, rfl, rfl, rfl, rfl, trivial⟩, E, S.pick [4, 5, 6, 0, 1, 2, 3, 7, 8] (by decide)⟩
  clear o984h
  rintro ρ w988 ⟨x983, rfl, hρ, E, S⟩
  rw [agree_eta hρ]
  clear hρ
  have H := o984H
  clear o984H
  refine W_v (.bool x983) (x_move rfl) rfl ?_
  refine Wl_cutN 5 (fun ρ w' => Agree ρ [(3, .int .i64 a3), (4, .pointer (some ⟨b1, 0, none⟩)), (9, .func (.func 17) #[] #[]), (26, .pointer (some ⟨b953, 0, none⟩)), (28, .int .i64 t957), (29, .pointer (some ⟨b972, 0, none⟩)), (30, .int .i64 t960.2), (215, .bool (x983 && (t957 == (IntKind.i64.wrap (t38.1 + (1 : Int))))))] ∧ w988 = w') ?_ ?_
  · rcases boolCases x983 with hb989 | hb989
    · skip
      refine W_no (skT hb989) rfl ?_
      refine W_no (skT hb989) rfl ?_
      refine W_no (skT hb989) rfl ?_
      refine W_no (skT hb989) rfl ?_
      refine W_v (.bool false) (x_pick (k := false) (congrArg Value.bool hb989) rfl) rfl ?_
      refine Wl_nil ?_
      exact ⟨⟨rfl, rfl, rfl, rfl, rfl, rfl, rfl, (by first | rfl | (rw [hb989]; rfl) | (simp only [hb989]; rfl)), trivial⟩, rfl⟩
    · skip
      refine W_yes (congrArg some hb989) ?_
      refine W_v (.int .i64 t957) (x_move rfl) rfl ?_
      refine W_yes (congrArg some hb989) ?_
      refine W_v (.int .i64 t38.1) (x_move rfl) rfl ?_
      refine W_yes (congrArg some hb989) ?_
      refine W_v (.int .i64 (IntKind.i64.wrap (t38.1 + (1 : Int)))) (x_ibin rfl rfl rfl rfl) rfl ?_
      refine W_yes (congrArg some hb989) ?_
      refine W_v (.bool (t957 == (IntKind.i64.wrap (t38.1 + (1 : Int))))) (x_ibin rfl rfl rfl rfl) rfl ?_
      refine W_v (.bool (t957 == (IntKind.i64.wrap (t38.1 + (1 : Int))))) (x_pick (k := true) (congrArg Value.bool hb989) rfl) rfl ?_
      refine Wl_nil ?_
      exact ⟨⟨rfl, rfl, rfl, rfl, rfl, rfl, rfl, (by first | rfl | (rw [hb989]; rfl) | (simp only [hb989]; rfl)), trivial⟩, rfl⟩
  rintro ρ _ ⟨hρ, rfl⟩
  rw [agree_eta hρ]
  clear hρ
  refine W_v (.bool (x983 && (t957 == (IntKind.i64.wrap (t38.1 + (1 : Int)))))) (x_move rfl) rfl ?_
  obtain ⟨o1012, o1012h, o1012H⟩ := bindS H
  clear H
  refine Wl_cutN 8 (fun ρ w' => ∃ (x1011 : Bool), (x1011) = o1012 ∧ Agree ρ [(4, .pointer (some ⟨b1, 0, none⟩)), (9, .func (.func 17) #[] #[]), (29, .pointer (some ⟨b972, 0, none⟩)), (30, .int .i64 t960.2), (224, .bool x1011)] ∧ Ext w w' ∧ St w' M F [Blk b972 (.cells #[.bool t960.1.Leaf, .slice A962 t960.1.Keys.length c963, .slice A965 t960.1.Kids.length c966, .slice A968 t960.1.Rows.length c969] 26 (0, 0)), Row rStr 9 (.slice A962 t960.1.Keys.length c963) t960.1.Keys, Row (rInt .i64) 3 (.slice A965 t960.1.Kids.length c966) t960.1.Kids, Row (rInt .u64) 41 (.slice A968 t960.1.Rows.length c969) t960.1.Rows, Blk b1 (.cells #[.bool a0.Leaf, .slice A0_0 a0.Keys.length c0_0, .slice A0_1 a0.Kids.length c0_1, .slice A0_2 a0.Rows.length c0_2] 26 (0, 0))]) ?_ ?_
  · have H := o1012h
    rcases iteS H with ⟨hb1010, H⟩ | ⟨hb1010, H⟩
    · skip
      refine W_yes (congrArg some hb1010) ?_
      refine W_v (.pointer (some ⟨b953, 2, none⟩)) (x_fieldAddr (o := 0) (off := 2) Try.underlying26 rfl ty23 rfl rfl) rfl ?_
      refine W_yes (congrArg some hb1010) ?_
      refine W_v (.slice A946 t941.1.Kids.length c947) (x_load (S.blk 7 rfl) ty23 rfl rfl) rfl ?_
      refine W_yes (congrArg some hb1010) ?_
      refine W_v (.int .i64 t957) (x_move rfl) rfl ?_
      refine W_yes (congrArg some hb1010) ?_
      obtain ⟨⟨p1013, p1014⟩, H⟩ := chkS H
      obtain ⟨b1015, o1016, cs1017, _, _, ee1022, hb1018, vs1019, hR1020, hc1021⟩ := SlW.at' (S.row_read 1 rfl) p1013 p1014
      obtain rfl : vs1019 = _ := hR1020
      refine W_v (.pointer (some ⟨b1015, o1016 + t957.toNat * 1, none⟩)) (x_indexAddr Try.underlying23 ty3 (slA ee1022) rfl p1013 p1014) rfl ?_
      refine W_yes (congrArg some hb1010) ?_
      refine W_v (.int .i64 (rd t941.1.Kids t957)) (x_load (Hp.of_get hb1018) ty3 rfl (hc1021 0 _ rfl)) rfl ?_
      refine W_yes (congrArg some hb1010) ?_
      refine W_v (.int .i64 a3) (x_move rfl) rfl ?_
      refine W_yes (congrArg some hb1010) ?_
      refine W_v (.bool ((rd t941.1.Kids t957) == a3)) (x_ibin rfl rfl rfl rfl) rfl ?_
      refine W_v (.bool ((rd t941.1.Kids t957) == a3)) (x_pick (k := true) (congrArg Value.bool hb1010) rfl) rfl ?_
      refine Wl_nil ?_
      exact ⟨((rd t941.1.Kids t957) == a3), Option.some.inj H, ⟨rfl, rfl, rfl, rfl, rfl, trivial⟩, E, S.pick [3, 4, 5, 6, 8] (by decide)⟩
    · skip
      refine W_no (skT hb1010) rfl ?_
      refine W_no (skT hb1010) rfl ?_
      refine W_no (skT hb1010) rfl ?_
      refine W_no (skT hb1010) rfl ?_
      refine W_no (skT hb1010) rfl ?_
      refine W_no (skT hb1010) rfl ?_
      refine W_no (skT hb1010) rfl ?_
      refine W_v (.bool false) (x_pick (k := false) (congrArg Value.bool hb1010) rfl) rfl ?_
      refine Wl_nil ?_
      exact ⟨false, Option.some.inj H, ⟨rfl, rfl, rfl, rfl, rfl, trivial⟩, E, S.pick [3, 4, 5, 6, 8] (by decide)⟩
  clear o1012h
  rintro ρ w1023 ⟨x1011, rfl, hρ, E, S⟩
  rw [agree_eta hρ]
  clear hρ
  have H := o1012H
  clear o1012H
  refine W_v (.bool x1011) (x_move rfl) rfl ?_
  refine Wl_cutN 3 (fun ρ w' => Agree ρ [(4, .pointer (some ⟨b1, 0, none⟩)), (9, .func (.func 17) #[] #[]), (29, .pointer (some ⟨b972, 0, none⟩)), (228, .bool (x1011 && (t960.2 == (0 : Int))))] ∧ w1023 = w') ?_ ?_
  · rcases boolCases x1011 with hb1024 | hb1024
    · skip
      refine W_no (skT hb1024) rfl ?_
      refine W_no (skT hb1024) rfl ?_
      refine W_v (.bool false) (x_pick (k := false) (congrArg Value.bool hb1024) rfl) rfl ?_
      refine Wl_nil ?_
      exact ⟨⟨rfl, rfl, rfl, (by first | rfl | (rw [hb1024]; rfl) | (simp only [hb1024]; rfl)), trivial⟩, rfl⟩
    · skip
      refine W_yes (congrArg some hb1024) ?_
      refine W_v (.int .i64 t960.2) (x_move rfl) rfl ?_
      refine W_yes (congrArg some hb1024) ?_
      refine W_v (.bool (t960.2 == (0 : Int))) (x_ibin rfl rfl rfl rfl) rfl ?_
      refine W_v (.bool (t960.2 == (0 : Int))) (x_pick (k := true) (congrArg Value.bool hb1024) rfl) rfl ?_
      refine Wl_nil ?_
      exact ⟨⟨rfl, rfl, rfl, (by first | rfl | (rw [hb1024]; rfl) | (simp only [hb1024]; rfl)), trivial⟩, rfl⟩
  rintro ρ _ ⟨hρ, rfl⟩
  rw [agree_eta hρ]
  clear hρ
  refine W_v (.bool (x1011 && (t960.2 == (0 : Int)))) (x_move rfl) rfl ?_
  obtain ⟨o1067, o1067h, o1067H⟩ := bindS H
  clear H
  refine Wl_cutN 5 (fun ρ w' => ∃ (x1054 : Bool) (Mj : Hp), (x1054) = o1067 ∧ Agree ρ [(234, .bool x1054)] ∧ M.le Mj ∧ Ext w w' ∧ St w' Mj F []) ?_ ?_
  · have H := o1067h
    have LE1068 := Hp.le_refl M
    rcases iteS H with ⟨hb1053, H⟩ | ⟨hb1053, H⟩
    · skip
      refine W_yes (congrArg some hb1053) ?_
      refine W_v (.func (.func 17) #[] #[]) (x_move rfl) rfl ?_
      refine W_yes (congrArg some hb1053) ?_
      refine W_v (.agg #[.bool t960.1.Leaf, .slice A962 t960.1.Keys.length c963, .slice A965 t960.1.Kids.length c966, .slice A968 t960.1.Rows.length c969]) (x_loadA (S.blk 0 rfl) ty26 rfl (sub_of_extract rfl) rfl rfl) rfl ?_
      refine W_yes (congrArg some hb1053) ?_
      refine W_v (.agg #[.bool a0.Leaf, .slice A0_0 a0.Keys.length c0_0, .slice A0_1 a0.Kids.length c0_1, .slice A0_2 a0.Rows.length c0_2]) (x_loadA (S.blk 4 rfl) ty26 rfl (sub_of_extract rfl) rfl rfl) rfl ?_
      refine W_yes (congrArg some hb1053) ?_
      obtain ⟨M1069, hM1070, hf1071, S⟩ := S.row_freeze 1 rfl
      replace HM := Hp.le_trans HM hM1070
      replace LE1068 := Hp.le_trans LE1068 hM1070
      replace hr0_0 := SlR.mono hr0_0 hM1070
      replace hr0_1 := SlR.mono hr0_1 hM1070
      replace hr0_2 := SlR.mono hr0_2 hM1070
      obtain ⟨M1072, hM1073, hf1074, S⟩ := S.row_freeze 1 rfl
      replace HM := Hp.le_trans HM hM1073
      replace LE1068 := Hp.le_trans LE1068 hM1073
      replace hr0_0 := SlR.mono hr0_0 hM1073
      replace hr0_1 := SlR.mono hr0_1 hM1073
      replace hr0_2 := SlR.mono hr0_2 hM1073
      replace hf1071 := SlR.mono hf1071 hM1073
      obtain ⟨M1075, hM1076, hf1077, S⟩ := S.row_freeze 1 rfl
      replace HM := Hp.le_trans HM hM1076
      replace LE1068 := Hp.le_trans LE1068 hM1076
      replace hr0_0 := SlR.mono hr0_0 hM1076
      replace hr0_1 := SlR.mono hr0_1 hM1076
      replace hr0_2 := SlR.mono hr0_2 hM1076
      replace hf1071 := SlR.mono hf1071 hM1076
      replace hf1074 := SlR.mono hf1074 hM1076
      obtain ⟨t1078, ht1079, H⟩ := bindS H
      replace S : St w1023 M1075 F [Blk b972 (.cells #[.bool t960.1.Leaf, .slice A962 t960.1.Keys.length c963, .slice A965 t960.1.Kids.length c966, .slice A968 t960.1.Rows.length c969] 26 (0, 0)), Blk b1 (.cells #[.bool a0.Leaf, .slice A0_0 a0.Keys.length c0_0, .slice A0_1 a0.Kids.length c0_1, .slice A0_2 a0.Rows.length c0_2] 26 (0, 0))] := S.pick [0, 1] (by decide)
      refine W_callv (fs := []) (cap := []) fn17 rfl (ferrymanlaw13_ForkBack_1.con k M1075 A962 c963 A965 c966 A968 c969 t960.1 A0_0 c0_0 A0_1 c0_1 A0_2 c0_2 a0 t1078 hf1071 hf1074 hf1077 hr0_0 hr0_1 hr0_2 ht1079) (Γ1 := []) (Γ2 := [Blk b972 (.cells #[.bool t960.1.Leaf, .slice A962 t960.1.Keys.length c963, .slice A965 t960.1.Kids.length c966, .slice A968 t960.1.Rows.length c969] 26 (0, 0)), Blk b1 (.cells #[.bool a0.Leaf, .slice A0_0 a0.Keys.length c0_0, .slice A0_1 a0.Kids.length c0_1, .slice A0_2 a0.Rows.length c0_2] 26 (0, 0))]) S rfl rfl ?_
      rintro _ w1080 M1081 Γ' hM1082 E' S ⟨rfl, rfl⟩
      replace HM := Hp.le_trans HM hM1082
      replace LE1068 := Hp.le_trans LE1068 hM1082
      replace hr0_0 := SlR.mono hr0_0 hM1082
      replace hr0_1 := SlR.mono hr0_1 hM1082
      replace hr0_2 := SlR.mono hr0_2 hM1082
      replace hf1071 := SlR.mono hf1071 hM1082
      replace hf1074 := SlR.mono hf1074 hM1082
      replace hf1077 := SlR.mono hf1077 hM1082
      replace E := E.trans E'
      clear E'
      replace S : St w1080 M1081 F [Blk b972 (.cells #[.bool t960.1.Leaf, .slice A962 t960.1.Keys.length c963, .slice A965 t960.1.Kids.length c966, .slice A968 t960.1.Rows.length c969] 26 (0, 0)), Blk b1 (.cells #[.bool a0.Leaf, .slice A0_0 a0.Keys.length c0_0, .slice A0_1 a0.Kids.length c0_1, .slice A0_2 a0.Rows.length c0_2] 26 (0, 0))] := S
      refine W_v (.bool t1078) (x_pick (k := true) (congrArg Value.bool hb1053) rfl) rfl ?_
      refine Wl_nil ?_
      exact ⟨t1078, M1081, Option.some.inj H, ⟨rfl, trivial⟩, LE1068, E, S.pick [] (by decide)⟩
    · skip
      refine W_no (skT hb1053) rfl ?_
      refine W_no (skT hb1053) rfl ?_
      refine W_no (skT hb1053) rfl ?_
      refine W_no (skT hb1053) rfl ?_
      refine W_v (.bool false) (x_pick (k := false) (congrArg Value.bool hb1053) rfl) rfl ?_
      refine Wl_nil ?_
      exact ⟨false, M, Option.some.inj H, ⟨rfl, trivial⟩, (Hp.le_refl M), E, S.pick [] (by decide)⟩
  clear o1067h
  rintro ρ w1083 ⟨x1054, M1084, rfl, hρ, hM1085, E, S⟩
  rw [agree_eta hρ]
  clear hρ
  replace HM := Hp.le_trans HM hM1085
  replace hr0_0 := SlR.mono hr0_0 hM1085
  replace hr0_1 := SlR.mono hr0_1 hM1085
  replace hr0_2 := SlR.mono hr0_2 hM1085
  have H := o1067H
  clear o1067H
  refine W_v (.bool x1054) (x_assign rfl) rfl ?_
  refine Wl_nil ?_
  refine tn ?_
  refine Wp_ret ?_
  obtain rfl := Option.some.inj H
  exact ⟨_, _, _, fun w1 e1 => run_resR (vs := [.bool x1054]) (FA.cons (rfl) (FA.nil)), HM, E, S.pick [] (by decide), ⟨rfl, rfl⟩⟩
end Go.Proofs.Ytdommjjhfplcaaa
