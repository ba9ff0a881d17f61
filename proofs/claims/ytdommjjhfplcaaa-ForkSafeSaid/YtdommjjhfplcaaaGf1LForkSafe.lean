import Derived.Test.YtdommjjhfplcaaaGf1
namespace Go.Proofs.Ytdommjjhfplcaaa
open Go
set_option linter.unusedVariables false
set_option linter.unusedSimpArgs false
/-! ### ferryman/ferrymanlaw13.ForkSafe: function 7 -/
def ferrymanlaw13_ForkSafe (k : Nat) (a0 : fork_Node) (a1 : Str) (a2 : Int) (a3 : Int) (a4 : Bool) : Option (Bool) :=
  (Option.bind (ferrymanlaw13_large k a0) (fun t4 => (Option.bind (α := Bool) (if (t4 || (decide ((a1.length : Int) > (3000 : Int)))) = true then some (true) else (Option.bind (ferrymanlaw13_awake k ) (fun t17 => some ((!t17))))) (fun x15 => (Option.bind (α := Bool) (if x15 = true then some (true) else (Option.bind (fork_May k a0) (fun t30 => some ((!t30))))) (fun x28 => (if x28 = true then (Option.bind (ferrymanlaw13_awake k ) (fun t35 => some t35)) else (Option.bind (fork_Put k a0 a1 (1 : Int)) (fun t38 => (Option.bind (α := Int × Bool × List Str × List Int × List Int) (if (!a0.Leaf) = true then (Option.bind (fork_Graft k a0 a1 a3) (fun t84 => some (t84.2, t84.1.Leaf, t84.1.Keys, t84.1.Kids, t84.1.Rows))) else some (t38.2, t38.1.Leaf, t38.1.Keys, t38.1.Kids, t38.1.Rows)) (fun ⟨x68, x69, x70, x74, x78⟩ => (Option.bind (α := Bool) (if (x68 == (0 : Int)) = true then (Option.bind (fork_Safe k a0 a2 (1 : Int) a4) (fun t116 => some ((!(t116 == (decide ((x70.length : Int) ≤ a2))))))) else some (false)) (fun x114 => (if x114 = true then some false else (Option.bind (fork_Safe k a0 a2 (2 : Int) a4) (fun t121 => (if a0.Leaf = true then (Option.bind (fork_Take k a0 a1) (fun t125 => some ((t125.2 != (0 : Int)) || (t121 == (a4 || (decide ((t125.1.Keys.length : Int) > (0 : Int)))))))) else (Option.bind (fork_Cut k a0 a3) (fun t145 => (if (t145.2 != (0 : Int)) = true then some ((decide ((a0.Kids.length : Int) > (1 : Int))) || (!t121)) else some (t121 == ((decide ((t145.1.Kids.length : Int) > (1 : Int))) || ((!a4) && (decide ((t145.1.Kids.length : Int) > (0 : Int))))))))))))))))))))))))))
set_option maxHeartbeats 2000000 in
theorem ferrymanlaw13_ForkSafe.mono {k : Nat} {a0 : fork_Node} {a1 : Str} {a2 : Int} {a3 : Int} {a4 : Bool} : OLe (ferrymanlaw13_ForkSafe k a0 a1 a2 a3 a4) (ferrymanlaw13_ForkSafe (k + 1) a0 a1 a2 a3 a4) := by
  unfold ferrymanlaw13_ForkSafe
  repeat' (first | with_reducible exact OLe.none | with_reducible exact OLe.some | with_reducible refine OLe.ite ?_ ?_ | with_reducible refine OLe.bind ?_ (fun _ => ?_) | with_reducible exact ferrymanlaw13_awake.mono | with_reducible exact ferrymanlaw13_large.mono | with_reducible exact fork_Cut.mono | with_reducible exact fork_Graft.mono | with_reducible exact fork_May.mono | with_reducible exact fork_Put.mono | with_reducible exact fork_Safe.mono | with_reducible exact fork_Take.mono | refine OLe.bind ?_ (fun _ => ?_) | refine OLe.ite ?_ ?_ | refine OLe.elim (fun _ => ?_) (fun _ => ?_) | split)
set_option maxHeartbeats 1000000 in
set_option maxRecDepth 100000 in
theorem ferrymanlaw13_ForkSafe.con (k : Nat) (M : Hp) (A0_0 : Option Addr) (c0_0 : Nat) (A0_1 : Option Addr) (c0_1 : Nat) (A0_2 : Option Addr) (c0_2 : Nat) (a0 : fork_Node) (a1 : Str) (a2 : Int) (a3 : Int) (a4 : Bool) (r : Bool) (hr0_0 : SlR rStr M (.slice A0_0 a0.Keys.length c0_0) a0.Keys) (hr0_1 : SlR (rInt .i64) M (.slice A0_1 a0.Kids.length c0_1) a0.Kids) (hr0_2 : SlR (rInt .u64) M (.slice A0_2 a0.Rows.length c0_2) a0.Rows) (h : ferrymanlaw13_ForkSafe k a0 a1 a2 a3 a4 = some r) : Con Try.prog 7 #[.agg #[.bool a0.Leaf, .slice A0_0 a0.Keys.length c0_0, .slice A0_1 a0.Kids.length c0_1, .slice A0_2 a0.Rows.length c0_2], .string (bs a1), .int .i64 a2, .int .i64 a3, .bool a4] M [] (fun v M' Γ' => v = .bool r ∧ Γ' = []) := by
  refine con_of_wp Try.func7 rfl Try.ntmps7 Try.results7 rfl ?_
  intro w F rn S hrn
  have E := Ext.refl w
  have HM := Hp.le_refl M
  have H := h
  unfold ferrymanlaw13_ForkSafe at H
  refine Wp_seq ?_
  refine Wp_region_lit ?_
  refine W_box S #[.bool a0.Leaf, .slice A0_0 a0.Keys.length c0_0, .slice A0_1 a0.Kids.length c0_1, .slice A0_2 a0.Rows.length c0_2] rfl rfl rfl ?_
  intro b1 w2 E' S
  replace E := E.trans E'
  clear E'
  refine W_v (.bool false) (x_assign rfl) rfl ?_
  refine Wl_nil ?_
  refine tn ?_
  refine Wp_seq ?_
  refine Wp_seq ?_
  refine Wp_region_lit ?_
  refine W_v (.agg #[.bool a0.Leaf, .slice A0_0 a0.Keys.length c0_0, .slice A0_1 a0.Kids.length c0_1, .slice A0_2 a0.Rows.length c0_2]) (x_loadA (S.blk 0 rfl) ty26 rfl (sub_of_extract rfl) rfl rfl) rfl ?_
  obtain ⟨t4, ht5, H⟩ := bindS H
  refine W_callF fn9 (ferrymanlaw13_large.con k M A0_0 c0_0 A0_1 c0_1 A0_2 c0_2 a0 t4 hr0_0 hr0_1 hr0_2 ht5) S rfl rfl (by rintro _ _ _ ⟨_, rfl⟩; exact flat_nil) ?_
  rintro _ w6 _ Γ' E' S ⟨rfl, rfl⟩
  replace E := E.trans E'
  clear E'
  refine W_v (.bool t4) (x_move rfl) rfl ?_
  refine Wl_cutN 4 (fun ρ w' => Agree ρ [(1, .string (bs a1)), (2, .int .i64 a2), (3, .int .i64 a3), (4, .bool a4), (5, .pointer (some ⟨b1, 0, none⟩)), (24, .bool (t4 || (decide ((a1.length : Int) > (3000 : Int)))))] ∧ w6 = w') ?_ ?_
  · rcases boolCases t4 with hb7 | hb7
    · skip
      refine W_yes (congrArg some hb7) ?_
      refine W_v (.string (bs a1)) (x_move rfl) rfl ?_
      refine W_yes (congrArg some hb7) ?_
      refine W_v (.int .i64 (a1.length : Int)) (x_len_str Try.underlying9 rfl) rfl ?_
      refine W_yes (congrArg some hb7) ?_
      refine W_v (.bool (decide ((a1.length : Int) > (3000 : Int)))) (x_ibin rfl rfl rfl rfl) rfl ?_
      refine W_v (.bool (decide ((a1.length : Int) > (3000 : Int)))) (x_pick (k := false) (congrArg Value.bool hb7) rfl) rfl ?_
      refine Wl_nil ?_
      exact ⟨⟨rfl, rfl, rfl, rfl, rfl, (by first | rfl | (rw [hb7]; rfl) | (simp only [hb7]; rfl)), trivial⟩, rfl⟩
    · skip
      refine W_no (skF hb7) rfl ?_
      refine W_no (skF hb7) rfl ?_
      refine W_no (skF hb7) rfl ?_
      refine W_v (.bool true) (x_pick (k := true) (congrArg Value.bool hb7) rfl) rfl ?_
      refine Wl_nil ?_
      exact ⟨⟨rfl, rfl, rfl, rfl, rfl, (by first | rfl | (rw [hb7]; rfl) | (simp only [hb7]; rfl)), trivial⟩, rfl⟩
  rintro ρ _ ⟨hρ, rfl⟩
  rw [agree_eta hρ]
  clear hρ
  refine W_v (.bool (t4 || (decide ((a1.length : Int) > (3000 : Int))))) (x_move rfl) rfl ?_
  obtain ⟨o16, o16h, o16H⟩ := bindS H
  clear H
  refine Wl_cutN 3 (fun ρ w' => ∃ (x15 : Bool), (x15) = o16 ∧ Agree ρ [(1, .string (bs a1)), (2, .int .i64 a2), (3, .int .i64 a3), (4, .bool a4), (5, .pointer (some ⟨b1, 0, none⟩)), (28, .bool x15)] ∧ Ext w w' ∧ St w' M F [Blk b1 (.cells #[.bool a0.Leaf, .slice A0_0 a0.Keys.length c0_0, .slice A0_1 a0.Kids.length c0_1, .slice A0_2 a0.Rows.length c0_2] 26 (0, 0))]) ?_ ?_
  · have H := o16h
    rcases iteS H with ⟨hb14, H⟩ | ⟨hb14, H⟩
    · skip
      refine W_no (skF hb14) rfl ?_
      refine W_no (skF hb14) rfl ?_
      refine W_v (.bool true) (x_pick (k := true) (congrArg Value.bool hb14) rfl) rfl ?_
      refine Wl_nil ?_
      exact ⟨true, Option.some.inj H, ⟨rfl, rfl, rfl, rfl, rfl, rfl, trivial⟩, E, S.pick [0] (by decide)⟩
    · skip
      refine W_yes (congrArg some hb14) ?_
      obtain ⟨t17, ht18, H⟩ := bindS H
      refine W_callF fn10 (ferrymanlaw13_awake.con k M  t17  ht18) S rfl rfl (by rintro _ _ _ ⟨_, rfl⟩; exact flat_nil) ?_
      rintro _ w19 _ Γ' E' S ⟨rfl, rfl⟩
      replace E := E.trans E'
      clear E'
      refine W_yes (congrArg some hb14) ?_
      refine W_v (.bool (!t17)) (x_not rfl) rfl ?_
      refine W_v (.bool (!t17)) (x_pick (k := false) (congrArg Value.bool hb14) rfl) rfl ?_
      refine Wl_nil ?_
      exact ⟨(!t17), Option.some.inj H, ⟨rfl, rfl, rfl, rfl, rfl, rfl, trivial⟩, E, S.pick [0] (by decide)⟩
  clear o16h
  rintro ρ w20 ⟨x15, rfl, hρ, E, S⟩
  rw [agree_eta hρ]
  clear hρ
  have H := o16H
  clear o16H
  refine W_v (.bool x15) (x_move rfl) rfl ?_
  obtain ⟨o29, o29h, o29H⟩ := bindS H
  clear H
  refine Wl_cutN 4 (fun ρ w' => ∃ (x28 : Bool), (x28) = o29 ∧ Agree ρ [(1, .string (bs a1)), (2, .int .i64 a2), (3, .int .i64 a3), (4, .bool a4), (5, .pointer (some ⟨b1, 0, none⟩)), (33, .bool x28)] ∧ Ext w w' ∧ St w' M F [Blk b1 (.cells #[.bool a0.Leaf, .slice A0_0 a0.Keys.length c0_0, .slice A0_1 a0.Kids.length c0_1, .slice A0_2 a0.Rows.length c0_2] 26 (0, 0))]) ?_ ?_
  · have H := o29h
    rcases iteS H with ⟨hb27, H⟩ | ⟨hb27, H⟩
    · skip
      refine W_no (skF hb27) rfl ?_
      refine W_no (skF hb27) rfl ?_
      refine W_no (skF hb27) rfl ?_
      refine W_v (.bool true) (x_pick (k := true) (congrArg Value.bool hb27) rfl) rfl ?_
      refine Wl_nil ?_
      exact ⟨true, Option.some.inj H, ⟨rfl, rfl, rfl, rfl, rfl, rfl, trivial⟩, E, S.pick [0] (by decide)⟩
    · skip
      refine W_yes (congrArg some hb27) ?_
      refine W_v (.agg #[.bool a0.Leaf, .slice A0_0 a0.Keys.length c0_0, .slice A0_1 a0.Kids.length c0_1, .slice A0_2 a0.Rows.length c0_2]) (x_loadA (S.blk 0 rfl) ty26 rfl (sub_of_extract rfl) rfl rfl) rfl ?_
      refine W_yes (congrArg some hb27) ?_
      obtain ⟨t30, ht31, H⟩ := bindS H
      refine W_callF fn11 (fork_May.con k M A0_0 c0_0 A0_1 c0_1 A0_2 c0_2 a0 t30 hr0_0 hr0_1 hr0_2 ht31) S rfl rfl (by rintro _ _ _ ⟨_, rfl⟩; exact flat_nil) ?_
      rintro _ w32 _ Γ' E' S ⟨rfl, rfl⟩
      replace E := E.trans E'
      clear E'
      refine W_yes (congrArg some hb27) ?_
      refine W_v (.bool (!t30)) (x_not rfl) rfl ?_
      refine W_v (.bool (!t30)) (x_pick (k := false) (congrArg Value.bool hb27) rfl) rfl ?_
      refine Wl_nil ?_
      exact ⟨(!t30), Option.some.inj H, ⟨rfl, rfl, rfl, rfl, rfl, rfl, trivial⟩, E, S.pick [0] (by decide)⟩
  clear o29h
  rintro ρ w33 ⟨x28, rfl, hρ, E, S⟩
  rw [agree_eta hρ]
  clear hρ
  have H := o29H
  clear o29H
  refine Wl_nil ?_
  refine tn ?_
  rcases iteS H with ⟨hb34, H⟩ | ⟨hb34, H⟩
  · refine Wp_cond_true (congrArg Value.bool hb34) ?_
    refine Wp_seq ?_
    refine Wp_region_lit ?_
    obtain ⟨t35, ht36, H⟩ := bindS H
    refine W_callF fn10 (ferrymanlaw13_awake.con k M  t35  ht36) S rfl rfl (by rintro _ _ _ ⟨_, rfl⟩; exact flat_nil) ?_
    rintro _ w37 _ Γ' E' S ⟨rfl, rfl⟩
    replace E := E.trans E'
    clear E'
    refine W_v (.bool t35) (x_assign rfl) rfl ?_
    refine Wl_nil ?_
    refine tn ?_
    refine Wp_ret ?_
    refine tr (?_)
    obtain rfl := Option.some.inj H
    exact ⟨_, _, _, fun w1 e1 => run_resR (vs := [.bool t35]) (FA.cons (rfl) (FA.nil)), HM, E, S.pick [] (by decide), ⟨rfl, rfl⟩⟩
  refine Wp_cond_false (congrArg Value.bool hb34) ?_
  refine Wp_skip ?_
  refine tn ?_
  refine Wp_seq ?_
  refine Wp_region_lit ?_
  refine W_v (.agg #[.bool a0.Leaf, .slice A0_0 a0.Keys.length c0_0, .slice A0_1 a0.Kids.length c0_1, .slice A0_2 a0.Rows.length c0_2]) (x_loadA (S.blk 0 rfl) ty26 rfl (sub_of_extract rfl) rfl rfl) rfl ?_
  refine W_v (.string (bs a1)) (x_move rfl) rfl ?_
  obtain ⟨t38, ht39, H⟩ := bindS H
  refine W_callF fn19 (fork_Put.con k M A0_0 c0_0 A0_1 c0_1 A0_2 c0_2 a0 a1 (1 : Int) t38 hr0_0 hr0_1 hr0_2 ht39) S rfl rfl (by rintro _ _ _ ⟨_, _, _, _, _, _, _, rfl⟩; exact (flat_cons (flat_row (fun _ _ _ _ h => h)) (flat_cons (flat_row (fun _ _ _ _ h => h)) (flat_cons (flat_row (fun _ _ _ _ h => h)) flat_nil)))) ?_
  rintro _ w49 _ Γ' E' S ⟨A40, c41, A43, c44, A46, c47, rfl, rfl⟩
  replace E := E.trans E'
  clear E'
  refine W_v (.tuple #[.agg #[.bool t38.1.Leaf, .slice A40 t38.1.Keys.length c41, .slice A43 t38.1.Kids.length c44, .slice A46 t38.1.Rows.length c47], .int .i64 t38.2]) (x_move rfl) rfl ?_
  refine W_v (.agg #[.bool t38.1.Leaf, .slice A40 t38.1.Keys.length c41, .slice A43 t38.1.Kids.length c44, .slice A46 t38.1.Rows.length c47]) (x_extract rfl rfl) rfl ?_
  refine W_v (.int .i64 t38.2) (x_extract rfl rfl) rfl ?_
  refine W_alloc S #[.bool false, .slice none 0 0, .slice none 0 0, .slice none 0 0] ty26 rfl rfl ?_
  intro b50 w51 E' S
  replace E := E.trans E'
  clear E'
  refine W_store S 0 rfl ty26 rfl rfl [.bool t38.1.Leaf, .slice A40 t38.1.Keys.length c41, .slice A43 t38.1.Kids.length c44, .slice A46 t38.1.Rows.length c47] rfl rfl rfl #[.bool t38.1.Leaf, .slice A40 t38.1.Keys.length c41, .slice A43 t38.1.Kids.length c44, .slice A46 t38.1.Rows.length c47] rfl rfl ?_
  intro w53 E' S
  replace E := E.trans E'
  clear E'
  refine W_v (.int .i64 t38.2) (x_assign rfl) rfl ?_
  refine Wl_nil ?_
  refine tn ?_
  refine Wp_seq ?_
  refine Wp_seq ?_
  refine Wp_region_lit ?_
  refine W_v (.pointer (some ⟨b1, 0, none⟩)) (x_fieldAddr (o := 0) (off := 0) Try.underlying26 rfl ty4 rfl rfl) rfl ?_
  refine W_v (.bool a0.Leaf) (x_load (S.blk 4 rfl) ty4 rfl rfl) rfl ?_
  refine W_v (.bool (!a0.Leaf)) (x_not rfl) rfl ?_
  refine Wl_nil ?_
  refine tn ?_
  obtain ⟨o82, o82h, o82H⟩ := bindS H
  refine Wp_cut (fun ρ w' => ∃ (x68 : Int) (x69 : Bool) (x70 : List Str) (x74 : List Int) (x78 : List Int) (A71 : Option Addr) (c72 : Nat) (A75 : Option Addr) (c76 : Nat) (A79 : Option Addr) (c80 : Nat), (x68, x69, x70, x74, x78) = o82 ∧ Agree ρ [(1, .string (bs a1)), (2, .int .i64 a2), (3, .int .i64 a3), (4, .bool a4), (5, .pointer (some ⟨b1, 0, none⟩)), (11, .pointer (some ⟨b50, 0, none⟩)), (12, .int .i64 x68)] ∧ Ext w w' ∧ St w' M F [Row (rInt .u64) 41 (.slice A79 x78.length c80) x78, Row (rInt .i64) 3 (.slice A75 x74.length c76) x74, Row rStr 9 (.slice A71 x70.length c72) x70, Blk b50 (.cells #[.bool x69, .slice A71 x70.length c72, .slice A75 x74.length c76, .slice A79 x78.length c80] 26 (0, 0)), Blk b1 (.cells #[.bool a0.Leaf, .slice A0_0 a0.Keys.length c0_0, .slice A0_1 a0.Kids.length c0_1, .slice A0_2 a0.Rows.length c0_2] 26 (0, 0))]) ?_ ?_
  · clear o82H
    have H := o82h
    clear o82h
    rcases iteS H with ⟨hb83, H⟩ | ⟨hb83, H⟩
    · refine Wp_cond_true (congrArg Value.bool hb83) ?_
      refine Wp_region_lit ?_
      refine W_v (.agg #[.bool a0.Leaf, .slice A0_0 a0.Keys.length c0_0, .slice A0_1 a0.Kids.length c0_1, .slice A0_2 a0.Rows.length c0_2]) (x_loadA (S.blk 4 rfl) ty26 rfl (sub_of_extract rfl) rfl rfl) rfl ?_
      refine W_v (.string (bs a1)) (x_move rfl) rfl ?_
      refine W_v (.int .i64 a3) (x_move rfl) rfl ?_
      obtain ⟨t84, ht85, H⟩ := bindS H
      refine W_callF fn21 (fork_Graft.con k M A0_0 c0_0 A0_1 c0_1 A0_2 c0_2 a0 a1 a3 t84 hr0_0 hr0_1 hr0_2 ht85) S rfl rfl (by rintro _ _ _ ⟨_, _, _, _, _, _, _, rfl⟩; exact (flat_cons (flat_row (fun _ _ _ _ h => h)) (flat_cons (flat_row (fun _ _ _ _ h => h)) (flat_cons (flat_row (fun _ _ _ _ h => h)) flat_nil)))) ?_
      rintro _ w95 _ Γ' E' S ⟨A86, c87, A89, c90, A92, c93, rfl, rfl⟩
      replace E := E.trans E'
      clear E'
      refine W_v (.tuple #[.agg #[.bool t84.1.Leaf, .slice A86 t84.1.Keys.length c87, .slice A89 t84.1.Kids.length c90, .slice A92 t84.1.Rows.length c93], .int .i64 t84.2]) (x_move rfl) rfl ?_
      refine W_v (.agg #[.bool t84.1.Leaf, .slice A86 t84.1.Keys.length c87, .slice A89 t84.1.Kids.length c90, .slice A92 t84.1.Rows.length c93]) (x_extract rfl rfl) rfl ?_
      refine W_v (.int .i64 t84.2) (x_extract rfl rfl) rfl ?_
      refine W_store S 3 rfl ty26 rfl rfl [.bool t84.1.Leaf, .slice A86 t84.1.Keys.length c87, .slice A89 t84.1.Kids.length c90, .slice A92 t84.1.Rows.length c93] rfl rfl rfl #[.bool t84.1.Leaf, .slice A86 t84.1.Keys.length c87, .slice A89 t84.1.Kids.length c90, .slice A92 t84.1.Rows.length c93] rfl rfl ?_
      intro w96 E' S
      replace E := E.trans E'
      clear E'
      refine W_v (.int .i64 t84.2) (x_assign rfl) rfl ?_
      refine Wl_nil ?_
      refine tn ?_
      exact ⟨t84.2, t84.1.Leaf, t84.1.Keys, t84.1.Kids, t84.1.Rows, A86, c87, A89, c90, A92, c93, Option.some.inj H, ⟨rfl, rfl, rfl, rfl, rfl, rfl, rfl, trivial⟩, E, S.pick [2, 1, 0, 3, 7] (by decide)⟩
    refine Wp_cond_false (congrArg Value.bool hb83) ?_
    refine Wp_skip ?_
    refine tn ?_
    exact ⟨t38.2, t38.1.Leaf, t38.1.Keys, t38.1.Kids, t38.1.Rows, A40, c41, A43, c44, A46, c47, Option.some.inj H, ⟨rfl, rfl, rfl, rfl, rfl, rfl, rfl, trivial⟩, E, S.pick [3, 2, 1, 0, 4] (by decide)⟩
  clear o82h
  rintro ρ w97 ⟨x68, x69, x70, x74, x78, A71, c72, A75, c76, A79, c80, rfl, hρ, E, S⟩
  rw [agree_eta hρ]
  clear hρ
  have H := o82H
  clear o82H
  refine tn ?_
  refine Wp_seq ?_
  refine Wp_seq ?_
  refine Wp_region_any (S := fun w' => ∃ Mx, M.le Mx ∧ St w' Mx F [Row (rInt .u64) 41 (.slice A79 x78.length c80) x78, Row (rInt .i64) 3 (.slice A75 x74.length c76) x74, Row rStr 9 (.slice A71 x70.length c72) x70, Blk b50 (.cells #[.bool x69, .slice A71 x70.length c72, .slice A75 x74.length c76, .slice A79 x78.length c80] 26 (0, 0)), Blk b1 (.cells #[.bool a0.Leaf, .slice A0_0 a0.Keys.length c0_0, .slice A0_1 a0.Kids.length c0_1, .slice A0_2 a0.Rows.length c0_2] 26 (0, 0))]) mixed ?_
  intro w108 hw109 E'
  replace S := S.heap hw109
  replace E := E.trans E'
  clear E'
  refine Wa_take (i := 0) rfl (by kernel_rfl) rfl rfl (.int .i64 x68) rfl (fun w' h' => x_move rfl) (⟨M, Hp.le_refl M, S.pick [0, 1, 2, 3, 4] (by decide)⟩) ?_
  refine Wa_take (i := 1) rfl (by kernel_rfl) rfl rfl (.bool (x68 == (0 : Int))) rfl (fun w' h' => x_ibin rfl rfl rfl rfl) (⟨M, Hp.le_refl M, S.pick [0, 1, 2, 3, 4] (by decide)⟩) ?_
  refine Wa_take (i := 2) rfl (by kernel_rfl) rfl rfl (.bool (x68 == (0 : Int))) rfl (fun w' h' => x_move rfl) (⟨M, Hp.le_refl M, S.pick [0, 1, 2, 3, 4] (by decide)⟩) ?_
  obtain ⟨o115, o115h, o115H⟩ := bindS H
  clear H
  refine Wa_join (fun ρ w' => ∃ (x114 : Bool), (x114) = o115 ∧ Agree ρ [(1, .string (bs a1)), (2, .int .i64 a2), (3, .int .i64 a3), (4, .bool a4), (5, .pointer (some ⟨b1, 0, none⟩)), (64, .bool x114)] ∧ Ext w w' ∧ St w' M F [Row (rInt .u64) 41 (.slice A79 x78.length c80) x78, Row (rInt .i64) 3 (.slice A75 x74.length c76) x74, Row rStr 9 (.slice A71 x70.length c72) x70, Blk b50 (.cells #[.bool x69, .slice A71 x70.length c72, .slice A75 x74.length c76, .slice A79 x78.length c80] 26 (0, 0)), Blk b1 (.cells #[.bool a0.Leaf, .slice A0_0 a0.Keys.length c0_0, .slice A0_1 a0.Kids.length c0_1, .slice A0_2 a0.Rows.length c0_2] 26 (0, 0))]) 0 (Ls 14 [0, 1, 2, 3, 4, 5, 7, 8, 9, 10, 11, 6, 12, 13]) ?_ ?_
  rotate_left
  · intro hrest
    have H := o115h
    clear o115h o115H
    rcases iteS H with ⟨hb113, H⟩ | ⟨hb113, H⟩
    · skip
      refine Wa_takeY (i := 3) rfl (by kernel_rfl) rfl rfl (.agg #[.bool a0.Leaf, .slice A0_0 a0.Keys.length c0_0, .slice A0_1 a0.Kids.length c0_1, .slice A0_2 a0.Rows.length c0_2]) rfl (congrArg some hb113) (fun w' h' => x_loadA (cls_blk h' 4 rfl) ty26 rfl (sub_of_extract rfl) rfl rfl) (⟨M, Hp.le_refl M, S.pick [0, 1, 2, 3, 4] (by decide)⟩) ?_
      refine Wa_takeY (i := 4) rfl (by kernel_rfl) rfl rfl (.int .i64 a2) rfl (congrArg some hb113) (fun w' h' => x_move rfl) (⟨M, Hp.le_refl M, S.pick [0, 1, 2, 3, 4] (by decide)⟩) ?_
      refine Wa_takeY (i := 5) rfl (by kernel_rfl) rfl rfl (.bool a4) rfl (congrArg some hb113) (fun w' h' => x_move rfl) (⟨M, Hp.le_refl M, S.pick [0, 1, 2, 3, 4] (by decide)⟩) ?_
      refine Wa_takeY (i := 7) rfl (by kernel_rfl) rfl rfl (.pointer (some ⟨b50, 1, none⟩)) rfl (congrArg some hb113) (fun w' h' => x_fieldAddr (o := 0) (off := 1) Try.underlying26 rfl ty22 rfl rfl) (⟨M, Hp.le_refl M, S.pick [0, 1, 2, 3, 4] (by decide)⟩) ?_
      refine Wa_takeY (i := 8) rfl (by kernel_rfl) rfl rfl (.slice A71 x70.length c72) rfl (congrArg some hb113) (fun w' h' => x_load (cls_blk h' 3 rfl) ty22 rfl rfl) (⟨M, Hp.le_refl M, S.pick [0, 1, 2, 3, 4] (by decide)⟩) ?_
      refine Wa_takeY (i := 9) rfl (by kernel_rfl) rfl rfl (.int .i64 (x70.length : Int)) rfl (congrArg some hb113) (fun w' h' => x_len_slice (n := x70.length) Try.underlying22 rfl) (⟨M, Hp.le_refl M, S.pick [0, 1, 2, 3, 4] (by decide)⟩) ?_
      refine Wa_takeY (i := 10) rfl (by kernel_rfl) rfl rfl (.int .i64 a2) rfl (congrArg some hb113) (fun w' h' => x_move rfl) (⟨M, Hp.le_refl M, S.pick [0, 1, 2, 3, 4] (by decide)⟩) ?_
      refine Wa_takeY (i := 11) rfl (by kernel_rfl) rfl rfl (.bool (decide ((x70.length : Int) ≤ a2))) rfl (congrArg some hb113) (fun w' h' => x_ibin rfl rfl rfl rfl) (⟨M, Hp.le_refl M, S.pick [0, 1, 2, 3, 4] (by decide)⟩) ?_
      refine Wa_solo (i := 6) rfl (by kernel_rfl) ?_
      refine W_yes (congrArg some hb113) ?_
      obtain ⟨t116, ht117, H⟩ := bindS H
      refine W_callF fn22 (fork_Safe.con k M A0_0 c0_0 A0_1 c0_1 A0_2 c0_2 a0 a2 (1 : Int) a4 t116 hr0_0 hr0_1 hr0_2 ht117) S rfl rfl (by rintro _ _ _ ⟨_, rfl⟩; exact flat_nil) ?_
      rintro _ w118 _ Γ' E' S ⟨rfl, rfl⟩
      replace E := E.trans E'
      clear E'
      refine Wl_nil (on_n ⟨⟨M, Hp.le_refl M, S.pick [0, 1, 2, 3, 4] (by decide)⟩, ?_⟩)
      refine Wa_takeY (i := 12) rfl (by kernel_rfl) rfl rfl (.bool (!(t116 == (decide ((x70.length : Int) ≤ a2))))) rfl (congrArg some hb113) (fun w' h' => x_bne Try.underlying4 rfl rfl) (⟨M, Hp.le_refl M, S.pick [0, 1, 2, 3, 4] (by decide)⟩) ?_
      refine Wa_take (i := 13) rfl (by kernel_rfl) rfl rfl (.bool (!(t116 == (decide ((x70.length : Int) ≤ a2))))) rfl (fun w' h' => x_pick (k := true) (congrArg Value.bool hb113) rfl) (⟨M, Hp.le_refl M, S.pick [0, 1, 2, 3, 4] (by decide)⟩) ?_
      exact hrest _ _ ⟨(!(t116 == (decide ((x70.length : Int) ≤ a2)))), Option.some.inj H, ⟨rfl, rfl, rfl, rfl, rfl, rfl, trivial⟩, E, S.pick [0, 1, 2, 3, 4] (by decide)⟩
    · skip
      refine Wa_takeN (i := 3) rfl (by kernel_rfl) rfl rfl rfl (skT hb113) (⟨M, Hp.le_refl M, S.pick [0, 1, 2, 3, 4] (by decide)⟩) ?_
      refine Wa_takeN (i := 4) rfl (by kernel_rfl) rfl rfl rfl (skT hb113) (⟨M, Hp.le_refl M, S.pick [0, 1, 2, 3, 4] (by decide)⟩) ?_
      refine Wa_takeN (i := 5) rfl (by kernel_rfl) rfl rfl rfl (skT hb113) (⟨M, Hp.le_refl M, S.pick [0, 1, 2, 3, 4] (by decide)⟩) ?_
      refine Wa_takeN (i := 6) rfl (by kernel_rfl) rfl rfl rfl (skT hb113) (⟨M, Hp.le_refl M, S.pick [0, 1, 2, 3, 4] (by decide)⟩) ?_
      refine Wa_takeN (i := 7) rfl (by kernel_rfl) rfl rfl rfl (skT hb113) (⟨M, Hp.le_refl M, S.pick [0, 1, 2, 3, 4] (by decide)⟩) ?_
      refine Wa_takeN (i := 8) rfl (by kernel_rfl) rfl rfl rfl (skT hb113) (⟨M, Hp.le_refl M, S.pick [0, 1, 2, 3, 4] (by decide)⟩) ?_
      refine Wa_takeN (i := 9) rfl (by kernel_rfl) rfl rfl rfl (skT hb113) (⟨M, Hp.le_refl M, S.pick [0, 1, 2, 3, 4] (by decide)⟩) ?_
      refine Wa_takeN (i := 10) rfl (by kernel_rfl) rfl rfl rfl (skT hb113) (⟨M, Hp.le_refl M, S.pick [0, 1, 2, 3, 4] (by decide)⟩) ?_
      refine Wa_takeN (i := 11) rfl (by kernel_rfl) rfl rfl rfl (skT hb113) (⟨M, Hp.le_refl M, S.pick [0, 1, 2, 3, 4] (by decide)⟩) ?_
      refine Wa_takeN (i := 12) rfl (by kernel_rfl) rfl rfl rfl (skT hb113) (⟨M, Hp.le_refl M, S.pick [0, 1, 2, 3, 4] (by decide)⟩) ?_
      refine Wa_take (i := 13) rfl (by kernel_rfl) rfl rfl (.bool false) rfl (fun w' h' => x_pick (k := false) (congrArg Value.bool hb113) rfl) (⟨M, Hp.le_refl M, S.pick [0, 1, 2, 3, 4] (by decide)⟩) ?_
      exact hrest _ _ ⟨false, Option.some.inj H, ⟨rfl, rfl, rfl, rfl, rfl, rfl, trivial⟩, E, S.pick [0, 1, 2, 3, 4] (by decide)⟩
  clear o115h
  rintro ρ w119 ⟨x114, rfl, hρ, E, S⟩
  rw [agree_eta hρ]
  clear hρ
  have H := o115H
  clear o115H
  refine Wa_done (by kernel_rfl) ?_
  refine tn ?_
  rcases iteS H with ⟨hb120, H⟩ | ⟨hb120, H⟩
  · refine Wp_cond_true (congrArg Value.bool hb120) ?_
    refine Wp_seq ?_
    refine Wp_region_lit ?_
    refine W_v (.bool false) (x_assign rfl) rfl ?_
    refine Wl_nil ?_
    refine tn ?_
    refine Wp_ret ?_
    refine tr (?_)
    obtain rfl := Option.some.inj H
    exact ⟨_, _, _, fun w1 e1 => run_resR (vs := [.bool false]) (FA.cons (rfl) (FA.nil)), HM, E, S.pick [] (by decide), ⟨rfl, rfl⟩⟩
  refine Wp_cond_false (congrArg Value.bool hb120) ?_
  refine Wp_skip ?_
  refine tn ?_
  refine Wp_seq ?_
  refine Wp_region_lit ?_
  refine W_v (.agg #[.bool a0.Leaf, .slice A0_0 a0.Keys.length c0_0, .slice A0_1 a0.Kids.length c0_1, .slice A0_2 a0.Rows.length c0_2]) (x_loadA (S.blk 4 rfl) ty26 rfl (sub_of_extract rfl) rfl rfl) rfl ?_
  refine W_v (.int .i64 a2) (x_move rfl) rfl ?_
  refine W_v (.bool a4) (x_move rfl) rfl ?_
  obtain ⟨t121, ht122, H⟩ := bindS H
  refine W_callF fn22 (fork_Safe.con k M A0_0 c0_0 A0_1 c0_1 A0_2 c0_2 a0 a2 (2 : Int) a4 t121 hr0_0 hr0_1 hr0_2 ht122) S rfl rfl (by rintro _ _ _ ⟨_, rfl⟩; exact flat_nil) ?_
  rintro _ w123 _ Γ' E' S ⟨rfl, rfl⟩
  replace E := E.trans E'
  clear E'
  refine W_v (.bool t121) (x_assign rfl) rfl ?_
  refine Wl_nil ?_
  refine tn ?_
  refine Wp_seq ?_
  refine Wp_seq ?_
  refine Wp_region_lit ?_
  refine W_v (.pointer (some ⟨b1, 0, none⟩)) (x_fieldAddr (o := 0) (off := 0) Try.underlying26 rfl ty4 rfl rfl) rfl ?_
  refine W_v (.bool a0.Leaf) (x_load (S.blk 4 rfl) ty4 rfl rfl) rfl ?_
  refine Wl_nil ?_
  refine tn ?_
  rcases iteS H with ⟨hb124, H⟩ | ⟨hb124, H⟩
  · refine Wp_cond_true (congrArg Value.bool hb124) ?_
    refine Wp_seq ?_
    refine Wp_region_lit ?_
    refine W_v (.agg #[.bool a0.Leaf, .slice A0_0 a0.Keys.length c0_0, .slice A0_1 a0.Kids.length c0_1, .slice A0_2 a0.Rows.length c0_2]) (x_loadA (S.blk 4 rfl) ty26 rfl (sub_of_extract rfl) rfl rfl) rfl ?_
    refine W_v (.string (bs a1)) (x_move rfl) rfl ?_
    obtain ⟨t125, ht126, H⟩ := bindS H
    refine W_callF fn18 (fork_Take.con k M A0_0 c0_0 A0_1 c0_1 A0_2 c0_2 a0 a1 t125 hr0_0 hr0_1 hr0_2 ht126) S rfl rfl (by rintro _ _ _ ⟨_, _, _, _, _, _, _, rfl⟩; exact (flat_cons (flat_row (fun _ _ _ _ h => h)) (flat_cons (flat_row (fun _ _ _ _ h => h)) (flat_cons (flat_row (fun _ _ _ _ h => h)) flat_nil)))) ?_
    rintro _ w136 _ Γ' E' S ⟨A127, c128, A130, c131, A133, c134, rfl, rfl⟩
    replace E := E.trans E'
    clear E'
    refine W_v (.tuple #[.agg #[.bool t125.1.Leaf, .slice A127 t125.1.Keys.length c128, .slice A130 t125.1.Kids.length c131, .slice A133 t125.1.Rows.length c134], .int .i64 t125.2]) (x_move rfl) rfl ?_
    refine W_v (.agg #[.bool t125.1.Leaf, .slice A127 t125.1.Keys.length c128, .slice A130 t125.1.Kids.length c131, .slice A133 t125.1.Rows.length c134]) (x_extract rfl rfl) rfl ?_
    refine W_v (.int .i64 t125.2) (x_extract rfl rfl) rfl ?_
    refine W_alloc S #[.bool false, .slice none 0 0, .slice none 0 0, .slice none 0 0] ty26 rfl rfl ?_
    intro b137 w138 E' S
    replace E := E.trans E'
    clear E'
    refine W_store S 0 rfl ty26 rfl rfl [.bool t125.1.Leaf, .slice A127 t125.1.Keys.length c128, .slice A130 t125.1.Kids.length c131, .slice A133 t125.1.Rows.length c134] rfl rfl rfl #[.bool t125.1.Leaf, .slice A127 t125.1.Keys.length c128, .slice A130 t125.1.Kids.length c131, .slice A133 t125.1.Rows.length c134] rfl rfl ?_
    intro w140 E' S
    replace E := E.trans E'
    clear E'
    refine W_v (.int .i64 t125.2) (x_assign rfl) rfl ?_
    refine Wl_nil ?_
    refine tn ?_
    refine Wp_seq ?_
    refine Wp_region_lit ?_
    refine W_v (.int .i64 t125.2) (x_move rfl) rfl ?_
    refine W_v (.bool (t125.2 != (0 : Int))) (x_ibin rfl rfl rfl rfl) rfl ?_
    refine W_v (.bool (t125.2 != (0 : Int))) (x_move rfl) rfl ?_
    refine Wl_cutN 10 (fun ρ w' => Agree ρ [(89, .bool ((t125.2 != (0 : Int)) || (t121 == (a4 || (decide ((t125.1.Keys.length : Int) > (0 : Int)))))))] ∧ w140 = w') ?_ ?_
    · rcases boolCases (t125.2 != (0 : Int)) with hb143 | hb143
      · skip
        refine W_yes (congrArg some hb143) ?_
        refine W_v (.bool t121) (x_move rfl) rfl ?_
        refine W_yes (congrArg some hb143) ?_
        refine W_v (.bool a4) (x_move rfl) rfl ?_
        refine W_yes (congrArg some hb143) ?_
        refine W_v (.bool a4) (x_move rfl) rfl ?_
        refine Wl_cutN 5 (fun ρ w' => Agree ρ [(79, .bool (t125.2 != (0 : Int))), (80, .bool t121), (87, .bool (a4 || (decide ((t125.1.Keys.length : Int) > (0 : Int)))))] ∧ w140 = w') ?_ ?_
        · rcases boolCases a4 with hb144 | hb144
          · skip
            refine W_yes (congrArg some hb144) ?_
            refine W_v (.pointer (some ⟨b137, 1, none⟩)) (x_fieldAddr (o := 0) (off := 1) Try.underlying26 rfl ty22 rfl rfl) rfl ?_
            refine W_yes (congrArg some hb144) ?_
            refine W_v (.slice A127 t125.1.Keys.length c128) (x_load (S.blk 0 rfl) ty22 rfl rfl) rfl ?_
            refine W_yes (congrArg some hb144) ?_
            refine W_v (.int .i64 (t125.1.Keys.length : Int)) (x_len_slice (n := t125.1.Keys.length) Try.underlying22 rfl) rfl ?_
            refine W_yes (congrArg some hb144) ?_
            refine W_v (.bool (decide ((t125.1.Keys.length : Int) > (0 : Int)))) (x_ibin rfl rfl rfl rfl) rfl ?_
            refine W_yes (congrArg some hb143) ?_
            refine W_v (.bool (decide ((t125.1.Keys.length : Int) > (0 : Int)))) (x_pick (k := false) (congrArg Value.bool hb144) rfl) rfl ?_
            refine Wl_nil ?_
            exact ⟨⟨rfl, rfl, (by first | rfl | (rw [hb144]; rfl) | (simp only [hb144]; rfl)), trivial⟩, rfl⟩
          · skip
            refine W_no (skF hb144) rfl ?_
            refine W_no (skF hb144) rfl ?_
            refine W_no (skF hb144) rfl ?_
            refine W_no (skF hb144) rfl ?_
            refine W_yes (congrArg some hb143) ?_
            refine W_v (.bool true) (x_pick (k := true) (congrArg Value.bool hb144) rfl) rfl ?_
            refine Wl_nil ?_
            exact ⟨⟨rfl, rfl, (by first | rfl | (rw [hb144]; rfl) | (simp only [hb144]; rfl)), trivial⟩, rfl⟩
        rintro ρ _ ⟨hρ, rfl⟩
        rw [agree_eta hρ]
        clear hρ
        refine W_yes (congrArg some hb143) ?_
        refine W_v (.bool (t121 == (a4 || (decide ((t125.1.Keys.length : Int) > (0 : Int)))))) (x_beq Try.underlying4 rfl rfl) rfl ?_
        refine W_v (.bool (t121 == (a4 || (decide ((t125.1.Keys.length : Int) > (0 : Int)))))) (x_pick (k := false) (congrArg Value.bool hb143) rfl) rfl ?_
        refine Wl_nil ?_
        exact ⟨⟨(by first | rfl | (rw [hb143]; rfl) | (simp only [hb143]; rfl)), trivial⟩, rfl⟩
      · skip
        refine W_no (skF hb143) rfl ?_
        refine W_no (skF hb143) rfl ?_
        refine W_no (skF hb143) rfl ?_
        refine W_no (rfl) rfl ?_
        refine W_no (rfl) rfl ?_
        refine W_no (rfl) rfl ?_
        refine W_no (rfl) rfl ?_
        refine W_no (skF hb143) rfl ?_
        refine W_no (skF hb143) rfl ?_
        refine W_v (.bool true) (x_pick (k := true) (congrArg Value.bool hb143) rfl) rfl ?_
        refine Wl_nil ?_
        exact ⟨⟨(by first | rfl | (rw [hb143]; rfl) | (simp only [hb143]; rfl)), trivial⟩, rfl⟩
    rintro ρ _ ⟨hρ, rfl⟩
    rw [agree_eta hρ]
    clear hρ
    refine W_v (.bool ((t125.2 != (0 : Int)) || (t121 == (a4 || (decide ((t125.1.Keys.length : Int) > (0 : Int))))))) (x_assign rfl) rfl ?_
    refine Wl_nil ?_
    refine tn ?_
    refine Wp_ret ?_
    refine tr (?_)
    obtain rfl := Option.some.inj H
    exact ⟨_, _, _, fun w1 e1 => run_resR (vs := [.bool ((t125.2 != (0 : Int)) || (t121 == (a4 || (decide ((t125.1.Keys.length : Int) > (0 : Int))))))]) (FA.cons (rfl) (FA.nil)), HM, E, S.pick [] (by decide), ⟨rfl, rfl⟩⟩
  refine Wp_cond_false (congrArg Value.bool hb124) ?_
  refine Wp_skip ?_
  refine tn ?_
  refine Wp_seq ?_
  refine Wp_region_lit ?_
  refine W_v (.agg #[.bool a0.Leaf, .slice A0_0 a0.Keys.length c0_0, .slice A0_1 a0.Kids.length c0_1, .slice A0_2 a0.Rows.length c0_2]) (x_loadA (S.blk 4 rfl) ty26 rfl (sub_of_extract rfl) rfl rfl) rfl ?_
  refine W_v (.int .i64 a3) (x_move rfl) rfl ?_
  obtain ⟨t145, ht146, H⟩ := bindS H
  refine W_callF fn20 (fork_Cut.con k M A0_0 c0_0 A0_1 c0_1 A0_2 c0_2 a0 a3 t145 hr0_0 hr0_1 hr0_2 ht146) S rfl rfl (by rintro _ _ _ ⟨_, _, _, _, _, _, _, rfl⟩; exact (flat_cons (flat_row (fun _ _ _ _ h => h)) (flat_cons (flat_row (fun _ _ _ _ h => h)) (flat_cons (flat_row (fun _ _ _ _ h => h)) flat_nil)))) ?_
  rintro _ w156 _ Γ' E' S ⟨A147, c148, A150, c151, A153, c154, rfl, rfl⟩
  replace E := E.trans E'
  clear E'
  refine W_v (.tuple #[.agg #[.bool t145.1.Leaf, .slice A147 t145.1.Keys.length c148, .slice A150 t145.1.Kids.length c151, .slice A153 t145.1.Rows.length c154], .int .i64 t145.2]) (x_move rfl) rfl ?_
  refine W_v (.agg #[.bool t145.1.Leaf, .slice A147 t145.1.Keys.length c148, .slice A150 t145.1.Kids.length c151, .slice A153 t145.1.Rows.length c154]) (x_extract rfl rfl) rfl ?_
  refine W_v (.int .i64 t145.2) (x_extract rfl rfl) rfl ?_
  refine W_alloc S #[.bool false, .slice none 0 0, .slice none 0 0, .slice none 0 0] ty26 rfl rfl ?_
  intro b157 w158 E' S
  replace E := E.trans E'
  clear E'
  refine W_store S 0 rfl ty26 rfl rfl [.bool t145.1.Leaf, .slice A147 t145.1.Keys.length c148, .slice A150 t145.1.Kids.length c151, .slice A153 t145.1.Rows.length c154] rfl rfl rfl #[.bool t145.1.Leaf, .slice A147 t145.1.Keys.length c148, .slice A150 t145.1.Kids.length c151, .slice A153 t145.1.Rows.length c154] rfl rfl ?_
  intro w160 E' S
  replace E := E.trans E'
  clear E'
  refine W_v (.int .i64 t145.2) (x_assign rfl) rfl ?_
  refine Wl_nil ?_
  refine tn ?_
  refine Wp_seq ?_
  refine Wp_seq ?_
  refine Wp_region_lit ?_
  refine W_v (.int .i64 t145.2) (x_move rfl) rfl ?_
  refine W_v (.bool (t145.2 != (0 : Int))) (x_ibin rfl rfl rfl rfl) rfl ?_
  refine Wl_nil ?_
  refine tn ?_
  rcases iteS H with ⟨hb161, H⟩ | ⟨hb161, H⟩
  · refine Wp_cond_true (congrArg Value.bool hb161) ?_
    refine Wp_seq ?_
    refine Wp_region_lit ?_
    refine W_v (.pointer (some ⟨b1, 2, none⟩)) (x_fieldAddr (o := 0) (off := 2) Try.underlying26 rfl ty23 rfl rfl) rfl ?_
    refine W_v (.slice A0_1 a0.Kids.length c0_1) (x_load (S.blk 8 rfl) ty23 rfl rfl) rfl ?_
    refine W_v (.int .i64 (a0.Kids.length : Int)) (x_len_slice (n := a0.Kids.length) Try.underlying23 rfl) rfl ?_
    refine W_v (.bool (decide ((a0.Kids.length : Int) > (1 : Int)))) (x_ibin rfl rfl rfl rfl) rfl ?_
    refine W_v (.bool (decide ((a0.Kids.length : Int) > (1 : Int)))) (x_move rfl) rfl ?_
    refine Wl_cutN 3 (fun ρ w' => Agree ρ [(105, .bool ((decide ((a0.Kids.length : Int) > (1 : Int))) || (!t121)))] ∧ w160 = w') ?_ ?_
    · rcases boolCases (decide ((a0.Kids.length : Int) > (1 : Int))) with hb162 | hb162
      · skip
        refine W_yes (congrArg some hb162) ?_
        refine W_v (.bool t121) (x_move rfl) rfl ?_
        refine W_yes (congrArg some hb162) ?_
        refine W_v (.bool (!t121)) (x_not rfl) rfl ?_
        refine W_v (.bool (!t121)) (x_pick (k := false) (congrArg Value.bool hb162) rfl) rfl ?_
        refine Wl_nil ?_
        exact ⟨⟨(by first | rfl | (rw [hb162]; rfl) | (simp only [hb162]; rfl)), trivial⟩, rfl⟩
      · skip
        refine W_no (skF hb162) rfl ?_
        refine W_no (skF hb162) rfl ?_
        refine W_v (.bool true) (x_pick (k := true) (congrArg Value.bool hb162) rfl) rfl ?_
        refine Wl_nil ?_
        exact ⟨⟨(by first | rfl | (rw [hb162]; rfl) | (simp only [hb162]; rfl)), trivial⟩, rfl⟩
    rintro ρ _ ⟨hρ, rfl⟩
    rw [agree_eta hρ]
    clear hρ
    refine W_v (.bool ((decide ((a0.Kids.length : Int) > (1 : Int))) || (!t121))) (x_assign rfl) rfl ?_
    refine Wl_nil ?_
    refine tn ?_
    refine Wp_ret ?_
    refine tr (?_)
    obtain rfl := Option.some.inj H
    exact ⟨_, _, _, fun w1 e1 => run_resR (vs := [.bool ((decide ((a0.Kids.length : Int) > (1 : Int))) || (!t121))]) (FA.cons (rfl) (FA.nil)), HM, E, S.pick [] (by decide), ⟨rfl, rfl⟩⟩
  refine Wp_cond_false (congrArg Value.bool hb161) ?_
  refine Wp_skip ?_
  refine tn ?_
  refine Wp_seq ?_
  refine Wp_region_lit ?_
  refine W_v (.bool t121) (x_move rfl) rfl ?_
  refine W_v (.pointer (some ⟨b157, 2, none⟩)) (x_fieldAddr (o := 0) (off := 2) Try.underlying26 rfl ty23 rfl rfl) rfl ?_
  refine W_v (.slice A150 t145.1.Kids.length c151) (x_load (S.blk 0 rfl) ty23 rfl rfl) rfl ?_
  refine W_v (.int .i64 (t145.1.Kids.length : Int)) (x_len_slice (n := t145.1.Kids.length) Try.underlying23 rfl) rfl ?_
  refine W_v (.bool (decide ((t145.1.Kids.length : Int) > (1 : Int)))) (x_ibin rfl rfl rfl rfl) rfl ?_
  refine W_v (.bool (decide ((t145.1.Kids.length : Int) > (1 : Int)))) (x_move rfl) rfl ?_
  refine Wl_cutN 9 (fun ρ w' => Agree ρ [(106, .bool t121), (120, .bool ((decide ((t145.1.Kids.length : Int) > (1 : Int))) || ((!a4) && (decide ((t145.1.Kids.length : Int) > (0 : Int))))))] ∧ w160 = w') ?_ ?_
  · rcases boolCases (decide ((t145.1.Kids.length : Int) > (1 : Int))) with hb165 | hb165
    · skip
      refine W_yes (congrArg some hb165) ?_
      refine W_v (.bool a4) (x_move rfl) rfl ?_
      refine W_yes (congrArg some hb165) ?_
      refine W_v (.bool (!a4)) (x_not rfl) rfl ?_
      refine W_yes (congrArg some hb165) ?_
      refine W_v (.bool (!a4)) (x_move rfl) rfl ?_
      refine Wl_cutN 5 (fun ρ w' => Agree ρ [(106, .bool t121), (111, .bool (decide ((t145.1.Kids.length : Int) > (1 : Int)))), (119, .bool ((!a4) && (decide ((t145.1.Kids.length : Int) > (0 : Int)))))] ∧ w160 = w') ?_ ?_
      · rcases boolCases (!a4) with hb166 | hb166
        · skip
          refine W_no (skT hb166) rfl ?_
          refine W_no (skT hb166) rfl ?_
          refine W_no (skT hb166) rfl ?_
          refine W_no (skT hb166) rfl ?_
          refine W_yes (congrArg some hb165) ?_
          refine W_v (.bool false) (x_pick (k := false) (congrArg Value.bool hb166) rfl) rfl ?_
          refine Wl_nil ?_
          exact ⟨⟨rfl, rfl, (by first | rfl | (rw [hb166]; rfl) | (simp only [hb166]; rfl)), trivial⟩, rfl⟩
        · skip
          refine W_yes (congrArg some hb166) ?_
          refine W_v (.pointer (some ⟨b157, 2, none⟩)) (x_fieldAddr (o := 0) (off := 2) Try.underlying26 rfl ty23 rfl rfl) rfl ?_
          refine W_yes (congrArg some hb166) ?_
          refine W_v (.slice A150 t145.1.Kids.length c151) (x_load (S.blk 0 rfl) ty23 rfl rfl) rfl ?_
          refine W_yes (congrArg some hb166) ?_
          refine W_v (.int .i64 (t145.1.Kids.length : Int)) (x_len_slice (n := t145.1.Kids.length) Try.underlying23 rfl) rfl ?_
          refine W_yes (congrArg some hb166) ?_
          refine W_v (.bool (decide ((t145.1.Kids.length : Int) > (0 : Int)))) (x_ibin rfl rfl rfl rfl) rfl ?_
          refine W_yes (congrArg some hb165) ?_
          refine W_v (.bool (decide ((t145.1.Kids.length : Int) > (0 : Int)))) (x_pick (k := true) (congrArg Value.bool hb166) rfl) rfl ?_
          refine Wl_nil ?_
          exact ⟨⟨rfl, rfl, (by first | rfl | (rw [hb166]; rfl) | (simp only [hb166]; rfl)), trivial⟩, rfl⟩
      rintro ρ _ ⟨hρ, rfl⟩
      rw [agree_eta hρ]
      clear hρ
      refine W_v (.bool ((!a4) && (decide ((t145.1.Kids.length : Int) > (0 : Int))))) (x_pick (k := false) (congrArg Value.bool hb165) rfl) rfl ?_
      refine Wl_nil ?_
      exact ⟨⟨rfl, (by first | rfl | (rw [hb165]; rfl) | (simp only [hb165]; rfl)), trivial⟩, rfl⟩
    · skip
      refine W_no (skF hb165) rfl ?_
      refine W_no (skF hb165) rfl ?_
      refine W_no (skF hb165) rfl ?_
      refine W_no (rfl) rfl ?_
      refine W_no (rfl) rfl ?_
      refine W_no (rfl) rfl ?_
      refine W_no (rfl) rfl ?_
      refine W_no (skF hb165) rfl ?_
      refine W_v (.bool true) (x_pick (k := true) (congrArg Value.bool hb165) rfl) rfl ?_
      refine Wl_nil ?_
      exact ⟨⟨rfl, (by first | rfl | (rw [hb165]; rfl) | (simp only [hb165]; rfl)), trivial⟩, rfl⟩
  rintro ρ _ ⟨hρ, rfl⟩
  rw [agree_eta hρ]
  clear hρ
  refine W_v (.bool (t121 == ((decide ((t145.1.Kids.length : Int) > (1 : Int))) || ((!a4) && (decide ((t145.1.Kids.length : Int) > (0 : Int))))))) (x_beq Try.underlying4 rfl rfl) rfl ?_
  refine W_v (.bool (t121 == ((decide ((t145.1.Kids.length : Int) > (1 : Int))) || ((!a4) && (decide ((t145.1.Kids.length : Int) > (0 : Int))))))) (x_assign rfl) rfl ?_
  refine Wl_nil ?_
  refine tn ?_
  refine Wp_ret ?_
  obtain rfl := Option.some.inj H
  exact ⟨_, _, _, fun w1 e1 => run_resR (vs := [.bool (t121 == ((decide ((t145.1.Kids.length : Int) > (1 : Int))) || ((!a4) && (decide ((t145.1.Kids.length : Int) > (0 : Int))))))]) (FA.cons (rfl) (FA.nil)), HM, E, S.pick [] (by decide), ⟨rfl, rfl⟩⟩
end Go.Proofs.Ytdommjjhfplcaaa
