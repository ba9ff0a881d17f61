import Derived.Test.YtdommjjhfplcaaaGf1
namespace Go.Proofs.Ytdommjjhfplcaaa
open Go
set_option linter.unusedVariables false
set_option linter.unusedSimpArgs false
/-! ### ferryman/ferrymanlaw13.ForkHalves: function 4 -/
def ferrymanlaw13_ForkHalves (k : Nat) (a0 : fork_Node) (a1 : Str) : Option (Bool) :=
  (Option.bind (ferrymanlaw13_large k a0) (fun t4 => (Option.bind (α := Bool) (if (t4 || (decide ((a1.length : Int) > (3000 : Int)))) = true then some (true) else (Option.bind (ferrymanlaw13_awake k ) (fun t17 => some ((!t17))))) (fun x15 => (Option.bind (α := Bool) (if x15 = true then some (true) else (Option.bind (fork_May k a0) (fun t30 => some ((!t30))))) (fun x28 => (if (x28 || (decide ((a0.Keys.length : Int) < (3 : Int)))) = true then (Option.bind (ferrymanlaw13_awake k ) (fun t36 => some t36)) else (Option.bind (fork_Split k a0) (fun t39 => (Option.bind (α := Bool) (if (t39.2.2.2 != (0 : Int)) = true then some (true) else (Option.bind (fork_May k t39.1) (fun t79 => some ((!t79))))) (fun x77 => (Option.bind (α := Bool) (if x77 = true then some (true) else (Option.bind (fork_May k t39.2.1) (fun t92 => some ((!t92))))) (fun x90 => (if ((((x90 || (!(t39.1.Leaf == a0.Leaf))) || (!(t39.2.1.Leaf == a0.Leaf))) || ((t39.1.Keys.length : Int) == (0 : Int))) || (a0.Leaf && ((t39.2.1.Keys.length : Int) == (0 : Int)))) = true then some false else (Option.bind (α := Bool × List Str × List Int × List Int) (if (sbin .lss a1 t39.2.2.1) = true then some (t39.1.Leaf, t39.1.Keys, t39.1.Kids, t39.1.Rows) else some (t39.2.1.Leaf, t39.2.1.Keys, t39.2.1.Kids, t39.2.1.Rows)) (fun ⟨x110, x111, x115, x119⟩ => (if a0.Leaf = true then (Option.bind (α := List Str × List Int) (if ([] : List Str).length + t39.1.Keys.length ≤ 8796093022208 then (if (([] : List Str) ++ t39.1.Keys).length + t39.2.1.Keys.length ≤ 8796093022208 then (if ([] : List Int).length + t39.1.Rows.length ≤ 17592186044416 then (if (([] : List Int) ++ t39.1.Rows).length + t39.2.1.Rows.length ≤ 17592186044416 then some (((([] : List Str) ++ t39.1.Keys) ++ t39.2.1.Keys), ((([] : List Int) ++ t39.1.Rows) ++ t39.2.1.Rows)) else none) else none) else none) else none) (fun ⟨x1411, x1415⟩ => (Option.bind (fork_Place k a0 a1) (fun t2120 => (Option.bind (fork_Place k (⟨x110, x111, x115, x119⟩ : fork_Node) a1) (fun t2123 => (if 0 ≤ (0 : Int) ∧ (0 : Int) < (t39.2.1.Keys.length : Int) then (Option.bind (α := Bool) (if (sbin .eql (rd t39.2.1.Keys (0 : Int)) t39.2.2.1) = true then (if 0 ≤ (IntKind.i64.wrap ((t39.1.Keys.length : Int) - (1 : Int))) ∧ (IntKind.i64.wrap ((t39.1.Keys.length : Int) - (1 : Int))) < (t39.1.Keys.length : Int) then some ((sbin .lss (rd t39.1.Keys (IntKind.i64.wrap ((t39.1.Keys.length : Int) - (1 : Int)))) t39.2.2.1)) else none) else some (false)) (fun x2288 => (Option.bind (α := Bool) (if x2288 = true then (Option.bind (ferrymanref13_Same k (⟨true, x1411, ([] : (List Int)), x1415⟩ : ferrymanref13_Node) (⟨a0.Leaf, a0.Keys, a0.Kids, a0.Rows⟩ : ferrymanref13_Node)) (fun t2307 => some (t2307))) else some (false)) (fun x2305 => (Option.bind (α := Bool) (if (x2305 && (t2123.2 == t2120.2)) = true then (Option.bind (α := Bool) (if (!t2123.2) = true then some (true) else (if 0 ≤ t2123.1 ∧ t2123.1 < (x119.length : Int) then (if 0 ≤ t2120.1 ∧ t2120.1 < (a0.Rows.length : Int) then some (((rd x119 t2123.1) == (rd a0.Rows t2120.1))) else none) else none)) (fun x2380 => some (x2380))) else some (false)) (fun x2357 => some ((x2357 && (decide ((IntKind.i64.wrap ((t39.1.Keys.length : Int) - (t39.2.1.Keys.length : Int))) ≤ (1 : Int)))) && (decide ((t39.1.Keys.length : Int) ≥ (t39.2.1.Keys.length : Int)))))))))) else none))))))) else (Option.bind (α := List Str × List Int) (if ([] : List Str).length + t39.1.Keys.length ≤ 8796093022208 then (if (([] : List Str) ++ t39.1.Keys).length + ([t39.2.2.1] : List Str).length ≤ 8796093022208 then (if ((([] : List Str) ++ t39.1.Keys) ++ ([t39.2.2.1] : List Str)).length + t39.2.1.Keys.length ≤ 8796093022208 then (if ([] : List Int).length + t39.1.Kids.length ≤ 17592186044416 then (if (([] : List Int) ++ t39.1.Kids).length + t39.2.1.Kids.length ≤ 17592186044416 then some ((((([] : List Str) ++ t39.1.Keys) ++ ([t39.2.2.1] : List Str)) ++ t39.2.1.Keys), ((([] : List Int) ++ t39.1.Kids) ++ t39.2.1.Kids)) else none) else none) else none) else none) else none) (fun ⟨x5225, x5229⟩ => (Option.bind (ferrymanref13_Same k (⟨false, x5225, x5229, ([] : (List Int))⟩ : ferrymanref13_Node) (⟨a0.Leaf, a0.Keys, a0.Kids, a0.Rows⟩ : ferrymanref13_Node)) (fun t6923 => (Option.bind (α := Bool) (if t6923 = true then (Option.bind (fork_Kid k (⟨x110, x111, x115, x119⟩ : fork_Node) a1) (fun t6955 => (if 0 ≤ t6955 ∧ t6955 < (x115.length : Int) then (Option.bind (fork_Kid k a0 a1) (fun t6968 => (if 0 ≤ t6968 ∧ t6968 < (a0.Kids.length : Int) then some (((rd x115 t6955) == (rd a0.Kids t6968))) else none))) else none))) else some (false)) (fun x6953 => some x6953)))))))))))))))))))))))
set_option maxHeartbeats 2000000 in
theorem ferrymanlaw13_ForkHalves.mono {k : Nat} {a0 : fork_Node} {a1 : Str} : OLe (ferrymanlaw13_ForkHalves k a0 a1) (ferrymanlaw13_ForkHalves (k + 1) a0 a1) := by
  unfold ferrymanlaw13_ForkHalves
  repeat' (first | with_reducible exact OLe.none | with_reducible exact OLe.some | with_reducible refine OLe.ite ?_ ?_ | with_reducible refine OLe.bind ?_ (fun _ => ?_) | with_reducible exact ferrymanlaw13_awake.mono | with_reducible exact ferrymanlaw13_large.mono | with_reducible exact ferrymanref13_Same.mono | with_reducible exact fork_Kid.mono | with_reducible exact fork_May.mono | with_reducible exact fork_Place.mono | with_reducible exact fork_Split.mono | refine OLe.bind ?_ (fun _ => ?_) | refine OLe.ite ?_ ?_ | refine OLe.elim (fun _ => ?_) (fun _ => ?_) | split)
set_option maxHeartbeats 8000000 in
set_option maxRecDepth 100000 in
theorem ferrymanlaw13_ForkHalves.con (k : Nat) (M : Hp) (A0_0 : Option Addr) (c0_0 : Nat) (A0_1 : Option Addr) (c0_1 : Nat) (A0_2 : Option Addr) (c0_2 : Nat) (a0 : fork_Node) (a1 : Str) (r : Bool) (hr0_0 : SlR rStr M (.slice A0_0 a0.Keys.length c0_0) a0.Keys) (hr0_1 : SlR (rInt .i64) M (.slice A0_1 a0.Kids.length c0_1) a0.Kids) (hr0_2 : SlR (rInt .u64) M (.slice A0_2 a0.Rows.length c0_2) a0.Rows) (h : ferrymanlaw13_ForkHalves k a0 a1 = some r) : Con Try.prog 4 #[.agg #[.bool a0.Leaf, .slice A0_0 a0.Keys.length c0_0, .slice A0_1 a0.Kids.length c0_1, .slice A0_2 a0.Rows.length c0_2], .string (bs a1)] M [] (fun v M' Γ' => v = .bool r ∧ Γ' = []) := by
  refine con_of_wp Try.func4 rfl Try.ntmps4 Try.results4 rfl ?_
  intro w F rn S hrn
  have E := Ext.refl w
  have HM := Hp.le_refl M
  have H := h
  unfold ferrymanlaw13_ForkHalves at H
  refine Wp_seq ?_
  refine Wp_region_lit ?_
  refine W_box S #[.bool a0.Leaf, .slice A0_0 a0.Keys.length c0_0, .slice A0_1 a0.Kids.length c0_1, .slice A0_2 a0.Rows.length c0_2] rfl rfl rfl ?_
  intro b1 w2 E' S
  replace E := E.trans E'
  clear E'
  refine W_v (.bool false) (x_assign rfl) rfl ?_
  refine Wl_nil ?_
  refine tn ?_
  refine Wp_seq ?_
  refine Wp_seq ?_
  refine Wp_region_lit ?_
  refine W_v (.agg #[.bool a0.Leaf, .slice A0_0 a0.Keys.length c0_0, .slice A0_1 a0.Kids.length c0_1, .slice A0_2 a0.Rows.length c0_2]) (x_loadA (S.blk 0 rfl) ty26 rfl (sub_of_extract rfl) rfl rfl) rfl ?_
  obtain ⟨t4, ht5, H⟩ := bindS H
  refine W_callF fn9 (ferrymanlaw13_large.con k M A0_0 c0_0 A0_1 c0_1 A0_2 c0_2 a0 t4 hr0_0 hr0_1 hr0_2 ht5) S rfl rfl (by rintro _ _ _ ⟨_, rfl⟩; exact flat_nil) ?_
  rintro _ w6 _ Γ' E' S ⟨rfl, rfl⟩
  replace E := E.trans E'
  clear E'
  refine W_v (.bool t4) (x_move rfl) rfl ?_
  refine Wl_cutN 4 (fun ρ w' => Agree ρ [(1, .string (bs a1)), (2, .pointer (some ⟨b1, 0, none⟩)), (22, .bool (t4 || (decide ((a1.length : Int) > (3000 : Int)))))] ∧ w6 = w') ?_ ?_
  · rcases boolCases t4 with hb7 | hb7
    · skip
      refine W_yes (congrArg some hb7) ?_
      refine W_v (.string (bs a1)) (x_move rfl) rfl ?_
      refine W_yes (congrArg some hb7) ?_
      refine W_v (.int .i64 (a1.length : Int)) (x_len_str Try.underlying9 rfl) rfl ?_
      refine W_yes (congrArg some hb7) ?_
      refine W_v (.bool (decide ((a1.length : Int) > (3000 : Int)))) (x_ibin rfl rfl rfl rfl) rfl ?_
      refine W_v (.bool (decide ((a1.length : Int) > (3000 : Int)))) (x_pick (k := false) (congrArg Value.bool hb7) rfl) rfl ?_
      refine Wl_nil ?_
      exact ⟨⟨rfl, rfl, (by first | rfl | (rw [hb7]; rfl) | (simp only [hb7]; rfl)), trivial⟩, rfl⟩
    · skip
      refine W_no (skF hb7) rfl ?_
      refine W_no (skF hb7) rfl ?_
      refine W_no (skF hb7) rfl ?_
      refine W_v (.bool true) (x_pick (k := true) (congrArg Value.bool hb7) rfl) rfl ?_
      refine Wl_nil ?_
      exact ⟨⟨rfl, rfl, (by first | rfl | (rw [hb7]; rfl) | (simp only [hb7]; rfl)), trivial⟩, rfl⟩
  rintro ρ _ ⟨hρ, rfl⟩
  rw [agree_eta hρ]
  clear hρ
  refine W_v (.bool (t4 || (decide ((a1.length : Int) > (3000 : Int))))) (x_move rfl) rfl ?_
  obtain ⟨o16, o16h, o16H⟩ := bindS H
  clear H
  refine Wl_cutN 3 (fun ρ w' => ∃ (x15 : Bool), (x15) = o16 ∧ Agree ρ [(1, .string (bs a1)), (2, .pointer (some ⟨b1, 0, none⟩)), (26, .bool x15)] ∧ Ext w w' ∧ St w' M F [Blk b1 (.cells #[.bool a0.Leaf, .slice A0_0 a0.Keys.length c0_0, .slice A0_1 a0.Kids.length c0_1, .slice A0_2 a0.Rows.length c0_2] 26 (0, 0))]) ?_ ?_
  · have H := o16h
    rcases iteS H with ⟨hb14, H⟩ | ⟨hb14, H⟩
    · skip
      refine W_no (skF hb14) rfl ?_
      refine W_no (skF hb14) rfl ?_
      refine W_v (.bool true) (x_pick (k := true) (congrArg Value.bool hb14) rfl) rfl ?_
      refine Wl_nil ?_
      exact ⟨true, Option.some.inj H, ⟨rfl, rfl, rfl, trivial⟩, E, S.pick [0] (by decide)⟩
    · skip
      refine W_yes (congrArg some hb14) ?_
      obtain ⟨t17, ht18, H⟩ := bindS H
      refine W_callF fn10 (ferrymanlaw13_awake.con k M  t17  ht18) S rfl rfl (by rintro _ _ _ ⟨_, rfl⟩; exact flat_nil) ?_
      rintro _ w19 _ Γ' E' S ⟨rfl, rfl⟩
      replace E := E.trans E'
      clear E'
      refine W_yes (congrArg some hb14) ?_
      refine W_v (.bool (!t17)) (x_not rfl) rfl ?_
      refine W_v (.bool (!t17)) (x_pick (k := false) (congrArg Value.bool hb14) rfl) rfl ?_
      refine Wl_nil ?_
      exact ⟨(!t17), Option.some.inj H, ⟨rfl, rfl, rfl, trivial⟩, E, S.pick [0] (by decide)⟩
  clear o16h
  rintro ρ w20 ⟨x15, rfl, hρ, E, S⟩
  rw [agree_eta hρ]
  clear hρ
  have H := o16H
  clear o16H
  refine W_v (.bool x15) (x_move rfl) rfl ?_
  obtain ⟨o29, o29h, o29H⟩ := bindS H
  clear H
  refine Wl_cutN 4 (fun ρ w' => ∃ (x28 : Bool), (x28) = o29 ∧ Agree ρ [(1, .string (bs a1)), (2, .pointer (some ⟨b1, 0, none⟩)), (31, .bool x28)] ∧ Ext w w' ∧ St w' M F [Blk b1 (.cells #[.bool a0.Leaf, .slice A0_0 a0.Keys.length c0_0, .slice A0_1 a0.Kids.length c0_1, .slice A0_2 a0.Rows.length c0_2] 26 (0, 0))]) ?_ ?_
  · have H := o29h
    rcases iteS H with ⟨hb27, H⟩ | ⟨hb27, H⟩
    · skip
      refine W_no (skF hb27) rfl ?_
      refine W_no (skF hb27) rfl ?_
      refine W_no (skF hb27) rfl ?_
      refine W_v (.bool true) (x_pick (k := true) (congrArg Value.bool hb27) rfl) rfl ?_
      refine Wl_nil ?_
      exact ⟨true, Option.some.inj H, ⟨rfl, rfl, rfl, trivial⟩, E, S.pick [0] (by decide)⟩
    · skip
      refine W_yes (congrArg some hb27) ?_
      refine W_v (.agg #[.bool a0.Leaf, .slice A0_0 a0.Keys.length c0_0, .slice A0_1 a0.Kids.length c0_1, .slice A0_2 a0.Rows.length c0_2]) (x_loadA (S.blk 0 rfl) ty26 rfl (sub_of_extract rfl) rfl rfl) rfl ?_
      refine W_yes (congrArg some hb27) ?_
      obtain ⟨t30, ht31, H⟩ := bindS H
      refine W_callF fn11 (fork_May.con k M A0_0 c0_0 A0_1 c0_1 A0_2 c0_2 a0 t30 hr0_0 hr0_1 hr0_2 ht31) S rfl rfl (by rintro _ _ _ ⟨_, rfl⟩; exact flat_nil) ?_
      rintro _ w32 _ Γ' E' S ⟨rfl, rfl⟩
      replace E := E.trans E'
      clear E'
      refine W_yes (congrArg some hb27) ?_
      refine W_v (.bool (!t30)) (x_not rfl) rfl ?_
      refine W_v (.bool (!t30)) (x_pick (k := false) (congrArg Value.bool hb27) rfl) rfl ?_
      refine Wl_nil ?_
      exact ⟨(!t30), Option.some.inj H, ⟨rfl, rfl, rfl, trivial⟩, E, S.pick [0] (by decide)⟩
  clear o29h
  rintro ρ w33 ⟨x28, rfl, hρ, E, S⟩
  rw [agree_eta hρ]
  clear hρ
  have H := o29H
  clear o29H
  refine W_v (.bool x28) (x_move rfl) rfl ?_
  refine Wl_cutN 5 (fun ρ w' => Agree ρ [(1, .string (bs a1)), (2, .pointer (some ⟨b1, 0, none⟩)), (37, .bool (x28 || (decide ((a0.Keys.length : Int) < (3 : Int)))))] ∧ w33 = w') ?_ ?_
  · rcases boolCases x28 with hb34 | hb34
    · skip
      refine W_yes (congrArg some hb34) ?_
      refine W_v (.pointer (some ⟨b1, 1, none⟩)) (x_fieldAddr (o := 0) (off := 1) Try.underlying26 rfl ty22 rfl rfl) rfl ?_
      refine W_yes (congrArg some hb34) ?_
      refine W_v (.slice A0_0 a0.Keys.length c0_0) (x_load (S.blk 0 rfl) ty22 rfl rfl) rfl ?_
      refine W_yes (congrArg some hb34) ?_
      refine W_v (.int .i64 (a0.Keys.length : Int)) (x_len_slice (n := a0.Keys.length) Try.underlying22 rfl) rfl ?_
      refine W_yes (congrArg some hb34) ?_
      refine W_v (.bool (decide ((a0.Keys.length : Int) < (3 : Int)))) (x_ibin rfl rfl rfl rfl) rfl ?_
      refine W_v (.bool (decide ((a0.Keys.length : Int) < (3 : Int)))) (x_pick (k := false) (congrArg Value.bool hb34) rfl) rfl ?_
      refine Wl_nil ?_
      exact ⟨⟨rfl, rfl, (by first | rfl | (rw [hb34]; rfl) | (simp only [hb34]; rfl)), trivial⟩, rfl⟩
    · skip
      refine W_no (skF hb34) rfl ?_
      refine W_no (skF hb34) rfl ?_
      refine W_no (skF hb34) rfl ?_
      refine W_no (skF hb34) rfl ?_
      refine W_v (.bool true) (x_pick (k := true) (congrArg Value.bool hb34) rfl) rfl ?_
      refine Wl_nil ?_
      exact ⟨⟨rfl, rfl, (by first | rfl | (rw [hb34]; rfl) | (simp only [hb34]; rfl)), trivial⟩, rfl⟩
  rintro ρ _ ⟨hρ, rfl⟩
  rw [agree_eta hρ]
  clear hρ
  refine Wl_nil ?_
  refine tn ?_
  rcases iteS H with ⟨hb35, H⟩ | ⟨hb35, H⟩
  · refine Wp_cond_true (congrArg Value.bool hb35) ?_
    refine Wp_seq ?_
    refine Wp_region_lit ?_
    obtain ⟨t36, ht37, H⟩ := bindS H
    refine W_callF fn10 (ferrymanlaw13_awake.con k M  t36  ht37) S rfl rfl (by rintro _ _ _ ⟨_, rfl⟩; exact flat_nil) ?_
    rintro _ w38 _ Γ' E' S ⟨rfl, rfl⟩
    replace E := E.trans E'
    clear E'
    refine W_v (.bool t36) (x_assign rfl) rfl ?_
    refine Wl_nil ?_
    refine tn ?_
    refine Wp_ret ?_
    refine tr (?_)
    obtain rfl := Option.some.inj H
    exact ⟨_, _, _, fun w1 e1 => run_resR (vs := [.bool t36]) (FA.cons (rfl) (FA.nil)), HM, E, S.pick [] (by decide), ⟨rfl, rfl⟩⟩
  refine Wp_cond_false (congrArg Value.bool hb35) ?_
  refine Wp_skip ?_
  refine tn ?_
  refine Wp_seq ?_
  refine Wp_region_lit ?_
  refine W_v (.agg #[.bool a0.Leaf, .slice A0_0 a0.Keys.length c0_0, .slice A0_1 a0.Kids.length c0_1, .slice A0_2 a0.Rows.length c0_2]) (x_loadA (S.blk 0 rfl) ty26 rfl (sub_of_extract rfl) rfl rfl) rfl ?_
  obtain ⟨t39, ht40, H⟩ := bindS H
  refine W_call fn15 (fork_Split.con k M A0_0 c0_0 A0_1 c0_1 A0_2 c0_2 a0 t39 hr0_0 hr0_1 hr0_2 ht40) (Γ1 := []) (Γ2 := [Blk b1 (.cells #[.bool a0.Leaf, .slice A0_0 a0.Keys.length c0_0, .slice A0_1 a0.Kids.length c0_1, .slice A0_2 a0.Rows.length c0_2] 26 (0, 0))]) S rfl rfl ?_
  rintro _ w59 M60 Γ' hM61 E' S ⟨A41, c42, A44, c45, A47, c48, A50, c51, A53, c54, A56, c57, rfl, hs43, hs46, hs49, hs52, hs55, hs58, rfl⟩
  replace HM := Hp.le_trans HM hM61
  replace hr0_0 := SlR.mono hr0_0 hM61
  replace hr0_1 := SlR.mono hr0_1 hM61
  replace hr0_2 := SlR.mono hr0_2 hM61
  replace E := E.trans E'
  clear E'
  refine W_v (.tuple #[.agg #[.bool t39.1.Leaf, .slice A41 t39.1.Keys.length c42, .slice A44 t39.1.Kids.length c45, .slice A47 t39.1.Rows.length c48], .agg #[.bool t39.2.1.Leaf, .slice A50 t39.2.1.Keys.length c51, .slice A53 t39.2.1.Kids.length c54, .slice A56 t39.2.1.Rows.length c57], .string (bs t39.2.2.1), .int .i64 t39.2.2.2]) (x_move rfl) rfl ?_
  refine W_v (.agg #[.bool t39.1.Leaf, .slice A41 t39.1.Keys.length c42, .slice A44 t39.1.Kids.length c45, .slice A47 t39.1.Rows.length c48]) (x_extract rfl rfl) rfl ?_
  refine W_v (.agg #[.bool t39.2.1.Leaf, .slice A50 t39.2.1.Keys.length c51, .slice A53 t39.2.1.Kids.length c54, .slice A56 t39.2.1.Rows.length c57]) (x_extract rfl rfl) rfl ?_
  refine W_v (.string (bs t39.2.2.1)) (x_extract rfl rfl) rfl ?_
  refine W_v (.int .i64 t39.2.2.2) (x_extract rfl rfl) rfl ?_
  refine W_alloc S #[.bool false, .slice none 0 0, .slice none 0 0, .slice none 0 0] ty26 rfl rfl ?_
  intro b62 w63 E' S
  replace E := E.trans E'
  clear E'
  refine W_alloc S #[.bool false, .slice none 0 0, .slice none 0 0, .slice none 0 0] ty26 rfl rfl ?_
  intro b65 w66 E' S
  replace E := E.trans E'
  clear E'
  refine W_store S 1 rfl ty26 rfl rfl [.bool t39.1.Leaf, .slice A41 t39.1.Keys.length c42, .slice A44 t39.1.Kids.length c45, .slice A47 t39.1.Rows.length c48] rfl rfl rfl #[.bool t39.1.Leaf, .slice A41 t39.1.Keys.length c42, .slice A44 t39.1.Kids.length c45, .slice A47 t39.1.Rows.length c48] rfl rfl ?_
  intro w68 E' S
  replace E := E.trans E'
  clear E'
  refine W_store S 0 rfl ty26 rfl rfl [.bool t39.2.1.Leaf, .slice A50 t39.2.1.Keys.length c51, .slice A53 t39.2.1.Kids.length c54, .slice A56 t39.2.1.Rows.length c57] rfl rfl rfl #[.bool t39.2.1.Leaf, .slice A50 t39.2.1.Keys.length c51, .slice A53 t39.2.1.Kids.length c54, .slice A56 t39.2.1.Rows.length c57] rfl rfl ?_
  intro w69 E' S
  replace E := E.trans E'
  clear E'
  refine W_v (.string (bs t39.2.2.1)) (x_assign rfl) rfl ?_
  refine W_v (.int .i64 t39.2.2.2) (x_assign rfl) rfl ?_
  refine Wl_nil ?_
  refine tn ?_
  refine Wp_seq ?_
  refine Wp_seq ?_
  refine Wp_region_lit ?_
  refine W_v (.int .i64 t39.2.2.2) (x_move rfl) rfl ?_
  refine W_v (.bool (t39.2.2.2 != (0 : Int))) (x_ibin rfl rfl rfl rfl) rfl ?_
  refine W_v (.bool (t39.2.2.2 != (0 : Int))) (x_move rfl) rfl ?_
  obtain ⟨o78, o78h, o78H⟩ := bindS H
  clear H
  refine Wl_cutN 4 (fun ρ w' => ∃ (x77 : Bool), (x77) = o78 ∧ Agree ρ [(1, .string (bs a1)), (2, .pointer (some ⟨b1, 0, none⟩)), (5, .pointer (some ⟨b62, 0, none⟩)), (6, .pointer (some ⟨b65, 0, none⟩)), (7, .string (bs t39.2.2.1)), (52, .bool x77)] ∧ Ext w w' ∧ St w' M60 F [Blk b65 (.cells #[.bool t39.2.1.Leaf, .slice A50 t39.2.1.Keys.length c51, .slice A53 t39.2.1.Kids.length c54, .slice A56 t39.2.1.Rows.length c57] 26 (0, 0)), Blk b62 (.cells #[.bool t39.1.Leaf, .slice A41 t39.1.Keys.length c42, .slice A44 t39.1.Kids.length c45, .slice A47 t39.1.Rows.length c48] 26 (0, 0)), Blk b1 (.cells #[.bool a0.Leaf, .slice A0_0 a0.Keys.length c0_0, .slice A0_1 a0.Kids.length c0_1, .slice A0_2 a0.Rows.length c0_2] 26 (0, 0))]) ?_ ?_
  · have H := o78h
    rcases iteS H with ⟨hb76, H⟩ | ⟨hb76, H⟩
    · skip
      refine W_no (skF hb76) rfl ?_
      refine W_no (skF hb76) rfl ?_
      refine W_no (skF hb76) rfl ?_
      refine W_v (.bool true) (x_pick (k := true) (congrArg Value.bool hb76) rfl) rfl ?_
      refine Wl_nil ?_
      exact ⟨true, Option.some.inj H, ⟨rfl, rfl, rfl, rfl, rfl, rfl, trivial⟩, E, S.pick [0, 1, 2] (by decide)⟩
    · skip
      refine W_yes (congrArg some hb76) ?_
      refine W_v (.agg #[.bool t39.1.Leaf, .slice A41 t39.1.Keys.length c42, .slice A44 t39.1.Kids.length c45, .slice A47 t39.1.Rows.length c48]) (x_loadA (S.blk 1 rfl) ty26 rfl (sub_of_extract rfl) rfl rfl) rfl ?_
      refine W_yes (congrArg some hb76) ?_
      obtain ⟨t79, ht80, H⟩ := bindS H
      refine W_callF fn11 (fork_May.con k M60 A41 c42 A44 c45 A47 c48 t39.1 t79 hs43 hs46 hs49 ht80) S rfl rfl (by rintro _ _ _ ⟨_, rfl⟩; exact flat_nil) ?_
      rintro _ w81 _ Γ' E' S ⟨rfl, rfl⟩
      replace E := E.trans E'
      clear E'
      refine W_yes (congrArg some hb76) ?_
      refine W_v (.bool (!t79)) (x_not rfl) rfl ?_
      refine W_v (.bool (!t79)) (x_pick (k := false) (congrArg Value.bool hb76) rfl) rfl ?_
      refine Wl_nil ?_
      exact ⟨(!t79), Option.some.inj H, ⟨rfl, rfl, rfl, rfl, rfl, rfl, trivial⟩, E, S.pick [0, 1, 2] (by decide)⟩
  clear o78h
  rintro ρ w82 ⟨x77, rfl, hρ, E, S⟩
  rw [agree_eta hρ]
  clear hρ
  have H := o78H
  clear o78H
  refine W_v (.bool x77) (x_move rfl) rfl ?_
  obtain ⟨o91, o91h, o91H⟩ := bindS H
  clear H
  refine Wl_cutN 4 (fun ρ w' => ∃ (x90 : Bool), (x90) = o91 ∧ Agree ρ [(1, .string (bs a1)), (2, .pointer (some ⟨b1, 0, none⟩)), (5, .pointer (some ⟨b62, 0, none⟩)), (6, .pointer (some ⟨b65, 0, none⟩)), (7, .string (bs t39.2.2.1)), (57, .bool x90)] ∧ Ext w w' ∧ St w' M60 F [Blk b65 (.cells #[.bool t39.2.1.Leaf, .slice A50 t39.2.1.Keys.length c51, .slice A53 t39.2.1.Kids.length c54, .slice A56 t39.2.1.Rows.length c57] 26 (0, 0)), Blk b62 (.cells #[.bool t39.1.Leaf, .slice A41 t39.1.Keys.length c42, .slice A44 t39.1.Kids.length c45, .slice A47 t39.1.Rows.length c48] 26 (0, 0)), Blk b1 (.cells #[.bool a0.Leaf, .slice A0_0 a0.Keys.length c0_0, .slice A0_1 a0.Kids.length c0_1, .slice A0_2 a0.Rows.length c0_2] 26 (0, 0))]) ?_ ?_
  · have H := o91h
    rcases iteS H with ⟨hb89, H⟩ | ⟨hb89, H⟩
    · skip
      refine W_no (skF hb89) rfl ?_
      refine W_no (skF hb89) rfl ?_
      refine W_no (skF hb89) rfl ?_
      refine W_v (.bool true) (x_pick (k := true) (congrArg Value.bool hb89) rfl) rfl ?_
      refine Wl_nil ?_
      exact ⟨true, Option.some.inj H, ⟨rfl, rfl, rfl, rfl, rfl, rfl, trivial⟩, E, S.pick [0, 1, 2] (by decide)⟩
    · skip
      refine W_yes (congrArg some hb89) ?_
      refine W_v (.agg #[.bool t39.2.1.Leaf, .slice A50 t39.2.1.Keys.length c51, .slice A53 t39.2.1.Kids.length c54, .slice A56 t39.2.1.Rows.length c57]) (x_loadA (S.blk 0 rfl) ty26 rfl (sub_of_extract rfl) rfl rfl) rfl ?_
      refine W_yes (congrArg some hb89) ?_
      obtain ⟨t92, ht93, H⟩ := bindS H
      refine W_callF fn11 (fork_May.con k M60 A50 c51 A53 c54 A56 c57 t39.2.1 t92 hs52 hs55 hs58 ht93) S rfl rfl (by rintro _ _ _ ⟨_, rfl⟩; exact flat_nil) ?_
      rintro _ w94 _ Γ' E' S ⟨rfl, rfl⟩
      replace E := E.trans E'
      clear E'
      refine W_yes (congrArg some hb89) ?_
      refine W_v (.bool (!t92)) (x_not rfl) rfl ?_
      refine W_v (.bool (!t92)) (x_pick (k := false) (congrArg Value.bool hb89) rfl) rfl ?_
      refine Wl_nil ?_
      exact ⟨(!t92), Option.some.inj H, ⟨rfl, rfl, rfl, rfl, rfl, rfl, trivial⟩, E, S.pick [0, 1, 2] (by decide)⟩
  clear o91h
  rintro ρ w95 ⟨x90, rfl, hρ, E, S⟩
  rw [agree_eta hρ]
  clear hρ
  have H := o91H
  clear o91H
  refine W_v (.bool x90) (x_move rfl) rfl ?_
  refine Wl_cutN 6 (fun ρ w' => Agree ρ [(1, .string (bs a1)), (2, .pointer (some ⟨b1, 0, none⟩)), (5, .pointer (some ⟨b62, 0, none⟩)), (6, .pointer (some ⟨b65, 0, none⟩)), (7, .string (bs t39.2.2.1)), (64, .bool (x90 || (!(t39.1.Leaf == a0.Leaf))))] ∧ w95 = w') ?_ ?_
  · rcases boolCases x90 with hb96 | hb96
    · skip
      refine W_yes (congrArg some hb96) ?_
      refine W_v (.pointer (some ⟨b62, 0, none⟩)) (x_fieldAddr (o := 0) (off := 0) Try.underlying26 rfl ty4 rfl rfl) rfl ?_
      refine W_yes (congrArg some hb96) ?_
      refine W_v (.bool t39.1.Leaf) (x_load (S.blk 1 rfl) ty4 rfl rfl) rfl ?_
      refine W_yes (congrArg some hb96) ?_
      refine W_v (.pointer (some ⟨b1, 0, none⟩)) (x_fieldAddr (o := 0) (off := 0) Try.underlying26 rfl ty4 rfl rfl) rfl ?_
      refine W_yes (congrArg some hb96) ?_
      refine W_v (.bool a0.Leaf) (x_load (S.blk 2 rfl) ty4 rfl rfl) rfl ?_
      refine W_yes (congrArg some hb96) ?_
      refine W_v (.bool (!(t39.1.Leaf == a0.Leaf))) (x_bne Try.underlying4 rfl rfl) rfl ?_
      refine W_v (.bool (!(t39.1.Leaf == a0.Leaf))) (x_pick (k := false) (congrArg Value.bool hb96) rfl) rfl ?_
      refine Wl_nil ?_
      exact ⟨⟨rfl, rfl, rfl, rfl, rfl, (by first | rfl | (rw [hb96]; rfl) | (simp only [hb96]; rfl)), trivial⟩, rfl⟩
    · skip
      refine W_no (skF hb96) rfl ?_
      refine W_no (skF hb96) rfl ?_
      refine W_no (skF hb96) rfl ?_
      refine W_no (skF hb96) rfl ?_
      refine W_no (skF hb96) rfl ?_
      refine W_v (.bool true) (x_pick (k := true) (congrArg Value.bool hb96) rfl) rfl ?_
      refine Wl_nil ?_
      exact ⟨⟨rfl, rfl, rfl, rfl, rfl, (by first | rfl | (rw [hb96]; rfl) | (simp only [hb96]; rfl)), trivial⟩, rfl⟩
  rintro ρ _ ⟨hρ, rfl⟩
  rw [agree_eta hρ]
  clear hρ
  refine W_v (.bool (x90 || (!(t39.1.Leaf == a0.Leaf)))) (x_move rfl) rfl ?_
  refine Wl_cutN 6 (fun ρ w' => Agree ρ [(1, .string (bs a1)), (2, .pointer (some ⟨b1, 0, none⟩)), (5, .pointer (some ⟨b62, 0, none⟩)), (6, .pointer (some ⟨b65, 0, none⟩)), (7, .string (bs t39.2.2.1)), (71, .bool ((x90 || (!(t39.1.Leaf == a0.Leaf))) || (!(t39.2.1.Leaf == a0.Leaf))))] ∧ w95 = w') ?_ ?_
  · rcases boolCases (x90 || (!(t39.1.Leaf == a0.Leaf))) with hb97 | hb97
    · skip
      refine W_yes (congrArg some hb97) ?_
      refine W_v (.pointer (some ⟨b65, 0, none⟩)) (x_fieldAddr (o := 0) (off := 0) Try.underlying26 rfl ty4 rfl rfl) rfl ?_
      refine W_yes (congrArg some hb97) ?_
      refine W_v (.bool t39.2.1.Leaf) (x_load (S.blk 0 rfl) ty4 rfl rfl) rfl ?_
      refine W_yes (congrArg some hb97) ?_
      refine W_v (.pointer (some ⟨b1, 0, none⟩)) (x_fieldAddr (o := 0) (off := 0) Try.underlying26 rfl ty4 rfl rfl) rfl ?_
      refine W_yes (congrArg some hb97) ?_
      refine W_v (.bool a0.Leaf) (x_load (S.blk 2 rfl) ty4 rfl rfl) rfl ?_
      refine W_yes (congrArg some hb97) ?_
      refine W_v (.bool (!(t39.2.1.Leaf == a0.Leaf))) (x_bne Try.underlying4 rfl rfl) rfl ?_
      refine W_v (.bool (!(t39.2.1.Leaf == a0.Leaf))) (x_pick (k := false) (congrArg Value.bool hb97) rfl) rfl ?_
      refine Wl_nil ?_
      exact ⟨⟨rfl, rfl, rfl, rfl, rfl, (by first | rfl | (rw [hb97]; rfl) | (simp only [hb97]; rfl)), trivial⟩, rfl⟩
    · skip
      refine W_no (skF hb97) rfl ?_
      refine W_no (skF hb97) rfl ?_
      refine W_no (skF hb97) rfl ?_
      refine W_no (skF hb97) rfl ?_
      refine W_no (skF hb97) rfl ?_
      refine W_v (.bool true) (x_pick (k := true) (congrArg Value.bool hb97) rfl) rfl ?_
      refine Wl_nil ?_
      exact ⟨⟨rfl, rfl, rfl, rfl, rfl, (by first | rfl | (rw [hb97]; rfl) | (simp only [hb97]; rfl)), trivial⟩, rfl⟩
  rintro ρ _ ⟨hρ, rfl⟩
  rw [agree_eta hρ]
  clear hρ
  refine W_v (.bool ((x90 || (!(t39.1.Leaf == a0.Leaf))) || (!(t39.2.1.Leaf == a0.Leaf)))) (x_move rfl) rfl ?_
  refine Wl_cutN 5 (fun ρ w' => Agree ρ [(1, .string (bs a1)), (2, .pointer (some ⟨b1, 0, none⟩)), (5, .pointer (some ⟨b62, 0, none⟩)), (6, .pointer (some ⟨b65, 0, none⟩)), (7, .string (bs t39.2.2.1)), (77, .bool (((x90 || (!(t39.1.Leaf == a0.Leaf))) || (!(t39.2.1.Leaf == a0.Leaf))) || ((t39.1.Keys.length : Int) == (0 : Int))))] ∧ w95 = w') ?_ ?_
  · rcases boolCases ((x90 || (!(t39.1.Leaf == a0.Leaf))) || (!(t39.2.1.Leaf == a0.Leaf))) with hb98 | hb98
    · skip
      refine W_yes (congrArg some hb98) ?_
      refine W_v (.pointer (some ⟨b62, 1, none⟩)) (x_fieldAddr (o := 0) (off := 1) Try.underlying26 rfl ty22 rfl rfl) rfl ?_
      refine W_yes (congrArg some hb98) ?_
      refine W_v (.slice A41 t39.1.Keys.length c42) (x_load (S.blk 1 rfl) ty22 rfl rfl) rfl ?_
      refine W_yes (congrArg some hb98) ?_
      refine W_v (.int .i64 (t39.1.Keys.length : Int)) (x_len_slice (n := t39.1.Keys.length) Try.underlying22 rfl) rfl ?_
      refine W_yes (congrArg some hb98) ?_
      refine W_v (.bool ((t39.1.Keys.length : Int) == (0 : Int))) (x_ibin rfl rfl rfl rfl) rfl ?_
      refine W_v (.bool ((t39.1.Keys.length : Int) == (0 : Int))) (x_pick (k := false) (congrArg Value.bool hb98) rfl) rfl ?_
      refine Wl_nil ?_
      exact ⟨⟨rfl, rfl, rfl, rfl, rfl, (by first | rfl | (rw [hb98]; rfl) | (simp only [hb98]; rfl)), trivial⟩, rfl⟩
    · skip
      refine W_no (skF hb98) rfl ?_
      refine W_no (skF hb98) rfl ?_
      refine W_no (skF hb98) rfl ?_
      refine W_no (skF hb98) rfl ?_
      refine W_v (.bool true) (x_pick (k := true) (congrArg Value.bool hb98) rfl) rfl ?_
      refine Wl_nil ?_
      exact ⟨⟨rfl, rfl, rfl, rfl, rfl, (by first | rfl | (rw [hb98]; rfl) | (simp only [hb98]; rfl)), trivial⟩, rfl⟩
  rintro ρ _ ⟨hρ, rfl⟩
  rw [agree_eta hρ]
  clear hρ
  refine W_v (.bool (((x90 || (!(t39.1.Leaf == a0.Leaf))) || (!(t39.2.1.Leaf == a0.Leaf))) || ((t39.1.Keys.length : Int) == (0 : Int)))) (x_move rfl) rfl ?_
  refine Wl_cutN 9 (fun ρ w' => Agree ρ [(1, .string (bs a1)), (2, .pointer (some ⟨b1, 0, none⟩)), (5, .pointer (some ⟨b62, 0, none⟩)), (6, .pointer (some ⟨b65, 0, none⟩)), (7, .string (bs t39.2.2.1)), (87, .bool ((((x90 || (!(t39.1.Leaf == a0.Leaf))) || (!(t39.2.1.Leaf == a0.Leaf))) || ((t39.1.Keys.length : Int) == (0 : Int))) || (a0.Leaf && ((t39.2.1.Keys.length : Int) == (0 : Int)))))] ∧ w95 = w') ?_ ?_
  · rcases boolCases (((x90 || (!(t39.1.Leaf == a0.Leaf))) || (!(t39.2.1.Leaf == a0.Leaf))) || ((t39.1.Keys.length : Int) == (0 : Int))) with hb101 | hb101
    · skip
      refine W_yes (congrArg some hb101) ?_
      refine W_v (.pointer (some ⟨b1, 0, none⟩)) (x_fieldAddr (o := 0) (off := 0) Try.underlying26 rfl ty4 rfl rfl) rfl ?_
      refine W_yes (congrArg some hb101) ?_
      refine W_v (.bool a0.Leaf) (x_load (S.blk 2 rfl) ty4 rfl rfl) rfl ?_
      refine W_yes (congrArg some hb101) ?_
      refine W_v (.bool a0.Leaf) (x_move rfl) rfl ?_
      refine Wl_cutN 5 (fun ρ w' => Agree ρ [(1, .string (bs a1)), (2, .pointer (some ⟨b1, 0, none⟩)), (5, .pointer (some ⟨b62, 0, none⟩)), (6, .pointer (some ⟨b65, 0, none⟩)), (7, .string (bs t39.2.2.1)), (78, .bool (((x90 || (!(t39.1.Leaf == a0.Leaf))) || (!(t39.2.1.Leaf == a0.Leaf))) || ((t39.1.Keys.length : Int) == (0 : Int)))), (86, .bool (a0.Leaf && ((t39.2.1.Keys.length : Int) == (0 : Int))))] ∧ w95 = w') ?_ ?_
      · rcases boolCases a0.Leaf with hb102 | hb102
        · skip
          refine W_no (skT hb102) rfl ?_
          refine W_no (skT hb102) rfl ?_
          refine W_no (skT hb102) rfl ?_
          refine W_no (skT hb102) rfl ?_
          refine W_yes (congrArg some hb101) ?_
          refine W_v (.bool false) (x_pick (k := false) (congrArg Value.bool hb102) rfl) rfl ?_
          refine Wl_nil ?_
          exact ⟨⟨rfl, rfl, rfl, rfl, rfl, rfl, (by first | rfl | (rw [hb102]; rfl) | (simp only [hb102]; rfl)), trivial⟩, rfl⟩
        · skip
          refine W_yes (congrArg some hb102) ?_
          refine W_v (.pointer (some ⟨b65, 1, none⟩)) (x_fieldAddr (o := 0) (off := 1) Try.underlying26 rfl ty22 rfl rfl) rfl ?_
          refine W_yes (congrArg some hb102) ?_
          refine W_v (.slice A50 t39.2.1.Keys.length c51) (x_load (S.blk 0 rfl) ty22 rfl rfl) rfl ?_
          refine W_yes (congrArg some hb102) ?_
          refine W_v (.int .i64 (t39.2.1.Keys.length : Int)) (x_len_slice (n := t39.2.1.Keys.length) Try.underlying22 rfl) rfl ?_
          refine W_yes (congrArg some hb102) ?_
          refine W_v (.bool ((t39.2.1.Keys.length : Int) == (0 : Int))) (x_ibin rfl rfl rfl rfl) rfl ?_
          refine W_yes (congrArg some hb101) ?_
          refine W_v (.bool ((t39.2.1.Keys.length : Int) == (0 : Int))) (x_pick (k := true) (congrArg Value.bool hb102) rfl) rfl ?_
          refine Wl_nil ?_
          exact ⟨⟨rfl, rfl, rfl, rfl, rfl, rfl, (by first | rfl | (rw [hb102]; rfl) | (simp only [hb102]; rfl)), trivial⟩, rfl⟩
      rintro ρ _ ⟨hρ, rfl⟩
      rw [agree_eta hρ]
      clear hρ
      refine W_v (.bool (a0.Leaf && ((t39.2.1.Keys.length : Int) == (0 : Int)))) (x_pick (k := false) (congrArg Value.bool hb101) rfl) rfl ?_
      refine Wl_nil ?_
      exact ⟨⟨rfl, rfl, rfl, rfl, rfl, (by first | rfl | (rw [hb101]; rfl) | (simp only [hb101]; rfl)), trivial⟩, rfl⟩
    · skip
      refine W_no (skF hb101) rfl ?_
      refine W_no (skF hb101) rfl ?_
      refine W_no (skF hb101) rfl ?_
      refine W_no (rfl) rfl ?_
      refine W_no (rfl) rfl ?_
      refine W_no (rfl) rfl ?_
      refine W_no (rfl) rfl ?_
      refine W_no (skF hb101) rfl ?_
      refine W_v (.bool true) (x_pick (k := true) (congrArg Value.bool hb101) rfl) rfl ?_
      refine Wl_nil ?_
      exact ⟨⟨rfl, rfl, rfl, rfl, rfl, (by first | rfl | (rw [hb101]; rfl) | (simp only [hb101]; rfl)), trivial⟩, rfl⟩
  rintro ρ _ ⟨hρ, rfl⟩
  rw [agree_eta hρ]
  clear hρ
  refine Wl_nil ?_
  refine tn ?_
  rcases iteS H with ⟨hb103, H⟩ | ⟨hb103, H⟩
  · refine Wp_cond_true (congrArg Value.bool hb103) ?_
    refine Wp_seq ?_
    refine Wp_region_lit ?_
    refine W_v (.bool false) (x_assign rfl) rfl ?_
    refine Wl_nil ?_
    refine tn ?_
    refine Wp_ret ?_
    refine tr (?_)
    obtain rfl := Option.some.inj H
    exact ⟨_, _, _, fun w1 e1 => run_resR (vs := [.bool false]) (FA.cons (rfl) (FA.nil)), HM, E, S.pick [] (by decide), ⟨rfl, rfl⟩⟩
  refine Wp_cond_false (congrArg Value.bool hb103) ?_
  refine Wp_skip ?_
  refine tn ?_
  refine Wp_seq ?_
  refine Wp_region_lit ?_
  refine W_v (.agg #[.bool t39.2.1.Leaf, .slice A50 t39.2.1.Keys.length c51, .slice A53 t39.2.1.Kids.length c54, .slice A56 t39.2.1.Rows.length c57]) (x_loadA (S.blk 0 rfl) ty26 rfl (sub_of_extract rfl) rfl rfl) rfl ?_
  refine W_alloc S #[.bool false, .slice none 0 0, .slice none 0 0, .slice none 0 0] ty26 rfl rfl ?_
  intro b104 w105 E' S
  replace E := E.trans E'
  clear E'
  refine W_store S 0 rfl ty26 rfl rfl [.bool t39.2.1.Leaf, .slice A50 t39.2.1.Keys.length c51, .slice A53 t39.2.1.Kids.length c54, .slice A56 t39.2.1.Rows.length c57] rfl rfl rfl #[.bool t39.2.1.Leaf, .slice A50 t39.2.1.Keys.length c51, .slice A53 t39.2.1.Kids.length c54, .slice A56 t39.2.1.Rows.length c57] rfl rfl ?_
  intro w107 E' S
  replace E := E.trans E'
  clear E'
  refine Wl_nil ?_
  refine tn ?_
  refine Wp_seq ?_
  refine Wp_seq ?_
  refine Wp_region_lit ?_
  refine W_v (.string (bs a1)) (x_move rfl) rfl ?_
  refine W_v (.string (bs t39.2.2.1)) (x_move rfl) rfl ?_
  refine W_v (.bool (sbin .lss a1 t39.2.2.1)) (x_sbin rfl rfl rfl) rfl ?_
  refine Wl_nil ?_
  refine tn ?_
  obtain ⟨o123, o123h, o123H⟩ := bindS H
  refine Wp_cut (fun ρ w' => ∃ (x110 : Bool) (x111 : List Str) (x115 : List Int) (x119 : List Int) (A112 : Option Addr) (c113 : Nat) (A116 : Option Addr) (c117 : Nat) (A120 : Option Addr) (c121 : Nat), (x110, x111, x115, x119) = o123 ∧ Agree ρ [(1, .string (bs a1)), (2, .pointer (some ⟨b1, 0, none⟩)), (5, .pointer (some ⟨b62, 0, none⟩)), (6, .pointer (some ⟨b65, 0, none⟩)), (7, .string (bs t39.2.2.1)), (9, .pointer (some ⟨b104, 0, none⟩))] ∧ Ext w w' ∧ St w' M60 F [Blk b104 (.cells #[.bool x110, .slice A112 x111.length c113, .slice A116 x115.length c117, .slice A120 x119.length c121] 26 (0, 0)), Blk b65 (.cells #[.bool t39.2.1.Leaf, .slice A50 t39.2.1.Keys.length c51, .slice A53 t39.2.1.Kids.length c54, .slice A56 t39.2.1.Rows.length c57] 26 (0, 0)), Blk b62 (.cells #[.bool t39.1.Leaf, .slice A41 t39.1.Keys.length c42, .slice A44 t39.1.Kids.length c45, .slice A47 t39.1.Rows.length c48] 26 (0, 0)), Blk b1 (.cells #[.bool a0.Leaf, .slice A0_0 a0.Keys.length c0_0, .slice A0_1 a0.Kids.length c0_1, .slice A0_2 a0.Rows.length c0_2] 26 (0, 0))] ∧ SlR rStr M60 (.slice A112 x111.length c113) x111 ∧ SlR (rInt .i64) M60 (.slice A116 x115.length c117) x115 ∧ SlR (rInt .u64) M60 (.slice A120 x119.length c121) x119) ?_ ?_
  · clear o123H
    have H := o123h
    clear o123h
    rcases iteS H with ⟨hb124, H⟩ | ⟨hb124, H⟩
    · refine Wp_cond_true (congrArg Value.bool hb124) ?_
      refine Wp_region_lit ?_
      refine W_v (.agg #[.bool t39.1.Leaf, .slice A41 t39.1.Keys.length c42, .slice A44 t39.1.Kids.length c45, .slice A47 t39.1.Rows.length c48]) (x_loadA (S.blk 2 rfl) ty26 rfl (sub_of_extract rfl) rfl rfl) rfl ?_
      refine W_store S 0 rfl ty26 rfl rfl [.bool t39.1.Leaf, .slice A41 t39.1.Keys.length c42, .slice A44 t39.1.Kids.length c45, .slice A47 t39.1.Rows.length c48] rfl rfl rfl #[.bool t39.1.Leaf, .slice A41 t39.1.Keys.length c42, .slice A44 t39.1.Kids.length c45, .slice A47 t39.1.Rows.length c48] rfl rfl ?_
      intro w125 E' S
      replace E := E.trans E'
      clear E'
      refine Wl_nil ?_
      refine tn ?_
      exact ⟨t39.1.Leaf, t39.1.Keys, t39.1.Kids, t39.1.Rows, A41, c42, A44, c45, A47, c48, Option.some.inj H, ⟨rfl, rfl, rfl, rfl, rfl, rfl, trivial⟩, E, S.pick [0, 1, 2, 3] (by decide), hs43, hs46, hs49⟩
    refine Wp_cond_false (congrArg Value.bool hb124) ?_
    refine Wp_skip ?_
    refine tn ?_
    exact ⟨t39.2.1.Leaf, t39.2.1.Keys, t39.2.1.Kids, t39.2.1.Rows, A50, c51, A53, c54, A56, c57, Option.some.inj H, ⟨rfl, rfl, rfl, rfl, rfl, rfl, trivial⟩, E, S.pick [0, 1, 2, 3] (by decide), hs52, hs55, hs58⟩
  clear o123h
  rintro ρ w126 ⟨x110, x111, x115, x119, A112, c113, A116, c117, A120, c121, rfl, hρ, E, S, hs114, hs118, hs122⟩
  rw [agree_eta hρ]
  clear hρ
  have H := o123H
  clear o123H
  refine tn ?_
  refine Wp_seq ?_
  refine Wp_seq ?_
  refine Wp_region_lit ?_
  refine W_v (.pointer (some ⟨b1, 0, none⟩)) (x_fieldAddr (o := 0) (off := 0) Try.underlying26 rfl ty4 rfl rfl) rfl ?_
  refine W_v (.bool a0.Leaf) (x_load (S.blk 3 rfl) ty4 rfl rfl) rfl ?_
  refine Wl_nil ?_
  refine tn ?_
  rcases iteS H with ⟨hb127, H⟩ | ⟨hb127, H⟩
  · refine Wp_cond_true (congrArg Value.bool hb127) ?_
    refine Wp_seq ?_
    refine Wp_region_any (S := fun w' => ∃ Mx, M60.le Mx ∧ St w' Mx F [Blk b104 (.cells #[.bool x110, .slice A112 x111.length c113, .slice A116 x115.length c117, .slice A120 x119.length c121] 26 (0, 0)), Blk b65 (.cells #[.bool t39.2.1.Leaf, .slice A50 t39.2.1.Keys.length c51, .slice A53 t39.2.1.Kids.length c54, .slice A56 t39.2.1.Rows.length c57] 26 (0, 0)), Blk b62 (.cells #[.bool t39.1.Leaf, .slice A41 t39.1.Keys.length c42, .slice A44 t39.1.Kids.length c45, .slice A47 t39.1.Rows.length c48] 26 (0, 0)), Blk b1 (.cells #[.bool a0.Leaf, .slice A0_0 a0.Keys.length c0_0, .slice A0_1 a0.Kids.length c0_1, .slice A0_2 a0.Rows.length c0_2] 26 (0, 0))]) mixed ?_
    intro w1123 hw1124 E'
    replace S := S.heap hw1124
    replace E := E.trans E'
    clear E'
    refine Wa_take (i := 1) rfl (by kernel_rfl) rfl rfl (.pointer (some ⟨b62, 1, none⟩)) rfl (fun w' h' => x_fieldAddr (o := 0) (off := 1) Try.underlying26 rfl ty22 rfl rfl) (⟨M60, Hp.le_refl M60, S.pick [0, 1, 2, 3] (by decide)⟩) ?_
    refine Wa_take (i := 2) rfl (by kernel_rfl) rfl rfl (.slice A41 t39.1.Keys.length c42) rfl (fun w' h' => x_load (cls_blk h' 2 rfl) ty22 rfl rfl) (⟨M60, Hp.le_refl M60, S.pick [0, 1, 2, 3] (by decide)⟩) ?_
    refine Wa_take (i := 4) rfl (by kernel_rfl) rfl rfl (.pointer (some ⟨b65, 1, none⟩)) rfl (fun w' h' => x_fieldAddr (o := 0) (off := 1) Try.underlying26 rfl ty22 rfl rfl) (⟨M60, Hp.le_refl M60, S.pick [0, 1, 2, 3] (by decide)⟩) ?_
    refine Wa_take (i := 5) rfl (by kernel_rfl) rfl rfl (.slice A50 t39.2.1.Keys.length c51) rfl (fun w' h' => x_load (cls_blk h' 1 rfl) ty22 rfl rfl) (⟨M60, Hp.le_refl M60, S.pick [0, 1, 2, 3] (by decide)⟩) ?_
    refine Wa_take (i := 8) rfl (by kernel_rfl) rfl rfl (.pointer (some ⟨b62, 3, none⟩)) rfl (fun w' h' => x_fieldAddr (o := 0) (off := 3) Try.underlying26 rfl ty24 rfl rfl) (⟨M60, Hp.le_refl M60, S.pick [0, 1, 2, 3] (by decide)⟩) ?_
    refine Wa_take (i := 9) rfl (by kernel_rfl) rfl rfl (.slice A47 t39.1.Rows.length c48) rfl (fun w' h' => x_load (cls_blk h' 2 rfl) ty24 rfl rfl) (⟨M60, Hp.le_refl M60, S.pick [0, 1, 2, 3] (by decide)⟩) ?_
    refine Wa_take (i := 11) rfl (by kernel_rfl) rfl rfl (.pointer (some ⟨b65, 3, none⟩)) rfl (fun w' h' => x_fieldAddr (o := 0) (off := 3) Try.underlying26 rfl ty24 rfl rfl) (⟨M60, Hp.le_refl M60, S.pick [0, 1, 2, 3] (by decide)⟩) ?_
    refine Wa_take (i := 12) rfl (by kernel_rfl) rfl rfl (.slice A56 t39.2.1.Rows.length c57) rfl (fun w' h' => x_load (cls_blk h' 1 rfl) ty24 rfl rfl) (⟨M60, Hp.le_refl M60, S.pick [0, 1, 2, 3] (by decide)⟩) ?_
    obtain ⟨o1917, o1917h, o1917H⟩ := bindS H
    clear H
    refine Wa_join (fun ρ w' => ∃ (x1411 : List Str) (x1415 : List Int) (A1412 : Option Addr) (c1413 : Nat) (A1416 : Option Addr) (c1417 : Nat) (b1409 : Nat), (x1411, x1415) = o1917 ∧ Agree ρ [(1, .string (bs a1)), (2, .pointer (some ⟨b1, 0, none⟩)), (5, .pointer (some ⟨b62, 0, none⟩)), (6, .pointer (some ⟨b65, 0, none⟩)), (7, .string (bs t39.2.2.1)), (9, .pointer (some ⟨b104, 0, none⟩)), (10, .pointer (some ⟨b1409, 0, none⟩)), (109, .agg #[.bool true, .slice A1412 x1411.length c1413, .slice none 0 0, .slice A1416 x1415.length c1417])] ∧ Ext w w' ∧ St w' M60 F [Blk b1409 (.cells #[.bool false, .slice none 0 0, .slice none 0 0, .slice none 0 0] 26 (0, 0)), Row (rInt .u64) 41 (.slice A1416 x1415.length c1417) x1415, Row rStr 9 (.slice A1412 x1411.length c1413) x1411, Blk b104 (.cells #[.bool x110, .slice A112 x111.length c113, .slice A116 x115.length c117, .slice A120 x119.length c121] 26 (0, 0)), Blk b65 (.cells #[.bool t39.2.1.Leaf, .slice A50 t39.2.1.Keys.length c51, .slice A53 t39.2.1.Kids.length c54, .slice A56 t39.2.1.Rows.length c57] 26 (0, 0)), Blk b62 (.cells #[.bool t39.1.Leaf, .slice A41 t39.1.Keys.length c42, .slice A44 t39.1.Kids.length c45, .slice A47 t39.1.Rows.length c48] 26 (0, 0)), Blk b1 (.cells #[.bool a0.Leaf, .slice A0_0 a0.Keys.length c0_0, .slice A0_1 a0.Kids.length c0_1, .slice A0_2 a0.Rows.length c0_2] 26 (0, 0))]) 1 (Ls 17 [0, 1, 2, 3, 4, 5, 6, 7, 8, 9, 10, 11, 12, 13, 14, 15]) ?_ ?_
    rotate_left
    · intro hq1937
      clear o1917H
      refine Wa_join (fun ρ w' => ∃ (x1398 : List Str) (x1402 : List Int) (A1399 : Option Addr) (c1400 : Nat) (A1403 : Option Addr) (c1404 : Nat), some (x1398, x1402) = some o1917 ∧ Agree ρ [(1, .string (bs a1)), (2, .pointer (some ⟨b1, 0, none⟩)), (5, .pointer (some ⟨b62, 0, none⟩)), (6, .pointer (some ⟨b65, 0, none⟩)), (7, .string (bs t39.2.2.1)), (9, .pointer (some ⟨b104, 0, none⟩)), (109, .agg #[.bool true, .slice A1399 x1398.length c1400, .slice none 0 0, .slice A1403 x1402.length c1404])] ∧ Ext w w' ∧ St w' M60 F [Row (rInt .u64) 41 (.slice A1403 x1402.length c1404) x1402, Row rStr 9 (.slice A1399 x1398.length c1400) x1398, Blk b104 (.cells #[.bool x110, .slice A112 x111.length c113, .slice A116 x115.length c117, .slice A120 x119.length c121] 26 (0, 0)), Blk b65 (.cells #[.bool t39.2.1.Leaf, .slice A50 t39.2.1.Keys.length c51, .slice A53 t39.2.1.Kids.length c54, .slice A56 t39.2.1.Rows.length c57] 26 (0, 0)), Blk b62 (.cells #[.bool t39.1.Leaf, .slice A41 t39.1.Keys.length c42, .slice A44 t39.1.Kids.length c45, .slice A47 t39.1.Rows.length c48] 26 (0, 0)), Blk b1 (.cells #[.bool a0.Leaf, .slice A0_0 a0.Keys.length c0_0, .slice A0_1 a0.Kids.length c0_1, .slice A0_2 a0.Rows.length c0_2] 26 (0, 0))]) 2 (Ls 17 [0, 1, 2, 3, 4, 5, 6, 7, 8, 9, 10, 11, 12, 13, 14]) ?_ ?_
      · clear o1917h
        rintro ρ w1938 ⟨x1398, x1402, A1399, c1400, A1403, c1404, H, hρ, E, S⟩
        rw [agree_eta hρ]
        clear hρ
        refine Wa_solo (i := 15) rfl (by kernel_rfl) ?_
        refine W_alloc S #[.bool false, .slice none 0 0, .slice none 0 0, .slice none 0 0] ty26 rfl rfl ?_
        intro b1939 w1940 E' S
        replace E := E.trans E'
        clear E'
        refine Wl_nil (on_n ⟨⟨M60, Hp.le_refl M60, S.pick [3, 4, 5, 6] (by decide)⟩, ?_⟩)
        exact hq1937 _ _ ⟨x1398, x1402, A1399, c1400, A1403, c1404, b1939, Option.some.inj H, ⟨rfl, rfl, rfl, rfl, rfl, rfl, rfl, rfl, trivial⟩, E, S.pick [0, 1, 2, 3, 4, 5, 6] (by decide)⟩
      intro hq1936
      refine Wa_join (fun ρ w' => ∃ (x1382 : List Str) (x1386 : List Int) (A1383 : Option Addr) (c1384 : Nat) (A1387 : Option Addr) (c1388 : Nat) (b1380 : Nat), (if x1386.length + t39.2.1.Rows.length ≤ 17592186044416 then some (x1382, (x1386 ++ t39.2.1.Rows)) else none) = some o1917 ∧ Agree ρ [(1, .string (bs a1)), (2, .pointer (some ⟨b1, 0, none⟩)), (5, .pointer (some ⟨b62, 0, none⟩)), (6, .pointer (some ⟨b65, 0, none⟩)), (7, .string (bs t39.2.2.1)), (9, .pointer (some ⟨b104, 0, none⟩)), (10, .pointer (some ⟨b1380, 0, none⟩)), (101, .slice A1383 x1382.length c1384), (105, .slice A1387 x1386.length c1388), (107, .slice A56 t39.2.1.Rows.length c57)] ∧ Ext w w' ∧ St w' M60 F [Blk b1380 (.cells #[.bool false, .slice none 0 0, .slice none 0 0, .slice none 0 0] 26 (0, 0)), Row (rInt .u64) 41 (.slice A1387 x1386.length c1388) x1386, Row rStr 9 (.slice A1383 x1382.length c1384) x1382, Blk b104 (.cells #[.bool x110, .slice A112 x111.length c113, .slice A116 x115.length c117, .slice A120 x119.length c121] 26 (0, 0)), Blk b65 (.cells #[.bool t39.2.1.Leaf, .slice A50 t39.2.1.Keys.length c51, .slice A53 t39.2.1.Kids.length c54, .slice A56 t39.2.1.Rows.length c57] 26 (0, 0)), Blk b62 (.cells #[.bool t39.1.Leaf, .slice A41 t39.1.Keys.length c42, .slice A44 t39.1.Kids.length c45, .slice A47 t39.1.Rows.length c48] 26 (0, 0)), Blk b1 (.cells #[.bool a0.Leaf, .slice A0_0 a0.Keys.length c0_0, .slice A0_1 a0.Kids.length c0_1, .slice A0_2 a0.Rows.length c0_2] 26 (0, 0))]) 3 (Ls 17 [0, 1, 2, 3, 4, 5, 6, 7, 8, 9, 10, 11, 12, 15]) ?_ ?_
      · clear o1917h
        rintro ρ w1942 ⟨x1382, x1386, A1383, c1384, A1387, c1388, b1380, H, hρ, E, S⟩
        rw [agree_eta hρ]
        clear hρ
        refine Wa_solo (i := 13) rfl (by kernel_rfl) ?_
        obtain ⟨p1943, H⟩ := chkS H
        obtain ⟨src1944, hs1945, hC1946⟩ := src_of_read (P := Try.prog) (ρ := (rInt .u64)) (l := t39.2.1.Rows) (SlR.world hs58 S) (by decide)
        refine W_append S 1 rfl rfl rfl Try.underlying24 (.inl Try.underlying24) ty41 rfl (by decide) (by decide) hs1945 hC1946 rfl (by omega) rfl ?_
        intro v1947 w1948 E' S
        replace E := E.trans E'
        clear E'
        obtain ⟨A1949, c1950, rfl, _⟩ := (S.row_read 1 rfl).form
        refine Wl_nil (on_n ⟨⟨M60, Hp.le_refl M60, S.pick [3, 4, 5, 6] (by decide)⟩, ?_⟩)
        refine Wa_take (i := 14) rfl (by kernel_rfl) rfl rfl (.agg #[.bool true, .slice A1383 x1382.length c1384, .slice none 0 0, .slice A1949 (x1386 ++ t39.2.1.Rows).length c1950]) rfl (fun w' h' => x_build2 (pl := [(0, 1), (1, 1), (2, 1), (3, 1)]) #[.bool true, .slice A1383 x1382.length c1384, .slice none 0 0, .slice A1949 (x1386 ++ t39.2.1.Rows).length c1950] Try.underlying26 ty26 (by kernel_rfl) rfl (by kernel_rfl)) (⟨M60, Hp.le_refl M60, S.pick [3, 4, 5, 6] (by decide)⟩) ?_
        exact hq1937 _ _ ⟨x1382, (x1386 ++ t39.2.1.Rows), A1383, c1384, A1949, c1950, b1380, Option.some.inj H, ⟨rfl, rfl, rfl, rfl, rfl, rfl, rfl, rfl, trivial⟩, E, S.pick [0, 1, 2, 3, 4, 5, 6] (by decide)⟩
      intro hq1935
      refine Wa_join (fun ρ w' => ∃ (x1364 : List Str) (x1368 : List Int) (A1365 : Option Addr) (c1366 : Nat) (A1369 : Option Addr) (c1370 : Nat) (b1362 : Nat), (if x1368.length + t39.1.Rows.length ≤ 17592186044416 then (if (x1368 ++ t39.1.Rows).length + t39.2.1.Rows.length ≤ 17592186044416 then some (x1364, ((x1368 ++ t39.1.Rows) ++ t39.2.1.Rows)) else none) else none) = some o1917 ∧ Agree ρ [(1, .string (bs a1)), (2, .pointer (some ⟨b1, 0, none⟩)), (5, .pointer (some ⟨b62, 0, none⟩)), (6, .pointer (some ⟨b65, 0, none⟩)), (7, .string (bs t39.2.2.1)), (9, .pointer (some ⟨b104, 0, none⟩)), (10, .pointer (some ⟨b1362, 0, none⟩)), (101, .slice A1365 x1364.length c1366), (102, .slice A1369 x1368.length c1370), (104, .slice A47 t39.1.Rows.length c48), (107, .slice A56 t39.2.1.Rows.length c57)] ∧ Ext w w' ∧ St w' M60 F [Blk b1362 (.cells #[.bool false, .slice none 0 0, .slice none 0 0, .slice none 0 0] 26 (0, 0)), Row (rInt .u64) 41 (.slice A1369 x1368.length c1370) x1368, Row rStr 9 (.slice A1365 x1364.length c1366) x1364, Blk b104 (.cells #[.bool x110, .slice A112 x111.length c113, .slice A116 x115.length c117, .slice A120 x119.length c121] 26 (0, 0)), Blk b65 (.cells #[.bool t39.2.1.Leaf, .slice A50 t39.2.1.Keys.length c51, .slice A53 t39.2.1.Kids.length c54, .slice A56 t39.2.1.Rows.length c57] 26 (0, 0)), Blk b62 (.cells #[.bool t39.1.Leaf, .slice A41 t39.1.Keys.length c42, .slice A44 t39.1.Kids.length c45, .slice A47 t39.1.Rows.length c48] 26 (0, 0)), Blk b1 (.cells #[.bool a0.Leaf, .slice A0_0 a0.Keys.length c0_0, .slice A0_1 a0.Kids.length c0_1, .slice A0_2 a0.Rows.length c0_2] 26 (0, 0))]) 4 (Ls 17 [0, 1, 2, 3, 4, 5, 6, 7, 8, 9, 11, 12, 15]) ?_ ?_
      · clear o1917h
        rintro ρ w1951 ⟨x1364, x1368, A1365, c1366, A1369, c1370, b1362, H, hρ, E, S⟩
        rw [agree_eta hρ]
        clear hρ
        refine Wa_solo (i := 10) rfl (by kernel_rfl) ?_
        obtain ⟨p1952, H⟩ := chkS H
        obtain ⟨src1953, hs1954, hC1955⟩ := src_of_read (P := Try.prog) (ρ := (rInt .u64)) (l := t39.1.Rows) (SlR.world hs49 S) (by decide)
        refine W_append S 1 rfl rfl rfl Try.underlying24 (.inl Try.underlying24) ty41 rfl (by decide) (by decide) hs1954 hC1955 rfl (by omega) rfl ?_
        intro v1956 w1957 E' S
        replace E := E.trans E'
        clear E'
        obtain ⟨A1958, c1959, rfl, _⟩ := (S.row_read 1 rfl).form
        refine Wl_nil (on_n ⟨⟨M60, Hp.le_refl M60, S.pick [3, 4, 5, 6] (by decide)⟩, ?_⟩)
        exact hq1935 _ _ ⟨x1364, (x1368 ++ t39.1.Rows), A1365, c1366, A1958, c1959, b1362, H, ⟨rfl, rfl, rfl, rfl, rfl, rfl, rfl, rfl, rfl, rfl, trivial⟩, E, S.pick [0, 1, 2, 3, 4, 5, 6] (by decide)⟩
      intro hq1934
      refine Wa_join (fun ρ w' => ∃ (x1343 : List Str) (x1347 : List Int) (A1344 : Option Addr) (c1345 : Nat) (A1348 : Option Addr) (c1349 : Nat), (if x1347.length + t39.2.1.Rows.length ≤ 17592186044416 then some (x1343, (x1347 ++ t39.2.1.Rows)) else none) = some o1917 ∧ Agree ρ [(1, .string (bs a1)), (2, .pointer (some ⟨b1, 0, none⟩)), (5, .pointer (some ⟨b62, 0, none⟩)), (6, .pointer (some ⟨b65, 0, none⟩)), (7, .string (bs t39.2.2.1)), (9, .pointer (some ⟨b104, 0, none⟩)), (101, .slice A1344 x1343.length c1345), (105, .slice A1348 x1347.length c1349), (107, .slice A56 t39.2.1.Rows.length c57)] ∧ Ext w w' ∧ St w' M60 F [Row (rInt .u64) 41 (.slice A1348 x1347.length c1349) x1347, Row rStr 9 (.slice A1344 x1343.length c1345) x1343, Blk b104 (.cells #[.bool x110, .slice A112 x111.length c113, .slice A116 x115.length c117, .slice A120 x119.length c121] 26 (0, 0)), Blk b65 (.cells #[.bool t39.2.1.Leaf, .slice A50 t39.2.1.Keys.length c51, .slice A53 t39.2.1.Kids.length c54, .slice A56 t39.2.1.Rows.length c57] 26 (0, 0)), Blk b62 (.cells #[.bool t39.1.Leaf, .slice A41 t39.1.Keys.length c42, .slice A44 t39.1.Kids.length c45, .slice A47 t39.1.Rows.length c48] 26 (0, 0)), Blk b1 (.cells #[.bool a0.Leaf, .slice A0_0 a0.Keys.length c0_0, .slice A0_1 a0.Kids.length c0_1, .slice A0_2 a0.Rows.length c0_2] 26 (0, 0))]) 4 (Ls 17 [0, 1, 2, 3, 4, 5, 6, 7, 8, 9, 10, 11, 12]) ?_ ?_
      · clear o1917h
        rintro ρ w1960 ⟨x1343, x1347, A1344, c1345, A1348, c1349, H, hρ, E, S⟩
        rw [agree_eta hρ]
        clear hρ
        refine Wa_oneOf (rs := [13, 15]) (by kernel_rfl) (by decide) ?_
        simp only [List.forall_mem_cons, List.not_mem_nil, false_implies, implies_true, and_true]
        refine ⟨?_, ?_⟩
        · refine ⟨_, rfl, ?_⟩
          obtain ⟨p1961, H⟩ := chkS H
          obtain ⟨src1962, hs1963, hC1964⟩ := src_of_read (P := Try.prog) (ρ := (rInt .u64)) (l := t39.2.1.Rows) (SlR.world hs58 S) (by decide)
          refine W_append S 0 rfl rfl rfl Try.underlying24 (.inl Try.underlying24) ty41 rfl (by decide) (by decide) hs1963 hC1964 rfl (by omega) rfl ?_
          intro v1965 w1966 E' S
          replace E := E.trans E'
          clear E'
          obtain ⟨A1967, c1968, rfl, _⟩ := (S.row_read 0 rfl).form
          refine Wl_nil (on_n ⟨⟨M60, Hp.le_refl M60, S.pick [2, 3, 4, 5] (by decide)⟩, ?_⟩)
          refine Wa_take (i := 14) rfl (by kernel_rfl) rfl rfl (.agg #[.bool true, .slice A1344 x1343.length c1345, .slice none 0 0, .slice A1967 (x1347 ++ t39.2.1.Rows).length c1968]) rfl (fun w' h' => x_build2 (pl := [(0, 1), (1, 1), (2, 1), (3, 1)]) #[.bool true, .slice A1344 x1343.length c1345, .slice none 0 0, .slice A1967 (x1347 ++ t39.2.1.Rows).length c1968] Try.underlying26 ty26 (by kernel_rfl) rfl (by kernel_rfl)) (⟨M60, Hp.le_refl M60, S.pick [2, 3, 4, 5] (by decide)⟩) ?_
          exact hq1936 _ _ ⟨x1343, (x1347 ++ t39.2.1.Rows), A1344, c1345, A1967, c1968, H, ⟨rfl, rfl, rfl, rfl, rfl, rfl, rfl, trivial⟩, E, S.pick [0, 1, 2, 3, 4, 5] (by decide)⟩
        · refine ⟨_, rfl, ?_⟩
          refine W_alloc S #[.bool false, .slice none 0 0, .slice none 0 0, .slice none 0 0] ty26 rfl rfl ?_
          intro b1969 w1970 E' S
          replace E := E.trans E'
          clear E'
          refine Wl_nil (on_n ⟨⟨M60, Hp.le_refl M60, S.pick [3, 4, 5, 6] (by decide)⟩, ?_⟩)
          exact hq1935 _ _ ⟨x1343, x1347, A1344, c1345, A1348, c1349, b1969, H, ⟨rfl, rfl, rfl, rfl, rfl, rfl, rfl, rfl, rfl, rfl, trivial⟩, E, S.pick [0, 1, 2, 3, 4, 5, 6] (by decide)⟩
      intro hq1933
      refine Wa_join (fun ρ w' => ∃ (x1327 : List Str) (x1331 : List Int) (A1328 : Option Addr) (c1329 : Nat) (A1332 : Option Addr) (c1333 : Nat) (b1325 : Nat), (if x1327.length + t39.2.1.Keys.length ≤ 8796093022208 then (if x1331.length + t39.1.Rows.length ≤ 17592186044416 then (if (x1331 ++ t39.1.Rows).length + t39.2.1.Rows.length ≤ 17592186044416 then some ((x1327 ++ t39.2.1.Keys), ((x1331 ++ t39.1.Rows) ++ t39.2.1.Rows)) else none) else none) else none) = some o1917 ∧ Agree ρ [(1, .string (bs a1)), (2, .pointer (some ⟨b1, 0, none⟩)), (5, .pointer (some ⟨b62, 0, none⟩)), (6, .pointer (some ⟨b65, 0, none⟩)), (7, .string (bs t39.2.2.1)), (9, .pointer (some ⟨b104, 0, none⟩)), (10, .pointer (some ⟨b1325, 0, none⟩)), (98, .slice A1328 x1327.length c1329), (100, .slice A50 t39.2.1.Keys.length c51), (102, .slice A1332 x1331.length c1333), (104, .slice A47 t39.1.Rows.length c48), (107, .slice A56 t39.2.1.Rows.length c57)] ∧ Ext w w' ∧ St w' M60 F [Blk b1325 (.cells #[.bool false, .slice none 0 0, .slice none 0 0, .slice none 0 0] 26 (0, 0)), Row (rInt .u64) 41 (.slice A1332 x1331.length c1333) x1331, Row rStr 9 (.slice A1328 x1327.length c1329) x1327, Blk b104 (.cells #[.bool x110, .slice A112 x111.length c113, .slice A116 x115.length c117, .slice A120 x119.length c121] 26 (0, 0)), Blk b65 (.cells #[.bool t39.2.1.Leaf, .slice A50 t39.2.1.Keys.length c51, .slice A53 t39.2.1.Kids.length c54, .slice A56 t39.2.1.Rows.length c57] 26 (0, 0)), Blk b62 (.cells #[.bool t39.1.Leaf, .slice A41 t39.1.Keys.length c42, .slice A44 t39.1.Kids.length c45, .slice A47 t39.1.Rows.length c48] 26 (0, 0)), Blk b1 (.cells #[.bool a0.Leaf, .slice A0_0 a0.Keys.length c0_0, .slice A0_1 a0.Kids.length c0_1, .slice A0_2 a0.Rows.length c0_2] 26 (0, 0))]) 5 (Ls 17 [0, 1, 2, 3, 4, 5, 7, 8, 9, 11, 12, 15]) ?_ ?_
      · clear o1917h
        rintro ρ w1972 ⟨x1327, x1331, A1328, c1329, A1332, c1333, b1325, H, hρ, E, S⟩
        rw [agree_eta hρ]
        clear hρ
        refine Wa_solo (i := 6) rfl (by kernel_rfl) ?_
        obtain ⟨p1973, H⟩ := chkS H
        obtain ⟨src1974, hs1975, hC1976⟩ := src_of_read (P := Try.prog) (ρ := rStr) (l := t39.2.1.Keys) (SlR.world hs52 S) (by decide)
        refine W_append S 2 rfl rfl rfl Try.underlying22 (.inl Try.underlying22) ty9 rfl (by decide) (by decide) hs1975 hC1976 rfl (by omega) rfl ?_
        intro v1977 w1978 E' S
        replace E := E.trans E'
        clear E'
        obtain ⟨A1979, c1980, rfl, _⟩ := (S.row_read 2 rfl).form
        refine Wl_nil (on_n ⟨⟨M60, Hp.le_refl M60, S.pick [3, 4, 5, 6] (by decide)⟩, ?_⟩)
        exact hq1934 _ _ ⟨(x1327 ++ t39.2.1.Keys), x1331, A1979, c1980, A1332, c1333, b1325, H, ⟨rfl, rfl, rfl, rfl, rfl, rfl, rfl, rfl, rfl, rfl, rfl, trivial⟩, E, S.pick [0, 1, 2, 3, 4, 5, 6] (by decide)⟩
      intro hq1932
      refine Wa_join (fun ρ w' => ∃ (x1318 : List Str) (A1319 : Option Addr) (c1320 : Nat) (b1316 : Nat), (if ([] : List Int).length + t39.1.Rows.length ≤ 17592186044416 then (if (([] : List Int) ++ t39.1.Rows).length + t39.2.1.Rows.length ≤ 17592186044416 then some (x1318, ((([] : List Int) ++ t39.1.Rows) ++ t39.2.1.Rows)) else none) else none) = some o1917 ∧ Agree ρ [(1, .string (bs a1)), (2, .pointer (some ⟨b1, 0, none⟩)), (5, .pointer (some ⟨b62, 0, none⟩)), (6, .pointer (some ⟨b65, 0, none⟩)), (7, .string (bs t39.2.2.1)), (9, .pointer (some ⟨b104, 0, none⟩)), (10, .pointer (some ⟨b1316, 0, none⟩)), (101, .slice A1319 x1318.length c1320), (104, .slice A47 t39.1.Rows.length c48), (107, .slice A56 t39.2.1.Rows.length c57)] ∧ Ext w w' ∧ St w' M60 F [Blk b1316 (.cells #[.bool false, .slice none 0 0, .slice none 0 0, .slice none 0 0] 26 (0, 0)), Row rStr 9 (.slice A1319 x1318.length c1320) x1318, Blk b104 (.cells #[.bool x110, .slice A112 x111.length c113, .slice A116 x115.length c117, .slice A120 x119.length c121] 26 (0, 0)), Blk b65 (.cells #[.bool t39.2.1.Leaf, .slice A50 t39.2.1.Keys.length c51, .slice A53 t39.2.1.Kids.length c54, .slice A56 t39.2.1.Rows.length c57] 26 (0, 0)), Blk b62 (.cells #[.bool t39.1.Leaf, .slice A41 t39.1.Keys.length c42, .slice A44 t39.1.Kids.length c45, .slice A47 t39.1.Rows.length c48] 26 (0, 0)), Blk b1 (.cells #[.bool a0.Leaf, .slice A0_0 a0.Keys.length c0_0, .slice A0_1 a0.Kids.length c0_1, .slice A0_2 a0.Rows.length c0_2] 26 (0, 0))]) 5 (Ls 17 [0, 1, 2, 3, 4, 5, 6, 8, 9, 11, 12, 15]) ?_ ?_
      · clear o1917h
        rintro ρ w1981 ⟨x1318, A1319, c1320, b1316, H, hρ, E, S⟩
        rw [agree_eta hρ]
        clear hρ
        refine Wa_solo (i := 7) rfl (by kernel_rfl) ?_
        refine W_bslice S #[] Try.underlying24 ty41 rfl rfl #[] (by kernel_rfl) (by kernel_rfl) rfl ?_
        intro b1982 w1983 E' S
        replace E := E.trans E'
        clear E'
        replace S := S.blk_row (r := (rInt .u64)) (l := ([] : List Int)) 0 rfl 0 (Nat.le_refl 0) rfl Cells.nil
        refine Wl_nil (on_n ⟨⟨M60, Hp.le_refl M60, S.pick [3, 4, 5, 6] (by decide)⟩, ?_⟩)
        exact hq1934 _ _ ⟨x1318, ([] : List Int), A1319, c1320, (some ⟨b1982, 0, none⟩), 0, b1316, H, ⟨rfl, rfl, rfl, rfl, rfl, rfl, rfl, rfl, rfl, rfl, rfl, trivial⟩, E, S.pick [1, 0, 2, 3, 4, 5, 6] (by decide)⟩
      intro hq1931
      refine Wa_join (fun ρ w' => ∃ (x1297 : List Str) (x1301 : List Int) (A1298 : Option Addr) (c1299 : Nat) (A1302 : Option Addr) (c1303 : Nat), (if x1301.length + t39.1.Rows.length ≤ 17592186044416 then (if (x1301 ++ t39.1.Rows).length + t39.2.1.Rows.length ≤ 17592186044416 then some (x1297, ((x1301 ++ t39.1.Rows) ++ t39.2.1.Rows)) else none) else none) = some o1917 ∧ Agree ρ [(1, .string (bs a1)), (2, .pointer (some ⟨b1, 0, none⟩)), (5, .pointer (some ⟨b62, 0, none⟩)), (6, .pointer (some ⟨b65, 0, none⟩)), (7, .string (bs t39.2.2.1)), (9, .pointer (some ⟨b104, 0, none⟩)), (101, .slice A1298 x1297.length c1299), (102, .slice A1302 x1301.length c1303), (104, .slice A47 t39.1.Rows.length c48), (107, .slice A56 t39.2.1.Rows.length c57)] ∧ Ext w w' ∧ St w' M60 F [Row (rInt .u64) 41 (.slice A1302 x1301.length c1303) x1301, Row rStr 9 (.slice A1298 x1297.length c1299) x1297, Blk b104 (.cells #[.bool x110, .slice A112 x111.length c113, .slice A116 x115.length c117, .slice A120 x119.length c121] 26 (0, 0)), Blk b65 (.cells #[.bool t39.2.1.Leaf, .slice A50 t39.2.1.Keys.length c51, .slice A53 t39.2.1.Kids.length c54, .slice A56 t39.2.1.Rows.length c57] 26 (0, 0)), Blk b62 (.cells #[.bool t39.1.Leaf, .slice A41 t39.1.Keys.length c42, .slice A44 t39.1.Kids.length c45, .slice A47 t39.1.Rows.length c48] 26 (0, 0)), Blk b1 (.cells #[.bool a0.Leaf, .slice A0_0 a0.Keys.length c0_0, .slice A0_1 a0.Kids.length c0_1, .slice A0_2 a0.Rows.length c0_2] 26 (0, 0))]) 5 (Ls 17 [0, 1, 2, 3, 4, 5, 6, 7, 8, 9, 11, 12]) ?_ ?_
      · clear o1917h
        rintro ρ w1985 ⟨x1297, x1301, A1298, c1299, A1302, c1303, H, hρ, E, S⟩
        rw [agree_eta hρ]
        clear hρ
        refine Wa_oneOf (rs := [10, 15]) (by kernel_rfl) (by decide) ?_
        simp only [List.forall_mem_cons, List.not_mem_nil, false_implies, implies_true, and_true]
        refine ⟨?_, ?_⟩
        · refine ⟨_, rfl, ?_⟩
          obtain ⟨p1986, H⟩ := chkS H
          obtain ⟨src1987, hs1988, hC1989⟩ := src_of_read (P := Try.prog) (ρ := (rInt .u64)) (l := t39.1.Rows) (SlR.world hs49 S) (by decide)
          refine W_append S 0 rfl rfl rfl Try.underlying24 (.inl Try.underlying24) ty41 rfl (by decide) (by decide) hs1988 hC1989 rfl (by omega) rfl ?_
          intro v1990 w1991 E' S
          replace E := E.trans E'
          clear E'
          obtain ⟨A1992, c1993, rfl, _⟩ := (S.row_read 0 rfl).form
          refine Wl_nil (on_n ⟨⟨M60, Hp.le_refl M60, S.pick [2, 3, 4, 5] (by decide)⟩, ?_⟩)
          exact hq1933 _ _ ⟨x1297, (x1301 ++ t39.1.Rows), A1298, c1299, A1992, c1993, H, ⟨rfl, rfl, rfl, rfl, rfl, rfl, rfl, rfl, rfl, trivial⟩, E, S.pick [0, 1, 2, 3, 4, 5] (by decide)⟩
        · refine ⟨_, rfl, ?_⟩
          refine W_alloc S #[.bool false, .slice none 0 0, .slice none 0 0, .slice none 0 0] ty26 rfl rfl ?_
          intro b1994 w1995 E' S
          replace E := E.trans E'
          clear E'
          refine Wl_nil (on_n ⟨⟨M60, Hp.le_refl M60, S.pick [3, 4, 5, 6] (by decide)⟩, ?_⟩)
          exact hq1934 _ _ ⟨x1297, x1301, A1298, c1299, A1302, c1303, b1994, H, ⟨rfl, rfl, rfl, rfl, rfl, rfl, rfl, rfl, rfl, rfl, rfl, trivial⟩, E, S.pick [0, 1, 2, 3, 4, 5, 6] (by decide)⟩
      intro hq1930
      refine Wa_join (fun ρ w' => ∃ (x1281 : List Str) (x1285 : List Int) (A1282 : Option Addr) (c1283 : Nat) (A1286 : Option Addr) (c1287 : Nat) (b1279 : Nat), (if x1281.length + t39.1.Keys.length ≤ 8796093022208 then (if (x1281 ++ t39.1.Keys).length + t39.2.1.Keys.length ≤ 8796093022208 then (if x1285.length + t39.1.Rows.length ≤ 17592186044416 then (if (x1285 ++ t39.1.Rows).length + t39.2.1.Rows.length ≤ 17592186044416 then some (((x1281 ++ t39.1.Keys) ++ t39.2.1.Keys), ((x1285 ++ t39.1.Rows) ++ t39.2.1.Rows)) else none) else none) else none) else none) = some o1917 ∧ Agree ρ [(1, .string (bs a1)), (2, .pointer (some ⟨b1, 0, none⟩)), (5, .pointer (some ⟨b62, 0, none⟩)), (6, .pointer (some ⟨b65, 0, none⟩)), (7, .string (bs t39.2.2.1)), (9, .pointer (some ⟨b104, 0, none⟩)), (10, .pointer (some ⟨b1279, 0, none⟩)), (95, .slice A1282 x1281.length c1283), (97, .slice A41 t39.1.Keys.length c42), (100, .slice A50 t39.2.1.Keys.length c51), (102, .slice A1286 x1285.length c1287), (104, .slice A47 t39.1.Rows.length c48), (107, .slice A56 t39.2.1.Rows.length c57)] ∧ Ext w w' ∧ St w' M60 F [Blk b1279 (.cells #[.bool false, .slice none 0 0, .slice none 0 0, .slice none 0 0] 26 (0, 0)), Row (rInt .u64) 41 (.slice A1286 x1285.length c1287) x1285, Row rStr 9 (.slice A1282 x1281.length c1283) x1281, Blk b104 (.cells #[.bool x110, .slice A112 x111.length c113, .slice A116 x115.length c117, .slice A120 x119.length c121] 26 (0, 0)), Blk b65 (.cells #[.bool t39.2.1.Leaf, .slice A50 t39.2.1.Keys.length c51, .slice A53 t39.2.1.Kids.length c54, .slice A56 t39.2.1.Rows.length c57] 26 (0, 0)), Blk b62 (.cells #[.bool t39.1.Leaf, .slice A41 t39.1.Keys.length c42, .slice A44 t39.1.Kids.length c45, .slice A47 t39.1.Rows.length c48] 26 (0, 0)), Blk b1 (.cells #[.bool a0.Leaf, .slice A0_0 a0.Keys.length c0_0, .slice A0_1 a0.Kids.length c0_1, .slice A0_2 a0.Rows.length c0_2] 26 (0, 0))]) 6 (Ls 17 [0, 1, 2, 4, 5, 7, 8, 9, 11, 12, 15]) ?_ ?_
      · clear o1917h
        rintro ρ w1997 ⟨x1281, x1285, A1282, c1283, A1286, c1287, b1279, H, hρ, E, S⟩
        rw [agree_eta hρ]
        clear hρ
        refine Wa_solo (i := 3) rfl (by kernel_rfl) ?_
        obtain ⟨p1998, H⟩ := chkS H
        obtain ⟨src1999, hs2000, hC2001⟩ := src_of_read (P := Try.prog) (ρ := rStr) (l := t39.1.Keys) (SlR.world hs43 S) (by decide)
        refine W_append S 2 rfl rfl rfl Try.underlying22 (.inl Try.underlying22) ty9 rfl (by decide) (by decide) hs2000 hC2001 rfl (by omega) rfl ?_
        intro v2002 w2003 E' S
        replace E := E.trans E'
        clear E'
        obtain ⟨A2004, c2005, rfl, _⟩ := (S.row_read 2 rfl).form
        refine Wl_nil (on_n ⟨⟨M60, Hp.le_refl M60, S.pick [3, 4, 5, 6] (by decide)⟩, ?_⟩)
        exact hq1932 _ _ ⟨(x1281 ++ t39.1.Keys), x1285, A2004, c2005, A1286, c1287, b1279, H, ⟨rfl, rfl, rfl, rfl, rfl, rfl, rfl, rfl, rfl, rfl, rfl, rfl, trivial⟩, E, S.pick [0, 1, 2, 3, 4, 5, 6] (by decide)⟩
      intro hq1929
      refine Wa_join (fun ρ w' => ∃ (x1264 : List Str) (A1265 : Option Addr) (c1266 : Nat) (b1262 : Nat), (if x1264.length + t39.2.1.Keys.length ≤ 8796093022208 then (if ([] : List Int).length + t39.1.Rows.length ≤ 17592186044416 then (if (([] : List Int) ++ t39.1.Rows).length + t39.2.1.Rows.length ≤ 17592186044416 then some ((x1264 ++ t39.2.1.Keys), ((([] : List Int) ++ t39.1.Rows) ++ t39.2.1.Rows)) else none) else none) else none) = some o1917 ∧ Agree ρ [(1, .string (bs a1)), (2, .pointer (some ⟨b1, 0, none⟩)), (5, .pointer (some ⟨b62, 0, none⟩)), (6, .pointer (some ⟨b65, 0, none⟩)), (7, .string (bs t39.2.2.1)), (9, .pointer (some ⟨b104, 0, none⟩)), (10, .pointer (some ⟨b1262, 0, none⟩)), (98, .slice A1265 x1264.length c1266), (100, .slice A50 t39.2.1.Keys.length c51), (104, .slice A47 t39.1.Rows.length c48), (107, .slice A56 t39.2.1.Rows.length c57)] ∧ Ext w w' ∧ St w' M60 F [Blk b1262 (.cells #[.bool false, .slice none 0 0, .slice none 0 0, .slice none 0 0] 26 (0, 0)), Row rStr 9 (.slice A1265 x1264.length c1266) x1264, Blk b104 (.cells #[.bool x110, .slice A112 x111.length c113, .slice A116 x115.length c117, .slice A120 x119.length c121] 26 (0, 0)), Blk b65 (.cells #[.bool t39.2.1.Leaf, .slice A50 t39.2.1.Keys.length c51, .slice A53 t39.2.1.Kids.length c54, .slice A56 t39.2.1.Rows.length c57] 26 (0, 0)), Blk b62 (.cells #[.bool t39.1.Leaf, .slice A41 t39.1.Keys.length c42, .slice A44 t39.1.Kids.length c45, .slice A47 t39.1.Rows.length c48] 26 (0, 0)), Blk b1 (.cells #[.bool a0.Leaf, .slice A0_0 a0.Keys.length c0_0, .slice A0_1 a0.Kids.length c0_1, .slice A0_2 a0.Rows.length c0_2] 26 (0, 0))]) 6 (Ls 17 [0, 1, 2, 3, 4, 5, 8, 9, 11, 12, 15]) ?_ ?_
      · clear o1917h
        rintro ρ w2006 ⟨x1264, A1265, c1266, b1262, H, hρ, E, S⟩
        rw [agree_eta hρ]
        clear hρ
        refine Wa_oneOf (rs := [6, 7]) (by kernel_rfl) (by decide) ?_
        simp only [List.forall_mem_cons, List.not_mem_nil, false_implies, implies_true, and_true]
        refine ⟨?_, ?_⟩
        · refine ⟨_, rfl, ?_⟩
          obtain ⟨p2007, H⟩ := chkS H
          obtain ⟨src2008, hs2009, hC2010⟩ := src_of_read (P := Try.prog) (ρ := rStr) (l := t39.2.1.Keys) (SlR.world hs52 S) (by decide)
          refine W_append S 1 rfl rfl rfl Try.underlying22 (.inl Try.underlying22) ty9 rfl (by decide) (by decide) hs2009 hC2010 rfl (by omega) rfl ?_
          intro v2011 w2012 E' S
          replace E := E.trans E'
          clear E'
          obtain ⟨A2013, c2014, rfl, _⟩ := (S.row_read 1 rfl).form
          refine Wl_nil (on_n ⟨⟨M60, Hp.le_refl M60, S.pick [2, 3, 4, 5] (by decide)⟩, ?_⟩)
          exact hq1931 _ _ ⟨(x1264 ++ t39.2.1.Keys), A2013, c2014, b1262, H, ⟨rfl, rfl, rfl, rfl, rfl, rfl, rfl, rfl, rfl, rfl, trivial⟩, E, S.pick [0, 1, 2, 3, 4, 5] (by decide)⟩
        · refine ⟨_, rfl, ?_⟩
          refine W_bslice S #[] Try.underlying24 ty41 rfl rfl #[] (by kernel_rfl) (by kernel_rfl) rfl ?_
          intro b2015 w2016 E' S
          replace E := E.trans E'
          clear E'
          replace S := S.blk_row (r := (rInt .u64)) (l := ([] : List Int)) 0 rfl 0 (Nat.le_refl 0) rfl Cells.nil
          refine Wl_nil (on_n ⟨⟨M60, Hp.le_refl M60, S.pick [3, 4, 5, 6] (by decide)⟩, ?_⟩)
          exact hq1932 _ _ ⟨x1264, ([] : List Int), A1265, c1266, (some ⟨b2015, 0, none⟩), 0, b1262, H, ⟨rfl, rfl, rfl, rfl, rfl, rfl, rfl, rfl, rfl, rfl, rfl, rfl, trivial⟩, E, S.pick [1, 0, 2, 3, 4, 5, 6] (by decide)⟩
      intro hq1928
      refine Wa_join (fun ρ w' => ∃ (x1243 : List Str) (x1247 : List Int) (A1244 : Option Addr) (c1245 : Nat) (A1248 : Option Addr) (c1249 : Nat), (if x1243.length + t39.2.1.Keys.length ≤ 8796093022208 then (if x1247.length + t39.1.Rows.length ≤ 17592186044416 then (if (x1247 ++ t39.1.Rows).length + t39.2.1.Rows.length ≤ 17592186044416 then some ((x1243 ++ t39.2.1.Keys), ((x1247 ++ t39.1.Rows) ++ t39.2.1.Rows)) else none) else none) else none) = some o1917 ∧ Agree ρ [(1, .string (bs a1)), (2, .pointer (some ⟨b1, 0, none⟩)), (5, .pointer (some ⟨b62, 0, none⟩)), (6, .pointer (some ⟨b65, 0, none⟩)), (7, .string (bs t39.2.2.1)), (9, .pointer (some ⟨b104, 0, none⟩)), (98, .slice A1244 x1243.length c1245), (100, .slice A50 t39.2.1.Keys.length c51), (102, .slice A1248 x1247.length c1249), (104, .slice A47 t39.1.Rows.length c48), (107, .slice A56 t39.2.1.Rows.length c57)] ∧ Ext w w' ∧ St w' M60 F [Row (rInt .u64) 41 (.slice A1248 x1247.length c1249) x1247, Row rStr 9 (.slice A1244 x1243.length c1245) x1243, Blk b104 (.cells #[.bool x110, .slice A112 x111.length c113, .slice A116 x115.length c117, .slice A120 x119.length c121] 26 (0, 0)), Blk b65 (.cells #[.bool t39.2.1.Leaf, .slice A50 t39.2.1.Keys.length c51, .slice A53 t39.2.1.Kids.length c54, .slice A56 t39.2.1.Rows.length c57] 26 (0, 0)), Blk b62 (.cells #[.bool t39.1.Leaf, .slice A41 t39.1.Keys.length c42, .slice A44 t39.1.Kids.length c45, .slice A47 t39.1.Rows.length c48] 26 (0, 0)), Blk b1 (.cells #[.bool a0.Leaf, .slice A0_0 a0.Keys.length c0_0, .slice A0_1 a0.Kids.length c0_1, .slice A0_2 a0.Rows.length c0_2] 26 (0, 0))]) 6 (Ls 17 [0, 1, 2, 3, 4, 5, 7, 8, 9, 11, 12]) ?_ ?_
      · clear o1917h
        rintro ρ w2018 ⟨x1243, x1247, A1244, c1245, A1248, c1249, H, hρ, E, S⟩
        rw [agree_eta hρ]
        clear hρ
        refine Wa_oneOf (rs := [6, 15]) (by kernel_rfl) (by decide) ?_
        simp only [List.forall_mem_cons, List.not_mem_nil, false_implies, implies_true, and_true]
        refine ⟨?_, ?_⟩
        · refine ⟨_, rfl, ?_⟩
          obtain ⟨p2019, H⟩ := chkS H
          obtain ⟨src2020, hs2021, hC2022⟩ := src_of_read (P := Try.prog) (ρ := rStr) (l := t39.2.1.Keys) (SlR.world hs52 S) (by decide)
          refine W_append S 1 rfl rfl rfl Try.underlying22 (.inl Try.underlying22) ty9 rfl (by decide) (by decide) hs2021 hC2022 rfl (by omega) rfl ?_
          intro v2023 w2024 E' S
          replace E := E.trans E'
          clear E'
          obtain ⟨A2025, c2026, rfl, _⟩ := (S.row_read 1 rfl).form
          refine Wl_nil (on_n ⟨⟨M60, Hp.le_refl M60, S.pick [2, 3, 4, 5] (by decide)⟩, ?_⟩)
          exact hq1930 _ _ ⟨(x1243 ++ t39.2.1.Keys), x1247, A2025, c2026, A1248, c1249, H, ⟨rfl, rfl, rfl, rfl, rfl, rfl, rfl, rfl, rfl, rfl, trivial⟩, E, S.pick [0, 1, 2, 3, 4, 5] (by decide)⟩
        · refine ⟨_, rfl, ?_⟩
          refine W_alloc S #[.bool false, .slice none 0 0, .slice none 0 0, .slice none 0 0] ty26 rfl rfl ?_
          intro b2027 w2028 E' S
          replace E := E.trans E'
          clear E'
          refine Wl_nil (on_n ⟨⟨M60, Hp.le_refl M60, S.pick [3, 4, 5, 6] (by decide)⟩, ?_⟩)
          exact hq1932 _ _ ⟨x1243, x1247, A1244, c1245, A1248, c1249, b2027, H, ⟨rfl, rfl, rfl, rfl, rfl, rfl, rfl, rfl, rfl, rfl, rfl, rfl, trivial⟩, E, S.pick [0, 1, 2, 3, 4, 5, 6] (by decide)⟩
      intro hq1927
      refine Wa_join (fun ρ w' => ∃ (x1233 : List Str) (A1234 : Option Addr) (c1235 : Nat), (if ([] : List Int).length + t39.1.Rows.length ≤ 17592186044416 then (if (([] : List Int) ++ t39.1.Rows).length + t39.2.1.Rows.length ≤ 17592186044416 then some (x1233, ((([] : List Int) ++ t39.1.Rows) ++ t39.2.1.Rows)) else none) else none) = some o1917 ∧ Agree ρ [(1, .string (bs a1)), (2, .pointer (some ⟨b1, 0, none⟩)), (5, .pointer (some ⟨b62, 0, none⟩)), (6, .pointer (some ⟨b65, 0, none⟩)), (7, .string (bs t39.2.2.1)), (9, .pointer (some ⟨b104, 0, none⟩)), (101, .slice A1234 x1233.length c1235), (104, .slice A47 t39.1.Rows.length c48), (107, .slice A56 t39.2.1.Rows.length c57)] ∧ Ext w w' ∧ St w' M60 F [Row rStr 9 (.slice A1234 x1233.length c1235) x1233, Blk b104 (.cells #[.bool x110, .slice A112 x111.length c113, .slice A116 x115.length c117, .slice A120 x119.length c121] 26 (0, 0)), Blk b65 (.cells #[.bool t39.2.1.Leaf, .slice A50 t39.2.1.Keys.length c51, .slice A53 t39.2.1.Kids.length c54, .slice A56 t39.2.1.Rows.length c57] 26 (0, 0)), Blk b62 (.cells #[.bool t39.1.Leaf, .slice A41 t39.1.Keys.length c42, .slice A44 t39.1.Kids.length c45, .slice A47 t39.1.Rows.length c48] 26 (0, 0)), Blk b1 (.cells #[.bool a0.Leaf, .slice A0_0 a0.Keys.length c0_0, .slice A0_1 a0.Kids.length c0_1, .slice A0_2 a0.Rows.length c0_2] 26 (0, 0))]) 6 (Ls 17 [0, 1, 2, 3, 4, 5, 6, 8, 9, 11, 12]) ?_ ?_
      · clear o1917h
        rintro ρ w2030 ⟨x1233, A1234, c1235, H, hρ, E, S⟩
        rw [agree_eta hρ]
        clear hρ
        refine Wa_oneOf (rs := [7, 15]) (by kernel_rfl) (by decide) ?_
        simp only [List.forall_mem_cons, List.not_mem_nil, false_implies, implies_true, and_true]
        refine ⟨?_, ?_⟩
        · refine ⟨_, rfl, ?_⟩
          refine W_bslice S #[] Try.underlying24 ty41 rfl rfl #[] (by kernel_rfl) (by kernel_rfl) rfl ?_
          intro b2031 w2032 E' S
          replace E := E.trans E'
          clear E'
          replace S := S.blk_row (r := (rInt .u64)) (l := ([] : List Int)) 0 rfl 0 (Nat.le_refl 0) rfl Cells.nil
          refine Wl_nil (on_n ⟨⟨M60, Hp.le_refl M60, S.pick [2, 3, 4, 5] (by decide)⟩, ?_⟩)
          exact hq1930 _ _ ⟨x1233, ([] : List Int), A1234, c1235, (some ⟨b2031, 0, none⟩), 0, H, ⟨rfl, rfl, rfl, rfl, rfl, rfl, rfl, rfl, rfl, rfl, trivial⟩, E, S.pick [0, 1, 2, 3, 4, 5] (by decide)⟩
        · refine ⟨_, rfl, ?_⟩
          refine W_alloc S #[.bool false, .slice none 0 0, .slice none 0 0, .slice none 0 0] ty26 rfl rfl ?_
          intro b2034 w2035 E' S
          replace E := E.trans E'
          clear E'
          refine Wl_nil (on_n ⟨⟨M60, Hp.le_refl M60, S.pick [2, 3, 4, 5] (by decide)⟩, ?_⟩)
          exact hq1931 _ _ ⟨x1233, A1234, c1235, b2034, H, ⟨rfl, rfl, rfl, rfl, rfl, rfl, rfl, rfl, rfl, rfl, trivial⟩, E, S.pick [0, 1, 2, 3, 4, 5] (by decide)⟩
      intro hq1926
      refine Wa_join (fun ρ w' => ∃ (x1226 : List Int) (A1227 : Option Addr) (c1228 : Nat) (b1224 : Nat), (if ([] : List Str).length + t39.1.Keys.length ≤ 8796093022208 then (if (([] : List Str) ++ t39.1.Keys).length + t39.2.1.Keys.length ≤ 8796093022208 then (if x1226.length + t39.1.Rows.length ≤ 17592186044416 then (if (x1226 ++ t39.1.Rows).length + t39.2.1.Rows.length ≤ 17592186044416 then some (((([] : List Str) ++ t39.1.Keys) ++ t39.2.1.Keys), ((x1226 ++ t39.1.Rows) ++ t39.2.1.Rows)) else none) else none) else none) else none) = some o1917 ∧ Agree ρ [(1, .string (bs a1)), (2, .pointer (some ⟨b1, 0, none⟩)), (5, .pointer (some ⟨b62, 0, none⟩)), (6, .pointer (some ⟨b65, 0, none⟩)), (7, .string (bs t39.2.2.1)), (9, .pointer (some ⟨b104, 0, none⟩)), (10, .pointer (some ⟨b1224, 0, none⟩)), (97, .slice A41 t39.1.Keys.length c42), (100, .slice A50 t39.2.1.Keys.length c51), (102, .slice A1227 x1226.length c1228), (104, .slice A47 t39.1.Rows.length c48), (107, .slice A56 t39.2.1.Rows.length c57)] ∧ Ext w w' ∧ St w' M60 F [Blk b1224 (.cells #[.bool false, .slice none 0 0, .slice none 0 0, .slice none 0 0] 26 (0, 0)), Row (rInt .u64) 41 (.slice A1227 x1226.length c1228) x1226, Blk b104 (.cells #[.bool x110, .slice A112 x111.length c113, .slice A116 x115.length c117, .slice A120 x119.length c121] 26 (0, 0)), Blk b65 (.cells #[.bool t39.2.1.Leaf, .slice A50 t39.2.1.Keys.length c51, .slice A53 t39.2.1.Kids.length c54, .slice A56 t39.2.1.Rows.length c57] 26 (0, 0)), Blk b62 (.cells #[.bool t39.1.Leaf, .slice A41 t39.1.Keys.length c42, .slice A44 t39.1.Kids.length c45, .slice A47 t39.1.Rows.length c48] 26 (0, 0)), Blk b1 (.cells #[.bool a0.Leaf, .slice A0_0 a0.Keys.length c0_0, .slice A0_1 a0.Kids.length c0_1, .slice A0_2 a0.Rows.length c0_2] 26 (0, 0))]) 7 (Ls 17 [1, 2, 4, 5, 7, 8, 9, 11, 12, 15]) ?_ ?_
      · clear o1917h
        rintro ρ w2037 ⟨x1226, A1227, c1228, b1224, H, hρ, E, S⟩
        rw [agree_eta hρ]
        clear hρ
        refine Wa_solo (i := 0) rfl (by kernel_rfl) ?_
        refine W_bslice S #[] Try.underlying22 ty9 rfl rfl #[] (by kernel_rfl) (by kernel_rfl) rfl ?_
        intro b2038 w2039 E' S
        replace E := E.trans E'
        clear E'
        replace S := S.blk_row (r := rStr) (l := ([] : List Str)) 0 rfl 0 (Nat.le_refl 0) rfl Cells.nil
        refine Wl_nil (on_n ⟨⟨M60, Hp.le_refl M60, S.pick [3, 4, 5, 6] (by decide)⟩, ?_⟩)
        exact hq1929 _ _ ⟨([] : List Str), x1226, (some ⟨b2038, 0, none⟩), 0, A1227, c1228, b1224, H, ⟨rfl, rfl, rfl, rfl, rfl, rfl, rfl, rfl, rfl, rfl, rfl, rfl, rfl, trivial⟩, E, S.pick [1, 2, 0, 3, 4, 5, 6] (by decide)⟩
      intro hq1925
      refine Wa_join (fun ρ w' => ∃ (x1209 : List Str) (A1210 : Option Addr) (c1211 : Nat) (b1207 : Nat), (if x1209.length + t39.1.Keys.length ≤ 8796093022208 then (if (x1209 ++ t39.1.Keys).length + t39.2.1.Keys.length ≤ 8796093022208 then (if ([] : List Int).length + t39.1.Rows.length ≤ 17592186044416 then (if (([] : List Int) ++ t39.1.Rows).length + t39.2.1.Rows.length ≤ 17592186044416 then some (((x1209 ++ t39.1.Keys) ++ t39.2.1.Keys), ((([] : List Int) ++ t39.1.Rows) ++ t39.2.1.Rows)) else none) else none) else none) else none) = some o1917 ∧ Agree ρ [(1, .string (bs a1)), (2, .pointer (some ⟨b1, 0, none⟩)), (5, .pointer (some ⟨b62, 0, none⟩)), (6, .pointer (some ⟨b65, 0, none⟩)), (7, .string (bs t39.2.2.1)), (9, .pointer (some ⟨b104, 0, none⟩)), (10, .pointer (some ⟨b1207, 0, none⟩)), (95, .slice A1210 x1209.length c1211), (97, .slice A41 t39.1.Keys.length c42), (100, .slice A50 t39.2.1.Keys.length c51), (104, .slice A47 t39.1.Rows.length c48), (107, .slice A56 t39.2.1.Rows.length c57)] ∧ Ext w w' ∧ St w' M60 F [Blk b1207 (.cells #[.bool false, .slice none 0 0, .slice none 0 0, .slice none 0 0] 26 (0, 0)), Row rStr 9 (.slice A1210 x1209.length c1211) x1209, Blk b104 (.cells #[.bool x110, .slice A112 x111.length c113, .slice A116 x115.length c117, .slice A120 x119.length c121] 26 (0, 0)), Blk b65 (.cells #[.bool t39.2.1.Leaf, .slice A50 t39.2.1.Keys.length c51, .slice A53 t39.2.1.Kids.length c54, .slice A56 t39.2.1.Rows.length c57] 26 (0, 0)), Blk b62 (.cells #[.bool t39.1.Leaf, .slice A41 t39.1.Keys.length c42, .slice A44 t39.1.Kids.length c45, .slice A47 t39.1.Rows.length c48] 26 (0, 0)), Blk b1 (.cells #[.bool a0.Leaf, .slice A0_0 a0.Keys.length c0_0, .slice A0_1 a0.Kids.length c0_1, .slice A0_2 a0.Rows.length c0_2] 26 (0, 0))]) 7 (Ls 17 [0, 1, 2, 4, 5, 8, 9, 11, 12, 15]) ?_ ?_
      · clear o1917h
        rintro ρ w2041 ⟨x1209, A1210, c1211, b1207, H, hρ, E, S⟩
        rw [agree_eta hρ]
        clear hρ
        refine Wa_oneOf (rs := [3, 7]) (by kernel_rfl) (by decide) ?_
        simp only [List.forall_mem_cons, List.not_mem_nil, false_implies, implies_true, and_true]
        refine ⟨?_, ?_⟩
        · refine ⟨_, rfl, ?_⟩
          obtain ⟨p2042, H⟩ := chkS H
          obtain ⟨src2043, hs2044, hC2045⟩ := src_of_read (P := Try.prog) (ρ := rStr) (l := t39.1.Keys) (SlR.world hs43 S) (by decide)
          refine W_append S 1 rfl rfl rfl Try.underlying22 (.inl Try.underlying22) ty9 rfl (by decide) (by decide) hs2044 hC2045 rfl (by omega) rfl ?_
          intro v2046 w2047 E' S
          replace E := E.trans E'
          clear E'
          obtain ⟨A2048, c2049, rfl, _⟩ := (S.row_read 1 rfl).form
          refine Wl_nil (on_n ⟨⟨M60, Hp.le_refl M60, S.pick [2, 3, 4, 5] (by decide)⟩, ?_⟩)
          exact hq1928 _ _ ⟨(x1209 ++ t39.1.Keys), A2048, c2049, b1207, H, ⟨rfl, rfl, rfl, rfl, rfl, rfl, rfl, rfl, rfl, rfl, rfl, trivial⟩, E, S.pick [0, 1, 2, 3, 4, 5] (by decide)⟩
        · refine ⟨_, rfl, ?_⟩
          refine W_bslice S #[] Try.underlying24 ty41 rfl rfl #[] (by kernel_rfl) (by kernel_rfl) rfl ?_
          intro b2050 w2051 E' S
          replace E := E.trans E'
          clear E'
          replace S := S.blk_row (r := (rInt .u64)) (l := ([] : List Int)) 0 rfl 0 (Nat.le_refl 0) rfl Cells.nil
          refine Wl_nil (on_n ⟨⟨M60, Hp.le_refl M60, S.pick [3, 4, 5, 6] (by decide)⟩, ?_⟩)
          exact hq1929 _ _ ⟨x1209, ([] : List Int), A1210, c1211, (some ⟨b2050, 0, none⟩), 0, b1207, H, ⟨rfl, rfl, rfl, rfl, rfl, rfl, rfl, rfl, rfl, rfl, rfl, rfl, rfl, trivial⟩, E, S.pick [1, 0, 2, 3, 4, 5, 6] (by decide)⟩
      intro hq1924
      refine Wa_join (fun ρ w' => ∃ (x1188 : List Str) (x1192 : List Int) (A1189 : Option Addr) (c1190 : Nat) (A1193 : Option Addr) (c1194 : Nat), (if x1188.length + t39.1.Keys.length ≤ 8796093022208 then (if (x1188 ++ t39.1.Keys).length + t39.2.1.Keys.length ≤ 8796093022208 then (if x1192.length + t39.1.Rows.length ≤ 17592186044416 then (if (x1192 ++ t39.1.Rows).length + t39.2.1.Rows.length ≤ 17592186044416 then some (((x1188 ++ t39.1.Keys) ++ t39.2.1.Keys), ((x1192 ++ t39.1.Rows) ++ t39.2.1.Rows)) else none) else none) else none) else none) = some o1917 ∧ Agree ρ [(1, .string (bs a1)), (2, .pointer (some ⟨b1, 0, none⟩)), (5, .pointer (some ⟨b62, 0, none⟩)), (6, .pointer (some ⟨b65, 0, none⟩)), (7, .string (bs t39.2.2.1)), (9, .pointer (some ⟨b104, 0, none⟩)), (95, .slice A1189 x1188.length c1190), (97, .slice A41 t39.1.Keys.length c42), (100, .slice A50 t39.2.1.Keys.length c51), (102, .slice A1193 x1192.length c1194), (104, .slice A47 t39.1.Rows.length c48), (107, .slice A56 t39.2.1.Rows.length c57)] ∧ Ext w w' ∧ St w' M60 F [Row (rInt .u64) 41 (.slice A1193 x1192.length c1194) x1192, Row rStr 9 (.slice A1189 x1188.length c1190) x1188, Blk b104 (.cells #[.bool x110, .slice A112 x111.length c113, .slice A116 x115.length c117, .slice A120 x119.length c121] 26 (0, 0)), Blk b65 (.cells #[.bool t39.2.1.Leaf, .slice A50 t39.2.1.Keys.length c51, .slice A53 t39.2.1.Kids.length c54, .slice A56 t39.2.1.Rows.length c57] 26 (0, 0)), Blk b62 (.cells #[.bool t39.1.Leaf, .slice A41 t39.1.Keys.length c42, .slice A44 t39.1.Kids.length c45, .slice A47 t39.1.Rows.length c48] 26 (0, 0)), Blk b1 (.cells #[.bool a0.Leaf, .slice A0_0 a0.Keys.length c0_0, .slice A0_1 a0.Kids.length c0_1, .slice A0_2 a0.Rows.length c0_2] 26 (0, 0))]) 7 (Ls 17 [0, 1, 2, 4, 5, 7, 8, 9, 11, 12]) ?_ ?_
      · clear o1917h
        rintro ρ w2053 ⟨x1188, x1192, A1189, c1190, A1193, c1194, H, hρ, E, S⟩
        rw [agree_eta hρ]
        clear hρ
        refine Wa_oneOf (rs := [3, 15]) (by kernel_rfl) (by decide) ?_
        simp only [List.forall_mem_cons, List.not_mem_nil, false_implies, implies_true, and_true]
        refine ⟨?_, ?_⟩
        · refine ⟨_, rfl, ?_⟩
          obtain ⟨p2054, H⟩ := chkS H
          obtain ⟨src2055, hs2056, hC2057⟩ := src_of_read (P := Try.prog) (ρ := rStr) (l := t39.1.Keys) (SlR.world hs43 S) (by decide)
          refine W_append S 1 rfl rfl rfl Try.underlying22 (.inl Try.underlying22) ty9 rfl (by decide) (by decide) hs2056 hC2057 rfl (by omega) rfl ?_
          intro v2058 w2059 E' S
          replace E := E.trans E'
          clear E'
          obtain ⟨A2060, c2061, rfl, _⟩ := (S.row_read 1 rfl).form
          refine Wl_nil (on_n ⟨⟨M60, Hp.le_refl M60, S.pick [2, 3, 4, 5] (by decide)⟩, ?_⟩)
          exact hq1927 _ _ ⟨(x1188 ++ t39.1.Keys), x1192, A2060, c2061, A1193, c1194, H, ⟨rfl, rfl, rfl, rfl, rfl, rfl, rfl, rfl, rfl, rfl, rfl, trivial⟩, E, S.pick [0, 1, 2, 3, 4, 5] (by decide)⟩
        · refine ⟨_, rfl, ?_⟩
          refine W_alloc S #[.bool false, .slice none 0 0, .slice none 0 0, .slice none 0 0] ty26 rfl rfl ?_
          intro b2062 w2063 E' S
          replace E := E.trans E'
          clear E'
          refine Wl_nil (on_n ⟨⟨M60, Hp.le_refl M60, S.pick [3, 4, 5, 6] (by decide)⟩, ?_⟩)
          exact hq1929 _ _ ⟨x1188, x1192, A1189, c1190, A1193, c1194, b2062, H, ⟨rfl, rfl, rfl, rfl, rfl, rfl, rfl, rfl, rfl, rfl, rfl, rfl, rfl, trivial⟩, E, S.pick [0, 1, 2, 3, 4, 5, 6] (by decide)⟩
      intro hq1923
      refine Wa_join (fun ρ w' => ∃ (x1170 : List Str) (A1171 : Option Addr) (c1172 : Nat), (if x1170.length + t39.2.1.Keys.length ≤ 8796093022208 then (if ([] : List Int).length + t39.1.Rows.length ≤ 17592186044416 then (if (([] : List Int) ++ t39.1.Rows).length + t39.2.1.Rows.length ≤ 17592186044416 then some ((x1170 ++ t39.2.1.Keys), ((([] : List Int) ++ t39.1.Rows) ++ t39.2.1.Rows)) else none) else none) else none) = some o1917 ∧ Agree ρ [(1, .string (bs a1)), (2, .pointer (some ⟨b1, 0, none⟩)), (5, .pointer (some ⟨b62, 0, none⟩)), (6, .pointer (some ⟨b65, 0, none⟩)), (7, .string (bs t39.2.2.1)), (9, .pointer (some ⟨b104, 0, none⟩)), (98, .slice A1171 x1170.length c1172), (100, .slice A50 t39.2.1.Keys.length c51), (104, .slice A47 t39.1.Rows.length c48), (107, .slice A56 t39.2.1.Rows.length c57)] ∧ Ext w w' ∧ St w' M60 F [Row rStr 9 (.slice A1171 x1170.length c1172) x1170, Blk b104 (.cells #[.bool x110, .slice A112 x111.length c113, .slice A116 x115.length c117, .slice A120 x119.length c121] 26 (0, 0)), Blk b65 (.cells #[.bool t39.2.1.Leaf, .slice A50 t39.2.1.Keys.length c51, .slice A53 t39.2.1.Kids.length c54, .slice A56 t39.2.1.Rows.length c57] 26 (0, 0)), Blk b62 (.cells #[.bool t39.1.Leaf, .slice A41 t39.1.Keys.length c42, .slice A44 t39.1.Kids.length c45, .slice A47 t39.1.Rows.length c48] 26 (0, 0)), Blk b1 (.cells #[.bool a0.Leaf, .slice A0_0 a0.Keys.length c0_0, .slice A0_1 a0.Kids.length c0_1, .slice A0_2 a0.Rows.length c0_2] 26 (0, 0))]) 7 (Ls 17 [0, 1, 2, 3, 4, 5, 8, 9, 11, 12]) ?_ ?_
      · clear o1917h
        rintro ρ w2065 ⟨x1170, A1171, c1172, H, hρ, E, S⟩
        rw [agree_eta hρ]
        clear hρ
        refine Wa_oneOf (rs := [6, 7, 15]) (by kernel_rfl) (by decide) ?_
        simp only [List.forall_mem_cons, List.not_mem_nil, false_implies, implies_true, and_true]
        refine ⟨?_, ?_, ?_⟩
        · refine ⟨_, rfl, ?_⟩
          obtain ⟨p2066, H⟩ := chkS H
          obtain ⟨src2067, hs2068, hC2069⟩ := src_of_read (P := Try.prog) (ρ := rStr) (l := t39.2.1.Keys) (SlR.world hs52 S) (by decide)
          refine W_append S 0 rfl rfl rfl Try.underlying22 (.inl Try.underlying22) ty9 rfl (by decide) (by decide) hs2068 hC2069 rfl (by omega) rfl ?_
          intro v2070 w2071 E' S
          replace E := E.trans E'
          clear E'
          obtain ⟨A2072, c2073, rfl, _⟩ := (S.row_read 0 rfl).form
          refine Wl_nil (on_n ⟨⟨M60, Hp.le_refl M60, S.pick [1, 2, 3, 4] (by decide)⟩, ?_⟩)
          exact hq1926 _ _ ⟨(x1170 ++ t39.2.1.Keys), A2072, c2073, H, ⟨rfl, rfl, rfl, rfl, rfl, rfl, rfl, rfl, rfl, trivial⟩, E, S.pick [0, 1, 2, 3, 4] (by decide)⟩
        · refine ⟨_, rfl, ?_⟩
          refine W_bslice S #[] Try.underlying24 ty41 rfl rfl #[] (by kernel_rfl) (by kernel_rfl) rfl ?_
          intro b2074 w2075 E' S
          replace E := E.trans E'
          clear E'
          replace S := S.blk_row (r := (rInt .u64)) (l := ([] : List Int)) 0 rfl 0 (Nat.le_refl 0) rfl Cells.nil
          refine Wl_nil (on_n ⟨⟨M60, Hp.le_refl M60, S.pick [2, 3, 4, 5] (by decide)⟩, ?_⟩)
          exact hq1927 _ _ ⟨x1170, ([] : List Int), A1171, c1172, (some ⟨b2074, 0, none⟩), 0, H, ⟨rfl, rfl, rfl, rfl, rfl, rfl, rfl, rfl, rfl, rfl, rfl, trivial⟩, E, S.pick [0, 1, 2, 3, 4, 5] (by decide)⟩
        · refine ⟨_, rfl, ?_⟩
          refine W_alloc S #[.bool false, .slice none 0 0, .slice none 0 0, .slice none 0 0] ty26 rfl rfl ?_
          intro b2077 w2078 E' S
          replace E := E.trans E'
          clear E'
          refine Wl_nil (on_n ⟨⟨M60, Hp.le_refl M60, S.pick [2, 3, 4, 5] (by decide)⟩, ?_⟩)
          exact hq1928 _ _ ⟨x1170, A1171, c1172, b2077, H, ⟨rfl, rfl, rfl, rfl, rfl, rfl, rfl, rfl, rfl, rfl, rfl, trivial⟩, E, S.pick [0, 1, 2, 3, 4, 5] (by decide)⟩
      intro hq1922
      refine Wa_join (fun ρ w' => ∃ (b1162 : Nat), (if ([] : List Str).length + t39.1.Keys.length ≤ 8796093022208 then (if (([] : List Str) ++ t39.1.Keys).length + t39.2.1.Keys.length ≤ 8796093022208 then (if ([] : List Int).length + t39.1.Rows.length ≤ 17592186044416 then (if (([] : List Int) ++ t39.1.Rows).length + t39.2.1.Rows.length ≤ 17592186044416 then some (((([] : List Str) ++ t39.1.Keys) ++ t39.2.1.Keys), ((([] : List Int) ++ t39.1.Rows) ++ t39.2.1.Rows)) else none) else none) else none) else none) = some o1917 ∧ Agree ρ [(1, .string (bs a1)), (2, .pointer (some ⟨b1, 0, none⟩)), (5, .pointer (some ⟨b62, 0, none⟩)), (6, .pointer (some ⟨b65, 0, none⟩)), (7, .string (bs t39.2.2.1)), (9, .pointer (some ⟨b104, 0, none⟩)), (10, .pointer (some ⟨b1162, 0, none⟩)), (97, .slice A41 t39.1.Keys.length c42), (100, .slice A50 t39.2.1.Keys.length c51), (104, .slice A47 t39.1.Rows.length c48), (107, .slice A56 t39.2.1.Rows.length c57)] ∧ Ext w w' ∧ St w' M60 F [Blk b1162 (.cells #[.bool false, .slice none 0 0, .slice none 0 0, .slice none 0 0] 26 (0, 0)), Blk b104 (.cells #[.bool x110, .slice A112 x111.length c113, .slice A116 x115.length c117, .slice A120 x119.length c121] 26 (0, 0)), Blk b65 (.cells #[.bool t39.2.1.Leaf, .slice A50 t39.2.1.Keys.length c51, .slice A53 t39.2.1.Kids.length c54, .slice A56 t39.2.1.Rows.length c57] 26 (0, 0)), Blk b62 (.cells #[.bool t39.1.Leaf, .slice A41 t39.1.Keys.length c42, .slice A44 t39.1.Kids.length c45, .slice A47 t39.1.Rows.length c48] 26 (0, 0)), Blk b1 (.cells #[.bool a0.Leaf, .slice A0_0 a0.Keys.length c0_0, .slice A0_1 a0.Kids.length c0_1, .slice A0_2 a0.Rows.length c0_2] 26 (0, 0))]) 8 (Ls 17 [1, 2, 4, 5, 8, 9, 11, 12, 15]) ?_ ?_
      · clear o1917h
        rintro ρ w2080 ⟨b1162, H, hρ, E, S⟩
        rw [agree_eta hρ]
        clear hρ
        refine Wa_oneOf (rs := [0, 7]) (by kernel_rfl) (by decide) ?_
        simp only [List.forall_mem_cons, List.not_mem_nil, false_implies, implies_true, and_true]
        refine ⟨?_, ?_⟩
        · refine ⟨_, rfl, ?_⟩
          refine W_bslice S #[] Try.underlying22 ty9 rfl rfl #[] (by kernel_rfl) (by kernel_rfl) rfl ?_
          intro b2081 w2082 E' S
          replace E := E.trans E'
          clear E'
          replace S := S.blk_row (r := rStr) (l := ([] : List Str)) 0 rfl 0 (Nat.le_refl 0) rfl Cells.nil
          refine Wl_nil (on_n ⟨⟨M60, Hp.le_refl M60, S.pick [2, 3, 4, 5] (by decide)⟩, ?_⟩)
          exact hq1924 _ _ ⟨([] : List Str), (some ⟨b2081, 0, none⟩), 0, b1162, H, ⟨rfl, rfl, rfl, rfl, rfl, rfl, rfl, rfl, rfl, rfl, rfl, rfl, trivial⟩, E, S.pick [1, 0, 2, 3, 4, 5] (by decide)⟩
        · refine ⟨_, rfl, ?_⟩
          refine W_bslice S #[] Try.underlying24 ty41 rfl rfl #[] (by kernel_rfl) (by kernel_rfl) rfl ?_
          intro b2084 w2085 E' S
          replace E := E.trans E'
          clear E'
          replace S := S.blk_row (r := (rInt .u64)) (l := ([] : List Int)) 0 rfl 0 (Nat.le_refl 0) rfl Cells.nil
          refine Wl_nil (on_n ⟨⟨M60, Hp.le_refl M60, S.pick [2, 3, 4, 5] (by decide)⟩, ?_⟩)
          exact hq1925 _ _ ⟨([] : List Int), (some ⟨b2084, 0, none⟩), 0, b1162, H, ⟨rfl, rfl, rfl, rfl, rfl, rfl, rfl, rfl, rfl, rfl, rfl, rfl, trivial⟩, E, S.pick [1, 0, 2, 3, 4, 5] (by decide)⟩
      intro hq1921
      refine Wa_join (fun ρ w' => ∃ (x1152 : List Int) (A1153 : Option Addr) (c1154 : Nat), (if ([] : List Str).length + t39.1.Keys.length ≤ 8796093022208 then (if (([] : List Str) ++ t39.1.Keys).length + t39.2.1.Keys.length ≤ 8796093022208 then (if x1152.length + t39.1.Rows.length ≤ 17592186044416 then (if (x1152 ++ t39.1.Rows).length + t39.2.1.Rows.length ≤ 17592186044416 then some (((([] : List Str) ++ t39.1.Keys) ++ t39.2.1.Keys), ((x1152 ++ t39.1.Rows) ++ t39.2.1.Rows)) else none) else none) else none) else none) = some o1917 ∧ Agree ρ [(1, .string (bs a1)), (2, .pointer (some ⟨b1, 0, none⟩)), (5, .pointer (some ⟨b62, 0, none⟩)), (6, .pointer (some ⟨b65, 0, none⟩)), (7, .string (bs t39.2.2.1)), (9, .pointer (some ⟨b104, 0, none⟩)), (97, .slice A41 t39.1.Keys.length c42), (100, .slice A50 t39.2.1.Keys.length c51), (102, .slice A1153 x1152.length c1154), (104, .slice A47 t39.1.Rows.length c48), (107, .slice A56 t39.2.1.Rows.length c57)] ∧ Ext w w' ∧ St w' M60 F [Row (rInt .u64) 41 (.slice A1153 x1152.length c1154) x1152, Blk b104 (.cells #[.bool x110, .slice A112 x111.length c113, .slice A116 x115.length c117, .slice A120 x119.length c121] 26 (0, 0)), Blk b65 (.cells #[.bool t39.2.1.Leaf, .slice A50 t39.2.1.Keys.length c51, .slice A53 t39.2.1.Kids.length c54, .slice A56 t39.2.1.Rows.length c57] 26 (0, 0)), Blk b62 (.cells #[.bool t39.1.Leaf, .slice A41 t39.1.Keys.length c42, .slice A44 t39.1.Kids.length c45, .slice A47 t39.1.Rows.length c48] 26 (0, 0)), Blk b1 (.cells #[.bool a0.Leaf, .slice A0_0 a0.Keys.length c0_0, .slice A0_1 a0.Kids.length c0_1, .slice A0_2 a0.Rows.length c0_2] 26 (0, 0))]) 8 (Ls 17 [1, 2, 4, 5, 7, 8, 9, 11, 12]) ?_ ?_
      · clear o1917h
        rintro ρ w2087 ⟨x1152, A1153, c1154, H, hρ, E, S⟩
        rw [agree_eta hρ]
        clear hρ
        refine Wa_oneOf (rs := [0, 15]) (by kernel_rfl) (by decide) ?_
        simp only [List.forall_mem_cons, List.not_mem_nil, false_implies, implies_true, and_true]
        refine ⟨?_, ?_⟩
        · refine ⟨_, rfl, ?_⟩
          refine W_bslice S #[] Try.underlying22 ty9 rfl rfl #[] (by kernel_rfl) (by kernel_rfl) rfl ?_
          intro b2088 w2089 E' S
          replace E := E.trans E'
          clear E'
          replace S := S.blk_row (r := rStr) (l := ([] : List Str)) 0 rfl 0 (Nat.le_refl 0) rfl Cells.nil
          refine Wl_nil (on_n ⟨⟨M60, Hp.le_refl M60, S.pick [2, 3, 4, 5] (by decide)⟩, ?_⟩)
          exact hq1923 _ _ ⟨([] : List Str), x1152, (some ⟨b2088, 0, none⟩), 0, A1153, c1154, H, ⟨rfl, rfl, rfl, rfl, rfl, rfl, rfl, rfl, rfl, rfl, rfl, rfl, trivial⟩, E, S.pick [1, 0, 2, 3, 4, 5] (by decide)⟩
        · refine ⟨_, rfl, ?_⟩
          refine W_alloc S #[.bool false, .slice none 0 0, .slice none 0 0, .slice none 0 0] ty26 rfl rfl ?_
          intro b2091 w2092 E' S
          replace E := E.trans E'
          clear E'
          refine Wl_nil (on_n ⟨⟨M60, Hp.le_refl M60, S.pick [2, 3, 4, 5] (by decide)⟩, ?_⟩)
          exact hq1925 _ _ ⟨x1152, A1153, c1154, b2091, H, ⟨rfl, rfl, rfl, rfl, rfl, rfl, rfl, rfl, rfl, rfl, rfl, rfl, trivial⟩, E, S.pick [0, 1, 2, 3, 4, 5] (by decide)⟩
      intro hq1920
      refine Wa_join (fun ρ w' => ∃ (x1134 : List Str) (A1135 : Option Addr) (c1136 : Nat), (if x1134.length + t39.1.Keys.length ≤ 8796093022208 then (if (x1134 ++ t39.1.Keys).length + t39.2.1.Keys.length ≤ 8796093022208 then (if ([] : List Int).length + t39.1.Rows.length ≤ 17592186044416 then (if (([] : List Int) ++ t39.1.Rows).length + t39.2.1.Rows.length ≤ 17592186044416 then some (((x1134 ++ t39.1.Keys) ++ t39.2.1.Keys), ((([] : List Int) ++ t39.1.Rows) ++ t39.2.1.Rows)) else none) else none) else none) else none) = some o1917 ∧ Agree ρ [(1, .string (bs a1)), (2, .pointer (some ⟨b1, 0, none⟩)), (5, .pointer (some ⟨b62, 0, none⟩)), (6, .pointer (some ⟨b65, 0, none⟩)), (7, .string (bs t39.2.2.1)), (9, .pointer (some ⟨b104, 0, none⟩)), (95, .slice A1135 x1134.length c1136), (97, .slice A41 t39.1.Keys.length c42), (100, .slice A50 t39.2.1.Keys.length c51), (104, .slice A47 t39.1.Rows.length c48), (107, .slice A56 t39.2.1.Rows.length c57)] ∧ Ext w w' ∧ St w' M60 F [Row rStr 9 (.slice A1135 x1134.length c1136) x1134, Blk b104 (.cells #[.bool x110, .slice A112 x111.length c113, .slice A116 x115.length c117, .slice A120 x119.length c121] 26 (0, 0)), Blk b65 (.cells #[.bool t39.2.1.Leaf, .slice A50 t39.2.1.Keys.length c51, .slice A53 t39.2.1.Kids.length c54, .slice A56 t39.2.1.Rows.length c57] 26 (0, 0)), Blk b62 (.cells #[.bool t39.1.Leaf, .slice A41 t39.1.Keys.length c42, .slice A44 t39.1.Kids.length c45, .slice A47 t39.1.Rows.length c48] 26 (0, 0)), Blk b1 (.cells #[.bool a0.Leaf, .slice A0_0 a0.Keys.length c0_0, .slice A0_1 a0.Kids.length c0_1, .slice A0_2 a0.Rows.length c0_2] 26 (0, 0))]) 8 (Ls 17 [0, 1, 2, 4, 5, 8, 9, 11, 12]) ?_ ?_
      · clear o1917h
        rintro ρ w2094 ⟨x1134, A1135, c1136, H, hρ, E, S⟩
        rw [agree_eta hρ]
        clear hρ
        refine Wa_oneOf (rs := [3, 7, 15]) (by kernel_rfl) (by decide) ?_
        simp only [List.forall_mem_cons, List.not_mem_nil, false_implies, implies_true, and_true]
        refine ⟨?_, ?_, ?_⟩
        · refine ⟨_, rfl, ?_⟩
          obtain ⟨p2095, H⟩ := chkS H
          obtain ⟨src2096, hs2097, hC2098⟩ := src_of_read (P := Try.prog) (ρ := rStr) (l := t39.1.Keys) (SlR.world hs43 S) (by decide)
          refine W_append S 0 rfl rfl rfl Try.underlying22 (.inl Try.underlying22) ty9 rfl (by decide) (by decide) hs2097 hC2098 rfl (by omega) rfl ?_
          intro v2099 w2100 E' S
          replace E := E.trans E'
          clear E'
          obtain ⟨A2101, c2102, rfl, _⟩ := (S.row_read 0 rfl).form
          refine Wl_nil (on_n ⟨⟨M60, Hp.le_refl M60, S.pick [1, 2, 3, 4] (by decide)⟩, ?_⟩)
          exact hq1922 _ _ ⟨(x1134 ++ t39.1.Keys), A2101, c2102, H, ⟨rfl, rfl, rfl, rfl, rfl, rfl, rfl, rfl, rfl, rfl, trivial⟩, E, S.pick [0, 1, 2, 3, 4] (by decide)⟩
        · refine ⟨_, rfl, ?_⟩
          refine W_bslice S #[] Try.underlying24 ty41 rfl rfl #[] (by kernel_rfl) (by kernel_rfl) rfl ?_
          intro b2103 w2104 E' S
          replace E := E.trans E'
          clear E'
          replace S := S.blk_row (r := (rInt .u64)) (l := ([] : List Int)) 0 rfl 0 (Nat.le_refl 0) rfl Cells.nil
          refine Wl_nil (on_n ⟨⟨M60, Hp.le_refl M60, S.pick [2, 3, 4, 5] (by decide)⟩, ?_⟩)
          exact hq1923 _ _ ⟨x1134, ([] : List Int), A1135, c1136, (some ⟨b2103, 0, none⟩), 0, H, ⟨rfl, rfl, rfl, rfl, rfl, rfl, rfl, rfl, rfl, rfl, rfl, rfl, trivial⟩, E, S.pick [0, 1, 2, 3, 4, 5] (by decide)⟩
        · refine ⟨_, rfl, ?_⟩
          refine W_alloc S #[.bool false, .slice none 0 0, .slice none 0 0, .slice none 0 0] ty26 rfl rfl ?_
          intro b2106 w2107 E' S
          replace E := E.trans E'
          clear E'
          refine Wl_nil (on_n ⟨⟨M60, Hp.le_refl M60, S.pick [2, 3, 4, 5] (by decide)⟩, ?_⟩)
          exact hq1924 _ _ ⟨x1134, A1135, c1136, b2106, H, ⟨rfl, rfl, rfl, rfl, rfl, rfl, rfl, rfl, rfl, rfl, rfl, rfl, trivial⟩, E, S.pick [0, 1, 2, 3, 4, 5] (by decide)⟩
      intro hq1919
      have H := o1917h
      refine Wa_oneOf (rs := [0, 7, 15]) (by kernel_rfl) (by decide) ?_
      simp only [List.forall_mem_cons, List.not_mem_nil, false_implies, implies_true, and_true]
      refine ⟨?_, ?_, ?_⟩
      · refine ⟨_, rfl, ?_⟩
        refine W_bslice S #[] Try.underlying22 ty9 rfl rfl #[] (by kernel_rfl) (by kernel_rfl) rfl ?_
        intro b2109 w2110 E' S
        replace E := E.trans E'
        clear E'
        replace S := S.blk_row (r := rStr) (l := ([] : List Str)) 0 rfl 0 (Nat.le_refl 0) rfl Cells.nil
        refine Wl_nil (on_n ⟨⟨M60, Hp.le_refl M60, S.pick [1, 2, 3, 4] (by decide)⟩, ?_⟩)
        exact hq1919 _ _ ⟨([] : List Str), (some ⟨b2109, 0, none⟩), 0, H, ⟨rfl, rfl, rfl, rfl, rfl, rfl, rfl, rfl, rfl, rfl, rfl, trivial⟩, E, S.pick [0, 1, 2, 3, 4] (by decide)⟩
      · refine ⟨_, rfl, ?_⟩
        refine W_bslice S #[] Try.underlying24 ty41 rfl rfl #[] (by kernel_rfl) (by kernel_rfl) rfl ?_
        intro b2112 w2113 E' S
        replace E := E.trans E'
        clear E'
        replace S := S.blk_row (r := (rInt .u64)) (l := ([] : List Int)) 0 rfl 0 (Nat.le_refl 0) rfl Cells.nil
        refine Wl_nil (on_n ⟨⟨M60, Hp.le_refl M60, S.pick [1, 2, 3, 4] (by decide)⟩, ?_⟩)
        exact hq1920 _ _ ⟨([] : List Int), (some ⟨b2112, 0, none⟩), 0, H, ⟨rfl, rfl, rfl, rfl, rfl, rfl, rfl, rfl, rfl, rfl, rfl, trivial⟩, E, S.pick [0, 1, 2, 3, 4] (by decide)⟩
      · refine ⟨_, rfl, ?_⟩
        refine W_alloc S #[.bool false, .slice none 0 0, .slice none 0 0, .slice none 0 0] ty26 rfl rfl ?_
        intro b2115 w2116 E' S
        replace E := E.trans E'
        clear E'
        refine Wl_nil (on_n ⟨⟨M60, Hp.le_refl M60, S.pick [1, 2, 3, 4] (by decide)⟩, ?_⟩)
        exact hq1921 _ _ ⟨b2115, H, ⟨rfl, rfl, rfl, rfl, rfl, rfl, rfl, rfl, rfl, rfl, rfl, trivial⟩, E, S.pick [0, 1, 2, 3, 4] (by decide)⟩
    clear o1917h
    rintro ρ w2118 ⟨x1411, x1415, A1412, c1413, A1416, c1417, b1409, rfl, hρ, E, S⟩
    rw [agree_eta hρ]
    clear hρ
    have H := o1917H
    clear o1917H
    refine Wa_solo (i := 16) rfl (by kernel_rfl) ?_
    refine W_store S 0 rfl ty26 rfl rfl [.bool true, .slice A1412 x1411.length c1413, .slice none 0 0, .slice A1416 x1415.length c1417] rfl rfl rfl #[.bool true, .slice A1412 x1411.length c1413, .slice none 0 0, .slice A1416 x1415.length c1417] rfl rfl ?_
    intro w2119 E' S
    replace E := E.trans E'
    clear E'
    refine Wl_nil (on_n ⟨⟨M60, Hp.le_refl M60, S.pick [3, 4, 5, 6] (by decide)⟩, ?_⟩)
    refine Wa_done (by kernel_rfl) ?_
    refine tn ?_
    refine Wp_seq ?_
    refine Wp_region_lit ?_
    refine W_v (.agg #[.bool a0.Leaf, .slice A0_0 a0.Keys.length c0_0, .slice A0_1 a0.Kids.length c0_1, .slice A0_2 a0.Rows.length c0_2]) (x_loadA (S.blk 6 rfl) ty26 rfl (sub_of_extract rfl) rfl rfl) rfl ?_
    refine W_v (.string (bs a1)) (x_move rfl) rfl ?_
    obtain ⟨t2120, ht2121, H⟩ := bindS H
    refine W_callF fn12 (fork_Place.con k M60 A0_0 c0_0 A0_1 c0_1 A0_2 c0_2 a0 a1 t2120 hr0_0 hr0_1 hr0_2 ht2121) S rfl rfl (by rintro _ _ _ ⟨_, rfl⟩; exact flat_nil) ?_
    rintro _ w2122 _ Γ' E' S ⟨rfl, rfl⟩
    replace E := E.trans E'
    clear E'
    refine W_v (.tuple #[.int .i64 t2120.1, .bool t2120.2]) (x_move rfl) rfl ?_
    refine W_v (.int .i64 t2120.1) (x_extract rfl rfl) rfl ?_
    refine W_v (.bool t2120.2) (x_extract rfl rfl) rfl ?_
    refine W_v (.int .i64 t2120.1) (x_assign rfl) rfl ?_
    refine W_v (.bool t2120.2) (x_assign rfl) rfl ?_
    refine Wl_nil ?_
    refine tn ?_
    refine Wp_seq ?_
    refine Wp_region_lit ?_
    refine W_v (.agg #[.bool x110, .slice A112 x111.length c113, .slice A116 x115.length c117, .slice A120 x119.length c121]) (x_loadA (S.blk 3 rfl) ty26 rfl (sub_of_extract rfl) rfl rfl) rfl ?_
    refine W_v (.string (bs a1)) (x_move rfl) rfl ?_
    obtain ⟨t2123, ht2124, H⟩ := bindS H
    refine W_callF fn12 (fork_Place.con k M60 A112 c113 A116 c117 A120 c121 (⟨x110, x111, x115, x119⟩ : fork_Node) a1 t2123 hs114 hs118 hs122 ht2124) S rfl rfl (by rintro _ _ _ ⟨_, rfl⟩; exact flat_nil) ?_
    rintro _ w2125 _ Γ' E' S ⟨rfl, rfl⟩
    replace E := E.trans E'
    clear E'
    refine W_v (.tuple #[.int .i64 t2123.1, .bool t2123.2]) (x_move rfl) rfl ?_
    refine W_v (.int .i64 t2123.1) (x_extract rfl rfl) rfl ?_
    refine W_v (.bool t2123.2) (x_extract rfl rfl) rfl ?_
    refine W_v (.int .i64 t2123.1) (x_assign rfl) rfl ?_
    refine W_v (.bool t2123.2) (x_assign rfl) rfl ?_
    refine Wl_nil ?_
    refine tn ?_
    refine Wp_seq ?_
    refine Wp_region_any (S := fun w' => ∃ Mx, M60.le Mx ∧ St w' Mx F [Blk b1409 (.cells #[.bool true, .slice A1412 x1411.length c1413, .slice none 0 0, .slice A1416 x1415.length c1417] 26 (0, 0)), Row (rInt .u64) 41 (.slice A1416 x1415.length c1417) x1415, Row rStr 9 (.slice A1412 x1411.length c1413) x1411, Blk b104 (.cells #[.bool x110, .slice A112 x111.length c113, .slice A116 x115.length c117, .slice A120 x119.length c121] 26 (0, 0)), Blk b65 (.cells #[.bool t39.2.1.Leaf, .slice A50 t39.2.1.Keys.length c51, .slice A53 t39.2.1.Kids.length c54, .slice A56 t39.2.1.Rows.length c57] 26 (0, 0)), Blk b62 (.cells #[.bool t39.1.Leaf, .slice A41 t39.1.Keys.length c42, .slice A44 t39.1.Kids.length c45, .slice A47 t39.1.Rows.length c48] 26 (0, 0)), Blk b1 (.cells #[.bool a0.Leaf, .slice A0_0 a0.Keys.length c0_0, .slice A0_1 a0.Kids.length c0_1, .slice A0_2 a0.Rows.length c0_2] 26 (0, 0))]) mixed ?_
    intro w2265 hw2266 E'
    replace S := S.heap hw2266
    replace E := E.trans E'
    clear E'
    refine Wa_take (i := 0) rfl (by kernel_rfl) rfl rfl (.pointer (some ⟨b65, 1, none⟩)) rfl (fun w' h' => x_fieldAddr (o := 0) (off := 1) Try.underlying26 rfl ty22 rfl rfl) (⟨M60, Hp.le_refl M60, S.pick [0, 1, 2, 3, 4, 5, 6] (by decide)⟩) ?_
    refine Wa_take (i := 1) rfl (by kernel_rfl) rfl rfl (.slice A50 t39.2.1.Keys.length c51) rfl (fun w' h' => x_load (cls_blk h' 4 rfl) ty22 rfl rfl) (⟨M60, Hp.le_refl M60, S.pick [0, 1, 2, 3, 4, 5, 6] (by decide)⟩) ?_
    obtain ⟨⟨p2267, p2268⟩, H⟩ := chkS H
    obtain ⟨b2269, o2270, cs2271, _, _, ee2276, hb2272, vs2273, hR2274, hc2275⟩ := SlW.at' hs52 p2267 p2268
    obtain rfl : vs2273 = _ := hR2274
    refine Wa_take (i := 2) rfl (by kernel_rfl) rfl rfl (.pointer (some ⟨b2269, o2270 + (0 : Int).toNat * 1, none⟩)) rfl (fun w' h' => x_indexAddr Try.underlying22 ty9 (slA ee2276) rfl p2267 p2268) (⟨M60, Hp.le_refl M60, S.pick [0, 1, 2, 3, 4, 5, 6] (by decide)⟩) ?_
    refine Wa_take (i := 3) rfl (by kernel_rfl) rfl rfl (.string (bs (rd t39.2.1.Keys (0 : Int)))) rfl (fun w' h' => x_load (cls_frz h' hb2272) ty9 rfl (hc2275 0 _ rfl)) (⟨M60, Hp.le_refl M60, S.pick [0, 1, 2, 3, 4, 5, 6] (by decide)⟩) ?_
    refine Wa_take (i := 4) rfl (by kernel_rfl) rfl rfl (.string (bs t39.2.2.1)) rfl (fun w' h' => x_move rfl) (⟨M60, Hp.le_refl M60, S.pick [0, 1, 2, 3, 4, 5, 6] (by decide)⟩) ?_
    refine Wa_take (i := 5) rfl (by kernel_rfl) rfl rfl (.bool (sbin .eql (rd t39.2.1.Keys (0 : Int)) t39.2.2.1)) rfl (fun w' h' => x_sbin rfl rfl rfl) (⟨M60, Hp.le_refl M60, S.pick [0, 1, 2, 3, 4, 5, 6] (by decide)⟩) ?_
    refine Wa_take (i := 6) rfl (by kernel_rfl) rfl rfl (.bool (sbin .eql (rd t39.2.1.Keys (0 : Int)) t39.2.2.1)) rfl (fun w' h' => x_move rfl) (⟨M60, Hp.le_refl M60, S.pick [0, 1, 2, 3, 4, 5, 6] (by decide)⟩) ?_
    obtain ⟨o2289, o2289h, o2289H⟩ := bindS H
    clear H
    refine Wa_join (fun ρ w' => ∃ (x2288 : Bool), (x2288) = o2289 ∧ Agree ρ [(2, .pointer (some ⟨b1, 0, none⟩)), (5, .pointer (some ⟨b62, 0, none⟩)), (6, .pointer (some ⟨b65, 0, none⟩)), (9, .pointer (some ⟨b104, 0, none⟩)), (10, .pointer (some ⟨b1409, 0, none⟩)), (11, .int .i64 t2120.1), (12, .bool t2120.2), (13, .int .i64 t2123.1), (14, .bool t2123.2), (139, .bool x2288)] ∧ Ext w w' ∧ St w' M60 F [Blk b1409 (.cells #[.bool true, .slice A1412 x1411.length c1413, .slice none 0 0, .slice A1416 x1415.length c1417] 26 (0, 0)), Row (rInt .u64) 41 (.slice A1416 x1415.length c1417) x1415, Row rStr 9 (.slice A1412 x1411.length c1413) x1411, Blk b104 (.cells #[.bool x110, .slice A112 x111.length c113, .slice A116 x115.length c117, .slice A120 x119.length c121] 26 (0, 0)), Blk b65 (.cells #[.bool t39.2.1.Leaf, .slice A50 t39.2.1.Keys.length c51, .slice A53 t39.2.1.Kids.length c54, .slice A56 t39.2.1.Rows.length c57] 26 (0, 0)), Blk b62 (.cells #[.bool t39.1.Leaf, .slice A41 t39.1.Keys.length c42, .slice A44 t39.1.Kids.length c45, .slice A47 t39.1.Rows.length c48] 26 (0, 0)), Blk b1 (.cells #[.bool a0.Leaf, .slice A0_0 a0.Keys.length c0_0, .slice A0_1 a0.Kids.length c0_1, .slice A0_2 a0.Rows.length c0_2] 26 (0, 0))]) 47 (Ls 65 [0, 1, 2, 3, 4, 5, 6, 7, 8, 9, 10, 11, 12, 13, 14, 15, 16, 17]) ?_ ?_
    rotate_left
    · intro hrest
      have H := o2289h
      clear o2289h o2289H
      rcases iteS H with ⟨hb2287, H⟩ | ⟨hb2287, H⟩
      · skip
        refine Wa_takeY (i := 7) rfl (by kernel_rfl) rfl rfl (.pointer (some ⟨b62, 1, none⟩)) rfl (congrArg some hb2287) (fun w' h' => x_fieldAddr (o := 0) (off := 1) Try.underlying26 rfl ty22 rfl rfl) (⟨M60, Hp.le_refl M60, S.pick [0, 1, 2, 3, 4, 5, 6] (by decide)⟩) ?_
        refine Wa_takeY (i := 8) rfl (by kernel_rfl) rfl rfl (.slice A41 t39.1.Keys.length c42) rfl (congrArg some hb2287) (fun w' h' => x_load (cls_blk h' 5 rfl) ty22 rfl rfl) (⟨M60, Hp.le_refl M60, S.pick [0, 1, 2, 3, 4, 5, 6] (by decide)⟩) ?_
        refine Wa_takeY (i := 9) rfl (by kernel_rfl) rfl rfl (.pointer (some ⟨b62, 1, none⟩)) rfl (congrArg some hb2287) (fun w' h' => x_fieldAddr (o := 0) (off := 1) Try.underlying26 rfl ty22 rfl rfl) (⟨M60, Hp.le_refl M60, S.pick [0, 1, 2, 3, 4, 5, 6] (by decide)⟩) ?_
        refine Wa_takeY (i := 10) rfl (by kernel_rfl) rfl rfl (.slice A41 t39.1.Keys.length c42) rfl (congrArg some hb2287) (fun w' h' => x_load (cls_blk h' 5 rfl) ty22 rfl rfl) (⟨M60, Hp.le_refl M60, S.pick [0, 1, 2, 3, 4, 5, 6] (by decide)⟩) ?_
        refine Wa_takeY (i := 11) rfl (by kernel_rfl) rfl rfl (.int .i64 (t39.1.Keys.length : Int)) rfl (congrArg some hb2287) (fun w' h' => x_len_slice (n := t39.1.Keys.length) Try.underlying22 rfl) (⟨M60, Hp.le_refl M60, S.pick [0, 1, 2, 3, 4, 5, 6] (by decide)⟩) ?_
        refine Wa_takeY (i := 12) rfl (by kernel_rfl) rfl rfl (.int .i64 (IntKind.i64.wrap ((t39.1.Keys.length : Int) - (1 : Int)))) rfl (congrArg some hb2287) (fun w' h' => x_ibin rfl rfl rfl rfl) (⟨M60, Hp.le_refl M60, S.pick [0, 1, 2, 3, 4, 5, 6] (by decide)⟩) ?_
        obtain ⟨⟨p2290, p2291⟩, H⟩ := chkS H
        obtain ⟨b2292, o2293, cs2294, _, _, ee2299, hb2295, vs2296, hR2297, hc2298⟩ := SlW.at' hs43 p2290 p2291
        obtain rfl : vs2296 = _ := hR2297
        refine Wa_takeY (i := 13) rfl (by kernel_rfl) rfl rfl (.pointer (some ⟨b2292, o2293 + (IntKind.i64.wrap ((t39.1.Keys.length : Int) - (1 : Int))).toNat * 1, none⟩)) rfl (congrArg some hb2287) (fun w' h' => x_indexAddr Try.underlying22 ty9 (slA ee2299) rfl p2290 p2291) (⟨M60, Hp.le_refl M60, S.pick [0, 1, 2, 3, 4, 5, 6] (by decide)⟩) ?_
        refine Wa_takeY (i := 14) rfl (by kernel_rfl) rfl rfl (.string (bs (rd t39.1.Keys (IntKind.i64.wrap ((t39.1.Keys.length : Int) - (1 : Int)))))) rfl (congrArg some hb2287) (fun w' h' => x_load (cls_frz h' hb2295) ty9 rfl (hc2298 0 _ rfl)) (⟨M60, Hp.le_refl M60, S.pick [0, 1, 2, 3, 4, 5, 6] (by decide)⟩) ?_
        refine Wa_takeY (i := 15) rfl (by kernel_rfl) rfl rfl (.string (bs t39.2.2.1)) rfl (congrArg some hb2287) (fun w' h' => x_move rfl) (⟨M60, Hp.le_refl M60, S.pick [0, 1, 2, 3, 4, 5, 6] (by decide)⟩) ?_
        refine Wa_takeY (i := 16) rfl (by kernel_rfl) rfl rfl (.bool (sbin .lss (rd t39.1.Keys (IntKind.i64.wrap ((t39.1.Keys.length : Int) - (1 : Int)))) t39.2.2.1)) rfl (congrArg some hb2287) (fun w' h' => x_sbin rfl rfl rfl) (⟨M60, Hp.le_refl M60, S.pick [0, 1, 2, 3, 4, 5, 6] (by decide)⟩) ?_
        refine Wa_take (i := 17) rfl (by kernel_rfl) rfl rfl (.bool (sbin .lss (rd t39.1.Keys (IntKind.i64.wrap ((t39.1.Keys.length : Int) - (1 : Int)))) t39.2.2.1)) rfl (fun w' h' => x_pick (k := true) (congrArg Value.bool hb2287) rfl) (⟨M60, Hp.le_refl M60, S.pick [0, 1, 2, 3, 4, 5, 6] (by decide)⟩) ?_
        exact hrest _ _ ⟨(sbin .lss (rd t39.1.Keys (IntKind.i64.wrap ((t39.1.Keys.length : Int) - (1 : Int)))) t39.2.2.1), Option.some.inj H, ⟨rfl, rfl, rfl, rfl, rfl, rfl, rfl, rfl, rfl, rfl, trivial⟩, E, S.pick [0, 1, 2, 3, 4, 5, 6] (by decide)⟩
      · skip
        refine Wa_takeN (i := 7) rfl (by kernel_rfl) rfl rfl rfl (skT hb2287) (⟨M60, Hp.le_refl M60, S.pick [0, 1, 2, 3, 4, 5, 6] (by decide)⟩) ?_
        refine Wa_takeN (i := 8) rfl (by kernel_rfl) rfl rfl rfl (skT hb2287) (⟨M60, Hp.le_refl M60, S.pick [0, 1, 2, 3, 4, 5, 6] (by decide)⟩) ?_
        refine Wa_takeN (i := 9) rfl (by kernel_rfl) rfl rfl rfl (skT hb2287) (⟨M60, Hp.le_refl M60, S.pick [0, 1, 2, 3, 4, 5, 6] (by decide)⟩) ?_
        refine Wa_takeN (i := 10) rfl (by kernel_rfl) rfl rfl rfl (skT hb2287) (⟨M60, Hp.le_refl M60, S.pick [0, 1, 2, 3, 4, 5, 6] (by decide)⟩) ?_
        refine Wa_takeN (i := 11) rfl (by kernel_rfl) rfl rfl rfl (skT hb2287) (⟨M60, Hp.le_refl M60, S.pick [0, 1, 2, 3, 4, 5, 6] (by decide)⟩) ?_
        refine Wa_takeN (i := 12) rfl (by kernel_rfl) rfl rfl rfl (skT hb2287) (⟨M60, Hp.le_refl M60, S.pick [0, 1, 2, 3, 4, 5, 6] (by decide)⟩) ?_
        refine Wa_takeN (i := 13) rfl (by kernel_rfl) rfl rfl rfl (skT hb2287) (⟨M60, Hp.le_refl M60, S.pick [0, 1, 2, 3, 4, 5, 6] (by decide)⟩) ?_
        refine Wa_takeN (i := 14) rfl (by kernel_rfl) rfl rfl rfl (skT hb2287) (⟨M60, Hp.le_refl M60, S.pick [0, 1, 2, 3, 4, 5, 6] (by decide)⟩) ?_
        refine Wa_takeN (i := 15) rfl (by kernel_rfl) rfl rfl rfl (skT hb2287) (⟨M60, Hp.le_refl M60, S.pick [0, 1, 2, 3, 4, 5, 6] (by decide)⟩) ?_
        refine Wa_takeN (i := 16) rfl (by kernel_rfl) rfl rfl rfl (skT hb2287) (⟨M60, Hp.le_refl M60, S.pick [0, 1, 2, 3, 4, 5, 6] (by decide)⟩) ?_
        refine Wa_take (i := 17) rfl (by kernel_rfl) rfl rfl (.bool false) rfl (fun w' h' => x_pick (k := false) (congrArg Value.bool hb2287) rfl) (⟨M60, Hp.le_refl M60, S.pick [0, 1, 2, 3, 4, 5, 6] (by decide)⟩) ?_
        exact hrest _ _ ⟨false, Option.some.inj H, ⟨rfl, rfl, rfl, rfl, rfl, rfl, rfl, rfl, rfl, rfl, trivial⟩, E, S.pick [0, 1, 2, 3, 4, 5, 6] (by decide)⟩
    clear o2289h
    rintro ρ w2300 ⟨x2288, rfl, hρ, E, S⟩
    rw [agree_eta hρ]
    clear hρ
    have H := o2289H
    clear o2289H
    refine Wa_take (i := 18) rfl (by kernel_rfl) rfl rfl (.bool x2288) rfl (fun w' h' => x_move rfl) (⟨M60, Hp.le_refl M60, S.pick [0, 1, 2, 3, 4, 5, 6] (by decide)⟩) ?_
    obtain ⟨o2306, o2306h, o2306H⟩ := bindS H
    clear H
    refine Wa_join (fun ρ w' => ∃ (x2305 : Bool), (x2305) = o2306 ∧ Agree ρ [(2, .pointer (some ⟨b1, 0, none⟩)), (5, .pointer (some ⟨b62, 0, none⟩)), (6, .pointer (some ⟨b65, 0, none⟩)), (9, .pointer (some ⟨b104, 0, none⟩)), (11, .int .i64 t2120.1), (12, .bool t2120.2), (13, .int .i64 t2123.1), (14, .bool t2123.2), (144, .bool x2305)] ∧ Ext w w' ∧ St w' M60 F [Row rStr 9 (.slice A1412 x1411.length c1413) x1411, Row (rInt .u64) 41 (.slice A1416 x1415.length c1417) x1415, Blk b1409 (.cells #[.bool true, .slice A1412 x1411.length c1413, .slice none 0 0, .slice A1416 x1415.length c1417] 26 (0, 0)), Blk b104 (.cells #[.bool x110, .slice A112 x111.length c113, .slice A116 x115.length c117, .slice A120 x119.length c121] 26 (0, 0)), Blk b65 (.cells #[.bool t39.2.1.Leaf, .slice A50 t39.2.1.Keys.length c51, .slice A53 t39.2.1.Kids.length c54, .slice A56 t39.2.1.Rows.length c57] 26 (0, 0)), Blk b62 (.cells #[.bool t39.1.Leaf, .slice A41 t39.1.Keys.length c42, .slice A44 t39.1.Kids.length c45, .slice A47 t39.1.Rows.length c48] 26 (0, 0)), Blk b1 (.cells #[.bool a0.Leaf, .slice A0_0 a0.Keys.length c0_0, .slice A0_1 a0.Kids.length c0_1, .slice A0_2 a0.Rows.length c0_2] 26 (0, 0))]) 42 (Ls 65 [0, 1, 2, 3, 4, 5, 6, 7, 8, 9, 10, 11, 12, 13, 14, 15, 16, 17, 18, 19, 20, 21, 22]) ?_ ?_
    rotate_left
    · intro hrest
      have H := o2306h
      clear o2306h o2306H
      rcases iteS H with ⟨hb2304, H⟩ | ⟨hb2304, H⟩
      · skip
        refine Wa_takeY (i := 19) rfl (by kernel_rfl) rfl rfl (.agg #[.bool true, .slice A1412 x1411.length c1413, .slice none 0 0, .slice A1416 x1415.length c1417]) rfl (congrArg some hb2304) (fun w' h' => x_loadA (cls_blk h' 0 rfl) ty26 rfl (sub_of_extract rfl) rfl rfl) (⟨M60, Hp.le_refl M60, S.pick [0, 1, 2, 3, 4, 5, 6] (by decide)⟩) ?_
        refine Wa_takeY (i := 20) rfl (by kernel_rfl) rfl rfl (.agg #[.bool a0.Leaf, .slice A0_0 a0.Keys.length c0_0, .slice A0_1 a0.Kids.length c0_1, .slice A0_2 a0.Rows.length c0_2]) rfl (congrArg some hb2304) (fun w' h' => x_loadA (cls_blk h' 6 rfl) ty26 rfl (sub_of_extract rfl) rfl rfl) (⟨M60, Hp.le_refl M60, S.pick [0, 1, 2, 3, 4, 5, 6] (by decide)⟩) ?_
        refine Wa_solo (i := 21) rfl (by kernel_rfl) ?_
        refine W_yes (congrArg some hb2304) ?_
        replace S : St w2300 M60 F [Row rStr 9 (.slice A1412 x1411.length c1413) x1411, Row (rInt .u64) 41 (.slice A1416 x1415.length c1417) x1415, Blk b1409 (.cells #[.bool true, .slice A1412 x1411.length c1413, .slice none 0 0, .slice A1416 x1415.length c1417] 26 (0, 0)), Blk b104 (.cells #[.bool x110, .slice A112 x111.length c113, .slice A116 x115.length c117, .slice A120 x119.length c121] 26 (0, 0)), Blk b65 (.cells #[.bool t39.2.1.Leaf, .slice A50 t39.2.1.Keys.length c51, .slice A53 t39.2.1.Kids.length c54, .slice A56 t39.2.1.Rows.length c57] 26 (0, 0)), Blk b62 (.cells #[.bool t39.1.Leaf, .slice A41 t39.1.Keys.length c42, .slice A44 t39.1.Kids.length c45, .slice A47 t39.1.Rows.length c48] 26 (0, 0)), Blk b1 (.cells #[.bool a0.Leaf, .slice A0_0 a0.Keys.length c0_0, .slice A0_1 a0.Kids.length c0_1, .slice A0_2 a0.Rows.length c0_2] 26 (0, 0))] := S.pick [2, 1, 0, 3, 4, 5, 6] (by decide)
        obtain ⟨t2307, ht2308, H⟩ := bindS H
        refine W_callN 2 fn16 (fun h9 hs9 hd9 => ferrymanref13_Same.con k _ A1412 c1413 none 0 A1416 c1417 (⟨true, x1411, ([] : (List Int)), x1415⟩ : ferrymanref13_Node) A0_0 c0_0 A0_1 c0_1 A0_2 c0_2 (⟨a0.Leaf, a0.Keys, a0.Kids, a0.Rows⟩ : ferrymanref13_Node) t2307 (Sats.row hs9 hd9 0 rfl) (SlW.nil _ _) (Sats.row hs9 hd9 1 rfl) (SlR.mono hr0_0 (Hp.le_union_left _ _)) (SlR.mono hr0_1 (Hp.le_union_left _ _)) (SlR.mono hr0_2 (Hp.le_union_left _ _)) ht2308) S rfl rfl (by rintro _ _ _ ⟨_, rfl⟩; exact flat_nil) ?_
        rintro _ w2309 _ Γ' E' S ⟨rfl, rfl⟩
        replace E := E.trans E'
        clear E'
        refine Wl_nil (on_n ⟨⟨M60, Hp.le_refl M60, S.pick [2, 1, 0, 3, 4, 5, 6] (by decide)⟩, ?_⟩)
        refine Wa_take (i := 22) rfl (by kernel_rfl) rfl rfl (.bool t2307) rfl (fun w' h' => x_pick (k := true) (congrArg Value.bool hb2304) rfl) (⟨M60, Hp.le_refl M60, S.pick [2, 1, 0, 3, 4, 5, 6] (by decide)⟩) ?_
        exact hrest _ _ ⟨t2307, Option.some.inj H, ⟨rfl, rfl, rfl, rfl, rfl, rfl, rfl, rfl, rfl, trivial⟩, E, S.pick [0, 1, 2, 3, 4, 5, 6] (by decide)⟩
      · skip
        refine Wa_takeN (i := 19) rfl (by kernel_rfl) rfl rfl rfl (skT hb2304) (⟨M60, Hp.le_refl M60, S.pick [0, 1, 2, 3, 4, 5, 6] (by decide)⟩) ?_
        refine Wa_takeN (i := 20) rfl (by kernel_rfl) rfl rfl rfl (skT hb2304) (⟨M60, Hp.le_refl M60, S.pick [0, 1, 2, 3, 4, 5, 6] (by decide)⟩) ?_
        refine Wa_takeN (i := 21) rfl (by kernel_rfl) rfl rfl rfl (skT hb2304) (⟨M60, Hp.le_refl M60, S.pick [0, 1, 2, 3, 4, 5, 6] (by decide)⟩) ?_
        refine Wa_take (i := 22) rfl (by kernel_rfl) rfl rfl (.bool false) rfl (fun w' h' => x_pick (k := false) (congrArg Value.bool hb2304) rfl) (⟨M60, Hp.le_refl M60, S.pick [0, 1, 2, 3, 4, 5, 6] (by decide)⟩) ?_
        exact hrest _ _ ⟨false, Option.some.inj H, ⟨rfl, rfl, rfl, rfl, rfl, rfl, rfl, rfl, rfl, trivial⟩, E, S.pick [2, 1, 0, 3, 4, 5, 6] (by decide)⟩
    clear o2306h
    rintro ρ w2310 ⟨x2305, rfl, hρ, E, S⟩
    rw [agree_eta hρ]
    clear hρ
    have H := o2306H
    clear o2306H
    refine Wa_take (i := 23) rfl (by kernel_rfl) rfl rfl (.bool x2305) rfl (fun w' h' => x_move rfl) (⟨M60, Hp.le_refl M60, S.pick [2, 1, 0, 3, 4, 5, 6] (by decide)⟩) ?_
    refine Wa_join (fun ρ w' => Agree ρ [(2, .pointer (some ⟨b1, 0, none⟩)), (5, .pointer (some ⟨b62, 0, none⟩)), (6, .pointer (some ⟨b65, 0, none⟩)), (9, .pointer (some ⟨b104, 0, none⟩)), (11, .int .i64 t2120.1), (13, .int .i64 t2123.1), (14, .bool t2123.2), (149, .bool (x2305 && (t2123.2 == t2120.2)))] ∧ w2310 = w') 37 (Ls 65 [0, 1, 2, 3, 4, 5, 6, 7, 8, 9, 10, 11, 12, 13, 14, 15, 16, 17, 18, 19, 20, 21, 22, 23, 24, 25, 26, 27]) ?_ ?_
    rotate_left
    · intro hrest
      rcases boolCases x2305 with hb2311 | hb2311
      · skip
        refine Wa_takeN (i := 24) rfl (by kernel_rfl) rfl rfl rfl (skT hb2311) (⟨M60, Hp.le_refl M60, S.pick [2, 1, 0, 3, 4, 5, 6] (by decide)⟩) ?_
        refine Wa_takeN (i := 25) rfl (by kernel_rfl) rfl rfl rfl (skT hb2311) (⟨M60, Hp.le_refl M60, S.pick [2, 1, 0, 3, 4, 5, 6] (by decide)⟩) ?_
        refine Wa_takeN (i := 26) rfl (by kernel_rfl) rfl rfl rfl (skT hb2311) (⟨M60, Hp.le_refl M60, S.pick [2, 1, 0, 3, 4, 5, 6] (by decide)⟩) ?_
        refine Wa_take (i := 27) rfl (by kernel_rfl) rfl rfl (.bool false) rfl (fun w' h' => x_pick (k := false) (congrArg Value.bool hb2311) rfl) (⟨M60, Hp.le_refl M60, S.pick [2, 1, 0, 3, 4, 5, 6] (by decide)⟩) ?_
        exact hrest _ _ ⟨⟨rfl, rfl, rfl, rfl, rfl, rfl, rfl, (by first | rfl | (rw [hb2311]; rfl) | (simp only [hb2311]; rfl)), trivial⟩, rfl⟩
      · skip
        refine Wa_takeY (i := 24) rfl (by kernel_rfl) rfl rfl (.bool t2123.2) rfl (congrArg some hb2311) (fun w' h' => x_move rfl) (⟨M60, Hp.le_refl M60, S.pick [2, 1, 0, 3, 4, 5, 6] (by decide)⟩) ?_
        refine Wa_takeY (i := 25) rfl (by kernel_rfl) rfl rfl (.bool t2120.2) rfl (congrArg some hb2311) (fun w' h' => x_move rfl) (⟨M60, Hp.le_refl M60, S.pick [2, 1, 0, 3, 4, 5, 6] (by decide)⟩) ?_
        refine Wa_takeY (i := 26) rfl (by kernel_rfl) rfl rfl (.bool (t2123.2 == t2120.2)) rfl (congrArg some hb2311) (fun w' h' => x_beq Try.underlying4 rfl rfl) (⟨M60, Hp.le_refl M60, S.pick [2, 1, 0, 3, 4, 5, 6] (by decide)⟩) ?_
        refine Wa_take (i := 27) rfl (by kernel_rfl) rfl rfl (.bool (t2123.2 == t2120.2)) rfl (fun w' h' => x_pick (k := true) (congrArg Value.bool hb2311) rfl) (⟨M60, Hp.le_refl M60, S.pick [2, 1, 0, 3, 4, 5, 6] (by decide)⟩) ?_
        exact hrest _ _ ⟨⟨rfl, rfl, rfl, rfl, rfl, rfl, rfl, (by first | rfl | (rw [hb2311]; rfl) | (simp only [hb2311]; rfl)), trivial⟩, rfl⟩
    rintro ρ _ ⟨hρ, rfl⟩
    rw [agree_eta hρ]
    clear hρ
    refine Wa_take (i := 28) rfl (by kernel_rfl) rfl rfl (.bool (x2305 && (t2123.2 == t2120.2))) rfl (fun w' h' => x_move rfl) (⟨M60, Hp.le_refl M60, S.pick [2, 1, 0, 3, 4, 5, 6] (by decide)⟩) ?_
    obtain ⟨o2358, o2358h, o2358H⟩ := bindS H
    clear H
    refine Wa_join (fun ρ w' => ∃ (x2357 : Bool), (x2357) = o2358 ∧ Agree ρ [(5, .pointer (some ⟨b62, 0, none⟩)), (6, .pointer (some ⟨b65, 0, none⟩)), (166, .bool x2357)] ∧ Ext w w' ∧ St w' M60 F [Row rStr 9 (.slice A1412 x1411.length c1413) x1411, Row (rInt .u64) 41 (.slice A1416 x1415.length c1417) x1415, Blk b1409 (.cells #[.bool true, .slice A1412 x1411.length c1413, .slice none 0 0, .slice A1416 x1415.length c1417] 26 (0, 0)), Blk b104 (.cells #[.bool x110, .slice A112 x111.length c113, .slice A116 x115.length c117, .slice A120 x119.length c121] 26 (0, 0)), Blk b65 (.cells #[.bool t39.2.1.Leaf, .slice A50 t39.2.1.Keys.length c51, .slice A53 t39.2.1.Kids.length c54, .slice A56 t39.2.1.Rows.length c57] 26 (0, 0)), Blk b62 (.cells #[.bool t39.1.Leaf, .slice A41 t39.1.Keys.length c42, .slice A44 t39.1.Kids.length c45, .slice A47 t39.1.Rows.length c48] 26 (0, 0)), Blk b1 (.cells #[.bool a0.Leaf, .slice A0_0 a0.Keys.length c0_0, .slice A0_1 a0.Kids.length c0_1, .slice A0_2 a0.Rows.length c0_2] 26 (0, 0))]) 20 (Ls 65 [0, 1, 2, 3, 4, 5, 6, 7, 8, 9, 10, 11, 12, 13, 14, 15, 16, 17, 18, 19, 20, 21, 22, 23, 24, 25, 26, 27, 28, 29, 30, 31, 32, 33, 34, 35, 36, 37, 38, 39, 40, 41, 42, 43, 44]) ?_ ?_
    rotate_left
    · intro hrest
      have H := o2358h
      clear o2358h o2358H
      rcases iteS H with ⟨hb2356, H⟩ | ⟨hb2356, H⟩
      · skip
        refine Wa_takeY (i := 29) rfl (by kernel_rfl) rfl rfl (.bool t2123.2) rfl (congrArg some hb2356) (fun w' h' => x_move rfl) (⟨M60, Hp.le_refl M60, S.pick [2, 1, 0, 3, 4, 5, 6] (by decide)⟩) ?_
        refine Wa_takeY (i := 30) rfl (by kernel_rfl) rfl rfl (.bool (!t2123.2)) rfl (congrArg some hb2356) (fun w' h' => x_not rfl) (⟨M60, Hp.le_refl M60, S.pick [2, 1, 0, 3, 4, 5, 6] (by decide)⟩) ?_
        refine Wa_takeY (i := 31) rfl (by kernel_rfl) rfl rfl (.bool (!t2123.2)) rfl (congrArg some hb2356) (fun w' h' => x_move rfl) (⟨M60, Hp.le_refl M60, S.pick [2, 1, 0, 3, 4, 5, 6] (by decide)⟩) ?_
        obtain ⟨o2381, o2381h, o2381H⟩ := bindS H
        clear H
        refine Wa_join (fun ρ w' => ∃ (x2380 : Bool), (x2380) = o2381 ∧ Agree ρ [(5, .pointer (some ⟨b62, 0, none⟩)), (6, .pointer (some ⟨b65, 0, none⟩)), (150, .bool (x2305 && (t2123.2 == t2120.2))), (165, .bool x2380)] ∧ Ext w w' ∧ St w' M60 F [Row rStr 9 (.slice A1412 x1411.length c1413) x1411, Row (rInt .u64) 41 (.slice A1416 x1415.length c1417) x1415, Blk b1409 (.cells #[.bool true, .slice A1412 x1411.length c1413, .slice none 0 0, .slice A1416 x1415.length c1417] 26 (0, 0)), Blk b104 (.cells #[.bool x110, .slice A112 x111.length c113, .slice A116 x115.length c117, .slice A120 x119.length c121] 26 (0, 0)), Blk b65 (.cells #[.bool t39.2.1.Leaf, .slice A50 t39.2.1.Keys.length c51, .slice A53 t39.2.1.Kids.length c54, .slice A56 t39.2.1.Rows.length c57] 26 (0, 0)), Blk b62 (.cells #[.bool t39.1.Leaf, .slice A41 t39.1.Keys.length c42, .slice A44 t39.1.Kids.length c45, .slice A47 t39.1.Rows.length c48] 26 (0, 0)), Blk b1 (.cells #[.bool a0.Leaf, .slice A0_0 a0.Keys.length c0_0, .slice A0_1 a0.Kids.length c0_1, .slice A0_2 a0.Rows.length c0_2] 26 (0, 0))]) 21 (Ls 65 [0, 1, 2, 3, 4, 5, 6, 7, 8, 9, 10, 11, 12, 13, 14, 15, 16, 17, 18, 19, 20, 21, 22, 23, 24, 25, 26, 27, 28, 29, 30, 31, 32, 33, 34, 35, 36, 37, 38, 39, 40, 41, 42, 43]) ?_ ?_
        rotate_left
        · intro hrest
          have H := o2381h
          clear o2381h o2381H
          rcases iteS H with ⟨hb2379, H⟩ | ⟨hb2379, H⟩
          · skip
            refine Wa_takeN (i := 32) rfl (by kernel_rfl) rfl rfl rfl (skF hb2379) (⟨M60, Hp.le_refl M60, S.pick [2, 1, 0, 3, 4, 5, 6] (by decide)⟩) ?_
            refine Wa_takeN (i := 33) rfl (by kernel_rfl) rfl rfl rfl (skF hb2379) (⟨M60, Hp.le_refl M60, S.pick [2, 1, 0, 3, 4, 5, 6] (by decide)⟩) ?_
            refine Wa_takeN (i := 34) rfl (by kernel_rfl) rfl rfl rfl (skF hb2379) (⟨M60, Hp.le_refl M60, S.pick [2, 1, 0, 3, 4, 5, 6] (by decide)⟩) ?_
            refine Wa_takeN (i := 35) rfl (by kernel_rfl) rfl rfl rfl (skF hb2379) (⟨M60, Hp.le_refl M60, S.pick [2, 1, 0, 3, 4, 5, 6] (by decide)⟩) ?_
            refine Wa_takeN (i := 36) rfl (by kernel_rfl) rfl rfl rfl (skF hb2379) (⟨M60, Hp.le_refl M60, S.pick [2, 1, 0, 3, 4, 5, 6] (by decide)⟩) ?_
            refine Wa_takeN (i := 37) rfl (by kernel_rfl) rfl rfl rfl (skF hb2379) (⟨M60, Hp.le_refl M60, S.pick [2, 1, 0, 3, 4, 5, 6] (by decide)⟩) ?_
            refine Wa_takeN (i := 38) rfl (by kernel_rfl) rfl rfl rfl (skF hb2379) (⟨M60, Hp.le_refl M60, S.pick [2, 1, 0, 3, 4, 5, 6] (by decide)⟩) ?_
            refine Wa_takeN (i := 39) rfl (by kernel_rfl) rfl rfl rfl (skF hb2379) (⟨M60, Hp.le_refl M60, S.pick [2, 1, 0, 3, 4, 5, 6] (by decide)⟩) ?_
            refine Wa_takeN (i := 40) rfl (by kernel_rfl) rfl rfl rfl (skF hb2379) (⟨M60, Hp.le_refl M60, S.pick [2, 1, 0, 3, 4, 5, 6] (by decide)⟩) ?_
            refine Wa_takeN (i := 41) rfl (by kernel_rfl) rfl rfl rfl (skF hb2379) (⟨M60, Hp.le_refl M60, S.pick [2, 1, 0, 3, 4, 5, 6] (by decide)⟩) ?_
            refine Wa_takeN (i := 42) rfl (by kernel_rfl) rfl rfl rfl (skF hb2379) (⟨M60, Hp.le_refl M60, S.pick [2, 1, 0, 3, 4, 5, 6] (by decide)⟩) ?_
            refine Wa_takeY (i := 43) rfl (by kernel_rfl) rfl rfl (.bool true) rfl (congrArg some hb2356) (fun w' h' => x_pick (k := true) (congrArg Value.bool hb2379) rfl) (⟨M60, Hp.le_refl M60, S.pick [2, 1, 0, 3, 4, 5, 6] (by decide)⟩) ?_
            exact hrest _ _ ⟨true, Option.some.inj H, ⟨rfl, rfl, rfl, rfl, trivial⟩, E, S.pick [0, 1, 2, 3, 4, 5, 6] (by decide)⟩
          · skip
            refine Wa_takeY (i := 32) rfl (by kernel_rfl) rfl rfl (.pointer (some ⟨b104, 3, none⟩)) rfl (congrArg some hb2379) (fun w' h' => x_fieldAddr (o := 0) (off := 3) Try.underlying26 rfl ty24 rfl rfl) (⟨M60, Hp.le_refl M60, S.pick [2, 1, 0, 3, 4, 5, 6] (by decide)⟩) ?_
            refine Wa_takeY (i := 33) rfl (by kernel_rfl) rfl rfl (.slice A120 x119.length c121) rfl (congrArg some hb2379) (fun w' h' => x_load (cls_blk h' 3 rfl) ty24 rfl rfl) (⟨M60, Hp.le_refl M60, S.pick [2, 1, 0, 3, 4, 5, 6] (by decide)⟩) ?_
            refine Wa_takeY (i := 34) rfl (by kernel_rfl) rfl rfl (.int .i64 t2123.1) rfl (congrArg some hb2379) (fun w' h' => x_move rfl) (⟨M60, Hp.le_refl M60, S.pick [2, 1, 0, 3, 4, 5, 6] (by decide)⟩) ?_
            obtain ⟨⟨p2382, p2383⟩, H⟩ := chkS H
            obtain ⟨b2384, o2385, cs2386, _, _, ee2391, hb2387, vs2388, hR2389, hc2390⟩ := SlW.at' hs122 p2382 p2383
            obtain rfl : vs2388 = _ := hR2389
            refine Wa_takeY (i := 35) rfl (by kernel_rfl) rfl rfl (.pointer (some ⟨b2384, o2385 + t2123.1.toNat * 1, none⟩)) rfl (congrArg some hb2379) (fun w' h' => x_indexAddr Try.underlying24 ty41 (slA ee2391) rfl p2382 p2383) (⟨M60, Hp.le_refl M60, S.pick [2, 1, 0, 3, 4, 5, 6] (by decide)⟩) ?_
            refine Wa_takeY (i := 36) rfl (by kernel_rfl) rfl rfl (.int .u64 (rd x119 t2123.1)) rfl (congrArg some hb2379) (fun w' h' => x_load (cls_frz h' hb2387) ty41 rfl (hc2390 0 _ rfl)) (⟨M60, Hp.le_refl M60, S.pick [2, 1, 0, 3, 4, 5, 6] (by decide)⟩) ?_
            refine Wa_takeY (i := 37) rfl (by kernel_rfl) rfl rfl (.pointer (some ⟨b1, 3, none⟩)) rfl (congrArg some hb2379) (fun w' h' => x_fieldAddr (o := 0) (off := 3) Try.underlying26 rfl ty24 rfl rfl) (⟨M60, Hp.le_refl M60, S.pick [2, 1, 0, 3, 4, 5, 6] (by decide)⟩) ?_
            refine Wa_takeY (i := 38) rfl (by kernel_rfl) rfl rfl (.slice A0_2 a0.Rows.length c0_2) rfl (congrArg some hb2379) (fun w' h' => x_load (cls_blk h' 6 rfl) ty24 rfl rfl) (⟨M60, Hp.le_refl M60, S.pick [2, 1, 0, 3, 4, 5, 6] (by decide)⟩) ?_
            refine Wa_takeY (i := 39) rfl (by kernel_rfl) rfl rfl (.int .i64 t2120.1) rfl (congrArg some hb2379) (fun w' h' => x_move rfl) (⟨M60, Hp.le_refl M60, S.pick [2, 1, 0, 3, 4, 5, 6] (by decide)⟩) ?_
            obtain ⟨⟨p2392, p2393⟩, H⟩ := chkS H
            obtain ⟨b2394, o2395, cs2396, _, _, ee2401, hb2397, vs2398, hR2399, hc2400⟩ := SlW.at' hr0_2 p2392 p2393
            obtain rfl : vs2398 = _ := hR2399
            refine Wa_takeY (i := 40) rfl (by kernel_rfl) rfl rfl (.pointer (some ⟨b2394, o2395 + t2120.1.toNat * 1, none⟩)) rfl (congrArg some hb2379) (fun w' h' => x_indexAddr Try.underlying24 ty41 (slA ee2401) rfl p2392 p2393) (⟨M60, Hp.le_refl M60, S.pick [2, 1, 0, 3, 4, 5, 6] (by decide)⟩) ?_
            refine Wa_takeY (i := 41) rfl (by kernel_rfl) rfl rfl (.int .u64 (rd a0.Rows t2120.1)) rfl (congrArg some hb2379) (fun w' h' => x_load (cls_frz h' hb2397) ty41 rfl (hc2400 0 _ rfl)) (⟨M60, Hp.le_refl M60, S.pick [2, 1, 0, 3, 4, 5, 6] (by decide)⟩) ?_
            refine Wa_takeY (i := 42) rfl (by kernel_rfl) rfl rfl (.bool ((rd x119 t2123.1) == (rd a0.Rows t2120.1))) rfl (congrArg some hb2379) (fun w' h' => x_ibin rfl rfl rfl rfl) (⟨M60, Hp.le_refl M60, S.pick [2, 1, 0, 3, 4, 5, 6] (by decide)⟩) ?_
            refine Wa_takeY (i := 43) rfl (by kernel_rfl) rfl rfl (.bool ((rd x119 t2123.1) == (rd a0.Rows t2120.1))) rfl (congrArg some hb2356) (fun w' h' => x_pick (k := false) (congrArg Value.bool hb2379) rfl) (⟨M60, Hp.le_refl M60, S.pick [2, 1, 0, 3, 4, 5, 6] (by decide)⟩) ?_
            exact hrest _ _ ⟨((rd x119 t2123.1) == (rd a0.Rows t2120.1)), Option.some.inj H, ⟨rfl, rfl, rfl, rfl, trivial⟩, E, S.pick [0, 1, 2, 3, 4, 5, 6] (by decide)⟩
        clear o2381h
        rintro ρ w2402 ⟨x2380, rfl, hρ, E, S⟩
        rw [agree_eta hρ]
        clear hρ
        have H := o2381H
        clear o2381H
        refine Wa_take (i := 44) rfl (by kernel_rfl) rfl rfl (.bool x2380) rfl (fun w' h' => x_pick (k := true) (congrArg Value.bool hb2356) rfl) (⟨M60, Hp.le_refl M60, S.pick [2, 1, 0, 3, 4, 5, 6] (by decide)⟩) ?_
        exact hrest _ _ ⟨x2380, Option.some.inj H, ⟨rfl, rfl, rfl, trivial⟩, E, S.pick [0, 1, 2, 3, 4, 5, 6] (by decide)⟩
      · skip
        refine Wa_takeN (i := 29) rfl (by kernel_rfl) rfl rfl rfl (skT hb2356) (⟨M60, Hp.le_refl M60, S.pick [2, 1, 0, 3, 4, 5, 6] (by decide)⟩) ?_
        refine Wa_takeN (i := 30) rfl (by kernel_rfl) rfl rfl rfl (skT hb2356) (⟨M60, Hp.le_refl M60, S.pick [2, 1, 0, 3, 4, 5, 6] (by decide)⟩) ?_
        refine Wa_takeN (i := 31) rfl (by kernel_rfl) rfl rfl rfl (skT hb2356) (⟨M60, Hp.le_refl M60, S.pick [2, 1, 0, 3, 4, 5, 6] (by decide)⟩) ?_
        refine Wa_takeN (i := 32) rfl (by kernel_rfl) rfl rfl rfl (rfl) (⟨M60, Hp.le_refl M60, S.pick [2, 1, 0, 3, 4, 5, 6] (by decide)⟩) ?_
        refine Wa_takeN (i := 33) rfl (by kernel_rfl) rfl rfl rfl (rfl) (⟨M60, Hp.le_refl M60, S.pick [2, 1, 0, 3, 4, 5, 6] (by decide)⟩) ?_
        refine Wa_takeN (i := 34) rfl (by kernel_rfl) rfl rfl rfl (rfl) (⟨M60, Hp.le_refl M60, S.pick [2, 1, 0, 3, 4, 5, 6] (by decide)⟩) ?_
        refine Wa_takeN (i := 35) rfl (by kernel_rfl) rfl rfl rfl (rfl) (⟨M60, Hp.le_refl M60, S.pick [2, 1, 0, 3, 4, 5, 6] (by decide)⟩) ?_
        refine Wa_takeN (i := 36) rfl (by kernel_rfl) rfl rfl rfl (rfl) (⟨M60, Hp.le_refl M60, S.pick [2, 1, 0, 3, 4, 5, 6] (by decide)⟩) ?_
        refine Wa_takeN (i := 37) rfl (by kernel_rfl) rfl rfl rfl (rfl) (⟨M60, Hp.le_refl M60, S.pick [2, 1, 0, 3, 4, 5, 6] (by decide)⟩) ?_
        refine Wa_takeN (i := 38) rfl (by kernel_rfl) rfl rfl rfl (rfl) (⟨M60, Hp.le_refl M60, S.pick [2, 1, 0, 3, 4, 5, 6] (by decide)⟩) ?_
        refine Wa_takeN (i := 39) rfl (by kernel_rfl) rfl rfl rfl (rfl) (⟨M60, Hp.le_refl M60, S.pick [2, 1, 0, 3, 4, 5, 6] (by decide)⟩) ?_
        refine Wa_takeN (i := 40) rfl (by kernel_rfl) rfl rfl rfl (rfl) (⟨M60, Hp.le_refl M60, S.pick [2, 1, 0, 3, 4, 5, 6] (by decide)⟩) ?_
        refine Wa_takeN (i := 41) rfl (by kernel_rfl) rfl rfl rfl (rfl) (⟨M60, Hp.le_refl M60, S.pick [2, 1, 0, 3, 4, 5, 6] (by decide)⟩) ?_
        refine Wa_takeN (i := 42) rfl (by kernel_rfl) rfl rfl rfl (rfl) (⟨M60, Hp.le_refl M60, S.pick [2, 1, 0, 3, 4, 5, 6] (by decide)⟩) ?_
        refine Wa_takeN (i := 43) rfl (by kernel_rfl) rfl rfl rfl (skT hb2356) (⟨M60, Hp.le_refl M60, S.pick [2, 1, 0, 3, 4, 5, 6] (by decide)⟩) ?_
        refine Wa_take (i := 44) rfl (by kernel_rfl) rfl rfl (.bool false) rfl (fun w' h' => x_pick (k := false) (congrArg Value.bool hb2356) rfl) (⟨M60, Hp.le_refl M60, S.pick [2, 1, 0, 3, 4, 5, 6] (by decide)⟩) ?_
        exact hrest _ _ ⟨false, Option.some.inj H, ⟨rfl, rfl, rfl, trivial⟩, E, S.pick [0, 1, 2, 3, 4, 5, 6] (by decide)⟩
    clear o2358h
    rintro ρ w2403 ⟨x2357, rfl, hρ, E, S⟩
    rw [agree_eta hρ]
    clear hρ
    have H := o2358H
    clear o2358H
    refine Wa_take (i := 45) rfl (by kernel_rfl) rfl rfl (.bool x2357) rfl (fun w' h' => x_move rfl) (⟨M60, Hp.le_refl M60, S.pick [2, 1, 0, 3, 4, 5, 6] (by decide)⟩) ?_
    refine Wa_join (fun ρ w' => Agree ρ [(5, .pointer (some ⟨b62, 0, none⟩)), (6, .pointer (some ⟨b65, 0, none⟩)), (176, .bool (x2357 && (decide ((IntKind.i64.wrap ((t39.1.Keys.length : Int) - (t39.2.1.Keys.length : Int))) ≤ (1 : Int)))))] ∧ w2403 = w') 10 (Ls 65 [0, 1, 2, 3, 4, 5, 6, 7, 8, 9, 10, 11, 12, 13, 14, 15, 16, 17, 18, 19, 20, 21, 22, 23, 24, 25, 26, 27, 28, 29, 30, 31, 32, 33, 34, 35, 36, 37, 38, 39, 40, 41, 42, 43, 44, 45, 46, 47, 48, 49, 50, 51, 52, 53, 54]) ?_ ?_
    rotate_left
    · intro hrest
      rcases boolCases x2357 with hb2404 | hb2404
      · skip
        refine Wa_takeN (i := 46) rfl (by kernel_rfl) rfl rfl rfl (skT hb2404) (⟨M60, Hp.le_refl M60, S.pick [2, 1, 0, 3, 4, 5, 6] (by decide)⟩) ?_
        refine Wa_takeN (i := 47) rfl (by kernel_rfl) rfl rfl rfl (skT hb2404) (⟨M60, Hp.le_refl M60, S.pick [2, 1, 0, 3, 4, 5, 6] (by decide)⟩) ?_
        refine Wa_takeN (i := 48) rfl (by kernel_rfl) rfl rfl rfl (skT hb2404) (⟨M60, Hp.le_refl M60, S.pick [2, 1, 0, 3, 4, 5, 6] (by decide)⟩) ?_
        refine Wa_takeN (i := 49) rfl (by kernel_rfl) rfl rfl rfl (skT hb2404) (⟨M60, Hp.le_refl M60, S.pick [2, 1, 0, 3, 4, 5, 6] (by decide)⟩) ?_
        refine Wa_takeN (i := 50) rfl (by kernel_rfl) rfl rfl rfl (skT hb2404) (⟨M60, Hp.le_refl M60, S.pick [2, 1, 0, 3, 4, 5, 6] (by decide)⟩) ?_
        refine Wa_takeN (i := 51) rfl (by kernel_rfl) rfl rfl rfl (skT hb2404) (⟨M60, Hp.le_refl M60, S.pick [2, 1, 0, 3, 4, 5, 6] (by decide)⟩) ?_
        refine Wa_takeN (i := 52) rfl (by kernel_rfl) rfl rfl rfl (skT hb2404) (⟨M60, Hp.le_refl M60, S.pick [2, 1, 0, 3, 4, 5, 6] (by decide)⟩) ?_
        refine Wa_takeN (i := 53) rfl (by kernel_rfl) rfl rfl rfl (skT hb2404) (⟨M60, Hp.le_refl M60, S.pick [2, 1, 0, 3, 4, 5, 6] (by decide)⟩) ?_
        refine Wa_take (i := 54) rfl (by kernel_rfl) rfl rfl (.bool false) rfl (fun w' h' => x_pick (k := false) (congrArg Value.bool hb2404) rfl) (⟨M60, Hp.le_refl M60, S.pick [2, 1, 0, 3, 4, 5, 6] (by decide)⟩) ?_
        exact hrest _ _ ⟨⟨rfl, rfl, (by first | rfl | (rw [hb2404]; rfl) | (simp only [hb2404]; rfl)), trivial⟩, rfl⟩
      · skip
        refine Wa_takeY (i := 46) rfl (by kernel_rfl) rfl rfl (.pointer (some ⟨b62, 1, none⟩)) rfl (congrArg some hb2404) (fun w' h' => x_fieldAddr (o := 0) (off := 1) Try.underlying26 rfl ty22 rfl rfl) (⟨M60, Hp.le_refl M60, S.pick [2, 1, 0, 3, 4, 5, 6] (by decide)⟩) ?_
        refine Wa_takeY (i := 47) rfl (by kernel_rfl) rfl rfl (.slice A41 t39.1.Keys.length c42) rfl (congrArg some hb2404) (fun w' h' => x_load (cls_blk h' 5 rfl) ty22 rfl rfl) (⟨M60, Hp.le_refl M60, S.pick [2, 1, 0, 3, 4, 5, 6] (by decide)⟩) ?_
        refine Wa_takeY (i := 48) rfl (by kernel_rfl) rfl rfl (.int .i64 (t39.1.Keys.length : Int)) rfl (congrArg some hb2404) (fun w' h' => x_len_slice (n := t39.1.Keys.length) Try.underlying22 rfl) (⟨M60, Hp.le_refl M60, S.pick [2, 1, 0, 3, 4, 5, 6] (by decide)⟩) ?_
        refine Wa_takeY (i := 49) rfl (by kernel_rfl) rfl rfl (.pointer (some ⟨b65, 1, none⟩)) rfl (congrArg some hb2404) (fun w' h' => x_fieldAddr (o := 0) (off := 1) Try.underlying26 rfl ty22 rfl rfl) (⟨M60, Hp.le_refl M60, S.pick [2, 1, 0, 3, 4, 5, 6] (by decide)⟩) ?_
        refine Wa_takeY (i := 50) rfl (by kernel_rfl) rfl rfl (.slice A50 t39.2.1.Keys.length c51) rfl (congrArg some hb2404) (fun w' h' => x_load (cls_blk h' 4 rfl) ty22 rfl rfl) (⟨M60, Hp.le_refl M60, S.pick [2, 1, 0, 3, 4, 5, 6] (by decide)⟩) ?_
        refine Wa_takeY (i := 51) rfl (by kernel_rfl) rfl rfl (.int .i64 (t39.2.1.Keys.length : Int)) rfl (congrArg some hb2404) (fun w' h' => x_len_slice (n := t39.2.1.Keys.length) Try.underlying22 rfl) (⟨M60, Hp.le_refl M60, S.pick [2, 1, 0, 3, 4, 5, 6] (by decide)⟩) ?_
        refine Wa_takeY (i := 52) rfl (by kernel_rfl) rfl rfl (.int .i64 (IntKind.i64.wrap ((t39.1.Keys.length : Int) - (t39.2.1.Keys.length : Int)))) rfl (congrArg some hb2404) (fun w' h' => x_ibin rfl rfl rfl rfl) (⟨M60, Hp.le_refl M60, S.pick [2, 1, 0, 3, 4, 5, 6] (by decide)⟩) ?_
        refine Wa_takeY (i := 53) rfl (by kernel_rfl) rfl rfl (.bool (decide ((IntKind.i64.wrap ((t39.1.Keys.length : Int) - (t39.2.1.Keys.length : Int))) ≤ (1 : Int)))) rfl (congrArg some hb2404) (fun w' h' => x_ibin rfl rfl rfl rfl) (⟨M60, Hp.le_refl M60, S.pick [2, 1, 0, 3, 4, 5, 6] (by decide)⟩) ?_
        refine Wa_take (i := 54) rfl (by kernel_rfl) rfl rfl (.bool (decide ((IntKind.i64.wrap ((t39.1.Keys.length : Int) - (t39.2.1.Keys.length : Int))) ≤ (1 : Int)))) rfl (fun w' h' => x_pick (k := true) (congrArg Value.bool hb2404) rfl) (⟨M60, Hp.le_refl M60, S.pick [2, 1, 0, 3, 4, 5, 6] (by decide)⟩) ?_
        exact hrest _ _ ⟨⟨rfl, rfl, (by first | rfl | (rw [hb2404]; rfl) | (simp only [hb2404]; rfl)), trivial⟩, rfl⟩
    rintro ρ _ ⟨hρ, rfl⟩
    rw [agree_eta hρ]
    clear hρ
    refine Wa_take (i := 55) rfl (by kernel_rfl) rfl rfl (.bool (x2357 && (decide ((IntKind.i64.wrap ((t39.1.Keys.length : Int) - (t39.2.1.Keys.length : Int))) ≤ (1 : Int))))) rfl (fun w' h' => x_move rfl) (⟨M60, Hp.le_refl M60, S.pick [2, 1, 0, 3, 4, 5, 6] (by decide)⟩) ?_
    refine Wa_join (fun ρ w' => Agree ρ [(185, .bool ((x2357 && (decide ((IntKind.i64.wrap ((t39.1.Keys.length : Int) - (t39.2.1.Keys.length : Int))) ≤ (1 : Int)))) && (decide ((t39.1.Keys.length : Int) ≥ (t39.2.1.Keys.length : Int)))))] ∧ w2403 = w') 1 (Ls 65 [0, 1, 2, 3, 4, 5, 6, 7, 8, 9, 10, 11, 12, 13, 14, 15, 16, 17, 18, 19, 20, 21, 22, 23, 24, 25, 26, 27, 28, 29, 30, 31, 32, 33, 34, 35, 36, 37, 38, 39, 40, 41, 42, 43, 44, 45, 46, 47, 48, 49, 50, 51, 52, 53, 54, 55, 56, 57, 58, 59, 60, 61, 62, 63]) ?_ ?_
    rotate_left
    · intro hrest
      rcases boolCases (x2357 && (decide ((IntKind.i64.wrap ((t39.1.Keys.length : Int) - (t39.2.1.Keys.length : Int))) ≤ (1 : Int)))) with hb2405 | hb2405
      · skip
        refine Wa_takeN (i := 56) rfl (by kernel_rfl) rfl rfl rfl (skT hb2405) (⟨M60, Hp.le_refl M60, S.pick [2, 1, 0, 3, 4, 5, 6] (by decide)⟩) ?_
        refine Wa_takeN (i := 57) rfl (by kernel_rfl) rfl rfl rfl (skT hb2405) (⟨M60, Hp.le_refl M60, S.pick [2, 1, 0, 3, 4, 5, 6] (by decide)⟩) ?_
        refine Wa_takeN (i := 58) rfl (by kernel_rfl) rfl rfl rfl (skT hb2405) (⟨M60, Hp.le_refl M60, S.pick [2, 1, 0, 3, 4, 5, 6] (by decide)⟩) ?_
        refine Wa_takeN (i := 59) rfl (by kernel_rfl) rfl rfl rfl (skT hb2405) (⟨M60, Hp.le_refl M60, S.pick [2, 1, 0, 3, 4, 5, 6] (by decide)⟩) ?_
        refine Wa_takeN (i := 60) rfl (by kernel_rfl) rfl rfl rfl (skT hb2405) (⟨M60, Hp.le_refl M60, S.pick [2, 1, 0, 3, 4, 5, 6] (by decide)⟩) ?_
        refine Wa_takeN (i := 61) rfl (by kernel_rfl) rfl rfl rfl (skT hb2405) (⟨M60, Hp.le_refl M60, S.pick [2, 1, 0, 3, 4, 5, 6] (by decide)⟩) ?_
        refine Wa_takeN (i := 62) rfl (by kernel_rfl) rfl rfl rfl (skT hb2405) (⟨M60, Hp.le_refl M60, S.pick [2, 1, 0, 3, 4, 5, 6] (by decide)⟩) ?_
        refine Wa_take (i := 63) rfl (by kernel_rfl) rfl rfl (.bool false) rfl (fun w' h' => x_pick (k := false) (congrArg Value.bool hb2405) rfl) (⟨M60, Hp.le_refl M60, S.pick [2, 1, 0, 3, 4, 5, 6] (by decide)⟩) ?_
        exact hrest _ _ ⟨⟨(by first | rfl | (rw [hb2405]; rfl) | (simp only [hb2405]; rfl)), trivial⟩, rfl⟩
      · skip
        refine Wa_takeY (i := 56) rfl (by kernel_rfl) rfl rfl (.pointer (some ⟨b62, 1, none⟩)) rfl (congrArg some hb2405) (fun w' h' => x_fieldAddr (o := 0) (off := 1) Try.underlying26 rfl ty22 rfl rfl) (⟨M60, Hp.le_refl M60, S.pick [2, 1, 0, 3, 4, 5, 6] (by decide)⟩) ?_
        refine Wa_takeY (i := 57) rfl (by kernel_rfl) rfl rfl (.slice A41 t39.1.Keys.length c42) rfl (congrArg some hb2405) (fun w' h' => x_load (cls_blk h' 5 rfl) ty22 rfl rfl) (⟨M60, Hp.le_refl M60, S.pick [2, 1, 0, 3, 4, 5, 6] (by decide)⟩) ?_
        refine Wa_takeY (i := 58) rfl (by kernel_rfl) rfl rfl (.int .i64 (t39.1.Keys.length : Int)) rfl (congrArg some hb2405) (fun w' h' => x_len_slice (n := t39.1.Keys.length) Try.underlying22 rfl) (⟨M60, Hp.le_refl M60, S.pick [2, 1, 0, 3, 4, 5, 6] (by decide)⟩) ?_
        refine Wa_takeY (i := 59) rfl (by kernel_rfl) rfl rfl (.pointer (some ⟨b65, 1, none⟩)) rfl (congrArg some hb2405) (fun w' h' => x_fieldAddr (o := 0) (off := 1) Try.underlying26 rfl ty22 rfl rfl) (⟨M60, Hp.le_refl M60, S.pick [2, 1, 0, 3, 4, 5, 6] (by decide)⟩) ?_
        refine Wa_takeY (i := 60) rfl (by kernel_rfl) rfl rfl (.slice A50 t39.2.1.Keys.length c51) rfl (congrArg some hb2405) (fun w' h' => x_load (cls_blk h' 4 rfl) ty22 rfl rfl) (⟨M60, Hp.le_refl M60, S.pick [2, 1, 0, 3, 4, 5, 6] (by decide)⟩) ?_
        refine Wa_takeY (i := 61) rfl (by kernel_rfl) rfl rfl (.int .i64 (t39.2.1.Keys.length : Int)) rfl (congrArg some hb2405) (fun w' h' => x_len_slice (n := t39.2.1.Keys.length) Try.underlying22 rfl) (⟨M60, Hp.le_refl M60, S.pick [2, 1, 0, 3, 4, 5, 6] (by decide)⟩) ?_
        refine Wa_takeY (i := 62) rfl (by kernel_rfl) rfl rfl (.bool (decide ((t39.1.Keys.length : Int) ≥ (t39.2.1.Keys.length : Int)))) rfl (congrArg some hb2405) (fun w' h' => x_ibin rfl rfl rfl rfl) (⟨M60, Hp.le_refl M60, S.pick [2, 1, 0, 3, 4, 5, 6] (by decide)⟩) ?_
        refine Wa_take (i := 63) rfl (by kernel_rfl) rfl rfl (.bool (decide ((t39.1.Keys.length : Int) ≥ (t39.2.1.Keys.length : Int)))) rfl (fun w' h' => x_pick (k := true) (congrArg Value.bool hb2405) rfl) (⟨M60, Hp.le_refl M60, S.pick [2, 1, 0, 3, 4, 5, 6] (by decide)⟩) ?_
        exact hrest _ _ ⟨⟨(by first | rfl | (rw [hb2405]; rfl) | (simp only [hb2405]; rfl)), trivial⟩, rfl⟩
    rintro ρ _ ⟨hρ, rfl⟩
    rw [agree_eta hρ]
    clear hρ
    refine Wa_take (i := 64) rfl (by kernel_rfl) rfl rfl (.bool ((x2357 && (decide ((IntKind.i64.wrap ((t39.1.Keys.length : Int) - (t39.2.1.Keys.length : Int))) ≤ (1 : Int)))) && (decide ((t39.1.Keys.length : Int) ≥ (t39.2.1.Keys.length : Int))))) rfl (fun w' h' => x_assign rfl) (⟨M60, Hp.le_refl M60, S.pick [2, 1, 0, 3, 4, 5, 6] (by decide)⟩) ?_
    refine Wa_done (by kernel_rfl) ?_
    refine tn ?_
    refine Wp_ret ?_
    refine tr (?_)
    obtain rfl := Option.some.inj H
    exact ⟨_, _, _, fun w1 e1 => run_resR (vs := [.bool ((x2357 && (decide ((IntKind.i64.wrap ((t39.1.Keys.length : Int) - (t39.2.1.Keys.length : Int))) ≤ (1 : Int)))) && (decide ((t39.1.Keys.length : Int) ≥ (t39.2.1.Keys.length : Int))))]) (FA.cons (rfl) (FA.nil)), HM, E, S.pick [] (by decide), ⟨rfl, rfl⟩⟩
  refine Wp_cond_false (congrArg Value.bool hb127) ?_
  refine Wp_skip ?_
  refine tn ?_
  refine Wp_seq ?_
  refine Wp_region_any (S := fun w' => ∃ Mx, M60.le Mx ∧ St w' Mx F [Blk b104 (.cells #[.bool x110, .slice A112 x111.length c113, .slice A116 x115.length c117, .slice A120 x119.length c121] 26 (0, 0)), Blk b65 (.cells #[.bool t39.2.1.Leaf, .slice A50 t39.2.1.Keys.length c51, .slice A53 t39.2.1.Kids.length c54, .slice A56 t39.2.1.Rows.length c57] 26 (0, 0)), Blk b62 (.cells #[.bool t39.1.Leaf, .slice A41 t39.1.Keys.length c42, .slice A44 t39.1.Kids.length c45, .slice A47 t39.1.Rows.length c48] 26 (0, 0)), Blk b1 (.cells #[.bool a0.Leaf, .slice A0_0 a0.Keys.length c0_0, .slice A0_1 a0.Kids.length c0_1, .slice A0_2 a0.Rows.length c0_2] 26 (0, 0))]) mixed ?_
  intro w4633 hw4634 E'
  replace S := S.heap hw4634
  replace E := E.trans E'
  clear E'
  refine Wa_take (i := 1) rfl (by kernel_rfl) rfl rfl (.pointer (some ⟨b62, 1, none⟩)) rfl (fun w' h' => x_fieldAddr (o := 0) (off := 1) Try.underlying26 rfl ty22 rfl rfl) (⟨M60, Hp.le_refl M60, S.pick [0, 1, 2, 3] (by decide)⟩) ?_
  refine Wa_take (i := 2) rfl (by kernel_rfl) rfl rfl (.slice A41 t39.1.Keys.length c42) rfl (fun w' h' => x_load (cls_blk h' 2 rfl) ty22 rfl rfl) (⟨M60, Hp.le_refl M60, S.pick [0, 1, 2, 3] (by decide)⟩) ?_
  refine Wa_take (i := 4) rfl (by kernel_rfl) rfl rfl (.string (bs t39.2.2.1)) rfl (fun w' h' => x_move rfl) (⟨M60, Hp.le_refl M60, S.pick [0, 1, 2, 3] (by decide)⟩) ?_
  refine Wa_take (i := 7) rfl (by kernel_rfl) rfl rfl (.pointer (some ⟨b65, 1, none⟩)) rfl (fun w' h' => x_fieldAddr (o := 0) (off := 1) Try.underlying26 rfl ty22 rfl rfl) (⟨M60, Hp.le_refl M60, S.pick [0, 1, 2, 3] (by decide)⟩) ?_
  refine Wa_take (i := 8) rfl (by kernel_rfl) rfl rfl (.slice A50 t39.2.1.Keys.length c51) rfl (fun w' h' => x_load (cls_blk h' 1 rfl) ty22 rfl rfl) (⟨M60, Hp.le_refl M60, S.pick [0, 1, 2, 3] (by decide)⟩) ?_
  refine Wa_take (i := 11) rfl (by kernel_rfl) rfl rfl (.pointer (some ⟨b62, 2, none⟩)) rfl (fun w' h' => x_fieldAddr (o := 0) (off := 2) Try.underlying26 rfl ty23 rfl rfl) (⟨M60, Hp.le_refl M60, S.pick [0, 1, 2, 3] (by decide)⟩) ?_
  refine Wa_take (i := 12) rfl (by kernel_rfl) rfl rfl (.slice A44 t39.1.Kids.length c45) rfl (fun w' h' => x_load (cls_blk h' 2 rfl) ty23 rfl rfl) (⟨M60, Hp.le_refl M60, S.pick [0, 1, 2, 3] (by decide)⟩) ?_
  refine Wa_take (i := 14) rfl (by kernel_rfl) rfl rfl (.pointer (some ⟨b65, 2, none⟩)) rfl (fun w' h' => x_fieldAddr (o := 0) (off := 2) Try.underlying26 rfl ty23 rfl rfl) (⟨M60, Hp.le_refl M60, S.pick [0, 1, 2, 3] (by decide)⟩) ?_
  refine Wa_take (i := 15) rfl (by kernel_rfl) rfl rfl (.slice A53 t39.2.1.Kids.length c54) rfl (fun w' h' => x_load (cls_blk h' 1 rfl) ty23 rfl rfl) (⟨M60, Hp.le_refl M60, S.pick [0, 1, 2, 3] (by decide)⟩) ?_
  obtain ⟨o6467, o6467h, o6467H⟩ := bindS H
  clear H
  refine Wa_join (fun ρ w' => ∃ (x5225 : List Str) (x5229 : List Int) (A5226 : Option Addr) (c5227 : Nat) (A5230 : Option Addr) (c5231 : Nat) (b5223 : Nat), (x5225, x5229) = o6467 ∧ Agree ρ [(1, .string (bs a1)), (2, .pointer (some ⟨b1, 0, none⟩)), (9, .pointer (some ⟨b104, 0, none⟩)), (15, .pointer (some ⟨b5223, 0, none⟩)), (203, .agg #[.bool false, .slice A5226 x5225.length c5227, .slice A5230 x5229.length c5231, .slice none 0 0])] ∧ Ext w w' ∧ St w' M60 F [Blk b5223 (.cells #[.bool false, .slice none 0 0, .slice none 0 0, .slice none 0 0] 26 (0, 0)), Row (rInt .i64) 3 (.slice A5230 x5229.length c5231) x5229, Row rStr 9 (.slice A5226 x5225.length c5227) x5225, Blk b104 (.cells #[.bool x110, .slice A112 x111.length c113, .slice A116 x115.length c117, .slice A120 x119.length c121] 26 (0, 0)), Blk b65 (.cells #[.bool t39.2.1.Leaf, .slice A50 t39.2.1.Keys.length c51, .slice A53 t39.2.1.Kids.length c54, .slice A56 t39.2.1.Rows.length c57] 26 (0, 0)), Blk b62 (.cells #[.bool t39.1.Leaf, .slice A41 t39.1.Keys.length c42, .slice A44 t39.1.Kids.length c45, .slice A47 t39.1.Rows.length c48] 26 (0, 0)), Blk b1 (.cells #[.bool a0.Leaf, .slice A0_0 a0.Keys.length c0_0, .slice A0_1 a0.Kids.length c0_1, .slice A0_2 a0.Rows.length c0_2] 26 (0, 0))]) 1 (Ls 20 [0, 1, 2, 3, 4, 5, 6, 7, 8, 9, 10, 11, 12, 13, 14, 15, 16, 17, 18]) ?_ ?_
  rotate_left
  · intro hq6503
    clear o6467H
    refine Wa_join (fun ρ w' => ∃ (x5212 : List Str) (x5216 : List Int) (A5213 : Option Addr) (c5214 : Nat) (A5217 : Option Addr) (c5218 : Nat), some (x5212, x5216) = some o6467 ∧ Agree ρ [(1, .string (bs a1)), (2, .pointer (some ⟨b1, 0, none⟩)), (9, .pointer (some ⟨b104, 0, none⟩)), (203, .agg #[.bool false, .slice A5213 x5212.length c5214, .slice A5217 x5216.length c5218, .slice none 0 0])] ∧ Ext w w' ∧ St w' M60 F [Row (rInt .i64) 3 (.slice A5217 x5216.length c5218) x5216, Row rStr 9 (.slice A5213 x5212.length c5214) x5212, Blk b104 (.cells #[.bool x110, .slice A112 x111.length c113, .slice A116 x115.length c117, .slice A120 x119.length c121] 26 (0, 0)), Blk b65 (.cells #[.bool t39.2.1.Leaf, .slice A50 t39.2.1.Keys.length c51, .slice A53 t39.2.1.Kids.length c54, .slice A56 t39.2.1.Rows.length c57] 26 (0, 0)), Blk b62 (.cells #[.bool t39.1.Leaf, .slice A41 t39.1.Keys.length c42, .slice A44 t39.1.Kids.length c45, .slice A47 t39.1.Rows.length c48] 26 (0, 0)), Blk b1 (.cells #[.bool a0.Leaf, .slice A0_0 a0.Keys.length c0_0, .slice A0_1 a0.Kids.length c0_1, .slice A0_2 a0.Rows.length c0_2] 26 (0, 0))]) 2 (Ls 20 [0, 1, 2, 3, 4, 5, 6, 7, 8, 9, 10, 11, 12, 13, 14, 15, 16, 17]) ?_ ?_
    · clear o6467h
      rintro ρ w6504 ⟨x5212, x5216, A5213, c5214, A5217, c5218, H, hρ, E, S⟩
      rw [agree_eta hρ]
      clear hρ
      refine Wa_solo (i := 18) rfl (by kernel_rfl) ?_
      refine W_alloc S #[.bool false, .slice none 0 0, .slice none 0 0, .slice none 0 0] ty26 rfl rfl ?_
      intro b6505 w6506 E' S
      replace E := E.trans E'
      clear E'
      refine Wl_nil (on_n ⟨⟨M60, Hp.le_refl M60, S.pick [3, 4, 5, 6] (by decide)⟩, ?_⟩)
      exact hq6503 _ _ ⟨x5212, x5216, A5213, c5214, A5217, c5218, b6505, Option.some.inj H, ⟨rfl, rfl, rfl, rfl, rfl, trivial⟩, E, S.pick [0, 1, 2, 3, 4, 5, 6] (by decide)⟩
    intro hq6502
    refine Wa_join (fun ρ w' => ∃ (x5196 : List Str) (x5200 : List Int) (A5197 : Option Addr) (c5198 : Nat) (A5201 : Option Addr) (c5202 : Nat) (b5194 : Nat), (if x5200.length + t39.2.1.Kids.length ≤ 17592186044416 then some (x5196, (x5200 ++ t39.2.1.Kids)) else none) = some o6467 ∧ Agree ρ [(1, .string (bs a1)), (2, .pointer (some ⟨b1, 0, none⟩)), (9, .pointer (some ⟨b104, 0, none⟩)), (15, .pointer (some ⟨b5194, 0, none⟩)), (195, .slice A5197 x5196.length c5198), (199, .slice A5201 x5200.length c5202), (201, .slice A53 t39.2.1.Kids.length c54)] ∧ Ext w w' ∧ St w' M60 F [Blk b5194 (.cells #[.bool false, .slice none 0 0, .slice none 0 0, .slice none 0 0] 26 (0, 0)), Row (rInt .i64) 3 (.slice A5201 x5200.length c5202) x5200, Row rStr 9 (.slice A5197 x5196.length c5198) x5196, Blk b104 (.cells #[.bool x110, .slice A112 x111.length c113, .slice A116 x115.length c117, .slice A120 x119.length c121] 26 (0, 0)), Blk b65 (.cells #[.bool t39.2.1.Leaf, .slice A50 t39.2.1.Keys.length c51, .slice A53 t39.2.1.Kids.length c54, .slice A56 t39.2.1.Rows.length c57] 26 (0, 0)), Blk b62 (.cells #[.bool t39.1.Leaf, .slice A41 t39.1.Keys.length c42, .slice A44 t39.1.Kids.length c45, .slice A47 t39.1.Rows.length c48] 26 (0, 0)), Blk b1 (.cells #[.bool a0.Leaf, .slice A0_0 a0.Keys.length c0_0, .slice A0_1 a0.Kids.length c0_1, .slice A0_2 a0.Rows.length c0_2] 26 (0, 0))]) 3 (Ls 20 [0, 1, 2, 3, 4, 5, 6, 7, 8, 9, 10, 11, 12, 13, 14, 15, 18]) ?_ ?_
    · clear o6467h
      rintro ρ w6508 ⟨x5196, x5200, A5197, c5198, A5201, c5202, b5194, H, hρ, E, S⟩
      rw [agree_eta hρ]
      clear hρ
      refine Wa_solo (i := 16) rfl (by kernel_rfl) ?_
      obtain ⟨p6509, H⟩ := chkS H
      obtain ⟨src6510, hs6511, hC6512⟩ := src_of_read (P := Try.prog) (ρ := (rInt .i64)) (l := t39.2.1.Kids) (SlR.world hs55 S) (by decide)
      refine W_append S 1 rfl rfl rfl Try.underlying23 (.inl Try.underlying23) ty3 rfl (by decide) (by decide) hs6511 hC6512 rfl (by omega) rfl ?_
      intro v6513 w6514 E' S
      replace E := E.trans E'
      clear E'
      obtain ⟨A6515, c6516, rfl, _⟩ := (S.row_read 1 rfl).form
      refine Wl_nil (on_n ⟨⟨M60, Hp.le_refl M60, S.pick [3, 4, 5, 6] (by decide)⟩, ?_⟩)
      refine Wa_take (i := 17) rfl (by kernel_rfl) rfl rfl (.agg #[.bool false, .slice A5197 x5196.length c5198, .slice A6515 (x5200 ++ t39.2.1.Kids).length c6516, .slice none 0 0]) rfl (fun w' h' => x_build2 (pl := [(0, 1), (1, 1), (2, 1), (3, 1)]) #[.bool false, .slice A5197 x5196.length c5198, .slice A6515 (x5200 ++ t39.2.1.Kids).length c6516, .slice none 0 0] Try.underlying26 ty26 (by kernel_rfl) rfl (by kernel_rfl)) (⟨M60, Hp.le_refl M60, S.pick [3, 4, 5, 6] (by decide)⟩) ?_
      exact hq6503 _ _ ⟨x5196, (x5200 ++ t39.2.1.Kids), A5197, c5198, A6515, c6516, b5194, Option.some.inj H, ⟨rfl, rfl, rfl, rfl, rfl, trivial⟩, E, S.pick [0, 1, 2, 3, 4, 5, 6] (by decide)⟩
    intro hq6501
    refine Wa_join (fun ρ w' => ∃ (x5178 : List Str) (x5182 : List Int) (A5179 : Option Addr) (c5180 : Nat) (A5183 : Option Addr) (c5184 : Nat) (b5176 : Nat), (if x5182.length + t39.1.Kids.length ≤ 17592186044416 then (if (x5182 ++ t39.1.Kids).length + t39.2.1.Kids.length ≤ 17592186044416 then some (x5178, ((x5182 ++ t39.1.Kids) ++ t39.2.1.Kids)) else none) else none) = some o6467 ∧ Agree ρ [(1, .string (bs a1)), (2, .pointer (some ⟨b1, 0, none⟩)), (9, .pointer (some ⟨b104, 0, none⟩)), (15, .pointer (some ⟨b5176, 0, none⟩)), (195, .slice A5179 x5178.length c5180), (196, .slice A5183 x5182.length c5184), (198, .slice A44 t39.1.Kids.length c45), (201, .slice A53 t39.2.1.Kids.length c54)] ∧ Ext w w' ∧ St w' M60 F [Blk b5176 (.cells #[.bool false, .slice none 0 0, .slice none 0 0, .slice none 0 0] 26 (0, 0)), Row (rInt .i64) 3 (.slice A5183 x5182.length c5184) x5182, Row rStr 9 (.slice A5179 x5178.length c5180) x5178, Blk b104 (.cells #[.bool x110, .slice A112 x111.length c113, .slice A116 x115.length c117, .slice A120 x119.length c121] 26 (0, 0)), Blk b65 (.cells #[.bool t39.2.1.Leaf, .slice A50 t39.2.1.Keys.length c51, .slice A53 t39.2.1.Kids.length c54, .slice A56 t39.2.1.Rows.length c57] 26 (0, 0)), Blk b62 (.cells #[.bool t39.1.Leaf, .slice A41 t39.1.Keys.length c42, .slice A44 t39.1.Kids.length c45, .slice A47 t39.1.Rows.length c48] 26 (0, 0)), Blk b1 (.cells #[.bool a0.Leaf, .slice A0_0 a0.Keys.length c0_0, .slice A0_1 a0.Kids.length c0_1, .slice A0_2 a0.Rows.length c0_2] 26 (0, 0))]) 4 (Ls 20 [0, 1, 2, 3, 4, 5, 6, 7, 8, 9, 10, 11, 12, 14, 15, 18]) ?_ ?_
    · clear o6467h
      rintro ρ w6517 ⟨x5178, x5182, A5179, c5180, A5183, c5184, b5176, H, hρ, E, S⟩
      rw [agree_eta hρ]
      clear hρ
      refine Wa_solo (i := 13) rfl (by kernel_rfl) ?_
      obtain ⟨p6518, H⟩ := chkS H
      obtain ⟨src6519, hs6520, hC6521⟩ := src_of_read (P := Try.prog) (ρ := (rInt .i64)) (l := t39.1.Kids) (SlR.world hs46 S) (by decide)
      refine W_append S 1 rfl rfl rfl Try.underlying23 (.inl Try.underlying23) ty3 rfl (by decide) (by decide) hs6520 hC6521 rfl (by omega) rfl ?_
      intro v6522 w6523 E' S
      replace E := E.trans E'
      clear E'
      obtain ⟨A6524, c6525, rfl, _⟩ := (S.row_read 1 rfl).form
      refine Wl_nil (on_n ⟨⟨M60, Hp.le_refl M60, S.pick [3, 4, 5, 6] (by decide)⟩, ?_⟩)
      exact hq6501 _ _ ⟨x5178, (x5182 ++ t39.1.Kids), A5179, c5180, A6524, c6525, b5176, H, ⟨rfl, rfl, rfl, rfl, rfl, rfl, rfl, trivial⟩, E, S.pick [0, 1, 2, 3, 4, 5, 6] (by decide)⟩
    intro hq6500
    refine Wa_join (fun ρ w' => ∃ (x5157 : List Str) (x5161 : List Int) (A5158 : Option Addr) (c5159 : Nat) (A5162 : Option Addr) (c5163 : Nat), (if x5161.length + t39.2.1.Kids.length ≤ 17592186044416 then some (x5157, (x5161 ++ t39.2.1.Kids)) else none) = some o6467 ∧ Agree ρ [(1, .string (bs a1)), (2, .pointer (some ⟨b1, 0, none⟩)), (9, .pointer (some ⟨b104, 0, none⟩)), (195, .slice A5158 x5157.length c5159), (199, .slice A5162 x5161.length c5163), (201, .slice A53 t39.2.1.Kids.length c54)] ∧ Ext w w' ∧ St w' M60 F [Row (rInt .i64) 3 (.slice A5162 x5161.length c5163) x5161, Row rStr 9 (.slice A5158 x5157.length c5159) x5157, Blk b104 (.cells #[.bool x110, .slice A112 x111.length c113, .slice A116 x115.length c117, .slice A120 x119.length c121] 26 (0, 0)), Blk b65 (.cells #[.bool t39.2.1.Leaf, .slice A50 t39.2.1.Keys.length c51, .slice A53 t39.2.1.Kids.length c54, .slice A56 t39.2.1.Rows.length c57] 26 (0, 0)), Blk b62 (.cells #[.bool t39.1.Leaf, .slice A41 t39.1.Keys.length c42, .slice A44 t39.1.Kids.length c45, .slice A47 t39.1.Rows.length c48] 26 (0, 0)), Blk b1 (.cells #[.bool a0.Leaf, .slice A0_0 a0.Keys.length c0_0, .slice A0_1 a0.Kids.length c0_1, .slice A0_2 a0.Rows.length c0_2] 26 (0, 0))]) 4 (Ls 20 [0, 1, 2, 3, 4, 5, 6, 7, 8, 9, 10, 11, 12, 13, 14, 15]) ?_ ?_
    · clear o6467h
      rintro ρ w6526 ⟨x5157, x5161, A5158, c5159, A5162, c5163, H, hρ, E, S⟩
      rw [agree_eta hρ]
      clear hρ
      refine Wa_oneOf (rs := [16, 18]) (by kernel_rfl) (by decide) ?_
      simp only [List.forall_mem_cons, List.not_mem_nil, false_implies, implies_true, and_true]
      refine ⟨?_, ?_⟩
      · refine ⟨_, rfl, ?_⟩
        obtain ⟨p6527, H⟩ := chkS H
        obtain ⟨src6528, hs6529, hC6530⟩ := src_of_read (P := Try.prog) (ρ := (rInt .i64)) (l := t39.2.1.Kids) (SlR.world hs55 S) (by decide)
        refine W_append S 0 rfl rfl rfl Try.underlying23 (.inl Try.underlying23) ty3 rfl (by decide) (by decide) hs6529 hC6530 rfl (by omega) rfl ?_
        intro v6531 w6532 E' S
        replace E := E.trans E'
        clear E'
        obtain ⟨A6533, c6534, rfl, _⟩ := (S.row_read 0 rfl).form
        refine Wl_nil (on_n ⟨⟨M60, Hp.le_refl M60, S.pick [2, 3, 4, 5] (by decide)⟩, ?_⟩)
        refine Wa_take (i := 17) rfl (by kernel_rfl) rfl rfl (.agg #[.bool false, .slice A5158 x5157.length c5159, .slice A6533 (x5161 ++ t39.2.1.Kids).length c6534, .slice none 0 0]) rfl (fun w' h' => x_build2 (pl := [(0, 1), (1, 1), (2, 1), (3, 1)]) #[.bool false, .slice A5158 x5157.length c5159, .slice A6533 (x5161 ++ t39.2.1.Kids).length c6534, .slice none 0 0] Try.underlying26 ty26 (by kernel_rfl) rfl (by kernel_rfl)) (⟨M60, Hp.le_refl M60, S.pick [2, 3, 4, 5] (by decide)⟩) ?_
        exact hq6502 _ _ ⟨x5157, (x5161 ++ t39.2.1.Kids), A5158, c5159, A6533, c6534, H, ⟨rfl, rfl, rfl, rfl, trivial⟩, E, S.pick [0, 1, 2, 3, 4, 5] (by decide)⟩
      · refine ⟨_, rfl, ?_⟩
        refine W_alloc S #[.bool false, .slice none 0 0, .slice none 0 0, .slice none 0 0] ty26 rfl rfl ?_
        intro b6535 w6536 E' S
        replace E := E.trans E'
        clear E'
        refine Wl_nil (on_n ⟨⟨M60, Hp.le_refl M60, S.pick [3, 4, 5, 6] (by decide)⟩, ?_⟩)
        exact hq6501 _ _ ⟨x5157, x5161, A5158, c5159, A5162, c5163, b6535, H, ⟨rfl, rfl, rfl, rfl, rfl, rfl, rfl, trivial⟩, E, S.pick [0, 1, 2, 3, 4, 5, 6] (by decide)⟩
    intro hq6499
    refine Wa_join (fun ρ w' => ∃ (x5141 : List Str) (x5145 : List Int) (A5142 : Option Addr) (c5143 : Nat) (A5146 : Option Addr) (c5147 : Nat) (b5139 : Nat), (if x5141.length + t39.2.1.Keys.length ≤ 8796093022208 then (if x5145.length + t39.1.Kids.length ≤ 17592186044416 then (if (x5145 ++ t39.1.Kids).length + t39.2.1.Kids.length ≤ 17592186044416 then some ((x5141 ++ t39.2.1.Keys), ((x5145 ++ t39.1.Kids) ++ t39.2.1.Kids)) else none) else none) else none) = some o6467 ∧ Agree ρ [(1, .string (bs a1)), (2, .pointer (some ⟨b1, 0, none⟩)), (9, .pointer (some ⟨b104, 0, none⟩)), (15, .pointer (some ⟨b5139, 0, none⟩)), (192, .slice A5142 x5141.length c5143), (194, .slice A50 t39.2.1.Keys.length c51), (196, .slice A5146 x5145.length c5147), (198, .slice A44 t39.1.Kids.length c45), (201, .slice A53 t39.2.1.Kids.length c54)] ∧ Ext w w' ∧ St w' M60 F [Blk b5139 (.cells #[.bool false, .slice none 0 0, .slice none 0 0, .slice none 0 0] 26 (0, 0)), Row (rInt .i64) 3 (.slice A5146 x5145.length c5147) x5145, Row rStr 9 (.slice A5142 x5141.length c5143) x5141, Blk b104 (.cells #[.bool x110, .slice A112 x111.length c113, .slice A116 x115.length c117, .slice A120 x119.length c121] 26 (0, 0)), Blk b65 (.cells #[.bool t39.2.1.Leaf, .slice A50 t39.2.1.Keys.length c51, .slice A53 t39.2.1.Kids.length c54, .slice A56 t39.2.1.Rows.length c57] 26 (0, 0)), Blk b62 (.cells #[.bool t39.1.Leaf, .slice A41 t39.1.Keys.length c42, .slice A44 t39.1.Kids.length c45, .slice A47 t39.1.Rows.length c48] 26 (0, 0)), Blk b1 (.cells #[.bool a0.Leaf, .slice A0_0 a0.Keys.length c0_0, .slice A0_1 a0.Kids.length c0_1, .slice A0_2 a0.Rows.length c0_2] 26 (0, 0))]) 5 (Ls 20 [0, 1, 2, 3, 4, 5, 6, 7, 8, 10, 11, 12, 14, 15, 18]) ?_ ?_
    · clear o6467h
      rintro ρ w6538 ⟨x5141, x5145, A5142, c5143, A5146, c5147, b5139, H, hρ, E, S⟩
      rw [agree_eta hρ]
      clear hρ
      refine Wa_solo (i := 9) rfl (by kernel_rfl) ?_
      obtain ⟨p6539, H⟩ := chkS H
      obtain ⟨src6540, hs6541, hC6542⟩ := src_of_read (P := Try.prog) (ρ := rStr) (l := t39.2.1.Keys) (SlR.world hs52 S) (by decide)
      refine W_append S 2 rfl rfl rfl Try.underlying22 (.inl Try.underlying22) ty9 rfl (by decide) (by decide) hs6541 hC6542 rfl (by omega) rfl ?_
      intro v6543 w6544 E' S
      replace E := E.trans E'
      clear E'
      obtain ⟨A6545, c6546, rfl, _⟩ := (S.row_read 2 rfl).form
      refine Wl_nil (on_n ⟨⟨M60, Hp.le_refl M60, S.pick [3, 4, 5, 6] (by decide)⟩, ?_⟩)
      exact hq6500 _ _ ⟨(x5141 ++ t39.2.1.Keys), x5145, A6545, c6546, A5146, c5147, b5139, H, ⟨rfl, rfl, rfl, rfl, rfl, rfl, rfl, rfl, trivial⟩, E, S.pick [0, 1, 2, 3, 4, 5, 6] (by decide)⟩
    intro hq6498
    refine Wa_join (fun ρ w' => ∃ (x5132 : List Str) (A5133 : Option Addr) (c5134 : Nat) (b5130 : Nat), (if ([] : List Int).length + t39.1.Kids.length ≤ 17592186044416 then (if (([] : List Int) ++ t39.1.Kids).length + t39.2.1.Kids.length ≤ 17592186044416 then some (x5132, ((([] : List Int) ++ t39.1.Kids) ++ t39.2.1.Kids)) else none) else none) = some o6467 ∧ Agree ρ [(1, .string (bs a1)), (2, .pointer (some ⟨b1, 0, none⟩)), (9, .pointer (some ⟨b104, 0, none⟩)), (15, .pointer (some ⟨b5130, 0, none⟩)), (195, .slice A5133 x5132.length c5134), (198, .slice A44 t39.1.Kids.length c45), (201, .slice A53 t39.2.1.Kids.length c54)] ∧ Ext w w' ∧ St w' M60 F [Blk b5130 (.cells #[.bool false, .slice none 0 0, .slice none 0 0, .slice none 0 0] 26 (0, 0)), Row rStr 9 (.slice A5133 x5132.length c5134) x5132, Blk b104 (.cells #[.bool x110, .slice A112 x111.length c113, .slice A116 x115.length c117, .slice A120 x119.length c121] 26 (0, 0)), Blk b65 (.cells #[.bool t39.2.1.Leaf, .slice A50 t39.2.1.Keys.length c51, .slice A53 t39.2.1.Kids.length c54, .slice A56 t39.2.1.Rows.length c57] 26 (0, 0)), Blk b62 (.cells #[.bool t39.1.Leaf, .slice A41 t39.1.Keys.length c42, .slice A44 t39.1.Kids.length c45, .slice A47 t39.1.Rows.length c48] 26 (0, 0)), Blk b1 (.cells #[.bool a0.Leaf, .slice A0_0 a0.Keys.length c0_0, .slice A0_1 a0.Kids.length c0_1, .slice A0_2 a0.Rows.length c0_2] 26 (0, 0))]) 5 (Ls 20 [0, 1, 2, 3, 4, 5, 6, 7, 8, 9, 11, 12, 14, 15, 18]) ?_ ?_
    · clear o6467h
      rintro ρ w6547 ⟨x5132, A5133, c5134, b5130, H, hρ, E, S⟩
      rw [agree_eta hρ]
      clear hρ
      refine Wa_solo (i := 10) rfl (by kernel_rfl) ?_
      refine W_bslice S #[] Try.underlying23 ty3 rfl rfl #[] (by kernel_rfl) (by kernel_rfl) rfl ?_
      intro b6548 w6549 E' S
      replace E := E.trans E'
      clear E'
      replace S := S.blk_row (r := (rInt .i64)) (l := ([] : List Int)) 0 rfl 0 (Nat.le_refl 0) rfl Cells.nil
      refine Wl_nil (on_n ⟨⟨M60, Hp.le_refl M60, S.pick [3, 4, 5, 6] (by decide)⟩, ?_⟩)
      exact hq6500 _ _ ⟨x5132, ([] : List Int), A5133, c5134, (some ⟨b6548, 0, none⟩), 0, b5130, H, ⟨rfl, rfl, rfl, rfl, rfl, rfl, rfl, rfl, trivial⟩, E, S.pick [1, 0, 2, 3, 4, 5, 6] (by decide)⟩
    intro hq6497
    refine Wa_join (fun ρ w' => ∃ (x5111 : List Str) (x5115 : List Int) (A5112 : Option Addr) (c5113 : Nat) (A5116 : Option Addr) (c5117 : Nat), (if x5115.length + t39.1.Kids.length ≤ 17592186044416 then (if (x5115 ++ t39.1.Kids).length + t39.2.1.Kids.length ≤ 17592186044416 then some (x5111, ((x5115 ++ t39.1.Kids) ++ t39.2.1.Kids)) else none) else none) = some o6467 ∧ Agree ρ [(1, .string (bs a1)), (2, .pointer (some ⟨b1, 0, none⟩)), (9, .pointer (some ⟨b104, 0, none⟩)), (195, .slice A5112 x5111.length c5113), (196, .slice A5116 x5115.length c5117), (198, .slice A44 t39.1.Kids.length c45), (201, .slice A53 t39.2.1.Kids.length c54)] ∧ Ext w w' ∧ St w' M60 F [Row (rInt .i64) 3 (.slice A5116 x5115.length c5117) x5115, Row rStr 9 (.slice A5112 x5111.length c5113) x5111, Blk b104 (.cells #[.bool x110, .slice A112 x111.length c113, .slice A116 x115.length c117, .slice A120 x119.length c121] 26 (0, 0)), Blk b65 (.cells #[.bool t39.2.1.Leaf, .slice A50 t39.2.1.Keys.length c51, .slice A53 t39.2.1.Kids.length c54, .slice A56 t39.2.1.Rows.length c57] 26 (0, 0)), Blk b62 (.cells #[.bool t39.1.Leaf, .slice A41 t39.1.Keys.length c42, .slice A44 t39.1.Kids.length c45, .slice A47 t39.1.Rows.length c48] 26 (0, 0)), Blk b1 (.cells #[.bool a0.Leaf, .slice A0_0 a0.Keys.length c0_0, .slice A0_1 a0.Kids.length c0_1, .slice A0_2 a0.Rows.length c0_2] 26 (0, 0))]) 5 (Ls 20 [0, 1, 2, 3, 4, 5, 6, 7, 8, 9, 10, 11, 12, 14, 15]) ?_ ?_
    · clear o6467h
      rintro ρ w6551 ⟨x5111, x5115, A5112, c5113, A5116, c5117, H, hρ, E, S⟩
      rw [agree_eta hρ]
      clear hρ
      refine Wa_oneOf (rs := [13, 18]) (by kernel_rfl) (by decide) ?_
      simp only [List.forall_mem_cons, List.not_mem_nil, false_implies, implies_true, and_true]
      refine ⟨?_, ?_⟩
      · refine ⟨_, rfl, ?_⟩
        obtain ⟨p6552, H⟩ := chkS H
        obtain ⟨src6553, hs6554, hC6555⟩ := src_of_read (P := Try.prog) (ρ := (rInt .i64)) (l := t39.1.Kids) (SlR.world hs46 S) (by decide)
        refine W_append S 0 rfl rfl rfl Try.underlying23 (.inl Try.underlying23) ty3 rfl (by decide) (by decide) hs6554 hC6555 rfl (by omega) rfl ?_
        intro v6556 w6557 E' S
        replace E := E.trans E'
        clear E'
        obtain ⟨A6558, c6559, rfl, _⟩ := (S.row_read 0 rfl).form
        refine Wl_nil (on_n ⟨⟨M60, Hp.le_refl M60, S.pick [2, 3, 4, 5] (by decide)⟩, ?_⟩)
        exact hq6499 _ _ ⟨x5111, (x5115 ++ t39.1.Kids), A5112, c5113, A6558, c6559, H, ⟨rfl, rfl, rfl, rfl, rfl, rfl, trivial⟩, E, S.pick [0, 1, 2, 3, 4, 5] (by decide)⟩
      · refine ⟨_, rfl, ?_⟩
        refine W_alloc S #[.bool false, .slice none 0 0, .slice none 0 0, .slice none 0 0] ty26 rfl rfl ?_
        intro b6560 w6561 E' S
        replace E := E.trans E'
        clear E'
        refine Wl_nil (on_n ⟨⟨M60, Hp.le_refl M60, S.pick [3, 4, 5, 6] (by decide)⟩, ?_⟩)
        exact hq6500 _ _ ⟨x5111, x5115, A5112, c5113, A5116, c5117, b6560, H, ⟨rfl, rfl, rfl, rfl, rfl, rfl, rfl, rfl, trivial⟩, E, S.pick [0, 1, 2, 3, 4, 5, 6] (by decide)⟩
    intro hq6496
    refine Wa_join (fun ρ w' => ∃ (x5091 : List Str) (x5095 : List Str) (x5099 : List Int) (A5092 : Option Addr) (c5093 : Nat) (A5096 : Option Addr) (c5097 : Nat) (A5100 : Option Addr) (c5101 : Nat) (b5089 : Nat), (if x5091.length + x5095.length ≤ 8796093022208 then (if (x5091 ++ x5095).length + t39.2.1.Keys.length ≤ 8796093022208 then (if x5099.length + t39.1.Kids.length ≤ 17592186044416 then (if (x5099 ++ t39.1.Kids).length + t39.2.1.Kids.length ≤ 17592186044416 then some (((x5091 ++ x5095) ++ t39.2.1.Keys), ((x5099 ++ t39.1.Kids) ++ t39.2.1.Kids)) else none) else none) else none) else none) = some o6467 ∧ Agree ρ [(1, .string (bs a1)), (2, .pointer (some ⟨b1, 0, none⟩)), (9, .pointer (some ⟨b104, 0, none⟩)), (15, .pointer (some ⟨b5089, 0, none⟩)), (189, .slice A5092 x5091.length c5093), (191, .slice A5096 x5095.length c5097), (194, .slice A50 t39.2.1.Keys.length c51), (196, .slice A5100 x5099.length c5101), (198, .slice A44 t39.1.Kids.length c45), (201, .slice A53 t39.2.1.Kids.length c54)] ∧ Ext w w' ∧ St w' M60 F [Blk b5089 (.cells #[.bool false, .slice none 0 0, .slice none 0 0, .slice none 0 0] 26 (0, 0)), Row (rInt .i64) 3 (.slice A5100 x5099.length c5101) x5099, Row rStr 9 (.slice A5096 x5095.length c5097) x5095, Row rStr 9 (.slice A5092 x5091.length c5093) x5091, Blk b104 (.cells #[.bool x110, .slice A112 x111.length c113, .slice A116 x115.length c117, .slice A120 x119.length c121] 26 (0, 0)), Blk b65 (.cells #[.bool t39.2.1.Leaf, .slice A50 t39.2.1.Keys.length c51, .slice A53 t39.2.1.Kids.length c54, .slice A56 t39.2.1.Rows.length c57] 26 (0, 0)), Blk b62 (.cells #[.bool t39.1.Leaf, .slice A41 t39.1.Keys.length c42, .slice A44 t39.1.Kids.length c45, .slice A47 t39.1.Rows.length c48] 26 (0, 0)), Blk b1 (.cells #[.bool a0.Leaf, .slice A0_0 a0.Keys.length c0_0, .slice A0_1 a0.Kids.length c0_1, .slice A0_2 a0.Rows.length c0_2] 26 (0, 0))]) 6 (Ls 20 [0, 1, 2, 3, 4, 5, 7, 8, 10, 11, 12, 14, 15, 18]) ?_ ?_
    · clear o6467h
      rintro ρ w6563 ⟨x5091, x5095, x5099, A5092, c5093, A5096, c5097, A5100, c5101, b5089, H, hρ, E, S⟩
      rw [agree_eta hρ]
      clear hρ
      refine Wa_solo (i := 6) rfl (by kernel_rfl) ?_
      obtain ⟨p6564, H⟩ := chkS H
      obtain ⟨src6565, hs6566, hC6567⟩ := src_of_read (P := Try.prog) (ρ := rStr) (l := x5095) (S.row_read 2 rfl) (by decide)
      refine W_append S 3 rfl rfl rfl Try.underlying22 (.inl Try.underlying22) ty9 rfl (by decide) (by decide) hs6566 hC6567 rfl (by omega) rfl ?_
      intro v6568 w6569 E' S
      replace E := E.trans E'
      clear E'
      obtain ⟨A6570, c6571, rfl, _⟩ := (S.row_read 3 rfl).form
      refine Wl_nil (on_n ⟨⟨M60, Hp.le_refl M60, S.pick [4, 5, 6, 7] (by decide)⟩, ?_⟩)
      exact hq6498 _ _ ⟨(x5091 ++ x5095), x5099, A6570, c6571, A5100, c5101, b5089, H, ⟨rfl, rfl, rfl, rfl, rfl, rfl, rfl, rfl, rfl, trivial⟩, E, S.pick [0, 1, 3, 4, 5, 6, 7] (by decide)⟩
    intro hq6495
    refine Wa_join (fun ρ w' => ∃ (x5074 : List Str) (A5075 : Option Addr) (c5076 : Nat) (b5072 : Nat), (if x5074.length + t39.2.1.Keys.length ≤ 8796093022208 then (if ([] : List Int).length + t39.1.Kids.length ≤ 17592186044416 then (if (([] : List Int) ++ t39.1.Kids).length + t39.2.1.Kids.length ≤ 17592186044416 then some ((x5074 ++ t39.2.1.Keys), ((([] : List Int) ++ t39.1.Kids) ++ t39.2.1.Kids)) else none) else none) else none) = some o6467 ∧ Agree ρ [(1, .string (bs a1)), (2, .pointer (some ⟨b1, 0, none⟩)), (9, .pointer (some ⟨b104, 0, none⟩)), (15, .pointer (some ⟨b5072, 0, none⟩)), (192, .slice A5075 x5074.length c5076), (194, .slice A50 t39.2.1.Keys.length c51), (198, .slice A44 t39.1.Kids.length c45), (201, .slice A53 t39.2.1.Kids.length c54)] ∧ Ext w w' ∧ St w' M60 F [Blk b5072 (.cells #[.bool false, .slice none 0 0, .slice none 0 0, .slice none 0 0] 26 (0, 0)), Row rStr 9 (.slice A5075 x5074.length c5076) x5074, Blk b104 (.cells #[.bool x110, .slice A112 x111.length c113, .slice A116 x115.length c117, .slice A120 x119.length c121] 26 (0, 0)), Blk b65 (.cells #[.bool t39.2.1.Leaf, .slice A50 t39.2.1.Keys.length c51, .slice A53 t39.2.1.Kids.length c54, .slice A56 t39.2.1.Rows.length c57] 26 (0, 0)), Blk b62 (.cells #[.bool t39.1.Leaf, .slice A41 t39.1.Keys.length c42, .slice A44 t39.1.Kids.length c45, .slice A47 t39.1.Rows.length c48] 26 (0, 0)), Blk b1 (.cells #[.bool a0.Leaf, .slice A0_0 a0.Keys.length c0_0, .slice A0_1 a0.Kids.length c0_1, .slice A0_2 a0.Rows.length c0_2] 26 (0, 0))]) 6 (Ls 20 [0, 1, 2, 3, 4, 5, 6, 7, 8, 11, 12, 14, 15, 18]) ?_ ?_
    · clear o6467h
      rintro ρ w6572 ⟨x5074, A5075, c5076, b5072, H, hρ, E, S⟩
      rw [agree_eta hρ]
      clear hρ
      refine Wa_oneOf (rs := [9, 10]) (by kernel_rfl) (by decide) ?_
      simp only [List.forall_mem_cons, List.not_mem_nil, false_implies, implies_true, and_true]
      refine ⟨?_, ?_⟩
      · refine ⟨_, rfl, ?_⟩
        obtain ⟨p6573, H⟩ := chkS H
        obtain ⟨src6574, hs6575, hC6576⟩ := src_of_read (P := Try.prog) (ρ := rStr) (l := t39.2.1.Keys) (SlR.world hs52 S) (by decide)
        refine W_append S 1 rfl rfl rfl Try.underlying22 (.inl Try.underlying22) ty9 rfl (by decide) (by decide) hs6575 hC6576 rfl (by omega) rfl ?_
        intro v6577 w6578 E' S
        replace E := E.trans E'
        clear E'
        obtain ⟨A6579, c6580, rfl, _⟩ := (S.row_read 1 rfl).form
        refine Wl_nil (on_n ⟨⟨M60, Hp.le_refl M60, S.pick [2, 3, 4, 5] (by decide)⟩, ?_⟩)
        exact hq6497 _ _ ⟨(x5074 ++ t39.2.1.Keys), A6579, c6580, b5072, H, ⟨rfl, rfl, rfl, rfl, rfl, rfl, rfl, trivial⟩, E, S.pick [0, 1, 2, 3, 4, 5] (by decide)⟩
      · refine ⟨_, rfl, ?_⟩
        refine W_bslice S #[] Try.underlying23 ty3 rfl rfl #[] (by kernel_rfl) (by kernel_rfl) rfl ?_
        intro b6581 w6582 E' S
        replace E := E.trans E'
        clear E'
        replace S := S.blk_row (r := (rInt .i64)) (l := ([] : List Int)) 0 rfl 0 (Nat.le_refl 0) rfl Cells.nil
        refine Wl_nil (on_n ⟨⟨M60, Hp.le_refl M60, S.pick [3, 4, 5, 6] (by decide)⟩, ?_⟩)
        exact hq6498 _ _ ⟨x5074, ([] : List Int), A5075, c5076, (some ⟨b6581, 0, none⟩), 0, b5072, H, ⟨rfl, rfl, rfl, rfl, rfl, rfl, rfl, rfl, rfl, trivial⟩, E, S.pick [1, 0, 2, 3, 4, 5, 6] (by decide)⟩
    intro hq6494
    refine Wa_join (fun ρ w' => ∃ (x5053 : List Str) (x5057 : List Int) (A5054 : Option Addr) (c5055 : Nat) (A5058 : Option Addr) (c5059 : Nat), (if x5053.length + t39.2.1.Keys.length ≤ 8796093022208 then (if x5057.length + t39.1.Kids.length ≤ 17592186044416 then (if (x5057 ++ t39.1.Kids).length + t39.2.1.Kids.length ≤ 17592186044416 then some ((x5053 ++ t39.2.1.Keys), ((x5057 ++ t39.1.Kids) ++ t39.2.1.Kids)) else none) else none) else none) = some o6467 ∧ Agree ρ [(1, .string (bs a1)), (2, .pointer (some ⟨b1, 0, none⟩)), (9, .pointer (some ⟨b104, 0, none⟩)), (192, .slice A5054 x5053.length c5055), (194, .slice A50 t39.2.1.Keys.length c51), (196, .slice A5058 x5057.length c5059), (198, .slice A44 t39.1.Kids.length c45), (201, .slice A53 t39.2.1.Kids.length c54)] ∧ Ext w w' ∧ St w' M60 F [Row (rInt .i64) 3 (.slice A5058 x5057.length c5059) x5057, Row rStr 9 (.slice A5054 x5053.length c5055) x5053, Blk b104 (.cells #[.bool x110, .slice A112 x111.length c113, .slice A116 x115.length c117, .slice A120 x119.length c121] 26 (0, 0)), Blk b65 (.cells #[.bool t39.2.1.Leaf, .slice A50 t39.2.1.Keys.length c51, .slice A53 t39.2.1.Kids.length c54, .slice A56 t39.2.1.Rows.length c57] 26 (0, 0)), Blk b62 (.cells #[.bool t39.1.Leaf, .slice A41 t39.1.Keys.length c42, .slice A44 t39.1.Kids.length c45, .slice A47 t39.1.Rows.length c48] 26 (0, 0)), Blk b1 (.cells #[.bool a0.Leaf, .slice A0_0 a0.Keys.length c0_0, .slice A0_1 a0.Kids.length c0_1, .slice A0_2 a0.Rows.length c0_2] 26 (0, 0))]) 6 (Ls 20 [0, 1, 2, 3, 4, 5, 6, 7, 8, 10, 11, 12, 14, 15]) ?_ ?_
    · clear o6467h
      rintro ρ w6584 ⟨x5053, x5057, A5054, c5055, A5058, c5059, H, hρ, E, S⟩
      rw [agree_eta hρ]
      clear hρ
      refine Wa_oneOf (rs := [9, 18]) (by kernel_rfl) (by decide) ?_
      simp only [List.forall_mem_cons, List.not_mem_nil, false_implies, implies_true, and_true]
      refine ⟨?_, ?_⟩
      · refine ⟨_, rfl, ?_⟩
        obtain ⟨p6585, H⟩ := chkS H
        obtain ⟨src6586, hs6587, hC6588⟩ := src_of_read (P := Try.prog) (ρ := rStr) (l := t39.2.1.Keys) (SlR.world hs52 S) (by decide)
        refine W_append S 1 rfl rfl rfl Try.underlying22 (.inl Try.underlying22) ty9 rfl (by decide) (by decide) hs6587 hC6588 rfl (by omega) rfl ?_
        intro v6589 w6590 E' S
        replace E := E.trans E'
        clear E'
        obtain ⟨A6591, c6592, rfl, _⟩ := (S.row_read 1 rfl).form
        refine Wl_nil (on_n ⟨⟨M60, Hp.le_refl M60, S.pick [2, 3, 4, 5] (by decide)⟩, ?_⟩)
        exact hq6496 _ _ ⟨(x5053 ++ t39.2.1.Keys), x5057, A6591, c6592, A5058, c5059, H, ⟨rfl, rfl, rfl, rfl, rfl, rfl, rfl, trivial⟩, E, S.pick [0, 1, 2, 3, 4, 5] (by decide)⟩
      · refine ⟨_, rfl, ?_⟩
        refine W_alloc S #[.bool false, .slice none 0 0, .slice none 0 0, .slice none 0 0] ty26 rfl rfl ?_
        intro b6593 w6594 E' S
        replace E := E.trans E'
        clear E'
        refine Wl_nil (on_n ⟨⟨M60, Hp.le_refl M60, S.pick [3, 4, 5, 6] (by decide)⟩, ?_⟩)
        exact hq6498 _ _ ⟨x5053, x5057, A5054, c5055, A5058, c5059, b6593, H, ⟨rfl, rfl, rfl, rfl, rfl, rfl, rfl, rfl, rfl, trivial⟩, E, S.pick [0, 1, 2, 3, 4, 5, 6] (by decide)⟩
    intro hq6493
    refine Wa_join (fun ρ w' => ∃ (x5043 : List Str) (A5044 : Option Addr) (c5045 : Nat), (if ([] : List Int).length + t39.1.Kids.length ≤ 17592186044416 then (if (([] : List Int) ++ t39.1.Kids).length + t39.2.1.Kids.length ≤ 17592186044416 then some (x5043, ((([] : List Int) ++ t39.1.Kids) ++ t39.2.1.Kids)) else none) else none) = some o6467 ∧ Agree ρ [(1, .string (bs a1)), (2, .pointer (some ⟨b1, 0, none⟩)), (9, .pointer (some ⟨b104, 0, none⟩)), (195, .slice A5044 x5043.length c5045), (198, .slice A44 t39.1.Kids.length c45), (201, .slice A53 t39.2.1.Kids.length c54)] ∧ Ext w w' ∧ St w' M60 F [Row rStr 9 (.slice A5044 x5043.length c5045) x5043, Blk b104 (.cells #[.bool x110, .slice A112 x111.length c113, .slice A116 x115.length c117, .slice A120 x119.length c121] 26 (0, 0)), Blk b65 (.cells #[.bool t39.2.1.Leaf, .slice A50 t39.2.1.Keys.length c51, .slice A53 t39.2.1.Kids.length c54, .slice A56 t39.2.1.Rows.length c57] 26 (0, 0)), Blk b62 (.cells #[.bool t39.1.Leaf, .slice A41 t39.1.Keys.length c42, .slice A44 t39.1.Kids.length c45, .slice A47 t39.1.Rows.length c48] 26 (0, 0)), Blk b1 (.cells #[.bool a0.Leaf, .slice A0_0 a0.Keys.length c0_0, .slice A0_1 a0.Kids.length c0_1, .slice A0_2 a0.Rows.length c0_2] 26 (0, 0))]) 6 (Ls 20 [0, 1, 2, 3, 4, 5, 6, 7, 8, 9, 11, 12, 14, 15]) ?_ ?_
    · clear o6467h
      rintro ρ w6596 ⟨x5043, A5044, c5045, H, hρ, E, S⟩
      rw [agree_eta hρ]
      clear hρ
      refine Wa_oneOf (rs := [10, 18]) (by kernel_rfl) (by decide) ?_
      simp only [List.forall_mem_cons, List.not_mem_nil, false_implies, implies_true, and_true]
      refine ⟨?_, ?_⟩
      · refine ⟨_, rfl, ?_⟩
        refine W_bslice S #[] Try.underlying23 ty3 rfl rfl #[] (by kernel_rfl) (by kernel_rfl) rfl ?_
        intro b6597 w6598 E' S
        replace E := E.trans E'
        clear E'
        replace S := S.blk_row (r := (rInt .i64)) (l := ([] : List Int)) 0 rfl 0 (Nat.le_refl 0) rfl Cells.nil
        refine Wl_nil (on_n ⟨⟨M60, Hp.le_refl M60, S.pick [2, 3, 4, 5] (by decide)⟩, ?_⟩)
        exact hq6496 _ _ ⟨x5043, ([] : List Int), A5044, c5045, (some ⟨b6597, 0, none⟩), 0, H, ⟨rfl, rfl, rfl, rfl, rfl, rfl, rfl, trivial⟩, E, S.pick [0, 1, 2, 3, 4, 5] (by decide)⟩
      · refine ⟨_, rfl, ?_⟩
        refine W_alloc S #[.bool false, .slice none 0 0, .slice none 0 0, .slice none 0 0] ty26 rfl rfl ?_
        intro b6600 w6601 E' S
        replace E := E.trans E'
        clear E'
        refine Wl_nil (on_n ⟨⟨M60, Hp.le_refl M60, S.pick [2, 3, 4, 5] (by decide)⟩, ?_⟩)
        exact hq6497 _ _ ⟨x5043, A5044, c5045, b6600, H, ⟨rfl, rfl, rfl, rfl, rfl, rfl, rfl, trivial⟩, E, S.pick [0, 1, 2, 3, 4, 5] (by decide)⟩
    intro hq6492
    refine Wa_join (fun ρ w' => ∃ (x5023 : List Str) (x5027 : List Str) (x5031 : List Int) (A5024 : Option Addr) (c5025 : Nat) (A5028 : Option Addr) (c5029 : Nat) (A5032 : Option Addr) (c5033 : Nat) (b5021 : Nat), (if x5023.length + t39.1.Keys.length ≤ 8796093022208 then (if (x5023 ++ t39.1.Keys).length + x5027.length ≤ 8796093022208 then (if ((x5023 ++ t39.1.Keys) ++ x5027).length + t39.2.1.Keys.length ≤ 8796093022208 then (if x5031.length + t39.1.Kids.length ≤ 17592186044416 then (if (x5031 ++ t39.1.Kids).length + t39.2.1.Kids.length ≤ 17592186044416 then some ((((x5023 ++ t39.1.Keys) ++ x5027) ++ t39.2.1.Keys), ((x5031 ++ t39.1.Kids) ++ t39.2.1.Kids)) else none) else none) else none) else none) else none) = some o6467 ∧ Agree ρ [(1, .string (bs a1)), (2, .pointer (some ⟨b1, 0, none⟩)), (9, .pointer (some ⟨b104, 0, none⟩)), (15, .pointer (some ⟨b5021, 0, none⟩)), (186, .slice A5024 x5023.length c5025), (188, .slice A41 t39.1.Keys.length c42), (191, .slice A5028 x5027.length c5029), (194, .slice A50 t39.2.1.Keys.length c51), (196, .slice A5032 x5031.length c5033), (198, .slice A44 t39.1.Kids.length c45), (201, .slice A53 t39.2.1.Kids.length c54)] ∧ Ext w w' ∧ St w' M60 F [Blk b5021 (.cells #[.bool false, .slice none 0 0, .slice none 0 0, .slice none 0 0] 26 (0, 0)), Row (rInt .i64) 3 (.slice A5032 x5031.length c5033) x5031, Row rStr 9 (.slice A5028 x5027.length c5029) x5027, Row rStr 9 (.slice A5024 x5023.length c5025) x5023, Blk b104 (.cells #[.bool x110, .slice A112 x111.length c113, .slice A116 x115.length c117, .slice A120 x119.length c121] 26 (0, 0)), Blk b65 (.cells #[.bool t39.2.1.Leaf, .slice A50 t39.2.1.Keys.length c51, .slice A53 t39.2.1.Kids.length c54, .slice A56 t39.2.1.Rows.length c57] 26 (0, 0)), Blk b62 (.cells #[.bool t39.1.Leaf, .slice A41 t39.1.Keys.length c42, .slice A44 t39.1.Kids.length c45, .slice A47 t39.1.Rows.length c48] 26 (0, 0)), Blk b1 (.cells #[.bool a0.Leaf, .slice A0_0 a0.Keys.length c0_0, .slice A0_1 a0.Kids.length c0_1, .slice A0_2 a0.Rows.length c0_2] 26 (0, 0))]) 7 (Ls 20 [0, 1, 2, 4, 5, 7, 8, 10, 11, 12, 14, 15, 18]) ?_ ?_
    · clear o6467h
      rintro ρ w6603 ⟨x5023, x5027, x5031, A5024, c5025, A5028, c5029, A5032, c5033, b5021, H, hρ, E, S⟩
      rw [agree_eta hρ]
      clear hρ
      refine Wa_solo (i := 3) rfl (by kernel_rfl) ?_
      obtain ⟨p6604, H⟩ := chkS H
      obtain ⟨src6605, hs6606, hC6607⟩ := src_of_read (P := Try.prog) (ρ := rStr) (l := t39.1.Keys) (SlR.world hs43 S) (by decide)
      refine W_append S 3 rfl rfl rfl Try.underlying22 (.inl Try.underlying22) ty9 rfl (by decide) (by decide) hs6606 hC6607 rfl (by omega) rfl ?_
      intro v6608 w6609 E' S
      replace E := E.trans E'
      clear E'
      obtain ⟨A6610, c6611, rfl, _⟩ := (S.row_read 3 rfl).form
      refine Wl_nil (on_n ⟨⟨M60, Hp.le_refl M60, S.pick [4, 5, 6, 7] (by decide)⟩, ?_⟩)
      exact hq6495 _ _ ⟨(x5023 ++ t39.1.Keys), x5027, x5031, A6610, c6611, A5028, c5029, A5032, c5033, b5021, H, ⟨rfl, rfl, rfl, rfl, rfl, rfl, rfl, rfl, rfl, rfl, trivial⟩, E, S.pick [0, 1, 2, 3, 4, 5, 6, 7] (by decide)⟩
    intro hq6491
    refine Wa_join (fun ρ w' => ∃ (x5010 : List Str) (x5014 : List Int) (A5011 : Option Addr) (c5012 : Nat) (A5015 : Option Addr) (c5016 : Nat) (b5008 : Nat), (if x5010.length + ([t39.2.2.1] : List Str).length ≤ 8796093022208 then (if (x5010 ++ ([t39.2.2.1] : List Str)).length + t39.2.1.Keys.length ≤ 8796093022208 then (if x5014.length + t39.1.Kids.length ≤ 17592186044416 then (if (x5014 ++ t39.1.Kids).length + t39.2.1.Kids.length ≤ 17592186044416 then some (((x5010 ++ ([t39.2.2.1] : List Str)) ++ t39.2.1.Keys), ((x5014 ++ t39.1.Kids) ++ t39.2.1.Kids)) else none) else none) else none) else none) = some o6467 ∧ Agree ρ [(1, .string (bs a1)), (2, .pointer (some ⟨b1, 0, none⟩)), (9, .pointer (some ⟨b104, 0, none⟩)), (15, .pointer (some ⟨b5008, 0, none⟩)), (189, .slice A5011 x5010.length c5012), (190, .string (bs t39.2.2.1)), (194, .slice A50 t39.2.1.Keys.length c51), (196, .slice A5015 x5014.length c5016), (198, .slice A44 t39.1.Kids.length c45), (201, .slice A53 t39.2.1.Kids.length c54)] ∧ Ext w w' ∧ St w' M60 F [Blk b5008 (.cells #[.bool false, .slice none 0 0, .slice none 0 0, .slice none 0 0] 26 (0, 0)), Row (rInt .i64) 3 (.slice A5015 x5014.length c5016) x5014, Row rStr 9 (.slice A5011 x5010.length c5012) x5010, Blk b104 (.cells #[.bool x110, .slice A112 x111.length c113, .slice A116 x115.length c117, .slice A120 x119.length c121] 26 (0, 0)), Blk b65 (.cells #[.bool t39.2.1.Leaf, .slice A50 t39.2.1.Keys.length c51, .slice A53 t39.2.1.Kids.length c54, .slice A56 t39.2.1.Rows.length c57] 26 (0, 0)), Blk b62 (.cells #[.bool t39.1.Leaf, .slice A41 t39.1.Keys.length c42, .slice A44 t39.1.Kids.length c45, .slice A47 t39.1.Rows.length c48] 26 (0, 0)), Blk b1 (.cells #[.bool a0.Leaf, .slice A0_0 a0.Keys.length c0_0, .slice A0_1 a0.Kids.length c0_1, .slice A0_2 a0.Rows.length c0_2] 26 (0, 0))]) 7 (Ls 20 [0, 1, 2, 3, 4, 7, 8, 10, 11, 12, 14, 15, 18]) ?_ ?_
    · clear o6467h
      rintro ρ w6612 ⟨x5010, x5014, A5011, c5012, A5015, c5016, b5008, H, hρ, E, S⟩
      rw [agree_eta hρ]
      clear hρ
      refine Wa_solo (i := 5) rfl (by kernel_rfl) ?_
      refine W_bslice S #[.string (bs t39.2.2.1)] Try.underlying22 ty9 rfl rfl #[.string (bs ([] : Str))] (by kernel_rfl) (by kernel_rfl) rfl ?_
      intro b6613 w6614 E' S
      replace E := E.trans E'
      clear E'
      replace S := S.blk_row (r := rStr) (l := ([t39.2.2.1] : List Str)) 0 rfl 1 (Nat.le_refl 1) rfl (Cells.cons (vs := [.string (bs t39.2.2.1)]) (rfl) Cells.nil)
      refine Wl_nil (on_n ⟨⟨M60, Hp.le_refl M60, S.pick [4, 5, 6, 7] (by decide)⟩, ?_⟩)
      exact hq6495 _ _ ⟨x5010, ([t39.2.2.1] : List Str), x5014, A5011, c5012, (some ⟨b6613, 0, none⟩), 1, A5015, c5016, b5008, H, ⟨rfl, rfl, rfl, rfl, rfl, rfl, rfl, rfl, rfl, rfl, trivial⟩, E, S.pick [1, 2, 0, 3, 4, 5, 6, 7] (by decide)⟩
    intro hq6490
    refine Wa_join (fun ρ w' => ∃ (x4989 : List Str) (x4993 : List Str) (A4990 : Option Addr) (c4991 : Nat) (A4994 : Option Addr) (c4995 : Nat) (b4987 : Nat), (if x4989.length + x4993.length ≤ 8796093022208 then (if (x4989 ++ x4993).length + t39.2.1.Keys.length ≤ 8796093022208 then (if ([] : List Int).length + t39.1.Kids.length ≤ 17592186044416 then (if (([] : List Int) ++ t39.1.Kids).length + t39.2.1.Kids.length ≤ 17592186044416 then some (((x4989 ++ x4993) ++ t39.2.1.Keys), ((([] : List Int) ++ t39.1.Kids) ++ t39.2.1.Kids)) else none) else none) else none) else none) = some o6467 ∧ Agree ρ [(1, .string (bs a1)), (2, .pointer (some ⟨b1, 0, none⟩)), (9, .pointer (some ⟨b104, 0, none⟩)), (15, .pointer (some ⟨b4987, 0, none⟩)), (189, .slice A4990 x4989.length c4991), (191, .slice A4994 x4993.length c4995), (194, .slice A50 t39.2.1.Keys.length c51), (198, .slice A44 t39.1.Kids.length c45), (201, .slice A53 t39.2.1.Kids.length c54)] ∧ Ext w w' ∧ St w' M60 F [Blk b4987 (.cells #[.bool false, .slice none 0 0, .slice none 0 0, .slice none 0 0] 26 (0, 0)), Row rStr 9 (.slice A4994 x4993.length c4995) x4993, Row rStr 9 (.slice A4990 x4989.length c4991) x4989, Blk b104 (.cells #[.bool x110, .slice A112 x111.length c113, .slice A116 x115.length c117, .slice A120 x119.length c121] 26 (0, 0)), Blk b65 (.cells #[.bool t39.2.1.Leaf, .slice A50 t39.2.1.Keys.length c51, .slice A53 t39.2.1.Kids.length c54, .slice A56 t39.2.1.Rows.length c57] 26 (0, 0)), Blk b62 (.cells #[.bool t39.1.Leaf, .slice A41 t39.1.Keys.length c42, .slice A44 t39.1.Kids.length c45, .slice A47 t39.1.Rows.length c48] 26 (0, 0)), Blk b1 (.cells #[.bool a0.Leaf, .slice A0_0 a0.Keys.length c0_0, .slice A0_1 a0.Kids.length c0_1, .slice A0_2 a0.Rows.length c0_2] 26 (0, 0))]) 7 (Ls 20 [0, 1, 2, 3, 4, 5, 7, 8, 11, 12, 14, 15, 18]) ?_ ?_
    · clear o6467h
      rintro ρ w6616 ⟨x4989, x4993, A4990, c4991, A4994, c4995, b4987, H, hρ, E, S⟩
      rw [agree_eta hρ]
      clear hρ
      refine Wa_oneOf (rs := [6, 10]) (by kernel_rfl) (by decide) ?_
      simp only [List.forall_mem_cons, List.not_mem_nil, false_implies, implies_true, and_true]
      refine ⟨?_, ?_⟩
      · refine ⟨_, rfl, ?_⟩
        obtain ⟨p6617, H⟩ := chkS H
        obtain ⟨src6618, hs6619, hC6620⟩ := src_of_read (P := Try.prog) (ρ := rStr) (l := x4993) (S.row_read 1 rfl) (by decide)
        refine W_append S 2 rfl rfl rfl Try.underlying22 (.inl Try.underlying22) ty9 rfl (by decide) (by decide) hs6619 hC6620 rfl (by omega) rfl ?_
        intro v6621 w6622 E' S
        replace E := E.trans E'
        clear E'
        obtain ⟨A6623, c6624, rfl, _⟩ := (S.row_read 2 rfl).form
        refine Wl_nil (on_n ⟨⟨M60, Hp.le_refl M60, S.pick [3, 4, 5, 6] (by decide)⟩, ?_⟩)
        exact hq6494 _ _ ⟨(x4989 ++ x4993), A6623, c6624, b4987, H, ⟨rfl, rfl, rfl, rfl, rfl, rfl, rfl, rfl, trivial⟩, E, S.pick [0, 2, 3, 4, 5, 6] (by decide)⟩
      · refine ⟨_, rfl, ?_⟩
        refine W_bslice S #[] Try.underlying23 ty3 rfl rfl #[] (by kernel_rfl) (by kernel_rfl) rfl ?_
        intro b6625 w6626 E' S
        replace E := E.trans E'
        clear E'
        replace S := S.blk_row (r := (rInt .i64)) (l := ([] : List Int)) 0 rfl 0 (Nat.le_refl 0) rfl Cells.nil
        refine Wl_nil (on_n ⟨⟨M60, Hp.le_refl M60, S.pick [4, 5, 6, 7] (by decide)⟩, ?_⟩)
        exact hq6495 _ _ ⟨x4989, x4993, ([] : List Int), A4990, c4991, A4994, c4995, (some ⟨b6625, 0, none⟩), 0, b4987, H, ⟨rfl, rfl, rfl, rfl, rfl, rfl, rfl, rfl, rfl, rfl, trivial⟩, E, S.pick [1, 0, 2, 3, 4, 5, 6, 7] (by decide)⟩
    intro hq6489
    refine Wa_join (fun ρ w' => ∃ (x4964 : List Str) (x4968 : List Str) (x4972 : List Int) (A4965 : Option Addr) (c4966 : Nat) (A4969 : Option Addr) (c4970 : Nat) (A4973 : Option Addr) (c4974 : Nat), (if x4964.length + x4968.length ≤ 8796093022208 then (if (x4964 ++ x4968).length + t39.2.1.Keys.length ≤ 8796093022208 then (if x4972.length + t39.1.Kids.length ≤ 17592186044416 then (if (x4972 ++ t39.1.Kids).length + t39.2.1.Kids.length ≤ 17592186044416 then some (((x4964 ++ x4968) ++ t39.2.1.Keys), ((x4972 ++ t39.1.Kids) ++ t39.2.1.Kids)) else none) else none) else none) else none) = some o6467 ∧ Agree ρ [(1, .string (bs a1)), (2, .pointer (some ⟨b1, 0, none⟩)), (9, .pointer (some ⟨b104, 0, none⟩)), (189, .slice A4965 x4964.length c4966), (191, .slice A4969 x4968.length c4970), (194, .slice A50 t39.2.1.Keys.length c51), (196, .slice A4973 x4972.length c4974), (198, .slice A44 t39.1.Kids.length c45), (201, .slice A53 t39.2.1.Kids.length c54)] ∧ Ext w w' ∧ St w' M60 F [Row (rInt .i64) 3 (.slice A4973 x4972.length c4974) x4972, Row rStr 9 (.slice A4969 x4968.length c4970) x4968, Row rStr 9 (.slice A4965 x4964.length c4966) x4964, Blk b104 (.cells #[.bool x110, .slice A112 x111.length c113, .slice A116 x115.length c117, .slice A120 x119.length c121] 26 (0, 0)), Blk b65 (.cells #[.bool t39.2.1.Leaf, .slice A50 t39.2.1.Keys.length c51, .slice A53 t39.2.1.Kids.length c54, .slice A56 t39.2.1.Rows.length c57] 26 (0, 0)), Blk b62 (.cells #[.bool t39.1.Leaf, .slice A41 t39.1.Keys.length c42, .slice A44 t39.1.Kids.length c45, .slice A47 t39.1.Rows.length c48] 26 (0, 0)), Blk b1 (.cells #[.bool a0.Leaf, .slice A0_0 a0.Keys.length c0_0, .slice A0_1 a0.Kids.length c0_1, .slice A0_2 a0.Rows.length c0_2] 26 (0, 0))]) 7 (Ls 20 [0, 1, 2, 3, 4, 5, 7, 8, 10, 11, 12, 14, 15]) ?_ ?_
    · clear o6467h
      rintro ρ w6628 ⟨x4964, x4968, x4972, A4965, c4966, A4969, c4970, A4973, c4974, H, hρ, E, S⟩
      rw [agree_eta hρ]
      clear hρ
      refine Wa_oneOf (rs := [6, 18]) (by kernel_rfl) (by decide) ?_
      simp only [List.forall_mem_cons, List.not_mem_nil, false_implies, implies_true, and_true]
      refine ⟨?_, ?_⟩
      · refine ⟨_, rfl, ?_⟩
        obtain ⟨p6629, H⟩ := chkS H
        obtain ⟨src6630, hs6631, hC6632⟩ := src_of_read (P := Try.prog) (ρ := rStr) (l := x4968) (S.row_read 1 rfl) (by decide)
        refine W_append S 2 rfl rfl rfl Try.underlying22 (.inl Try.underlying22) ty9 rfl (by decide) (by decide) hs6631 hC6632 rfl (by omega) rfl ?_
        intro v6633 w6634 E' S
        replace E := E.trans E'
        clear E'
        obtain ⟨A6635, c6636, rfl, _⟩ := (S.row_read 2 rfl).form
        refine Wl_nil (on_n ⟨⟨M60, Hp.le_refl M60, S.pick [3, 4, 5, 6] (by decide)⟩, ?_⟩)
        exact hq6493 _ _ ⟨(x4964 ++ x4968), x4972, A6635, c6636, A4973, c4974, H, ⟨rfl, rfl, rfl, rfl, rfl, rfl, rfl, rfl, trivial⟩, E, S.pick [0, 2, 3, 4, 5, 6] (by decide)⟩
      · refine ⟨_, rfl, ?_⟩
        refine W_alloc S #[.bool false, .slice none 0 0, .slice none 0 0, .slice none 0 0] ty26 rfl rfl ?_
        intro b6637 w6638 E' S
        replace E := E.trans E'
        clear E'
        refine Wl_nil (on_n ⟨⟨M60, Hp.le_refl M60, S.pick [4, 5, 6, 7] (by decide)⟩, ?_⟩)
        exact hq6495 _ _ ⟨x4964, x4968, x4972, A4965, c4966, A4969, c4970, A4973, c4974, b6637, H, ⟨rfl, rfl, rfl, rfl, rfl, rfl, rfl, rfl, rfl, rfl, trivial⟩, E, S.pick [0, 1, 2, 3, 4, 5, 6, 7] (by decide)⟩
    intro hq6488
    refine Wa_join (fun ρ w' => ∃ (x4946 : List Str) (A4947 : Option Addr) (c4948 : Nat), (if x4946.length + t39.2.1.Keys.length ≤ 8796093022208 then (if ([] : List Int).length + t39.1.Kids.length ≤ 17592186044416 then (if (([] : List Int) ++ t39.1.Kids).length + t39.2.1.Kids.length ≤ 17592186044416 then some ((x4946 ++ t39.2.1.Keys), ((([] : List Int) ++ t39.1.Kids) ++ t39.2.1.Kids)) else none) else none) else none) = some o6467 ∧ Agree ρ [(1, .string (bs a1)), (2, .pointer (some ⟨b1, 0, none⟩)), (9, .pointer (some ⟨b104, 0, none⟩)), (192, .slice A4947 x4946.length c4948), (194, .slice A50 t39.2.1.Keys.length c51), (198, .slice A44 t39.1.Kids.length c45), (201, .slice A53 t39.2.1.Kids.length c54)] ∧ Ext w w' ∧ St w' M60 F [Row rStr 9 (.slice A4947 x4946.length c4948) x4946, Blk b104 (.cells #[.bool x110, .slice A112 x111.length c113, .slice A116 x115.length c117, .slice A120 x119.length c121] 26 (0, 0)), Blk b65 (.cells #[.bool t39.2.1.Leaf, .slice A50 t39.2.1.Keys.length c51, .slice A53 t39.2.1.Kids.length c54, .slice A56 t39.2.1.Rows.length c57] 26 (0, 0)), Blk b62 (.cells #[.bool t39.1.Leaf, .slice A41 t39.1.Keys.length c42, .slice A44 t39.1.Kids.length c45, .slice A47 t39.1.Rows.length c48] 26 (0, 0)), Blk b1 (.cells #[.bool a0.Leaf, .slice A0_0 a0.Keys.length c0_0, .slice A0_1 a0.Kids.length c0_1, .slice A0_2 a0.Rows.length c0_2] 26 (0, 0))]) 7 (Ls 20 [0, 1, 2, 3, 4, 5, 6, 7, 8, 11, 12, 14, 15]) ?_ ?_
    · clear o6467h
      rintro ρ w6640 ⟨x4946, A4947, c4948, H, hρ, E, S⟩
      rw [agree_eta hρ]
      clear hρ
      refine Wa_oneOf (rs := [9, 10, 18]) (by kernel_rfl) (by decide) ?_
      simp only [List.forall_mem_cons, List.not_mem_nil, false_implies, implies_true, and_true]
      refine ⟨?_, ?_, ?_⟩
      · refine ⟨_, rfl, ?_⟩
        obtain ⟨p6641, H⟩ := chkS H
        obtain ⟨src6642, hs6643, hC6644⟩ := src_of_read (P := Try.prog) (ρ := rStr) (l := t39.2.1.Keys) (SlR.world hs52 S) (by decide)
        refine W_append S 0 rfl rfl rfl Try.underlying22 (.inl Try.underlying22) ty9 rfl (by decide) (by decide) hs6643 hC6644 rfl (by omega) rfl ?_
        intro v6645 w6646 E' S
        replace E := E.trans E'
        clear E'
        obtain ⟨A6647, c6648, rfl, _⟩ := (S.row_read 0 rfl).form
        refine Wl_nil (on_n ⟨⟨M60, Hp.le_refl M60, S.pick [1, 2, 3, 4] (by decide)⟩, ?_⟩)
        exact hq6492 _ _ ⟨(x4946 ++ t39.2.1.Keys), A6647, c6648, H, ⟨rfl, rfl, rfl, rfl, rfl, rfl, trivial⟩, E, S.pick [0, 1, 2, 3, 4] (by decide)⟩
      · refine ⟨_, rfl, ?_⟩
        refine W_bslice S #[] Try.underlying23 ty3 rfl rfl #[] (by kernel_rfl) (by kernel_rfl) rfl ?_
        intro b6649 w6650 E' S
        replace E := E.trans E'
        clear E'
        replace S := S.blk_row (r := (rInt .i64)) (l := ([] : List Int)) 0 rfl 0 (Nat.le_refl 0) rfl Cells.nil
        refine Wl_nil (on_n ⟨⟨M60, Hp.le_refl M60, S.pick [2, 3, 4, 5] (by decide)⟩, ?_⟩)
        exact hq6493 _ _ ⟨x4946, ([] : List Int), A4947, c4948, (some ⟨b6649, 0, none⟩), 0, H, ⟨rfl, rfl, rfl, rfl, rfl, rfl, rfl, rfl, trivial⟩, E, S.pick [0, 1, 2, 3, 4, 5] (by decide)⟩
      · refine ⟨_, rfl, ?_⟩
        refine W_alloc S #[.bool false, .slice none 0 0, .slice none 0 0, .slice none 0 0] ty26 rfl rfl ?_
        intro b6652 w6653 E' S
        replace E := E.trans E'
        clear E'
        refine Wl_nil (on_n ⟨⟨M60, Hp.le_refl M60, S.pick [2, 3, 4, 5] (by decide)⟩, ?_⟩)
        exact hq6494 _ _ ⟨x4946, A4947, c4948, b6652, H, ⟨rfl, rfl, rfl, rfl, rfl, rfl, rfl, rfl, trivial⟩, E, S.pick [0, 1, 2, 3, 4, 5] (by decide)⟩
    intro hq6487
    refine Wa_join (fun ρ w' => ∃ (x4935 : List Str) (x4939 : List Int) (A4936 : Option Addr) (c4937 : Nat) (A4940 : Option Addr) (c4941 : Nat) (b4933 : Nat), (if ([] : List Str).length + t39.1.Keys.length ≤ 8796093022208 then (if (([] : List Str) ++ t39.1.Keys).length + x4935.length ≤ 8796093022208 then (if ((([] : List Str) ++ t39.1.Keys) ++ x4935).length + t39.2.1.Keys.length ≤ 8796093022208 then (if x4939.length + t39.1.Kids.length ≤ 17592186044416 then (if (x4939 ++ t39.1.Kids).length + t39.2.1.Kids.length ≤ 17592186044416 then some ((((([] : List Str) ++ t39.1.Keys) ++ x4935) ++ t39.2.1.Keys), ((x4939 ++ t39.1.Kids) ++ t39.2.1.Kids)) else none) else none) else none) else none) else none) = some o6467 ∧ Agree ρ [(1, .string (bs a1)), (2, .pointer (some ⟨b1, 0, none⟩)), (9, .pointer (some ⟨b104, 0, none⟩)), (15, .pointer (some ⟨b4933, 0, none⟩)), (188, .slice A41 t39.1.Keys.length c42), (191, .slice A4936 x4935.length c4937), (194, .slice A50 t39.2.1.Keys.length c51), (196, .slice A4940 x4939.length c4941), (198, .slice A44 t39.1.Kids.length c45), (201, .slice A53 t39.2.1.Kids.length c54)] ∧ Ext w w' ∧ St w' M60 F [Blk b4933 (.cells #[.bool false, .slice none 0 0, .slice none 0 0, .slice none 0 0] 26 (0, 0)), Row (rInt .i64) 3 (.slice A4940 x4939.length c4941) x4939, Row rStr 9 (.slice A4936 x4935.length c4937) x4935, Blk b104 (.cells #[.bool x110, .slice A112 x111.length c113, .slice A116 x115.length c117, .slice A120 x119.length c121] 26 (0, 0)), Blk b65 (.cells #[.bool t39.2.1.Leaf, .slice A50 t39.2.1.Keys.length c51, .slice A53 t39.2.1.Kids.length c54, .slice A56 t39.2.1.Rows.length c57] 26 (0, 0)), Blk b62 (.cells #[.bool t39.1.Leaf, .slice A41 t39.1.Keys.length c42, .slice A44 t39.1.Kids.length c45, .slice A47 t39.1.Rows.length c48] 26 (0, 0)), Blk b1 (.cells #[.bool a0.Leaf, .slice A0_0 a0.Keys.length c0_0, .slice A0_1 a0.Kids.length c0_1, .slice A0_2 a0.Rows.length c0_2] 26 (0, 0))]) 8 (Ls 20 [1, 2, 4, 5, 7, 8, 10, 11, 12, 14, 15, 18]) ?_ ?_
    · clear o6467h
      rintro ρ w6655 ⟨x4935, x4939, A4936, c4937, A4940, c4941, b4933, H, hρ, E, S⟩
      rw [agree_eta hρ]
      clear hρ
      refine Wa_solo (i := 0) rfl (by kernel_rfl) ?_
      refine W_bslice S #[] Try.underlying22 ty9 rfl rfl #[] (by kernel_rfl) (by kernel_rfl) rfl ?_
      intro b6656 w6657 E' S
      replace E := E.trans E'
      clear E'
      replace S := S.blk_row (r := rStr) (l := ([] : List Str)) 0 rfl 0 (Nat.le_refl 0) rfl Cells.nil
      refine Wl_nil (on_n ⟨⟨M60, Hp.le_refl M60, S.pick [4, 5, 6, 7] (by decide)⟩, ?_⟩)
      exact hq6491 _ _ ⟨([] : List Str), x4935, x4939, (some ⟨b6656, 0, none⟩), 0, A4936, c4937, A4940, c4941, b4933, H, ⟨rfl, rfl, rfl, rfl, rfl, rfl, rfl, rfl, rfl, rfl, rfl, trivial⟩, E, S.pick [1, 2, 3, 0, 4, 5, 6, 7] (by decide)⟩
    intro hq6486
    refine Wa_join (fun ρ w' => ∃ (x4914 : List Str) (x4918 : List Int) (A4915 : Option Addr) (c4916 : Nat) (A4919 : Option Addr) (c4920 : Nat) (b4912 : Nat), (if x4914.length + t39.1.Keys.length ≤ 8796093022208 then (if (x4914 ++ t39.1.Keys).length + ([t39.2.2.1] : List Str).length ≤ 8796093022208 then (if ((x4914 ++ t39.1.Keys) ++ ([t39.2.2.1] : List Str)).length + t39.2.1.Keys.length ≤ 8796093022208 then (if x4918.length + t39.1.Kids.length ≤ 17592186044416 then (if (x4918 ++ t39.1.Kids).length + t39.2.1.Kids.length ≤ 17592186044416 then some ((((x4914 ++ t39.1.Keys) ++ ([t39.2.2.1] : List Str)) ++ t39.2.1.Keys), ((x4918 ++ t39.1.Kids) ++ t39.2.1.Kids)) else none) else none) else none) else none) else none) = some o6467 ∧ Agree ρ [(1, .string (bs a1)), (2, .pointer (some ⟨b1, 0, none⟩)), (9, .pointer (some ⟨b104, 0, none⟩)), (15, .pointer (some ⟨b4912, 0, none⟩)), (186, .slice A4915 x4914.length c4916), (188, .slice A41 t39.1.Keys.length c42), (190, .string (bs t39.2.2.1)), (194, .slice A50 t39.2.1.Keys.length c51), (196, .slice A4919 x4918.length c4920), (198, .slice A44 t39.1.Kids.length c45), (201, .slice A53 t39.2.1.Kids.length c54)] ∧ Ext w w' ∧ St w' M60 F [Blk b4912 (.cells #[.bool false, .slice none 0 0, .slice none 0 0, .slice none 0 0] 26 (0, 0)), Row (rInt .i64) 3 (.slice A4919 x4918.length c4920) x4918, Row rStr 9 (.slice A4915 x4914.length c4916) x4914, Blk b104 (.cells #[.bool x110, .slice A112 x111.length c113, .slice A116 x115.length c117, .slice A120 x119.length c121] 26 (0, 0)), Blk b65 (.cells #[.bool t39.2.1.Leaf, .slice A50 t39.2.1.Keys.length c51, .slice A53 t39.2.1.Kids.length c54, .slice A56 t39.2.1.Rows.length c57] 26 (0, 0)), Blk b62 (.cells #[.bool t39.1.Leaf, .slice A41 t39.1.Keys.length c42, .slice A44 t39.1.Kids.length c45, .slice A47 t39.1.Rows.length c48] 26 (0, 0)), Blk b1 (.cells #[.bool a0.Leaf, .slice A0_0 a0.Keys.length c0_0, .slice A0_1 a0.Kids.length c0_1, .slice A0_2 a0.Rows.length c0_2] 26 (0, 0))]) 8 (Ls 20 [0, 1, 2, 4, 7, 8, 10, 11, 12, 14, 15, 18]) ?_ ?_
    · clear o6467h
      rintro ρ w6659 ⟨x4914, x4918, A4915, c4916, A4919, c4920, b4912, H, hρ, E, S⟩
      rw [agree_eta hρ]
      clear hρ
      refine Wa_oneOf (rs := [3, 5]) (by kernel_rfl) (by decide) ?_
      simp only [List.forall_mem_cons, List.not_mem_nil, false_implies, implies_true, and_true]
      refine ⟨?_, ?_⟩
      · refine ⟨_, rfl, ?_⟩
        obtain ⟨p6660, H⟩ := chkS H
        obtain ⟨src6661, hs6662, hC6663⟩ := src_of_read (P := Try.prog) (ρ := rStr) (l := t39.1.Keys) (SlR.world hs43 S) (by decide)
        refine W_append S 2 rfl rfl rfl Try.underlying22 (.inl Try.underlying22) ty9 rfl (by decide) (by decide) hs6662 hC6663 rfl (by omega) rfl ?_
        intro v6664 w6665 E' S
        replace E := E.trans E'
        clear E'
        obtain ⟨A6666, c6667, rfl, _⟩ := (S.row_read 2 rfl).form
        refine Wl_nil (on_n ⟨⟨M60, Hp.le_refl M60, S.pick [3, 4, 5, 6] (by decide)⟩, ?_⟩)
        exact hq6490 _ _ ⟨(x4914 ++ t39.1.Keys), x4918, A6666, c6667, A4919, c4920, b4912, H, ⟨rfl, rfl, rfl, rfl, rfl, rfl, rfl, rfl, rfl, rfl, trivial⟩, E, S.pick [0, 1, 2, 3, 4, 5, 6] (by decide)⟩
      · refine ⟨_, rfl, ?_⟩
        refine W_bslice S #[.string (bs t39.2.2.1)] Try.underlying22 ty9 rfl rfl #[.string (bs ([] : Str))] (by kernel_rfl) (by kernel_rfl) rfl ?_
        intro b6668 w6669 E' S
        replace E := E.trans E'
        clear E'
        replace S := S.blk_row (r := rStr) (l := ([t39.2.2.1] : List Str)) 0 rfl 1 (Nat.le_refl 1) rfl (Cells.cons (vs := [.string (bs t39.2.2.1)]) (rfl) Cells.nil)
        refine Wl_nil (on_n ⟨⟨M60, Hp.le_refl M60, S.pick [4, 5, 6, 7] (by decide)⟩, ?_⟩)
        exact hq6491 _ _ ⟨x4914, ([t39.2.2.1] : List Str), x4918, A4915, c4916, (some ⟨b6668, 0, none⟩), 1, A4919, c4920, b4912, H, ⟨rfl, rfl, rfl, rfl, rfl, rfl, rfl, rfl, rfl, rfl, rfl, trivial⟩, E, S.pick [1, 2, 0, 3, 4, 5, 6, 7] (by decide)⟩
    intro hq6485
    refine Wa_join (fun ρ w' => ∃ (x4893 : List Str) (x4897 : List Str) (A4894 : Option Addr) (c4895 : Nat) (A4898 : Option Addr) (c4899 : Nat) (b4891 : Nat), (if x4893.length + t39.1.Keys.length ≤ 8796093022208 then (if (x4893 ++ t39.1.Keys).length + x4897.length ≤ 8796093022208 then (if ((x4893 ++ t39.1.Keys) ++ x4897).length + t39.2.1.Keys.length ≤ 8796093022208 then (if ([] : List Int).length + t39.1.Kids.length ≤ 17592186044416 then (if (([] : List Int) ++ t39.1.Kids).length + t39.2.1.Kids.length ≤ 17592186044416 then some ((((x4893 ++ t39.1.Keys) ++ x4897) ++ t39.2.1.Keys), ((([] : List Int) ++ t39.1.Kids) ++ t39.2.1.Kids)) else none) else none) else none) else none) else none) = some o6467 ∧ Agree ρ [(1, .string (bs a1)), (2, .pointer (some ⟨b1, 0, none⟩)), (9, .pointer (some ⟨b104, 0, none⟩)), (15, .pointer (some ⟨b4891, 0, none⟩)), (186, .slice A4894 x4893.length c4895), (188, .slice A41 t39.1.Keys.length c42), (191, .slice A4898 x4897.length c4899), (194, .slice A50 t39.2.1.Keys.length c51), (198, .slice A44 t39.1.Kids.length c45), (201, .slice A53 t39.2.1.Kids.length c54)] ∧ Ext w w' ∧ St w' M60 F [Blk b4891 (.cells #[.bool false, .slice none 0 0, .slice none 0 0, .slice none 0 0] 26 (0, 0)), Row rStr 9 (.slice A4898 x4897.length c4899) x4897, Row rStr 9 (.slice A4894 x4893.length c4895) x4893, Blk b104 (.cells #[.bool x110, .slice A112 x111.length c113, .slice A116 x115.length c117, .slice A120 x119.length c121] 26 (0, 0)), Blk b65 (.cells #[.bool t39.2.1.Leaf, .slice A50 t39.2.1.Keys.length c51, .slice A53 t39.2.1.Kids.length c54, .slice A56 t39.2.1.Rows.length c57] 26 (0, 0)), Blk b62 (.cells #[.bool t39.1.Leaf, .slice A41 t39.1.Keys.length c42, .slice A44 t39.1.Kids.length c45, .slice A47 t39.1.Rows.length c48] 26 (0, 0)), Blk b1 (.cells #[.bool a0.Leaf, .slice A0_0 a0.Keys.length c0_0, .slice A0_1 a0.Kids.length c0_1, .slice A0_2 a0.Rows.length c0_2] 26 (0, 0))]) 8 (Ls 20 [0, 1, 2, 4, 5, 7, 8, 11, 12, 14, 15, 18]) ?_ ?_
    · clear o6467h
      rintro ρ w6671 ⟨x4893, x4897, A4894, c4895, A4898, c4899, b4891, H, hρ, E, S⟩
      rw [agree_eta hρ]
      clear hρ
      refine Wa_oneOf (rs := [3, 10]) (by kernel_rfl) (by decide) ?_
      simp only [List.forall_mem_cons, List.not_mem_nil, false_implies, implies_true, and_true]
      refine ⟨?_, ?_⟩
      · refine ⟨_, rfl, ?_⟩
        obtain ⟨p6672, H⟩ := chkS H
        obtain ⟨src6673, hs6674, hC6675⟩ := src_of_read (P := Try.prog) (ρ := rStr) (l := t39.1.Keys) (SlR.world hs43 S) (by decide)
        refine W_append S 2 rfl rfl rfl Try.underlying22 (.inl Try.underlying22) ty9 rfl (by decide) (by decide) hs6674 hC6675 rfl (by omega) rfl ?_
        intro v6676 w6677 E' S
        replace E := E.trans E'
        clear E'
        obtain ⟨A6678, c6679, rfl, _⟩ := (S.row_read 2 rfl).form
        refine Wl_nil (on_n ⟨⟨M60, Hp.le_refl M60, S.pick [3, 4, 5, 6] (by decide)⟩, ?_⟩)
        exact hq6489 _ _ ⟨(x4893 ++ t39.1.Keys), x4897, A6678, c6679, A4898, c4899, b4891, H, ⟨rfl, rfl, rfl, rfl, rfl, rfl, rfl, rfl, rfl, trivial⟩, E, S.pick [0, 1, 2, 3, 4, 5, 6] (by decide)⟩
      · refine ⟨_, rfl, ?_⟩
        refine W_bslice S #[] Try.underlying23 ty3 rfl rfl #[] (by kernel_rfl) (by kernel_rfl) rfl ?_
        intro b6680 w6681 E' S
        replace E := E.trans E'
        clear E'
        replace S := S.blk_row (r := (rInt .i64)) (l := ([] : List Int)) 0 rfl 0 (Nat.le_refl 0) rfl Cells.nil
        refine Wl_nil (on_n ⟨⟨M60, Hp.le_refl M60, S.pick [4, 5, 6, 7] (by decide)⟩, ?_⟩)
        exact hq6491 _ _ ⟨x4893, x4897, ([] : List Int), A4894, c4895, A4898, c4899, (some ⟨b6680, 0, none⟩), 0, b4891, H, ⟨rfl, rfl, rfl, rfl, rfl, rfl, rfl, rfl, rfl, rfl, rfl, trivial⟩, E, S.pick [1, 0, 2, 3, 4, 5, 6, 7] (by decide)⟩
    intro hq6484
    refine Wa_join (fun ρ w' => ∃ (x4868 : List Str) (x4872 : List Str) (x4876 : List Int) (A4869 : Option Addr) (c4870 : Nat) (A4873 : Option Addr) (c4874 : Nat) (A4877 : Option Addr) (c4878 : Nat), (if x4868.length + t39.1.Keys.length ≤ 8796093022208 then (if (x4868 ++ t39.1.Keys).length + x4872.length ≤ 8796093022208 then (if ((x4868 ++ t39.1.Keys) ++ x4872).length + t39.2.1.Keys.length ≤ 8796093022208 then (if x4876.length + t39.1.Kids.length ≤ 17592186044416 then (if (x4876 ++ t39.1.Kids).length + t39.2.1.Kids.length ≤ 17592186044416 then some ((((x4868 ++ t39.1.Keys) ++ x4872) ++ t39.2.1.Keys), ((x4876 ++ t39.1.Kids) ++ t39.2.1.Kids)) else none) else none) else none) else none) else none) = some o6467 ∧ Agree ρ [(1, .string (bs a1)), (2, .pointer (some ⟨b1, 0, none⟩)), (9, .pointer (some ⟨b104, 0, none⟩)), (186, .slice A4869 x4868.length c4870), (188, .slice A41 t39.1.Keys.length c42), (191, .slice A4873 x4872.length c4874), (194, .slice A50 t39.2.1.Keys.length c51), (196, .slice A4877 x4876.length c4878), (198, .slice A44 t39.1.Kids.length c45), (201, .slice A53 t39.2.1.Kids.length c54)] ∧ Ext w w' ∧ St w' M60 F [Row (rInt .i64) 3 (.slice A4877 x4876.length c4878) x4876, Row rStr 9 (.slice A4873 x4872.length c4874) x4872, Row rStr 9 (.slice A4869 x4868.length c4870) x4868, Blk b104 (.cells #[.bool x110, .slice A112 x111.length c113, .slice A116 x115.length c117, .slice A120 x119.length c121] 26 (0, 0)), Blk b65 (.cells #[.bool t39.2.1.Leaf, .slice A50 t39.2.1.Keys.length c51, .slice A53 t39.2.1.Kids.length c54, .slice A56 t39.2.1.Rows.length c57] 26 (0, 0)), Blk b62 (.cells #[.bool t39.1.Leaf, .slice A41 t39.1.Keys.length c42, .slice A44 t39.1.Kids.length c45, .slice A47 t39.1.Rows.length c48] 26 (0, 0)), Blk b1 (.cells #[.bool a0.Leaf, .slice A0_0 a0.Keys.length c0_0, .slice A0_1 a0.Kids.length c0_1, .slice A0_2 a0.Rows.length c0_2] 26 (0, 0))]) 8 (Ls 20 [0, 1, 2, 4, 5, 7, 8, 10, 11, 12, 14, 15]) ?_ ?_
    · clear o6467h
      rintro ρ w6683 ⟨x4868, x4872, x4876, A4869, c4870, A4873, c4874, A4877, c4878, H, hρ, E, S⟩
      rw [agree_eta hρ]
      clear hρ
      refine Wa_oneOf (rs := [3, 18]) (by kernel_rfl) (by decide) ?_
      simp only [List.forall_mem_cons, List.not_mem_nil, false_implies, implies_true, and_true]
      refine ⟨?_, ?_⟩
      · refine ⟨_, rfl, ?_⟩
        obtain ⟨p6684, H⟩ := chkS H
        obtain ⟨src6685, hs6686, hC6687⟩ := src_of_read (P := Try.prog) (ρ := rStr) (l := t39.1.Keys) (SlR.world hs43 S) (by decide)
        refine W_append S 2 rfl rfl rfl Try.underlying22 (.inl Try.underlying22) ty9 rfl (by decide) (by decide) hs6686 hC6687 rfl (by omega) rfl ?_
        intro v6688 w6689 E' S
        replace E := E.trans E'
        clear E'
        obtain ⟨A6690, c6691, rfl, _⟩ := (S.row_read 2 rfl).form
        refine Wl_nil (on_n ⟨⟨M60, Hp.le_refl M60, S.pick [3, 4, 5, 6] (by decide)⟩, ?_⟩)
        exact hq6488 _ _ ⟨(x4868 ++ t39.1.Keys), x4872, x4876, A6690, c6691, A4873, c4874, A4877, c4878, H, ⟨rfl, rfl, rfl, rfl, rfl, rfl, rfl, rfl, rfl, trivial⟩, E, S.pick [0, 1, 2, 3, 4, 5, 6] (by decide)⟩
      · refine ⟨_, rfl, ?_⟩
        refine W_alloc S #[.bool false, .slice none 0 0, .slice none 0 0, .slice none 0 0] ty26 rfl rfl ?_
        intro b6692 w6693 E' S
        replace E := E.trans E'
        clear E'
        refine Wl_nil (on_n ⟨⟨M60, Hp.le_refl M60, S.pick [4, 5, 6, 7] (by decide)⟩, ?_⟩)
        exact hq6491 _ _ ⟨x4868, x4872, x4876, A4869, c4870, A4873, c4874, A4877, c4878, b6692, H, ⟨rfl, rfl, rfl, rfl, rfl, rfl, rfl, rfl, rfl, rfl, rfl, trivial⟩, E, S.pick [0, 1, 2, 3, 4, 5, 6, 7] (by decide)⟩
    intro hq6483
    refine Wa_join (fun ρ w' => ∃ (x4858 : List Str) (A4859 : Option Addr) (c4860 : Nat) (b4856 : Nat), (if x4858.length + ([t39.2.2.1] : List Str).length ≤ 8796093022208 then (if (x4858 ++ ([t39.2.2.1] : List Str)).length + t39.2.1.Keys.length ≤ 8796093022208 then (if ([] : List Int).length + t39.1.Kids.length ≤ 17592186044416 then (if (([] : List Int) ++ t39.1.Kids).length + t39.2.1.Kids.length ≤ 17592186044416 then some (((x4858 ++ ([t39.2.2.1] : List Str)) ++ t39.2.1.Keys), ((([] : List Int) ++ t39.1.Kids) ++ t39.2.1.Kids)) else none) else none) else none) else none) = some o6467 ∧ Agree ρ [(1, .string (bs a1)), (2, .pointer (some ⟨b1, 0, none⟩)), (9, .pointer (some ⟨b104, 0, none⟩)), (15, .pointer (some ⟨b4856, 0, none⟩)), (189, .slice A4859 x4858.length c4860), (190, .string (bs t39.2.2.1)), (194, .slice A50 t39.2.1.Keys.length c51), (198, .slice A44 t39.1.Kids.length c45), (201, .slice A53 t39.2.1.Kids.length c54)] ∧ Ext w w' ∧ St w' M60 F [Blk b4856 (.cells #[.bool false, .slice none 0 0, .slice none 0 0, .slice none 0 0] 26 (0, 0)), Row rStr 9 (.slice A4859 x4858.length c4860) x4858, Blk b104 (.cells #[.bool x110, .slice A112 x111.length c113, .slice A116 x115.length c117, .slice A120 x119.length c121] 26 (0, 0)), Blk b65 (.cells #[.bool t39.2.1.Leaf, .slice A50 t39.2.1.Keys.length c51, .slice A53 t39.2.1.Kids.length c54, .slice A56 t39.2.1.Rows.length c57] 26 (0, 0)), Blk b62 (.cells #[.bool t39.1.Leaf, .slice A41 t39.1.Keys.length c42, .slice A44 t39.1.Kids.length c45, .slice A47 t39.1.Rows.length c48] 26 (0, 0)), Blk b1 (.cells #[.bool a0.Leaf, .slice A0_0 a0.Keys.length c0_0, .slice A0_1 a0.Kids.length c0_1, .slice A0_2 a0.Rows.length c0_2] 26 (0, 0))]) 8 (Ls 20 [0, 1, 2, 3, 4, 7, 8, 11, 12, 14, 15, 18]) ?_ ?_
    · clear o6467h
      rintro ρ w6695 ⟨x4858, A4859, c4860, b4856, H, hρ, E, S⟩
      rw [agree_eta hρ]
      clear hρ
      refine Wa_oneOf (rs := [5, 10]) (by kernel_rfl) (by decide) ?_
      simp only [List.forall_mem_cons, List.not_mem_nil, false_implies, implies_true, and_true]
      refine ⟨?_, ?_⟩
      · refine ⟨_, rfl, ?_⟩
        refine W_bslice S #[.string (bs t39.2.2.1)] Try.underlying22 ty9 rfl rfl #[.string (bs ([] : Str))] (by kernel_rfl) (by kernel_rfl) rfl ?_
        intro b6696 w6697 E' S
        replace E := E.trans E'
        clear E'
        replace S := S.blk_row (r := rStr) (l := ([t39.2.2.1] : List Str)) 0 rfl 1 (Nat.le_refl 1) rfl (Cells.cons (vs := [.string (bs t39.2.2.1)]) (rfl) Cells.nil)
        refine Wl_nil (on_n ⟨⟨M60, Hp.le_refl M60, S.pick [3, 4, 5, 6] (by decide)⟩, ?_⟩)
        exact hq6489 _ _ ⟨x4858, ([t39.2.2.1] : List Str), A4859, c4860, (some ⟨b6696, 0, none⟩), 1, b4856, H, ⟨rfl, rfl, rfl, rfl, rfl, rfl, rfl, rfl, rfl, trivial⟩, E, S.pick [1, 0, 2, 3, 4, 5, 6] (by decide)⟩
      · refine ⟨_, rfl, ?_⟩
        refine W_bslice S #[] Try.underlying23 ty3 rfl rfl #[] (by kernel_rfl) (by kernel_rfl) rfl ?_
        intro b6699 w6700 E' S
        replace E := E.trans E'
        clear E'
        replace S := S.blk_row (r := (rInt .i64)) (l := ([] : List Int)) 0 rfl 0 (Nat.le_refl 0) rfl Cells.nil
        refine Wl_nil (on_n ⟨⟨M60, Hp.le_refl M60, S.pick [3, 4, 5, 6] (by decide)⟩, ?_⟩)
        exact hq6490 _ _ ⟨x4858, ([] : List Int), A4859, c4860, (some ⟨b6699, 0, none⟩), 0, b4856, H, ⟨rfl, rfl, rfl, rfl, rfl, rfl, rfl, rfl, rfl, rfl, trivial⟩, E, S.pick [1, 0, 2, 3, 4, 5, 6] (by decide)⟩
    intro hq6482
    refine Wa_join (fun ρ w' => ∃ (x4842 : List Str) (x4846 : List Int) (A4843 : Option Addr) (c4844 : Nat) (A4847 : Option Addr) (c4848 : Nat), (if x4842.length + ([t39.2.2.1] : List Str).length ≤ 8796093022208 then (if (x4842 ++ ([t39.2.2.1] : List Str)).length + t39.2.1.Keys.length ≤ 8796093022208 then (if x4846.length + t39.1.Kids.length ≤ 17592186044416 then (if (x4846 ++ t39.1.Kids).length + t39.2.1.Kids.length ≤ 17592186044416 then some (((x4842 ++ ([t39.2.2.1] : List Str)) ++ t39.2.1.Keys), ((x4846 ++ t39.1.Kids) ++ t39.2.1.Kids)) else none) else none) else none) else none) = some o6467 ∧ Agree ρ [(1, .string (bs a1)), (2, .pointer (some ⟨b1, 0, none⟩)), (9, .pointer (some ⟨b104, 0, none⟩)), (189, .slice A4843 x4842.length c4844), (190, .string (bs t39.2.2.1)), (194, .slice A50 t39.2.1.Keys.length c51), (196, .slice A4847 x4846.length c4848), (198, .slice A44 t39.1.Kids.length c45), (201, .slice A53 t39.2.1.Kids.length c54)] ∧ Ext w w' ∧ St w' M60 F [Row (rInt .i64) 3 (.slice A4847 x4846.length c4848) x4846, Row rStr 9 (.slice A4843 x4842.length c4844) x4842, Blk b104 (.cells #[.bool x110, .slice A112 x111.length c113, .slice A116 x115.length c117, .slice A120 x119.length c121] 26 (0, 0)), Blk b65 (.cells #[.bool t39.2.1.Leaf, .slice A50 t39.2.1.Keys.length c51, .slice A53 t39.2.1.Kids.length c54, .slice A56 t39.2.1.Rows.length c57] 26 (0, 0)), Blk b62 (.cells #[.bool t39.1.Leaf, .slice A41 t39.1.Keys.length c42, .slice A44 t39.1.Kids.length c45, .slice A47 t39.1.Rows.length c48] 26 (0, 0)), Blk b1 (.cells #[.bool a0.Leaf, .slice A0_0 a0.Keys.length c0_0, .slice A0_1 a0.Kids.length c0_1, .slice A0_2 a0.Rows.length c0_2] 26 (0, 0))]) 8 (Ls 20 [0, 1, 2, 3, 4, 7, 8, 10, 11, 12, 14, 15]) ?_ ?_
    · clear o6467h
      rintro ρ w6702 ⟨x4842, x4846, A4843, c4844, A4847, c4848, H, hρ, E, S⟩
      rw [agree_eta hρ]
      clear hρ
      refine Wa_oneOf (rs := [5, 18]) (by kernel_rfl) (by decide) ?_
      simp only [List.forall_mem_cons, List.not_mem_nil, false_implies, implies_true, and_true]
      refine ⟨?_, ?_⟩
      · refine ⟨_, rfl, ?_⟩
        refine W_bslice S #[.string (bs t39.2.2.1)] Try.underlying22 ty9 rfl rfl #[.string (bs ([] : Str))] (by kernel_rfl) (by kernel_rfl) rfl ?_
        intro b6703 w6704 E' S
        replace E := E.trans E'
        clear E'
        replace S := S.blk_row (r := rStr) (l := ([t39.2.2.1] : List Str)) 0 rfl 1 (Nat.le_refl 1) rfl (Cells.cons (vs := [.string (bs t39.2.2.1)]) (rfl) Cells.nil)
        refine Wl_nil (on_n ⟨⟨M60, Hp.le_refl M60, S.pick [3, 4, 5, 6] (by decide)⟩, ?_⟩)
        exact hq6488 _ _ ⟨x4842, ([t39.2.2.1] : List Str), x4846, A4843, c4844, (some ⟨b6703, 0, none⟩), 1, A4847, c4848, H, ⟨rfl, rfl, rfl, rfl, rfl, rfl, rfl, rfl, rfl, trivial⟩, E, S.pick [1, 0, 2, 3, 4, 5, 6] (by decide)⟩
      · refine ⟨_, rfl, ?_⟩
        refine W_alloc S #[.bool false, .slice none 0 0, .slice none 0 0, .slice none 0 0] ty26 rfl rfl ?_
        intro b6706 w6707 E' S
        replace E := E.trans E'
        clear E'
        refine Wl_nil (on_n ⟨⟨M60, Hp.le_refl M60, S.pick [3, 4, 5, 6] (by decide)⟩, ?_⟩)
        exact hq6490 _ _ ⟨x4842, x4846, A4843, c4844, A4847, c4848, b6706, H, ⟨rfl, rfl, rfl, rfl, rfl, rfl, rfl, rfl, rfl, rfl, trivial⟩, E, S.pick [0, 1, 2, 3, 4, 5, 6] (by decide)⟩
    intro hq6481
    refine Wa_join (fun ρ w' => ∃ (x4820 : List Str) (x4824 : List Str) (A4821 : Option Addr) (c4822 : Nat) (A4825 : Option Addr) (c4826 : Nat), (if x4820.length + x4824.length ≤ 8796093022208 then (if (x4820 ++ x4824).length + t39.2.1.Keys.length ≤ 8796093022208 then (if ([] : List Int).length + t39.1.Kids.length ≤ 17592186044416 then (if (([] : List Int) ++ t39.1.Kids).length + t39.2.1.Kids.length ≤ 17592186044416 then some (((x4820 ++ x4824) ++ t39.2.1.Keys), ((([] : List Int) ++ t39.1.Kids) ++ t39.2.1.Kids)) else none) else none) else none) else none) = some o6467 ∧ Agree ρ [(1, .string (bs a1)), (2, .pointer (some ⟨b1, 0, none⟩)), (9, .pointer (some ⟨b104, 0, none⟩)), (189, .slice A4821 x4820.length c4822), (191, .slice A4825 x4824.length c4826), (194, .slice A50 t39.2.1.Keys.length c51), (198, .slice A44 t39.1.Kids.length c45), (201, .slice A53 t39.2.1.Kids.length c54)] ∧ Ext w w' ∧ St w' M60 F [Row rStr 9 (.slice A4825 x4824.length c4826) x4824, Row rStr 9 (.slice A4821 x4820.length c4822) x4820, Blk b104 (.cells #[.bool x110, .slice A112 x111.length c113, .slice A116 x115.length c117, .slice A120 x119.length c121] 26 (0, 0)), Blk b65 (.cells #[.bool t39.2.1.Leaf, .slice A50 t39.2.1.Keys.length c51, .slice A53 t39.2.1.Kids.length c54, .slice A56 t39.2.1.Rows.length c57] 26 (0, 0)), Blk b62 (.cells #[.bool t39.1.Leaf, .slice A41 t39.1.Keys.length c42, .slice A44 t39.1.Kids.length c45, .slice A47 t39.1.Rows.length c48] 26 (0, 0)), Blk b1 (.cells #[.bool a0.Leaf, .slice A0_0 a0.Keys.length c0_0, .slice A0_1 a0.Kids.length c0_1, .slice A0_2 a0.Rows.length c0_2] 26 (0, 0))]) 8 (Ls 20 [0, 1, 2, 3, 4, 5, 7, 8, 11, 12, 14, 15]) ?_ ?_
    · clear o6467h
      rintro ρ w6709 ⟨x4820, x4824, A4821, c4822, A4825, c4826, H, hρ, E, S⟩
      rw [agree_eta hρ]
      clear hρ
      refine Wa_oneOf (rs := [6, 10, 18]) (by kernel_rfl) (by decide) ?_
      simp only [List.forall_mem_cons, List.not_mem_nil, false_implies, implies_true, and_true]
      refine ⟨?_, ?_, ?_⟩
      · refine ⟨_, rfl, ?_⟩
        obtain ⟨p6710, H⟩ := chkS H
        obtain ⟨src6711, hs6712, hC6713⟩ := src_of_read (P := Try.prog) (ρ := rStr) (l := x4824) (S.row_read 0 rfl) (by decide)
        refine W_append S 1 rfl rfl rfl Try.underlying22 (.inl Try.underlying22) ty9 rfl (by decide) (by decide) hs6712 hC6713 rfl (by omega) rfl ?_
        intro v6714 w6715 E' S
        replace E := E.trans E'
        clear E'
        obtain ⟨A6716, c6717, rfl, _⟩ := (S.row_read 1 rfl).form
        refine Wl_nil (on_n ⟨⟨M60, Hp.le_refl M60, S.pick [2, 3, 4, 5] (by decide)⟩, ?_⟩)
        exact hq6487 _ _ ⟨(x4820 ++ x4824), A6716, c6717, H, ⟨rfl, rfl, rfl, rfl, rfl, rfl, rfl, trivial⟩, E, S.pick [1, 2, 3, 4, 5] (by decide)⟩
      · refine ⟨_, rfl, ?_⟩
        refine W_bslice S #[] Try.underlying23 ty3 rfl rfl #[] (by kernel_rfl) (by kernel_rfl) rfl ?_
        intro b6718 w6719 E' S
        replace E := E.trans E'
        clear E'
        replace S := S.blk_row (r := (rInt .i64)) (l := ([] : List Int)) 0 rfl 0 (Nat.le_refl 0) rfl Cells.nil
        refine Wl_nil (on_n ⟨⟨M60, Hp.le_refl M60, S.pick [3, 4, 5, 6] (by decide)⟩, ?_⟩)
        exact hq6488 _ _ ⟨x4820, x4824, ([] : List Int), A4821, c4822, A4825, c4826, (some ⟨b6718, 0, none⟩), 0, H, ⟨rfl, rfl, rfl, rfl, rfl, rfl, rfl, rfl, rfl, trivial⟩, E, S.pick [0, 1, 2, 3, 4, 5, 6] (by decide)⟩
      · refine ⟨_, rfl, ?_⟩
        refine W_alloc S #[.bool false, .slice none 0 0, .slice none 0 0, .slice none 0 0] ty26 rfl rfl ?_
        intro b6721 w6722 E' S
        replace E := E.trans E'
        clear E'
        refine Wl_nil (on_n ⟨⟨M60, Hp.le_refl M60, S.pick [3, 4, 5, 6] (by decide)⟩, ?_⟩)
        exact hq6489 _ _ ⟨x4820, x4824, A4821, c4822, A4825, c4826, b6721, H, ⟨rfl, rfl, rfl, rfl, rfl, rfl, rfl, rfl, rfl, trivial⟩, E, S.pick [0, 1, 2, 3, 4, 5, 6] (by decide)⟩
    intro hq6480
    refine Wa_join (fun ρ w' => ∃ (x4810 : List Int) (A4811 : Option Addr) (c4812 : Nat) (b4808 : Nat), (if ([] : List Str).length + t39.1.Keys.length ≤ 8796093022208 then (if (([] : List Str) ++ t39.1.Keys).length + ([t39.2.2.1] : List Str).length ≤ 8796093022208 then (if ((([] : List Str) ++ t39.1.Keys) ++ ([t39.2.2.1] : List Str)).length + t39.2.1.Keys.length ≤ 8796093022208 then (if x4810.length + t39.1.Kids.length ≤ 17592186044416 then (if (x4810 ++ t39.1.Kids).length + t39.2.1.Kids.length ≤ 17592186044416 then some ((((([] : List Str) ++ t39.1.Keys) ++ ([t39.2.2.1] : List Str)) ++ t39.2.1.Keys), ((x4810 ++ t39.1.Kids) ++ t39.2.1.Kids)) else none) else none) else none) else none) else none) = some o6467 ∧ Agree ρ [(1, .string (bs a1)), (2, .pointer (some ⟨b1, 0, none⟩)), (9, .pointer (some ⟨b104, 0, none⟩)), (15, .pointer (some ⟨b4808, 0, none⟩)), (188, .slice A41 t39.1.Keys.length c42), (190, .string (bs t39.2.2.1)), (194, .slice A50 t39.2.1.Keys.length c51), (196, .slice A4811 x4810.length c4812), (198, .slice A44 t39.1.Kids.length c45), (201, .slice A53 t39.2.1.Kids.length c54)] ∧ Ext w w' ∧ St w' M60 F [Blk b4808 (.cells #[.bool false, .slice none 0 0, .slice none 0 0, .slice none 0 0] 26 (0, 0)), Row (rInt .i64) 3 (.slice A4811 x4810.length c4812) x4810, Blk b104 (.cells #[.bool x110, .slice A112 x111.length c113, .slice A116 x115.length c117, .slice A120 x119.length c121] 26 (0, 0)), Blk b65 (.cells #[.bool t39.2.1.Leaf, .slice A50 t39.2.1.Keys.length c51, .slice A53 t39.2.1.Kids.length c54, .slice A56 t39.2.1.Rows.length c57] 26 (0, 0)), Blk b62 (.cells #[.bool t39.1.Leaf, .slice A41 t39.1.Keys.length c42, .slice A44 t39.1.Kids.length c45, .slice A47 t39.1.Rows.length c48] 26 (0, 0)), Blk b1 (.cells #[.bool a0.Leaf, .slice A0_0 a0.Keys.length c0_0, .slice A0_1 a0.Kids.length c0_1, .slice A0_2 a0.Rows.length c0_2] 26 (0, 0))]) 9 (Ls 20 [1, 2, 4, 7, 8, 10, 11, 12, 14, 15, 18]) ?_ ?_
    · clear o6467h
      rintro ρ w6724 ⟨x4810, A4811, c4812, b4808, H, hρ, E, S⟩
      rw [agree_eta hρ]
      clear hρ
      refine Wa_oneOf (rs := [0, 5]) (by kernel_rfl) (by decide) ?_
      simp only [List.forall_mem_cons, List.not_mem_nil, false_implies, implies_true, and_true]
      refine ⟨?_, ?_⟩
      · refine ⟨_, rfl, ?_⟩
        refine W_bslice S #[] Try.underlying22 ty9 rfl rfl #[] (by kernel_rfl) (by kernel_rfl) rfl ?_
        intro b6725 w6726 E' S
        replace E := E.trans E'
        clear E'
        replace S := S.blk_row (r := rStr) (l := ([] : List Str)) 0 rfl 0 (Nat.le_refl 0) rfl Cells.nil
        refine Wl_nil (on_n ⟨⟨M60, Hp.le_refl M60, S.pick [3, 4, 5, 6] (by decide)⟩, ?_⟩)
        exact hq6485 _ _ ⟨([] : List Str), x4810, (some ⟨b6725, 0, none⟩), 0, A4811, c4812, b4808, H, ⟨rfl, rfl, rfl, rfl, rfl, rfl, rfl, rfl, rfl, rfl, rfl, trivial⟩, E, S.pick [1, 2, 0, 3, 4, 5, 6] (by decide)⟩
      · refine ⟨_, rfl, ?_⟩
        refine W_bslice S #[.string (bs t39.2.2.1)] Try.underlying22 ty9 rfl rfl #[.string (bs ([] : Str))] (by kernel_rfl) (by kernel_rfl) rfl ?_
        intro b6728 w6729 E' S
        replace E := E.trans E'
        clear E'
        replace S := S.blk_row (r := rStr) (l := ([t39.2.2.1] : List Str)) 0 rfl 1 (Nat.le_refl 1) rfl (Cells.cons (vs := [.string (bs t39.2.2.1)]) (rfl) Cells.nil)
        refine Wl_nil (on_n ⟨⟨M60, Hp.le_refl M60, S.pick [3, 4, 5, 6] (by decide)⟩, ?_⟩)
        exact hq6486 _ _ ⟨([t39.2.2.1] : List Str), x4810, (some ⟨b6728, 0, none⟩), 1, A4811, c4812, b4808, H, ⟨rfl, rfl, rfl, rfl, rfl, rfl, rfl, rfl, rfl, rfl, trivial⟩, E, S.pick [1, 2, 0, 3, 4, 5, 6] (by decide)⟩
    intro hq6479
    refine Wa_join (fun ρ w' => ∃ (x4798 : List Str) (A4799 : Option Addr) (c4800 : Nat) (b4796 : Nat), (if ([] : List Str).length + t39.1.Keys.length ≤ 8796093022208 then (if (([] : List Str) ++ t39.1.Keys).length + x4798.length ≤ 8796093022208 then (if ((([] : List Str) ++ t39.1.Keys) ++ x4798).length + t39.2.1.Keys.length ≤ 8796093022208 then (if ([] : List Int).length + t39.1.Kids.length ≤ 17592186044416 then (if (([] : List Int) ++ t39.1.Kids).length + t39.2.1.Kids.length ≤ 17592186044416 then some ((((([] : List Str) ++ t39.1.Keys) ++ x4798) ++ t39.2.1.Keys), ((([] : List Int) ++ t39.1.Kids) ++ t39.2.1.Kids)) else none) else none) else none) else none) else none) = some o6467 ∧ Agree ρ [(1, .string (bs a1)), (2, .pointer (some ⟨b1, 0, none⟩)), (9, .pointer (some ⟨b104, 0, none⟩)), (15, .pointer (some ⟨b4796, 0, none⟩)), (188, .slice A41 t39.1.Keys.length c42), (191, .slice A4799 x4798.length c4800), (194, .slice A50 t39.2.1.Keys.length c51), (198, .slice A44 t39.1.Kids.length c45), (201, .slice A53 t39.2.1.Kids.length c54)] ∧ Ext w w' ∧ St w' M60 F [Blk b4796 (.cells #[.bool false, .slice none 0 0, .slice none 0 0, .slice none 0 0] 26 (0, 0)), Row rStr 9 (.slice A4799 x4798.length c4800) x4798, Blk b104 (.cells #[.bool x110, .slice A112 x111.length c113, .slice A116 x115.length c117, .slice A120 x119.length c121] 26 (0, 0)), Blk b65 (.cells #[.bool t39.2.1.Leaf, .slice A50 t39.2.1.Keys.length c51, .slice A53 t39.2.1.Kids.length c54, .slice A56 t39.2.1.Rows.length c57] 26 (0, 0)), Blk b62 (.cells #[.bool t39.1.Leaf, .slice A41 t39.1.Keys.length c42, .slice A44 t39.1.Kids.length c45, .slice A47 t39.1.Rows.length c48] 26 (0, 0)), Blk b1 (.cells #[.bool a0.Leaf, .slice A0_0 a0.Keys.length c0_0, .slice A0_1 a0.Kids.length c0_1, .slice A0_2 a0.Rows.length c0_2] 26 (0, 0))]) 9 (Ls 20 [1, 2, 4, 5, 7, 8, 11, 12, 14, 15, 18]) ?_ ?_
    · clear o6467h
      rintro ρ w6731 ⟨x4798, A4799, c4800, b4796, H, hρ, E, S⟩
      rw [agree_eta hρ]
      clear hρ
      refine Wa_oneOf (rs := [0, 10]) (by kernel_rfl) (by decide) ?_
      simp only [List.forall_mem_cons, List.not_mem_nil, false_implies, implies_true, and_true]
      refine ⟨?_, ?_⟩
      · refine ⟨_, rfl, ?_⟩
        refine W_bslice S #[] Try.underlying22 ty9 rfl rfl #[] (by kernel_rfl) (by kernel_rfl) rfl ?_
        intro b6732 w6733 E' S
        replace E := E.trans E'
        clear E'
        replace S := S.blk_row (r := rStr) (l := ([] : List Str)) 0 rfl 0 (Nat.le_refl 0) rfl Cells.nil
        refine Wl_nil (on_n ⟨⟨M60, Hp.le_refl M60, S.pick [3, 4, 5, 6] (by decide)⟩, ?_⟩)
        exact hq6484 _ _ ⟨([] : List Str), x4798, (some ⟨b6732, 0, none⟩), 0, A4799, c4800, b4796, H, ⟨rfl, rfl, rfl, rfl, rfl, rfl, rfl, rfl, rfl, rfl, trivial⟩, E, S.pick [1, 2, 0, 3, 4, 5, 6] (by decide)⟩
      · refine ⟨_, rfl, ?_⟩
        refine W_bslice S #[] Try.underlying23 ty3 rfl rfl #[] (by kernel_rfl) (by kernel_rfl) rfl ?_
        intro b6735 w6736 E' S
        replace E := E.trans E'
        clear E'
        replace S := S.blk_row (r := (rInt .i64)) (l := ([] : List Int)) 0 rfl 0 (Nat.le_refl 0) rfl Cells.nil
        refine Wl_nil (on_n ⟨⟨M60, Hp.le_refl M60, S.pick [3, 4, 5, 6] (by decide)⟩, ?_⟩)
        exact hq6486 _ _ ⟨x4798, ([] : List Int), A4799, c4800, (some ⟨b6735, 0, none⟩), 0, b4796, H, ⟨rfl, rfl, rfl, rfl, rfl, rfl, rfl, rfl, rfl, rfl, trivial⟩, E, S.pick [1, 0, 2, 3, 4, 5, 6] (by decide)⟩
    intro hq6478
    refine Wa_join (fun ρ w' => ∃ (x4782 : List Str) (x4786 : List Int) (A4783 : Option Addr) (c4784 : Nat) (A4787 : Option Addr) (c4788 : Nat), (if ([] : List Str).length + t39.1.Keys.length ≤ 8796093022208 then (if (([] : List Str) ++ t39.1.Keys).length + x4782.length ≤ 8796093022208 then (if ((([] : List Str) ++ t39.1.Keys) ++ x4782).length + t39.2.1.Keys.length ≤ 8796093022208 then (if x4786.length + t39.1.Kids.length ≤ 17592186044416 then (if (x4786 ++ t39.1.Kids).length + t39.2.1.Kids.length ≤ 17592186044416 then some ((((([] : List Str) ++ t39.1.Keys) ++ x4782) ++ t39.2.1.Keys), ((x4786 ++ t39.1.Kids) ++ t39.2.1.Kids)) else none) else none) else none) else none) else none) = some o6467 ∧ Agree ρ [(1, .string (bs a1)), (2, .pointer (some ⟨b1, 0, none⟩)), (9, .pointer (some ⟨b104, 0, none⟩)), (188, .slice A41 t39.1.Keys.length c42), (191, .slice A4783 x4782.length c4784), (194, .slice A50 t39.2.1.Keys.length c51), (196, .slice A4787 x4786.length c4788), (198, .slice A44 t39.1.Kids.length c45), (201, .slice A53 t39.2.1.Kids.length c54)] ∧ Ext w w' ∧ St w' M60 F [Row (rInt .i64) 3 (.slice A4787 x4786.length c4788) x4786, Row rStr 9 (.slice A4783 x4782.length c4784) x4782, Blk b104 (.cells #[.bool x110, .slice A112 x111.length c113, .slice A116 x115.length c117, .slice A120 x119.length c121] 26 (0, 0)), Blk b65 (.cells #[.bool t39.2.1.Leaf, .slice A50 t39.2.1.Keys.length c51, .slice A53 t39.2.1.Kids.length c54, .slice A56 t39.2.1.Rows.length c57] 26 (0, 0)), Blk b62 (.cells #[.bool t39.1.Leaf, .slice A41 t39.1.Keys.length c42, .slice A44 t39.1.Kids.length c45, .slice A47 t39.1.Rows.length c48] 26 (0, 0)), Blk b1 (.cells #[.bool a0.Leaf, .slice A0_0 a0.Keys.length c0_0, .slice A0_1 a0.Kids.length c0_1, .slice A0_2 a0.Rows.length c0_2] 26 (0, 0))]) 9 (Ls 20 [1, 2, 4, 5, 7, 8, 10, 11, 12, 14, 15]) ?_ ?_
    · clear o6467h
      rintro ρ w6738 ⟨x4782, x4786, A4783, c4784, A4787, c4788, H, hρ, E, S⟩
      rw [agree_eta hρ]
      clear hρ
      refine Wa_oneOf (rs := [0, 18]) (by kernel_rfl) (by decide) ?_
      simp only [List.forall_mem_cons, List.not_mem_nil, false_implies, implies_true, and_true]
      refine ⟨?_, ?_⟩
      · refine ⟨_, rfl, ?_⟩
        refine W_bslice S #[] Try.underlying22 ty9 rfl rfl #[] (by kernel_rfl) (by kernel_rfl) rfl ?_
        intro b6739 w6740 E' S
        replace E := E.trans E'
        clear E'
        replace S := S.blk_row (r := rStr) (l := ([] : List Str)) 0 rfl 0 (Nat.le_refl 0) rfl Cells.nil
        refine Wl_nil (on_n ⟨⟨M60, Hp.le_refl M60, S.pick [3, 4, 5, 6] (by decide)⟩, ?_⟩)
        exact hq6483 _ _ ⟨([] : List Str), x4782, x4786, (some ⟨b6739, 0, none⟩), 0, A4783, c4784, A4787, c4788, H, ⟨rfl, rfl, rfl, rfl, rfl, rfl, rfl, rfl, rfl, rfl, trivial⟩, E, S.pick [1, 2, 0, 3, 4, 5, 6] (by decide)⟩
      · refine ⟨_, rfl, ?_⟩
        refine W_alloc S #[.bool false, .slice none 0 0, .slice none 0 0, .slice none 0 0] ty26 rfl rfl ?_
        intro b6742 w6743 E' S
        replace E := E.trans E'
        clear E'
        refine Wl_nil (on_n ⟨⟨M60, Hp.le_refl M60, S.pick [3, 4, 5, 6] (by decide)⟩, ?_⟩)
        exact hq6486 _ _ ⟨x4782, x4786, A4783, c4784, A4787, c4788, b6742, H, ⟨rfl, rfl, rfl, rfl, rfl, rfl, rfl, rfl, rfl, rfl, trivial⟩, E, S.pick [0, 1, 2, 3, 4, 5, 6] (by decide)⟩
    intro hq6477
    refine Wa_join (fun ρ w' => ∃ (x4764 : List Str) (A4765 : Option Addr) (c4766 : Nat) (b4762 : Nat), (if x4764.length + t39.1.Keys.length ≤ 8796093022208 then (if (x4764 ++ t39.1.Keys).length + ([t39.2.2.1] : List Str).length ≤ 8796093022208 then (if ((x4764 ++ t39.1.Keys) ++ ([t39.2.2.1] : List Str)).length + t39.2.1.Keys.length ≤ 8796093022208 then (if ([] : List Int).length + t39.1.Kids.length ≤ 17592186044416 then (if (([] : List Int) ++ t39.1.Kids).length + t39.2.1.Kids.length ≤ 17592186044416 then some ((((x4764 ++ t39.1.Keys) ++ ([t39.2.2.1] : List Str)) ++ t39.2.1.Keys), ((([] : List Int) ++ t39.1.Kids) ++ t39.2.1.Kids)) else none) else none) else none) else none) else none) = some o6467 ∧ Agree ρ [(1, .string (bs a1)), (2, .pointer (some ⟨b1, 0, none⟩)), (9, .pointer (some ⟨b104, 0, none⟩)), (15, .pointer (some ⟨b4762, 0, none⟩)), (186, .slice A4765 x4764.length c4766), (188, .slice A41 t39.1.Keys.length c42), (190, .string (bs t39.2.2.1)), (194, .slice A50 t39.2.1.Keys.length c51), (198, .slice A44 t39.1.Kids.length c45), (201, .slice A53 t39.2.1.Kids.length c54)] ∧ Ext w w' ∧ St w' M60 F [Blk b4762 (.cells #[.bool false, .slice none 0 0, .slice none 0 0, .slice none 0 0] 26 (0, 0)), Row rStr 9 (.slice A4765 x4764.length c4766) x4764, Blk b104 (.cells #[.bool x110, .slice A112 x111.length c113, .slice A116 x115.length c117, .slice A120 x119.length c121] 26 (0, 0)), Blk b65 (.cells #[.bool t39.2.1.Leaf, .slice A50 t39.2.1.Keys.length c51, .slice A53 t39.2.1.Kids.length c54, .slice A56 t39.2.1.Rows.length c57] 26 (0, 0)), Blk b62 (.cells #[.bool t39.1.Leaf, .slice A41 t39.1.Keys.length c42, .slice A44 t39.1.Kids.length c45, .slice A47 t39.1.Rows.length c48] 26 (0, 0)), Blk b1 (.cells #[.bool a0.Leaf, .slice A0_0 a0.Keys.length c0_0, .slice A0_1 a0.Kids.length c0_1, .slice A0_2 a0.Rows.length c0_2] 26 (0, 0))]) 9 (Ls 20 [0, 1, 2, 4, 7, 8, 11, 12, 14, 15, 18]) ?_ ?_
    · clear o6467h
      rintro ρ w6745 ⟨x4764, A4765, c4766, b4762, H, hρ, E, S⟩
      rw [agree_eta hρ]
      clear hρ
      refine Wa_oneOf (rs := [3, 5, 10]) (by kernel_rfl) (by decide) ?_
      simp only [List.forall_mem_cons, List.not_mem_nil, false_implies, implies_true, and_true]
      refine ⟨?_, ?_, ?_⟩
      · refine ⟨_, rfl, ?_⟩
        obtain ⟨p6746, H⟩ := chkS H
        obtain ⟨src6747, hs6748, hC6749⟩ := src_of_read (P := Try.prog) (ρ := rStr) (l := t39.1.Keys) (SlR.world hs43 S) (by decide)
        refine W_append S 1 rfl rfl rfl Try.underlying22 (.inl Try.underlying22) ty9 rfl (by decide) (by decide) hs6748 hC6749 rfl (by omega) rfl ?_
        intro v6750 w6751 E' S
        replace E := E.trans E'
        clear E'
        obtain ⟨A6752, c6753, rfl, _⟩ := (S.row_read 1 rfl).form
        refine Wl_nil (on_n ⟨⟨M60, Hp.le_refl M60, S.pick [2, 3, 4, 5] (by decide)⟩, ?_⟩)
        exact hq6482 _ _ ⟨(x4764 ++ t39.1.Keys), A6752, c6753, b4762, H, ⟨rfl, rfl, rfl, rfl, rfl, rfl, rfl, rfl, rfl, trivial⟩, E, S.pick [0, 1, 2, 3, 4, 5] (by decide)⟩
      · refine ⟨_, rfl, ?_⟩
        refine W_bslice S #[.string (bs t39.2.2.1)] Try.underlying22 ty9 rfl rfl #[.string (bs ([] : Str))] (by kernel_rfl) (by kernel_rfl) rfl ?_
        intro b6754 w6755 E' S
        replace E := E.trans E'
        clear E'
        replace S := S.blk_row (r := rStr) (l := ([t39.2.2.1] : List Str)) 0 rfl 1 (Nat.le_refl 1) rfl (Cells.cons (vs := [.string (bs t39.2.2.1)]) (rfl) Cells.nil)
        refine Wl_nil (on_n ⟨⟨M60, Hp.le_refl M60, S.pick [3, 4, 5, 6] (by decide)⟩, ?_⟩)
        exact hq6484 _ _ ⟨x4764, ([t39.2.2.1] : List Str), A4765, c4766, (some ⟨b6754, 0, none⟩), 1, b4762, H, ⟨rfl, rfl, rfl, rfl, rfl, rfl, rfl, rfl, rfl, rfl, trivial⟩, E, S.pick [1, 0, 2, 3, 4, 5, 6] (by decide)⟩
      · refine ⟨_, rfl, ?_⟩
        refine W_bslice S #[] Try.underlying23 ty3 rfl rfl #[] (by kernel_rfl) (by kernel_rfl) rfl ?_
        intro b6757 w6758 E' S
        replace E := E.trans E'
        clear E'
        replace S := S.blk_row (r := (rInt .i64)) (l := ([] : List Int)) 0 rfl 0 (Nat.le_refl 0) rfl Cells.nil
        refine Wl_nil (on_n ⟨⟨M60, Hp.le_refl M60, S.pick [3, 4, 5, 6] (by decide)⟩, ?_⟩)
        exact hq6485 _ _ ⟨x4764, ([] : List Int), A4765, c4766, (some ⟨b6757, 0, none⟩), 0, b4762, H, ⟨rfl, rfl, rfl, rfl, rfl, rfl, rfl, rfl, rfl, rfl, rfl, trivial⟩, E, S.pick [1, 0, 2, 3, 4, 5, 6] (by decide)⟩
    intro hq6476
    refine Wa_join (fun ρ w' => ∃ (x4740 : List Str) (x4744 : List Int) (A4741 : Option Addr) (c4742 : Nat) (A4745 : Option Addr) (c4746 : Nat), (if x4740.length + t39.1.Keys.length ≤ 8796093022208 then (if (x4740 ++ t39.1.Keys).length + ([t39.2.2.1] : List Str).length ≤ 8796093022208 then (if ((x4740 ++ t39.1.Keys) ++ ([t39.2.2.1] : List Str)).length + t39.2.1.Keys.length ≤ 8796093022208 then (if x4744.length + t39.1.Kids.length ≤ 17592186044416 then (if (x4744 ++ t39.1.Kids).length + t39.2.1.Kids.length ≤ 17592186044416 then some ((((x4740 ++ t39.1.Keys) ++ ([t39.2.2.1] : List Str)) ++ t39.2.1.Keys), ((x4744 ++ t39.1.Kids) ++ t39.2.1.Kids)) else none) else none) else none) else none) else none) = some o6467 ∧ Agree ρ [(1, .string (bs a1)), (2, .pointer (some ⟨b1, 0, none⟩)), (9, .pointer (some ⟨b104, 0, none⟩)), (186, .slice A4741 x4740.length c4742), (188, .slice A41 t39.1.Keys.length c42), (190, .string (bs t39.2.2.1)), (194, .slice A50 t39.2.1.Keys.length c51), (196, .slice A4745 x4744.length c4746), (198, .slice A44 t39.1.Kids.length c45), (201, .slice A53 t39.2.1.Kids.length c54)] ∧ Ext w w' ∧ St w' M60 F [Row (rInt .i64) 3 (.slice A4745 x4744.length c4746) x4744, Row rStr 9 (.slice A4741 x4740.length c4742) x4740, Blk b104 (.cells #[.bool x110, .slice A112 x111.length c113, .slice A116 x115.length c117, .slice A120 x119.length c121] 26 (0, 0)), Blk b65 (.cells #[.bool t39.2.1.Leaf, .slice A50 t39.2.1.Keys.length c51, .slice A53 t39.2.1.Kids.length c54, .slice A56 t39.2.1.Rows.length c57] 26 (0, 0)), Blk b62 (.cells #[.bool t39.1.Leaf, .slice A41 t39.1.Keys.length c42, .slice A44 t39.1.Kids.length c45, .slice A47 t39.1.Rows.length c48] 26 (0, 0)), Blk b1 (.cells #[.bool a0.Leaf, .slice A0_0 a0.Keys.length c0_0, .slice A0_1 a0.Kids.length c0_1, .slice A0_2 a0.Rows.length c0_2] 26 (0, 0))]) 9 (Ls 20 [0, 1, 2, 4, 7, 8, 10, 11, 12, 14, 15]) ?_ ?_
    · clear o6467h
      rintro ρ w6760 ⟨x4740, x4744, A4741, c4742, A4745, c4746, H, hρ, E, S⟩
      rw [agree_eta hρ]
      clear hρ
      refine Wa_oneOf (rs := [3, 5, 18]) (by kernel_rfl) (by decide) ?_
      simp only [List.forall_mem_cons, List.not_mem_nil, false_implies, implies_true, and_true]
      refine ⟨?_, ?_, ?_⟩
      · refine ⟨_, rfl, ?_⟩
        obtain ⟨p6761, H⟩ := chkS H
        obtain ⟨src6762, hs6763, hC6764⟩ := src_of_read (P := Try.prog) (ρ := rStr) (l := t39.1.Keys) (SlR.world hs43 S) (by decide)
        refine W_append S 1 rfl rfl rfl Try.underlying22 (.inl Try.underlying22) ty9 rfl (by decide) (by decide) hs6763 hC6764 rfl (by omega) rfl ?_
        intro v6765 w6766 E' S
        replace E := E.trans E'
        clear E'
        obtain ⟨A6767, c6768, rfl, _⟩ := (S.row_read 1 rfl).form
        refine Wl_nil (on_n ⟨⟨M60, Hp.le_refl M60, S.pick [2, 3, 4, 5] (by decide)⟩, ?_⟩)
        exact hq6481 _ _ ⟨(x4740 ++ t39.1.Keys), x4744, A6767, c6768, A4745, c4746, H, ⟨rfl, rfl, rfl, rfl, rfl, rfl, rfl, rfl, rfl, trivial⟩, E, S.pick [0, 1, 2, 3, 4, 5] (by decide)⟩
      · refine ⟨_, rfl, ?_⟩
        refine W_bslice S #[.string (bs t39.2.2.1)] Try.underlying22 ty9 rfl rfl #[.string (bs ([] : Str))] (by kernel_rfl) (by kernel_rfl) rfl ?_
        intro b6769 w6770 E' S
        replace E := E.trans E'
        clear E'
        replace S := S.blk_row (r := rStr) (l := ([t39.2.2.1] : List Str)) 0 rfl 1 (Nat.le_refl 1) rfl (Cells.cons (vs := [.string (bs t39.2.2.1)]) (rfl) Cells.nil)
        refine Wl_nil (on_n ⟨⟨M60, Hp.le_refl M60, S.pick [3, 4, 5, 6] (by decide)⟩, ?_⟩)
        exact hq6483 _ _ ⟨x4740, ([t39.2.2.1] : List Str), x4744, A4741, c4742, (some ⟨b6769, 0, none⟩), 1, A4745, c4746, H, ⟨rfl, rfl, rfl, rfl, rfl, rfl, rfl, rfl, rfl, rfl, trivial⟩, E, S.pick [1, 0, 2, 3, 4, 5, 6] (by decide)⟩
      · refine ⟨_, rfl, ?_⟩
        refine W_alloc S #[.bool false, .slice none 0 0, .slice none 0 0, .slice none 0 0] ty26 rfl rfl ?_
        intro b6772 w6773 E' S
        replace E := E.trans E'
        clear E'
        refine Wl_nil (on_n ⟨⟨M60, Hp.le_refl M60, S.pick [3, 4, 5, 6] (by decide)⟩, ?_⟩)
        exact hq6485 _ _ ⟨x4740, x4744, A4741, c4742, A4745, c4746, b6772, H, ⟨rfl, rfl, rfl, rfl, rfl, rfl, rfl, rfl, rfl, rfl, rfl, trivial⟩, E, S.pick [0, 1, 2, 3, 4, 5, 6] (by decide)⟩
    intro hq6475
    refine Wa_join (fun ρ w' => ∃ (x4718 : List Str) (x4722 : List Str) (A4719 : Option Addr) (c4720 : Nat) (A4723 : Option Addr) (c4724 : Nat), (if x4718.length + t39.1.Keys.length ≤ 8796093022208 then (if (x4718 ++ t39.1.Keys).length + x4722.length ≤ 8796093022208 then (if ((x4718 ++ t39.1.Keys) ++ x4722).length + t39.2.1.Keys.length ≤ 8796093022208 then (if ([] : List Int).length + t39.1.Kids.length ≤ 17592186044416 then (if (([] : List Int) ++ t39.1.Kids).length + t39.2.1.Kids.length ≤ 17592186044416 then some ((((x4718 ++ t39.1.Keys) ++ x4722) ++ t39.2.1.Keys), ((([] : List Int) ++ t39.1.Kids) ++ t39.2.1.Kids)) else none) else none) else none) else none) else none) = some o6467 ∧ Agree ρ [(1, .string (bs a1)), (2, .pointer (some ⟨b1, 0, none⟩)), (9, .pointer (some ⟨b104, 0, none⟩)), (186, .slice A4719 x4718.length c4720), (188, .slice A41 t39.1.Keys.length c42), (191, .slice A4723 x4722.length c4724), (194, .slice A50 t39.2.1.Keys.length c51), (198, .slice A44 t39.1.Kids.length c45), (201, .slice A53 t39.2.1.Kids.length c54)] ∧ Ext w w' ∧ St w' M60 F [Row rStr 9 (.slice A4723 x4722.length c4724) x4722, Row rStr 9 (.slice A4719 x4718.length c4720) x4718, Blk b104 (.cells #[.bool x110, .slice A112 x111.length c113, .slice A116 x115.length c117, .slice A120 x119.length c121] 26 (0, 0)), Blk b65 (.cells #[.bool t39.2.1.Leaf, .slice A50 t39.2.1.Keys.length c51, .slice A53 t39.2.1.Kids.length c54, .slice A56 t39.2.1.Rows.length c57] 26 (0, 0)), Blk b62 (.cells #[.bool t39.1.Leaf, .slice A41 t39.1.Keys.length c42, .slice A44 t39.1.Kids.length c45, .slice A47 t39.1.Rows.length c48] 26 (0, 0)), Blk b1 (.cells #[.bool a0.Leaf, .slice A0_0 a0.Keys.length c0_0, .slice A0_1 a0.Kids.length c0_1, .slice A0_2 a0.Rows.length c0_2] 26 (0, 0))]) 9 (Ls 20 [0, 1, 2, 4, 5, 7, 8, 11, 12, 14, 15]) ?_ ?_
    · clear o6467h
      rintro ρ w6775 ⟨x4718, x4722, A4719, c4720, A4723, c4724, H, hρ, E, S⟩
      rw [agree_eta hρ]
      clear hρ
      refine Wa_oneOf (rs := [3, 10, 18]) (by kernel_rfl) (by decide) ?_
      simp only [List.forall_mem_cons, List.not_mem_nil, false_implies, implies_true, and_true]
      refine ⟨?_, ?_, ?_⟩
      · refine ⟨_, rfl, ?_⟩
        obtain ⟨p6776, H⟩ := chkS H
        obtain ⟨src6777, hs6778, hC6779⟩ := src_of_read (P := Try.prog) (ρ := rStr) (l := t39.1.Keys) (SlR.world hs43 S) (by decide)
        refine W_append S 1 rfl rfl rfl Try.underlying22 (.inl Try.underlying22) ty9 rfl (by decide) (by decide) hs6778 hC6779 rfl (by omega) rfl ?_
        intro v6780 w6781 E' S
        replace E := E.trans E'
        clear E'
        obtain ⟨A6782, c6783, rfl, _⟩ := (S.row_read 1 rfl).form
        refine Wl_nil (on_n ⟨⟨M60, Hp.le_refl M60, S.pick [2, 3, 4, 5] (by decide)⟩, ?_⟩)
        exact hq6480 _ _ ⟨(x4718 ++ t39.1.Keys), x4722, A6782, c6783, A4723, c4724, H, ⟨rfl, rfl, rfl, rfl, rfl, rfl, rfl, rfl, trivial⟩, E, S.pick [0, 1, 2, 3, 4, 5] (by decide)⟩
      · refine ⟨_, rfl, ?_⟩
        refine W_bslice S #[] Try.underlying23 ty3 rfl rfl #[] (by kernel_rfl) (by kernel_rfl) rfl ?_
        intro b6784 w6785 E' S
        replace E := E.trans E'
        clear E'
        replace S := S.blk_row (r := (rInt .i64)) (l := ([] : List Int)) 0 rfl 0 (Nat.le_refl 0) rfl Cells.nil
        refine Wl_nil (on_n ⟨⟨M60, Hp.le_refl M60, S.pick [3, 4, 5, 6] (by decide)⟩, ?_⟩)
        exact hq6483 _ _ ⟨x4718, x4722, ([] : List Int), A4719, c4720, A4723, c4724, (some ⟨b6784, 0, none⟩), 0, H, ⟨rfl, rfl, rfl, rfl, rfl, rfl, rfl, rfl, rfl, rfl, trivial⟩, E, S.pick [0, 1, 2, 3, 4, 5, 6] (by decide)⟩
      · refine ⟨_, rfl, ?_⟩
        refine W_alloc S #[.bool false, .slice none 0 0, .slice none 0 0, .slice none 0 0] ty26 rfl rfl ?_
        intro b6787 w6788 E' S
        replace E := E.trans E'
        clear E'
        refine Wl_nil (on_n ⟨⟨M60, Hp.le_refl M60, S.pick [3, 4, 5, 6] (by decide)⟩, ?_⟩)
        exact hq6484 _ _ ⟨x4718, x4722, A4719, c4720, A4723, c4724, b6787, H, ⟨rfl, rfl, rfl, rfl, rfl, rfl, rfl, rfl, rfl, rfl, trivial⟩, E, S.pick [0, 1, 2, 3, 4, 5, 6] (by decide)⟩
    intro hq6474
    refine Wa_join (fun ρ w' => ∃ (x4705 : List Str) (A4706 : Option Addr) (c4707 : Nat), (if x4705.length + ([t39.2.2.1] : List Str).length ≤ 8796093022208 then (if (x4705 ++ ([t39.2.2.1] : List Str)).length + t39.2.1.Keys.length ≤ 8796093022208 then (if ([] : List Int).length + t39.1.Kids.length ≤ 17592186044416 then (if (([] : List Int) ++ t39.1.Kids).length + t39.2.1.Kids.length ≤ 17592186044416 then some (((x4705 ++ ([t39.2.2.1] : List Str)) ++ t39.2.1.Keys), ((([] : List Int) ++ t39.1.Kids) ++ t39.2.1.Kids)) else none) else none) else none) else none) = some o6467 ∧ Agree ρ [(1, .string (bs a1)), (2, .pointer (some ⟨b1, 0, none⟩)), (9, .pointer (some ⟨b104, 0, none⟩)), (189, .slice A4706 x4705.length c4707), (190, .string (bs t39.2.2.1)), (194, .slice A50 t39.2.1.Keys.length c51), (198, .slice A44 t39.1.Kids.length c45), (201, .slice A53 t39.2.1.Kids.length c54)] ∧ Ext w w' ∧ St w' M60 F [Row rStr 9 (.slice A4706 x4705.length c4707) x4705, Blk b104 (.cells #[.bool x110, .slice A112 x111.length c113, .slice A116 x115.length c117, .slice A120 x119.length c121] 26 (0, 0)), Blk b65 (.cells #[.bool t39.2.1.Leaf, .slice A50 t39.2.1.Keys.length c51, .slice A53 t39.2.1.Kids.length c54, .slice A56 t39.2.1.Rows.length c57] 26 (0, 0)), Blk b62 (.cells #[.bool t39.1.Leaf, .slice A41 t39.1.Keys.length c42, .slice A44 t39.1.Kids.length c45, .slice A47 t39.1.Rows.length c48] 26 (0, 0)), Blk b1 (.cells #[.bool a0.Leaf, .slice A0_0 a0.Keys.length c0_0, .slice A0_1 a0.Kids.length c0_1, .slice A0_2 a0.Rows.length c0_2] 26 (0, 0))]) 9 (Ls 20 [0, 1, 2, 3, 4, 7, 8, 11, 12, 14, 15]) ?_ ?_
    · clear o6467h
      rintro ρ w6790 ⟨x4705, A4706, c4707, H, hρ, E, S⟩
      rw [agree_eta hρ]
      clear hρ
      refine Wa_oneOf (rs := [5, 10, 18]) (by kernel_rfl) (by decide) ?_
      simp only [List.forall_mem_cons, List.not_mem_nil, false_implies, implies_true, and_true]
      refine ⟨?_, ?_, ?_⟩
      · refine ⟨_, rfl, ?_⟩
        refine W_bslice S #[.string (bs t39.2.2.1)] Try.underlying22 ty9 rfl rfl #[.string (bs ([] : Str))] (by kernel_rfl) (by kernel_rfl) rfl ?_
        intro b6791 w6792 E' S
        replace E := E.trans E'
        clear E'
        replace S := S.blk_row (r := rStr) (l := ([t39.2.2.1] : List Str)) 0 rfl 1 (Nat.le_refl 1) rfl (Cells.cons (vs := [.string (bs t39.2.2.1)]) (rfl) Cells.nil)
        refine Wl_nil (on_n ⟨⟨M60, Hp.le_refl M60, S.pick [2, 3, 4, 5] (by decide)⟩, ?_⟩)
        exact hq6480 _ _ ⟨x4705, ([t39.2.2.1] : List Str), A4706, c4707, (some ⟨b6791, 0, none⟩), 1, H, ⟨rfl, rfl, rfl, rfl, rfl, rfl, rfl, rfl, trivial⟩, E, S.pick [0, 1, 2, 3, 4, 5] (by decide)⟩
      · refine ⟨_, rfl, ?_⟩
        refine W_bslice S #[] Try.underlying23 ty3 rfl rfl #[] (by kernel_rfl) (by kernel_rfl) rfl ?_
        intro b6794 w6795 E' S
        replace E := E.trans E'
        clear E'
        replace S := S.blk_row (r := (rInt .i64)) (l := ([] : List Int)) 0 rfl 0 (Nat.le_refl 0) rfl Cells.nil
        refine Wl_nil (on_n ⟨⟨M60, Hp.le_refl M60, S.pick [2, 3, 4, 5] (by decide)⟩, ?_⟩)
        exact hq6481 _ _ ⟨x4705, ([] : List Int), A4706, c4707, (some ⟨b6794, 0, none⟩), 0, H, ⟨rfl, rfl, rfl, rfl, rfl, rfl, rfl, rfl, rfl, trivial⟩, E, S.pick [0, 1, 2, 3, 4, 5] (by decide)⟩
      · refine ⟨_, rfl, ?_⟩
        refine W_alloc S #[.bool false, .slice none 0 0, .slice none 0 0, .slice none 0 0] ty26 rfl rfl ?_
        intro b6797 w6798 E' S
        replace E := E.trans E'
        clear E'
        refine Wl_nil (on_n ⟨⟨M60, Hp.le_refl M60, S.pick [2, 3, 4, 5] (by decide)⟩, ?_⟩)
        exact hq6482 _ _ ⟨x4705, A4706, c4707, b6797, H, ⟨rfl, rfl, rfl, rfl, rfl, rfl, rfl, rfl, rfl, trivial⟩, E, S.pick [0, 1, 2, 3, 4, 5] (by decide)⟩
    intro hq6473
    refine Wa_join (fun ρ w' => ∃ (b4694 : Nat), (if ([] : List Str).length + t39.1.Keys.length ≤ 8796093022208 then (if (([] : List Str) ++ t39.1.Keys).length + ([t39.2.2.1] : List Str).length ≤ 8796093022208 then (if ((([] : List Str) ++ t39.1.Keys) ++ ([t39.2.2.1] : List Str)).length + t39.2.1.Keys.length ≤ 8796093022208 then (if ([] : List Int).length + t39.1.Kids.length ≤ 17592186044416 then (if (([] : List Int) ++ t39.1.Kids).length + t39.2.1.Kids.length ≤ 17592186044416 then some ((((([] : List Str) ++ t39.1.Keys) ++ ([t39.2.2.1] : List Str)) ++ t39.2.1.Keys), ((([] : List Int) ++ t39.1.Kids) ++ t39.2.1.Kids)) else none) else none) else none) else none) else none) = some o6467 ∧ Agree ρ [(1, .string (bs a1)), (2, .pointer (some ⟨b1, 0, none⟩)), (9, .pointer (some ⟨b104, 0, none⟩)), (15, .pointer (some ⟨b4694, 0, none⟩)), (188, .slice A41 t39.1.Keys.length c42), (190, .string (bs t39.2.2.1)), (194, .slice A50 t39.2.1.Keys.length c51), (198, .slice A44 t39.1.Kids.length c45), (201, .slice A53 t39.2.1.Kids.length c54)] ∧ Ext w w' ∧ St w' M60 F [Blk b4694 (.cells #[.bool false, .slice none 0 0, .slice none 0 0, .slice none 0 0] 26 (0, 0)), Blk b104 (.cells #[.bool x110, .slice A112 x111.length c113, .slice A116 x115.length c117, .slice A120 x119.length c121] 26 (0, 0)), Blk b65 (.cells #[.bool t39.2.1.Leaf, .slice A50 t39.2.1.Keys.length c51, .slice A53 t39.2.1.Kids.length c54, .slice A56 t39.2.1.Rows.length c57] 26 (0, 0)), Blk b62 (.cells #[.bool t39.1.Leaf, .slice A41 t39.1.Keys.length c42, .slice A44 t39.1.Kids.length c45, .slice A47 t39.1.Rows.length c48] 26 (0, 0)), Blk b1 (.cells #[.bool a0.Leaf, .slice A0_0 a0.Keys.length c0_0, .slice A0_1 a0.Kids.length c0_1, .slice A0_2 a0.Rows.length c0_2] 26 (0, 0))]) 10 (Ls 20 [1, 2, 4, 7, 8, 11, 12, 14, 15, 18]) ?_ ?_
    · clear o6467h
      rintro ρ w6800 ⟨b4694, H, hρ, E, S⟩
      rw [agree_eta hρ]
      clear hρ
      refine Wa_oneOf (rs := [0, 5, 10]) (by kernel_rfl) (by decide) ?_
      simp only [List.forall_mem_cons, List.not_mem_nil, false_implies, implies_true, and_true]
      refine ⟨?_, ?_, ?_⟩
      · refine ⟨_, rfl, ?_⟩
        refine W_bslice S #[] Try.underlying22 ty9 rfl rfl #[] (by kernel_rfl) (by kernel_rfl) rfl ?_
        intro b6801 w6802 E' S
        replace E := E.trans E'
        clear E'
        replace S := S.blk_row (r := rStr) (l := ([] : List Str)) 0 rfl 0 (Nat.le_refl 0) rfl Cells.nil
        refine Wl_nil (on_n ⟨⟨M60, Hp.le_refl M60, S.pick [2, 3, 4, 5] (by decide)⟩, ?_⟩)
        exact hq6476 _ _ ⟨([] : List Str), (some ⟨b6801, 0, none⟩), 0, b4694, H, ⟨rfl, rfl, rfl, rfl, rfl, rfl, rfl, rfl, rfl, rfl, trivial⟩, E, S.pick [1, 0, 2, 3, 4, 5] (by decide)⟩
      · refine ⟨_, rfl, ?_⟩
        refine W_bslice S #[.string (bs t39.2.2.1)] Try.underlying22 ty9 rfl rfl #[.string (bs ([] : Str))] (by kernel_rfl) (by kernel_rfl) rfl ?_
        intro b6804 w6805 E' S
        replace E := E.trans E'
        clear E'
        replace S := S.blk_row (r := rStr) (l := ([t39.2.2.1] : List Str)) 0 rfl 1 (Nat.le_refl 1) rfl (Cells.cons (vs := [.string (bs t39.2.2.1)]) (rfl) Cells.nil)
        refine Wl_nil (on_n ⟨⟨M60, Hp.le_refl M60, S.pick [2, 3, 4, 5] (by decide)⟩, ?_⟩)
        exact hq6478 _ _ ⟨([t39.2.2.1] : List Str), (some ⟨b6804, 0, none⟩), 1, b4694, H, ⟨rfl, rfl, rfl, rfl, rfl, rfl, rfl, rfl, rfl, trivial⟩, E, S.pick [1, 0, 2, 3, 4, 5] (by decide)⟩
      · refine ⟨_, rfl, ?_⟩
        refine W_bslice S #[] Try.underlying23 ty3 rfl rfl #[] (by kernel_rfl) (by kernel_rfl) rfl ?_
        intro b6807 w6808 E' S
        replace E := E.trans E'
        clear E'
        replace S := S.blk_row (r := (rInt .i64)) (l := ([] : List Int)) 0 rfl 0 (Nat.le_refl 0) rfl Cells.nil
        refine Wl_nil (on_n ⟨⟨M60, Hp.le_refl M60, S.pick [2, 3, 4, 5] (by decide)⟩, ?_⟩)
        exact hq6479 _ _ ⟨([] : List Int), (some ⟨b6807, 0, none⟩), 0, b4694, H, ⟨rfl, rfl, rfl, rfl, rfl, rfl, rfl, rfl, rfl, rfl, trivial⟩, E, S.pick [1, 0, 2, 3, 4, 5] (by decide)⟩
    intro hq6472
    refine Wa_join (fun ρ w' => ∃ (x4681 : List Int) (A4682 : Option Addr) (c4683 : Nat), (if ([] : List Str).length + t39.1.Keys.length ≤ 8796093022208 then (if (([] : List Str) ++ t39.1.Keys).length + ([t39.2.2.1] : List Str).length ≤ 8796093022208 then (if ((([] : List Str) ++ t39.1.Keys) ++ ([t39.2.2.1] : List Str)).length + t39.2.1.Keys.length ≤ 8796093022208 then (if x4681.length + t39.1.Kids.length ≤ 17592186044416 then (if (x4681 ++ t39.1.Kids).length + t39.2.1.Kids.length ≤ 17592186044416 then some ((((([] : List Str) ++ t39.1.Keys) ++ ([t39.2.2.1] : List Str)) ++ t39.2.1.Keys), ((x4681 ++ t39.1.Kids) ++ t39.2.1.Kids)) else none) else none) else none) else none) else none) = some o6467 ∧ Agree ρ [(1, .string (bs a1)), (2, .pointer (some ⟨b1, 0, none⟩)), (9, .pointer (some ⟨b104, 0, none⟩)), (188, .slice A41 t39.1.Keys.length c42), (190, .string (bs t39.2.2.1)), (194, .slice A50 t39.2.1.Keys.length c51), (196, .slice A4682 x4681.length c4683), (198, .slice A44 t39.1.Kids.length c45), (201, .slice A53 t39.2.1.Kids.length c54)] ∧ Ext w w' ∧ St w' M60 F [Row (rInt .i64) 3 (.slice A4682 x4681.length c4683) x4681, Blk b104 (.cells #[.bool x110, .slice A112 x111.length c113, .slice A116 x115.length c117, .slice A120 x119.length c121] 26 (0, 0)), Blk b65 (.cells #[.bool t39.2.1.Leaf, .slice A50 t39.2.1.Keys.length c51, .slice A53 t39.2.1.Kids.length c54, .slice A56 t39.2.1.Rows.length c57] 26 (0, 0)), Blk b62 (.cells #[.bool t39.1.Leaf, .slice A41 t39.1.Keys.length c42, .slice A44 t39.1.Kids.length c45, .slice A47 t39.1.Rows.length c48] 26 (0, 0)), Blk b1 (.cells #[.bool a0.Leaf, .slice A0_0 a0.Keys.length c0_0, .slice A0_1 a0.Kids.length c0_1, .slice A0_2 a0.Rows.length c0_2] 26 (0, 0))]) 10 (Ls 20 [1, 2, 4, 7, 8, 10, 11, 12, 14, 15]) ?_ ?_
    · clear o6467h
      rintro ρ w6810 ⟨x4681, A4682, c4683, H, hρ, E, S⟩
      rw [agree_eta hρ]
      clear hρ
      refine Wa_oneOf (rs := [0, 5, 18]) (by kernel_rfl) (by decide) ?_
      simp only [List.forall_mem_cons, List.not_mem_nil, false_implies, implies_true, and_true]
      refine ⟨?_, ?_, ?_⟩
      · refine ⟨_, rfl, ?_⟩
        refine W_bslice S #[] Try.underlying22 ty9 rfl rfl #[] (by kernel_rfl) (by kernel_rfl) rfl ?_
        intro b6811 w6812 E' S
        replace E := E.trans E'
        clear E'
        replace S := S.blk_row (r := rStr) (l := ([] : List Str)) 0 rfl 0 (Nat.le_refl 0) rfl Cells.nil
        refine Wl_nil (on_n ⟨⟨M60, Hp.le_refl M60, S.pick [2, 3, 4, 5] (by decide)⟩, ?_⟩)
        exact hq6475 _ _ ⟨([] : List Str), x4681, (some ⟨b6811, 0, none⟩), 0, A4682, c4683, H, ⟨rfl, rfl, rfl, rfl, rfl, rfl, rfl, rfl, rfl, rfl, trivial⟩, E, S.pick [1, 0, 2, 3, 4, 5] (by decide)⟩
      · refine ⟨_, rfl, ?_⟩
        refine W_bslice S #[.string (bs t39.2.2.1)] Try.underlying22 ty9 rfl rfl #[.string (bs ([] : Str))] (by kernel_rfl) (by kernel_rfl) rfl ?_
        intro b6814 w6815 E' S
        replace E := E.trans E'
        clear E'
        replace S := S.blk_row (r := rStr) (l := ([t39.2.2.1] : List Str)) 0 rfl 1 (Nat.le_refl 1) rfl (Cells.cons (vs := [.string (bs t39.2.2.1)]) (rfl) Cells.nil)
        refine Wl_nil (on_n ⟨⟨M60, Hp.le_refl M60, S.pick [2, 3, 4, 5] (by decide)⟩, ?_⟩)
        exact hq6477 _ _ ⟨([t39.2.2.1] : List Str), x4681, (some ⟨b6814, 0, none⟩), 1, A4682, c4683, H, ⟨rfl, rfl, rfl, rfl, rfl, rfl, rfl, rfl, rfl, trivial⟩, E, S.pick [1, 0, 2, 3, 4, 5] (by decide)⟩
      · refine ⟨_, rfl, ?_⟩
        refine W_alloc S #[.bool false, .slice none 0 0, .slice none 0 0, .slice none 0 0] ty26 rfl rfl ?_
        intro b6817 w6818 E' S
        replace E := E.trans E'
        clear E'
        refine Wl_nil (on_n ⟨⟨M60, Hp.le_refl M60, S.pick [2, 3, 4, 5] (by decide)⟩, ?_⟩)
        exact hq6479 _ _ ⟨x4681, A4682, c4683, b6817, H, ⟨rfl, rfl, rfl, rfl, rfl, rfl, rfl, rfl, rfl, rfl, trivial⟩, E, S.pick [0, 1, 2, 3, 4, 5] (by decide)⟩
    intro hq6471
    refine Wa_join (fun ρ w' => ∃ (x4668 : List Str) (A4669 : Option Addr) (c4670 : Nat), (if ([] : List Str).length + t39.1.Keys.length ≤ 8796093022208 then (if (([] : List Str) ++ t39.1.Keys).length + x4668.length ≤ 8796093022208 then (if ((([] : List Str) ++ t39.1.Keys) ++ x4668).length + t39.2.1.Keys.length ≤ 8796093022208 then (if ([] : List Int).length + t39.1.Kids.length ≤ 17592186044416 then (if (([] : List Int) ++ t39.1.Kids).length + t39.2.1.Kids.length ≤ 17592186044416 then some ((((([] : List Str) ++ t39.1.Keys) ++ x4668) ++ t39.2.1.Keys), ((([] : List Int) ++ t39.1.Kids) ++ t39.2.1.Kids)) else none) else none) else none) else none) else none) = some o6467 ∧ Agree ρ [(1, .string (bs a1)), (2, .pointer (some ⟨b1, 0, none⟩)), (9, .pointer (some ⟨b104, 0, none⟩)), (188, .slice A41 t39.1.Keys.length c42), (191, .slice A4669 x4668.length c4670), (194, .slice A50 t39.2.1.Keys.length c51), (198, .slice A44 t39.1.Kids.length c45), (201, .slice A53 t39.2.1.Kids.length c54)] ∧ Ext w w' ∧ St w' M60 F [Row rStr 9 (.slice A4669 x4668.length c4670) x4668, Blk b104 (.cells #[.bool x110, .slice A112 x111.length c113, .slice A116 x115.length c117, .slice A120 x119.length c121] 26 (0, 0)), Blk b65 (.cells #[.bool t39.2.1.Leaf, .slice A50 t39.2.1.Keys.length c51, .slice A53 t39.2.1.Kids.length c54, .slice A56 t39.2.1.Rows.length c57] 26 (0, 0)), Blk b62 (.cells #[.bool t39.1.Leaf, .slice A41 t39.1.Keys.length c42, .slice A44 t39.1.Kids.length c45, .slice A47 t39.1.Rows.length c48] 26 (0, 0)), Blk b1 (.cells #[.bool a0.Leaf, .slice A0_0 a0.Keys.length c0_0, .slice A0_1 a0.Kids.length c0_1, .slice A0_2 a0.Rows.length c0_2] 26 (0, 0))]) 10 (Ls 20 [1, 2, 4, 5, 7, 8, 11, 12, 14, 15]) ?_ ?_
    · clear o6467h
      rintro ρ w6820 ⟨x4668, A4669, c4670, H, hρ, E, S⟩
      rw [agree_eta hρ]
      clear hρ
      refine Wa_oneOf (rs := [0, 10, 18]) (by kernel_rfl) (by decide) ?_
      simp only [List.forall_mem_cons, List.not_mem_nil, false_implies, implies_true, and_true]
      refine ⟨?_, ?_, ?_⟩
      · refine ⟨_, rfl, ?_⟩
        refine W_bslice S #[] Try.underlying22 ty9 rfl rfl #[] (by kernel_rfl) (by kernel_rfl) rfl ?_
        intro b6821 w6822 E' S
        replace E := E.trans E'
        clear E'
        replace S := S.blk_row (r := rStr) (l := ([] : List Str)) 0 rfl 0 (Nat.le_refl 0) rfl Cells.nil
        refine Wl_nil (on_n ⟨⟨M60, Hp.le_refl M60, S.pick [2, 3, 4, 5] (by decide)⟩, ?_⟩)
        exact hq6474 _ _ ⟨([] : List Str), x4668, (some ⟨b6821, 0, none⟩), 0, A4669, c4670, H, ⟨rfl, rfl, rfl, rfl, rfl, rfl, rfl, rfl, rfl, trivial⟩, E, S.pick [1, 0, 2, 3, 4, 5] (by decide)⟩
      · refine ⟨_, rfl, ?_⟩
        refine W_bslice S #[] Try.underlying23 ty3 rfl rfl #[] (by kernel_rfl) (by kernel_rfl) rfl ?_
        intro b6824 w6825 E' S
        replace E := E.trans E'
        clear E'
        replace S := S.blk_row (r := (rInt .i64)) (l := ([] : List Int)) 0 rfl 0 (Nat.le_refl 0) rfl Cells.nil
        refine Wl_nil (on_n ⟨⟨M60, Hp.le_refl M60, S.pick [2, 3, 4, 5] (by decide)⟩, ?_⟩)
        exact hq6477 _ _ ⟨x4668, ([] : List Int), A4669, c4670, (some ⟨b6824, 0, none⟩), 0, H, ⟨rfl, rfl, rfl, rfl, rfl, rfl, rfl, rfl, rfl, trivial⟩, E, S.pick [0, 1, 2, 3, 4, 5] (by decide)⟩
      · refine ⟨_, rfl, ?_⟩
        refine W_alloc S #[.bool false, .slice none 0 0, .slice none 0 0, .slice none 0 0] ty26 rfl rfl ?_
        intro b6827 w6828 E' S
        replace E := E.trans E'
        clear E'
        refine Wl_nil (on_n ⟨⟨M60, Hp.le_refl M60, S.pick [2, 3, 4, 5] (by decide)⟩, ?_⟩)
        exact hq6478 _ _ ⟨x4668, A4669, c4670, b6827, H, ⟨rfl, rfl, rfl, rfl, rfl, rfl, rfl, rfl, rfl, trivial⟩, E, S.pick [0, 1, 2, 3, 4, 5] (by decide)⟩
    intro hq6470
    refine Wa_join (fun ρ w' => ∃ (x4647 : List Str) (A4648 : Option Addr) (c4649 : Nat), (if x4647.length + t39.1.Keys.length ≤ 8796093022208 then (if (x4647 ++ t39.1.Keys).length + ([t39.2.2.1] : List Str).length ≤ 8796093022208 then (if ((x4647 ++ t39.1.Keys) ++ ([t39.2.2.1] : List Str)).length + t39.2.1.Keys.length ≤ 8796093022208 then (if ([] : List Int).length + t39.1.Kids.length ≤ 17592186044416 then (if (([] : List Int) ++ t39.1.Kids).length + t39.2.1.Kids.length ≤ 17592186044416 then some ((((x4647 ++ t39.1.Keys) ++ ([t39.2.2.1] : List Str)) ++ t39.2.1.Keys), ((([] : List Int) ++ t39.1.Kids) ++ t39.2.1.Kids)) else none) else none) else none) else none) else none) = some o6467 ∧ Agree ρ [(1, .string (bs a1)), (2, .pointer (some ⟨b1, 0, none⟩)), (9, .pointer (some ⟨b104, 0, none⟩)), (186, .slice A4648 x4647.length c4649), (188, .slice A41 t39.1.Keys.length c42), (190, .string (bs t39.2.2.1)), (194, .slice A50 t39.2.1.Keys.length c51), (198, .slice A44 t39.1.Kids.length c45), (201, .slice A53 t39.2.1.Kids.length c54)] ∧ Ext w w' ∧ St w' M60 F [Row rStr 9 (.slice A4648 x4647.length c4649) x4647, Blk b104 (.cells #[.bool x110, .slice A112 x111.length c113, .slice A116 x115.length c117, .slice A120 x119.length c121] 26 (0, 0)), Blk b65 (.cells #[.bool t39.2.1.Leaf, .slice A50 t39.2.1.Keys.length c51, .slice A53 t39.2.1.Kids.length c54, .slice A56 t39.2.1.Rows.length c57] 26 (0, 0)), Blk b62 (.cells #[.bool t39.1.Leaf, .slice A41 t39.1.Keys.length c42, .slice A44 t39.1.Kids.length c45, .slice A47 t39.1.Rows.length c48] 26 (0, 0)), Blk b1 (.cells #[.bool a0.Leaf, .slice A0_0 a0.Keys.length c0_0, .slice A0_1 a0.Kids.length c0_1, .slice A0_2 a0.Rows.length c0_2] 26 (0, 0))]) 10 (Ls 20 [0, 1, 2, 4, 7, 8, 11, 12, 14, 15]) ?_ ?_
    · clear o6467h
      rintro ρ w6830 ⟨x4647, A4648, c4649, H, hρ, E, S⟩
      rw [agree_eta hρ]
      clear hρ
      refine Wa_oneOf (rs := [3, 5, 10, 18]) (by kernel_rfl) (by decide) ?_
      simp only [List.forall_mem_cons, List.not_mem_nil, false_implies, implies_true, and_true]
      refine ⟨?_, ?_, ?_, ?_⟩
      · refine ⟨_, rfl, ?_⟩
        obtain ⟨p6831, H⟩ := chkS H
        obtain ⟨src6832, hs6833, hC6834⟩ := src_of_read (P := Try.prog) (ρ := rStr) (l := t39.1.Keys) (SlR.world hs43 S) (by decide)
        refine W_append S 0 rfl rfl rfl Try.underlying22 (.inl Try.underlying22) ty9 rfl (by decide) (by decide) hs6833 hC6834 rfl (by omega) rfl ?_
        intro v6835 w6836 E' S
        replace E := E.trans E'
        clear E'
        obtain ⟨A6837, c6838, rfl, _⟩ := (S.row_read 0 rfl).form
        refine Wl_nil (on_n ⟨⟨M60, Hp.le_refl M60, S.pick [1, 2, 3, 4] (by decide)⟩, ?_⟩)
        exact hq6473 _ _ ⟨(x4647 ++ t39.1.Keys), A6837, c6838, H, ⟨rfl, rfl, rfl, rfl, rfl, rfl, rfl, rfl, trivial⟩, E, S.pick [0, 1, 2, 3, 4] (by decide)⟩
      · refine ⟨_, rfl, ?_⟩
        refine W_bslice S #[.string (bs t39.2.2.1)] Try.underlying22 ty9 rfl rfl #[.string (bs ([] : Str))] (by kernel_rfl) (by kernel_rfl) rfl ?_
        intro b6839 w6840 E' S
        replace E := E.trans E'
        clear E'
        replace S := S.blk_row (r := rStr) (l := ([t39.2.2.1] : List Str)) 0 rfl 1 (Nat.le_refl 1) rfl (Cells.cons (vs := [.string (bs t39.2.2.1)]) (rfl) Cells.nil)
        refine Wl_nil (on_n ⟨⟨M60, Hp.le_refl M60, S.pick [2, 3, 4, 5] (by decide)⟩, ?_⟩)
        exact hq6474 _ _ ⟨x4647, ([t39.2.2.1] : List Str), A4648, c4649, (some ⟨b6839, 0, none⟩), 1, H, ⟨rfl, rfl, rfl, rfl, rfl, rfl, rfl, rfl, rfl, trivial⟩, E, S.pick [0, 1, 2, 3, 4, 5] (by decide)⟩
      · refine ⟨_, rfl, ?_⟩
        refine W_bslice S #[] Try.underlying23 ty3 rfl rfl #[] (by kernel_rfl) (by kernel_rfl) rfl ?_
        intro b6842 w6843 E' S
        replace E := E.trans E'
        clear E'
        replace S := S.blk_row (r := (rInt .i64)) (l := ([] : List Int)) 0 rfl 0 (Nat.le_refl 0) rfl Cells.nil
        refine Wl_nil (on_n ⟨⟨M60, Hp.le_refl M60, S.pick [2, 3, 4, 5] (by decide)⟩, ?_⟩)
        exact hq6475 _ _ ⟨x4647, ([] : List Int), A4648, c4649, (some ⟨b6842, 0, none⟩), 0, H, ⟨rfl, rfl, rfl, rfl, rfl, rfl, rfl, rfl, rfl, rfl, trivial⟩, E, S.pick [0, 1, 2, 3, 4, 5] (by decide)⟩
      · refine ⟨_, rfl, ?_⟩
        refine W_alloc S #[.bool false, .slice none 0 0, .slice none 0 0, .slice none 0 0] ty26 rfl rfl ?_
        intro b6845 w6846 E' S
        replace E := E.trans E'
        clear E'
        refine Wl_nil (on_n ⟨⟨M60, Hp.le_refl M60, S.pick [2, 3, 4, 5] (by decide)⟩, ?_⟩)
        exact hq6476 _ _ ⟨x4647, A4648, c4649, b6845, H, ⟨rfl, rfl, rfl, rfl, rfl, rfl, rfl, rfl, rfl, rfl, trivial⟩, E, S.pick [0, 1, 2, 3, 4, 5] (by decide)⟩
    intro hq6469
    have H := o6467h
    refine Wa_oneOf (rs := [0, 5, 10, 18]) (by kernel_rfl) (by decide) ?_
    simp only [List.forall_mem_cons, List.not_mem_nil, false_implies, implies_true, and_true]
    refine ⟨?_, ?_, ?_, ?_⟩
    · refine ⟨_, rfl, ?_⟩
      refine W_bslice S #[] Try.underlying22 ty9 rfl rfl #[] (by kernel_rfl) (by kernel_rfl) rfl ?_
      intro b6848 w6849 E' S
      replace E := E.trans E'
      clear E'
      replace S := S.blk_row (r := rStr) (l := ([] : List Str)) 0 rfl 0 (Nat.le_refl 0) rfl Cells.nil
      refine Wl_nil (on_n ⟨⟨M60, Hp.le_refl M60, S.pick [1, 2, 3, 4] (by decide)⟩, ?_⟩)
      exact hq6469 _ _ ⟨([] : List Str), (some ⟨b6848, 0, none⟩), 0, H, ⟨rfl, rfl, rfl, rfl, rfl, rfl, rfl, rfl, rfl, trivial⟩, E, S.pick [0, 1, 2, 3, 4] (by decide)⟩
    · refine ⟨_, rfl, ?_⟩
      refine W_bslice S #[.string (bs t39.2.2.1)] Try.underlying22 ty9 rfl rfl #[.string (bs ([] : Str))] (by kernel_rfl) (by kernel_rfl) rfl ?_
      intro b6851 w6852 E' S
      replace E := E.trans E'
      clear E'
      replace S := S.blk_row (r := rStr) (l := ([t39.2.2.1] : List Str)) 0 rfl 1 (Nat.le_refl 1) rfl (Cells.cons (vs := [.string (bs t39.2.2.1)]) (rfl) Cells.nil)
      refine Wl_nil (on_n ⟨⟨M60, Hp.le_refl M60, S.pick [1, 2, 3, 4] (by decide)⟩, ?_⟩)
      exact hq6470 _ _ ⟨([t39.2.2.1] : List Str), (some ⟨b6851, 0, none⟩), 1, H, ⟨rfl, rfl, rfl, rfl, rfl, rfl, rfl, rfl, trivial⟩, E, S.pick [0, 1, 2, 3, 4] (by decide)⟩
    · refine ⟨_, rfl, ?_⟩
      refine W_bslice S #[] Try.underlying23 ty3 rfl rfl #[] (by kernel_rfl) (by kernel_rfl) rfl ?_
      intro b6854 w6855 E' S
      replace E := E.trans E'
      clear E'
      replace S := S.blk_row (r := (rInt .i64)) (l := ([] : List Int)) 0 rfl 0 (Nat.le_refl 0) rfl Cells.nil
      refine Wl_nil (on_n ⟨⟨M60, Hp.le_refl M60, S.pick [1, 2, 3, 4] (by decide)⟩, ?_⟩)
      exact hq6471 _ _ ⟨([] : List Int), (some ⟨b6854, 0, none⟩), 0, H, ⟨rfl, rfl, rfl, rfl, rfl, rfl, rfl, rfl, rfl, trivial⟩, E, S.pick [0, 1, 2, 3, 4] (by decide)⟩
    · refine ⟨_, rfl, ?_⟩
      refine W_alloc S #[.bool false, .slice none 0 0, .slice none 0 0, .slice none 0 0] ty26 rfl rfl ?_
      intro b6857 w6858 E' S
      replace E := E.trans E'
      clear E'
      refine Wl_nil (on_n ⟨⟨M60, Hp.le_refl M60, S.pick [1, 2, 3, 4] (by decide)⟩, ?_⟩)
      exact hq6472 _ _ ⟨b6857, H, ⟨rfl, rfl, rfl, rfl, rfl, rfl, rfl, rfl, rfl, trivial⟩, E, S.pick [0, 1, 2, 3, 4] (by decide)⟩
  clear o6467h
  rintro ρ w6860 ⟨x5225, x5229, A5226, c5227, A5230, c5231, b5223, rfl, hρ, E, S⟩
  rw [agree_eta hρ]
  clear hρ
  have H := o6467H
  clear o6467H
  refine Wa_solo (i := 19) rfl (by kernel_rfl) ?_
  refine W_store S 0 rfl ty26 rfl rfl [.bool false, .slice A5226 x5225.length c5227, .slice A5230 x5229.length c5231, .slice none 0 0] rfl rfl rfl #[.bool false, .slice A5226 x5225.length c5227, .slice A5230 x5229.length c5231, .slice none 0 0] rfl rfl ?_
  intro w6861 E' S
  replace E := E.trans E'
  clear E'
  refine Wl_nil (on_n ⟨⟨M60, Hp.le_refl M60, S.pick [3, 4, 5, 6] (by decide)⟩, ?_⟩)
  refine Wa_done (by kernel_rfl) ?_
  refine tn ?_
  refine Wp_seq ?_
  refine Wp_region_any (S := fun w' => ∃ Mx, M60.le Mx ∧ St w' Mx F [Blk b5223 (.cells #[.bool false, .slice A5226 x5225.length c5227, .slice A5230 x5229.length c5231, .slice none 0 0] 26 (0, 0)), Row (rInt .i64) 3 (.slice A5230 x5229.length c5231) x5229, Row rStr 9 (.slice A5226 x5225.length c5227) x5225, Blk b104 (.cells #[.bool x110, .slice A112 x111.length c113, .slice A116 x115.length c117, .slice A120 x119.length c121] 26 (0, 0)), Blk b65 (.cells #[.bool t39.2.1.Leaf, .slice A50 t39.2.1.Keys.length c51, .slice A53 t39.2.1.Kids.length c54, .slice A56 t39.2.1.Rows.length c57] 26 (0, 0)), Blk b62 (.cells #[.bool t39.1.Leaf, .slice A41 t39.1.Keys.length c42, .slice A44 t39.1.Kids.length c45, .slice A47 t39.1.Rows.length c48] 26 (0, 0)), Blk b1 (.cells #[.bool a0.Leaf, .slice A0_0 a0.Keys.length c0_0, .slice A0_1 a0.Kids.length c0_1, .slice A0_2 a0.Rows.length c0_2] 26 (0, 0))]) mixed ?_
  intro w6921 hw6922 E'
  replace S := S.heap hw6922
  replace E := E.trans E'
  clear E'
  refine Wa_take (i := 0) rfl (by kernel_rfl) rfl rfl (.agg #[.bool false, .slice A5226 x5225.length c5227, .slice A5230 x5229.length c5231, .slice none 0 0]) rfl (fun w' h' => x_loadA (cls_blk h' 0 rfl) ty26 rfl (sub_of_extract rfl) rfl rfl) (⟨M60, Hp.le_refl M60, S.pick [0, 1, 2, 3, 4, 5, 6] (by decide)⟩) ?_
  refine Wa_take (i := 1) rfl (by kernel_rfl) rfl rfl (.agg #[.bool a0.Leaf, .slice A0_0 a0.Keys.length c0_0, .slice A0_1 a0.Kids.length c0_1, .slice A0_2 a0.Rows.length c0_2]) rfl (fun w' h' => x_loadA (cls_blk h' 6 rfl) ty26 rfl (sub_of_extract rfl) rfl rfl) (⟨M60, Hp.le_refl M60, S.pick [0, 1, 2, 3, 4, 5, 6] (by decide)⟩) ?_
  refine Wa_solo (i := 2) rfl (by kernel_rfl) ?_
  replace S : St w6921 M60 F [Row rStr 9 (.slice A5226 x5225.length c5227) x5225, Row (rInt .i64) 3 (.slice A5230 x5229.length c5231) x5229, Blk b5223 (.cells #[.bool false, .slice A5226 x5225.length c5227, .slice A5230 x5229.length c5231, .slice none 0 0] 26 (0, 0)), Blk b104 (.cells #[.bool x110, .slice A112 x111.length c113, .slice A116 x115.length c117, .slice A120 x119.length c121] 26 (0, 0)), Blk b65 (.cells #[.bool t39.2.1.Leaf, .slice A50 t39.2.1.Keys.length c51, .slice A53 t39.2.1.Kids.length c54, .slice A56 t39.2.1.Rows.length c57] 26 (0, 0)), Blk b62 (.cells #[.bool t39.1.Leaf, .slice A41 t39.1.Keys.length c42, .slice A44 t39.1.Kids.length c45, .slice A47 t39.1.Rows.length c48] 26 (0, 0)), Blk b1 (.cells #[.bool a0.Leaf, .slice A0_0 a0.Keys.length c0_0, .slice A0_1 a0.Kids.length c0_1, .slice A0_2 a0.Rows.length c0_2] 26 (0, 0))] := S.pick [2, 1, 0, 3, 4, 5, 6] (by decide)
  obtain ⟨t6923, ht6924, H⟩ := bindS H
  refine W_callN 2 fn16 (fun h9 hs9 hd9 => ferrymanref13_Same.con k _ A5226 c5227 A5230 c5231 none 0 (⟨false, x5225, x5229, ([] : (List Int))⟩ : ferrymanref13_Node) A0_0 c0_0 A0_1 c0_1 A0_2 c0_2 (⟨a0.Leaf, a0.Keys, a0.Kids, a0.Rows⟩ : ferrymanref13_Node) t6923 (Sats.row hs9 hd9 0 rfl) (Sats.row hs9 hd9 1 rfl) (SlW.nil _ _) (SlR.mono hr0_0 (Hp.le_union_left _ _)) (SlR.mono hr0_1 (Hp.le_union_left _ _)) (SlR.mono hr0_2 (Hp.le_union_left _ _)) ht6924) S rfl rfl (by rintro _ _ _ ⟨_, rfl⟩; exact flat_nil) ?_
  rintro _ w6925 _ Γ' E' S ⟨rfl, rfl⟩
  replace E := E.trans E'
  clear E'
  refine Wl_nil (on_n ⟨⟨M60, Hp.le_refl M60, S.pick [2, 1, 0, 3, 4, 5, 6] (by decide)⟩, ?_⟩)
  refine Wa_take (i := 3) rfl (by kernel_rfl) rfl rfl (.bool t6923) rfl (fun w' h' => x_move rfl) (⟨M60, Hp.le_refl M60, S.pick [2, 1, 0, 3, 4, 5, 6] (by decide)⟩) ?_
  obtain ⟨o6954, o6954h, o6954H⟩ := bindS H
  clear H
  refine Wa_join (fun ρ w' => ∃ (x6953 : Bool), (x6953) = o6954 ∧ Agree ρ [(223, .bool x6953)] ∧ Ext w w' ∧ St w' M60 F [Row rStr 9 (.slice A5226 x5225.length c5227) x5225, Row (rInt .i64) 3 (.slice A5230 x5229.length c5231) x5229, Blk b5223 (.cells #[.bool false, .slice A5226 x5225.length c5227, .slice A5230 x5229.length c5231, .slice none 0 0] 26 (0, 0)), Blk b104 (.cells #[.bool x110, .slice A112 x111.length c113, .slice A116 x115.length c117, .slice A120 x119.length c121] 26 (0, 0)), Blk b65 (.cells #[.bool t39.2.1.Leaf, .slice A50 t39.2.1.Keys.length c51, .slice A53 t39.2.1.Kids.length c54, .slice A56 t39.2.1.Rows.length c57] 26 (0, 0)), Blk b62 (.cells #[.bool t39.1.Leaf, .slice A41 t39.1.Keys.length c42, .slice A44 t39.1.Kids.length c45, .slice A47 t39.1.Rows.length c48] 26 (0, 0)), Blk b1 (.cells #[.bool a0.Leaf, .slice A0_0 a0.Keys.length c0_0, .slice A0_1 a0.Kids.length c0_1, .slice A0_2 a0.Rows.length c0_2] 26 (0, 0))]) 1 (Ls 21 [0, 1, 2, 3, 4, 5, 6, 7, 11, 12, 13, 14, 8, 9, 10, 15, 16, 17, 18, 19]) ?_ ?_
  rotate_left
  · intro hrest
    have H := o6954h
    clear o6954h o6954H
    rcases iteS H with ⟨hb6952, H⟩ | ⟨hb6952, H⟩
    · skip
      refine Wa_takeY (i := 4) rfl (by kernel_rfl) rfl rfl (.pointer (some ⟨b104, 2, none⟩)) rfl (congrArg some hb6952) (fun w' h' => x_fieldAddr (o := 0) (off := 2) Try.underlying26 rfl ty23 rfl rfl) (⟨M60, Hp.le_refl M60, S.pick [2, 1, 0, 3, 4, 5, 6] (by decide)⟩) ?_
      refine Wa_takeY (i := 5) rfl (by kernel_rfl) rfl rfl (.slice A116 x115.length c117) rfl (congrArg some hb6952) (fun w' h' => x_load (cls_blk h' 3 rfl) ty23 rfl rfl) (⟨M60, Hp.le_refl M60, S.pick [2, 1, 0, 3, 4, 5, 6] (by decide)⟩) ?_
      refine Wa_takeY (i := 6) rfl (by kernel_rfl) rfl rfl (.agg #[.bool x110, .slice A112 x111.length c113, .slice A116 x115.length c117, .slice A120 x119.length c121]) rfl (congrArg some hb6952) (fun w' h' => x_loadA (cls_blk h' 3 rfl) ty26 rfl (sub_of_extract rfl) rfl rfl) (⟨M60, Hp.le_refl M60, S.pick [2, 1, 0, 3, 4, 5, 6] (by decide)⟩) ?_
      refine Wa_takeY (i := 7) rfl (by kernel_rfl) rfl rfl (.string (bs a1)) rfl (congrArg some hb6952) (fun w' h' => x_move rfl) (⟨M60, Hp.le_refl M60, S.pick [2, 1, 0, 3, 4, 5, 6] (by decide)⟩) ?_
      refine Wa_takeY (i := 11) rfl (by kernel_rfl) rfl rfl (.pointer (some ⟨b1, 2, none⟩)) rfl (congrArg some hb6952) (fun w' h' => x_fieldAddr (o := 0) (off := 2) Try.underlying26 rfl ty23 rfl rfl) (⟨M60, Hp.le_refl M60, S.pick [2, 1, 0, 3, 4, 5, 6] (by decide)⟩) ?_
      refine Wa_takeY (i := 12) rfl (by kernel_rfl) rfl rfl (.slice A0_1 a0.Kids.length c0_1) rfl (congrArg some hb6952) (fun w' h' => x_load (cls_blk h' 6 rfl) ty23 rfl rfl) (⟨M60, Hp.le_refl M60, S.pick [2, 1, 0, 3, 4, 5, 6] (by decide)⟩) ?_
      refine Wa_takeY (i := 13) rfl (by kernel_rfl) rfl rfl (.agg #[.bool a0.Leaf, .slice A0_0 a0.Keys.length c0_0, .slice A0_1 a0.Kids.length c0_1, .slice A0_2 a0.Rows.length c0_2]) rfl (congrArg some hb6952) (fun w' h' => x_loadA (cls_blk h' 6 rfl) ty26 rfl (sub_of_extract rfl) rfl rfl) (⟨M60, Hp.le_refl M60, S.pick [2, 1, 0, 3, 4, 5, 6] (by decide)⟩) ?_
      refine Wa_takeY (i := 14) rfl (by kernel_rfl) rfl rfl (.string (bs a1)) rfl (congrArg some hb6952) (fun w' h' => x_move rfl) (⟨M60, Hp.le_refl M60, S.pick [2, 1, 0, 3, 4, 5, 6] (by decide)⟩) ?_
      refine Wa_solo (i := 8) rfl (by kernel_rfl) ?_
      refine W_yes (congrArg some hb6952) ?_
      obtain ⟨t6955, ht6956, H⟩ := bindS H
      refine W_callF fn13 (fork_Kid.con k M60 A112 c113 A116 c117 A120 c121 (⟨x110, x111, x115, x119⟩ : fork_Node) a1 t6955 hs114 hs118 hs122 ht6956) S rfl rfl (by rintro _ _ _ ⟨_, rfl⟩; exact flat_nil) ?_
      rintro _ w6957 _ Γ' E' S ⟨rfl, rfl⟩
      replace E := E.trans E'
      clear E'
      refine Wl_nil (on_n ⟨⟨M60, Hp.le_refl M60, S.pick [2, 1, 0, 3, 4, 5, 6] (by decide)⟩, ?_⟩)
      obtain ⟨⟨p6958, p6959⟩, H⟩ := chkS H
      obtain ⟨b6960, o6961, cs6962, _, _, ee6967, hb6963, vs6964, hR6965, hc6966⟩ := SlW.at' hs118 p6958 p6959
      obtain rfl : vs6964 = _ := hR6965
      refine Wa_takeY (i := 9) rfl (by kernel_rfl) rfl rfl (.pointer (some ⟨b6960, o6961 + t6955.toNat * 1, none⟩)) rfl (congrArg some hb6952) (fun w' h' => x_indexAddr Try.underlying23 ty3 (slA ee6967) rfl p6958 p6959) (⟨M60, Hp.le_refl M60, S.pick [2, 1, 0, 3, 4, 5, 6] (by decide)⟩) ?_
      refine Wa_takeY (i := 10) rfl (by kernel_rfl) rfl rfl (.int .i64 (rd x115 t6955)) rfl (congrArg some hb6952) (fun w' h' => x_load (cls_frz h' hb6963) ty3 rfl (hc6966 0 _ rfl)) (⟨M60, Hp.le_refl M60, S.pick [2, 1, 0, 3, 4, 5, 6] (by decide)⟩) ?_
      refine Wa_solo (i := 15) rfl (by kernel_rfl) ?_
      refine W_yes (congrArg some hb6952) ?_
      obtain ⟨t6968, ht6969, H⟩ := bindS H
      refine W_callF fn13 (fork_Kid.con k M60 A0_0 c0_0 A0_1 c0_1 A0_2 c0_2 a0 a1 t6968 hr0_0 hr0_1 hr0_2 ht6969) S rfl rfl (by rintro _ _ _ ⟨_, rfl⟩; exact flat_nil) ?_
      rintro _ w6970 _ Γ' E' S ⟨rfl, rfl⟩
      replace E := E.trans E'
      clear E'
      refine Wl_nil (on_n ⟨⟨M60, Hp.le_refl M60, S.pick [2, 1, 0, 3, 4, 5, 6] (by decide)⟩, ?_⟩)
      obtain ⟨⟨p6971, p6972⟩, H⟩ := chkS H
      obtain ⟨b6973, o6974, cs6975, _, _, ee6980, hb6976, vs6977, hR6978, hc6979⟩ := SlW.at' hr0_1 p6971 p6972
      obtain rfl : vs6977 = _ := hR6978
      refine Wa_takeY (i := 16) rfl (by kernel_rfl) rfl rfl (.pointer (some ⟨b6973, o6974 + t6968.toNat * 1, none⟩)) rfl (congrArg some hb6952) (fun w' h' => x_indexAddr Try.underlying23 ty3 (slA ee6980) rfl p6971 p6972) (⟨M60, Hp.le_refl M60, S.pick [2, 1, 0, 3, 4, 5, 6] (by decide)⟩) ?_
      refine Wa_takeY (i := 17) rfl (by kernel_rfl) rfl rfl (.int .i64 (rd a0.Kids t6968)) rfl (congrArg some hb6952) (fun w' h' => x_load (cls_frz h' hb6976) ty3 rfl (hc6979 0 _ rfl)) (⟨M60, Hp.le_refl M60, S.pick [2, 1, 0, 3, 4, 5, 6] (by decide)⟩) ?_
      refine Wa_takeY (i := 18) rfl (by kernel_rfl) rfl rfl (.bool ((rd x115 t6955) == (rd a0.Kids t6968))) rfl (congrArg some hb6952) (fun w' h' => x_ibin rfl rfl rfl rfl) (⟨M60, Hp.le_refl M60, S.pick [2, 1, 0, 3, 4, 5, 6] (by decide)⟩) ?_
      refine Wa_take (i := 19) rfl (by kernel_rfl) rfl rfl (.bool ((rd x115 t6955) == (rd a0.Kids t6968))) rfl (fun w' h' => x_pick (k := true) (congrArg Value.bool hb6952) rfl) (⟨M60, Hp.le_refl M60, S.pick [2, 1, 0, 3, 4, 5, 6] (by decide)⟩) ?_
      exact hrest _ _ ⟨((rd x115 t6955) == (rd a0.Kids t6968)), Option.some.inj H, ⟨rfl, trivial⟩, E, S.pick [0, 1, 2, 3, 4, 5, 6] (by decide)⟩
    · skip
      refine Wa_takeN (i := 4) rfl (by kernel_rfl) rfl rfl rfl (skT hb6952) (⟨M60, Hp.le_refl M60, S.pick [2, 1, 0, 3, 4, 5, 6] (by decide)⟩) ?_
      refine Wa_takeN (i := 5) rfl (by kernel_rfl) rfl rfl rfl (skT hb6952) (⟨M60, Hp.le_refl M60, S.pick [2, 1, 0, 3, 4, 5, 6] (by decide)⟩) ?_
      refine Wa_takeN (i := 6) rfl (by kernel_rfl) rfl rfl rfl (skT hb6952) (⟨M60, Hp.le_refl M60, S.pick [2, 1, 0, 3, 4, 5, 6] (by decide)⟩) ?_
      refine Wa_takeN (i := 7) rfl (by kernel_rfl) rfl rfl rfl (skT hb6952) (⟨M60, Hp.le_refl M60, S.pick [2, 1, 0, 3, 4, 5, 6] (by decide)⟩) ?_
      refine Wa_takeN (i := 8) rfl (by kernel_rfl) rfl rfl rfl (skT hb6952) (⟨M60, Hp.le_refl M60, S.pick [2, 1, 0, 3, 4, 5, 6] (by decide)⟩) ?_
      refine Wa_takeN (i := 9) rfl (by kernel_rfl) rfl rfl rfl (skT hb6952) (⟨M60, Hp.le_refl M60, S.pick [2, 1, 0, 3, 4, 5, 6] (by decide)⟩) ?_
      refine Wa_takeN (i := 10) rfl (by kernel_rfl) rfl rfl rfl (skT hb6952) (⟨M60, Hp.le_refl M60, S.pick [2, 1, 0, 3, 4, 5, 6] (by decide)⟩) ?_
      refine Wa_takeN (i := 11) rfl (by kernel_rfl) rfl rfl rfl (skT hb6952) (⟨M60, Hp.le_refl M60, S.pick [2, 1, 0, 3, 4, 5, 6] (by decide)⟩) ?_
      refine Wa_takeN (i := 12) rfl (by kernel_rfl) rfl rfl rfl (skT hb6952) (⟨M60, Hp.le_refl M60, S.pick [2, 1, 0, 3, 4, 5, 6] (by decide)⟩) ?_
      refine Wa_takeN (i := 13) rfl (by kernel_rfl) rfl rfl rfl (skT hb6952) (⟨M60, Hp.le_refl M60, S.pick [2, 1, 0, 3, 4, 5, 6] (by decide)⟩) ?_
      refine Wa_takeN (i := 14) rfl (by kernel_rfl) rfl rfl rfl (skT hb6952) (⟨M60, Hp.le_refl M60, S.pick [2, 1, 0, 3, 4, 5, 6] (by decide)⟩) ?_
      refine Wa_takeN (i := 15) rfl (by kernel_rfl) rfl rfl rfl (skT hb6952) (⟨M60, Hp.le_refl M60, S.pick [2, 1, 0, 3, 4, 5, 6] (by decide)⟩) ?_
      refine Wa_takeN (i := 16) rfl (by kernel_rfl) rfl rfl rfl (skT hb6952) (⟨M60, Hp.le_refl M60, S.pick [2, 1, 0, 3, 4, 5, 6] (by decide)⟩) ?_
      refine Wa_takeN (i := 17) rfl (by kernel_rfl) rfl rfl rfl (skT hb6952) (⟨M60, Hp.le_refl M60, S.pick [2, 1, 0, 3, 4, 5, 6] (by decide)⟩) ?_
      refine Wa_takeN (i := 18) rfl (by kernel_rfl) rfl rfl rfl (skT hb6952) (⟨M60, Hp.le_refl M60, S.pick [2, 1, 0, 3, 4, 5, 6] (by decide)⟩) ?_
      refine Wa_take (i := 19) rfl (by kernel_rfl) rfl rfl (.bool false) rfl (fun w' h' => x_pick (k := false) (congrArg Value.bool hb6952) rfl) (⟨M60, Hp.le_refl M60, S.pick [2, 1, 0, 3, 4, 5, 6] (by decide)⟩) ?_
      exact hrest _ _ ⟨false, Option.some.inj H, ⟨rfl, trivial⟩, E, S.pick [0, 1, 2, 3, 4, 5, 6] (by decide)⟩
  clear o6954h
  rintro ρ w6981 ⟨x6953, rfl, hρ, E, S⟩
  rw [agree_eta hρ]
  clear hρ
  have H := o6954H
  clear o6954H
  refine Wa_take (i := 20) rfl (by kernel_rfl) rfl rfl (.bool x6953) rfl (fun w' h' => x_assign rfl) (⟨M60, Hp.le_refl M60, S.pick [2, 1, 0, 3, 4, 5, 6] (by decide)⟩) ?_
  refine Wa_done (by kernel_rfl) ?_
  refine tn ?_
  refine Wp_ret ?_
  obtain rfl := Option.some.inj H
  exact ⟨_, _, _, fun w1 e1 => run_resR (vs := [.bool x6953]) (FA.cons (rfl) (FA.nil)), HM, E, S.pick [] (by decide), ⟨rfl, rfl⟩⟩
end Go.Proofs.Ytdommjjhfplcaaa
