import Derived.Test.YtdommjjhfplcaaaGf2P2
namespace Go.Proofs.Ytdommjjhfplcaaa
open Go
set_option linter.unusedVariables false
set_option linter.unusedSimpArgs false
/-! ### ferryman/ferrymanref13.Safe: function 28 -/
def ferrymanref13_Safe (k : Nat) (a0 : ferrymanref13_Node) (a1 : Int) (a2 : Int) (a3 : Bool) : Option (Bool) :=
  (if (a2 == (1 : Int)) = true then some (decide ((a0.Keys.length : Int) < a1)) else (if ((a2 == (2 : Int)) && a0.Leaf) = true then some (a3 || (decide ((a0.Keys.length : Int) > (1 : Int)))) else (if (a2 == (2 : Int)) = true then some ((decide ((a0.Kids.length : Int) > (2 : Int))) || ((!a3) && (decide ((a0.Kids.length : Int) > (1 : Int))))) else some (a2 == (0 : Int)))))
set_option maxHeartbeats 2000000 in
theorem ferrymanref13_Safe.mono {k : Nat} {a0 : ferrymanref13_Node} {a1 : Int} {a2 : Int} {a3 : Bool} : OLe (ferrymanref13_Safe k a0 a1 a2 a3) (ferrymanref13_Safe (k + 1) a0 a1 a2 a3) := by
  unfold ferrymanref13_Safe
  repeat' (first | with_reducible exact OLe.none | with_reducible exact OLe.some | with_reducible refine OLe.ite ?_ ?_ | with_reducible refine OLe.bind ?_ (fun _ => ?_) | refine OLe.bind ?_ (fun _ => ?_) | refine OLe.ite ?_ ?_ | refine OLe.elim (fun _ => ?_) (fun _ => ?_) | split)
set_option maxHeartbeats 1000000 in
set_option maxRecDepth 100000 in
theorem ferrymanref13_Safe.con (k : Nat) (M : Hp) (A0_0 : Option Addr) (c0_0 : Nat) (A0_1 : Option Addr) (c0_1 : Nat) (A0_2 : Option Addr) (c0_2 : Nat) (a0 : ferrymanref13_Node) (a1 : Int) (a2 : Int) (a3 : Bool) (r : Bool) (hr0_0 : SlR rStr M (.slice A0_0 a0.Keys.length c0_0) a0.Keys) (hr0_1 : SlR (rInt .i64) M (.slice A0_1 a0.Kids.length c0_1) a0.Kids) (hr0_2 : SlR (rInt .u64) M (.slice A0_2 a0.Rows.length c0_2) a0.Rows) (h : ferrymanref13_Safe k a0 a1 a2 a3 = some r) : Con Try.prog 28 #[.agg #[.bool a0.Leaf, .slice A0_0 a0.Keys.length c0_0, .slice A0_1 a0.Kids.length c0_1, .slice A0_2 a0.Rows.length c0_2], .int .i64 a1, .int .u8 a2, .bool a3] M [] (fun v M' Γ' => v = .bool r ∧ Γ' = []) := by
  refine con_of_wp Try.func28 rfl Try.ntmps28 Try.results28 rfl ?_
  intro w F rn S hrn
  have E := Ext.refl w
  have HM := Hp.le_refl M
  have H := h
  unfold ferrymanref13_Safe at H
  refine Wp_seq ?_
  refine Wp_region_lit ?_
  refine W_box S #[.bool a0.Leaf, .slice A0_0 a0.Keys.length c0_0, .slice A0_1 a0.Kids.length c0_1, .slice A0_2 a0.Rows.length c0_2] rfl rfl rfl ?_
  intro b1 w2 E' S
  replace E := E.trans E'
  clear E'
  refine W_v (.bool false) (x_assign rfl) rfl ?_
  refine Wl_nil ?_
  refine tn ?_
  refine Wp_seq ?_
  refine Wp_seq ?_
  refine Wp_region_lit ?_
  refine W_v (.int .u8 a2) (x_move rfl) rfl ?_
  refine W_v (.bool (a2 == (1 : Int))) (x_ibin rfl rfl rfl rfl) rfl ?_
  refine Wl_nil ?_
  refine tn ?_
  rcases iteS H with ⟨hb4, H⟩ | ⟨hb4, H⟩
  · refine Wp_cond_true (congrArg Value.bool hb4) ?_
    refine Wp_seq ?_
    refine Wp_region_lit ?_
    refine W_v (.pointer (some ⟨b1, 1, none⟩)) (x_fieldAddr (o := 0) (off := 1) Try.underlying39 rfl ty22 rfl rfl) rfl ?_
    refine W_v (.slice A0_0 a0.Keys.length c0_0) (x_load (S.blk 0 rfl) ty22 rfl rfl) rfl ?_
    refine W_v (.int .i64 (a0.Keys.length : Int)) (x_len_slice (n := a0.Keys.length) Try.underlying22 rfl) rfl ?_
    refine W_v (.int .i64 a1) (x_move rfl) rfl ?_
    refine W_v (.bool (decide ((a0.Keys.length : Int) < a1))) (x_ibin rfl rfl rfl rfl) rfl ?_
    refine W_v (.bool (decide ((a0.Keys.length : Int) < a1))) (x_assign rfl) rfl ?_
    refine Wl_nil ?_
    refine tn ?_
    refine Wp_ret ?_
    refine tr (?_)
    obtain rfl := Option.some.inj H
    exact ⟨_, _, _, fun w1 e1 => run_resR (vs := [.bool (decide ((a0.Keys.length : Int) < a1))]) (FA.cons (rfl) (FA.nil)), HM, E, S.pick [] (by decide), ⟨rfl, rfl⟩⟩
  refine Wp_cond_false (congrArg Value.bool hb4) ?_
  refine Wp_skip ?_
  refine tn ?_
  refine Wp_seq ?_
  refine Wp_seq ?_
  refine Wp_region_lit ?_
  refine W_v (.int .u8 a2) (x_move rfl) rfl ?_
  refine W_v (.bool (a2 == (2 : Int))) (x_ibin rfl rfl rfl rfl) rfl ?_
  refine W_v (.bool (a2 == (2 : Int))) (x_move rfl) rfl ?_
  refine Wl_cutN 3 (fun ρ w' => Agree ρ [(2, .int .u8 a2), (3, .bool a3), (4, .pointer (some ⟨b1, 0, none⟩)), (21, .bool ((a2 == (2 : Int)) && a0.Leaf))] ∧ w2 = w') ?_ ?_
  · rcases boolCases (a2 == (2 : Int)) with hb5 | hb5
    · skip
      refine W_no (skT hb5) rfl ?_
      refine W_no (skT hb5) rfl ?_
      refine W_v (.bool false) (x_pick (k := false) (congrArg Value.bool hb5) rfl) rfl ?_
      refine Wl_nil ?_
      exact ⟨⟨rfl, rfl, rfl, (by first | rfl | (rw [hb5]; rfl) | (simp only [hb5]; rfl)), trivial⟩, rfl⟩
    · skip
      refine W_yes (congrArg some hb5) ?_
      refine W_v (.pointer (some ⟨b1, 0, none⟩)) (x_fieldAddr (o := 0) (off := 0) Try.underlying39 rfl ty4 rfl rfl) rfl ?_
      refine W_yes (congrArg some hb5) ?_
      refine W_v (.bool a0.Leaf) (x_load (S.blk 0 rfl) ty4 rfl rfl) rfl ?_
      refine W_v (.bool a0.Leaf) (x_pick (k := true) (congrArg Value.bool hb5) rfl) rfl ?_
      refine Wl_nil ?_
      exact ⟨⟨rfl, rfl, rfl, (by first | rfl | (rw [hb5]; rfl) | (simp only [hb5]; rfl)), trivial⟩, rfl⟩
  rintro ρ _ ⟨hρ, rfl⟩
  rw [agree_eta hρ]
  clear hρ
  refine Wl_nil ?_
  refine tn ?_
  rcases iteS H with ⟨hb6, H⟩ | ⟨hb6, H⟩
  · refine Wp_cond_true (congrArg Value.bool hb6) ?_
    refine Wp_seq ?_
    refine Wp_region_lit ?_
    refine W_v (.bool a3) (x_move rfl) rfl ?_
    refine W_v (.bool a3) (x_move rfl) rfl ?_
    refine Wl_cutN 5 (fun ρ w' => Agree ρ [(28, .bool (a3 || (decide ((a0.Keys.length : Int) > (1 : Int)))))] ∧ w2 = w') ?_ ?_
    · rcases boolCases a3 with hb7 | hb7
      · skip
        refine W_yes (congrArg some hb7) ?_
        refine W_v (.pointer (some ⟨b1, 1, none⟩)) (x_fieldAddr (o := 0) (off := 1) Try.underlying39 rfl ty22 rfl rfl) rfl ?_
        refine W_yes (congrArg some hb7) ?_
        refine W_v (.slice A0_0 a0.Keys.length c0_0) (x_load (S.blk 0 rfl) ty22 rfl rfl) rfl ?_
        refine W_yes (congrArg some hb7) ?_
        refine W_v (.int .i64 (a0.Keys.length : Int)) (x_len_slice (n := a0.Keys.length) Try.underlying22 rfl) rfl ?_
        refine W_yes (congrArg some hb7) ?_
        refine W_v (.bool (decide ((a0.Keys.length : Int) > (1 : Int)))) (x_ibin rfl rfl rfl rfl) rfl ?_
        refine W_v (.bool (decide ((a0.Keys.length : Int) > (1 : Int)))) (x_pick (k := false) (congrArg Value.bool hb7) rfl) rfl ?_
        refine Wl_nil ?_
        exact ⟨⟨(by first | rfl | (rw [hb7]; rfl) | (simp only [hb7]; rfl)), trivial⟩, rfl⟩
      · skip
        refine W_no (skF hb7) rfl ?_
        refine W_no (skF hb7) rfl ?_
        refine W_no (skF hb7) rfl ?_
        refine W_no (skF hb7) rfl ?_
        refine W_v (.bool true) (x_pick (k := true) (congrArg Value.bool hb7) rfl) rfl ?_
        refine Wl_nil ?_
        exact ⟨⟨(by first | rfl | (rw [hb7]; rfl) | (simp only [hb7]; rfl)), trivial⟩, rfl⟩
    rintro ρ _ ⟨hρ, rfl⟩
    rw [agree_eta hρ]
    clear hρ
    refine W_v (.bool (a3 || (decide ((a0.Keys.length : Int) > (1 : Int))))) (x_assign rfl) rfl ?_
    refine Wl_nil ?_
    refine tn ?_
    refine Wp_ret ?_
    refine tr (?_)
    obtain rfl := Option.some.inj H
    exact ⟨_, _, _, fun w1 e1 => run_resR (vs := [.bool (a3 || (decide ((a0.Keys.length : Int) > (1 : Int))))]) (FA.cons (rfl) (FA.nil)), HM, E, S.pick [] (by decide), ⟨rfl, rfl⟩⟩
  refine Wp_cond_false (congrArg Value.bool hb6) ?_
  refine Wp_skip ?_
  refine tn ?_
  refine Wp_seq ?_
  refine Wp_seq ?_
  refine Wp_region_lit ?_
  refine W_v (.int .u8 a2) (x_move rfl) rfl ?_
  refine W_v (.bool (a2 == (2 : Int))) (x_ibin rfl rfl rfl rfl) rfl ?_
  refine Wl_nil ?_
  refine tn ?_
  rcases iteS H with ⟨hb8, H⟩ | ⟨hb8, H⟩
  · refine Wp_cond_true (congrArg Value.bool hb8) ?_
    refine Wp_seq ?_
    refine Wp_region_lit ?_
    refine W_v (.pointer (some ⟨b1, 2, none⟩)) (x_fieldAddr (o := 0) (off := 2) Try.underlying39 rfl ty23 rfl rfl) rfl ?_
    refine W_v (.slice A0_1 a0.Kids.length c0_1) (x_load (S.blk 0 rfl) ty23 rfl rfl) rfl ?_
    refine W_v (.int .i64 (a0.Kids.length : Int)) (x_len_slice (n := a0.Kids.length) Try.underlying23 rfl) rfl ?_
    refine W_v (.bool (decide ((a0.Kids.length : Int) > (2 : Int)))) (x_ibin rfl rfl rfl rfl) rfl ?_
    refine W_v (.bool (decide ((a0.Kids.length : Int) > (2 : Int)))) (x_move rfl) rfl ?_
    refine Wl_cutN 9 (fun ρ w' => Agree ρ [(44, .bool ((decide ((a0.Kids.length : Int) > (2 : Int))) || ((!a3) && (decide ((a0.Kids.length : Int) > (1 : Int))))))] ∧ w2 = w') ?_ ?_
    · rcases boolCases (decide ((a0.Kids.length : Int) > (2 : Int))) with hb11 | hb11
      · skip
        refine W_yes (congrArg some hb11) ?_
        refine W_v (.bool a3) (x_move rfl) rfl ?_
        refine W_yes (congrArg some hb11) ?_
        refine W_v (.bool (!a3)) (x_not rfl) rfl ?_
        refine W_yes (congrArg some hb11) ?_
        refine W_v (.bool (!a3)) (x_move rfl) rfl ?_
        refine Wl_cutN 5 (fun ρ w' => Agree ρ [(35, .bool (decide ((a0.Kids.length : Int) > (2 : Int)))), (43, .bool ((!a3) && (decide ((a0.Kids.length : Int) > (1 : Int)))))] ∧ w2 = w') ?_ ?_
        · rcases boolCases (!a3) with hb12 | hb12
          · skip
            refine W_no (skT hb12) rfl ?_
            refine W_no (skT hb12) rfl ?_
            refine W_no (skT hb12) rfl ?_
            refine W_no (skT hb12) rfl ?_
            refine W_yes (congrArg some hb11) ?_
            refine W_v (.bool false) (x_pick (k := false) (congrArg Value.bool hb12) rfl) rfl ?_
            refine Wl_nil ?_
            exact ⟨⟨rfl, (by first | rfl | (rw [hb12]; rfl) | (simp only [hb12]; rfl)), trivial⟩, rfl⟩
          · skip
            refine W_yes (congrArg some hb12) ?_
            refine W_v (.pointer (some ⟨b1, 2, none⟩)) (x_fieldAddr (o := 0) (off := 2) Try.underlying39 rfl ty23 rfl rfl) rfl ?_
            refine W_yes (congrArg some hb12) ?_
            refine W_v (.slice A0_1 a0.Kids.length c0_1) (x_load (S.blk 0 rfl) ty23 rfl rfl) rfl ?_
            refine W_yes (congrArg some hb12) ?_
            refine W_v (.int .i64 (a0.Kids.length : Int)) (x_len_slice (n := a0.Kids.length) Try.underlying23 rfl) rfl ?_
            refine W_yes (congrArg some hb12) ?_
            refine W_v (.bool (decide ((a0.Kids.length : Int) > (1 : Int)))) (x_ibin rfl rfl rfl rfl) rfl ?_
            refine W_yes (congrArg some hb11) ?_
            refine W_v (.bool (decide ((a0.Kids.length : Int) > (1 : Int)))) (x_pick (k := true) (congrArg Value.bool hb12) rfl) rfl ?_
            refine Wl_nil ?_
            exact ⟨⟨rfl, (by first | rfl | (rw [hb12]; rfl) | (simp only [hb12]; rfl)), trivial⟩, rfl⟩
        rintro ρ _ ⟨hρ, rfl⟩
        rw [agree_eta hρ]
        clear hρ
        refine W_v (.bool ((!a3) && (decide ((a0.Kids.length : Int) > (1 : Int))))) (x_pick (k := false) (congrArg Value.bool hb11) rfl) rfl ?_
        refine Wl_nil ?_
        exact ⟨⟨(by first | rfl | (rw [hb11]; rfl) | (simp only [hb11]; rfl)), trivial⟩, rfl⟩
      · skip
        refine W_no (skF hb11) rfl ?_
        refine W_no (skF hb11) rfl ?_
        refine W_no (skF hb11) rfl ?_
        refine W_no (rfl) rfl ?_
        refine W_no (rfl) rfl ?_
        refine W_no (rfl) rfl ?_
        refine W_no (rfl) rfl ?_
        refine W_no (skF hb11) rfl ?_
        refine W_v (.bool true) (x_pick (k := true) (congrArg Value.bool hb11) rfl) rfl ?_
        refine Wl_nil ?_
        exact ⟨⟨(by first | rfl | (rw [hb11]; rfl) | (simp only [hb11]; rfl)), trivial⟩, rfl⟩
    rintro ρ _ ⟨hρ, rfl⟩
    rw [agree_eta hρ]
    clear hρ
    refine W_v (.bool ((decide ((a0.Kids.length : Int) > (2 : Int))) || ((!a3) && (decide ((a0.Kids.length : Int) > (1 : Int)))))) (x_assign rfl) rfl ?_
    refine Wl_nil ?_
    refine tn ?_
    refine Wp_ret ?_
    refine tr (?_)
    obtain rfl := Option.some.inj H
    exact ⟨_, _, _, fun w1 e1 => run_resR (vs := [.bool ((decide ((a0.Kids.length : Int) > (2 : Int))) || ((!a3) && (decide ((a0.Kids.length : Int) > (1 : Int)))))]) (FA.cons (rfl) (FA.nil)), HM, E, S.pick [] (by decide), ⟨rfl, rfl⟩⟩
  refine Wp_cond_false (congrArg Value.bool hb8) ?_
  refine Wp_skip ?_
  refine tn ?_
  refine Wp_seq ?_
  refine Wp_region_lit ?_
  refine W_v (.int .u8 a2) (x_move rfl) rfl ?_
  refine W_v (.bool (a2 == (0 : Int))) (x_ibin rfl rfl rfl rfl) rfl ?_
  refine W_v (.bool (a2 == (0 : Int))) (x_assign rfl) rfl ?_
  refine Wl_nil ?_
  refine tn ?_
  refine Wp_ret ?_
  obtain rfl := Option.some.inj H
  exact ⟨_, _, _, fun w1 e1 => run_resR (vs := [.bool (a2 == (0 : Int))]) (FA.cons (rfl) (FA.nil)), HM, E, S.pick [] (by decide), ⟨rfl, rfl⟩⟩
/-! ### slices.Equal[[]string,string]: function 40 -/
def slices_Equal_string_string_l0 (a0 : (List Str)) (a1 : (List Str)) : Nat → Int → Option ((Bool) ⊕ (Unit))
  | 0, _ => none
  | k + 1, x92 => (if (decide (x92 < (a0.length : Int))) = true then (if 0 ≤ x92 ∧ x92 < (a0.length : Int) then (if 0 ≤ x92 ∧ x92 < (a1.length : Int) then (if (sbin .neq (rd a0 x92) (rd a1 x92)) = true then some (.inl false) else slices_Equal_string_string_l0 a0 a1 k (IntKind.i64.wrap (x92 + (1 : Int)))) else none) else none) else some (.inr ()))
set_option maxHeartbeats 2000000 in
theorem slices_Equal_string_string_l0.mono {a0 : (List Str)} {a1 : (List Str)} : ∀ {k : Nat} {x0}, OLe (slices_Equal_string_string_l0 a0 a1 k x0) (slices_Equal_string_string_l0 a0 a1 (k + 1) x0) := by
  intro k
  induction k with
  | zero => intros; exact OLe.none
  | succ k ih =>
    intros
    rw [slices_Equal_string_string_l0.eq_2, slices_Equal_string_string_l0.eq_2]
    repeat' (first | with_reducible exact OLe.none | with_reducible exact OLe.some | with_reducible refine OLe.ite ?_ ?_ | with_reducible refine OLe.bind ?_ (fun _ => ?_) | exact ih | refine OLe.bind ?_ (fun _ => ?_) | refine OLe.ite ?_ ?_ | refine OLe.elim (fun _ => ?_) (fun _ => ?_) | split)
def slices_Equal_string_string (k : Nat) (a0 : (List Str)) (a1 : (List Str)) : Option (Bool) :=
  (if ((a0.length : Int) != (a1.length : Int)) = true then some false else (Option.bind (slices_Equal_string_string_l0 a0 a1 k (0 : Int)) (fun o137o => Sum.elim (fun r' => some r') (fun _ => some true) o137o)))
set_option maxHeartbeats 2000000 in
theorem slices_Equal_string_string.mono {k : Nat} {a0 : (List Str)} {a1 : (List Str)} : OLe (slices_Equal_string_string k a0 a1) (slices_Equal_string_string (k + 1) a0 a1) := by
  unfold slices_Equal_string_string
  repeat' (first | with_reducible exact OLe.none | with_reducible exact OLe.some | with_reducible refine OLe.ite ?_ ?_ | with_reducible refine OLe.bind ?_ (fun _ => ?_) | with_reducible exact slices_Equal_string_string_l0.mono | refine OLe.bind ?_ (fun _ => ?_) | refine OLe.ite ?_ ?_ | refine OLe.elim (fun _ => ?_) (fun _ => ?_) | split)
set_option maxHeartbeats 1000000 in
set_option maxRecDepth 100000 in
theorem slices_Equal_string_string.con (k : Nat) (M : Hp) (A0 : Option Addr) (c0 : Nat) (a0 : (List Str)) (A1 : Option Addr) (c1 : Nat) (a1 : (List Str)) (r : Bool) (hr0 : SlR rStr M (.slice A0 a0.length c0) a0) (hr1 : SlR rStr M (.slice A1 a1.length c1) a1) (h : slices_Equal_string_string k a0 a1 = some r) : Con Try.prog 40 #[.slice A0 a0.length c0, .slice A1 a1.length c1] M [] (fun v M' Γ' => v = .bool r ∧ Γ' = []) := by
  refine con_of_wp Try.func40 rfl Try.ntmps40 Try.results40 rfl ?_
  intro w F rn S hrn
  have E := Ext.refl w
  have HM := Hp.le_refl M
  have H := h
  unfold slices_Equal_string_string at H
  refine Wp_seq ?_
  refine Wp_region_lit ?_
  refine W_v (.bool false) (x_assign rfl) rfl ?_
  refine Wl_nil ?_
  refine tn ?_
  refine Wp_seq ?_
  refine Wp_seq ?_
  refine Wp_region_lit ?_
  refine W_v (.slice A0 a0.length c0) (x_move rfl) rfl ?_
  refine W_v (.int .i64 (a0.length : Int)) (x_len_slice (n := a0.length) Try.underlying22 rfl) rfl ?_
  refine W_v (.slice A1 a1.length c1) (x_move rfl) rfl ?_
  refine W_v (.int .i64 (a1.length : Int)) (x_len_slice (n := a1.length) Try.underlying22 rfl) rfl ?_
  refine W_v (.bool ((a0.length : Int) != (a1.length : Int))) (x_ibin rfl rfl rfl rfl) rfl ?_
  refine Wl_nil ?_
  refine tn ?_
  rcases iteS H with ⟨hb1, H⟩ | ⟨hb1, H⟩
  · refine Wp_cond_true (congrArg Value.bool hb1) ?_
    refine Wp_seq ?_
    refine Wp_region_lit ?_
    refine W_v (.bool false) (x_assign rfl) rfl ?_
    refine Wl_nil ?_
    refine tn ?_
    refine Wp_ret ?_
    refine tr (?_)
    obtain rfl := Option.some.inj H
    exact ⟨_, _, _, fun w1 e1 => run_resR (vs := [.bool false]) (FA.cons (rfl) (FA.nil)), HM, E, S.pick [] (by decide), ⟨rfl, rfl⟩⟩
  refine Wp_cond_false (congrArg Value.bool hb1) ?_
  refine Wp_skip ?_
  refine tn ?_
  refine Wp_seq ?_
  refine Wp_seq ?_
  refine Wp_region_lit ?_
  refine W_v (.slice A0 a0.length c0) (x_move rfl) rfl ?_
  refine W_v (.int .i64 (a0.length : Int)) (x_len_slice (n := a0.length) Try.underlying22 rfl) rfl ?_
  refine W_v (.int .i64 0) (x_move rfl) rfl ?_
  refine Wl_nil ?_
  refine tn ?_
  obtain ⟨o137, o137h, o137H⟩ := bindS H
  clear H
  refine Wp_blockJ (fun ρ w' => .inr () = o137 ∧ Agree ρ [] ∧ Ext w w' ∧ St w' M F []) ?_ ?_
  · skip
    refine Wp_loop (fun n ρ w' => ∃ (x92 : Int), slices_Equal_string_string_l0 a0 a1 n x92 = some o137 ∧ Agree ρ [(0, .slice A0 a0.length c0), (1, .slice A1 a1.length c1), (12, .int .i64 (a0.length : Int)), (13, .int .i64 x92)] ∧ Ext w w' ∧ St w' M F []) k ?_ ?_
    · skip
      exact ⟨(0 : Int), o137h, ⟨rfl, rfl, rfl, rfl, trivial⟩, E, S.pick [] (by decide)⟩
    · intro n
      rintro ρ w138 ⟨x92, H, hρ, E, S⟩
      rw [agree_eta hρ]
      clear hρ
      cases n with
      | zero => cases H
      | succ k =>
        rw [slices_Equal_string_string_l0.eq_2] at H
        refine Wp_seq ?_
        refine Wp_region_lit ?_
        refine W_v (.bool (decide (x92 < (a0.length : Int)))) (x_ibin rfl rfl rfl rfl) rfl ?_
        refine Wl_nil ?_
        refine tn ?_
        refine Wp_seq ?_
        rcases iteS H with ⟨hb139, H⟩ | ⟨hb139, H⟩
        · refine Wp_cond_true (congrArg Value.bool hb139) ?_
          refine Wp_skip ?_
          refine tn ?_
          refine Wp_seq ?_
          refine Wp_block ?_
          refine Wp_seq ?_
          refine Wp_region_lit ?_
          refine W_v (.int .i64 x92) (x_move rfl) rfl ?_
          refine W_v (.int .i64 x92) (x_assign rfl) rfl ?_
          refine Wl_nil ?_
          refine tn ?_
          refine Wp_seq ?_
          refine Wp_region_any (S := fun w' => ∃ Mx, M.le Mx ∧ St w' Mx F []) mixed ?_
          intro w160 hw161 E'
          replace S := S.heap hw161
          replace E := E.trans E'
          clear E'
          refine Wa_take (i := 0) rfl (by kernel_rfl) rfl rfl (.slice A0 a0.length c0) rfl (fun w' h' => x_move rfl) (⟨M, Hp.le_refl M, S.pick [] (by decide)⟩) ?_
          refine Wa_take (i := 1) rfl (by kernel_rfl) rfl rfl (.int .i64 x92) rfl (fun w' h' => x_move rfl) (⟨M, Hp.le_refl M, S.pick [] (by decide)⟩) ?_
          obtain ⟨⟨p162, p163⟩, H⟩ := chkS H
          obtain ⟨b164, o165, cs166, _, _, ee171, hb167, vs168, hR169, hc170⟩ := SlW.at' hr0 p162 p163
          obtain rfl : vs168 = _ := hR169
          refine Wa_take (i := 2) rfl (by kernel_rfl) rfl rfl (.pointer (some ⟨b164, o165 + x92.toNat * 1, none⟩)) rfl (fun w' h' => x_indexAddr Try.underlying22 ty9 (slA ee171) rfl p162 p163) (⟨M, Hp.le_refl M, S.pick [] (by decide)⟩) ?_
          refine Wa_take (i := 3) rfl (by kernel_rfl) rfl rfl (.string (bs (rd a0 x92))) rfl (fun w' h' => x_load (cls_frz h' hb167) ty9 rfl (hc170 0 _ rfl)) (⟨M, Hp.le_refl M, S.pick [] (by decide)⟩) ?_
          refine Wa_take (i := 4) rfl (by kernel_rfl) rfl rfl (.slice A1 a1.length c1) rfl (fun w' h' => x_move rfl) (⟨M, Hp.le_refl M, S.pick [] (by decide)⟩) ?_
          refine Wa_take (i := 5) rfl (by kernel_rfl) rfl rfl (.int .i64 x92) rfl (fun w' h' => x_move rfl) (⟨M, Hp.le_refl M, S.pick [] (by decide)⟩) ?_
          obtain ⟨⟨p172, p173⟩, H⟩ := chkS H
          obtain ⟨b174, o175, cs176, _, _, ee181, hb177, vs178, hR179, hc180⟩ := SlW.at' hr1 p172 p173
          obtain rfl : vs178 = _ := hR179
          refine Wa_take (i := 6) rfl (by kernel_rfl) rfl rfl (.pointer (some ⟨b174, o175 + x92.toNat * 1, none⟩)) rfl (fun w' h' => x_indexAddr Try.underlying22 ty9 (slA ee181) rfl p172 p173) (⟨M, Hp.le_refl M, S.pick [] (by decide)⟩) ?_
          refine Wa_take (i := 7) rfl (by kernel_rfl) rfl rfl (.string (bs (rd a1 x92))) rfl (fun w' h' => x_load (cls_frz h' hb177) ty9 rfl (hc180 0 _ rfl)) (⟨M, Hp.le_refl M, S.pick [] (by decide)⟩) ?_
          refine Wa_take (i := 8) rfl (by kernel_rfl) rfl rfl (.bool (sbin .neq (rd a0 x92) (rd a1 x92))) rfl (fun w' h' => x_sbin rfl rfl rfl) (⟨M, Hp.le_refl M, S.pick [] (by decide)⟩) ?_
          refine Wa_done (by kernel_rfl) ?_
          refine tn ?_
          rcases iteS H with ⟨hb182, H⟩ | ⟨hb182, H⟩
          · refine Wp_cond_true (congrArg Value.bool hb182) ?_
            refine Wp_seq ?_
            refine Wp_region_lit ?_
            refine W_v (.bool false) (x_assign rfl) rfl ?_
            refine Wl_nil ?_
            refine tn ?_
            refine Wp_ret ?_
            refine br (tr (tr (br (tr (tr (?_))))))
            obtain rfl := Option.some.inj H
            have H := o137H
            replace H := elimL H
            obtain rfl := Option.some.inj H
            exact ⟨_, _, _, fun w1 e1 => run_resR (vs := [.bool false]) (FA.cons (rfl) (FA.nil)), HM, E, S.pick [] (by decide), ⟨rfl, rfl⟩⟩
          refine Wp_cond_false (congrArg Value.bool hb182) ?_
          refine Wp_skip ?_
          refine bn ?_
          refine tn ?_
          refine Wp_region_lit ?_
          refine W_v (.int .i64 (IntKind.i64.wrap (x92 + (1 : Int)))) (x_ibin rfl rfl rfl rfl) rfl ?_
          refine W_v (.int .i64 (IntKind.i64.wrap (x92 + (1 : Int)))) (x_move rfl) rfl ?_
          refine Wl_nil ?_
          refine tn ?_
          exact ⟨k, Nat.lt_succ_self k, ⟨(IntKind.i64.wrap (x92 + (1 : Int))), H, ⟨rfl, rfl, rfl, rfl, trivial⟩, E, S.pick [] (by decide)⟩⟩
        refine Wp_cond_false (congrArg Value.bool hb139) ?_
        refine Wp_exit ?_
        refine tx (tx (bsm (?_)))
        refine tn ?_
        exact ⟨Option.some.inj H, trivial, E, S.pick [] (by decide)⟩
  clear o137h
  rintro ρ w183 ⟨rfl, hρ, E, S⟩
  rw [agree_eta hρ]
  clear hρ
  have H := o137H
  clear o137H
  replace H := elimR H
  refine tn ?_
  refine Wp_seq ?_
  refine Wp_region_lit ?_
  refine W_v (.bool true) (x_assign rfl) rfl ?_
  refine Wl_nil ?_
  refine tn ?_
  refine Wp_ret ?_
  obtain rfl := Option.some.inj H
  exact ⟨_, _, _, fun w1 e1 => run_resR (vs := [.bool true]) (FA.cons (rfl) (FA.nil)), HM, E, S.pick [] (by decide), ⟨rfl, rfl⟩⟩
/-! ### slices.Equal[[]int,int]: function 41 -/
def slices_Equal_int_int_l0 (a0 : (List Int)) (a1 : (List Int)) : Nat → Int → Option ((Bool) ⊕ (Unit))
  | 0, _ => none
  | k + 1, x92 => (if (decide (x92 < (a0.length : Int))) = true then (if 0 ≤ x92 ∧ x92 < (a0.length : Int) then (if 0 ≤ x92 ∧ x92 < (a1.length : Int) then (if ((rd a0 x92) != (rd a1 x92)) = true then some (.inl false) else slices_Equal_int_int_l0 a0 a1 k (IntKind.i64.wrap (x92 + (1 : Int)))) else none) else none) else some (.inr ()))
set_option maxHeartbeats 2000000 in
theorem slices_Equal_int_int_l0.mono {a0 : (List Int)} {a1 : (List Int)} : ∀ {k : Nat} {x0}, OLe (slices_Equal_int_int_l0 a0 a1 k x0) (slices_Equal_int_int_l0 a0 a1 (k + 1) x0) := by
  intro k
  induction k with
  | zero => intros; exact OLe.none
  | succ k ih =>
    intros
    rw [slices_Equal_int_int_l0.eq_2, slices_Equal_int_int_l0.eq_2]
    repeat' (first | with_reducible exact OLe.none | with_reducible exact OLe.some | with_reducible refine OLe.ite ?_ ?_ | with_reducible refine OLe.bind ?_ (fun _ => ?_) | exact ih | refine OLe.bind ?_ (fun _ => ?_) | refine OLe.ite ?_ ?_ | refine OLe.elim (fun _ => ?_) (fun _ => ?_) | split)
def slices_Equal_int_int (k : Nat) (a0 : (List Int)) (a1 : (List Int)) : Option (Bool) :=
  (if ((a0.length : Int) != (a1.length : Int)) = true then some false else (Option.bind (slices_Equal_int_int_l0 a0 a1 k (0 : Int)) (fun o137o => Sum.elim (fun r' => some r') (fun _ => some true) o137o)))
set_option maxHeartbeats 2000000 in
theorem slices_Equal_int_int.mono {k : Nat} {a0 : (List Int)} {a1 : (List Int)} : OLe (slices_Equal_int_int k a0 a1) (slices_Equal_int_int (k + 1) a0 a1) := by
  unfold slices_Equal_int_int
  repeat' (first | with_reducible exact OLe.none | with_reducible exact OLe.some | with_reducible refine OLe.ite ?_ ?_ | with_reducible refine OLe.bind ?_ (fun _ => ?_) | with_reducible exact slices_Equal_int_int_l0.mono | refine OLe.bind ?_ (fun _ => ?_) | refine OLe.ite ?_ ?_ | refine OLe.elim (fun _ => ?_) (fun _ => ?_) | split)
set_option maxHeartbeats 1000000 in
set_option maxRecDepth 100000 in
theorem slices_Equal_int_int.con (k : Nat) (M : Hp) (A0 : Option Addr) (c0 : Nat) (a0 : (List Int)) (A1 : Option Addr) (c1 : Nat) (a1 : (List Int)) (r : Bool) (hr0 : SlR (rInt .i64) M (.slice A0 a0.length c0) a0) (hr1 : SlR (rInt .i64) M (.slice A1 a1.length c1) a1) (h : slices_Equal_int_int k a0 a1 = some r) : Con Try.prog 41 #[.slice A0 a0.length c0, .slice A1 a1.length c1] M [] (fun v M' Γ' => v = .bool r ∧ Γ' = []) := by
  refine con_of_wp Try.func41 rfl Try.ntmps41 Try.results41 rfl ?_
  intro w F rn S hrn
  have E := Ext.refl w
  have HM := Hp.le_refl M
  have H := h
  unfold slices_Equal_int_int at H
  refine Wp_seq ?_
  refine Wp_region_lit ?_
  refine W_v (.bool false) (x_assign rfl) rfl ?_
  refine Wl_nil ?_
  refine tn ?_
  refine Wp_seq ?_
  refine Wp_seq ?_
  refine Wp_region_lit ?_
  refine W_v (.slice A0 a0.length c0) (x_move rfl) rfl ?_
  refine W_v (.int .i64 (a0.length : Int)) (x_len_slice (n := a0.length) Try.underlying23 rfl) rfl ?_
  refine W_v (.slice A1 a1.length c1) (x_move rfl) rfl ?_
  refine W_v (.int .i64 (a1.length : Int)) (x_len_slice (n := a1.length) Try.underlying23 rfl) rfl ?_
  refine W_v (.bool ((a0.length : Int) != (a1.length : Int))) (x_ibin rfl rfl rfl rfl) rfl ?_
  refine Wl_nil ?_
  refine tn ?_
  rcases iteS H with ⟨hb1, H⟩ | ⟨hb1, H⟩
  · refine Wp_cond_true (congrArg Value.bool hb1) ?_
    refine Wp_seq ?_
    refine Wp_region_lit ?_
    refine W_v (.bool false) (x_assign rfl) rfl ?_
    refine Wl_nil ?_
    refine tn ?_
    refine Wp_ret ?_
    refine tr (?_)
    obtain rfl := Option.some.inj H
    exact ⟨_, _, _, fun w1 e1 => run_resR (vs := [.bool false]) (FA.cons (rfl) (FA.nil)), HM, E, S.pick [] (by decide), ⟨rfl, rfl⟩⟩
  refine Wp_cond_false (congrArg Value.bool hb1) ?_
  refine Wp_skip ?_
  refine tn ?_
  refine Wp_seq ?_
  refine Wp_seq ?_
  refine Wp_region_lit ?_
  refine W_v (.slice A0 a0.length c0) (x_move rfl) rfl ?_
  refine W_v (.int .i64 (a0.length : Int)) (x_len_slice (n := a0.length) Try.underlying23 rfl) rfl ?_
  refine W_v (.int .i64 0) (x_move rfl) rfl ?_
  refine Wl_nil ?_
  refine tn ?_
  obtain ⟨o137, o137h, o137H⟩ := bindS H
  clear H
  refine Wp_blockJ (fun ρ w' => .inr () = o137 ∧ Agree ρ [] ∧ Ext w w' ∧ St w' M F []) ?_ ?_
  · skip
    refine Wp_loop (fun n ρ w' => ∃ (x92 : Int), slices_Equal_int_int_l0 a0 a1 n x92 = some o137 ∧ Agree ρ [(0, .slice A0 a0.length c0), (1, .slice A1 a1.length c1), (12, .int .i64 (a0.length : Int)), (13, .int .i64 x92)] ∧ Ext w w' ∧ St w' M F []) k ?_ ?_
    · skip
      exact ⟨(0 : Int), o137h, ⟨rfl, rfl, rfl, rfl, trivial⟩, E, S.pick [] (by decide)⟩
    · intro n
      rintro ρ w138 ⟨x92, H, hρ, E, S⟩
      rw [agree_eta hρ]
      clear hρ
      cases n with
      | zero => cases H
      | succ k =>
        rw [slices_Equal_int_int_l0.eq_2] at H
        refine Wp_seq ?_
        refine Wp_region_lit ?_
        refine W_v (.bool (decide (x92 < (a0.length : Int)))) (x_ibin rfl rfl rfl rfl) rfl ?_
        refine Wl_nil ?_
        refine tn ?_
        refine Wp_seq ?_
        rcases iteS H with ⟨hb139, H⟩ | ⟨hb139, H⟩
        · refine Wp_cond_true (congrArg Value.bool hb139) ?_
          refine Wp_skip ?_
          refine tn ?_
          refine Wp_seq ?_
          refine Wp_block ?_
          refine Wp_seq ?_
          refine Wp_region_lit ?_
          refine W_v (.int .i64 x92) (x_move rfl) rfl ?_
          refine W_v (.int .i64 x92) (x_assign rfl) rfl ?_
          refine Wl_nil ?_
          refine tn ?_
          refine Wp_seq ?_
          refine Wp_region_any (S := fun w' => ∃ Mx, M.le Mx ∧ St w' Mx F []) mixed ?_
          intro w160 hw161 E'
          replace S := S.heap hw161
          replace E := E.trans E'
          clear E'
          refine Wa_take (i := 0) rfl (by kernel_rfl) rfl rfl (.slice A0 a0.length c0) rfl (fun w' h' => x_move rfl) (⟨M, Hp.le_refl M, S.pick [] (by decide)⟩) ?_
          refine Wa_take (i := 1) rfl (by kernel_rfl) rfl rfl (.int .i64 x92) rfl (fun w' h' => x_move rfl) (⟨M, Hp.le_refl M, S.pick [] (by decide)⟩) ?_
          obtain ⟨⟨p162, p163⟩, H⟩ := chkS H
          obtain ⟨b164, o165, cs166, _, _, ee171, hb167, vs168, hR169, hc170⟩ := SlW.at' hr0 p162 p163
          obtain rfl : vs168 = _ := hR169
          refine Wa_take (i := 2) rfl (by kernel_rfl) rfl rfl (.pointer (some ⟨b164, o165 + x92.toNat * 1, none⟩)) rfl (fun w' h' => x_indexAddr Try.underlying23 ty3 (slA ee171) rfl p162 p163) (⟨M, Hp.le_refl M, S.pick [] (by decide)⟩) ?_
          refine Wa_take (i := 3) rfl (by kernel_rfl) rfl rfl (.int .i64 (rd a0 x92)) rfl (fun w' h' => x_load (cls_frz h' hb167) ty3 rfl (hc170 0 _ rfl)) (⟨M, Hp.le_refl M, S.pick [] (by decide)⟩) ?_
          refine Wa_take (i := 4) rfl (by kernel_rfl) rfl rfl (.slice A1 a1.length c1) rfl (fun w' h' => x_move rfl) (⟨M, Hp.le_refl M, S.pick [] (by decide)⟩) ?_
          refine Wa_take (i := 5) rfl (by kernel_rfl) rfl rfl (.int .i64 x92) rfl (fun w' h' => x_move rfl) (⟨M, Hp.le_refl M, S.pick [] (by decide)⟩) ?_
          obtain ⟨⟨p172, p173⟩, H⟩ := chkS H
          obtain ⟨b174, o175, cs176, _, _, ee181, hb177, vs178, hR179, hc180⟩ := SlW.at' hr1 p172 p173
          obtain rfl : vs178 = _ := hR179
          refine Wa_take (i := 6) rfl (by kernel_rfl) rfl rfl (.pointer (some ⟨b174, o175 + x92.toNat * 1, none⟩)) rfl (fun w' h' => x_indexAddr Try.underlying23 ty3 (slA ee181) rfl p172 p173) (⟨M, Hp.le_refl M, S.pick [] (by decide)⟩) ?_
          refine Wa_take (i := 7) rfl (by kernel_rfl) rfl rfl (.int .i64 (rd a1 x92)) rfl (fun w' h' => x_load (cls_frz h' hb177) ty3 rfl (hc180 0 _ rfl)) (⟨M, Hp.le_refl M, S.pick [] (by decide)⟩) ?_
          refine Wa_take (i := 8) rfl (by kernel_rfl) rfl rfl (.bool ((rd a0 x92) != (rd a1 x92))) rfl (fun w' h' => x_ibin rfl rfl rfl rfl) (⟨M, Hp.le_refl M, S.pick [] (by decide)⟩) ?_
          refine Wa_done (by kernel_rfl) ?_
          refine tn ?_
          rcases iteS H with ⟨hb182, H⟩ | ⟨hb182, H⟩
          · refine Wp_cond_true (congrArg Value.bool hb182) ?_
            refine Wp_seq ?_
            refine Wp_region_lit ?_
            refine W_v (.bool false) (x_assign rfl) rfl ?_
            refine Wl_nil ?_
            refine tn ?_
            refine Wp_ret ?_
            refine br (tr (tr (br (tr (tr (?_))))))
            obtain rfl := Option.some.inj H
            have H := o137H
            replace H := elimL H
            obtain rfl := Option.some.inj H
            exact ⟨_, _, _, fun w1 e1 => run_resR (vs := [.bool false]) (FA.cons (rfl) (FA.nil)), HM, E, S.pick [] (by decide), ⟨rfl, rfl⟩⟩
          refine Wp_cond_false (congrArg Value.bool hb182) ?_
          refine Wp_skip ?_
          refine bn ?_
          refine tn ?_
          refine Wp_region_lit ?_
          refine W_v (.int .i64 (IntKind.i64.wrap (x92 + (1 : Int)))) (x_ibin rfl rfl rfl rfl) rfl ?_
          refine W_v (.int .i64 (IntKind.i64.wrap (x92 + (1 : Int)))) (x_move rfl) rfl ?_
          refine Wl_nil ?_
          refine tn ?_
          exact ⟨k, Nat.lt_succ_self k, ⟨(IntKind.i64.wrap (x92 + (1 : Int))), H, ⟨rfl, rfl, rfl, rfl, trivial⟩, E, S.pick [] (by decide)⟩⟩
        refine Wp_cond_false (congrArg Value.bool hb139) ?_
        refine Wp_exit ?_
        refine tx (tx (bsm (?_)))
        refine tn ?_
        exact ⟨Option.some.inj H, trivial, E, S.pick [] (by decide)⟩
  clear o137h
  rintro ρ w183 ⟨rfl, hρ, E, S⟩
  rw [agree_eta hρ]
  clear hρ
  have H := o137H
  clear o137H
  replace H := elimR H
  refine tn ?_
  refine Wp_seq ?_
  refine Wp_region_lit ?_
  refine W_v (.bool true) (x_assign rfl) rfl ?_
  refine Wl_nil ?_
  refine tn ?_
  refine Wp_ret ?_
  obtain rfl := Option.some.inj H
  exact ⟨_, _, _, fun w1 e1 => run_resR (vs := [.bool true]) (FA.cons (rfl) (FA.nil)), HM, E, S.pick [] (by decide), ⟨rfl, rfl⟩⟩
/-! ### slices.Equal[[]ferryman/api.Handle,ferryman/api.Handle]: function 42 -/
def slices_Equal_api_Handle_api_Handle_l0 (a0 : (List Int)) (a1 : (List Int)) : Nat → Int → Option ((Bool) ⊕ (Unit))
  | 0, _ => none
  | k + 1, x92 => (if (decide (x92 < (a0.length : Int))) = true then (if 0 ≤ x92 ∧ x92 < (a0.length : Int) then (if 0 ≤ x92 ∧ x92 < (a1.length : Int) then (if ((rd a0 x92) != (rd a1 x92)) = true then some (.inl false) else slices_Equal_api_Handle_api_Handle_l0 a0 a1 k (IntKind.i64.wrap (x92 + (1 : Int)))) else none) else none) else some (.inr ()))
set_option maxHeartbeats 2000000 in
theorem slices_Equal_api_Handle_api_Handle_l0.mono {a0 : (List Int)} {a1 : (List Int)} : ∀ {k : Nat} {x0}, OLe (slices_Equal_api_Handle_api_Handle_l0 a0 a1 k x0) (slices_Equal_api_Handle_api_Handle_l0 a0 a1 (k + 1) x0) := by
  intro k
  induction k with
  | zero => intros; exact OLe.none
  | succ k ih =>
    intros
    rw [slices_Equal_api_Handle_api_Handle_l0.eq_2, slices_Equal_api_Handle_api_Handle_l0.eq_2]
    repeat' (first | with_reducible exact OLe.none | with_reducible exact OLe.some | with_reducible refine OLe.ite ?_ ?_ | with_reducible refine OLe.bind ?_ (fun _ => ?_) | exact ih | refine OLe.bind ?_ (fun _ => ?_) | refine OLe.ite ?_ ?_ | refine OLe.elim (fun _ => ?_) (fun _ => ?_) | split)
def slices_Equal_api_Handle_api_Handle (k : Nat) (a0 : (List Int)) (a1 : (List Int)) : Option (Bool) :=
  (if ((a0.length : Int) != (a1.length : Int)) = true then some false else (Option.bind (slices_Equal_api_Handle_api_Handle_l0 a0 a1 k (0 : Int)) (fun o137o => Sum.elim (fun r' => some r') (fun _ => some true) o137o)))
set_option maxHeartbeats 2000000 in
theorem slices_Equal_api_Handle_api_Handle.mono {k : Nat} {a0 : (List Int)} {a1 : (List Int)} : OLe (slices_Equal_api_Handle_api_Handle k a0 a1) (slices_Equal_api_Handle_api_Handle (k + 1) a0 a1) := by
  unfold slices_Equal_api_Handle_api_Handle
  repeat' (first | with_reducible exact OLe.none | with_reducible exact OLe.some | with_reducible refine OLe.ite ?_ ?_ | with_reducible refine OLe.bind ?_ (fun _ => ?_) | with_reducible exact slices_Equal_api_Handle_api_Handle_l0.mono | refine OLe.bind ?_ (fun _ => ?_) | refine OLe.ite ?_ ?_ | refine OLe.elim (fun _ => ?_) (fun _ => ?_) | split)
set_option maxHeartbeats 1000000 in
set_option maxRecDepth 100000 in
theorem slices_Equal_api_Handle_api_Handle.con (k : Nat) (M : Hp) (A0 : Option Addr) (c0 : Nat) (a0 : (List Int)) (A1 : Option Addr) (c1 : Nat) (a1 : (List Int)) (r : Bool) (hr0 : SlR (rInt .u64) M (.slice A0 a0.length c0) a0) (hr1 : SlR (rInt .u64) M (.slice A1 a1.length c1) a1) (h : slices_Equal_api_Handle_api_Handle k a0 a1 = some r) : Con Try.prog 42 #[.slice A0 a0.length c0, .slice A1 a1.length c1] M [] (fun v M' Γ' => v = .bool r ∧ Γ' = []) := by
  refine con_of_wp Try.func42 rfl Try.ntmps42 Try.results42 rfl ?_
  intro w F rn S hrn
  have E := Ext.refl w
  have HM := Hp.le_refl M
  have H := h
  unfold slices_Equal_api_Handle_api_Handle at H
  refine Wp_seq ?_
  refine Wp_region_lit ?_
  refine W_v (.bool false) (x_assign rfl) rfl ?_
  refine Wl_nil ?_
  refine tn ?_
  refine Wp_seq ?_
  refine Wp_seq ?_
  refine Wp_region_lit ?_
  refine W_v (.slice A0 a0.length c0) (x_move rfl) rfl ?_
  refine W_v (.int .i64 (a0.length : Int)) (x_len_slice (n := a0.length) Try.underlying24 rfl) rfl ?_
  refine W_v (.slice A1 a1.length c1) (x_move rfl) rfl ?_
  refine W_v (.int .i64 (a1.length : Int)) (x_len_slice (n := a1.length) Try.underlying24 rfl) rfl ?_
  refine W_v (.bool ((a0.length : Int) != (a1.length : Int))) (x_ibin rfl rfl rfl rfl) rfl ?_
  refine Wl_nil ?_
  refine tn ?_
  rcases iteS H with ⟨hb1, H⟩ | ⟨hb1, H⟩
  · refine Wp_cond_true (congrArg Value.bool hb1) ?_
    refine Wp_seq ?_
    refine Wp_region_lit ?_
    refine W_v (.bool false) (x_assign rfl) rfl ?_
    refine Wl_nil ?_
    refine tn ?_
    refine Wp_ret ?_
    refine tr (?_)
    obtain rfl := Option.some.inj H
    exact ⟨_, _, _, fun w1 e1 => run_resR (vs := [.bool false]) (FA.cons (rfl) (FA.nil)), HM, E, S.pick [] (by decide), ⟨rfl, rfl⟩⟩
  refine Wp_cond_false (congrArg Value.bool hb1) ?_
  refine Wp_skip ?_
  refine tn ?_
  refine Wp_seq ?_
  refine Wp_seq ?_
  refine Wp_region_lit ?_
  refine W_v (.slice A0 a0.length c0) (x_move rfl) rfl ?_
  refine W_v (.int .i64 (a0.length : Int)) (x_len_slice (n := a0.length) Try.underlying24 rfl) rfl ?_
  refine W_v (.int .i64 0) (x_move rfl) rfl ?_
  refine Wl_nil ?_
  refine tn ?_
  obtain ⟨o137, o137h, o137H⟩ := bindS H
  clear H
  refine Wp_blockJ (fun ρ w' => .inr () = o137 ∧ Agree ρ [] ∧ Ext w w' ∧ St w' M F []) ?_ ?_
  · skip
    refine Wp_loop (fun n ρ w' => ∃ (x92 : Int), slices_Equal_api_Handle_api_Handle_l0 a0 a1 n x92 = some o137 ∧ Agree ρ [(0, .slice A0 a0.length c0), (1, .slice A1 a1.length c1), (12, .int .i64 (a0.length : Int)), (13, .int .i64 x92)] ∧ Ext w w' ∧ St w' M F []) k ?_ ?_
    · skip
      exact ⟨(0 : Int), o137h, ⟨rfl, rfl, rfl, rfl, trivial⟩, E, S.pick [] (by decide)⟩
    · intro n
      rintro ρ w138 ⟨x92, H, hρ, E, S⟩
      rw [agree_eta hρ]
      clear hρ
      cases n with
      | zero => cases H
      | succ k =>
        rw [slices_Equal_api_Handle_api_Handle_l0.eq_2] at H
        refine Wp_seq ?_
        refine Wp_region_lit ?_
        refine W_v (.bool (decide (x92 < (a0.length : Int)))) (x_ibin rfl rfl rfl rfl) rfl ?_
        refine Wl_nil ?_
        refine tn ?_
        refine Wp_seq ?_
        rcases iteS H with ⟨hb139, H⟩ | ⟨hb139, H⟩
        · refine Wp_cond_true (congrArg Value.bool hb139) ?_
          refine Wp_skip ?_
          refine tn ?_
          refine Wp_seq ?_
          refine Wp_block ?_
          refine Wp_seq ?_
          refine Wp_region_lit ?_
          refine W_v (.int .i64 x92) (x_move rfl) rfl ?_
          refine W_v (.int .i64 x92) (x_assign rfl) rfl ?_
          refine Wl_nil ?_
          refine tn ?_
          refine Wp_seq ?_
          refine Wp_region_any (S := fun w' => ∃ Mx, M.le Mx ∧ St w' Mx F []) mixed ?_
          intro w160 hw161 E'
          replace S := S.heap hw161
          replace E := E.trans E'
          clear E'
          refine Wa_take (i := 0) rfl (by kernel_rfl) rfl rfl (.slice A0 a0.length c0) rfl (fun w' h' => x_move rfl) (⟨M, Hp.le_refl M, S.pick [] (by decide)⟩) ?_
          refine Wa_take (i := 1) rfl (by kernel_rfl) rfl rfl (.int .i64 x92) rfl (fun w' h' => x_move rfl) (⟨M, Hp.le_refl M, S.pick [] (by decide)⟩) ?_
          obtain ⟨⟨p162, p163⟩, H⟩ := chkS H
          obtain ⟨b164, o165, cs166, _, _, ee171, hb167, vs168, hR169, hc170⟩ := SlW.at' hr0 p162 p163
          obtain rfl : vs168 = _ := hR169
          refine Wa_take (i := 2) rfl (by kernel_rfl) rfl rfl (.pointer (some ⟨b164, o165 + x92.toNat * 1, none⟩)) rfl (fun w' h' => x_indexAddr Try.underlying24 ty41 (slA ee171) rfl p162 p163) (⟨M, Hp.le_refl M, S.pick [] (by decide)⟩) ?_
          refine Wa_take (i := 3) rfl (by kernel_rfl) rfl rfl (.int .u64 (rd a0 x92)) rfl (fun w' h' => x_load (cls_frz h' hb167) ty41 rfl (hc170 0 _ rfl)) (⟨M, Hp.le_refl M, S.pick [] (by decide)⟩) ?_
          refine Wa_take (i := 4) rfl (by kernel_rfl) rfl rfl (.slice A1 a1.length c1) rfl (fun w' h' => x_move rfl) (⟨M, Hp.le_refl M, S.pick [] (by decide)⟩) ?_
          refine Wa_take (i := 5) rfl (by kernel_rfl) rfl rfl (.int .i64 x92) rfl (fun w' h' => x_move rfl) (⟨M, Hp.le_refl M, S.pick [] (by decide)⟩) ?_
          obtain ⟨⟨p172, p173⟩, H⟩ := chkS H
          obtain ⟨b174, o175, cs176, _, _, ee181, hb177, vs178, hR179, hc180⟩ := SlW.at' hr1 p172 p173
          obtain rfl : vs178 = _ := hR179
          refine Wa_take (i := 6) rfl (by kernel_rfl) rfl rfl (.pointer (some ⟨b174, o175 + x92.toNat * 1, none⟩)) rfl (fun w' h' => x_indexAddr Try.underlying24 ty41 (slA ee181) rfl p172 p173) (⟨M, Hp.le_refl M, S.pick [] (by decide)⟩) ?_
          refine Wa_take (i := 7) rfl (by kernel_rfl) rfl rfl (.int .u64 (rd a1 x92)) rfl (fun w' h' => x_load (cls_frz h' hb177) ty41 rfl (hc180 0 _ rfl)) (⟨M, Hp.le_refl M, S.pick [] (by decide)⟩) ?_
          refine Wa_take (i := 8) rfl (by kernel_rfl) rfl rfl (.bool ((rd a0 x92) != (rd a1 x92))) rfl (fun w' h' => x_ibin rfl rfl rfl rfl) (⟨M, Hp.le_refl M, S.pick [] (by decide)⟩) ?_
          refine Wa_done (by kernel_rfl) ?_
          refine tn ?_
          rcases iteS H with ⟨hb182, H⟩ | ⟨hb182, H⟩
          · refine Wp_cond_true (congrArg Value.bool hb182) ?_
            refine Wp_seq ?_
            refine Wp_region_lit ?_
            refine W_v (.bool false) (x_assign rfl) rfl ?_
            refine Wl_nil ?_
            refine tn ?_
            refine Wp_ret ?_
            refine br (tr (tr (br (tr (tr (?_))))))
            obtain rfl := Option.some.inj H
            have H := o137H
            replace H := elimL H
            obtain rfl := Option.some.inj H
            exact ⟨_, _, _, fun w1 e1 => run_resR (vs := [.bool false]) (FA.cons (rfl) (FA.nil)), HM, E, S.pick [] (by decide), ⟨rfl, rfl⟩⟩
          refine Wp_cond_false (congrArg Value.bool hb182) ?_
          refine Wp_skip ?_
          refine bn ?_
          refine tn ?_
          refine Wp_region_lit ?_
          refine W_v (.int .i64 (IntKind.i64.wrap (x92 + (1 : Int)))) (x_ibin rfl rfl rfl rfl) rfl ?_
          refine W_v (.int .i64 (IntKind.i64.wrap (x92 + (1 : Int)))) (x_move rfl) rfl ?_
          refine Wl_nil ?_
          refine tn ?_
          exact ⟨k, Nat.lt_succ_self k, ⟨(IntKind.i64.wrap (x92 + (1 : Int))), H, ⟨rfl, rfl, rfl, rfl, trivial⟩, E, S.pick [] (by decide)⟩⟩
        refine Wp_cond_false (congrArg Value.bool hb139) ?_
        refine Wp_exit ?_
        refine tx (tx (bsm (?_)))
        refine tn ?_
        exact ⟨Option.some.inj H, trivial, E, S.pick [] (by decide)⟩
  clear o137h
  rintro ρ w183 ⟨rfl, hρ, E, S⟩
  rw [agree_eta hρ]
  clear hρ
  have H := o137H
  clear o137H
  replace H := elimR H
  refine tn ?_
  refine Wp_seq ?_
  refine Wp_region_lit ?_
  refine W_v (.bool true) (x_assign rfl) rfl ?_
  refine Wl_nil ?_
  refine tn ?_
  refine Wp_ret ?_
  obtain rfl := Option.some.inj H
  exact ⟨_, _, _, fun w1 e1 => run_resR (vs := [.bool true]) (FA.cons (rfl) (FA.nil)), HM, E, S.pick [] (by decide), ⟨rfl, rfl⟩⟩
/-! ### ferryman/fork.Same: function 29 -/
def fork_Same (k : Nat) (a0 : fork_Node) (a1 : fork_Node) : Option (Bool) :=
  (Option.bind (α := Bool) (if (a0.Leaf == a1.Leaf) = true then (Option.bind (slices_Equal_string_string k a0.Keys a1.Keys) (fun t16 => some (t16))) else some (false)) (fun x14 => (Option.bind (α := Bool) (if x14 = true then (Option.bind (slices_Equal_int_int k a0.Kids a1.Kids) (fun t29 => some (t29))) else some (false)) (fun x27 => (Option.bind (α := Bool) (if x27 = true then (Option.bind (slices_Equal_api_Handle_api_Handle k a0.Rows a1.Rows) (fun t42 => some (t42))) else some (false)) (fun x40 => some x40))))))
set_option maxHeartbeats 2000000 in
theorem fork_Same.mono {k : Nat} {a0 : fork_Node} {a1 : fork_Node} : OLe (fork_Same k a0 a1) (fork_Same (k + 1) a0 a1) := by
  unfold fork_Same
  repeat' (first | with_reducible exact OLe.none | with_reducible exact OLe.some | with_reducible refine OLe.ite ?_ ?_ | with_reducible refine OLe.bind ?_ (fun _ => ?_) | with_reducible exact slices_Equal_api_Handle_api_Handle.mono | with_reducible exact slices_Equal_int_int.mono | with_reducible exact slices_Equal_string_string.mono | refine OLe.bind ?_ (fun _ => ?_) | refine OLe.ite ?_ ?_ | refine OLe.elim (fun _ => ?_) (fun _ => ?_) | split)
set_option maxHeartbeats 1000000 in
set_option maxRecDepth 100000 in
theorem fork_Same.con (k : Nat) (M : Hp) (A0_0 : Option Addr) (c0_0 : Nat) (A0_1 : Option Addr) (c0_1 : Nat) (A0_2 : Option Addr) (c0_2 : Nat) (a0 : fork_Node) (A1_0 : Option Addr) (c1_0 : Nat) (A1_1 : Option Addr) (c1_1 : Nat) (A1_2 : Option Addr) (c1_2 : Nat) (a1 : fork_Node) (r : Bool) (hr0_0 : SlR rStr M (.slice A0_0 a0.Keys.length c0_0) a0.Keys) (hr0_1 : SlR (rInt .i64) M (.slice A0_1 a0.Kids.length c0_1) a0.Kids) (hr0_2 : SlR (rInt .u64) M (.slice A0_2 a0.Rows.length c0_2) a0.Rows) (hr1_0 : SlR rStr M (.slice A1_0 a1.Keys.length c1_0) a1.Keys) (hr1_1 : SlR (rInt .i64) M (.slice A1_1 a1.Kids.length c1_1) a1.Kids) (hr1_2 : SlR (rInt .u64) M (.slice A1_2 a1.Rows.length c1_2) a1.Rows) (h : fork_Same k a0 a1 = some r) : Con Try.prog 29 #[.agg #[.bool a0.Leaf, .slice A0_0 a0.Keys.length c0_0, .slice A0_1 a0.Kids.length c0_1, .slice A0_2 a0.Rows.length c0_2], .agg #[.bool a1.Leaf, .slice A1_0 a1.Keys.length c1_0, .slice A1_1 a1.Kids.length c1_1, .slice A1_2 a1.Rows.length c1_2]] M [] (fun v M' Γ' => v = .bool r ∧ Γ' = []) := by
  refine con_of_wp Try.func29 rfl Try.ntmps29 Try.results29 rfl ?_
  intro w F rn S hrn
  have E := Ext.refl w
  have HM := Hp.le_refl M
  have H := h
  unfold fork_Same at H
  refine Wp_seq ?_
  refine Wp_region_lit ?_
  refine W_box S #[.bool a0.Leaf, .slice A0_0 a0.Keys.length c0_0, .slice A0_1 a0.Kids.length c0_1, .slice A0_2 a0.Rows.length c0_2] rfl rfl rfl ?_
  intro b1 w2 E' S
  replace E := E.trans E'
  clear E'
  refine W_box S #[.bool a1.Leaf, .slice A1_0 a1.Keys.length c1_0, .slice A1_1 a1.Kids.length c1_1, .slice A1_2 a1.Rows.length c1_2] rfl rfl rfl ?_
  intro b4 w5 E' S
  replace E := E.trans E'
  clear E'
  refine W_v (.bool false) (x_assign rfl) rfl ?_
  refine Wl_nil ?_
  refine tn ?_
  refine Wp_seq ?_
  refine Wp_region_lit ?_
  refine W_v (.pointer (some ⟨b1, 0, none⟩)) (x_fieldAddr (o := 0) (off := 0) Try.underlying26 rfl ty4 rfl rfl) rfl ?_
  refine W_v (.bool a0.Leaf) (x_load (S.blk 1 rfl) ty4 rfl rfl) rfl ?_
  refine W_v (.pointer (some ⟨b4, 0, none⟩)) (x_fieldAddr (o := 0) (off := 0) Try.underlying26 rfl ty4 rfl rfl) rfl ?_
  refine W_v (.bool a1.Leaf) (x_load (S.blk 0 rfl) ty4 rfl rfl) rfl ?_
  refine W_v (.bool (a0.Leaf == a1.Leaf)) (x_beq Try.underlying4 rfl rfl) rfl ?_
  refine W_v (.bool (a0.Leaf == a1.Leaf)) (x_move rfl) rfl ?_
  obtain ⟨o15, o15h, o15H⟩ := bindS H
  clear H
  refine Wl_cutN 6 (fun ρ w' => ∃ (x14 : Bool), (x14) = o15 ∧ Agree ρ [(2, .pointer (some ⟨b1, 0, none⟩)), (3, .pointer (some ⟨b4, 0, none⟩)), (16, .bool x14)] ∧ Ext w w' ∧ St w' M F [Blk b4 (.cells #[.bool a1.Leaf, .slice A1_0 a1.Keys.length c1_0, .slice A1_1 a1.Kids.length c1_1, .slice A1_2 a1.Rows.length c1_2] 26 (0, 0)), Blk b1 (.cells #[.bool a0.Leaf, .slice A0_0 a0.Keys.length c0_0, .slice A0_1 a0.Kids.length c0_1, .slice A0_2 a0.Rows.length c0_2] 26 (0, 0))]) ?_ ?_
  · have H := o15h
    rcases iteS H with ⟨hb13, H⟩ | ⟨hb13, H⟩
    · skip
      refine W_yes (congrArg some hb13) ?_
      refine W_v (.pointer (some ⟨b1, 1, none⟩)) (x_fieldAddr (o := 0) (off := 1) Try.underlying26 rfl ty22 rfl rfl) rfl ?_
      refine W_yes (congrArg some hb13) ?_
      refine W_v (.slice A0_0 a0.Keys.length c0_0) (x_load (S.blk 1 rfl) ty22 rfl rfl) rfl ?_
      refine W_yes (congrArg some hb13) ?_
      refine W_v (.pointer (some ⟨b4, 1, none⟩)) (x_fieldAddr (o := 0) (off := 1) Try.underlying26 rfl ty22 rfl rfl) rfl ?_
      refine W_yes (congrArg some hb13) ?_
      refine W_v (.slice A1_0 a1.Keys.length c1_0) (x_load (S.blk 0 rfl) ty22 rfl rfl) rfl ?_
      refine W_yes (congrArg some hb13) ?_
      obtain ⟨t16, ht17, H⟩ := bindS H
      refine W_callF fn40 (slices_Equal_string_string.con k M A0_0 c0_0 a0.Keys A1_0 c1_0 a1.Keys t16 hr0_0 hr1_0 ht17) S rfl rfl (by rintro _ _ _ ⟨_, rfl⟩; exact flat_nil) ?_
      rintro _ w18 _ Γ' E' S ⟨rfl, rfl⟩
      replace E := E.trans E'
      clear E'
      refine W_v (.bool t16) (x_pick (k := true) (congrArg Value.bool hb13) rfl) rfl ?_
      refine Wl_nil ?_
      exact ⟨t16, Option.some.inj H, ⟨rfl, rfl, rfl, trivial⟩, E, S.pick [0, 1] (by decide)⟩
    · skip
      refine W_no (skT hb13) rfl ?_
      refine W_no (skT hb13) rfl ?_
      refine W_no (skT hb13) rfl ?_
      refine W_no (skT hb13) rfl ?_
      refine W_no (skT hb13) rfl ?_
      refine W_v (.bool false) (x_pick (k := false) (congrArg Value.bool hb13) rfl) rfl ?_
      refine Wl_nil ?_
      exact ⟨false, Option.some.inj H, ⟨rfl, rfl, rfl, trivial⟩, E, S.pick [0, 1] (by decide)⟩
  clear o15h
  rintro ρ w19 ⟨x14, rfl, hρ, E, S⟩
  rw [agree_eta hρ]
  clear hρ
  have H := o15H
  clear o15H
  refine W_v (.bool x14) (x_move rfl) rfl ?_
  obtain ⟨o28, o28h, o28H⟩ := bindS H
  clear H
  refine Wl_cutN 6 (fun ρ w' => ∃ (x27 : Bool), (x27) = o28 ∧ Agree ρ [(2, .pointer (some ⟨b1, 0, none⟩)), (3, .pointer (some ⟨b4, 0, none⟩)), (23, .bool x27)] ∧ Ext w w' ∧ St w' M F [Blk b4 (.cells #[.bool a1.Leaf, .slice A1_0 a1.Keys.length c1_0, .slice A1_1 a1.Kids.length c1_1, .slice A1_2 a1.Rows.length c1_2] 26 (0, 0)), Blk b1 (.cells #[.bool a0.Leaf, .slice A0_0 a0.Keys.length c0_0, .slice A0_1 a0.Kids.length c0_1, .slice A0_2 a0.Rows.length c0_2] 26 (0, 0))]) ?_ ?_
  · have H := o28h
    rcases iteS H with ⟨hb26, H⟩ | ⟨hb26, H⟩
    · skip
      refine W_yes (congrArg some hb26) ?_
      refine W_v (.pointer (some ⟨b1, 2, none⟩)) (x_fieldAddr (o := 0) (off := 2) Try.underlying26 rfl ty23 rfl rfl) rfl ?_
      refine W_yes (congrArg some hb26) ?_
      refine W_v (.slice A0_1 a0.Kids.length c0_1) (x_load (S.blk 1 rfl) ty23 rfl rfl) rfl ?_
      refine W_yes (congrArg some hb26) ?_
      refine W_v (.pointer (some ⟨b4, 2, none⟩)) (x_fieldAddr (o := 0) (off := 2) Try.underlying26 rfl ty23 rfl rfl) rfl ?_
      refine W_yes (congrArg some hb26) ?_
      refine W_v (.slice A1_1 a1.Kids.length c1_1) (x_load (S.blk 0 rfl) ty23 rfl rfl) rfl ?_
      refine W_yes (congrArg some hb26) ?_
      obtain ⟨t29, ht30, H⟩ := bindS H
      refine W_callF fn41 (slices_Equal_int_int.con k M A0_1 c0_1 a0.Kids A1_1 c1_1 a1.Kids t29 hr0_1 hr1_1 ht30) S rfl rfl (by rintro _ _ _ ⟨_, rfl⟩; exact flat_nil) ?_
      rintro _ w31 _ Γ' E' S ⟨rfl, rfl⟩
      replace E := E.trans E'
      clear E'
      refine W_v (.bool t29) (x_pick (k := true) (congrArg Value.bool hb26) rfl) rfl ?_
      refine Wl_nil ?_
      exact ⟨t29, Option.some.inj H, ⟨rfl, rfl, rfl, trivial⟩, E, S.pick [0, 1] (by decide)⟩
    · skip
      refine W_no (skT hb26) rfl ?_
      refine W_no (skT hb26) rfl ?_
      refine W_no (skT hb26) rfl ?_
      refine W_no (skT hb26) rfl ?_
      refine W_no (skT hb26) rfl ?_
      refine W_v (.bool false) (x_pick (k := false) (congrArg Value.bool hb26) rfl) rfl ?_
      refine Wl_nil ?_
      exact ⟨false, Option.some.inj H, ⟨rfl, rfl, rfl, trivial⟩, E, S.pick [0, 1] (by decide)⟩
  clear o28h
  rintro ρ w32 ⟨x27, rfl, hρ, E, S⟩
  rw [agree_eta hρ]
  clear hρ
  have H := o28H
  clear o28H
  refine W_v (.bool x27) (x_move rfl) rfl ?_
  obtain ⟨o41, o41h, o41H⟩ := bindS H
  clear H
  refine Wl_cutN 6 (fun ρ w' => ∃ (x40 : Bool), (x40) = o41 ∧ Agree ρ [(30, .bool x40)] ∧ Ext w w' ∧ St w' M F []) ?_ ?_
  · have H := o41h
    rcases iteS H with ⟨hb39, H⟩ | ⟨hb39, H⟩
    · skip
      refine W_yes (congrArg some hb39) ?_
      refine W_v (.pointer (some ⟨b1, 3, none⟩)) (x_fieldAddr (o := 0) (off := 3) Try.underlying26 rfl ty24 rfl rfl) rfl ?_
      refine W_yes (congrArg some hb39) ?_
      refine W_v (.slice A0_2 a0.Rows.length c0_2) (x_load (S.blk 1 rfl) ty24 rfl rfl) rfl ?_
      refine W_yes (congrArg some hb39) ?_
      refine W_v (.pointer (some ⟨b4, 3, none⟩)) (x_fieldAddr (o := 0) (off := 3) Try.underlying26 rfl ty24 rfl rfl) rfl ?_
      refine W_yes (congrArg some hb39) ?_
      refine W_v (.slice A1_2 a1.Rows.length c1_2) (x_load (S.blk 0 rfl) ty24 rfl rfl) rfl ?_
      refine W_yes (congrArg some hb39) ?_
      obtain ⟨t42, ht43, H⟩ := bindS H
      refine W_callF fn42 (slices_Equal_api_Handle_api_Handle.con k M A0_2 c0_2 a0.Rows A1_2 c1_2 a1.Rows t42 hr0_2 hr1_2 ht43) S rfl rfl (by rintro _ _ _ ⟨_, rfl⟩; exact flat_nil) ?_
      rintro _ w44 _ Γ' E' S ⟨rfl, rfl⟩
      replace E := E.trans E'
      clear E'
      refine W_v (.bool t42) (x_pick (k := true) (congrArg Value.bool hb39) rfl) rfl ?_
      refine Wl_nil ?_
      exact ⟨t42, Option.some.inj H, ⟨rfl, trivial⟩, E, S.pick [] (by decide)⟩
    · skip
      refine W_no (skT hb39) rfl ?_
      refine W_no (skT hb39) rfl ?_
      refine W_no (skT hb39) rfl ?_
      refine W_no (skT hb39) rfl ?_
      refine W_no (skT hb39) rfl ?_
      refine W_v (.bool false) (x_pick (k := false) (congrArg Value.bool hb39) rfl) rfl ?_
      refine Wl_nil ?_
      exact ⟨false, Option.some.inj H, ⟨rfl, trivial⟩, E, S.pick [] (by decide)⟩
  clear o41h
  rintro ρ w45 ⟨x40, rfl, hρ, E, S⟩
  rw [agree_eta hρ]
  clear hρ
  have H := o41H
  clear o41H
  refine W_v (.bool x40) (x_assign rfl) rfl ?_
  refine Wl_nil ?_
  refine tn ?_
  refine Wp_ret ?_
  obtain rfl := Option.some.inj H
  exact ⟨_, _, _, fun w1 e1 => run_resR (vs := [.bool x40]) (FA.cons (rfl) (FA.nil)), HM, E, S.pick [] (by decide), ⟨rfl, rfl⟩⟩
/-! ### ferryman/ferrymanlaw13.told: function 30 -/
def ferrymanlaw13_told (k : Nat) (a0 : fork_Node) (a1 : ferrymanref13_Node) : Option (Bool) :=
  (Option.bind (ferrymanref13_Same k (⟨a0.Leaf, a0.Keys, a0.Kids, a0.Rows⟩ : ferrymanref13_Node) a1) (fun t7 => some t7))
set_option maxHeartbeats 2000000 in
theorem ferrymanlaw13_told.mono {k : Nat} {a0 : fork_Node} {a1 : ferrymanref13_Node} : OLe (ferrymanlaw13_told k a0 a1) (ferrymanlaw13_told (k + 1) a0 a1) := by
  unfold ferrymanlaw13_told
  repeat' (first | with_reducible exact OLe.none | with_reducible exact OLe.some | with_reducible refine OLe.ite ?_ ?_ | with_reducible refine OLe.bind ?_ (fun _ => ?_) | with_reducible exact ferrymanref13_Same.mono | refine OLe.bind ?_ (fun _ => ?_) | refine OLe.ite ?_ ?_ | refine OLe.elim (fun _ => ?_) (fun _ => ?_) | split)
set_option maxHeartbeats 1000000 in
set_option maxRecDepth 100000 in
theorem ferrymanlaw13_told.con (k : Nat) (M : Hp) (A0_0 : Option Addr) (c0_0 : Nat) (A0_1 : Option Addr) (c0_1 : Nat) (A0_2 : Option Addr) (c0_2 : Nat) (a0 : fork_Node) (A1_0 : Option Addr) (c1_0 : Nat) (A1_1 : Option Addr) (c1_1 : Nat) (A1_2 : Option Addr) (c1_2 : Nat) (a1 : ferrymanref13_Node) (r : Bool) (hr1_0 : SlR rStr M (.slice A1_0 a1.Keys.length c1_0) a1.Keys) (hr1_1 : SlR (rInt .i64) M (.slice A1_1 a1.Kids.length c1_1) a1.Kids) (hr1_2 : SlR (rInt .u64) M (.slice A1_2 a1.Rows.length c1_2) a1.Rows) (h : ferrymanlaw13_told k a0 a1 = some r) : Con Try.prog 30 #[.agg #[.bool a0.Leaf, .slice A0_0 a0.Keys.length c0_0, .slice A0_1 a0.Kids.length c0_1, .slice A0_2 a0.Rows.length c0_2], .agg #[.bool a1.Leaf, .slice A1_0 a1.Keys.length c1_0, .slice A1_1 a1.Kids.length c1_1, .slice A1_2 a1.Rows.length c1_2]] M [Row rStr 9 (.slice A0_0 a0.Keys.length c0_0) a0.Keys, Row (rInt .i64) 3 (.slice A0_1 a0.Kids.length c0_1) a0.Kids, Row (rInt .u64) 41 (.slice A0_2 a0.Rows.length c0_2) a0.Rows] (fun v M' Γ' => v = .bool r ∧ Γ' = []) := by
  refine con_of_wp Try.func30 rfl Try.ntmps30 Try.results30 rfl ?_
  intro w F rn S hrn
  have E := Ext.refl w
  have HM := Hp.le_refl M
  have H := h
  unfold ferrymanlaw13_told at H
  refine Wp_seq ?_
  refine Wp_region_lit ?_
  refine W_box S #[.bool a0.Leaf, .slice A0_0 a0.Keys.length c0_0, .slice A0_1 a0.Kids.length c0_1, .slice A0_2 a0.Rows.length c0_2] rfl rfl rfl ?_
  intro b1 w2 E' S
  replace E := E.trans E'
  clear E'
  refine W_box S #[.bool a1.Leaf, .slice A1_0 a1.Keys.length c1_0, .slice A1_1 a1.Kids.length c1_1, .slice A1_2 a1.Rows.length c1_2] rfl rfl rfl ?_
  intro b4 w5 E' S
  replace E := E.trans E'
  clear E'
  refine W_v (.bool false) (x_assign rfl) rfl ?_
  refine Wl_nil ?_
  refine tn ?_
  refine Wp_seq ?_
  refine Wp_region_lit ?_
  refine W_v (.agg #[.bool a0.Leaf, .slice A0_0 a0.Keys.length c0_0, .slice A0_1 a0.Kids.length c0_1, .slice A0_2 a0.Rows.length c0_2]) (x_loadA (S.blk 1 rfl) ty26 rfl (sub_of_extract rfl) rfl rfl) rfl ?_
  refine W_v (.agg #[.bool a1.Leaf, .slice A1_0 a1.Keys.length c1_0, .slice A1_1 a1.Kids.length c1_1, .slice A1_2 a1.Rows.length c1_2]) (x_loadA (S.blk 0 rfl) ty39 rfl (sub_of_extract rfl) rfl rfl) rfl ?_
  replace S : St w5 M F [Row rStr 9 (.slice A0_0 a0.Keys.length c0_0) a0.Keys, Row (rInt .i64) 3 (.slice A0_1 a0.Kids.length c0_1) a0.Kids, Row (rInt .u64) 41 (.slice A0_2 a0.Rows.length c0_2) a0.Rows, Blk b4 (.cells #[.bool a1.Leaf, .slice A1_0 a1.Keys.length c1_0, .slice A1_1 a1.Kids.length c1_1, .slice A1_2 a1.Rows.length c1_2] 39 (0, 0)), Blk b1 (.cells #[.bool a0.Leaf, .slice A0_0 a0.Keys.length c0_0, .slice A0_1 a0.Kids.length c0_1, .slice A0_2 a0.Rows.length c0_2] 26 (0, 0))] := S.pick [2, 3, 4, 0, 1] (by decide)
  obtain ⟨t7, ht8, H⟩ := bindS H
  refine W_callN 3 fn16 (fun h9 hs9 hd9 => ferrymanref13_Same.con k _ A0_0 c0_0 A0_1 c0_1 A0_2 c0_2 (⟨a0.Leaf, a0.Keys, a0.Kids, a0.Rows⟩ : ferrymanref13_Node) A1_0 c1_0 A1_1 c1_1 A1_2 c1_2 a1 t7 (Sats.row hs9 hd9 0 rfl) (Sats.row hs9 hd9 1 rfl) (Sats.row hs9 hd9 2 rfl) (SlR.mono hr1_0 (Hp.le_union_left _ _)) (SlR.mono hr1_1 (Hp.le_union_left _ _)) (SlR.mono hr1_2 (Hp.le_union_left _ _)) ht8) S rfl rfl (by rintro _ _ _ ⟨_, rfl⟩; exact flat_nil) ?_
  rintro _ w9 _ Γ' E' S ⟨rfl, rfl⟩
  replace E := E.trans E'
  clear E'
  refine W_v (.bool t7) (x_assign rfl) rfl ?_
  refine Wl_nil ?_
  refine tn ?_
  refine Wp_seq ?_
  refine Wp_region_any (S := fun w' => ∃ Mx, M.le Mx ∧ St w' Mx F [Row rStr 9 (.slice A0_0 a0.Keys.length c0_0) a0.Keys, Row (rInt .i64) 3 (.slice A0_1 a0.Kids.length c0_1) a0.Kids, Row (rInt .u64) 41 (.slice A0_2 a0.Rows.length c0_2) a0.Rows, Blk b4 (.cells #[.bool a1.Leaf, .slice A1_0 a1.Keys.length c1_0, .slice A1_1 a1.Kids.length c1_1, .slice A1_2 a1.Rows.length c1_2] 39 (0, 0)), Blk b1 (.cells #[.bool a0.Leaf, .slice A0_0 a0.Keys.length c0_0, .slice A0_1 a0.Kids.length c0_1, .slice A0_2 a0.Rows.length c0_2] 26 (0, 0))]) mixed ?_
  intro w10 hw11 E'
  replace S := S.heap hw11
  replace E := E.trans E'
  clear E'
  refine Wa_take (i := 0) rfl (by kernel_rfl) rfl rfl (.pointer (some ⟨b1, 1, none⟩)) rfl (fun w' h' => x_fieldAddr (o := 0) (off := 1) Try.underlying26 rfl ty22 rfl rfl) (⟨M, Hp.le_refl M, S.pick [0, 1, 2, 3, 4] (by decide)⟩) ?_
  refine Wa_take (i := 1) rfl (by kernel_rfl) rfl rfl (.slice A0_0 a0.Keys.length c0_0) rfl (fun w' h' => x_load (cls_blk h' 4 rfl) ty22 rfl rfl) (⟨M, Hp.le_refl M, S.pick [0, 1, 2, 3, 4] (by decide)⟩) ?_
  refine Wa_take (i := 2) rfl (by kernel_rfl) rfl rfl (.pointer (some ⟨b1, 1, none⟩)) rfl (fun w' h' => x_fieldAddr (o := 0) (off := 1) Try.underlying26 rfl ty22 rfl rfl) (⟨M, Hp.le_refl M, S.pick [0, 1, 2, 3, 4] (by decide)⟩) ?_
  refine Wa_take (i := 3) rfl (by kernel_rfl) rfl rfl (.slice A0_0 a0.Keys.length c0_0) rfl (fun w' h' => x_load (cls_blk h' 4 rfl) ty22 rfl rfl) (⟨M, Hp.le_refl M, S.pick [0, 1, 2, 3, 4] (by decide)⟩) ?_
  refine Wa_take (i := 4) rfl (by kernel_rfl) rfl rfl (.int .i64 (c0_0 : Int)) rfl (fun w' h' => x_cap_slice Try.underlying22 rfl) (⟨M, Hp.le_refl M, S.pick [0, 1, 2, 3, 4] (by decide)⟩) ?_
  refine Wa_take (i := 5) rfl (by kernel_rfl) rfl rfl (.slice A0_0 c0_0 c0_0) rfl (fun w' h' => x_slice_hi (i := (c0_0 : Int)) Try.underlying22 ty9 rfl rfl (Int.natCast_nonneg _) (Int.le_refl _)) (⟨M, Hp.le_refl M, S.pick [0, 1, 2, 3, 4] (by decide)⟩) ?_
  refine Wa_take (i := 6) rfl (by kernel_rfl) rfl rfl (.pointer (some ⟨b1, 2, none⟩)) rfl (fun w' h' => x_fieldAddr (o := 0) (off := 2) Try.underlying26 rfl ty23 rfl rfl) (⟨M, Hp.le_refl M, S.pick [0, 1, 2, 3, 4] (by decide)⟩) ?_
  refine Wa_take (i := 7) rfl (by kernel_rfl) rfl rfl (.slice A0_1 a0.Kids.length c0_1) rfl (fun w' h' => x_load (cls_blk h' 4 rfl) ty23 rfl rfl) (⟨M, Hp.le_refl M, S.pick [0, 1, 2, 3, 4] (by decide)⟩) ?_
  refine Wa_take (i := 8) rfl (by kernel_rfl) rfl rfl (.pointer (some ⟨b1, 2, none⟩)) rfl (fun w' h' => x_fieldAddr (o := 0) (off := 2) Try.underlying26 rfl ty23 rfl rfl) (⟨M, Hp.le_refl M, S.pick [0, 1, 2, 3, 4] (by decide)⟩) ?_
  refine Wa_take (i := 9) rfl (by kernel_rfl) rfl rfl (.slice A0_1 a0.Kids.length c0_1) rfl (fun w' h' => x_load (cls_blk h' 4 rfl) ty23 rfl rfl) (⟨M, Hp.le_refl M, S.pick [0, 1, 2, 3, 4] (by decide)⟩) ?_
  refine Wa_take (i := 10) rfl (by kernel_rfl) rfl rfl (.int .i64 (c0_1 : Int)) rfl (fun w' h' => x_cap_slice Try.underlying23 rfl) (⟨M, Hp.le_refl M, S.pick [0, 1, 2, 3, 4] (by decide)⟩) ?_
  refine Wa_take (i := 11) rfl (by kernel_rfl) rfl rfl (.slice A0_1 c0_1 c0_1) rfl (fun w' h' => x_slice_hi (i := (c0_1 : Int)) Try.underlying23 ty3 rfl rfl (Int.natCast_nonneg _) (Int.le_refl _)) (⟨M, Hp.le_refl M, S.pick [0, 1, 2, 3, 4] (by decide)⟩) ?_
  refine Wa_take (i := 12) rfl (by kernel_rfl) rfl rfl (.pointer (some ⟨b1, 3, none⟩)) rfl (fun w' h' => x_fieldAddr (o := 0) (off := 3) Try.underlying26 rfl ty24 rfl rfl) (⟨M, Hp.le_refl M, S.pick [0, 1, 2, 3, 4] (by decide)⟩) ?_
  refine Wa_take (i := 13) rfl (by kernel_rfl) rfl rfl (.slice A0_2 a0.Rows.length c0_2) rfl (fun w' h' => x_load (cls_blk h' 4 rfl) ty24 rfl rfl) (⟨M, Hp.le_refl M, S.pick [0, 1, 2, 3, 4] (by decide)⟩) ?_
  refine Wa_take (i := 14) rfl (by kernel_rfl) rfl rfl (.pointer (some ⟨b1, 3, none⟩)) rfl (fun w' h' => x_fieldAddr (o := 0) (off := 3) Try.underlying26 rfl ty24 rfl rfl) (⟨M, Hp.le_refl M, S.pick [0, 1, 2, 3, 4] (by decide)⟩) ?_
  refine Wa_take (i := 15) rfl (by kernel_rfl) rfl rfl (.slice A0_2 a0.Rows.length c0_2) rfl (fun w' h' => x_load (cls_blk h' 4 rfl) ty24 rfl rfl) (⟨M, Hp.le_refl M, S.pick [0, 1, 2, 3, 4] (by decide)⟩) ?_
  refine Wa_take (i := 16) rfl (by kernel_rfl) rfl rfl (.int .i64 (c0_2 : Int)) rfl (fun w' h' => x_cap_slice Try.underlying24 rfl) (⟨M, Hp.le_refl M, S.pick [0, 1, 2, 3, 4] (by decide)⟩) ?_
  refine Wa_take (i := 17) rfl (by kernel_rfl) rfl rfl (.slice A0_2 c0_2 c0_2) rfl (fun w' h' => x_slice_hi (i := (c0_2 : Int)) Try.underlying24 ty41 rfl rfl (Int.natCast_nonneg _) (Int.le_refl _)) (⟨M, Hp.le_refl M, S.pick [0, 1, 2, 3, 4] (by decide)⟩) ?_
  refine Wa_take (i := 18) rfl (by kernel_rfl) rfl rfl (.slice A0_0 c0_0 c0_0) rfl (fun w' h' => x_assign rfl) (⟨M, Hp.le_refl M, S.pick [0, 1, 2, 3, 4] (by decide)⟩) ?_
  refine Wa_take (i := 19) rfl (by kernel_rfl) rfl rfl (.slice A0_1 c0_1 c0_1) rfl (fun w' h' => x_assign rfl) (⟨M, Hp.le_refl M, S.pick [0, 1, 2, 3, 4] (by decide)⟩) ?_
  refine Wa_take (i := 20) rfl (by kernel_rfl) rfl rfl (.slice A0_2 c0_2 c0_2) rfl (fun w' h' => x_assign rfl) (⟨M, Hp.le_refl M, S.pick [0, 1, 2, 3, 4] (by decide)⟩) ?_
  refine Wa_done (by kernel_rfl) ?_
  refine tn ?_
  refine Wp_seq ?_
  refine Wp_seq ?_
  refine Wp_region_lit ?_
  refine W_v (.int .i64 0) (x_assign rfl) rfl ?_
  refine Wl_nil ?_
  refine tn ?_
  obtain ⟨S, hc12⟩ := S.raw 0 rfl rfl
  replace S : St w10 M F [Raw A0_0 c0_0 9, Row (rInt .i64) 3 (.slice A0_1 a0.Kids.length c0_1) a0.Kids, Row (rInt .u64) 41 (.slice A0_2 a0.Rows.length c0_2) a0.Rows, Blk b4 (.cells #[.bool a1.Leaf, .slice A1_0 a1.Keys.length c1_0, .slice A1_1 a1.Kids.length c1_1, .slice A1_2 a1.Rows.length c1_2] 39 (0, 0)), Blk b1 (.cells #[.bool a0.Leaf, .slice A0_0 a0.Keys.length c0_0, .slice A0_1 a0.Kids.length c0_1, .slice A0_2 a0.Rows.length c0_2] 26 (0, 0))] := S
  refine Wp_blockJ (fun ρ w' => Agree ρ [(5, .bool t7), (6, .slice A0_0 c0_0 c0_0), (7, .slice A0_1 c0_1 c0_1), (8, .slice A0_2 c0_2 c0_2)] ∧ Ext w w' ∧ St w' M F [Raw A0_0 c0_0 9, Row (rInt .i64) 3 (.slice A0_1 a0.Kids.length c0_1) a0.Kids, Row (rInt .u64) 41 (.slice A0_2 a0.Rows.length c0_2) a0.Rows, Blk b4 (.cells #[.bool a1.Leaf, .slice A1_0 a1.Keys.length c1_0, .slice A1_1 a1.Kids.length c1_1, .slice A1_2 a1.Rows.length c1_2] 39 (0, 0)), Blk b1 (.cells #[.bool a0.Leaf, .slice A0_0 a0.Keys.length c0_0, .slice A0_1 a0.Kids.length c0_1, .slice A0_2 a0.Rows.length c0_2] 26 (0, 0))]) ?_ ?_
  · refine Wp_loop (fun n ρ w' => ∃ i9 : Nat, i9 ≤ c0_0 ∧ i9 + n = c0_0 + 1 ∧ Agree ρ [(5, .bool t7), (6, .slice A0_0 c0_0 c0_0), (7, .slice A0_1 c0_1 c0_1), (8, .slice A0_2 c0_2 c0_2), (9, .int .i64 (i9 : Int))] ∧ Ext w w' ∧ St w' M F [Raw A0_0 c0_0 9, Row (rInt .i64) 3 (.slice A0_1 a0.Kids.length c0_1) a0.Kids, Row (rInt .u64) 41 (.slice A0_2 a0.Rows.length c0_2) a0.Rows, Blk b4 (.cells #[.bool a1.Leaf, .slice A1_0 a1.Keys.length c1_0, .slice A1_1 a1.Kids.length c1_1, .slice A1_2 a1.Rows.length c1_2] 39 (0, 0)), Blk b1 (.cells #[.bool a0.Leaf, .slice A0_0 a0.Keys.length c0_0, .slice A0_1 a0.Kids.length c0_1, .slice A0_2 a0.Rows.length c0_2] 26 (0, 0))]) (c0_0 + 1) ?_ ?_
    · exact ⟨0, by omega, by omega, ⟨rfl, rfl, rfl, rfl, rfl, trivial⟩, E, S.pick [0, 1, 2, 3, 4] (by decide)⟩
    · intro n
      rintro ρ w13 ⟨i9, hi9, hn9, hρ, E, S⟩
      rw [agree_eta hρ]
      clear hρ
      cases n with
      | zero => omega
      | succ n =>
        refine Wp_seq ?_
        refine Wp_seq ?_
        refine Wp_region_lit ?_
        refine W_v (.int .i64 (i9 : Int)) (x_move rfl) rfl ?_
        refine W_v (.slice A0_0 c0_0 c0_0) (x_move rfl) rfl ?_
        refine W_v (.int .i64 (c0_0 : Int)) (x_len_slice (n := c0_0) Try.underlying22 rfl) rfl ?_
        refine W_v (.bool (decide ((i9 : Int) < (c0_0 : Int)))) (x_ibin rfl rfl rfl rfl) rfl ?_
        refine Wl_nil ?_
        refine tn ?_
        by_cases hlt : i9 < c0_0
        · refine Wp_cond_true (congrArg Value.bool (decide_eq_true (by omega))) ?_
          refine Wp_skip ?_
          refine tn ?_
          refine Wp_seq ?_
          refine Wp_block ?_
          refine Wp_region_lit ?_
          refine W_v (.slice A0_0 c0_0 c0_0) (x_move rfl) rfl ?_
          refine W_v (.int .i64 (i9 : Int)) (x_move rfl) rfl ?_
          obtain ⟨b14, ee15⟩ := S.raw_some 0 rfl hlt
          refine W_v (.pointer (some ⟨b14, 0 + (i9 : Int).toNat * 1, none⟩)) (x_indexAddr Try.underlying22 ty9 (slA ee15) rfl (by omega) (by omega)) rfl ?_
          refine W_rawstore S 0 rfl hlt ee15 ty9 rfl rfl rfl rfl ?_
          intro w16 E' S
          replace E := E.trans E'
          clear E'
          refine Wl_nil ?_
          refine bn ?_
          refine tn ?_
          refine Wp_region_lit ?_
          refine W_v (.int .i64 (i9 : Int)) (x_move rfl) rfl ?_
          refine W_v (.int .i64 (IntKind.i64.wrap ((i9 : Int) + (1 : Int)))) (x_ibin rfl rfl rfl rfl) rfl ?_
          refine W_v (.int .i64 (IntKind.i64.wrap ((i9 : Int) + (1 : Int)))) (x_assign rfl) rfl ?_
          refine Wl_nil ?_
          refine tn ?_
          have hw9 : IntKind.i64.wrap ((i9 : Int) + (1 : Int)) = ((i9 + 1 : Nat) : Int) := by rw [wrS (by omega) (by omega)]; omega
          rw [hw9]
          exact ⟨n, Nat.lt_succ_self n, i9 + 1, by omega, by omega, ⟨rfl, rfl, rfl, rfl, rfl, trivial⟩, E, S.pick [0, 1, 2, 3, 4] (by decide)⟩
        refine Wp_cond_false (congrArg Value.bool (decide_eq_false (by omega))) ?_
        refine Wp_exit ?_
        refine tx (tx (bsm (?_)))
        refine tn ?_
        exact ⟨⟨rfl, rfl, rfl, rfl, trivial⟩, E, S.pick [0, 1, 2, 3, 4] (by decide)⟩
  rintro ρ w17 ⟨hρ, E, S⟩
  rw [agree_eta hρ]
  clear hρ
  refine tn ?_
  refine Wp_seq ?_
  refine Wp_seq ?_
  refine Wp_region_lit ?_
  refine W_v (.int .i64 0) (x_assign rfl) rfl ?_
  refine Wl_nil ?_
  refine tn ?_
  obtain ⟨S, hc18⟩ := S.raw 1 rfl rfl
  replace S : St w17 M F [Raw A0_0 c0_0 9, Raw A0_1 c0_1 3, Row (rInt .u64) 41 (.slice A0_2 a0.Rows.length c0_2) a0.Rows, Blk b4 (.cells #[.bool a1.Leaf, .slice A1_0 a1.Keys.length c1_0, .slice A1_1 a1.Kids.length c1_1, .slice A1_2 a1.Rows.length c1_2] 39 (0, 0)), Blk b1 (.cells #[.bool a0.Leaf, .slice A0_0 a0.Keys.length c0_0, .slice A0_1 a0.Kids.length c0_1, .slice A0_2 a0.Rows.length c0_2] 26 (0, 0))] := S
  refine Wp_blockJ (fun ρ w' => Agree ρ [(5, .bool t7), (7, .slice A0_1 c0_1 c0_1), (8, .slice A0_2 c0_2 c0_2)] ∧ Ext w w' ∧ St w' M F [Raw A0_0 c0_0 9, Raw A0_1 c0_1 3, Row (rInt .u64) 41 (.slice A0_2 a0.Rows.length c0_2) a0.Rows, Blk b4 (.cells #[.bool a1.Leaf, .slice A1_0 a1.Keys.length c1_0, .slice A1_1 a1.Kids.length c1_1, .slice A1_2 a1.Rows.length c1_2] 39 (0, 0)), Blk b1 (.cells #[.bool a0.Leaf, .slice A0_0 a0.Keys.length c0_0, .slice A0_1 a0.Kids.length c0_1, .slice A0_2 a0.Rows.length c0_2] 26 (0, 0))]) ?_ ?_
  · refine Wp_loop (fun n ρ w' => ∃ i9 : Nat, i9 ≤ c0_1 ∧ i9 + n = c0_1 + 1 ∧ Agree ρ [(5, .bool t7), (7, .slice A0_1 c0_1 c0_1), (8, .slice A0_2 c0_2 c0_2), (10, .int .i64 (i9 : Int))] ∧ Ext w w' ∧ St w' M F [Raw A0_0 c0_0 9, Raw A0_1 c0_1 3, Row (rInt .u64) 41 (.slice A0_2 a0.Rows.length c0_2) a0.Rows, Blk b4 (.cells #[.bool a1.Leaf, .slice A1_0 a1.Keys.length c1_0, .slice A1_1 a1.Kids.length c1_1, .slice A1_2 a1.Rows.length c1_2] 39 (0, 0)), Blk b1 (.cells #[.bool a0.Leaf, .slice A0_0 a0.Keys.length c0_0, .slice A0_1 a0.Kids.length c0_1, .slice A0_2 a0.Rows.length c0_2] 26 (0, 0))]) (c0_1 + 1) ?_ ?_
    · exact ⟨0, by omega, by omega, ⟨rfl, rfl, rfl, rfl, trivial⟩, E, S.pick [0, 1, 2, 3, 4] (by decide)⟩
    · intro n
      rintro ρ w19 ⟨i9, hi9, hn9, hρ, E, S⟩
      rw [agree_eta hρ]
      clear hρ
      cases n with
      | zero => omega
      | succ n =>
        refine Wp_seq ?_
        refine Wp_seq ?_
        refine Wp_region_lit ?_
        refine W_v (.int .i64 (i9 : Int)) (x_move rfl) rfl ?_
        refine W_v (.slice A0_1 c0_1 c0_1) (x_move rfl) rfl ?_
        refine W_v (.int .i64 (c0_1 : Int)) (x_len_slice (n := c0_1) Try.underlying23 rfl) rfl ?_
        refine W_v (.bool (decide ((i9 : Int) < (c0_1 : Int)))) (x_ibin rfl rfl rfl rfl) rfl ?_
        refine Wl_nil ?_
        refine tn ?_
        by_cases hlt : i9 < c0_1
        · refine Wp_cond_true (congrArg Value.bool (decide_eq_true (by omega))) ?_
          refine Wp_skip ?_
          refine tn ?_
          refine Wp_seq ?_
          refine Wp_block ?_
          refine Wp_region_lit ?_
          refine W_v (.slice A0_1 c0_1 c0_1) (x_move rfl) rfl ?_
          refine W_v (.int .i64 (i9 : Int)) (x_move rfl) rfl ?_
          obtain ⟨b20, ee21⟩ := S.raw_some 1 rfl hlt
          refine W_v (.pointer (some ⟨b20, 0 + (i9 : Int).toNat * 1, none⟩)) (x_indexAddr Try.underlying23 ty3 (slA ee21) rfl (by omega) (by omega)) rfl ?_
          refine W_rawstore S 1 rfl hlt ee21 ty3 rfl rfl rfl rfl ?_
          intro w22 E' S
          replace E := E.trans E'
          clear E'
          refine Wl_nil ?_
          refine bn ?_
          refine tn ?_
          refine Wp_region_lit ?_
          refine W_v (.int .i64 (i9 : Int)) (x_move rfl) rfl ?_
          refine W_v (.int .i64 (IntKind.i64.wrap ((i9 : Int) + (1 : Int)))) (x_ibin rfl rfl rfl rfl) rfl ?_
          refine W_v (.int .i64 (IntKind.i64.wrap ((i9 : Int) + (1 : Int)))) (x_assign rfl) rfl ?_
          refine Wl_nil ?_
          refine tn ?_
          have hw9 : IntKind.i64.wrap ((i9 : Int) + (1 : Int)) = ((i9 + 1 : Nat) : Int) := by rw [wrS (by omega) (by omega)]; omega
          rw [hw9]
          exact ⟨n, Nat.lt_succ_self n, i9 + 1, by omega, by omega, ⟨rfl, rfl, rfl, rfl, trivial⟩, E, S.pick [0, 1, 2, 3, 4] (by decide)⟩
        refine Wp_cond_false (congrArg Value.bool (decide_eq_false (by omega))) ?_
        refine Wp_exit ?_
        refine tx (tx (bsm (?_)))
        refine tn ?_
        exact ⟨⟨rfl, rfl, rfl, trivial⟩, E, S.pick [0, 1, 2, 3, 4] (by decide)⟩
  rintro ρ w23 ⟨hρ, E, S⟩
  rw [agree_eta hρ]
  clear hρ
  refine tn ?_
  refine Wp_seq ?_
  refine Wp_seq ?_
  refine Wp_region_lit ?_
  refine W_v (.int .i64 0) (x_assign rfl) rfl ?_
  refine Wl_nil ?_
  refine tn ?_
  obtain ⟨S, hc24⟩ := S.raw 2 rfl rfl
  replace S : St w23 M F [Raw A0_0 c0_0 9, Raw A0_1 c0_1 3, Raw A0_2 c0_2 41, Blk b4 (.cells #[.bool a1.Leaf, .slice A1_0 a1.Keys.length c1_0, .slice A1_1 a1.Kids.length c1_1, .slice A1_2 a1.Rows.length c1_2] 39 (0, 0)), Blk b1 (.cells #[.bool a0.Leaf, .slice A0_0 a0.Keys.length c0_0, .slice A0_1 a0.Kids.length c0_1, .slice A0_2 a0.Rows.length c0_2] 26 (0, 0))] := S
  refine Wp_blockJ (fun ρ w' => Agree ρ [(5, .bool t7), (8, .slice A0_2 c0_2 c0_2)] ∧ Ext w w' ∧ St w' M F [Raw A0_0 c0_0 9, Raw A0_1 c0_1 3, Raw A0_2 c0_2 41, Blk b4 (.cells #[.bool a1.Leaf, .slice A1_0 a1.Keys.length c1_0, .slice A1_1 a1.Kids.length c1_1, .slice A1_2 a1.Rows.length c1_2] 39 (0, 0)), Blk b1 (.cells #[.bool a0.Leaf, .slice A0_0 a0.Keys.length c0_0, .slice A0_1 a0.Kids.length c0_1, .slice A0_2 a0.Rows.length c0_2] 26 (0, 0))]) ?_ ?_
  · refine Wp_loop (fun n ρ w' => ∃ i9 : Nat, i9 ≤ c0_2 ∧ i9 + n = c0_2 + 1 ∧ Agree ρ [(5, .bool t7), (8, .slice A0_2 c0_2 c0_2), (11, .int .i64 (i9 : Int))] ∧ Ext w w' ∧ St w' M F [Raw A0_0 c0_0 9, Raw A0_1 c0_1 3, Raw A0_2 c0_2 41, Blk b4 (.cells #[.bool a1.Leaf, .slice A1_0 a1.Keys.length c1_0, .slice A1_1 a1.Kids.length c1_1, .slice A1_2 a1.Rows.length c1_2] 39 (0, 0)), Blk b1 (.cells #[.bool a0.Leaf, .slice A0_0 a0.Keys.length c0_0, .slice A0_1 a0.Kids.length c0_1, .slice A0_2 a0.Rows.length c0_2] 26 (0, 0))]) (c0_2 + 1) ?_ ?_
    · exact ⟨0, by omega, by omega, ⟨rfl, rfl, rfl, trivial⟩, E, S.pick [0, 1, 2, 3, 4] (by decide)⟩
    · intro n
      rintro ρ w25 ⟨i9, hi9, hn9, hρ, E, S⟩
      rw [agree_eta hρ]
      clear hρ
      cases n with
      | zero => omega
      | succ n =>
        refine Wp_seq ?_
        refine Wp_seq ?_
        refine Wp_region_lit ?_
        refine W_v (.int .i64 (i9 : Int)) (x_move rfl) rfl ?_
        refine W_v (.slice A0_2 c0_2 c0_2) (x_move rfl) rfl ?_
        refine W_v (.int .i64 (c0_2 : Int)) (x_len_slice (n := c0_2) Try.underlying24 rfl) rfl ?_
        refine W_v (.bool (decide ((i9 : Int) < (c0_2 : Int)))) (x_ibin rfl rfl rfl rfl) rfl ?_
        refine Wl_nil ?_
        refine tn ?_
        by_cases hlt : i9 < c0_2
        · refine Wp_cond_true (congrArg Value.bool (decide_eq_true (by omega))) ?_
          refine Wp_skip ?_
          refine tn ?_
          refine Wp_seq ?_
          refine Wp_block ?_
          refine Wp_region_lit ?_
          refine W_v (.slice A0_2 c0_2 c0_2) (x_move rfl) rfl ?_
          refine W_v (.int .i64 (i9 : Int)) (x_move rfl) rfl ?_
          obtain ⟨b26, ee27⟩ := S.raw_some 2 rfl hlt
          refine W_v (.pointer (some ⟨b26, 0 + (i9 : Int).toNat * 1, none⟩)) (x_indexAddr Try.underlying24 ty41 (slA ee27) rfl (by omega) (by omega)) rfl ?_
          refine W_rawstore S 2 rfl hlt ee27 ty41 rfl rfl rfl rfl ?_
          intro w28 E' S
          replace E := E.trans E'
          clear E'
          refine Wl_nil ?_
          refine bn ?_
          refine tn ?_
          refine Wp_region_lit ?_
          refine W_v (.int .i64 (i9 : Int)) (x_move rfl) rfl ?_
          refine W_v (.int .i64 (IntKind.i64.wrap ((i9 : Int) + (1 : Int)))) (x_ibin rfl rfl rfl rfl) rfl ?_
          refine W_v (.int .i64 (IntKind.i64.wrap ((i9 : Int) + (1 : Int)))) (x_assign rfl) rfl ?_
          refine Wl_nil ?_
          refine tn ?_
          have hw9 : IntKind.i64.wrap ((i9 : Int) + (1 : Int)) = ((i9 + 1 : Nat) : Int) := by rw [wrS (by omega) (by omega)]; omega
          rw [hw9]
          exact ⟨n, Nat.lt_succ_self n, i9 + 1, by omega, by omega, ⟨rfl, rfl, rfl, trivial⟩, E, S.pick [0, 1, 2, 3, 4] (by decide)⟩
        refine Wp_cond_false (congrArg Value.bool (decide_eq_false (by omega))) ?_
        refine Wp_exit ?_
        refine tx (tx (bsm (?_)))
        refine tn ?_
        exact ⟨⟨rfl, rfl, trivial⟩, E, S.pick [0, 1, 2, 3, 4] (by decide)⟩
  rintro ρ w29 ⟨hρ, E, S⟩
  rw [agree_eta hρ]
  clear hρ
  refine tn ?_
  refine Wp_seq ?_
  refine Wp_region_lit ?_
  refine W_v (.bool t7) (x_move rfl) rfl ?_
  refine W_v (.bool t7) (x_assign rfl) rfl ?_
  refine Wl_nil ?_
  refine tn ?_
  refine Wp_ret ?_
  obtain rfl := Option.some.inj H
  exact ⟨_, _, _, fun w1 e1 => run_resR (vs := [.bool t7]) (FA.cons (rfl) (FA.nil)), HM, E, S.pick [] (by decide), ⟨rfl, rfl⟩⟩
end Go.Proofs.Ytdommjjhfplcaaa
