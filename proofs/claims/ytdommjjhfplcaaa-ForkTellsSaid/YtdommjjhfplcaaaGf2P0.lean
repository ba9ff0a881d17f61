import Derived.Test.YtdommjjhfplcaaaTyf2
namespace Go.Proofs.Ytdommjjhfplcaaa
open Go
set_option linter.unusedVariables false
set_option linter.unusedSimpArgs false
structure fork_Node where
  Leaf : Bool
  Keys : (List Str)
  Kids : (List Int)
  Rows : (List Int)
instance : Inhabited fork_Node := ⟨⟨false, [], [], []⟩⟩
def r_fork_Node : Rep fork_Node where
  sz := 4
  R := fun M x cs => ∃ v1 v2 v3, SlR rStr M v1 x.Keys ∧ SlR (rInt .i64) M v2 x.Kids ∧ SlR (rInt .u64) M v3 x.Rows ∧ cs = [.bool x.Leaf, v1, v2, v3]
  len := fun ⟨v1, v2, v3, h1, h2, h3, h⟩ => by subst h; rfl
  one := by
    rintro M x cs ⟨v1, v2, v3, h1, h2, h3, h⟩
    subst h
    obtain ⟨A1, c1, rfl, _⟩ := h1.form
    obtain ⟨A2, c2, rfl, _⟩ := h2.form
    obtain ⟨A3, c3, rfl, _⟩ := h3.form
    exact fun v hv => List.all_eq_true.1 (show (List.all [.bool x.Leaf, .slice A1 x.Keys.length c1, .slice A2 x.Kids.length c2, .slice A3 x.Rows.length c3] (·.oneCell')) = true from rfl) v hv
  mono := fun hM ⟨v1, v2, v3, h1, h2, h3, h⟩ => ⟨v1, v2, v3, SlR.mono h1 hM, SlR.mono h2 hM, SlR.mono h3 hM, h⟩
structure ferrymanref13_Node where
  Leaf : Bool
  Keys : (List Str)
  Kids : (List Int)
  Rows : (List Int)
instance : Inhabited ferrymanref13_Node := ⟨⟨false, [], [], []⟩⟩
def r_ferrymanref13_Node : Rep ferrymanref13_Node where
  sz := 4
  R := fun M x cs => ∃ v1 v2 v3, SlR rStr M v1 x.Keys ∧ SlR (rInt .i64) M v2 x.Kids ∧ SlR (rInt .u64) M v3 x.Rows ∧ cs = [.bool x.Leaf, v1, v2, v3]
  len := fun ⟨v1, v2, v3, h1, h2, h3, h⟩ => by subst h; rfl
  one := by
    rintro M x cs ⟨v1, v2, v3, h1, h2, h3, h⟩
    subst h
    obtain ⟨A1, c1, rfl, _⟩ := h1.form
    obtain ⟨A2, c2, rfl, _⟩ := h2.form
    obtain ⟨A3, c3, rfl, _⟩ := h3.form
    exact fun v hv => List.all_eq_true.1 (show (List.all [.bool x.Leaf, .slice A1 x.Keys.length c1, .slice A2 x.Kids.length c2, .slice A3 x.Rows.length c3] (·.oneCell')) = true from rfl) v hv
  mono := fun hM ⟨v1, v2, v3, h1, h2, h3, h⟩ => ⟨v1, v2, v3, SlR.mono h1 hM, SlR.mono h2 hM, SlR.mono h3 hM, h⟩
/-! ### ferryman/ferrymanlaw13.large: function 9 -/
def ferrymanlaw13_large_l0 (a0 : fork_Node) : Nat → Int → Int → Option ((Int))
  | 0, _, _ => none
  | k + 1, x32, x33 => (if ((decide (x33 < (a0.Keys.length : Int))) && (decide (x32 < (3000 : Int)))) = true then (if 0 ≤ x33 ∧ x33 < (a0.Keys.length : Int) then ferrymanlaw13_large_l0 a0 k (IntKind.i64.wrap ((IntKind.i64.wrap (x32 + (1 : Int))) + ((rd a0.Keys x33).length : Int))) (IntKind.i64.wrap (x33 + (1 : Int))) else none) else some (x32))
set_option maxHeartbeats 2000000 in
theorem ferrymanlaw13_large_l0.mono {a0 : fork_Node} : ∀ {k : Nat} {x0 x1}, OLe (ferrymanlaw13_large_l0 a0 k x0 x1) (ferrymanlaw13_large_l0 a0 (k + 1) x0 x1) := by
  intro k
  induction k with
  | zero => intros; exact OLe.none
  | succ k ih =>
    intros
    rw [ferrymanlaw13_large_l0.eq_2, ferrymanlaw13_large_l0.eq_2]
    repeat' (first | with_reducible exact OLe.none | with_reducible exact OLe.some | with_reducible refine OLe.ite ?_ ?_ | with_reducible refine OLe.bind ?_ (fun _ => ?_) | exact ih | refine OLe.bind ?_ (fun _ => ?_) | refine OLe.ite ?_ ?_ | refine OLe.elim (fun _ => ?_) (fun _ => ?_) | split)
def ferrymanlaw13_large (k : Nat) (a0 : fork_Node) : Option (Bool) :=
  (Option.bind (ferrymanlaw13_large_l0 a0 k (IntKind.i64.wrap ((a0.Kids.length : Int) + (a0.Rows.length : Int))) (0 : Int)) (fun x46 => some (decide (x46 ≥ (3000 : Int)))))
set_option maxHeartbeats 2000000 in
theorem ferrymanlaw13_large.mono {k : Nat} {a0 : fork_Node} : OLe (ferrymanlaw13_large k a0) (ferrymanlaw13_large (k + 1) a0) := by
  unfold ferrymanlaw13_large
  repeat' (first | with_reducible exact OLe.none | with_reducible exact OLe.some | with_reducible refine OLe.ite ?_ ?_ | with_reducible refine OLe.bind ?_ (fun _ => ?_) | with_reducible exact ferrymanlaw13_large_l0.mono | refine OLe.bind ?_ (fun _ => ?_) | refine OLe.ite ?_ ?_ | refine OLe.elim (fun _ => ?_) (fun _ => ?_) | split)
set_option maxHeartbeats 1000000 in
set_option maxRecDepth 100000 in
theorem ferrymanlaw13_large.con (k : Nat) (M : Hp) (A0_0 : Option Addr) (c0_0 : Nat) (A0_1 : Option Addr) (c0_1 : Nat) (A0_2 : Option Addr) (c0_2 : Nat) (a0 : fork_Node) (r : Bool) (hr0_0 : SlR rStr M (.slice A0_0 a0.Keys.length c0_0) a0.Keys) (hr0_1 : SlR (rInt .i64) M (.slice A0_1 a0.Kids.length c0_1) a0.Kids) (hr0_2 : SlR (rInt .u64) M (.slice A0_2 a0.Rows.length c0_2) a0.Rows) (h : ferrymanlaw13_large k a0 = some r) : Con Try.prog 9 #[.agg #[.bool a0.Leaf, .slice A0_0 a0.Keys.length c0_0, .slice A0_1 a0.Kids.length c0_1, .slice A0_2 a0.Rows.length c0_2]] M [] (fun v M' Γ' => v = .bool r ∧ Γ' = []) := by
  refine con_of_wp Try.func9 rfl Try.ntmps9 Try.results9 rfl ?_
  intro w F rn S hrn
  have E := Ext.refl w
  have HM := Hp.le_refl M
  have H := h
  unfold ferrymanlaw13_large at H
  refine Wp_seq ?_
  refine Wp_region_lit ?_
  refine W_box S #[.bool a0.Leaf, .slice A0_0 a0.Keys.length c0_0, .slice A0_1 a0.Kids.length c0_1, .slice A0_2 a0.Rows.length c0_2] rfl rfl rfl ?_
  intro b1 w2 E' S
  replace E := E.trans E'
  clear E'
  refine W_v (.bool false) (x_assign rfl) rfl ?_
  refine Wl_nil ?_
  refine tn ?_
  refine Wp_seq ?_
  refine Wp_region_lit ?_
  refine W_v (.pointer (some ⟨b1, 2, none⟩)) (x_fieldAddr (o := 0) (off := 2) Try.underlying26 rfl ty23 rfl rfl) rfl ?_
  refine W_v (.slice A0_1 a0.Kids.length c0_1) (x_load (S.blk 0 rfl) ty23 rfl rfl) rfl ?_
  refine W_v (.int .i64 (a0.Kids.length : Int)) (x_len_slice (n := a0.Kids.length) Try.underlying23 rfl) rfl ?_
  refine W_v (.pointer (some ⟨b1, 3, none⟩)) (x_fieldAddr (o := 0) (off := 3) Try.underlying26 rfl ty24 rfl rfl) rfl ?_
  refine W_v (.slice A0_2 a0.Rows.length c0_2) (x_load (S.blk 0 rfl) ty24 rfl rfl) rfl ?_
  refine W_v (.int .i64 (a0.Rows.length : Int)) (x_len_slice (n := a0.Rows.length) Try.underlying24 rfl) rfl ?_
  refine W_v (.int .i64 (IntKind.i64.wrap ((a0.Kids.length : Int) + (a0.Rows.length : Int)))) (x_ibin rfl rfl rfl rfl) rfl ?_
  refine W_v (.int .i64 (IntKind.i64.wrap ((a0.Kids.length : Int) + (a0.Rows.length : Int)))) (x_assign rfl) rfl ?_
  refine Wl_nil ?_
  refine tn ?_
  refine Wp_seq ?_
  refine Wp_seq ?_
  refine Wp_region_lit ?_
  refine W_v (.int .i64 0) (x_assign rfl) rfl ?_
  refine Wl_nil ?_
  refine tn ?_
  obtain ⟨o47, o47h, o47H⟩ := bindS H
  clear H
  refine Wp_blockJ (fun ρ w' => ∃ (x46 : Int), (x46) = o47 ∧ Agree ρ [(3, .int .i64 x46)] ∧ Ext w w' ∧ St w' M F []) ?_ ?_
  · skip
    refine Wp_loop (fun n ρ w' => ∃ (x32 : Int) (x33 : Int), ferrymanlaw13_large_l0 a0 n x32 x33 = some o47 ∧ Agree ρ [(1, .pointer (some ⟨b1, 0, none⟩)), (3, .int .i64 x32), (4, .int .i64 x33)] ∧ Ext w w' ∧ St w' M F [Blk b1 (.cells #[.bool a0.Leaf, .slice A0_0 a0.Keys.length c0_0, .slice A0_1 a0.Kids.length c0_1, .slice A0_2 a0.Rows.length c0_2] 26 (0, 0))]) k ?_ ?_
    · skip
      exact ⟨(IntKind.i64.wrap ((a0.Kids.length : Int) + (a0.Rows.length : Int))), (0 : Int), o47h, ⟨rfl, rfl, rfl, trivial⟩, E, S.pick [0] (by decide)⟩
    · intro n
      rintro ρ w48 ⟨x32, x33, H, hρ, E, S⟩
      rw [agree_eta hρ]
      clear hρ
      cases n with
      | zero => cases H
      | succ k =>
        rw [ferrymanlaw13_large_l0.eq_2] at H
        refine Wp_seq ?_
        refine Wp_seq ?_
        refine Wp_region_lit ?_
        refine W_v (.int .i64 x33) (x_move rfl) rfl ?_
        refine W_v (.pointer (some ⟨b1, 1, none⟩)) (x_fieldAddr (o := 0) (off := 1) Try.underlying26 rfl ty22 rfl rfl) rfl ?_
        refine W_v (.slice A0_0 a0.Keys.length c0_0) (x_load (S.blk 0 rfl) ty22 rfl rfl) rfl ?_
        refine W_v (.int .i64 (a0.Keys.length : Int)) (x_len_slice (n := a0.Keys.length) Try.underlying22 rfl) rfl ?_
        refine W_v (.bool (decide (x33 < (a0.Keys.length : Int)))) (x_ibin rfl rfl rfl rfl) rfl ?_
        refine W_v (.bool (decide (x33 < (a0.Keys.length : Int)))) (x_move rfl) rfl ?_
        refine Wl_cutN 3 (fun ρ w' => Agree ρ [(1, .pointer (some ⟨b1, 0, none⟩)), (3, .int .i64 x32), (4, .int .i64 x33), (20, .bool ((decide (x33 < (a0.Keys.length : Int))) && (decide (x32 < (3000 : Int)))))] ∧ w48 = w') ?_ ?_
        · rcases boolCases (decide (x33 < (a0.Keys.length : Int))) with hb49 | hb49
          · skip
            refine W_no (skT hb49) rfl ?_
            refine W_no (skT hb49) rfl ?_
            refine W_v (.bool false) (x_pick (k := false) (congrArg Value.bool hb49) rfl) rfl ?_
            refine Wl_nil ?_
            exact ⟨⟨rfl, rfl, rfl, (by first | rfl | (rw [hb49]; rfl) | (simp only [hb49]; rfl)), trivial⟩, rfl⟩
          · skip
            refine W_yes (congrArg some hb49) ?_
            refine W_v (.int .i64 x32) (x_move rfl) rfl ?_
            refine W_yes (congrArg some hb49) ?_
            refine W_v (.bool (decide (x32 < (3000 : Int)))) (x_ibin rfl rfl rfl rfl) rfl ?_
            refine W_v (.bool (decide (x32 < (3000 : Int)))) (x_pick (k := true) (congrArg Value.bool hb49) rfl) rfl ?_
            refine Wl_nil ?_
            exact ⟨⟨rfl, rfl, rfl, (by first | rfl | (rw [hb49]; rfl) | (simp only [hb49]; rfl)), trivial⟩, rfl⟩
        rintro ρ _ ⟨hρ, rfl⟩
        rw [agree_eta hρ]
        clear hρ
        refine Wl_nil ?_
        refine tn ?_
        rcases iteS H with ⟨hb50, H⟩ | ⟨hb50, H⟩
        · refine Wp_cond_true (congrArg Value.bool hb50) ?_
          refine Wp_skip ?_
          refine tn ?_
          refine Wp_seq ?_
          refine Wp_block ?_
          refine Wp_region_lit ?_
          refine W_v (.int .i64 x32) (x_move rfl) rfl ?_
          refine W_v (.int .i64 (IntKind.i64.wrap (x32 + (1 : Int)))) (x_ibin rfl rfl rfl rfl) rfl ?_
          refine W_v (.pointer (some ⟨b1, 1, none⟩)) (x_fieldAddr (o := 0) (off := 1) Try.underlying26 rfl ty22 rfl rfl) rfl ?_
          refine W_v (.slice A0_0 a0.Keys.length c0_0) (x_load (S.blk 0 rfl) ty22 rfl rfl) rfl ?_
          refine W_v (.int .i64 x33) (x_move rfl) rfl ?_
          obtain ⟨⟨p51, p52⟩, H⟩ := chkS H
          obtain ⟨b53, o54, cs55, _, _, ee60, hb56, vs57, hR58, hc59⟩ := SlW.at' hr0_0 p51 p52
          obtain rfl : vs57 = _ := hR58
          refine W_v (.pointer (some ⟨b53, o54 + x33.toNat * 1, none⟩)) (x_indexAddr Try.underlying22 ty9 (slA ee60) rfl p51 p52) rfl ?_
          refine W_v (.string (bs (rd a0.Keys x33))) (x_load (S.frz hb56) ty9 rfl (hc59 0 _ rfl)) rfl ?_
          refine W_v (.int .i64 ((rd a0.Keys x33).length : Int)) (x_len_str Try.underlying9 rfl) rfl ?_
          refine W_v (.int .i64 (IntKind.i64.wrap ((IntKind.i64.wrap (x32 + (1 : Int))) + ((rd a0.Keys x33).length : Int)))) (x_ibin rfl rfl rfl rfl) rfl ?_
          refine W_v (.int .i64 (IntKind.i64.wrap ((IntKind.i64.wrap (x32 + (1 : Int))) + ((rd a0.Keys x33).length : Int)))) (x_assign rfl) rfl ?_
          refine Wl_nil ?_
          refine bn ?_
          refine tn ?_
          refine Wp_region_lit ?_
          refine W_v (.int .i64 x33) (x_move rfl) rfl ?_
          refine W_v (.int .i64 (IntKind.i64.wrap (x33 + (1 : Int)))) (x_ibin rfl rfl rfl rfl) rfl ?_
          refine W_v (.int .i64 (IntKind.i64.wrap (x33 + (1 : Int)))) (x_assign rfl) rfl ?_
          refine Wl_nil ?_
          refine tn ?_
          exact ⟨k, Nat.lt_succ_self k, ⟨(IntKind.i64.wrap ((IntKind.i64.wrap (x32 + (1 : Int))) + ((rd a0.Keys x33).length : Int))), (IntKind.i64.wrap (x33 + (1 : Int))), H, ⟨rfl, rfl, rfl, trivial⟩, E, S.pick [0] (by decide)⟩⟩
        refine Wp_cond_false (congrArg Value.bool hb50) ?_
        refine Wp_exit ?_
        refine tx (tx (bsm (?_)))
        refine tn ?_
        exact ⟨x32, Option.some.inj H, ⟨rfl, trivial⟩, E, S.pick [] (by decide)⟩
  clear o47h
  rintro ρ w61 ⟨x46, rfl, hρ, E, S⟩
  rw [agree_eta hρ]
  clear hρ
  have H := o47H
  clear o47H
  refine tn ?_
  refine Wp_seq ?_
  refine Wp_region_lit ?_
  refine W_v (.int .i64 x46) (x_move rfl) rfl ?_
  refine W_v (.bool (decide (x46 ≥ (3000 : Int)))) (x_ibin rfl rfl rfl rfl) rfl ?_
  refine W_v (.bool (decide (x46 ≥ (3000 : Int)))) (x_assign rfl) rfl ?_
  refine Wl_nil ?_
  refine tn ?_
  refine Wp_ret ?_
  obtain rfl := Option.some.inj H
  exact ⟨_, _, _, fun w1 e1 => run_resR (vs := [.bool (decide (x46 ≥ (3000 : Int)))]) (FA.cons (rfl) (FA.nil)), HM, E, S.pick [] (by decide), ⟨rfl, rfl⟩⟩
/-! ### internal/bytealg.CompareString: function 50 -/
def internal_bytealg_CompareString (k : Nat) (a0 : Str) (a1 : Str) : Option (Int) :=
  some (Lib.compareBytes a0 a1)
set_option maxHeartbeats 2000000 in
theorem internal_bytealg_CompareString.mono {k : Nat} {a0 : Str} {a1 : Str} : OLe (internal_bytealg_CompareString k a0 a1) (internal_bytealg_CompareString (k + 1) a0 a1) := by
  unfold internal_bytealg_CompareString
  repeat' (first | with_reducible exact OLe.none | with_reducible exact OLe.some | with_reducible refine OLe.ite ?_ ?_ | with_reducible refine OLe.bind ?_ (fun _ => ?_) | refine OLe.bind ?_ (fun _ => ?_) | refine OLe.ite ?_ ?_ | refine OLe.elim (fun _ => ?_) (fun _ => ?_) | split)
set_option maxHeartbeats 1000000 in
set_option maxRecDepth 100000 in
theorem internal_bytealg_CompareString.con (k : Nat) (M : Hp) (a0 : Str) (a1 : Str) (r : Int)  (h : internal_bytealg_CompareString k a0 a1 = some r) : Con Try.prog 50 #[.string (bs a0), .string (bs a1)] M [] (fun v M' Γ' => v = .int .i64 r ∧ Γ' = []) := by
  refine con_of_wp Try.func50 rfl Try.ntmps50 Try.results50 rfl ?_
  intro w F rn S hrn
  have E := Ext.refl w
  have HM := Hp.le_refl M
  have H := h
  unfold internal_bytealg_CompareString at H
  refine Wp_seq ?_
  refine Wp_region_lit ?_
  refine W_v (.int .i64 0) (x_assign rfl) rfl ?_
  refine Wl_nil ?_
  refine tn ?_
  refine Wp_seq ?_
  refine Wp_region_lit ?_
  refine W_v (.string (bs a0)) (x_move rfl) rfl ?_
  refine W_v (.string (bs a1)) (x_move rfl) rfl ?_
  refine W_v (.int .i64 (Lib.compareBytes a0 a1)) (x_cmp cmp54 rfl rfl) rfl ?_
  refine W_v (.int .i64 (Lib.compareBytes a0 a1)) (x_assign rfl) rfl ?_
  refine Wl_nil ?_
  refine tn ?_
  refine Wp_ret ?_
  obtain rfl := Option.some.inj H
  exact ⟨_, _, _, fun w1 e1 => run_resR (vs := [.int .i64 (Lib.compareBytes a0 a1)]) (FA.cons (rfl) (FA.nil)), HM, E, S.pick [] (by decide), ⟨rfl, rfl⟩⟩
/-! ### strings.Compare: function 46 -/
def strings_Compare (k : Nat) (a0 : Str) (a1 : Str) : Option (Int) :=
  (Option.bind (internal_bytealg_CompareString k a0 a1) (fun t1 => some t1))
set_option maxHeartbeats 2000000 in
theorem strings_Compare.mono {k : Nat} {a0 : Str} {a1 : Str} : OLe (strings_Compare k a0 a1) (strings_Compare (k + 1) a0 a1) := by
  unfold strings_Compare
  repeat' (first | with_reducible exact OLe.none | with_reducible exact OLe.some | with_reducible refine OLe.ite ?_ ?_ | with_reducible refine OLe.bind ?_ (fun _ => ?_) | with_reducible exact internal_bytealg_CompareString.mono | refine OLe.bind ?_ (fun _ => ?_) | refine OLe.ite ?_ ?_ | refine OLe.elim (fun _ => ?_) (fun _ => ?_) | split)
set_option maxHeartbeats 1000000 in
set_option maxRecDepth 100000 in
theorem strings_Compare.con (k : Nat) (M : Hp) (a0 : Str) (a1 : Str) (r : Int)  (h : strings_Compare k a0 a1 = some r) : Con Try.prog 46 #[.string (bs a0), .string (bs a1)] M [] (fun v M' Γ' => v = .int .i64 r ∧ Γ' = []) := by
  refine con_of_wp Try.func46 rfl Try.ntmps46 Try.results46 rfl ?_
  intro w F rn S hrn
  have E := Ext.refl w
  have HM := Hp.le_refl M
  have H := h
  unfold strings_Compare at H
  refine Wp_seq ?_
  refine Wp_region_lit ?_
  refine W_v (.int .i64 0) (x_assign rfl) rfl ?_
  refine Wl_nil ?_
  refine tn ?_
  refine Wp_seq ?_
  refine Wp_region_lit ?_
  refine W_v (.string (bs a0)) (x_move rfl) rfl ?_
  refine W_v (.string (bs a1)) (x_move rfl) rfl ?_
  obtain ⟨t1, ht2, H⟩ := bindS H
  refine W_callF fn50 (internal_bytealg_CompareString.con k M a0 a1 t1  ht2) S rfl rfl (by rintro _ _ _ ⟨_, rfl⟩; exact flat_nil) ?_
  rintro _ w3 _ Γ' E' S ⟨rfl, rfl⟩
  replace E := E.trans E'
  clear E'
  refine W_v (.int .i64 t1) (x_assign rfl) rfl ?_
  refine Wl_nil ?_
  refine tn ?_
  refine Wp_ret ?_
  obtain rfl := Option.some.inj H
  exact ⟨_, _, _, fun w1 e1 => run_resR (vs := [.int .i64 t1]) (FA.cons (rfl) (FA.nil)), HM, E, S.pick [] (by decide), ⟨rfl, rfl⟩⟩
/-! ### ferryman/text.Compare: function 33 -/
def text_Compare (k : Nat) (a0 : Str) (a1 : Str) : Option (Int) :=
  (Option.bind (strings_Compare k a0 a1) (fun t1 => some t1))
set_option maxHeartbeats 2000000 in
theorem text_Compare.mono {k : Nat} {a0 : Str} {a1 : Str} : OLe (text_Compare k a0 a1) (text_Compare (k + 1) a0 a1) := by
  unfold text_Compare
  repeat' (first | with_reducible exact OLe.none | with_reducible exact OLe.some | with_reducible refine OLe.ite ?_ ?_ | with_reducible refine OLe.bind ?_ (fun _ => ?_) | with_reducible exact strings_Compare.mono | refine OLe.bind ?_ (fun _ => ?_) | refine OLe.ite ?_ ?_ | refine OLe.elim (fun _ => ?_) (fun _ => ?_) | split)
set_option maxHeartbeats 1000000 in
set_option maxRecDepth 100000 in
theorem text_Compare.con (k : Nat) (M : Hp) (a0 : Str) (a1 : Str) (r : Int)  (h : text_Compare k a0 a1 = some r) : Con Try.prog 33 #[.string (bs a0), .string (bs a1)] M [] (fun v M' Γ' => v = .int .i64 r ∧ Γ' = []) := by
  refine con_of_wp Try.func33 rfl Try.ntmps33 Try.results33 rfl ?_
  intro w F rn S hrn
  have E := Ext.refl w
  have HM := Hp.le_refl M
  have H := h
  unfold text_Compare at H
  refine Wp_seq ?_
  refine Wp_region_lit ?_
  refine W_v (.int .i64 0) (x_assign rfl) rfl ?_
  refine Wl_nil ?_
  refine tn ?_
  refine Wp_seq ?_
  refine Wp_region_lit ?_
  refine W_v (.string (bs a0)) (x_move rfl) rfl ?_
  refine W_v (.string (bs a1)) (x_move rfl) rfl ?_
  obtain ⟨t1, ht2, H⟩ := bindS H
  refine W_callF fn46 (strings_Compare.con k M a0 a1 t1  ht2) S rfl rfl (by rintro _ _ _ ⟨_, rfl⟩; exact flat_nil) ?_
  rintro _ w3 _ Γ' E' S ⟨rfl, rfl⟩
  replace E := E.trans E'
  clear E'
  refine W_v (.int .i64 t1) (x_assign rfl) rfl ?_
  refine Wl_nil ?_
  refine tn ?_
  refine Wp_ret ?_
  obtain rfl := Option.some.inj H
  exact ⟨_, _, _, fun w1 e1 => run_resR (vs := [.int .i64 t1]) (FA.cons (rfl) (FA.nil)), HM, E, S.pick [] (by decide), ⟨rfl, rfl⟩⟩
/-! ### ferryman/fork.May: function 11 -/
def fork_May_l0 (a0 : fork_Node) : Nat → Int → Option ((Bool) ⊕ (Unit))
  | 0, _ => none
  | k + 1, x214 => (if (decide (x214 < (a0.Keys.length : Int))) = true then (Option.bind (α := Bool) (if (decide (x214 > (0 : Int))) = true then (if 0 ≤ (IntKind.i64.wrap (x214 - (1 : Int))) ∧ (IntKind.i64.wrap (x214 - (1 : Int))) < (a0.Keys.length : Int) then (if 0 ≤ x214 ∧ x214 < (a0.Keys.length : Int) then (Option.bind (text_Compare k (rd a0.Keys (IntKind.i64.wrap (x214 - (1 : Int)))) (rd a0.Keys x214)) (fun t420 => some ((decide (t420 ≥ (0 : Int)))))) else none) else none) else some (false)) (fun x398 => (if x398 = true then some (.inl false) else fork_May_l0 a0 k (IntKind.i64.wrap (x214 + (1 : Int)))))) else some (.inr ()))
set_option maxHeartbeats 2000000 in
theorem fork_May_l0.mono {a0 : fork_Node} : ∀ {k : Nat} {x0}, OLe (fork_May_l0 a0 k x0) (fork_May_l0 a0 (k + 1) x0) := by
  intro k
  induction k with
  | zero => intros; exact OLe.none
  | succ k ih =>
    intros
    rw [fork_May_l0.eq_2, fork_May_l0.eq_2]
    repeat' (first | with_reducible exact OLe.none | with_reducible exact OLe.some | with_reducible refine OLe.ite ?_ ?_ | with_reducible refine OLe.bind ?_ (fun _ => ?_) | with_reducible exact text_Compare.mono | exact ih | refine OLe.bind ?_ (fun _ => ?_) | refine OLe.ite ?_ ?_ | refine OLe.elim (fun _ => ?_) (fun _ => ?_) | split)
def fork_May (k : Nat) (a0 : fork_Node) : Option (Bool) :=
  (Option.bind (fork_May_l0 a0 k (0 : Int)) (fun o319o => Sum.elim (fun r' => some r') (fun _ => (if a0.Leaf = true then some (((a0.Rows.length : Int) == (a0.Keys.length : Int)) && ((a0.Kids.length : Int) == (0 : Int))) else some (((a0.Kids.length : Int) == (IntKind.i64.wrap ((a0.Keys.length : Int) + (1 : Int)))) && ((a0.Rows.length : Int) == (0 : Int))))) o319o))
set_option maxHeartbeats 2000000 in
theorem fork_May.mono {k : Nat} {a0 : fork_Node} : OLe (fork_May k a0) (fork_May (k + 1) a0) := by
  unfold fork_May
  repeat' (first | with_reducible exact OLe.none | with_reducible exact OLe.some | with_reducible refine OLe.ite ?_ ?_ | with_reducible refine OLe.bind ?_ (fun _ => ?_) | with_reducible exact fork_May_l0.mono | refine OLe.bind ?_ (fun _ => ?_) | refine OLe.ite ?_ ?_ | refine OLe.elim (fun _ => ?_) (fun _ => ?_) | split)
set_option maxHeartbeats 1000000 in
set_option maxRecDepth 100000 in
theorem fork_May.con (k : Nat) (M : Hp) (A0_0 : Option Addr) (c0_0 : Nat) (A0_1 : Option Addr) (c0_1 : Nat) (A0_2 : Option Addr) (c0_2 : Nat) (a0 : fork_Node) (r : Bool) (hr0_0 : SlR rStr M (.slice A0_0 a0.Keys.length c0_0) a0.Keys) (hr0_1 : SlR (rInt .i64) M (.slice A0_1 a0.Kids.length c0_1) a0.Kids) (hr0_2 : SlR (rInt .u64) M (.slice A0_2 a0.Rows.length c0_2) a0.Rows) (h : fork_May k a0 = some r) : Con Try.prog 11 #[.agg #[.bool a0.Leaf, .slice A0_0 a0.Keys.length c0_0, .slice A0_1 a0.Kids.length c0_1, .slice A0_2 a0.Rows.length c0_2]] M [] (fun v M' Γ' => v = .bool r ∧ Γ' = []) := by
  refine con_of_wp Try.func11 rfl Try.ntmps11 Try.results11 rfl ?_
  intro w F rn S hrn
  have E := Ext.refl w
  have HM := Hp.le_refl M
  have H := h
  unfold fork_May at H
  refine Wp_seq ?_
  refine Wp_region_lit ?_
  refine W_box S #[.bool a0.Leaf, .slice A0_0 a0.Keys.length c0_0, .slice A0_1 a0.Kids.length c0_1, .slice A0_2 a0.Rows.length c0_2] rfl rfl rfl ?_
  intro b1 w2 E' S
  replace E := E.trans E'
  clear E'
  refine W_v (.bool false) (x_assign rfl) rfl ?_
  refine Wl_nil ?_
  refine tn ?_
  refine Wp_seq ?_
  refine Wp_seq ?_
  refine Wp_region_lit ?_
  refine W_v (.pointer (some ⟨b1, 1, none⟩)) (x_fieldAddr (o := 0) (off := 1) Try.underlying26 rfl ty22 rfl rfl) rfl ?_
  refine W_v (.slice A0_0 a0.Keys.length c0_0) (x_load (S.blk 0 rfl) ty22 rfl rfl) rfl ?_
  refine W_v (.int .i64 (a0.Keys.length : Int)) (x_len_slice (n := a0.Keys.length) Try.underlying22 rfl) rfl ?_
  refine W_v (.int .i64 0) (x_move rfl) rfl ?_
  refine Wl_nil ?_
  refine tn ?_
  obtain ⟨o319, o319h, o319H⟩ := bindS H
  clear H
  refine Wp_blockJ (fun ρ w' => .inr () = o319 ∧ Agree ρ [(1, .pointer (some ⟨b1, 0, none⟩))] ∧ Ext w w' ∧ St w' M F [Blk b1 (.cells #[.bool a0.Leaf, .slice A0_0 a0.Keys.length c0_0, .slice A0_1 a0.Kids.length c0_1, .slice A0_2 a0.Rows.length c0_2] 26 (0, 0))]) ?_ ?_
  · skip
    refine Wp_loop (fun n ρ w' => ∃ (x214 : Int), fork_May_l0 a0 n x214 = some o319 ∧ Agree ρ [(1, .pointer (some ⟨b1, 0, none⟩)), (6, .int .i64 (a0.Keys.length : Int)), (7, .int .i64 x214)] ∧ Ext w w' ∧ St w' M F [Blk b1 (.cells #[.bool a0.Leaf, .slice A0_0 a0.Keys.length c0_0, .slice A0_1 a0.Kids.length c0_1, .slice A0_2 a0.Rows.length c0_2] 26 (0, 0))]) k ?_ ?_
    · skip
      exact ⟨(0 : Int), o319h, ⟨rfl, rfl, rfl, trivial⟩, E, S.pick [0] (by decide)⟩
    · intro n
      rintro ρ w320 ⟨x214, H, hρ, E, S⟩
      rw [agree_eta hρ]
      clear hρ
      cases n with
      | zero => cases H
      | succ k =>
        rw [fork_May_l0.eq_2] at H
        refine Wp_seq ?_
        refine Wp_region_lit ?_
        refine W_v (.bool (decide (x214 < (a0.Keys.length : Int)))) (x_ibin rfl rfl rfl rfl) rfl ?_
        refine Wl_nil ?_
        refine tn ?_
        refine Wp_seq ?_
        rcases iteS H with ⟨hb321, H⟩ | ⟨hb321, H⟩
        · refine Wp_cond_true (congrArg Value.bool hb321) ?_
          refine Wp_skip ?_
          refine tn ?_
          refine Wp_seq ?_
          refine Wp_block ?_
          refine Wp_seq ?_
          refine Wp_region_lit ?_
          refine W_v (.int .i64 x214) (x_move rfl) rfl ?_
          refine W_v (.int .i64 x214) (x_assign rfl) rfl ?_
          refine Wl_nil ?_
          refine tn ?_
          refine Wp_seq ?_
          refine Wp_region_any (S := fun w' => ∃ Mx, M.le Mx ∧ St w' Mx F [Blk b1 (.cells #[.bool a0.Leaf, .slice A0_0 a0.Keys.length c0_0, .slice A0_1 a0.Kids.length c0_1, .slice A0_2 a0.Rows.length c0_2] 26 (0, 0))]) mixed ?_
          intro w372 hw373 E'
          replace S := S.heap hw373
          replace E := E.trans E'
          clear E'
          refine Wa_take (i := 0) rfl (by kernel_rfl) rfl rfl (.int .i64 x214) rfl (fun w' h' => x_move rfl) (⟨M, Hp.le_refl M, S.pick [0] (by decide)⟩) ?_
          refine Wa_take (i := 1) rfl (by kernel_rfl) rfl rfl (.bool (decide (x214 > (0 : Int)))) rfl (fun w' h' => x_ibin rfl rfl rfl rfl) (⟨M, Hp.le_refl M, S.pick [0] (by decide)⟩) ?_
          refine Wa_take (i := 2) rfl (by kernel_rfl) rfl rfl (.bool (decide (x214 > (0 : Int)))) rfl (fun w' h' => x_move rfl) (⟨M, Hp.le_refl M, S.pick [0] (by decide)⟩) ?_
          obtain ⟨o399, o399h, o399H⟩ := bindS H
          clear H
          refine Wa_join (fun ρ w' => ∃ (x398 : Bool), (x398) = o399 ∧ Agree ρ [(1, .pointer (some ⟨b1, 0, none⟩)), (6, .int .i64 (a0.Keys.length : Int)), (7, .int .i64 x214), (26, .bool x398)] ∧ Ext w w' ∧ St w' M F [Blk b1 (.cells #[.bool a0.Leaf, .slice A0_0 a0.Keys.length c0_0, .slice A0_1 a0.Kids.length c0_1, .slice A0_2 a0.Rows.length c0_2] 26 (0, 0))]) 0 (Ls 17 [0, 1, 2, 3, 4, 5, 6, 7, 8, 9, 10, 11, 12, 13, 14, 15, 16]) ?_ ?_
          rotate_left
          · intro hrest
            have H := o399h
            clear o399h o399H
            rcases iteS H with ⟨hb397, H⟩ | ⟨hb397, H⟩
            · skip
              refine Wa_takeY (i := 3) rfl (by kernel_rfl) rfl rfl (.pointer (some ⟨b1, 1, none⟩)) rfl (congrArg some hb397) (fun w' h' => x_fieldAddr (o := 0) (off := 1) Try.underlying26 rfl ty22 rfl rfl) (⟨M, Hp.le_refl M, S.pick [0] (by decide)⟩) ?_
              refine Wa_takeY (i := 4) rfl (by kernel_rfl) rfl rfl (.slice A0_0 a0.Keys.length c0_0) rfl (congrArg some hb397) (fun w' h' => x_load (cls_blk h' 0 rfl) ty22 rfl rfl) (⟨M, Hp.le_refl M, S.pick [0] (by decide)⟩) ?_
              refine Wa_takeY (i := 5) rfl (by kernel_rfl) rfl rfl (.int .i64 x214) rfl (congrArg some hb397) (fun w' h' => x_move rfl) (⟨M, Hp.le_refl M, S.pick [0] (by decide)⟩) ?_
              refine Wa_takeY (i := 6) rfl (by kernel_rfl) rfl rfl (.int .i64 (IntKind.i64.wrap (x214 - (1 : Int)))) rfl (congrArg some hb397) (fun w' h' => x_ibin rfl rfl rfl rfl) (⟨M, Hp.le_refl M, S.pick [0] (by decide)⟩) ?_
              obtain ⟨⟨p400, p401⟩, H⟩ := chkS H
              obtain ⟨b402, o403, cs404, _, _, ee409, hb405, vs406, hR407, hc408⟩ := SlW.at' hr0_0 p400 p401
              obtain rfl : vs406 = _ := hR407
              refine Wa_takeY (i := 7) rfl (by kernel_rfl) rfl rfl (.pointer (some ⟨b402, o403 + (IntKind.i64.wrap (x214 - (1 : Int))).toNat * 1, none⟩)) rfl (congrArg some hb397) (fun w' h' => x_indexAddr Try.underlying22 ty9 (slA ee409) rfl p400 p401) (⟨M, Hp.le_refl M, S.pick [0] (by decide)⟩) ?_
              refine Wa_takeY (i := 8) rfl (by kernel_rfl) rfl rfl (.string (bs (rd a0.Keys (IntKind.i64.wrap (x214 - (1 : Int)))))) rfl (congrArg some hb397) (fun w' h' => x_load (cls_frz h' hb405) ty9 rfl (hc408 0 _ rfl)) (⟨M, Hp.le_refl M, S.pick [0] (by decide)⟩) ?_
              refine Wa_takeY (i := 9) rfl (by kernel_rfl) rfl rfl (.pointer (some ⟨b1, 1, none⟩)) rfl (congrArg some hb397) (fun w' h' => x_fieldAddr (o := 0) (off := 1) Try.underlying26 rfl ty22 rfl rfl) (⟨M, Hp.le_refl M, S.pick [0] (by decide)⟩) ?_
              refine Wa_takeY (i := 10) rfl (by kernel_rfl) rfl rfl (.slice A0_0 a0.Keys.length c0_0) rfl (congrArg some hb397) (fun w' h' => x_load (cls_blk h' 0 rfl) ty22 rfl rfl) (⟨M, Hp.le_refl M, S.pick [0] (by decide)⟩) ?_
              refine Wa_takeY (i := 11) rfl (by kernel_rfl) rfl rfl (.int .i64 x214) rfl (congrArg some hb397) (fun w' h' => x_move rfl) (⟨M, Hp.le_refl M, S.pick [0] (by decide)⟩) ?_
              obtain ⟨⟨p410, p411⟩, H⟩ := chkS H
              obtain ⟨b412, o413, cs414, _, _, ee419, hb415, vs416, hR417, hc418⟩ := SlW.at' hr0_0 p410 p411
              obtain rfl : vs416 = _ := hR417
              refine Wa_takeY (i := 12) rfl (by kernel_rfl) rfl rfl (.pointer (some ⟨b412, o413 + x214.toNat * 1, none⟩)) rfl (congrArg some hb397) (fun w' h' => x_indexAddr Try.underlying22 ty9 (slA ee419) rfl p410 p411) (⟨M, Hp.le_refl M, S.pick [0] (by decide)⟩) ?_
              refine Wa_takeY (i := 13) rfl (by kernel_rfl) rfl rfl (.string (bs (rd a0.Keys x214))) rfl (congrArg some hb397) (fun w' h' => x_load (cls_frz h' hb415) ty9 rfl (hc418 0 _ rfl)) (⟨M, Hp.le_refl M, S.pick [0] (by decide)⟩) ?_
              refine Wa_solo (i := 14) rfl (by kernel_rfl) ?_
              refine W_yes (congrArg some hb397) ?_
              obtain ⟨t420, ht421, H⟩ := bindS H
              refine W_callF fn33 (text_Compare.con k M (rd a0.Keys (IntKind.i64.wrap (x214 - (1 : Int)))) (rd a0.Keys x214) t420  ht421) S rfl rfl (by rintro _ _ _ ⟨_, rfl⟩; exact flat_nil) ?_
              rintro _ w422 _ Γ' E' S ⟨rfl, rfl⟩
              replace E := E.trans E'
              clear E'
              refine Wl_nil (on_n ⟨⟨M, Hp.le_refl M, S.pick [0] (by decide)⟩, ?_⟩)
              refine Wa_takeY (i := 15) rfl (by kernel_rfl) rfl rfl (.bool (decide (t420 ≥ (0 : Int)))) rfl (congrArg some hb397) (fun w' h' => x_ibin rfl rfl rfl rfl) (⟨M, Hp.le_refl M, S.pick [0] (by decide)⟩) ?_
              refine Wa_take (i := 16) rfl (by kernel_rfl) rfl rfl (.bool (decide (t420 ≥ (0 : Int)))) rfl (fun w' h' => x_pick (k := true) (congrArg Value.bool hb397) rfl) (⟨M, Hp.le_refl M, S.pick [0] (by decide)⟩) ?_
              exact hrest _ _ ⟨(decide (t420 ≥ (0 : Int))), Option.some.inj H, ⟨rfl, rfl, rfl, rfl, trivial⟩, E, S.pick [0] (by decide)⟩
            · skip
              refine Wa_takeN (i := 3) rfl (by kernel_rfl) rfl rfl rfl (skT hb397) (⟨M, Hp.le_refl M, S.pick [0] (by decide)⟩) ?_
              refine Wa_takeN (i := 4) rfl (by kernel_rfl) rfl rfl rfl (skT hb397) (⟨M, Hp.le_refl M, S.pick [0] (by decide)⟩) ?_
              refine Wa_takeN (i := 5) rfl (by kernel_rfl) rfl rfl rfl (skT hb397) (⟨M, Hp.le_refl M, S.pick [0] (by decide)⟩) ?_
              refine Wa_takeN (i := 6) rfl (by kernel_rfl) rfl rfl rfl (skT hb397) (⟨M, Hp.le_refl M, S.pick [0] (by decide)⟩) ?_
              refine Wa_takeN (i := 7) rfl (by kernel_rfl) rfl rfl rfl (skT hb397) (⟨M, Hp.le_refl M, S.pick [0] (by decide)⟩) ?_
              refine Wa_takeN (i := 8) rfl (by kernel_rfl) rfl rfl rfl (skT hb397) (⟨M, Hp.le_refl M, S.pick [0] (by decide)⟩) ?_
              refine Wa_takeN (i := 9) rfl (by kernel_rfl) rfl rfl rfl (skT hb397) (⟨M, Hp.le_refl M, S.pick [0] (by decide)⟩) ?_
              refine Wa_takeN (i := 10) rfl (by kernel_rfl) rfl rfl rfl (skT hb397) (⟨M, Hp.le_refl M, S.pick [0] (by decide)⟩) ?_
              refine Wa_takeN (i := 11) rfl (by kernel_rfl) rfl rfl rfl (skT hb397) (⟨M, Hp.le_refl M, S.pick [0] (by decide)⟩) ?_
              refine Wa_takeN (i := 12) rfl (by kernel_rfl) rfl rfl rfl (skT hb397) (⟨M, Hp.le_refl M, S.pick [0] (by decide)⟩) ?_
              refine Wa_takeN (i := 13) rfl (by kernel_rfl) rfl rfl rfl (skT hb397) (⟨M, Hp.le_refl M, S.pick [0] (by decide)⟩) ?_
              refine Wa_takeN (i := 14) rfl (by kernel_rfl) rfl rfl rfl (skT hb397) (⟨M, Hp.le_refl M, S.pick [0] (by decide)⟩) ?_
              refine Wa_takeN (i := 15) rfl (by kernel_rfl) rfl rfl rfl (skT hb397) (⟨M, Hp.le_refl M, S.pick [0] (by decide)⟩) ?_
              refine Wa_take (i := 16) rfl (by kernel_rfl) rfl rfl (.bool false) rfl (fun w' h' => x_pick (k := false) (congrArg Value.bool hb397) rfl) (⟨M, Hp.le_refl M, S.pick [0] (by decide)⟩) ?_
              exact hrest _ _ ⟨false, Option.some.inj H, ⟨rfl, rfl, rfl, rfl, trivial⟩, E, S.pick [0] (by decide)⟩
          clear o399h
          rintro ρ w423 ⟨x398, rfl, hρ, E, S⟩
          rw [agree_eta hρ]
          clear hρ
          have H := o399H
          clear o399H
          refine Wa_done (by kernel_rfl) ?_
          refine tn ?_
          rcases iteS H with ⟨hb424, H⟩ | ⟨hb424, H⟩
          · refine Wp_cond_true (congrArg Value.bool hb424) ?_
            refine Wp_seq ?_
            refine Wp_region_lit ?_
            refine W_v (.bool false) (x_assign rfl) rfl ?_
            refine Wl_nil ?_
            refine tn ?_
            refine Wp_ret ?_
            refine br (tr (tr (br (tr (tr (?_))))))
            obtain rfl := Option.some.inj H
            have H := o319H
            replace H := elimL H
            obtain rfl := Option.some.inj H
            exact ⟨_, _, _, fun w1 e1 => run_resR (vs := [.bool false]) (FA.cons (rfl) (FA.nil)), HM, E, S.pick [] (by decide), ⟨rfl, rfl⟩⟩
          refine Wp_cond_false (congrArg Value.bool hb424) ?_
          refine Wp_skip ?_
          refine bn ?_
          refine tn ?_
          refine Wp_region_lit ?_
          refine W_v (.int .i64 (IntKind.i64.wrap (x214 + (1 : Int)))) (x_ibin rfl rfl rfl rfl) rfl ?_
          refine W_v (.int .i64 (IntKind.i64.wrap (x214 + (1 : Int)))) (x_move rfl) rfl ?_
          refine Wl_nil ?_
          refine tn ?_
          exact ⟨k, Nat.lt_succ_self k, ⟨(IntKind.i64.wrap (x214 + (1 : Int))), H, ⟨rfl, rfl, rfl, trivial⟩, E, S.pick [0] (by decide)⟩⟩
        refine Wp_cond_false (congrArg Value.bool hb321) ?_
        refine Wp_exit ?_
        refine tx (tx (bsm (?_)))
        refine tn ?_
        exact ⟨Option.some.inj H, ⟨rfl, trivial⟩, E, S.pick [0] (by decide)⟩
  clear o319h
  rintro ρ w425 ⟨rfl, hρ, E, S⟩
  rw [agree_eta hρ]
  clear hρ
  have H := o319H
  clear o319H
  replace H := elimR H
  refine tn ?_
  refine Wp_seq ?_
  refine Wp_seq ?_
  refine Wp_region_lit ?_
  refine W_v (.pointer (some ⟨b1, 0, none⟩)) (x_fieldAddr (o := 0) (off := 0) Try.underlying26 rfl ty4 rfl rfl) rfl ?_
  refine W_v (.bool a0.Leaf) (x_load (S.blk 0 rfl) ty4 rfl rfl) rfl ?_
  refine Wl_nil ?_
  refine tn ?_
  rcases iteS H with ⟨hb426, H⟩ | ⟨hb426, H⟩
  · refine Wp_cond_true (congrArg Value.bool hb426) ?_
    refine Wp_seq ?_
    refine Wp_region_lit ?_
    refine W_v (.pointer (some ⟨b1, 3, none⟩)) (x_fieldAddr (o := 0) (off := 3) Try.underlying26 rfl ty24 rfl rfl) rfl ?_
    refine W_v (.slice A0_2 a0.Rows.length c0_2) (x_load (S.blk 0 rfl) ty24 rfl rfl) rfl ?_
    refine W_v (.int .i64 (a0.Rows.length : Int)) (x_len_slice (n := a0.Rows.length) Try.underlying24 rfl) rfl ?_
    refine W_v (.pointer (some ⟨b1, 1, none⟩)) (x_fieldAddr (o := 0) (off := 1) Try.underlying26 rfl ty22 rfl rfl) rfl ?_
    refine W_v (.slice A0_0 a0.Keys.length c0_0) (x_load (S.blk 0 rfl) ty22 rfl rfl) rfl ?_
    refine W_v (.int .i64 (a0.Keys.length : Int)) (x_len_slice (n := a0.Keys.length) Try.underlying22 rfl) rfl ?_
    refine W_v (.bool ((a0.Rows.length : Int) == (a0.Keys.length : Int))) (x_ibin rfl rfl rfl rfl) rfl ?_
    refine W_v (.bool ((a0.Rows.length : Int) == (a0.Keys.length : Int))) (x_move rfl) rfl ?_
    refine Wl_cutN 5 (fun ρ w' => Agree ρ [(42, .bool (((a0.Rows.length : Int) == (a0.Keys.length : Int)) && ((a0.Kids.length : Int) == (0 : Int))))] ∧ w425 = w') ?_ ?_
    · rcases boolCases ((a0.Rows.length : Int) == (a0.Keys.length : Int)) with hb427 | hb427
      · skip
        refine W_no (skT hb427) rfl ?_
        refine W_no (skT hb427) rfl ?_
        refine W_no (skT hb427) rfl ?_
        refine W_no (skT hb427) rfl ?_
        refine W_v (.bool false) (x_pick (k := false) (congrArg Value.bool hb427) rfl) rfl ?_
        refine Wl_nil ?_
        exact ⟨⟨(by first | rfl | (rw [hb427]; rfl) | (simp only [hb427]; rfl)), trivial⟩, rfl⟩
      · skip
        refine W_yes (congrArg some hb427) ?_
        refine W_v (.pointer (some ⟨b1, 2, none⟩)) (x_fieldAddr (o := 0) (off := 2) Try.underlying26 rfl ty23 rfl rfl) rfl ?_
        refine W_yes (congrArg some hb427) ?_
        refine W_v (.slice A0_1 a0.Kids.length c0_1) (x_load (S.blk 0 rfl) ty23 rfl rfl) rfl ?_
        refine W_yes (congrArg some hb427) ?_
        refine W_v (.int .i64 (a0.Kids.length : Int)) (x_len_slice (n := a0.Kids.length) Try.underlying23 rfl) rfl ?_
        refine W_yes (congrArg some hb427) ?_
        refine W_v (.bool ((a0.Kids.length : Int) == (0 : Int))) (x_ibin rfl rfl rfl rfl) rfl ?_
        refine W_v (.bool ((a0.Kids.length : Int) == (0 : Int))) (x_pick (k := true) (congrArg Value.bool hb427) rfl) rfl ?_
        refine Wl_nil ?_
        exact ⟨⟨(by first | rfl | (rw [hb427]; rfl) | (simp only [hb427]; rfl)), trivial⟩, rfl⟩
    rintro ρ _ ⟨hρ, rfl⟩
    rw [agree_eta hρ]
    clear hρ
    refine W_v (.bool (((a0.Rows.length : Int) == (a0.Keys.length : Int)) && ((a0.Kids.length : Int) == (0 : Int)))) (x_assign rfl) rfl ?_
    refine Wl_nil ?_
    refine tn ?_
    refine Wp_ret ?_
    refine tr (?_)
    obtain rfl := Option.some.inj H
    exact ⟨_, _, _, fun w1 e1 => run_resR (vs := [.bool (((a0.Rows.length : Int) == (a0.Keys.length : Int)) && ((a0.Kids.length : Int) == (0 : Int)))]) (FA.cons (rfl) (FA.nil)), HM, E, S.pick [] (by decide), ⟨rfl, rfl⟩⟩
  refine Wp_cond_false (congrArg Value.bool hb426) ?_
  refine Wp_skip ?_
  refine tn ?_
  refine Wp_seq ?_
  refine Wp_region_lit ?_
  refine W_v (.pointer (some ⟨b1, 2, none⟩)) (x_fieldAddr (o := 0) (off := 2) Try.underlying26 rfl ty23 rfl rfl) rfl ?_
  refine W_v (.slice A0_1 a0.Kids.length c0_1) (x_load (S.blk 0 rfl) ty23 rfl rfl) rfl ?_
  refine W_v (.int .i64 (a0.Kids.length : Int)) (x_len_slice (n := a0.Kids.length) Try.underlying23 rfl) rfl ?_
  refine W_v (.pointer (some ⟨b1, 1, none⟩)) (x_fieldAddr (o := 0) (off := 1) Try.underlying26 rfl ty22 rfl rfl) rfl ?_
  refine W_v (.slice A0_0 a0.Keys.length c0_0) (x_load (S.blk 0 rfl) ty22 rfl rfl) rfl ?_
  refine W_v (.int .i64 (a0.Keys.length : Int)) (x_len_slice (n := a0.Keys.length) Try.underlying22 rfl) rfl ?_
  refine W_v (.int .i64 (IntKind.i64.wrap ((a0.Keys.length : Int) + (1 : Int)))) (x_ibin rfl rfl rfl rfl) rfl ?_
  refine W_v (.bool ((a0.Kids.length : Int) == (IntKind.i64.wrap ((a0.Keys.length : Int) + (1 : Int))))) (x_ibin rfl rfl rfl rfl) rfl ?_
  refine W_v (.bool ((a0.Kids.length : Int) == (IntKind.i64.wrap ((a0.Keys.length : Int) + (1 : Int))))) (x_move rfl) rfl ?_
  refine Wl_cutN 5 (fun ρ w' => Agree ρ [(56, .bool (((a0.Kids.length : Int) == (IntKind.i64.wrap ((a0.Keys.length : Int) + (1 : Int)))) && ((a0.Rows.length : Int) == (0 : Int))))] ∧ w425 = w') ?_ ?_
  · rcases boolCases ((a0.Kids.length : Int) == (IntKind.i64.wrap ((a0.Keys.length : Int) + (1 : Int)))) with hb428 | hb428
    · skip
      refine W_no (skT hb428) rfl ?_
      refine W_no (skT hb428) rfl ?_
      refine W_no (skT hb428) rfl ?_
      refine W_no (skT hb428) rfl ?_
      refine W_v (.bool false) (x_pick (k := false) (congrArg Value.bool hb428) rfl) rfl ?_
      refine Wl_nil ?_
      exact ⟨⟨(by first | rfl | (rw [hb428]; rfl) | (simp only [hb428]; rfl)), trivial⟩, rfl⟩
    · skip
      refine W_yes (congrArg some hb428) ?_
      refine W_v (.pointer (some ⟨b1, 3, none⟩)) (x_fieldAddr (o := 0) (off := 3) Try.underlying26 rfl ty24 rfl rfl) rfl ?_
      refine W_yes (congrArg some hb428) ?_
      refine W_v (.slice A0_2 a0.Rows.length c0_2) (x_load (S.blk 0 rfl) ty24 rfl rfl) rfl ?_
      refine W_yes (congrArg some hb428) ?_
      refine W_v (.int .i64 (a0.Rows.length : Int)) (x_len_slice (n := a0.Rows.length) Try.underlying24 rfl) rfl ?_
      refine W_yes (congrArg some hb428) ?_
      refine W_v (.bool ((a0.Rows.length : Int) == (0 : Int))) (x_ibin rfl rfl rfl rfl) rfl ?_
      refine W_v (.bool ((a0.Rows.length : Int) == (0 : Int))) (x_pick (k := true) (congrArg Value.bool hb428) rfl) rfl ?_
      refine Wl_nil ?_
      exact ⟨⟨(by first | rfl | (rw [hb428]; rfl) | (simp only [hb428]; rfl)), trivial⟩, rfl⟩
  rintro ρ _ ⟨hρ, rfl⟩
  rw [agree_eta hρ]
  clear hρ
  refine W_v (.bool (((a0.Kids.length : Int) == (IntKind.i64.wrap ((a0.Keys.length : Int) + (1 : Int)))) && ((a0.Rows.length : Int) == (0 : Int)))) (x_assign rfl) rfl ?_
  refine Wl_nil ?_
  refine tn ?_
  refine Wp_ret ?_
  obtain rfl := Option.some.inj H
  exact ⟨_, _, _, fun w1 e1 => run_resR (vs := [.bool (((a0.Kids.length : Int) == (IntKind.i64.wrap ((a0.Keys.length : Int) + (1 : Int)))) && ((a0.Rows.length : Int) == (0 : Int)))]) (FA.cons (rfl) (FA.nil)), HM, E, S.pick [] (by decide), ⟨rfl, rfl⟩⟩
/-! ### ferryman/fork.Place$1: function 35 -/
def fork_Place_1 (k : Nat) (a0 : Str) (ac_0 : Str) : Option (Bool) :=
  (Option.bind (text_Compare k a0 ac_0) (fun t1 => some (decide (t1 < (0 : Int)))))
set_option maxHeartbeats 2000000 in
theorem fork_Place_1.mono {k : Nat} {a0 : Str} {ac_0 : Str} : OLe (fork_Place_1 k a0 ac_0) (fork_Place_1 (k + 1) a0 ac_0) := by
  unfold fork_Place_1
  repeat' (first | with_reducible exact OLe.none | with_reducible exact OLe.some | with_reducible refine OLe.ite ?_ ?_ | with_reducible refine OLe.bind ?_ (fun _ => ?_) | with_reducible exact text_Compare.mono | refine OLe.bind ?_ (fun _ => ?_) | refine OLe.ite ?_ ?_ | refine OLe.elim (fun _ => ?_) (fun _ => ?_) | split)
set_option maxHeartbeats 1000000 in
set_option maxRecDepth 100000 in
theorem fork_Place_1.con (k : Nat) (M : Hp) (a0 : Str) (ac_0 : Str) (bc_0 : Nat) (r : Bool)  (h : fork_Place_1 k a0 ac_0 = some r) : Con Try.prog 35 #[.string (bs a0), .pointer (some ⟨bc_0, 0, none⟩)] M [Blk bc_0 (.cells #[.string (bs ac_0)] 9 (0, 0))] (fun v M' Γ' => v = .bool r ∧ Γ' = [Blk bc_0 (.cells #[.string (bs ac_0)] 9 (0, 0))]) := by
  refine con_of_wp Try.func35 rfl Try.ntmps35 Try.results35 rfl ?_
  intro w F rn S hrn
  have E := Ext.refl w
  have HM := Hp.le_refl M
  have H := h
  unfold fork_Place_1 at H
  refine Wp_seq ?_
  refine Wp_region_lit ?_
  refine W_v (.bool false) (x_assign rfl) rfl ?_
  refine Wl_nil ?_
  refine tn ?_
  refine Wp_seq ?_
  refine Wp_region_lit ?_
  refine W_v (.string (bs a0)) (x_move rfl) rfl ?_
  refine W_v (.string (bs ac_0)) (x_load (S.blk 0 rfl) ty9 rfl rfl) rfl ?_
  obtain ⟨t1, ht2, H⟩ := bindS H
  refine W_callF fn33 (text_Compare.con k M a0 ac_0 t1  ht2) S rfl rfl (by rintro _ _ _ ⟨_, rfl⟩; exact flat_nil) ?_
  rintro _ w3 _ Γ' E' S ⟨rfl, rfl⟩
  replace E := E.trans E'
  clear E'
  refine W_v (.bool (decide (t1 < (0 : Int)))) (x_ibin rfl rfl rfl rfl) rfl ?_
  refine W_v (.bool (decide (t1 < (0 : Int)))) (x_assign rfl) rfl ?_
  refine Wl_nil ?_
  refine tn ?_
  refine Wp_ret ?_
  obtain rfl := Option.some.inj H
  exact ⟨_, _, _, fun w1 e1 => run_resR (vs := [.bool (decide (t1 < (0 : Int)))]) (FA.cons (rfl) (FA.nil)), HM, E, S.pick [0] (by decide), ⟨rfl, rfl⟩⟩
/-! ### ferryman/fork.halve[string]: function 34 -/
def fork_halve_string_Place_1_l0 (a0 : (List Str)) (a1_0 : Str) : Nat → Int → Int → Option ((Int))
  | 0, _, _ => none
  | k + 1, x99, x100 => (if (decide (x99 < x100)) = true then (Option.bind (α := Int × Int) (if 0 ≤ (IntKind.i64.wrap (Int.tdiv (IntKind.i64.wrap (x99 + x100)) (2 : Int))) ∧ (IntKind.i64.wrap (Int.tdiv (IntKind.i64.wrap (x99 + x100)) (2 : Int))) < (a0.length : Int) then (Option.bind (fork_Place_1 k (rd a0 (IntKind.i64.wrap (Int.tdiv (IntKind.i64.wrap (x99 + x100)) (2 : Int)))) a1_0) (fun t186 => (Option.bind (α := Int × Int) (if t186 = true then some ((IntKind.i64.wrap ((IntKind.i64.wrap (Int.tdiv (IntKind.i64.wrap (x99 + x100)) (2 : Int))) + (1 : Int))), x100) else some (x99, (IntKind.i64.wrap (Int.tdiv (IntKind.i64.wrap (x99 + x100)) (2 : Int))))) (fun ⟨x192, x193⟩ => some (x192, x193))))) else none) (fun ⟨x173, x174⟩ => fork_halve_string_Place_1_l0 a0 a1_0 k x173 x174)) else some (x99))
set_option maxHeartbeats 2000000 in
theorem fork_halve_string_Place_1_l0.mono {a0 : (List Str)} {a1_0 : Str} : ∀ {k : Nat} {x0 x1}, OLe (fork_halve_string_Place_1_l0 a0 a1_0 k x0 x1) (fork_halve_string_Place_1_l0 a0 a1_0 (k + 1) x0 x1) := by
  intro k
  induction k with
  | zero => intros; exact OLe.none
  | succ k ih =>
    intros
    rw [fork_halve_string_Place_1_l0.eq_2, fork_halve_string_Place_1_l0.eq_2]
    repeat' (first | with_reducible exact OLe.none | with_reducible exact OLe.some | with_reducible refine OLe.ite ?_ ?_ | with_reducible refine OLe.bind ?_ (fun _ => ?_) | with_reducible exact fork_Place_1.mono | exact ih | refine OLe.bind ?_ (fun _ => ?_) | refine OLe.ite ?_ ?_ | refine OLe.elim (fun _ => ?_) (fun _ => ?_) | split)
def fork_halve_string_Place_1 (k : Nat) (a0 : (List Str)) (a1_0 : Str) : Option (Int) :=
  (Option.bind (fork_halve_string_Place_1_l0 a0 a1_0 k (0 : Int) (a0.length : Int)) (fun x148 => some x148))
set_option maxHeartbeats 2000000 in
theorem fork_halve_string_Place_1.mono {k : Nat} {a0 : (List Str)} {a1_0 : Str} : OLe (fork_halve_string_Place_1 k a0 a1_0) (fork_halve_string_Place_1 (k + 1) a0 a1_0) := by
  unfold fork_halve_string_Place_1
  repeat' (first | with_reducible exact OLe.none | with_reducible exact OLe.some | with_reducible refine OLe.ite ?_ ?_ | with_reducible refine OLe.bind ?_ (fun _ => ?_) | with_reducible exact fork_halve_string_Place_1_l0.mono | refine OLe.bind ?_ (fun _ => ?_) | refine OLe.ite ?_ ?_ | refine OLe.elim (fun _ => ?_) (fun _ => ?_) | split)
set_option maxHeartbeats 1000000 in
set_option maxRecDepth 100000 in
theorem fork_halve_string_Place_1.con (k : Nat) (M : Hp) (A0 : Option Addr) (c0 : Nat) (a0 : (List Str)) (a1_0 : Str) (b1_0 : Nat) (r : Int) (hr0 : SlR rStr M (.slice A0 a0.length c0) a0) (h : fork_halve_string_Place_1 k a0 a1_0 = some r) : Con Try.prog 34 #[.slice A0 a0.length c0, .func (.func 35) #[] #[.pointer (some ⟨b1_0, 0, none⟩)]] M [Blk b1_0 (.cells #[.string (bs a1_0)] 9 (0, 0))] (fun v M' Γ' => v = .int .i64 r ∧ Γ' = [Blk b1_0 (.cells #[.string (bs a1_0)] 9 (0, 0))]) := by
  refine con_of_wp Try.func34 rfl Try.ntmps34 Try.results34 rfl ?_
  intro w F rn S hrn
  have E := Ext.refl w
  have HM := Hp.le_refl M
  have H := h
  unfold fork_halve_string_Place_1 at H
  refine Wp_seq ?_
  refine Wp_region_lit ?_
  refine W_v (.int .i64 0) (x_assign rfl) rfl ?_
  refine Wl_nil ?_
  refine tn ?_
  refine Wp_seq ?_
  refine Wp_region_lit ?_
  refine W_v (.slice A0 a0.length c0) (x_move rfl) rfl ?_
  refine W_v (.int .i64 (a0.length : Int)) (x_len_slice (n := a0.length) Try.underlying22 rfl) rfl ?_
  refine W_v (.int .i64 0) (x_assign rfl) rfl ?_
  refine W_v (.int .i64 (a0.length : Int)) (x_assign rfl) rfl ?_
  refine Wl_nil ?_
  refine tn ?_
  refine Wp_seq ?_
  obtain ⟨o149, o149h, o149H⟩ := bindS H
  clear H
  refine Wp_blockJ (fun ρ w' => ∃ (x148 : Int), (x148) = o149 ∧ Agree ρ [(5, .int .i64 x148)] ∧ Ext w w' ∧ St w' M F [Blk b1_0 (.cells #[.string (bs a1_0)] 9 (0, 0))]) ?_ ?_
  · skip
    refine Wp_loop (fun n ρ w' => ∃ (x99 : Int) (x100 : Int), fork_halve_string_Place_1_l0 a0 a1_0 n x99 x100 = some o149 ∧ Agree ρ [(0, .slice A0 a0.length c0), (1, .func (.func 35) #[] #[.pointer (some ⟨b1_0, 0, none⟩)]), (5, .int .i64 x99), (6, .int .i64 x100)] ∧ Ext w w' ∧ St w' M F [Blk b1_0 (.cells #[.string (bs a1_0)] 9 (0, 0))]) k ?_ ?_
    · skip
      exact ⟨(0 : Int), (a0.length : Int), o149h, ⟨rfl, rfl, rfl, rfl, trivial⟩, E, S.pick [0] (by decide)⟩
    · intro n
      rintro ρ w150 ⟨x99, x100, H, hρ, E, S⟩
      rw [agree_eta hρ]
      clear hρ
      cases n with
      | zero => cases H
      | succ k =>
        rw [fork_halve_string_Place_1_l0.eq_2] at H
        refine Wp_seq ?_
        refine Wp_seq ?_
        refine Wp_region_lit ?_
        refine W_v (.int .i64 x99) (x_move rfl) rfl ?_
        refine W_v (.int .i64 x100) (x_move rfl) rfl ?_
        refine W_v (.bool (decide (x99 < x100))) (x_ibin rfl rfl rfl rfl) rfl ?_
        refine Wl_nil ?_
        refine tn ?_
        rcases iteS H with ⟨hb151, H⟩ | ⟨hb151, H⟩
        · refine Wp_cond_true (congrArg Value.bool hb151) ?_
          refine Wp_skip ?_
          refine tn ?_
          obtain ⟨o175, o175h, o175H⟩ := bindS H
          refine Wp_cut (fun ρ w' => ∃ (x173 : Int) (x174 : Int), (x173, x174) = o175 ∧ Agree ρ [(0, .slice A0 a0.length c0), (1, .func (.func 35) #[] #[.pointer (some ⟨b1_0, 0, none⟩)]), (5, .int .i64 x173), (6, .int .i64 x174)] ∧ Ext w w' ∧ St w' M F [Blk b1_0 (.cells #[.string (bs a1_0)] 9 (0, 0))]) ?_ ?_
          · clear o175H
            have H := o175h
            clear o175h
            refine Wp_block ?_
            refine Wp_seq ?_
            refine Wp_region_lit ?_
            refine W_v (.int .i64 x99) (x_move rfl) rfl ?_
            refine W_v (.int .i64 x100) (x_move rfl) rfl ?_
            refine W_v (.int .i64 (IntKind.i64.wrap (x99 + x100))) (x_ibin rfl rfl rfl rfl) rfl ?_
            refine W_v (.int .i64 (IntKind.i64.wrap (Int.tdiv (IntKind.i64.wrap (x99 + x100)) (2 : Int)))) (x_quo rfl rfl (by decide)) rfl ?_
            refine W_v (.int .i64 (IntKind.i64.wrap (Int.tdiv (IntKind.i64.wrap (x99 + x100)) (2 : Int)))) (x_assign rfl) rfl ?_
            refine Wl_nil ?_
            refine tn ?_
            refine Wp_seq ?_
            refine Wp_region_lit ?_
            refine W_v (.func (.func 35) #[] #[.pointer (some ⟨b1_0, 0, none⟩)]) (x_move rfl) rfl ?_
            refine W_v (.slice A0 a0.length c0) (x_move rfl) rfl ?_
            refine W_v (.int .i64 (IntKind.i64.wrap (Int.tdiv (IntKind.i64.wrap (x99 + x100)) (2 : Int)))) (x_move rfl) rfl ?_
            obtain ⟨⟨p176, p177⟩, H⟩ := chkS H
            obtain ⟨b178, o179, cs180, _, _, ee185, hb181, vs182, hR183, hc184⟩ := SlW.at' hr0 p176 p177
            obtain rfl : vs182 = _ := hR183
            refine W_v (.pointer (some ⟨b178, o179 + (IntKind.i64.wrap (Int.tdiv (IntKind.i64.wrap (x99 + x100)) (2 : Int))).toNat * 1, none⟩)) (x_indexAddr Try.underlying22 ty9 (slA ee185) rfl p176 p177) rfl ?_
            refine W_v (.string (bs (rd a0 (IntKind.i64.wrap (Int.tdiv (IntKind.i64.wrap (x99 + x100)) (2 : Int)))))) (x_load (S.frz hb181) ty9 rfl (hc184 0 _ rfl)) rfl ?_
            obtain ⟨t186, ht187, H⟩ := bindS H
            refine W_callvF2 (fs := []) (cap := [.pointer (some ⟨b1_0, 0, none⟩)]) fn35 rfl (fork_Place_1.con k M (rd a0 (IntKind.i64.wrap (Int.tdiv (IntKind.i64.wrap (x99 + x100)) (2 : Int)))) a1_0 b1_0 t186  ht187) (Γ1 := [Blk b1_0 (.cells #[.string (bs a1_0)] 9 (0, 0))]) (Γ2 := []) S rfl rfl (by rintro _ _ _ ⟨rfl, rfl⟩; exact (flat_cons flat_blk flat_nil)) ?_
            rintro _ w188 _ Γ' E' S ⟨rfl, rfl⟩
            replace E := E.trans E'
            clear E'
            replace S : St w188 M F [Blk b1_0 (.cells #[.string (bs a1_0)] 9 (0, 0))] := S
            refine Wl_nil ?_
            refine tn ?_
            obtain ⟨o194, o194h, o194H⟩ := bindS H
            refine Wp_cut (fun ρ w' => ∃ (x192 : Int) (x193 : Int), (x192, x193) = o194 ∧ Agree ρ [(0, .slice A0 a0.length c0), (1, .func (.func 35) #[] #[.pointer (some ⟨b1_0, 0, none⟩)]), (5, .int .i64 x192), (6, .int .i64 x193)] ∧ Ext w w' ∧ St w' M F [Blk b1_0 (.cells #[.string (bs a1_0)] 9 (0, 0))]) ?_ ?_
            · clear o194H
              have H := o194h
              clear o194h
              rcases iteS H with ⟨hb195, H⟩ | ⟨hb195, H⟩
              · refine Wp_cond_true (congrArg Value.bool hb195) ?_
                refine Wp_region_lit ?_
                refine W_v (.int .i64 (IntKind.i64.wrap (Int.tdiv (IntKind.i64.wrap (x99 + x100)) (2 : Int)))) (x_move rfl) rfl ?_
                refine W_v (.int .i64 (IntKind.i64.wrap ((IntKind.i64.wrap (Int.tdiv (IntKind.i64.wrap (x99 + x100)) (2 : Int))) + (1 : Int)))) (x_ibin rfl rfl rfl rfl) rfl ?_
                refine W_v (.int .i64 (IntKind.i64.wrap ((IntKind.i64.wrap (Int.tdiv (IntKind.i64.wrap (x99 + x100)) (2 : Int))) + (1 : Int)))) (x_assign rfl) rfl ?_
                refine Wl_nil ?_
                refine tn ?_
                exact ⟨(IntKind.i64.wrap ((IntKind.i64.wrap (Int.tdiv (IntKind.i64.wrap (x99 + x100)) (2 : Int))) + (1 : Int))), x100, Option.some.inj H, ⟨rfl, rfl, rfl, rfl, trivial⟩, E, S.pick [0] (by decide)⟩
              refine Wp_cond_false (congrArg Value.bool hb195) ?_
              refine Wp_region_lit ?_
              refine W_v (.int .i64 (IntKind.i64.wrap (Int.tdiv (IntKind.i64.wrap (x99 + x100)) (2 : Int)))) (x_move rfl) rfl ?_
              refine W_v (.int .i64 (IntKind.i64.wrap (Int.tdiv (IntKind.i64.wrap (x99 + x100)) (2 : Int)))) (x_assign rfl) rfl ?_
              refine Wl_nil ?_
              refine tn ?_
              exact ⟨x99, (IntKind.i64.wrap (Int.tdiv (IntKind.i64.wrap (x99 + x100)) (2 : Int))), Option.some.inj H, ⟨rfl, rfl, rfl, rfl, trivial⟩, E, S.pick [0] (by decide)⟩
            clear o194h
            rintro ρ w196 ⟨x192, x193, rfl, hρ, E, S⟩
            rw [agree_eta hρ]
            clear hρ
            have H := o194H
            clear o194H
            refine bn ?_
            refine tn ?_
            exact ⟨x192, x193, Option.some.inj H, ⟨rfl, rfl, rfl, rfl, trivial⟩, E, S.pick [0] (by decide)⟩
          clear o175h
          rintro ρ w197 ⟨x173, x174, rfl, hρ, E, S⟩
          rw [agree_eta hρ]
          clear hρ
          have H := o175H
          clear o175H
          refine tn ?_
          exact ⟨k, Nat.lt_succ_self k, ⟨x173, x174, H, ⟨rfl, rfl, rfl, rfl, trivial⟩, E, S.pick [0] (by decide)⟩⟩
        refine Wp_cond_false (congrArg Value.bool hb151) ?_
        refine Wp_exit ?_
        refine tx (tx (bsm (?_)))
        refine tn ?_
        exact ⟨x99, Option.some.inj H, ⟨rfl, trivial⟩, E, S.pick [0] (by decide)⟩
  clear o149h
  rintro ρ w198 ⟨x148, rfl, hρ, E, S⟩
  rw [agree_eta hρ]
  clear hρ
  have H := o149H
  clear o149H
  refine tn ?_
  refine Wp_seq ?_
  refine Wp_region_lit ?_
  refine W_v (.int .i64 x148) (x_move rfl) rfl ?_
  refine W_v (.int .i64 x148) (x_assign rfl) rfl ?_
  refine Wl_nil ?_
  refine tn ?_
  refine Wp_ret ?_
  obtain rfl := Option.some.inj H
  exact ⟨_, _, _, fun w1 e1 => run_resR (vs := [.int .i64 x148]) (FA.cons (rfl) (FA.nil)), HM, E, S.pick [0] (by decide), ⟨rfl, rfl⟩⟩
/-! ### ferryman/fork.Place: function 12 -/
def fork_Place (k : Nat) (a0 : fork_Node) (a1 : Str) : Option (Int × Bool) :=
  (Option.bind (fork_May k a0) (fun t7 => (if (!t7) = true then some ((0 : Int), false) else (Option.bind (fork_halve_string_Place_1 k a0.Keys a1) (fun t11 => (Option.bind (α := Bool) (if (decide (t11 < (a0.Keys.length : Int))) = true then (if 0 ≤ t11 ∧ t11 < (a0.Keys.length : Int) then some ((sbin .eql (rd a0.Keys t11) a1)) else none) else some (false)) (fun x53 => some (t11, x53))))))))
set_option maxHeartbeats 2000000 in
theorem fork_Place.mono {k : Nat} {a0 : fork_Node} {a1 : Str} : OLe (fork_Place k a0 a1) (fork_Place (k + 1) a0 a1) := by
  unfold fork_Place
  repeat' (first | with_reducible exact OLe.none | with_reducible exact OLe.some | with_reducible refine OLe.ite ?_ ?_ | with_reducible refine OLe.bind ?_ (fun _ => ?_) | with_reducible exact fork_May.mono | with_reducible exact fork_halve_string_Place_1.mono | refine OLe.bind ?_ (fun _ => ?_) | refine OLe.ite ?_ ?_ | refine OLe.elim (fun _ => ?_) (fun _ => ?_) | split)
set_option maxHeartbeats 1000000 in
set_option maxRecDepth 100000 in
theorem fork_Place.con (k : Nat) (M : Hp) (A0_0 : Option Addr) (c0_0 : Nat) (A0_1 : Option Addr) (c0_1 : Nat) (A0_2 : Option Addr) (c0_2 : Nat) (a0 : fork_Node) (a1 : Str) (r : Int × Bool) (hr0_0 : SlR rStr M (.slice A0_0 a0.Keys.length c0_0) a0.Keys) (hr0_1 : SlR (rInt .i64) M (.slice A0_1 a0.Kids.length c0_1) a0.Kids) (hr0_2 : SlR (rInt .u64) M (.slice A0_2 a0.Rows.length c0_2) a0.Rows) (h : fork_Place k a0 a1 = some r) : Con Try.prog 12 #[.agg #[.bool a0.Leaf, .slice A0_0 a0.Keys.length c0_0, .slice A0_1 a0.Kids.length c0_1, .slice A0_2 a0.Rows.length c0_2], .string (bs a1)] M [] (fun v M' Γ' => v = .tuple #[.int .i64 r.1, .bool r.2] ∧ Γ' = []) := by
  refine con_of_wp Try.func12 rfl Try.ntmps12 Try.results12 rfl ?_
  intro w F rn S hrn
  have E := Ext.refl w
  have HM := Hp.le_refl M
  have H := h
  unfold fork_Place at H
  refine Wp_seq ?_
  refine Wp_region_lit ?_
  refine W_box S #[.bool a0.Leaf, .slice A0_0 a0.Keys.length c0_0, .slice A0_1 a0.Kids.length c0_1, .slice A0_2 a0.Rows.length c0_2] rfl rfl rfl ?_
  intro b1 w2 E' S
  replace E := E.trans E'
  clear E'
  refine W_box S #[.string (bs a1)] rfl rfl rfl ?_
  intro b4 w5 E' S
  replace E := E.trans E'
  clear E'
  refine W_v (.int .i64 0) (x_assign rfl) rfl ?_
  refine W_v (.bool false) (x_assign rfl) rfl ?_
  refine Wl_nil ?_
  refine tn ?_
  refine Wp_seq ?_
  refine Wp_seq ?_
  refine Wp_region_lit ?_
  refine W_v (.agg #[.bool a0.Leaf, .slice A0_0 a0.Keys.length c0_0, .slice A0_1 a0.Kids.length c0_1, .slice A0_2 a0.Rows.length c0_2]) (x_loadA (S.blk 1 rfl) ty26 rfl (sub_of_extract rfl) rfl rfl) rfl ?_
  obtain ⟨t7, ht8, H⟩ := bindS H
  refine W_callF fn11 (fork_May.con k M A0_0 c0_0 A0_1 c0_1 A0_2 c0_2 a0 t7 hr0_0 hr0_1 hr0_2 ht8) S rfl rfl (by rintro _ _ _ ⟨_, rfl⟩; exact flat_nil) ?_
  rintro _ w9 _ Γ' E' S ⟨rfl, rfl⟩
  replace E := E.trans E'
  clear E'
  refine W_v (.bool (!t7)) (x_not rfl) rfl ?_
  refine Wl_nil ?_
  refine tn ?_
  rcases iteS H with ⟨hb10, H⟩ | ⟨hb10, H⟩
  · refine Wp_cond_true (congrArg Value.bool hb10) ?_
    refine Wp_seq ?_
    refine Wp_region_lit ?_
    refine W_v (.int .i64 0) (x_assign rfl) rfl ?_
    refine W_v (.bool false) (x_assign rfl) rfl ?_
    refine Wl_nil ?_
    refine tn ?_
    refine Wp_ret ?_
    refine tr (?_)
    obtain rfl := Option.some.inj H
    exact ⟨_, _, _, fun w1 e1 => run_resR (vs := [.int .i64 0, .bool false]) (FA.cons (rfl) (FA.cons (rfl) (FA.nil))), HM, E, S.pick [] (by decide), ⟨rfl, rfl⟩⟩
  refine Wp_cond_false (congrArg Value.bool hb10) ?_
  refine Wp_skip ?_
  refine tn ?_
  refine Wp_seq ?_
  refine Wp_region_lit ?_
  refine W_v (.pointer (some ⟨b1, 1, none⟩)) (x_fieldAddr (o := 0) (off := 1) Try.underlying26 rfl ty22 rfl rfl) rfl ?_
  refine W_v (.slice A0_0 a0.Keys.length c0_0) (x_load (S.blk 1 rfl) ty22 rfl rfl) rfl ?_
  refine W_v (.func (.func 35) #[] #[.pointer (some ⟨b4, 0, none⟩)]) (x_makeFunc rfl) rfl ?_
  obtain ⟨t11, ht12, H⟩ := bindS H
  refine W_callF2 fn34 (fork_halve_string_Place_1.con k M A0_0 c0_0 a0.Keys a1 b4 t11 hr0_0 ht12) (Γ1 := [Blk b4 (.cells #[.string (bs a1)] 9 (0, 0))]) (Γ2 := [Blk b1 (.cells #[.bool a0.Leaf, .slice A0_0 a0.Keys.length c0_0, .slice A0_1 a0.Kids.length c0_1, .slice A0_2 a0.Rows.length c0_2] 26 (0, 0))]) S rfl rfl (by rintro _ _ _ ⟨rfl, rfl⟩; exact (flat_cons flat_blk flat_nil)) ?_
  rintro _ w13 _ Γ' E' S ⟨rfl, rfl⟩
  replace E := E.trans E'
  clear E'
  replace S : St w13 M F [Blk b4 (.cells #[.string (bs a1)] 9 (0, 0)), Blk b1 (.cells #[.bool a0.Leaf, .slice A0_0 a0.Keys.length c0_0, .slice A0_1 a0.Kids.length c0_1, .slice A0_2 a0.Rows.length c0_2] 26 (0, 0))] := S
  refine W_v (.int .i64 t11) (x_assign rfl) rfl ?_
  refine Wl_nil ?_
  refine tn ?_
  refine Wp_seq ?_
  refine Wp_region_any (S := fun w' => ∃ Mx, M.le Mx ∧ St w' Mx F [Blk b4 (.cells #[.string (bs a1)] 9 (0, 0)), Blk b1 (.cells #[.bool a0.Leaf, .slice A0_0 a0.Keys.length c0_0, .slice A0_1 a0.Kids.length c0_1, .slice A0_2 a0.Rows.length c0_2] 26 (0, 0))]) mixed ?_
  intro w40 hw41 E'
  replace S := S.heap hw41
  replace E := E.trans E'
  clear E'
  refine Wa_take (i := 0) rfl (by kernel_rfl) rfl rfl (.int .i64 t11) rfl (fun w' h' => x_move rfl) (⟨M, Hp.le_refl M, S.pick [0, 1] (by decide)⟩) ?_
  refine Wa_take (i := 1) rfl (by kernel_rfl) rfl rfl (.int .i64 t11) rfl (fun w' h' => x_move rfl) (⟨M, Hp.le_refl M, S.pick [0, 1] (by decide)⟩) ?_
  refine Wa_take (i := 2) rfl (by kernel_rfl) rfl rfl (.pointer (some ⟨b1, 1, none⟩)) rfl (fun w' h' => x_fieldAddr (o := 0) (off := 1) Try.underlying26 rfl ty22 rfl rfl) (⟨M, Hp.le_refl M, S.pick [0, 1] (by decide)⟩) ?_
  refine Wa_take (i := 3) rfl (by kernel_rfl) rfl rfl (.slice A0_0 a0.Keys.length c0_0) rfl (fun w' h' => x_load (cls_blk h' 1 rfl) ty22 rfl rfl) (⟨M, Hp.le_refl M, S.pick [0, 1] (by decide)⟩) ?_
  refine Wa_take (i := 4) rfl (by kernel_rfl) rfl rfl (.int .i64 (a0.Keys.length : Int)) rfl (fun w' h' => x_len_slice (n := a0.Keys.length) Try.underlying22 rfl) (⟨M, Hp.le_refl M, S.pick [0, 1] (by decide)⟩) ?_
  refine Wa_take (i := 5) rfl (by kernel_rfl) rfl rfl (.bool (decide (t11 < (a0.Keys.length : Int)))) rfl (fun w' h' => x_ibin rfl rfl rfl rfl) (⟨M, Hp.le_refl M, S.pick [0, 1] (by decide)⟩) ?_
  refine Wa_take (i := 6) rfl (by kernel_rfl) rfl rfl (.bool (decide (t11 < (a0.Keys.length : Int)))) rfl (fun w' h' => x_move rfl) (⟨M, Hp.le_refl M, S.pick [0, 1] (by decide)⟩) ?_
  obtain ⟨o54, o54h, o54H⟩ := bindS H
  clear H
  refine Wa_join (fun ρ w' => ∃ (x53 : Bool), (x53) = o54 ∧ Agree ρ [(4, .int .i64 t11), (5, .bool false), (28, .bool x53)] ∧ Ext w w' ∧ St w' M F [Blk b4 (.cells #[.string (bs a1)] 9 (0, 0)), Blk b1 (.cells #[.bool a0.Leaf, .slice A0_0 a0.Keys.length c0_0, .slice A0_1 a0.Kids.length c0_1, .slice A0_2 a0.Rows.length c0_2] 26 (0, 0))]) 1 (Ls 17 [0, 1, 2, 3, 4, 5, 6, 7, 8, 9, 10, 11, 12, 13, 14, 15]) ?_ ?_
  rotate_left
  · intro hrest
    have H := o54h
    clear o54h o54H
    rcases iteS H with ⟨hb52, H⟩ | ⟨hb52, H⟩
    · skip
      refine Wa_takeY (i := 7) rfl (by kernel_rfl) rfl rfl (.pointer (some ⟨b1, 1, none⟩)) rfl (congrArg some hb52) (fun w' h' => x_fieldAddr (o := 0) (off := 1) Try.underlying26 rfl ty22 rfl rfl) (⟨M, Hp.le_refl M, S.pick [0, 1] (by decide)⟩) ?_
      refine Wa_takeY (i := 8) rfl (by kernel_rfl) rfl rfl (.slice A0_0 a0.Keys.length c0_0) rfl (congrArg some hb52) (fun w' h' => x_load (cls_blk h' 1 rfl) ty22 rfl rfl) (⟨M, Hp.le_refl M, S.pick [0, 1] (by decide)⟩) ?_
      refine Wa_takeY (i := 9) rfl (by kernel_rfl) rfl rfl (.int .i64 t11) rfl (congrArg some hb52) (fun w' h' => x_move rfl) (⟨M, Hp.le_refl M, S.pick [0, 1] (by decide)⟩) ?_
      obtain ⟨⟨p55, p56⟩, H⟩ := chkS H
      obtain ⟨b57, o58, cs59, _, _, ee64, hb60, vs61, hR62, hc63⟩ := SlW.at' hr0_0 p55 p56
      obtain rfl : vs61 = _ := hR62
      refine Wa_takeY (i := 10) rfl (by kernel_rfl) rfl rfl (.pointer (some ⟨b57, o58 + t11.toNat * 1, none⟩)) rfl (congrArg some hb52) (fun w' h' => x_indexAddr Try.underlying22 ty9 (slA ee64) rfl p55 p56) (⟨M, Hp.le_refl M, S.pick [0, 1] (by decide)⟩) ?_
      refine Wa_takeY (i := 11) rfl (by kernel_rfl) rfl rfl (.string (bs (rd a0.Keys t11))) rfl (congrArg some hb52) (fun w' h' => x_load (cls_frz h' hb60) ty9 rfl (hc63 0 _ rfl)) (⟨M, Hp.le_refl M, S.pick [0, 1] (by decide)⟩) ?_
      refine Wa_takeY (i := 12) rfl (by kernel_rfl) rfl rfl (.string (bs a1)) rfl (congrArg some hb52) (fun w' h' => x_load (cls_blk h' 0 rfl) ty9 rfl rfl) (⟨M, Hp.le_refl M, S.pick [0, 1] (by decide)⟩) ?_
      refine Wa_takeY (i := 13) rfl (by kernel_rfl) rfl rfl (.bool (sbin .eql (rd a0.Keys t11) a1)) rfl (congrArg some hb52) (fun w' h' => x_sbin rfl rfl rfl) (⟨M, Hp.le_refl M, S.pick [0, 1] (by decide)⟩) ?_
      refine Wa_take (i := 14) rfl (by kernel_rfl) rfl rfl (.bool (sbin .eql (rd a0.Keys t11) a1)) rfl (fun w' h' => x_pick (k := true) (congrArg Value.bool hb52) rfl) (⟨M, Hp.le_refl M, S.pick [0, 1] (by decide)⟩) ?_
      refine Wa_take (i := 15) rfl (by kernel_rfl) rfl rfl (.int .i64 t11) rfl (fun w' h' => x_assign rfl) (⟨M, Hp.le_refl M, S.pick [0, 1] (by decide)⟩) ?_
      exact hrest _ _ ⟨(sbin .eql (rd a0.Keys t11) a1), Option.some.inj H, ⟨rfl, rfl, rfl, trivial⟩, E, S.pick [0, 1] (by decide)⟩
    · skip
      refine Wa_takeN (i := 7) rfl (by kernel_rfl) rfl rfl rfl (skT hb52) (⟨M, Hp.le_refl M, S.pick [0, 1] (by decide)⟩) ?_
      refine Wa_takeN (i := 8) rfl (by kernel_rfl) rfl rfl rfl (skT hb52) (⟨M, Hp.le_refl M, S.pick [0, 1] (by decide)⟩) ?_
      refine Wa_takeN (i := 9) rfl (by kernel_rfl) rfl rfl rfl (skT hb52) (⟨M, Hp.le_refl M, S.pick [0, 1] (by decide)⟩) ?_
      refine Wa_takeN (i := 10) rfl (by kernel_rfl) rfl rfl rfl (skT hb52) (⟨M, Hp.le_refl M, S.pick [0, 1] (by decide)⟩) ?_
      refine Wa_takeN (i := 11) rfl (by kernel_rfl) rfl rfl rfl (skT hb52) (⟨M, Hp.le_refl M, S.pick [0, 1] (by decide)⟩) ?_
      refine Wa_takeN (i := 12) rfl (by kernel_rfl) rfl rfl rfl (skT hb52) (⟨M, Hp.le_refl M, S.pick [0, 1] (by decide)⟩) ?_
      refine Wa_takeN (i := 13) rfl (by kernel_rfl) rfl rfl rfl (skT hb52) (⟨M, Hp.le_refl M, S.pick [0, 1] (by decide)⟩) ?_
      refine Wa_take (i := 14) rfl (by kernel_rfl) rfl rfl (.bool false) rfl (fun w' h' => x_pick (k := false) (congrArg Value.bool hb52) rfl) (⟨M, Hp.le_refl M, S.pick [0, 1] (by decide)⟩) ?_
      refine Wa_take (i := 15) rfl (by kernel_rfl) rfl rfl (.int .i64 t11) rfl (fun w' h' => x_assign rfl) (⟨M, Hp.le_refl M, S.pick [0, 1] (by decide)⟩) ?_
      exact hrest _ _ ⟨false, Option.some.inj H, ⟨rfl, rfl, rfl, trivial⟩, E, S.pick [0, 1] (by decide)⟩
  clear o54h
  rintro ρ w65 ⟨x53, rfl, hρ, E, S⟩
  rw [agree_eta hρ]
  clear hρ
  have H := o54H
  clear o54H
  refine Wa_take (i := 16) rfl (by kernel_rfl) rfl rfl (.bool x53) rfl (fun w' h' => x_assign rfl) (⟨M, Hp.le_refl M, S.pick [0, 1] (by decide)⟩) ?_
  refine Wa_done (by kernel_rfl) ?_
  refine tn ?_
  refine Wp_ret ?_
  obtain rfl := Option.some.inj H
  exact ⟨_, _, _, fun w1 e1 => run_resR (vs := [.int .i64 t11, .bool x53]) (FA.cons (rfl) (FA.cons (rfl) (FA.nil))), HM, E, S.pick [] (by decide), ⟨rfl, rfl⟩⟩
/-! ### ferryman/fork.Kid$1: function 36 -/
def fork_Kid_1 (k : Nat) (a0 : Str) (ac_0 : Str) : Option (Bool) :=
  (Option.bind (text_Compare k a0 ac_0) (fun t1 => some (decide (t1 ≤ (0 : Int)))))
set_option maxHeartbeats 2000000 in
theorem fork_Kid_1.mono {k : Nat} {a0 : Str} {ac_0 : Str} : OLe (fork_Kid_1 k a0 ac_0) (fork_Kid_1 (k + 1) a0 ac_0) := by
  unfold fork_Kid_1
  repeat' (first | with_reducible exact OLe.none | with_reducible exact OLe.some | with_reducible refine OLe.ite ?_ ?_ | with_reducible refine OLe.bind ?_ (fun _ => ?_) | with_reducible exact text_Compare.mono | refine OLe.bind ?_ (fun _ => ?_) | refine OLe.ite ?_ ?_ | refine OLe.elim (fun _ => ?_) (fun _ => ?_) | split)
set_option maxHeartbeats 1000000 in
set_option maxRecDepth 100000 in
theorem fork_Kid_1.con (k : Nat) (M : Hp) (a0 : Str) (ac_0 : Str) (bc_0 : Nat) (r : Bool)  (h : fork_Kid_1 k a0 ac_0 = some r) : Con Try.prog 36 #[.string (bs a0), .pointer (some ⟨bc_0, 0, none⟩)] M [Blk bc_0 (.cells #[.string (bs ac_0)] 9 (0, 0))] (fun v M' Γ' => v = .bool r ∧ Γ' = [Blk bc_0 (.cells #[.string (bs ac_0)] 9 (0, 0))]) := by
  refine con_of_wp Try.func36 rfl Try.ntmps36 Try.results36 rfl ?_
  intro w F rn S hrn
  have E := Ext.refl w
  have HM := Hp.le_refl M
  have H := h
  unfold fork_Kid_1 at H
  refine Wp_seq ?_
  refine Wp_region_lit ?_
  refine W_v (.bool false) (x_assign rfl) rfl ?_
  refine Wl_nil ?_
  refine tn ?_
  refine Wp_seq ?_
  refine Wp_region_lit ?_
  refine W_v (.string (bs a0)) (x_move rfl) rfl ?_
  refine W_v (.string (bs ac_0)) (x_load (S.blk 0 rfl) ty9 rfl rfl) rfl ?_
  obtain ⟨t1, ht2, H⟩ := bindS H
  refine W_callF fn33 (text_Compare.con k M a0 ac_0 t1  ht2) S rfl rfl (by rintro _ _ _ ⟨_, rfl⟩; exact flat_nil) ?_
  rintro _ w3 _ Γ' E' S ⟨rfl, rfl⟩
  replace E := E.trans E'
  clear E'
  refine W_v (.bool (decide (t1 ≤ (0 : Int)))) (x_ibin rfl rfl rfl rfl) rfl ?_
  refine W_v (.bool (decide (t1 ≤ (0 : Int)))) (x_assign rfl) rfl ?_
  refine Wl_nil ?_
  refine tn ?_
  refine Wp_ret ?_
  obtain rfl := Option.some.inj H
  exact ⟨_, _, _, fun w1 e1 => run_resR (vs := [.bool (decide (t1 ≤ (0 : Int)))]) (FA.cons (rfl) (FA.nil)), HM, E, S.pick [0] (by decide), ⟨rfl, rfl⟩⟩
/-! ### ferryman/fork.halve[string]: function 34 -/
def fork_halve_string_Kid_1_l0 (a0 : (List Str)) (a1_0 : Str) : Nat → Int → Int → Option ((Int))
  | 0, _, _ => none
  | k + 1, x99, x100 => (if (decide (x99 < x100)) = true then (Option.bind (α := Int × Int) (if 0 ≤ (IntKind.i64.wrap (Int.tdiv (IntKind.i64.wrap (x99 + x100)) (2 : Int))) ∧ (IntKind.i64.wrap (Int.tdiv (IntKind.i64.wrap (x99 + x100)) (2 : Int))) < (a0.length : Int) then (Option.bind (fork_Kid_1 k (rd a0 (IntKind.i64.wrap (Int.tdiv (IntKind.i64.wrap (x99 + x100)) (2 : Int)))) a1_0) (fun t186 => (Option.bind (α := Int × Int) (if t186 = true then some ((IntKind.i64.wrap ((IntKind.i64.wrap (Int.tdiv (IntKind.i64.wrap (x99 + x100)) (2 : Int))) + (1 : Int))), x100) else some (x99, (IntKind.i64.wrap (Int.tdiv (IntKind.i64.wrap (x99 + x100)) (2 : Int))))) (fun ⟨x192, x193⟩ => some (x192, x193))))) else none) (fun ⟨x173, x174⟩ => fork_halve_string_Kid_1_l0 a0 a1_0 k x173 x174)) else some (x99))
set_option maxHeartbeats 2000000 in
theorem fork_halve_string_Kid_1_l0.mono {a0 : (List Str)} {a1_0 : Str} : ∀ {k : Nat} {x0 x1}, OLe (fork_halve_string_Kid_1_l0 a0 a1_0 k x0 x1) (fork_halve_string_Kid_1_l0 a0 a1_0 (k + 1) x0 x1) := by
  intro k
  induction k with
  | zero => intros; exact OLe.none
  | succ k ih =>
    intros
    rw [fork_halve_string_Kid_1_l0.eq_2, fork_halve_string_Kid_1_l0.eq_2]
    repeat' (first | with_reducible exact OLe.none | with_reducible exact OLe.some | with_reducible refine OLe.ite ?_ ?_ | with_reducible refine OLe.bind ?_ (fun _ => ?_) | with_reducible exact fork_Kid_1.mono | exact ih | refine OLe.bind ?_ (fun _ => ?_) | refine OLe.ite ?_ ?_ | refine OLe.elim (fun _ => ?_) (fun _ => ?_) | split)
def fork_halve_string_Kid_1 (k : Nat) (a0 : (List Str)) (a1_0 : Str) : Option (Int) :=
  (Option.bind (fork_halve_string_Kid_1_l0 a0 a1_0 k (0 : Int) (a0.length : Int)) (fun x148 => some x148))
set_option maxHeartbeats 2000000 in
theorem fork_halve_string_Kid_1.mono {k : Nat} {a0 : (List Str)} {a1_0 : Str} : OLe (fork_halve_string_Kid_1 k a0 a1_0) (fork_halve_string_Kid_1 (k + 1) a0 a1_0) := by
  unfold fork_halve_string_Kid_1
  repeat' (first | with_reducible exact OLe.none | with_reducible exact OLe.some | with_reducible refine OLe.ite ?_ ?_ | with_reducible refine OLe.bind ?_ (fun _ => ?_) | with_reducible exact fork_halve_string_Kid_1_l0.mono | refine OLe.bind ?_ (fun _ => ?_) | refine OLe.ite ?_ ?_ | refine OLe.elim (fun _ => ?_) (fun _ => ?_) | split)
set_option maxHeartbeats 1000000 in
set_option maxRecDepth 100000 in
theorem fork_halve_string_Kid_1.con (k : Nat) (M : Hp) (A0 : Option Addr) (c0 : Nat) (a0 : (List Str)) (a1_0 : Str) (b1_0 : Nat) (r : Int) (hr0 : SlR rStr M (.slice A0 a0.length c0) a0) (h : fork_halve_string_Kid_1 k a0 a1_0 = some r) : Con Try.prog 34 #[.slice A0 a0.length c0, .func (.func 36) #[] #[.pointer (some ⟨b1_0, 0, none⟩)]] M [Blk b1_0 (.cells #[.string (bs a1_0)] 9 (0, 0))] (fun v M' Γ' => v = .int .i64 r ∧ Γ' = [Blk b1_0 (.cells #[.string (bs a1_0)] 9 (0, 0))]) := by
  refine con_of_wp Try.func34 rfl Try.ntmps34 Try.results34 rfl ?_
  intro w F rn S hrn
  have E := Ext.refl w
  have HM := Hp.le_refl M
  have H := h
  unfold fork_halve_string_Kid_1 at H
  refine Wp_seq ?_
  refine Wp_region_lit ?_
  refine W_v (.int .i64 0) (x_assign rfl) rfl ?_
  refine Wl_nil ?_
  refine tn ?_
  refine Wp_seq ?_
  refine Wp_region_lit ?_
  refine W_v (.slice A0 a0.length c0) (x_move rfl) rfl ?_
  refine W_v (.int .i64 (a0.length : Int)) (x_len_slice (n := a0.length) Try.underlying22 rfl) rfl ?_
  refine W_v (.int .i64 0) (x_assign rfl) rfl ?_
  refine W_v (.int .i64 (a0.length : Int)) (x_assign rfl) rfl ?_
  refine Wl_nil ?_
  refine tn ?_
  refine Wp_seq ?_
  obtain ⟨o149, o149h, o149H⟩ := bindS H
  clear H
  refine Wp_blockJ (fun ρ w' => ∃ (x148 : Int), (x148) = o149 ∧ Agree ρ [(5, .int .i64 x148)] ∧ Ext w w' ∧ St w' M F [Blk b1_0 (.cells #[.string (bs a1_0)] 9 (0, 0))]) ?_ ?_
  · skip
    refine Wp_loop (fun n ρ w' => ∃ (x99 : Int) (x100 : Int), fork_halve_string_Kid_1_l0 a0 a1_0 n x99 x100 = some o149 ∧ Agree ρ [(0, .slice A0 a0.length c0), (1, .func (.func 36) #[] #[.pointer (some ⟨b1_0, 0, none⟩)]), (5, .int .i64 x99), (6, .int .i64 x100)] ∧ Ext w w' ∧ St w' M F [Blk b1_0 (.cells #[.string (bs a1_0)] 9 (0, 0))]) k ?_ ?_
    · skip
      exact ⟨(0 : Int), (a0.length : Int), o149h, ⟨rfl, rfl, rfl, rfl, trivial⟩, E, S.pick [0] (by decide)⟩
    · intro n
      rintro ρ w150 ⟨x99, x100, H, hρ, E, S⟩
      rw [agree_eta hρ]
      clear hρ
      cases n with
      | zero => cases H
      | succ k =>
        rw [fork_halve_string_Kid_1_l0.eq_2] at H
        refine Wp_seq ?_
        refine Wp_seq ?_
        refine Wp_region_lit ?_
        refine W_v (.int .i64 x99) (x_move rfl) rfl ?_
        refine W_v (.int .i64 x100) (x_move rfl) rfl ?_
        refine W_v (.bool (decide (x99 < x100))) (x_ibin rfl rfl rfl rfl) rfl ?_
        refine Wl_nil ?_
        refine tn ?_
        rcases iteS H with ⟨hb151, H⟩ | ⟨hb151, H⟩
        · refine Wp_cond_true (congrArg Value.bool hb151) ?_
          refine Wp_skip ?_
          refine tn ?_
          obtain ⟨o175, o175h, o175H⟩ := bindS H
          refine Wp_cut (fun ρ w' => ∃ (x173 : Int) (x174 : Int), (x173, x174) = o175 ∧ Agree ρ [(0, .slice A0 a0.length c0), (1, .func (.func 36) #[] #[.pointer (some ⟨b1_0, 0, none⟩)]), (5, .int .i64 x173), (6, .int .i64 x174)] ∧ Ext w w' ∧ St w' M F [Blk b1_0 (.cells #[.string (bs a1_0)] 9 (0, 0))]) ?_ ?_
          · clear o175H
            have H := o175h
            clear o175h
            refine Wp_block ?_
            refine Wp_seq ?_
            refine Wp_region_lit ?_
            refine W_v (.int .i64 x99) (x_move rfl) rfl ?_
            refine W_v (.int .i64 x100) (x_move rfl) rfl ?_
            refine W_v (.int .i64 (IntKind.i64.wrap (x99 + x100))) (x_ibin rfl rfl rfl rfl) rfl ?_
            refine W_v (.int .i64 (IntKind.i64.wrap (Int.tdiv (IntKind.i64.wrap (x99 + x100)) (2 : Int)))) (x_quo rfl rfl (by decide)) rfl ?_
            refine W_v (.int .i64 (IntKind.i64.wrap (Int.tdiv (IntKind.i64.wrap (x99 + x100)) (2 : Int)))) (x_assign rfl) rfl ?_
            refine Wl_nil ?_
            refine tn ?_
            refine Wp_seq ?_
            refine Wp_region_lit ?_
            refine W_v (.func (.func 36) #[] #[.pointer (some ⟨b1_0, 0, none⟩)]) (x_move rfl) rfl ?_
            refine W_v (.slice A0 a0.length c0) (x_move rfl) rfl ?_
            refine W_v (.int .i64 (IntKind.i64.wrap (Int.tdiv (IntKind.i64.wrap (x99 + x100)) (2 : Int)))) (x_move rfl) rfl ?_
            obtain ⟨⟨p176, p177⟩, H⟩ := chkS H
            obtain ⟨b178, o179, cs180, _, _, ee185, hb181, vs182, hR183, hc184⟩ := SlW.at' hr0 p176 p177
            obtain rfl : vs182 = _ := hR183
            refine W_v (.pointer (some ⟨b178, o179 + (IntKind.i64.wrap (Int.tdiv (IntKind.i64.wrap (x99 + x100)) (2 : Int))).toNat * 1, none⟩)) (x_indexAddr Try.underlying22 ty9 (slA ee185) rfl p176 p177) rfl ?_
            refine W_v (.string (bs (rd a0 (IntKind.i64.wrap (Int.tdiv (IntKind.i64.wrap (x99 + x100)) (2 : Int)))))) (x_load (S.frz hb181) ty9 rfl (hc184 0 _ rfl)) rfl ?_
            obtain ⟨t186, ht187, H⟩ := bindS H
            refine W_callvF2 (fs := []) (cap := [.pointer (some ⟨b1_0, 0, none⟩)]) fn36 rfl (fork_Kid_1.con k M (rd a0 (IntKind.i64.wrap (Int.tdiv (IntKind.i64.wrap (x99 + x100)) (2 : Int)))) a1_0 b1_0 t186  ht187) (Γ1 := [Blk b1_0 (.cells #[.string (bs a1_0)] 9 (0, 0))]) (Γ2 := []) S rfl rfl (by rintro _ _ _ ⟨rfl, rfl⟩; exact (flat_cons flat_blk flat_nil)) ?_
            rintro _ w188 _ Γ' E' S ⟨rfl, rfl⟩
            replace E := E.trans E'
            clear E'
            replace S : St w188 M F [Blk b1_0 (.cells #[.string (bs a1_0)] 9 (0, 0))] := S
            refine Wl_nil ?_
            refine tn ?_
            obtain ⟨o194, o194h, o194H⟩ := bindS H
            refine Wp_cut (fun ρ w' => ∃ (x192 : Int) (x193 : Int), (x192, x193) = o194 ∧ Agree ρ [(0, .slice A0 a0.length c0), (1, .func (.func 36) #[] #[.pointer (some ⟨b1_0, 0, none⟩)]), (5, .int .i64 x192), (6, .int .i64 x193)] ∧ Ext w w' ∧ St w' M F [Blk b1_0 (.cells #[.string (bs a1_0)] 9 (0, 0))]) ?_ ?_
            · clear o194H
              have H := o194h
              clear o194h
              rcases iteS H with ⟨hb195, H⟩ | ⟨hb195, H⟩
              · refine Wp_cond_true (congrArg Value.bool hb195) ?_
                refine Wp_region_lit ?_
                refine W_v (.int .i64 (IntKind.i64.wrap (Int.tdiv (IntKind.i64.wrap (x99 + x100)) (2 : Int)))) (x_move rfl) rfl ?_
                refine W_v (.int .i64 (IntKind.i64.wrap ((IntKind.i64.wrap (Int.tdiv (IntKind.i64.wrap (x99 + x100)) (2 : Int))) + (1 : Int)))) (x_ibin rfl rfl rfl rfl) rfl ?_
                refine W_v (.int .i64 (IntKind.i64.wrap ((IntKind.i64.wrap (Int.tdiv (IntKind.i64.wrap (x99 + x100)) (2 : Int))) + (1 : Int)))) (x_assign rfl) rfl ?_
                refine Wl_nil ?_
                refine tn ?_
                exact ⟨(IntKind.i64.wrap ((IntKind.i64.wrap (Int.tdiv (IntKind.i64.wrap (x99 + x100)) (2 : Int))) + (1 : Int))), x100, Option.some.inj H, ⟨rfl, rfl, rfl, rfl, trivial⟩, E, S.pick [0] (by decide)⟩
              refine Wp_cond_false (congrArg Value.bool hb195) ?_
              refine Wp_region_lit ?_
              refine W_v (.int .i64 (IntKind.i64.wrap (Int.tdiv (IntKind.i64.wrap (x99 + x100)) (2 : Int)))) (x_move rfl) rfl ?_
              refine W_v (.int .i64 (IntKind.i64.wrap (Int.tdiv (IntKind.i64.wrap (x99 + x100)) (2 : Int)))) (x_assign rfl) rfl ?_
              refine Wl_nil ?_
              refine tn ?_
              exact ⟨x99, (IntKind.i64.wrap (Int.tdiv (IntKind.i64.wrap (x99 + x100)) (2 : Int))), Option.some.inj H, ⟨rfl, rfl, rfl, rfl, trivial⟩, E, S.pick [0] (by decide)⟩
            clear o194h
            rintro ρ w196 ⟨x192, x193, rfl, hρ, E, S⟩
            rw [agree_eta hρ]
            clear hρ
            have H := o194H
            clear o194H
            refine bn ?_
            refine tn ?_
            exact ⟨x192, x193, Option.some.inj H, ⟨rfl, rfl, rfl, rfl, trivial⟩, E, S.pick [0] (by decide)⟩
          clear o175h
          rintro ρ w197 ⟨x173, x174, rfl, hρ, E, S⟩
          rw [agree_eta hρ]
          clear hρ
          have H := o175H
          clear o175H
          refine tn ?_
          exact ⟨k, Nat.lt_succ_self k, ⟨x173, x174, H, ⟨rfl, rfl, rfl, rfl, trivial⟩, E, S.pick [0] (by decide)⟩⟩
        refine Wp_cond_false (congrArg Value.bool hb151) ?_
        refine Wp_exit ?_
        refine tx (tx (bsm (?_)))
        refine tn ?_
        exact ⟨x99, Option.some.inj H, ⟨rfl, trivial⟩, E, S.pick [0] (by decide)⟩
  clear o149h
  rintro ρ w198 ⟨x148, rfl, hρ, E, S⟩
  rw [agree_eta hρ]
  clear hρ
  have H := o149H
  clear o149H
  refine tn ?_
  refine Wp_seq ?_
  refine Wp_region_lit ?_
  refine W_v (.int .i64 x148) (x_move rfl) rfl ?_
  refine W_v (.int .i64 x148) (x_assign rfl) rfl ?_
  refine Wl_nil ?_
  refine tn ?_
  refine Wp_ret ?_
  obtain rfl := Option.some.inj H
  exact ⟨_, _, _, fun w1 e1 => run_resR (vs := [.int .i64 x148]) (FA.cons (rfl) (FA.nil)), HM, E, S.pick [0] (by decide), ⟨rfl, rfl⟩⟩
/-! ### ferryman/fork.Kid: function 13 -/
def fork_Kid (k : Nat) (a0 : fork_Node) (a1 : Str) : Option (Int) :=
  (Option.bind (α := Bool) (if a0.Leaf = true then some (true) else (Option.bind (fork_May k a0) (fun t16 => some ((!t16))))) (fun x14 => (if x14 = true then some (0 : Int) else (Option.bind (fork_halve_string_Kid_1 k a0.Keys a1) (fun t21 => some t21)))))
set_option maxHeartbeats 2000000 in
theorem fork_Kid.mono {k : Nat} {a0 : fork_Node} {a1 : Str} : OLe (fork_Kid k a0 a1) (fork_Kid (k + 1) a0 a1) := by
  unfold fork_Kid
  repeat' (first | with_reducible exact OLe.none | with_reducible exact OLe.some | with_reducible refine OLe.ite ?_ ?_ | with_reducible refine OLe.bind ?_ (fun _ => ?_) | with_reducible exact fork_May.mono | with_reducible exact fork_halve_string_Kid_1.mono | refine OLe.bind ?_ (fun _ => ?_) | refine OLe.ite ?_ ?_ | refine OLe.elim (fun _ => ?_) (fun _ => ?_) | split)
set_option maxHeartbeats 1000000 in
set_option maxRecDepth 100000 in
theorem fork_Kid.con (k : Nat) (M : Hp) (A0_0 : Option Addr) (c0_0 : Nat) (A0_1 : Option Addr) (c0_1 : Nat) (A0_2 : Option Addr) (c0_2 : Nat) (a0 : fork_Node) (a1 : Str) (r : Int) (hr0_0 : SlR rStr M (.slice A0_0 a0.Keys.length c0_0) a0.Keys) (hr0_1 : SlR (rInt .i64) M (.slice A0_1 a0.Kids.length c0_1) a0.Kids) (hr0_2 : SlR (rInt .u64) M (.slice A0_2 a0.Rows.length c0_2) a0.Rows) (h : fork_Kid k a0 a1 = some r) : Con Try.prog 13 #[.agg #[.bool a0.Leaf, .slice A0_0 a0.Keys.length c0_0, .slice A0_1 a0.Kids.length c0_1, .slice A0_2 a0.Rows.length c0_2], .string (bs a1)] M [] (fun v M' Γ' => v = .int .i64 r ∧ Γ' = []) := by
  refine con_of_wp Try.func13 rfl Try.ntmps13 Try.results13 rfl ?_
  intro w F rn S hrn
  have E := Ext.refl w
  have HM := Hp.le_refl M
  have H := h
  unfold fork_Kid at H
  refine Wp_seq ?_
  refine Wp_region_lit ?_
  refine W_box S #[.bool a0.Leaf, .slice A0_0 a0.Keys.length c0_0, .slice A0_1 a0.Kids.length c0_1, .slice A0_2 a0.Rows.length c0_2] rfl rfl rfl ?_
  intro b1 w2 E' S
  replace E := E.trans E'
  clear E'
  refine W_box S #[.string (bs a1)] rfl rfl rfl ?_
  intro b4 w5 E' S
  replace E := E.trans E'
  clear E'
  refine W_v (.int .i64 0) (x_assign rfl) rfl ?_
  refine Wl_nil ?_
  refine tn ?_
  refine Wp_seq ?_
  refine Wp_seq ?_
  refine Wp_region_lit ?_
  refine W_v (.pointer (some ⟨b1, 0, none⟩)) (x_fieldAddr (o := 0) (off := 0) Try.underlying26 rfl ty4 rfl rfl) rfl ?_
  refine W_v (.bool a0.Leaf) (x_load (S.blk 1 rfl) ty4 rfl rfl) rfl ?_
  refine W_v (.bool a0.Leaf) (x_move rfl) rfl ?_
  obtain ⟨o15, o15h, o15H⟩ := bindS H
  clear H
  refine Wl_cutN 4 (fun ρ w' => ∃ (x14 : Bool), (x14) = o15 ∧ Agree ρ [(2, .pointer (some ⟨b1, 0, none⟩)), (3, .pointer (some ⟨b4, 0, none⟩)), (11, .bool x14)] ∧ Ext w w' ∧ St w' M F [Blk b4 (.cells #[.string (bs a1)] 9 (0, 0)), Blk b1 (.cells #[.bool a0.Leaf, .slice A0_0 a0.Keys.length c0_0, .slice A0_1 a0.Kids.length c0_1, .slice A0_2 a0.Rows.length c0_2] 26 (0, 0))]) ?_ ?_
  · have H := o15h
    rcases iteS H with ⟨hb13, H⟩ | ⟨hb13, H⟩
    · skip
      refine W_no (skF hb13) rfl ?_
      refine W_no (skF hb13) rfl ?_
      refine W_no (skF hb13) rfl ?_
      refine W_v (.bool true) (x_pick (k := true) (congrArg Value.bool hb13) rfl) rfl ?_
      refine Wl_nil ?_
      exact ⟨true, Option.some.inj H, ⟨rfl, rfl, rfl, trivial⟩, E, S.pick [0, 1] (by decide)⟩
    · skip
      refine W_yes (congrArg some hb13) ?_
      refine W_v (.agg #[.bool a0.Leaf, .slice A0_0 a0.Keys.length c0_0, .slice A0_1 a0.Kids.length c0_1, .slice A0_2 a0.Rows.length c0_2]) (x_loadA (S.blk 1 rfl) ty26 rfl (sub_of_extract rfl) rfl rfl) rfl ?_
      refine W_yes (congrArg some hb13) ?_
      obtain ⟨t16, ht17, H⟩ := bindS H
      refine W_callF fn11 (fork_May.con k M A0_0 c0_0 A0_1 c0_1 A0_2 c0_2 a0 t16 hr0_0 hr0_1 hr0_2 ht17) S rfl rfl (by rintro _ _ _ ⟨_, rfl⟩; exact flat_nil) ?_
      rintro _ w18 _ Γ' E' S ⟨rfl, rfl⟩
      replace E := E.trans E'
      clear E'
      refine W_yes (congrArg some hb13) ?_
      refine W_v (.bool (!t16)) (x_not rfl) rfl ?_
      refine W_v (.bool (!t16)) (x_pick (k := false) (congrArg Value.bool hb13) rfl) rfl ?_
      refine Wl_nil ?_
      exact ⟨(!t16), Option.some.inj H, ⟨rfl, rfl, rfl, trivial⟩, E, S.pick [0, 1] (by decide)⟩
  clear o15h
  rintro ρ w19 ⟨x14, rfl, hρ, E, S⟩
  rw [agree_eta hρ]
  clear hρ
  have H := o15H
  clear o15H
  refine Wl_nil ?_
  refine tn ?_
  rcases iteS H with ⟨hb20, H⟩ | ⟨hb20, H⟩
  · refine Wp_cond_true (congrArg Value.bool hb20) ?_
    refine Wp_seq ?_
    refine Wp_region_lit ?_
    refine W_v (.int .i64 0) (x_assign rfl) rfl ?_
    refine Wl_nil ?_
    refine tn ?_
    refine Wp_ret ?_
    refine tr (?_)
    obtain rfl := Option.some.inj H
    exact ⟨_, _, _, fun w1 e1 => run_resR (vs := [.int .i64 0]) (FA.cons (rfl) (FA.nil)), HM, E, S.pick [] (by decide), ⟨rfl, rfl⟩⟩
  refine Wp_cond_false (congrArg Value.bool hb20) ?_
  refine Wp_skip ?_
  refine tn ?_
  refine Wp_seq ?_
  refine Wp_region_lit ?_
  refine W_v (.pointer (some ⟨b1, 1, none⟩)) (x_fieldAddr (o := 0) (off := 1) Try.underlying26 rfl ty22 rfl rfl) rfl ?_
  refine W_v (.slice A0_0 a0.Keys.length c0_0) (x_load (S.blk 1 rfl) ty22 rfl rfl) rfl ?_
  refine W_v (.func (.func 36) #[] #[.pointer (some ⟨b4, 0, none⟩)]) (x_makeFunc rfl) rfl ?_
  obtain ⟨t21, ht22, H⟩ := bindS H
  refine W_callF2 fn34 (fork_halve_string_Kid_1.con k M A0_0 c0_0 a0.Keys a1 b4 t21 hr0_0 ht22) (Γ1 := [Blk b4 (.cells #[.string (bs a1)] 9 (0, 0))]) (Γ2 := [Blk b1 (.cells #[.bool a0.Leaf, .slice A0_0 a0.Keys.length c0_0, .slice A0_1 a0.Kids.length c0_1, .slice A0_2 a0.Rows.length c0_2] 26 (0, 0))]) S rfl rfl (by rintro _ _ _ ⟨rfl, rfl⟩; exact (flat_cons flat_blk flat_nil)) ?_
  rintro _ w23 _ Γ' E' S ⟨rfl, rfl⟩
  replace E := E.trans E'
  clear E'
  replace S : St w23 M F [Blk b4 (.cells #[.string (bs a1)] 9 (0, 0)), Blk b1 (.cells #[.bool a0.Leaf, .slice A0_0 a0.Keys.length c0_0, .slice A0_1 a0.Kids.length c0_1, .slice A0_2 a0.Rows.length c0_2] 26 (0, 0))] := S
  refine W_v (.int .i64 t21) (x_assign rfl) rfl ?_
  refine Wl_nil ?_
  refine tn ?_
  refine Wp_ret ?_
  obtain rfl := Option.some.inj H
  exact ⟨_, _, _, fun w1 e1 => run_resR (vs := [.int .i64 t21]) (FA.cons (rfl) (FA.nil)), HM, E, S.pick [] (by decide), ⟨rfl, rfl⟩⟩
/-! ### ferryman/fork.Fence: function 14 -/
def fork_Fence (k : Nat) (a0 : fork_Node) (a1 : Int) : Option (Str × Bool) :=
  (Option.bind (α := Bool) (if a0.Leaf = true then some (true) else (Option.bind (fork_May k a0) (fun t13 => some ((!t13))))) (fun x11 => (if ((x11 || (decide (a1 < (0 : Int)))) || (decide (a1 ≥ (a0.Keys.length : Int)))) = true then some (([] : Str), false) else (if 0 ≤ a1 ∧ a1 < (a0.Keys.length : Int) then some ((rd a0.Keys a1), true) else none))))
set_option maxHeartbeats 2000000 in
theorem fork_Fence.mono {k : Nat} {a0 : fork_Node} {a1 : Int} : OLe (fork_Fence k a0 a1) (fork_Fence (k + 1) a0 a1) := by
  unfold fork_Fence
  repeat' (first | with_reducible exact OLe.none | with_reducible exact OLe.some | with_reducible refine OLe.ite ?_ ?_ | with_reducible refine OLe.bind ?_ (fun _ => ?_) | with_reducible exact fork_May.mono | refine OLe.bind ?_ (fun _ => ?_) | refine OLe.ite ?_ ?_ | refine OLe.elim (fun _ => ?_) (fun _ => ?_) | split)
set_option maxHeartbeats 1000000 in
set_option maxRecDepth 100000 in
theorem fork_Fence.con (k : Nat) (M : Hp) (A0_0 : Option Addr) (c0_0 : Nat) (A0_1 : Option Addr) (c0_1 : Nat) (A0_2 : Option Addr) (c0_2 : Nat) (a0 : fork_Node) (a1 : Int) (r : Str × Bool) (hr0_0 : SlR rStr M (.slice A0_0 a0.Keys.length c0_0) a0.Keys) (hr0_1 : SlR (rInt .i64) M (.slice A0_1 a0.Kids.length c0_1) a0.Kids) (hr0_2 : SlR (rInt .u64) M (.slice A0_2 a0.Rows.length c0_2) a0.Rows) (h : fork_Fence k a0 a1 = some r) : Con Try.prog 14 #[.agg #[.bool a0.Leaf, .slice A0_0 a0.Keys.length c0_0, .slice A0_1 a0.Kids.length c0_1, .slice A0_2 a0.Rows.length c0_2], .int .i64 a1] M [] (fun v M' Γ' => v = .tuple #[.string (bs r.1), .bool r.2] ∧ Γ' = []) := by
  refine con_of_wp Try.func14 rfl Try.ntmps14 Try.results14 rfl ?_
  intro w F rn S hrn
  have E := Ext.refl w
  have HM := Hp.le_refl M
  have H := h
  unfold fork_Fence at H
  refine Wp_seq ?_
  refine Wp_region_lit ?_
  refine W_box S #[.bool a0.Leaf, .slice A0_0 a0.Keys.length c0_0, .slice A0_1 a0.Kids.length c0_1, .slice A0_2 a0.Rows.length c0_2] rfl rfl rfl ?_
  intro b1 w2 E' S
  replace E := E.trans E'
  clear E'
  refine W_v (.string (bs ([] : Str))) (x_assign rfl) rfl ?_
  refine W_v (.bool false) (x_assign rfl) rfl ?_
  refine Wl_nil ?_
  refine tn ?_
  refine Wp_seq ?_
  refine Wp_seq ?_
  refine Wp_region_lit ?_
  refine W_v (.pointer (some ⟨b1, 0, none⟩)) (x_fieldAddr (o := 0) (off := 0) Try.underlying26 rfl ty4 rfl rfl) rfl ?_
  refine W_v (.bool a0.Leaf) (x_load (S.blk 0 rfl) ty4 rfl rfl) rfl ?_
  refine W_v (.bool a0.Leaf) (x_move rfl) rfl ?_
  obtain ⟨o12, o12h, o12H⟩ := bindS H
  clear H
  refine Wl_cutN 4 (fun ρ w' => ∃ (x11 : Bool), (x11) = o12 ∧ Agree ρ [(1, .int .i64 a1), (2, .pointer (some ⟨b1, 0, none⟩)), (12, .bool x11)] ∧ Ext w w' ∧ St w' M F [Blk b1 (.cells #[.bool a0.Leaf, .slice A0_0 a0.Keys.length c0_0, .slice A0_1 a0.Kids.length c0_1, .slice A0_2 a0.Rows.length c0_2] 26 (0, 0))]) ?_ ?_
  · have H := o12h
    rcases iteS H with ⟨hb10, H⟩ | ⟨hb10, H⟩
    · skip
      refine W_no (skF hb10) rfl ?_
      refine W_no (skF hb10) rfl ?_
      refine W_no (skF hb10) rfl ?_
      refine W_v (.bool true) (x_pick (k := true) (congrArg Value.bool hb10) rfl) rfl ?_
      refine Wl_nil ?_
      exact ⟨true, Option.some.inj H, ⟨rfl, rfl, rfl, trivial⟩, E, S.pick [0] (by decide)⟩
    · skip
      refine W_yes (congrArg some hb10) ?_
      refine W_v (.agg #[.bool a0.Leaf, .slice A0_0 a0.Keys.length c0_0, .slice A0_1 a0.Kids.length c0_1, .slice A0_2 a0.Rows.length c0_2]) (x_loadA (S.blk 0 rfl) ty26 rfl (sub_of_extract rfl) rfl rfl) rfl ?_
      refine W_yes (congrArg some hb10) ?_
      obtain ⟨t13, ht14, H⟩ := bindS H
      refine W_callF fn11 (fork_May.con k M A0_0 c0_0 A0_1 c0_1 A0_2 c0_2 a0 t13 hr0_0 hr0_1 hr0_2 ht14) S rfl rfl (by rintro _ _ _ ⟨_, rfl⟩; exact flat_nil) ?_
      rintro _ w15 _ Γ' E' S ⟨rfl, rfl⟩
      replace E := E.trans E'
      clear E'
      refine W_yes (congrArg some hb10) ?_
      refine W_v (.bool (!t13)) (x_not rfl) rfl ?_
      refine W_v (.bool (!t13)) (x_pick (k := false) (congrArg Value.bool hb10) rfl) rfl ?_
      refine Wl_nil ?_
      exact ⟨(!t13), Option.some.inj H, ⟨rfl, rfl, rfl, trivial⟩, E, S.pick [0] (by decide)⟩
  clear o12h
  rintro ρ w16 ⟨x11, rfl, hρ, E, S⟩
  rw [agree_eta hρ]
  clear hρ
  have H := o12H
  clear o12H
  refine W_v (.bool x11) (x_move rfl) rfl ?_
  refine Wl_cutN 3 (fun ρ w' => Agree ρ [(1, .int .i64 a1), (2, .pointer (some ⟨b1, 0, none⟩)), (16, .bool (x11 || (decide (a1 < (0 : Int)))))] ∧ w16 = w') ?_ ?_
  · rcases boolCases x11 with hb17 | hb17
    · skip
      refine W_yes (congrArg some hb17) ?_
      refine W_v (.int .i64 a1) (x_move rfl) rfl ?_
      refine W_yes (congrArg some hb17) ?_
      refine W_v (.bool (decide (a1 < (0 : Int)))) (x_ibin rfl rfl rfl rfl) rfl ?_
      refine W_v (.bool (decide (a1 < (0 : Int)))) (x_pick (k := false) (congrArg Value.bool hb17) rfl) rfl ?_
      refine Wl_nil ?_
      exact ⟨⟨rfl, rfl, (by first | rfl | (rw [hb17]; rfl) | (simp only [hb17]; rfl)), trivial⟩, rfl⟩
    · skip
      refine W_no (skF hb17) rfl ?_
      refine W_no (skF hb17) rfl ?_
      refine W_v (.bool true) (x_pick (k := true) (congrArg Value.bool hb17) rfl) rfl ?_
      refine Wl_nil ?_
      exact ⟨⟨rfl, rfl, (by first | rfl | (rw [hb17]; rfl) | (simp only [hb17]; rfl)), trivial⟩, rfl⟩
  rintro ρ _ ⟨hρ, rfl⟩
  rw [agree_eta hρ]
  clear hρ
  refine W_v (.bool (x11 || (decide (a1 < (0 : Int))))) (x_move rfl) rfl ?_
  refine Wl_cutN 6 (fun ρ w' => Agree ρ [(1, .int .i64 a1), (2, .pointer (some ⟨b1, 0, none⟩)), (23, .bool ((x11 || (decide (a1 < (0 : Int)))) || (decide (a1 ≥ (a0.Keys.length : Int)))))] ∧ w16 = w') ?_ ?_
  · rcases boolCases (x11 || (decide (a1 < (0 : Int)))) with hb18 | hb18
    · skip
      refine W_yes (congrArg some hb18) ?_
      refine W_v (.int .i64 a1) (x_move rfl) rfl ?_
      refine W_yes (congrArg some hb18) ?_
      refine W_v (.pointer (some ⟨b1, 1, none⟩)) (x_fieldAddr (o := 0) (off := 1) Try.underlying26 rfl ty22 rfl rfl) rfl ?_
      refine W_yes (congrArg some hb18) ?_
      refine W_v (.slice A0_0 a0.Keys.length c0_0) (x_load (S.blk 0 rfl) ty22 rfl rfl) rfl ?_
      refine W_yes (congrArg some hb18) ?_
      refine W_v (.int .i64 (a0.Keys.length : Int)) (x_len_slice (n := a0.Keys.length) Try.underlying22 rfl) rfl ?_
      refine W_yes (congrArg some hb18) ?_
      refine W_v (.bool (decide (a1 ≥ (a0.Keys.length : Int)))) (x_ibin rfl rfl rfl rfl) rfl ?_
      refine W_v (.bool (decide (a1 ≥ (a0.Keys.length : Int)))) (x_pick (k := false) (congrArg Value.bool hb18) rfl) rfl ?_
      refine Wl_nil ?_
      exact ⟨⟨rfl, rfl, (by first | rfl | (rw [hb18]; rfl) | (simp only [hb18]; rfl)), trivial⟩, rfl⟩
    · skip
      refine W_no (skF hb18) rfl ?_
      refine W_no (skF hb18) rfl ?_
      refine W_no (skF hb18) rfl ?_
      refine W_no (skF hb18) rfl ?_
      refine W_no (skF hb18) rfl ?_
      refine W_v (.bool true) (x_pick (k := true) (congrArg Value.bool hb18) rfl) rfl ?_
      refine Wl_nil ?_
      exact ⟨⟨rfl, rfl, (by first | rfl | (rw [hb18]; rfl) | (simp only [hb18]; rfl)), trivial⟩, rfl⟩
  rintro ρ _ ⟨hρ, rfl⟩
  rw [agree_eta hρ]
  clear hρ
  refine Wl_nil ?_
  refine tn ?_
  rcases iteS H with ⟨hb19, H⟩ | ⟨hb19, H⟩
  · refine Wp_cond_true (congrArg Value.bool hb19) ?_
    refine Wp_seq ?_
    refine Wp_region_lit ?_
    refine W_v (.string (bs ([] : Str))) (x_assign rfl) rfl ?_
    refine W_v (.bool false) (x_assign rfl) rfl ?_
    refine Wl_nil ?_
    refine tn ?_
    refine Wp_ret ?_
    refine tr (?_)
    obtain rfl := Option.some.inj H
    exact ⟨_, _, _, fun w1 e1 => run_resR (vs := [.string (bs ([] : Str)), .bool false]) (FA.cons (rfl) (FA.cons (rfl) (FA.nil))), HM, E, S.pick [] (by decide), ⟨rfl, rfl⟩⟩
  refine Wp_cond_false (congrArg Value.bool hb19) ?_
  refine Wp_skip ?_
  refine tn ?_
  refine Wp_seq ?_
  refine Wp_region_lit ?_
  refine W_v (.pointer (some ⟨b1, 1, none⟩)) (x_fieldAddr (o := 0) (off := 1) Try.underlying26 rfl ty22 rfl rfl) rfl ?_
  refine W_v (.slice A0_0 a0.Keys.length c0_0) (x_load (S.blk 0 rfl) ty22 rfl rfl) rfl ?_
  refine W_v (.int .i64 a1) (x_move rfl) rfl ?_
  obtain ⟨⟨p20, p21⟩, H⟩ := chkS H
  obtain ⟨b22, o23, cs24, _, _, ee29, hb25, vs26, hR27, hc28⟩ := SlW.at' hr0_0 p20 p21
  obtain rfl : vs26 = _ := hR27
  refine W_v (.pointer (some ⟨b22, o23 + a1.toNat * 1, none⟩)) (x_indexAddr Try.underlying22 ty9 (slA ee29) rfl p20 p21) rfl ?_
  refine W_v (.string (bs (rd a0.Keys a1))) (x_load (S.frz hb25) ty9 rfl (hc28 0 _ rfl)) rfl ?_
  refine W_v (.string (bs (rd a0.Keys a1))) (x_assign rfl) rfl ?_
  refine W_v (.bool true) (x_assign rfl) rfl ?_
  refine Wl_nil ?_
  refine tn ?_
  refine Wp_ret ?_
  obtain rfl := Option.some.inj H
  exact ⟨_, _, _, fun w1 e1 => run_resR (vs := [.string (bs (rd a0.Keys a1)), .bool true]) (FA.cons (rfl) (FA.cons (rfl) (FA.nil))), HM, E, S.pick [] (by decide), ⟨rfl, rfl⟩⟩
/-! ### slices.Clone[[]string,string]: function 43 -/
def slices_Clone_string_string (k : Nat) (a0 : List Str) : Option (List Str) :=
  if ([] : List Str).length + a0.length ≤ 8796093022208 then some (([] : List Str) ++ a0) else none
set_option maxHeartbeats 2000000 in
theorem slices_Clone_string_string.mono {k : Nat} {a0 : List Str} : OLe (slices_Clone_string_string k a0) (slices_Clone_string_string (k + 1) a0) := by
  unfold slices_Clone_string_string
  repeat' (first | with_reducible exact OLe.none | with_reducible exact OLe.some | with_reducible refine OLe.ite ?_ ?_ | with_reducible refine OLe.bind ?_ (fun _ => ?_) | refine OLe.bind ?_ (fun _ => ?_) | refine OLe.ite ?_ ?_ | refine OLe.elim (fun _ => ?_) (fun _ => ?_) | split)
set_option maxHeartbeats 1000000 in
set_option maxRecDepth 100000 in
theorem slices_Clone_string_string.con (k : Nat) (M : Hp) (A0 : Option Addr) (c0 : Nat) (a0 : (List Str)) (r : (List Str)) (hr0 : SlR rStr M (.slice A0 a0.length c0) a0) (h : slices_Clone_string_string k a0 = some r) : Con Try.prog 43 #[.slice A0 a0.length c0] M [] (fun v M' Γ' => ∃ (A0 : Option Addr) (c0 : Nat), v = .slice A0 r.length c0 ∧ Γ' = [Row rStr 9 (.slice A0 r.length c0) r]) := by
  have H := h
  unfold slices_Clone_string_string at H
  cases A0 with
  | none =>
    obtain ⟨_, H⟩ := chkS H
    obtain rfl : a0 = [] := SlW.none_nil hr0
    refine con_of_wp Try.func43 rfl Try.ntmps43 Try.results43 rfl ?_
    intro w F rn S hrn
    have E := Ext.refl w
    have HM := Hp.le_refl M
    refine Wp_seq ?_
    refine Wp_region_lit ?_
    refine W_v (.slice none 0 0) (x_assign rfl) rfl ?_
    refine Wl_nil ?_
    refine tn ?_
    refine Wp_seq ?_
    refine Wp_seq ?_
    refine Wp_region_lit ?_
    refine W_v (.slice none ([] : List Str).length c0) (x_move rfl) rfl ?_
    refine W_v (.bool true) (x_eq_of rfl rfl (run_equal_slice_nil _ _ _ _ _ _ Try.underlying22)) rfl ?_
    refine Wl_nil ?_
    refine tn ?_
    refine Wp_cond_true rfl ?_
    refine Wp_seq ?_
    refine Wp_region_lit ?_
    refine W_v (.slice none 0 0) (x_assign rfl) rfl ?_
    refine Wl_nil ?_
    refine tn ?_
    refine Wp_ret ?_
    refine tr (?_)
    obtain rfl := Option.some.inj H
    replace S := S.row_nil rStr 9
    exact ⟨_, _, _, fun w1 e1 => run_resR (vs := [.slice none 0 0]) (FA.cons (rfl) (FA.nil)), HM, E, S.pick [0] (by decide), ⟨none, 0, rfl, rfl⟩⟩
  | some ad =>
    refine con_of_wp Try.func43 rfl Try.ntmps43 Try.results43 rfl ?_
    intro w F rn S hrn
    have E := Ext.refl w
    have HM := Hp.le_refl M
    refine Wp_seq ?_
    refine Wp_region_lit ?_
    refine W_v (.slice none 0 0) (x_assign rfl) rfl ?_
    refine Wl_nil ?_
    refine tn ?_
    refine Wp_seq ?_
    refine Wp_seq ?_
    refine Wp_region_lit ?_
    refine W_v (.slice (some ad) a0.length c0) (x_move rfl) rfl ?_
    refine W_v (.bool false) (x_eq_of rfl rfl (run_equal_slice_nil _ _ _ _ _ _ Try.underlying22)) rfl ?_
    refine Wl_nil ?_
    refine tn ?_
    refine Wp_cond_false rfl ?_
    refine Wp_skip ?_
    refine tn ?_
    refine Wp_seq ?_
    refine Wp_region_lit ?_
    refine W_bslice S #[] Try.underlying22 ty9 rfl rfl #[] (by kernel_rfl) (by kernel_rfl) rfl ?_
    intro b2 w3 E' S
    replace E := E.trans E'
    clear E'
    replace S := S.blk_row (r := rStr) (l := ([] : List Str)) 0 rfl 0 (Nat.le_refl 0) rfl Cells.nil
    refine W_v (.slice (some ad) a0.length c0) (x_move rfl) rfl ?_
    obtain ⟨p5, H⟩ := chkS H
    obtain ⟨src6, hs7, hC8⟩ := src_of_read (P := Try.prog) (ρ := rStr) (l := a0) (SlR.world hr0 S) (by decide)
    refine W_append S 0 rfl rfl rfl Try.underlying22 (.inl Try.underlying22) ty9 rfl (by decide) (by decide) hs7 hC8 rfl (by omega) rfl ?_
    intro v9 w10 E' S
    replace E := E.trans E'
    clear E'
    obtain ⟨A11, c12, rfl, _⟩ := (S.row_read 0 rfl).form
    refine W_v (.slice A11 (([] : List Str) ++ a0).length c12) (x_assign rfl) rfl ?_
    refine Wl_nil ?_
    refine tn ?_
    refine Wp_ret ?_
    obtain rfl := Option.some.inj H
    exact ⟨_, _, _, fun w1 e1 => run_resR (vs := [.slice A11 (([] : List Str) ++ a0).length c12]) (FA.cons (rfl) (FA.nil)), HM, E, S.pick [0] (by decide), ⟨A11, c12, rfl, rfl⟩⟩
/-! ### slices.Clone[[]int,int]: function 44 -/
def slices_Clone_int_int (k : Nat) (a0 : List Int) : Option (List Int) :=
  if ([] : List Int).length + a0.length ≤ 17592186044416 then some (([] : List Int) ++ a0) else none
set_option maxHeartbeats 2000000 in
theorem slices_Clone_int_int.mono {k : Nat} {a0 : List Int} : OLe (slices_Clone_int_int k a0) (slices_Clone_int_int (k + 1) a0) := by
  unfold slices_Clone_int_int
  repeat' (first | with_reducible exact OLe.none | with_reducible exact OLe.some | with_reducible refine OLe.ite ?_ ?_ | with_reducible refine OLe.bind ?_ (fun _ => ?_) | refine OLe.bind ?_ (fun _ => ?_) | refine OLe.ite ?_ ?_ | refine OLe.elim (fun _ => ?_) (fun _ => ?_) | split)
set_option maxHeartbeats 1000000 in
set_option maxRecDepth 100000 in
theorem slices_Clone_int_int.con (k : Nat) (M : Hp) (A0 : Option Addr) (c0 : Nat) (a0 : (List Int)) (r : (List Int)) (hr0 : SlR (rInt .i64) M (.slice A0 a0.length c0) a0) (h : slices_Clone_int_int k a0 = some r) : Con Try.prog 44 #[.slice A0 a0.length c0] M [] (fun v M' Γ' => ∃ (A0 : Option Addr) (c0 : Nat), v = .slice A0 r.length c0 ∧ Γ' = [Row (rInt .i64) 3 (.slice A0 r.length c0) r]) := by
  have H := h
  unfold slices_Clone_int_int at H
  cases A0 with
  | none =>
    obtain ⟨_, H⟩ := chkS H
    obtain rfl : a0 = [] := SlW.none_nil hr0
    refine con_of_wp Try.func44 rfl Try.ntmps44 Try.results44 rfl ?_
    intro w F rn S hrn
    have E := Ext.refl w
    have HM := Hp.le_refl M
    refine Wp_seq ?_
    refine Wp_region_lit ?_
    refine W_v (.slice none 0 0) (x_assign rfl) rfl ?_
    refine Wl_nil ?_
    refine tn ?_
    refine Wp_seq ?_
    refine Wp_seq ?_
    refine Wp_region_lit ?_
    refine W_v (.slice none ([] : List Int).length c0) (x_move rfl) rfl ?_
    refine W_v (.bool true) (x_eq_of rfl rfl (run_equal_slice_nil _ _ _ _ _ _ Try.underlying23)) rfl ?_
    refine Wl_nil ?_
    refine tn ?_
    refine Wp_cond_true rfl ?_
    refine Wp_seq ?_
    refine Wp_region_lit ?_
    refine W_v (.slice none 0 0) (x_assign rfl) rfl ?_
    refine Wl_nil ?_
    refine tn ?_
    refine Wp_ret ?_
    refine tr (?_)
    obtain rfl := Option.some.inj H
    replace S := S.row_nil (rInt .i64) 3
    exact ⟨_, _, _, fun w1 e1 => run_resR (vs := [.slice none 0 0]) (FA.cons (rfl) (FA.nil)), HM, E, S.pick [0] (by decide), ⟨none, 0, rfl, rfl⟩⟩
  | some ad =>
    refine con_of_wp Try.func44 rfl Try.ntmps44 Try.results44 rfl ?_
    intro w F rn S hrn
    have E := Ext.refl w
    have HM := Hp.le_refl M
    refine Wp_seq ?_
    refine Wp_region_lit ?_
    refine W_v (.slice none 0 0) (x_assign rfl) rfl ?_
    refine Wl_nil ?_
    refine tn ?_
    refine Wp_seq ?_
    refine Wp_seq ?_
    refine Wp_region_lit ?_
    refine W_v (.slice (some ad) a0.length c0) (x_move rfl) rfl ?_
    refine W_v (.bool false) (x_eq_of rfl rfl (run_equal_slice_nil _ _ _ _ _ _ Try.underlying23)) rfl ?_
    refine Wl_nil ?_
    refine tn ?_
    refine Wp_cond_false rfl ?_
    refine Wp_skip ?_
    refine tn ?_
    refine Wp_seq ?_
    refine Wp_region_lit ?_
    refine W_bslice S #[] Try.underlying23 ty3 rfl rfl #[] (by kernel_rfl) (by kernel_rfl) rfl ?_
    intro b2 w3 E' S
    replace E := E.trans E'
    clear E'
    replace S := S.blk_row (r := (rInt .i64)) (l := ([] : List Int)) 0 rfl 0 (Nat.le_refl 0) rfl Cells.nil
    refine W_v (.slice (some ad) a0.length c0) (x_move rfl) rfl ?_
    obtain ⟨p5, H⟩ := chkS H
    obtain ⟨src6, hs7, hC8⟩ := src_of_read (P := Try.prog) (ρ := (rInt .i64)) (l := a0) (SlR.world hr0 S) (by decide)
    refine W_append S 0 rfl rfl rfl Try.underlying23 (.inl Try.underlying23) ty3 rfl (by decide) (by decide) hs7 hC8 rfl (by omega) rfl ?_
    intro v9 w10 E' S
    replace E := E.trans E'
    clear E'
    obtain ⟨A11, c12, rfl, _⟩ := (S.row_read 0 rfl).form
    refine W_v (.slice A11 (([] : List Int) ++ a0).length c12) (x_assign rfl) rfl ?_
    refine Wl_nil ?_
    refine tn ?_
    refine Wp_ret ?_
    obtain rfl := Option.some.inj H
    exact ⟨_, _, _, fun w1 e1 => run_resR (vs := [.slice A11 (([] : List Int) ++ a0).length c12]) (FA.cons (rfl) (FA.nil)), HM, E, S.pick [0] (by decide), ⟨A11, c12, rfl, rfl⟩⟩
/-! ### slices.Clone[[]ferryman/api.Handle,ferryman/api.Handle]: function 45 -/
def slices_Clone_api_Handle_api_Handle (k : Nat) (a0 : List Int) : Option (List Int) :=
  if ([] : List Int).length + a0.length ≤ 17592186044416 then some (([] : List Int) ++ a0) else none
set_option maxHeartbeats 2000000 in
theorem slices_Clone_api_Handle_api_Handle.mono {k : Nat} {a0 : List Int} : OLe (slices_Clone_api_Handle_api_Handle k a0) (slices_Clone_api_Handle_api_Handle (k + 1) a0) := by
  unfold slices_Clone_api_Handle_api_Handle
  repeat' (first | with_reducible exact OLe.none | with_reducible exact OLe.some | with_reducible refine OLe.ite ?_ ?_ | with_reducible refine OLe.bind ?_ (fun _ => ?_) | refine OLe.bind ?_ (fun _ => ?_) | refine OLe.ite ?_ ?_ | refine OLe.elim (fun _ => ?_) (fun _ => ?_) | split)
set_option maxHeartbeats 1000000 in
set_option maxRecDepth 100000 in
theorem slices_Clone_api_Handle_api_Handle.con (k : Nat) (M : Hp) (A0 : Option Addr) (c0 : Nat) (a0 : (List Int)) (r : (List Int)) (hr0 : SlR (rInt .u64) M (.slice A0 a0.length c0) a0) (h : slices_Clone_api_Handle_api_Handle k a0 = some r) : Con Try.prog 45 #[.slice A0 a0.length c0] M [] (fun v M' Γ' => ∃ (A0 : Option Addr) (c0 : Nat), v = .slice A0 r.length c0 ∧ Γ' = [Row (rInt .u64) 41 (.slice A0 r.length c0) r]) := by
  have H := h
  unfold slices_Clone_api_Handle_api_Handle at H
  cases A0 with
  | none =>
    obtain ⟨_, H⟩ := chkS H
    obtain rfl : a0 = [] := SlW.none_nil hr0
    refine con_of_wp Try.func45 rfl Try.ntmps45 Try.results45 rfl ?_
    intro w F rn S hrn
    have E := Ext.refl w
    have HM := Hp.le_refl M
    refine Wp_seq ?_
    refine Wp_region_lit ?_
    refine W_v (.slice none 0 0) (x_assign rfl) rfl ?_
    refine Wl_nil ?_
    refine tn ?_
    refine Wp_seq ?_
    refine Wp_seq ?_
    refine Wp_region_lit ?_
    refine W_v (.slice none ([] : List Int).length c0) (x_move rfl) rfl ?_
    refine W_v (.bool true) (x_eq_of rfl rfl (run_equal_slice_nil _ _ _ _ _ _ Try.underlying24)) rfl ?_
    refine Wl_nil ?_
    refine tn ?_
    refine Wp_cond_true rfl ?_
    refine Wp_seq ?_
    refine Wp_region_lit ?_
    refine W_v (.slice none 0 0) (x_assign rfl) rfl ?_
    refine Wl_nil ?_
    refine tn ?_
    refine Wp_ret ?_
    refine tr (?_)
    obtain rfl := Option.some.inj H
    replace S := S.row_nil (rInt .u64) 41
    exact ⟨_, _, _, fun w1 e1 => run_resR (vs := [.slice none 0 0]) (FA.cons (rfl) (FA.nil)), HM, E, S.pick [0] (by decide), ⟨none, 0, rfl, rfl⟩⟩
  | some ad =>
    refine con_of_wp Try.func45 rfl Try.ntmps45 Try.results45 rfl ?_
    intro w F rn S hrn
    have E := Ext.refl w
    have HM := Hp.le_refl M
    refine Wp_seq ?_
    refine Wp_region_lit ?_
    refine W_v (.slice none 0 0) (x_assign rfl) rfl ?_
    refine Wl_nil ?_
    refine tn ?_
    refine Wp_seq ?_
    refine Wp_seq ?_
    refine Wp_region_lit ?_
    refine W_v (.slice (some ad) a0.length c0) (x_move rfl) rfl ?_
    refine W_v (.bool false) (x_eq_of rfl rfl (run_equal_slice_nil _ _ _ _ _ _ Try.underlying24)) rfl ?_
    refine Wl_nil ?_
    refine tn ?_
    refine Wp_cond_false rfl ?_
    refine Wp_skip ?_
    refine tn ?_
    refine Wp_seq ?_
    refine Wp_region_lit ?_
    refine W_bslice S #[] Try.underlying24 ty41 rfl rfl #[] (by kernel_rfl) (by kernel_rfl) rfl ?_
    intro b2 w3 E' S
    replace E := E.trans E'
    clear E'
    replace S := S.blk_row (r := (rInt .u64)) (l := ([] : List Int)) 0 rfl 0 (Nat.le_refl 0) rfl Cells.nil
    refine W_v (.slice (some ad) a0.length c0) (x_move rfl) rfl ?_
    obtain ⟨p5, H⟩ := chkS H
    obtain ⟨src6, hs7, hC8⟩ := src_of_read (P := Try.prog) (ρ := (rInt .u64)) (l := a0) (SlR.world hr0 S) (by decide)
    refine W_append S 0 rfl rfl rfl Try.underlying24 (.inl Try.underlying24) ty41 rfl (by decide) (by decide) hs7 hC8 rfl (by omega) rfl ?_
    intro v9 w10 E' S
    replace E := E.trans E'
    clear E'
    obtain ⟨A11, c12, rfl, _⟩ := (S.row_read 0 rfl).form
    refine W_v (.slice A11 (([] : List Int) ++ a0).length c12) (x_assign rfl) rfl ?_
    refine Wl_nil ?_
    refine tn ?_
    refine Wp_ret ?_
    obtain rfl := Option.some.inj H
    exact ⟨_, _, _, fun w1 e1 => run_resR (vs := [.slice A11 (([] : List Int) ++ a0).length c12]) (FA.cons (rfl) (FA.nil)), HM, E, S.pick [0] (by decide), ⟨A11, c12, rfl, rfl⟩⟩
/-! ### ferryman/fork.Copy: function 31 -/
def fork_Copy (k : Nat) (a0 : fork_Node) : Option (fork_Node) :=
  (Option.bind (slices_Clone_string_string k a0.Keys) (fun t28 => (Option.bind (slices_Clone_int_int k a0.Kids) (fun t34 => (Option.bind (slices_Clone_api_Handle_api_Handle k a0.Rows) (fun t40 => some (⟨a0.Leaf, t28, t34, t40⟩ : fork_Node)))))))
set_option maxHeartbeats 2000000 in
theorem fork_Copy.mono {k : Nat} {a0 : fork_Node} : OLe (fork_Copy k a0) (fork_Copy (k + 1) a0) := by
  unfold fork_Copy
  repeat' (first | with_reducible exact OLe.none | with_reducible exact OLe.some | with_reducible refine OLe.ite ?_ ?_ | with_reducible refine OLe.bind ?_ (fun _ => ?_) | with_reducible exact slices_Clone_api_Handle_api_Handle.mono | with_reducible exact slices_Clone_int_int.mono | with_reducible exact slices_Clone_string_string.mono | refine OLe.bind ?_ (fun _ => ?_) | refine OLe.ite ?_ ?_ | refine OLe.elim (fun _ => ?_) (fun _ => ?_) | split)
set_option maxHeartbeats 1000000 in
set_option maxRecDepth 100000 in
theorem fork_Copy.con (k : Nat) (M : Hp) (A0_0 : Option Addr) (c0_0 : Nat) (A0_1 : Option Addr) (c0_1 : Nat) (A0_2 : Option Addr) (c0_2 : Nat) (a0 : fork_Node) (r : fork_Node) (hr0_0 : SlR rStr M (.slice A0_0 a0.Keys.length c0_0) a0.Keys) (hr0_1 : SlR (rInt .i64) M (.slice A0_1 a0.Kids.length c0_1) a0.Kids) (hr0_2 : SlR (rInt .u64) M (.slice A0_2 a0.Rows.length c0_2) a0.Rows) (h : fork_Copy k a0 = some r) : Con Try.prog 31 #[.agg #[.bool a0.Leaf, .slice A0_0 a0.Keys.length c0_0, .slice A0_1 a0.Kids.length c0_1, .slice A0_2 a0.Rows.length c0_2]] M [] (fun v M' Γ' => ∃ (A0 : Option Addr) (c0 : Nat) (A1 : Option Addr) (c1 : Nat) (A2 : Option Addr) (c2 : Nat), v = .agg #[.bool r.Leaf, .slice A0 r.Keys.length c0, .slice A1 r.Kids.length c1, .slice A2 r.Rows.length c2] ∧ Γ' = [Row rStr 9 (.slice A0 r.Keys.length c0) r.Keys, Row (rInt .i64) 3 (.slice A1 r.Kids.length c1) r.Kids, Row (rInt .u64) 41 (.slice A2 r.Rows.length c2) r.Rows]) := by
  refine con_of_wp Try.func31 rfl Try.ntmps31 Try.results31 rfl ?_
  intro w F rn S hrn
  have E := Ext.refl w
  have HM := Hp.le_refl M
  have H := h
  unfold fork_Copy at H
  refine Wp_seq ?_
  refine Wp_region_lit ?_
  refine W_box S #[.bool a0.Leaf, .slice A0_0 a0.Keys.length c0_0, .slice A0_1 a0.Kids.length c0_1, .slice A0_2 a0.Rows.length c0_2] rfl rfl rfl ?_
  intro b1 w2 E' S
  replace E := E.trans E'
  clear E'
  refine W_alloc S #[.bool false, .slice none 0 0, .slice none 0 0, .slice none 0 0] ty26 rfl rfl ?_
  intro b4 w5 E' S
  replace E := E.trans E'
  clear E'
  refine Wl_nil ?_
  refine tn ?_
  refine Wp_seq ?_
  refine Wp_region_any (S := fun w' => ∃ Mx, M.le Mx ∧ St w' Mx F [Blk b1 (.cells #[.bool a0.Leaf, .slice A0_0 a0.Keys.length c0_0, .slice A0_1 a0.Kids.length c0_1, .slice A0_2 a0.Rows.length c0_2] 26 (0, 0))]) mixed ?_
  intro w26 hw27 E'
  replace S := S.heap hw27
  replace E := E.trans E'
  clear E'
  refine Wa_take (i := 0) rfl (by kernel_rfl) rfl rfl (.pointer (some ⟨b1, 0, none⟩)) rfl (fun w' h' => x_fieldAddr (o := 0) (off := 0) Try.underlying26 rfl ty4 rfl rfl) (⟨M, Hp.le_refl M, S.pick [1] (by decide)⟩) ?_
  refine Wa_take (i := 1) rfl (by kernel_rfl) rfl rfl (.bool a0.Leaf) rfl (fun w' h' => x_load (cls_blk h' 0 rfl) ty4 rfl rfl) (⟨M, Hp.le_refl M, S.pick [1] (by decide)⟩) ?_
  refine Wa_take (i := 2) rfl (by kernel_rfl) rfl rfl (.pointer (some ⟨b1, 1, none⟩)) rfl (fun w' h' => x_fieldAddr (o := 0) (off := 1) Try.underlying26 rfl ty22 rfl rfl) (⟨M, Hp.le_refl M, S.pick [1] (by decide)⟩) ?_
  refine Wa_take (i := 3) rfl (by kernel_rfl) rfl rfl (.slice A0_0 a0.Keys.length c0_0) rfl (fun w' h' => x_load (cls_blk h' 0 rfl) ty22 rfl rfl) (⟨M, Hp.le_refl M, S.pick [1] (by decide)⟩) ?_
  refine Wa_take (i := 5) rfl (by kernel_rfl) rfl rfl (.pointer (some ⟨b1, 2, none⟩)) rfl (fun w' h' => x_fieldAddr (o := 0) (off := 2) Try.underlying26 rfl ty23 rfl rfl) (⟨M, Hp.le_refl M, S.pick [1] (by decide)⟩) ?_
  refine Wa_take (i := 6) rfl (by kernel_rfl) rfl rfl (.slice A0_1 a0.Kids.length c0_1) rfl (fun w' h' => x_load (cls_blk h' 0 rfl) ty23 rfl rfl) (⟨M, Hp.le_refl M, S.pick [1] (by decide)⟩) ?_
  refine Wa_take (i := 8) rfl (by kernel_rfl) rfl rfl (.pointer (some ⟨b1, 3, none⟩)) rfl (fun w' h' => x_fieldAddr (o := 0) (off := 3) Try.underlying26 rfl ty24 rfl rfl) (⟨M, Hp.le_refl M, S.pick [1] (by decide)⟩) ?_
  refine Wa_take (i := 9) rfl (by kernel_rfl) rfl rfl (.slice A0_2 a0.Rows.length c0_2) rfl (fun w' h' => x_load (cls_blk h' 0 rfl) ty24 rfl rfl) (⟨M, Hp.le_refl M, S.pick [1] (by decide)⟩) ?_
  refine Wa_solo (i := 4) rfl (by kernel_rfl) ?_
  obtain ⟨t28, ht29, H⟩ := bindS H
  refine W_callF fn43 (slices_Clone_string_string.con k M A0_0 c0_0 a0.Keys t28 hr0_0 ht29) S rfl rfl (by rintro _ _ _ ⟨_, _, _, rfl⟩; exact (flat_cons (flat_row (fun _ _ _ _ h => h)) flat_nil)) ?_
  rintro _ w33 _ Γ' E' S ⟨A30, c31, rfl, rfl⟩
  replace E := E.trans E'
  clear E'
  refine Wl_nil (on_n ⟨⟨M, Hp.le_refl M, S.pick [2] (by decide)⟩, ?_⟩)
  refine Wa_solo (i := 7) rfl (by kernel_rfl) ?_
  obtain ⟨t34, ht35, H⟩ := bindS H
  refine W_callF fn44 (slices_Clone_int_int.con k M A0_1 c0_1 a0.Kids t34 hr0_1 ht35) S rfl rfl (by rintro _ _ _ ⟨_, _, _, rfl⟩; exact (flat_cons (flat_row (fun _ _ _ _ h => h)) flat_nil)) ?_
  rintro _ w39 _ Γ' E' S ⟨A36, c37, rfl, rfl⟩
  replace E := E.trans E'
  clear E'
  refine Wl_nil (on_n ⟨⟨M, Hp.le_refl M, S.pick [3] (by decide)⟩, ?_⟩)
  refine Wa_solo (i := 10) rfl (by kernel_rfl) ?_
  obtain ⟨t40, ht41, H⟩ := bindS H
  refine W_callF fn45 (slices_Clone_api_Handle_api_Handle.con k M A0_2 c0_2 a0.Rows t40 hr0_2 ht41) S rfl rfl (by rintro _ _ _ ⟨_, _, _, rfl⟩; exact (flat_cons (flat_row (fun _ _ _ _ h => h)) flat_nil)) ?_
  rintro _ w45 _ Γ' E' S ⟨A42, c43, rfl, rfl⟩
  replace E := E.trans E'
  clear E'
  refine Wl_nil (on_n ⟨⟨M, Hp.le_refl M, S.pick [4] (by decide)⟩, ?_⟩)
  refine Wa_take (i := 11) rfl (by kernel_rfl) rfl rfl (.agg #[.bool a0.Leaf, .slice A30 t28.length c31, .slice A36 t34.length c37, .slice A42 t40.length c43]) rfl (fun w' h' => x_build2 (pl := [(0, 1), (1, 1), (2, 1), (3, 1)]) #[.bool a0.Leaf, .slice A30 t28.length c31, .slice A36 t34.length c37, .slice A42 t40.length c43] Try.underlying26 ty26 (by kernel_rfl) rfl (by kernel_rfl)) (⟨M, Hp.le_refl M, S.pick [4] (by decide)⟩) ?_
  refine Wa_solo (i := 12) rfl (by kernel_rfl) ?_
  refine W_store S 3 rfl ty26 rfl rfl [.bool a0.Leaf, .slice A30 t28.length c31, .slice A36 t34.length c37, .slice A42 t40.length c43] rfl rfl rfl #[.bool a0.Leaf, .slice A30 t28.length c31, .slice A36 t34.length c37, .slice A42 t40.length c43] rfl rfl ?_
  intro w46 E' S
  replace E := E.trans E'
  clear E'
  refine Wl_nil (on_n ⟨⟨M, Hp.le_refl M, S.pick [4] (by decide)⟩, ?_⟩)
  refine Wa_done (by kernel_rfl) ?_
  refine tn ?_
  refine Wp_ret ?_
  obtain rfl := Option.some.inj H
  exact ⟨_, _, _, fun w1 e1 => run_resR (vs := [.agg #[.bool a0.Leaf, .slice A30 t28.length c31, .slice A36 t34.length c37, .slice A42 t40.length c43]]) (FA.cons (⟨_, rfl, run_loadVar_agg ty26 ((S.of_eq e1).blk 3 rfl) (sub_of_extract rfl) rfl (by decide)⟩) (FA.nil)), HM, E, S.pick [2, 1, 0] (by decide), ⟨A30, c31, A36, c37, A42, c43, rfl, rfl⟩⟩
/-! ### ferryman/fork.Split: function 15 -/
def fork_Split (k : Nat) (a0 : fork_Node) : Option (fork_Node × fork_Node × Str × Int) :=
  (Option.bind (fork_May k a0) (fun t10 => (if ((!t10) || (decide ((a0.Keys.length : Int) < (3 : Int)))) = true then some ((⟨false, ([] : (List Str)), ([] : (List Int)), ([] : (List Int))⟩ : fork_Node), (⟨false, ([] : (List Str)), ([] : (List Int)), ([] : (List Int))⟩ : fork_Node), ([] : Str), (4 : Int)) else (Option.bind (fork_Copy k a0) (fun t21 => (if 0 ≤ (IntKind.i64.wrap (Int.tdiv (IntKind.i64.wrap ((t21.Keys.length : Int) + (1 : Int))) (2 : Int))) ∧ (IntKind.i64.wrap (Int.tdiv (IntKind.i64.wrap ((t21.Keys.length : Int) + (1 : Int))) (2 : Int))) < (t21.Keys.length : Int) then (if a0.Leaf = true then (if 0 ≤ (IntKind.i64.wrap (Int.tdiv (IntKind.i64.wrap ((t21.Keys.length : Int) + (1 : Int))) (2 : Int))) ∧ (IntKind.i64.wrap (Int.tdiv (IntKind.i64.wrap ((t21.Keys.length : Int) + (1 : Int))) (2 : Int))) ≤ (IntKind.i64.wrap (Int.tdiv (IntKind.i64.wrap ((t21.Keys.length : Int) + (1 : Int))) (2 : Int))) ∧ (IntKind.i64.wrap (Int.tdiv (IntKind.i64.wrap ((t21.Keys.length : Int) + (1 : Int))) (2 : Int))) ≤ (t21.Keys.length : Int) then (if 0 ≤ (IntKind.i64.wrap (Int.tdiv (IntKind.i64.wrap ((t21.Keys.length : Int) + (1 : Int))) (2 : Int))) ∧ (IntKind.i64.wrap (Int.tdiv (IntKind.i64.wrap ((t21.Keys.length : Int) + (1 : Int))) (2 : Int))) ≤ (IntKind.i64.wrap (Int.tdiv (IntKind.i64.wrap ((t21.Keys.length : Int) + (1 : Int))) (2 : Int))) ∧ (IntKind.i64.wrap (Int.tdiv (IntKind.i64.wrap ((t21.Keys.length : Int) + (1 : Int))) (2 : Int))) ≤ (t21.Rows.length : Int) then (if 0 ≤ (IntKind.i64.wrap (Int.tdiv (IntKind.i64.wrap ((t21.Keys.length : Int) + (1 : Int))) (2 : Int))) ∧ (IntKind.i64.wrap (Int.tdiv (IntKind.i64.wrap ((t21.Keys.length : Int) + (1 : Int))) (2 : Int))) ≤ (t21.Keys.length : Int) then (if 0 ≤ (IntKind.i64.wrap (Int.tdiv (IntKind.i64.wrap ((t21.Keys.length : Int) + (1 : Int))) (2 : Int))) ∧ (IntKind.i64.wrap (Int.tdiv (IntKind.i64.wrap ((t21.Keys.length : Int) + (1 : Int))) (2 : Int))) ≤ (t21.Rows.length : Int) then some ((⟨true, (List.take (IntKind.i64.wrap (Int.tdiv (IntKind.i64.wrap ((t21.Keys.length : Int) + (1 : Int))) (2 : Int))).toNat t21.Keys), ([] : (List Int)), (List.take (IntKind.i64.wrap (Int.tdiv (IntKind.i64.wrap ((t21.Keys.length : Int) + (1 : Int))) (2 : Int))).toNat t21.Rows)⟩ : fork_Node), (⟨true, (List.drop (IntKind.i64.wrap (Int.tdiv (IntKind.i64.wrap ((t21.Keys.length : Int) + (1 : Int))) (2 : Int))).toNat t21.Keys), ([] : (List Int)), (List.drop (IntKind.i64.wrap (Int.tdiv (IntKind.i64.wrap ((t21.Keys.length : Int) + (1 : Int))) (2 : Int))).toNat t21.Rows)⟩ : fork_Node), (rd t21.Keys (IntKind.i64.wrap (Int.tdiv (IntKind.i64.wrap ((t21.Keys.length : Int) + (1 : Int))) (2 : Int)))), (0 : Int)) else none) else none) else none) else none) else (if 0 ≤ (IntKind.i64.wrap (Int.tdiv (IntKind.i64.wrap ((t21.Keys.length : Int) + (1 : Int))) (2 : Int))) ∧ (IntKind.i64.wrap (Int.tdiv (IntKind.i64.wrap ((t21.Keys.length : Int) + (1 : Int))) (2 : Int))) ≤ (IntKind.i64.wrap (Int.tdiv (IntKind.i64.wrap ((t21.Keys.length : Int) + (1 : Int))) (2 : Int))) ∧ (IntKind.i64.wrap (Int.tdiv (IntKind.i64.wrap ((t21.Keys.length : Int) + (1 : Int))) (2 : Int))) ≤ (t21.Keys.length : Int) then (if 0 ≤ (IntKind.i64.wrap ((IntKind.i64.wrap (Int.tdiv (IntKind.i64.wrap ((t21.Keys.length : Int) + (1 : Int))) (2 : Int))) + (1 : Int))) ∧ (IntKind.i64.wrap ((IntKind.i64.wrap (Int.tdiv (IntKind.i64.wrap ((t21.Keys.length : Int) + (1 : Int))) (2 : Int))) + (1 : Int))) ≤ (IntKind.i64.wrap ((IntKind.i64.wrap (Int.tdiv (IntKind.i64.wrap ((t21.Keys.length : Int) + (1 : Int))) (2 : Int))) + (1 : Int))) ∧ (IntKind.i64.wrap ((IntKind.i64.wrap (Int.tdiv (IntKind.i64.wrap ((t21.Keys.length : Int) + (1 : Int))) (2 : Int))) + (1 : Int))) ≤ (t21.Kids.length : Int) then (if 0 ≤ (IntKind.i64.wrap ((IntKind.i64.wrap (Int.tdiv (IntKind.i64.wrap ((t21.Keys.length : Int) + (1 : Int))) (2 : Int))) + (1 : Int))) ∧ (IntKind.i64.wrap ((IntKind.i64.wrap (Int.tdiv (IntKind.i64.wrap ((t21.Keys.length : Int) + (1 : Int))) (2 : Int))) + (1 : Int))) ≤ (t21.Keys.length : Int) then (if 0 ≤ (IntKind.i64.wrap ((IntKind.i64.wrap (Int.tdiv (IntKind.i64.wrap ((t21.Keys.length : Int) + (1 : Int))) (2 : Int))) + (1 : Int))) ∧ (IntKind.i64.wrap ((IntKind.i64.wrap (Int.tdiv (IntKind.i64.wrap ((t21.Keys.length : Int) + (1 : Int))) (2 : Int))) + (1 : Int))) ≤ (t21.Kids.length : Int) then some ((⟨false, (List.take (IntKind.i64.wrap (Int.tdiv (IntKind.i64.wrap ((t21.Keys.length : Int) + (1 : Int))) (2 : Int))).toNat t21.Keys), (List.take (IntKind.i64.wrap ((IntKind.i64.wrap (Int.tdiv (IntKind.i64.wrap ((t21.Keys.length : Int) + (1 : Int))) (2 : Int))) + (1 : Int))).toNat t21.Kids), ([] : (List Int))⟩ : fork_Node), (⟨false, (List.drop (IntKind.i64.wrap ((IntKind.i64.wrap (Int.tdiv (IntKind.i64.wrap ((t21.Keys.length : Int) + (1 : Int))) (2 : Int))) + (1 : Int))).toNat t21.Keys), (List.drop (IntKind.i64.wrap ((IntKind.i64.wrap (Int.tdiv (IntKind.i64.wrap ((t21.Keys.length : Int) + (1 : Int))) (2 : Int))) + (1 : Int))).toNat t21.Kids), ([] : (List Int))⟩ : fork_Node), (rd t21.Keys (IntKind.i64.wrap (Int.tdiv (IntKind.i64.wrap ((t21.Keys.length : Int) + (1 : Int))) (2 : Int)))), (0 : Int)) else none) else none) else none) else none)) else none))))))
set_option maxHeartbeats 2000000 in
theorem fork_Split.mono {k : Nat} {a0 : fork_Node} : OLe (fork_Split k a0) (fork_Split (k + 1) a0) := by
  unfold fork_Split
  repeat' (first | with_reducible exact OLe.none | with_reducible exact OLe.some | with_reducible refine OLe.ite ?_ ?_ | with_reducible refine OLe.bind ?_ (fun _ => ?_) | with_reducible exact fork_Copy.mono | with_reducible exact fork_May.mono | refine OLe.bind ?_ (fun _ => ?_) | refine OLe.ite ?_ ?_ | refine OLe.elim (fun _ => ?_) (fun _ => ?_) | split)
set_option maxHeartbeats 1000000 in
set_option maxRecDepth 100000 in
theorem fork_Split.con (k : Nat) (M : Hp) (A0_0 : Option Addr) (c0_0 : Nat) (A0_1 : Option Addr) (c0_1 : Nat) (A0_2 : Option Addr) (c0_2 : Nat) (a0 : fork_Node) (r : fork_Node × fork_Node × Str × Int) (hr0_0 : SlR rStr M (.slice A0_0 a0.Keys.length c0_0) a0.Keys) (hr0_1 : SlR (rInt .i64) M (.slice A0_1 a0.Kids.length c0_1) a0.Kids) (hr0_2 : SlR (rInt .u64) M (.slice A0_2 a0.Rows.length c0_2) a0.Rows) (h : fork_Split k a0 = some r) : Con Try.prog 15 #[.agg #[.bool a0.Leaf, .slice A0_0 a0.Keys.length c0_0, .slice A0_1 a0.Kids.length c0_1, .slice A0_2 a0.Rows.length c0_2]] M [] (fun v M' Γ' => ∃ (A0 : Option Addr) (c0 : Nat) (A1 : Option Addr) (c1 : Nat) (A2 : Option Addr) (c2 : Nat) (A3 : Option Addr) (c3 : Nat) (A4 : Option Addr) (c4 : Nat) (A5 : Option Addr) (c5 : Nat), v = .tuple #[.agg #[.bool r.1.Leaf, .slice A0 r.1.Keys.length c0, .slice A1 r.1.Kids.length c1, .slice A2 r.1.Rows.length c2], .agg #[.bool r.2.1.Leaf, .slice A3 r.2.1.Keys.length c3, .slice A4 r.2.1.Kids.length c4, .slice A5 r.2.1.Rows.length c5], .string (bs r.2.2.1), .int .i64 r.2.2.2] ∧ SlR rStr M' (.slice A0 r.1.Keys.length c0) r.1.Keys ∧ SlR (rInt .i64) M' (.slice A1 r.1.Kids.length c1) r.1.Kids ∧ SlR (rInt .u64) M' (.slice A2 r.1.Rows.length c2) r.1.Rows ∧ SlR rStr M' (.slice A3 r.2.1.Keys.length c3) r.2.1.Keys ∧ SlR (rInt .i64) M' (.slice A4 r.2.1.Kids.length c4) r.2.1.Kids ∧ SlR (rInt .u64) M' (.slice A5 r.2.1.Rows.length c5) r.2.1.Rows ∧ Γ' = []) := by
  refine con_of_wp Try.func15 rfl Try.ntmps15 Try.results15 rfl ?_
  intro w F rn S hrn
  have E := Ext.refl w
  have HM := Hp.le_refl M
  have H := h
  unfold fork_Split at H
  refine Wp_seq ?_
  refine Wp_region_lit ?_
  refine W_box S #[.bool a0.Leaf, .slice A0_0 a0.Keys.length c0_0, .slice A0_1 a0.Kids.length c0_1, .slice A0_2 a0.Rows.length c0_2] rfl rfl rfl ?_
  intro b1 w2 E' S
  replace E := E.trans E'
  clear E'
  refine W_alloc S #[.bool false, .slice none 0 0, .slice none 0 0, .slice none 0 0] ty26 rfl rfl ?_
  intro b4 w5 E' S
  replace E := E.trans E'
  clear E'
  refine W_alloc S #[.bool false, .slice none 0 0, .slice none 0 0, .slice none 0 0] ty26 rfl rfl ?_
  intro b7 w8 E' S
  replace E := E.trans E'
  clear E'
  refine W_v (.string (bs ([] : Str))) (x_assign rfl) rfl ?_
  refine W_v (.int .i64 0) (x_assign rfl) rfl ?_
  refine Wl_nil ?_
  refine tn ?_
  refine Wp_seq ?_
  refine Wp_seq ?_
  refine Wp_region_lit ?_
  refine W_v (.agg #[.bool a0.Leaf, .slice A0_0 a0.Keys.length c0_0, .slice A0_1 a0.Kids.length c0_1, .slice A0_2 a0.Rows.length c0_2]) (x_loadA (S.blk 2 rfl) ty26 rfl (sub_of_extract rfl) rfl rfl) rfl ?_
  obtain ⟨t10, ht11, H⟩ := bindS H
  refine W_callF fn11 (fork_May.con k M A0_0 c0_0 A0_1 c0_1 A0_2 c0_2 a0 t10 hr0_0 hr0_1 hr0_2 ht11) S rfl rfl (by rintro _ _ _ ⟨_, rfl⟩; exact flat_nil) ?_
  rintro _ w12 _ Γ' E' S ⟨rfl, rfl⟩
  replace E := E.trans E'
  clear E'
  refine W_v (.bool (!t10)) (x_not rfl) rfl ?_
  refine W_v (.bool (!t10)) (x_move rfl) rfl ?_
  refine Wl_cutN 5 (fun ρ w' => Agree ρ [(1, .pointer (some ⟨b1, 0, none⟩)), (2, .pointer (some ⟨b4, 0, none⟩)), (3, .pointer (some ⟨b7, 0, none⟩)), (16, .bool ((!t10) || (decide ((a0.Keys.length : Int) < (3 : Int)))))] ∧ w12 = w') ?_ ?_
  · rcases boolCases (!t10) with hb13 | hb13
    · skip
      refine W_yes (congrArg some hb13) ?_
      refine W_v (.pointer (some ⟨b1, 1, none⟩)) (x_fieldAddr (o := 0) (off := 1) Try.underlying26 rfl ty22 rfl rfl) rfl ?_
      refine W_yes (congrArg some hb13) ?_
      refine W_v (.slice A0_0 a0.Keys.length c0_0) (x_load (S.blk 2 rfl) ty22 rfl rfl) rfl ?_
      refine W_yes (congrArg some hb13) ?_
      refine W_v (.int .i64 (a0.Keys.length : Int)) (x_len_slice (n := a0.Keys.length) Try.underlying22 rfl) rfl ?_
      refine W_yes (congrArg some hb13) ?_
      refine W_v (.bool (decide ((a0.Keys.length : Int) < (3 : Int)))) (x_ibin rfl rfl rfl rfl) rfl ?_
      refine W_v (.bool (decide ((a0.Keys.length : Int) < (3 : Int)))) (x_pick (k := false) (congrArg Value.bool hb13) rfl) rfl ?_
      refine Wl_nil ?_
      exact ⟨⟨rfl, rfl, rfl, (by first | rfl | (rw [hb13]; rfl) | (simp only [hb13]; rfl)), trivial⟩, rfl⟩
    · skip
      refine W_no (skF hb13) rfl ?_
      refine W_no (skF hb13) rfl ?_
      refine W_no (skF hb13) rfl ?_
      refine W_no (skF hb13) rfl ?_
      refine W_v (.bool true) (x_pick (k := true) (congrArg Value.bool hb13) rfl) rfl ?_
      refine Wl_nil ?_
      exact ⟨⟨rfl, rfl, rfl, (by first | rfl | (rw [hb13]; rfl) | (simp only [hb13]; rfl)), trivial⟩, rfl⟩
  rintro ρ _ ⟨hρ, rfl⟩
  rw [agree_eta hρ]
  clear hρ
  refine Wl_nil ?_
  refine tn ?_
  rcases iteS H with ⟨hb14, H⟩ | ⟨hb14, H⟩
  · refine Wp_cond_true (congrArg Value.bool hb14) ?_
    refine Wp_seq ?_
    refine Wp_region_any (S := fun w' => ∃ Mx, M.le Mx ∧ St w' Mx F [Blk b7 (.cells #[.bool false, .slice none 0 0, .slice none 0 0, .slice none 0 0] 26 (0, 0)), Blk b4 (.cells #[.bool false, .slice none 0 0, .slice none 0 0, .slice none 0 0] 26 (0, 0)), Blk b1 (.cells #[.bool a0.Leaf, .slice A0_0 a0.Keys.length c0_0, .slice A0_1 a0.Kids.length c0_1, .slice A0_2 a0.Rows.length c0_2] 26 (0, 0))]) mixed ?_
    intro w17 hw18 E'
    replace S := S.heap hw18
    replace E := E.trans E'
    clear E'
    refine Wa_take (i := 0) rfl (by kernel_rfl) rfl rfl (.agg #[.bool false, .slice none 0 0, .slice none 0 0, .slice none 0 0]) rfl (fun w' h' => x_loadA (cls_blk h' 1 rfl) ty26 rfl (sub_of_extract rfl) rfl rfl) (⟨M, Hp.le_refl M, S.pick [0, 1, 2] (by decide)⟩) ?_
    refine Wa_take (i := 1) rfl (by kernel_rfl) rfl rfl (.agg #[.bool false, .slice none 0 0, .slice none 0 0, .slice none 0 0]) rfl (fun w' h' => x_loadA (cls_blk h' 0 rfl) ty26 rfl (sub_of_extract rfl) rfl rfl) (⟨M, Hp.le_refl M, S.pick [0, 1, 2] (by decide)⟩) ?_
    refine Wa_solo (i := 2) rfl (by kernel_rfl) ?_
    refine W_store S 1 rfl ty26 rfl rfl [.bool false, .slice none 0 0, .slice none 0 0, .slice none 0 0] rfl rfl rfl #[.bool false, .slice none 0 0, .slice none 0 0, .slice none 0 0] rfl rfl ?_
    intro w19 E' S
    replace E := E.trans E'
    clear E'
    refine Wl_nil (on_n ⟨⟨M, Hp.le_refl M, S.pick [0, 1, 2] (by decide)⟩, ?_⟩)
    refine Wa_solo (i := 3) rfl (by kernel_rfl) ?_
    refine W_store S 0 rfl ty26 rfl rfl [.bool false, .slice none 0 0, .slice none 0 0, .slice none 0 0] rfl rfl rfl #[.bool false, .slice none 0 0, .slice none 0 0, .slice none 0 0] rfl rfl ?_
    intro w20 E' S
    replace E := E.trans E'
    clear E'
    refine Wl_nil (on_n ⟨⟨M, Hp.le_refl M, S.pick [0, 1, 2] (by decide)⟩, ?_⟩)
    refine Wa_take (i := 4) rfl (by kernel_rfl) rfl rfl (.string (bs ([] : Str))) rfl (fun w' h' => x_assign rfl) (⟨M, Hp.le_refl M, S.pick [0, 1, 2] (by decide)⟩) ?_
    refine Wa_take (i := 5) rfl (by kernel_rfl) rfl rfl (.int .i64 4) rfl (fun w' h' => x_assign rfl) (⟨M, Hp.le_refl M, S.pick [0, 1, 2] (by decide)⟩) ?_
    refine Wa_done (by kernel_rfl) ?_
    refine tn ?_
    refine Wp_ret ?_
    refine tr (?_)
    obtain rfl := Option.some.inj H
    exact ⟨_, _, _, fun w1 e1 => run_resR (vs := [.agg #[.bool false, .slice none 0 0, .slice none 0 0, .slice none 0 0], .agg #[.bool false, .slice none 0 0, .slice none 0 0, .slice none 0 0], .string (bs ([] : Str)), .int .i64 4]) (FA.cons (⟨_, rfl, run_loadVar_agg ty26 ((S.of_eq e1).blk 1 rfl) (sub_of_extract rfl) rfl (by decide)⟩) (FA.cons (⟨_, rfl, run_loadVar_agg ty26 ((S.of_eq e1).blk 0 rfl) (sub_of_extract rfl) rfl (by decide)⟩) (FA.cons (rfl) (FA.cons (rfl) (FA.nil))))), HM, E, S.pick [] (by decide), ⟨none, 0, none, 0, none, 0, none, 0, none, 0, none, 0, rfl, SlW.nil _ _, SlW.nil _ _, SlW.nil _ _, SlW.nil _ _, SlW.nil _ _, SlW.nil _ _, rfl⟩⟩
  refine Wp_cond_false (congrArg Value.bool hb14) ?_
  refine Wp_skip ?_
  refine tn ?_
  refine Wp_seq ?_
  refine Wp_region_lit ?_
  refine W_v (.agg #[.bool a0.Leaf, .slice A0_0 a0.Keys.length c0_0, .slice A0_1 a0.Kids.length c0_1, .slice A0_2 a0.Rows.length c0_2]) (x_loadA (S.blk 2 rfl) ty26 rfl (sub_of_extract rfl) rfl rfl) rfl ?_
  obtain ⟨t21, ht22, H⟩ := bindS H
  refine W_callF fn31 (fork_Copy.con k M A0_0 c0_0 A0_1 c0_1 A0_2 c0_2 a0 t21 hr0_0 hr0_1 hr0_2 ht22) S rfl rfl (by rintro _ _ _ ⟨_, _, _, _, _, _, _, rfl⟩; exact (flat_cons (flat_row (fun _ _ _ _ h => h)) (flat_cons (flat_row (fun _ _ _ _ h => h)) (flat_cons (flat_row (fun _ _ _ _ h => h)) flat_nil)))) ?_
  rintro _ w32 _ Γ' E' S ⟨A23, c24, A26, c27, A29, c30, rfl, rfl⟩
  replace E := E.trans E'
  clear E'
  refine W_alloc S #[.bool false, .slice none 0 0, .slice none 0 0, .slice none 0 0] ty26 rfl rfl ?_
  intro b33 w34 E' S
  replace E := E.trans E'
  clear E'
  refine W_store S 0 rfl ty26 rfl rfl [.bool t21.Leaf, .slice A23 t21.Keys.length c24, .slice A26 t21.Kids.length c27, .slice A29 t21.Rows.length c30] rfl rfl rfl #[.bool t21.Leaf, .slice A23 t21.Keys.length c24, .slice A26 t21.Kids.length c27, .slice A29 t21.Rows.length c30] rfl rfl ?_
  intro w36 E' S
  replace E := E.trans E'
  clear E'
  refine Wl_nil ?_
  refine tn ?_
  refine Wp_seq ?_
  refine Wp_region_lit ?_
  refine W_v (.pointer (some ⟨b33, 1, none⟩)) (x_fieldAddr (o := 0) (off := 1) Try.underlying26 rfl ty22 rfl rfl) rfl ?_
  refine W_v (.slice A23 t21.Keys.length c24) (x_load (S.blk 0 rfl) ty22 rfl rfl) rfl ?_
  refine W_v (.int .i64 (t21.Keys.length : Int)) (x_len_slice (n := t21.Keys.length) Try.underlying22 rfl) rfl ?_
  refine W_v (.int .i64 (IntKind.i64.wrap ((t21.Keys.length : Int) + (1 : Int)))) (x_ibin rfl rfl rfl rfl) rfl ?_
  refine W_v (.int .i64 (IntKind.i64.wrap (Int.tdiv (IntKind.i64.wrap ((t21.Keys.length : Int) + (1 : Int))) (2 : Int)))) (x_quo rfl rfl (by decide)) rfl ?_
  refine W_v (.int .i64 (IntKind.i64.wrap (Int.tdiv (IntKind.i64.wrap ((t21.Keys.length : Int) + (1 : Int))) (2 : Int)))) (x_assign rfl) rfl ?_
  refine Wl_nil ?_
  refine tn ?_
  refine Wp_seq ?_
  refine Wp_region_lit ?_
  refine W_v (.pointer (some ⟨b33, 1, none⟩)) (x_fieldAddr (o := 0) (off := 1) Try.underlying26 rfl ty22 rfl rfl) rfl ?_
  refine W_v (.slice A23 t21.Keys.length c24) (x_load (S.blk 0 rfl) ty22 rfl rfl) rfl ?_
  refine W_v (.int .i64 (IntKind.i64.wrap (Int.tdiv (IntKind.i64.wrap ((t21.Keys.length : Int) + (1 : Int))) (2 : Int)))) (x_move rfl) rfl ?_
  obtain ⟨⟨p37, p38⟩, H⟩ := chkS H
  obtain ⟨b39, o40, cs41, _, _, ee46, hb42, vs43, hR44, hc45⟩ := SlW.at' (S.row_read 1 rfl) p37 p38
  obtain rfl : vs43 = _ := hR44
  refine W_v (.pointer (some ⟨b39, o40 + (IntKind.i64.wrap (Int.tdiv (IntKind.i64.wrap ((t21.Keys.length : Int) + (1 : Int))) (2 : Int))).toNat * 1, none⟩)) (x_indexAddr Try.underlying22 ty9 (slA ee46) rfl p37 p38) rfl ?_
  refine W_v (.string (bs (rd t21.Keys (IntKind.i64.wrap (Int.tdiv (IntKind.i64.wrap ((t21.Keys.length : Int) + (1 : Int))) (2 : Int)))))) (x_load (Hp.of_get hb42) ty9 rfl (hc45 0 _ rfl)) rfl ?_
  refine W_v (.string (bs (rd t21.Keys (IntKind.i64.wrap (Int.tdiv (IntKind.i64.wrap ((t21.Keys.length : Int) + (1 : Int))) (2 : Int)))))) (x_assign rfl) rfl ?_
  refine Wl_nil ?_
  refine tn ?_
  refine Wp_seq ?_
  refine Wp_seq ?_
  refine Wp_region_lit ?_
  refine W_v (.pointer (some ⟨b1, 0, none⟩)) (x_fieldAddr (o := 0) (off := 0) Try.underlying26 rfl ty4 rfl rfl) rfl ?_
  refine W_v (.bool a0.Leaf) (x_load (S.blk 6 rfl) ty4 rfl rfl) rfl ?_
  refine Wl_nil ?_
  refine tn ?_
  rcases iteS H with ⟨hb47, H⟩ | ⟨hb47, H⟩
  · refine Wp_cond_true (congrArg Value.bool hb47) ?_
    refine Wp_seq ?_
    obtain ⟨M78, hM79, hf80, S⟩ := S.row_freeze 1 rfl
    replace HM := Hp.le_trans HM hM79
    replace hr0_0 := SlR.mono hr0_0 hM79
    replace hr0_1 := SlR.mono hr0_1 hM79
    replace hr0_2 := SlR.mono hr0_2 hM79
    obtain ⟨M81, hM82, hf83, S⟩ := S.row_freeze 2 rfl
    replace HM := Hp.le_trans HM hM82
    replace hr0_0 := SlR.mono hr0_0 hM82
    replace hr0_1 := SlR.mono hr0_1 hM82
    replace hr0_2 := SlR.mono hr0_2 hM82
    replace hf80 := SlR.mono hf80 hM82
    refine Wp_region_any (S := fun w' => ∃ Mx, M81.le Mx ∧ St w' Mx F [Blk b33 (.cells #[.bool t21.Leaf, .slice A23 t21.Keys.length c24, .slice A26 t21.Kids.length c27, .slice A29 t21.Rows.length c30] 26 (0, 0)), Row (rInt .i64) 3 (.slice A26 t21.Kids.length c27) t21.Kids, Blk b1 (.cells #[.bool a0.Leaf, .slice A0_0 a0.Keys.length c0_0, .slice A0_1 a0.Kids.length c0_1, .slice A0_2 a0.Rows.length c0_2] 26 (0, 0))]) mixed ?_
    intro w108 hw109 E'
    replace S := S.heap hw109
    replace E := E.trans E'
    clear E'
    refine Wa_take (i := 0) rfl (by kernel_rfl) rfl rfl (.pointer (some ⟨b33, 1, none⟩)) rfl (fun w' h' => x_fieldAddr (o := 0) (off := 1) Try.underlying26 rfl ty22 rfl rfl) (⟨M81, Hp.le_refl M81, S.pick [0, 1, 4] (by decide)⟩) ?_
    refine Wa_take (i := 1) rfl (by kernel_rfl) rfl rfl (.slice A23 t21.Keys.length c24) rfl (fun w' h' => x_load (cls_blk h' 0 rfl) ty22 rfl rfl) (⟨M81, Hp.le_refl M81, S.pick [0, 1, 4] (by decide)⟩) ?_
    refine Wa_take (i := 2) rfl (by kernel_rfl) rfl rfl (.int .i64 (IntKind.i64.wrap (Int.tdiv (IntKind.i64.wrap ((t21.Keys.length : Int) + (1 : Int))) (2 : Int)))) rfl (fun w' h' => x_move rfl) (⟨M81, Hp.le_refl M81, S.pick [0, 1, 4] (by decide)⟩) ?_
    refine Wa_take (i := 3) rfl (by kernel_rfl) rfl rfl (.int .i64 (IntKind.i64.wrap (Int.tdiv (IntKind.i64.wrap ((t21.Keys.length : Int) + (1 : Int))) (2 : Int)))) rfl (fun w' h' => x_move rfl) (⟨M81, Hp.le_refl M81, S.pick [0, 1, 4] (by decide)⟩) ?_
    obtain ⟨⟨p110, p111, p112⟩, H⟩ := chkS H
    obtain ⟨hs113, hx114⟩ := sl_hm hf80 p110 p111 p112
    have hs113z := hs113
    refine Wa_take (i := 4) rfl (by kernel_rfl) rfl rfl (.slice A23 (List.take (IntKind.i64.wrap (Int.tdiv (IntKind.i64.wrap ((t21.Keys.length : Int) + (1 : Int))) (2 : Int))).toNat t21.Keys).length ((IntKind.i64.wrap (Int.tdiv (IntKind.i64.wrap ((t21.Keys.length : Int) + (1 : Int))) (2 : Int))).toNat)) rfl (fun w' h' => hx114 Try.underlying22 ty9 rfl rfl rfl) (⟨M81, Hp.le_refl M81, S.pick [0, 1, 4] (by decide)⟩) ?_
    refine Wa_take (i := 5) rfl (by kernel_rfl) rfl rfl (.pointer (some ⟨b33, 3, none⟩)) rfl (fun w' h' => x_fieldAddr (o := 0) (off := 3) Try.underlying26 rfl ty24 rfl rfl) (⟨M81, Hp.le_refl M81, S.pick [0, 1, 4] (by decide)⟩) ?_
    refine Wa_take (i := 6) rfl (by kernel_rfl) rfl rfl (.slice A29 t21.Rows.length c30) rfl (fun w' h' => x_load (cls_blk h' 0 rfl) ty24 rfl rfl) (⟨M81, Hp.le_refl M81, S.pick [0, 1, 4] (by decide)⟩) ?_
    refine Wa_take (i := 7) rfl (by kernel_rfl) rfl rfl (.int .i64 (IntKind.i64.wrap (Int.tdiv (IntKind.i64.wrap ((t21.Keys.length : Int) + (1 : Int))) (2 : Int)))) rfl (fun w' h' => x_move rfl) (⟨M81, Hp.le_refl M81, S.pick [0, 1, 4] (by decide)⟩) ?_
    refine Wa_take (i := 8) rfl (by kernel_rfl) rfl rfl (.int .i64 (IntKind.i64.wrap (Int.tdiv (IntKind.i64.wrap ((t21.Keys.length : Int) + (1 : Int))) (2 : Int)))) rfl (fun w' h' => x_move rfl) (⟨M81, Hp.le_refl M81, S.pick [0, 1, 4] (by decide)⟩) ?_
    obtain ⟨⟨p115, p116, p117⟩, H⟩ := chkS H
    obtain ⟨hs118, hx119⟩ := sl_hm hf83 p115 p116 p117
    have hs118z := hs118
    refine Wa_take (i := 9) rfl (by kernel_rfl) rfl rfl (.slice A29 (List.take (IntKind.i64.wrap (Int.tdiv (IntKind.i64.wrap ((t21.Keys.length : Int) + (1 : Int))) (2 : Int))).toNat t21.Rows).length ((IntKind.i64.wrap (Int.tdiv (IntKind.i64.wrap ((t21.Keys.length : Int) + (1 : Int))) (2 : Int))).toNat)) rfl (fun w' h' => hx119 Try.underlying24 ty41 rfl rfl rfl) (⟨M81, Hp.le_refl M81, S.pick [0, 1, 4] (by decide)⟩) ?_
    refine Wa_take (i := 10) rfl (by kernel_rfl) rfl rfl (.agg #[.bool true, .slice A23 (List.take (IntKind.i64.wrap (Int.tdiv (IntKind.i64.wrap ((t21.Keys.length : Int) + (1 : Int))) (2 : Int))).toNat t21.Keys).length ((IntKind.i64.wrap (Int.tdiv (IntKind.i64.wrap ((t21.Keys.length : Int) + (1 : Int))) (2 : Int))).toNat), .slice none 0 0, .slice A29 (List.take (IntKind.i64.wrap (Int.tdiv (IntKind.i64.wrap ((t21.Keys.length : Int) + (1 : Int))) (2 : Int))).toNat t21.Rows).length ((IntKind.i64.wrap (Int.tdiv (IntKind.i64.wrap ((t21.Keys.length : Int) + (1 : Int))) (2 : Int))).toNat)]) rfl (fun w' h' => x_build2 (pl := [(0, 1), (1, 1), (2, 1), (3, 1)]) #[.bool true, .slice A23 (List.take (IntKind.i64.wrap (Int.tdiv (IntKind.i64.wrap ((t21.Keys.length : Int) + (1 : Int))) (2 : Int))).toNat t21.Keys).length ((IntKind.i64.wrap (Int.tdiv (IntKind.i64.wrap ((t21.Keys.length : Int) + (1 : Int))) (2 : Int))).toNat), .slice none 0 0, .slice A29 (List.take (IntKind.i64.wrap (Int.tdiv (IntKind.i64.wrap ((t21.Keys.length : Int) + (1 : Int))) (2 : Int))).toNat t21.Rows).length ((IntKind.i64.wrap (Int.tdiv (IntKind.i64.wrap ((t21.Keys.length : Int) + (1 : Int))) (2 : Int))).toNat)] Try.underlying26 ty26 (by kernel_rfl) rfl (by kernel_rfl)) (⟨M81, Hp.le_refl M81, S.pick [0, 1, 4] (by decide)⟩) ?_
    refine Wa_take (i := 11) rfl (by kernel_rfl) rfl rfl (.pointer (some ⟨b33, 1, none⟩)) rfl (fun w' h' => x_fieldAddr (o := 0) (off := 1) Try.underlying26 rfl ty22 rfl rfl) (⟨M81, Hp.le_refl M81, S.pick [0, 1, 4] (by decide)⟩) ?_
    refine Wa_take (i := 12) rfl (by kernel_rfl) rfl rfl (.slice A23 t21.Keys.length c24) rfl (fun w' h' => x_load (cls_blk h' 0 rfl) ty22 rfl rfl) (⟨M81, Hp.le_refl M81, S.pick [0, 1, 4] (by decide)⟩) ?_
    refine Wa_take (i := 13) rfl (by kernel_rfl) rfl rfl (.int .i64 (IntKind.i64.wrap (Int.tdiv (IntKind.i64.wrap ((t21.Keys.length : Int) + (1 : Int))) (2 : Int)))) rfl (fun w' h' => x_move rfl) (⟨M81, Hp.le_refl M81, S.pick [0, 1, 4] (by decide)⟩) ?_
    obtain ⟨⟨p120, p121⟩, H⟩ := chkS H
    obtain ⟨A122, c123, hs124, hx125⟩ := sl_lo hf80 p120 p121
    have hs124z := hs124
    refine Wa_take (i := 14) rfl (by kernel_rfl) rfl rfl (.slice A122 (List.drop (IntKind.i64.wrap (Int.tdiv (IntKind.i64.wrap ((t21.Keys.length : Int) + (1 : Int))) (2 : Int))).toNat t21.Keys).length c123) rfl (fun w' h' => hx125 Try.underlying22 ty9 rfl rfl) (⟨M81, Hp.le_refl M81, S.pick [0, 1, 4] (by decide)⟩) ?_
    refine Wa_take (i := 15) rfl (by kernel_rfl) rfl rfl (.pointer (some ⟨b33, 3, none⟩)) rfl (fun w' h' => x_fieldAddr (o := 0) (off := 3) Try.underlying26 rfl ty24 rfl rfl) (⟨M81, Hp.le_refl M81, S.pick [0, 1, 4] (by decide)⟩) ?_
    refine Wa_take (i := 16) rfl (by kernel_rfl) rfl rfl (.slice A29 t21.Rows.length c30) rfl (fun w' h' => x_load (cls_blk h' 0 rfl) ty24 rfl rfl) (⟨M81, Hp.le_refl M81, S.pick [0, 1, 4] (by decide)⟩) ?_
    refine Wa_take (i := 17) rfl (by kernel_rfl) rfl rfl (.int .i64 (IntKind.i64.wrap (Int.tdiv (IntKind.i64.wrap ((t21.Keys.length : Int) + (1 : Int))) (2 : Int)))) rfl (fun w' h' => x_move rfl) (⟨M81, Hp.le_refl M81, S.pick [0, 1, 4] (by decide)⟩) ?_
    obtain ⟨⟨p126, p127⟩, H⟩ := chkS H
    obtain ⟨A128, c129, hs130, hx131⟩ := sl_lo hf83 p126 p127
    have hs130z := hs130
    refine Wa_take (i := 18) rfl (by kernel_rfl) rfl rfl (.slice A128 (List.drop (IntKind.i64.wrap (Int.tdiv (IntKind.i64.wrap ((t21.Keys.length : Int) + (1 : Int))) (2 : Int))).toNat t21.Rows).length c129) rfl (fun w' h' => hx131 Try.underlying24 ty41 rfl rfl) (⟨M81, Hp.le_refl M81, S.pick [0, 1, 4] (by decide)⟩) ?_
    refine Wa_take (i := 19) rfl (by kernel_rfl) rfl rfl (.agg #[.bool true, .slice A122 (List.drop (IntKind.i64.wrap (Int.tdiv (IntKind.i64.wrap ((t21.Keys.length : Int) + (1 : Int))) (2 : Int))).toNat t21.Keys).length c123, .slice none 0 0, .slice A128 (List.drop (IntKind.i64.wrap (Int.tdiv (IntKind.i64.wrap ((t21.Keys.length : Int) + (1 : Int))) (2 : Int))).toNat t21.Rows).length c129]) rfl (fun w' h' => x_build2 (pl := [(0, 1), (1, 1), (2, 1), (3, 1)]) #[.bool true, .slice A122 (List.drop (IntKind.i64.wrap (Int.tdiv (IntKind.i64.wrap ((t21.Keys.length : Int) + (1 : Int))) (2 : Int))).toNat t21.Keys).length c123, .slice none 0 0, .slice A128 (List.drop (IntKind.i64.wrap (Int.tdiv (IntKind.i64.wrap ((t21.Keys.length : Int) + (1 : Int))) (2 : Int))).toNat t21.Rows).length c129] Try.underlying26 ty26 (by kernel_rfl) rfl (by kernel_rfl)) (⟨M81, Hp.le_refl M81, S.pick [0, 1, 4] (by decide)⟩) ?_
    refine Wa_take (i := 20) rfl (by kernel_rfl) rfl rfl (.string (bs (rd t21.Keys (IntKind.i64.wrap (Int.tdiv (IntKind.i64.wrap ((t21.Keys.length : Int) + (1 : Int))) (2 : Int)))))) rfl (fun w' h' => x_move rfl) (⟨M81, Hp.le_refl M81, S.pick [0, 1, 4] (by decide)⟩) ?_
    refine Wa_solo (i := 21) rfl (by kernel_rfl) ?_
    refine W_store S 3 rfl ty26 rfl rfl [.bool true, .slice A23 (List.take (IntKind.i64.wrap (Int.tdiv (IntKind.i64.wrap ((t21.Keys.length : Int) + (1 : Int))) (2 : Int))).toNat t21.Keys).length ((IntKind.i64.wrap (Int.tdiv (IntKind.i64.wrap ((t21.Keys.length : Int) + (1 : Int))) (2 : Int))).toNat), .slice none 0 0, .slice A29 (List.take (IntKind.i64.wrap (Int.tdiv (IntKind.i64.wrap ((t21.Keys.length : Int) + (1 : Int))) (2 : Int))).toNat t21.Rows).length ((IntKind.i64.wrap (Int.tdiv (IntKind.i64.wrap ((t21.Keys.length : Int) + (1 : Int))) (2 : Int))).toNat)] rfl rfl rfl #[.bool true, .slice A23 (List.take (IntKind.i64.wrap (Int.tdiv (IntKind.i64.wrap ((t21.Keys.length : Int) + (1 : Int))) (2 : Int))).toNat t21.Keys).length ((IntKind.i64.wrap (Int.tdiv (IntKind.i64.wrap ((t21.Keys.length : Int) + (1 : Int))) (2 : Int))).toNat), .slice none 0 0, .slice A29 (List.take (IntKind.i64.wrap (Int.tdiv (IntKind.i64.wrap ((t21.Keys.length : Int) + (1 : Int))) (2 : Int))).toNat t21.Rows).length ((IntKind.i64.wrap (Int.tdiv (IntKind.i64.wrap ((t21.Keys.length : Int) + (1 : Int))) (2 : Int))).toNat)] rfl rfl ?_
    intro w132 E' S
    replace E := E.trans E'
    clear E'
    refine Wl_nil (on_n ⟨⟨M81, Hp.le_refl M81, S.pick [0, 1, 4] (by decide)⟩, ?_⟩)
    refine Wa_solo (i := 22) rfl (by kernel_rfl) ?_
    refine W_store S 2 rfl ty26 rfl rfl [.bool true, .slice A122 (List.drop (IntKind.i64.wrap (Int.tdiv (IntKind.i64.wrap ((t21.Keys.length : Int) + (1 : Int))) (2 : Int))).toNat t21.Keys).length c123, .slice none 0 0, .slice A128 (List.drop (IntKind.i64.wrap (Int.tdiv (IntKind.i64.wrap ((t21.Keys.length : Int) + (1 : Int))) (2 : Int))).toNat t21.Rows).length c129] rfl rfl rfl #[.bool true, .slice A122 (List.drop (IntKind.i64.wrap (Int.tdiv (IntKind.i64.wrap ((t21.Keys.length : Int) + (1 : Int))) (2 : Int))).toNat t21.Keys).length c123, .slice none 0 0, .slice A128 (List.drop (IntKind.i64.wrap (Int.tdiv (IntKind.i64.wrap ((t21.Keys.length : Int) + (1 : Int))) (2 : Int))).toNat t21.Rows).length c129] rfl rfl ?_
    intro w133 E' S
    replace E := E.trans E'
    clear E'
    refine Wl_nil (on_n ⟨⟨M81, Hp.le_refl M81, S.pick [0, 1, 4] (by decide)⟩, ?_⟩)
    refine Wa_take (i := 23) rfl (by kernel_rfl) rfl rfl (.string (bs (rd t21.Keys (IntKind.i64.wrap (Int.tdiv (IntKind.i64.wrap ((t21.Keys.length : Int) + (1 : Int))) (2 : Int)))))) rfl (fun w' h' => x_assign rfl) (⟨M81, Hp.le_refl M81, S.pick [0, 1, 4] (by decide)⟩) ?_
    refine Wa_take (i := 24) rfl (by kernel_rfl) rfl rfl (.int .i64 0) rfl (fun w' h' => x_assign rfl) (⟨M81, Hp.le_refl M81, S.pick [0, 1, 4] (by decide)⟩) ?_
    refine Wa_done (by kernel_rfl) ?_
    refine tn ?_
    refine Wp_ret ?_
    refine tr (?_)
    obtain rfl := Option.some.inj H
    exact ⟨_, _, _, fun w1 e1 => run_resR (vs := [.agg #[.bool true, .slice A23 (List.take (IntKind.i64.wrap (Int.tdiv (IntKind.i64.wrap ((t21.Keys.length : Int) + (1 : Int))) (2 : Int))).toNat t21.Keys).length ((IntKind.i64.wrap (Int.tdiv (IntKind.i64.wrap ((t21.Keys.length : Int) + (1 : Int))) (2 : Int))).toNat), .slice none 0 0, .slice A29 (List.take (IntKind.i64.wrap (Int.tdiv (IntKind.i64.wrap ((t21.Keys.length : Int) + (1 : Int))) (2 : Int))).toNat t21.Rows).length ((IntKind.i64.wrap (Int.tdiv (IntKind.i64.wrap ((t21.Keys.length : Int) + (1 : Int))) (2 : Int))).toNat)], .agg #[.bool true, .slice A122 (List.drop (IntKind.i64.wrap (Int.tdiv (IntKind.i64.wrap ((t21.Keys.length : Int) + (1 : Int))) (2 : Int))).toNat t21.Keys).length c123, .slice none 0 0, .slice A128 (List.drop (IntKind.i64.wrap (Int.tdiv (IntKind.i64.wrap ((t21.Keys.length : Int) + (1 : Int))) (2 : Int))).toNat t21.Rows).length c129], .string (bs (rd t21.Keys (IntKind.i64.wrap (Int.tdiv (IntKind.i64.wrap ((t21.Keys.length : Int) + (1 : Int))) (2 : Int))))), .int .i64 0]) (FA.cons (⟨_, rfl, run_loadVar_agg ty26 ((S.of_eq e1).blk 3 rfl) (sub_of_extract rfl) rfl (by decide)⟩) (FA.cons (⟨_, rfl, run_loadVar_agg ty26 ((S.of_eq e1).blk 2 rfl) (sub_of_extract rfl) rfl (by decide)⟩) (FA.cons (rfl) (FA.cons (rfl) (FA.nil))))), HM, E, S.pick [] (by decide), ⟨A23, (IntKind.i64.wrap (Int.tdiv (IntKind.i64.wrap ((t21.Keys.length : Int) + (1 : Int))) (2 : Int))).toNat, none, 0, A29, (IntKind.i64.wrap (Int.tdiv (IntKind.i64.wrap ((t21.Keys.length : Int) + (1 : Int))) (2 : Int))).toNat, A122, c123, none, 0, A128, c129, rfl, hs113, SlW.nil _ _, hs118, hs124, SlW.nil _ _, hs130, rfl⟩⟩
  refine Wp_cond_false (congrArg Value.bool hb47) ?_
  refine Wp_skip ?_
  refine tn ?_
  refine Wp_seq ?_
  obtain ⟨M164, hM165, hf166, S⟩ := S.row_freeze 1 rfl
  replace HM := Hp.le_trans HM hM165
  replace hr0_0 := SlR.mono hr0_0 hM165
  replace hr0_1 := SlR.mono hr0_1 hM165
  replace hr0_2 := SlR.mono hr0_2 hM165
  obtain ⟨M167, hM168, hf169, S⟩ := S.row_freeze 1 rfl
  replace HM := Hp.le_trans HM hM168
  replace hr0_0 := SlR.mono hr0_0 hM168
  replace hr0_1 := SlR.mono hr0_1 hM168
  replace hr0_2 := SlR.mono hr0_2 hM168
  replace hf166 := SlR.mono hf166 hM168
  refine Wp_region_any (S := fun w' => ∃ Mx, M167.le Mx ∧ St w' Mx F [Blk b33 (.cells #[.bool t21.Leaf, .slice A23 t21.Keys.length c24, .slice A26 t21.Kids.length c27, .slice A29 t21.Rows.length c30] 26 (0, 0)), Row (rInt .u64) 41 (.slice A29 t21.Rows.length c30) t21.Rows, Blk b1 (.cells #[.bool a0.Leaf, .slice A0_0 a0.Keys.length c0_0, .slice A0_1 a0.Kids.length c0_1, .slice A0_2 a0.Rows.length c0_2] 26 (0, 0))]) mixed ?_
  intro w194 hw195 E'
  replace S := S.heap hw195
  replace E := E.trans E'
  clear E'
  refine Wa_take (i := 0) rfl (by kernel_rfl) rfl rfl (.pointer (some ⟨b33, 1, none⟩)) rfl (fun w' h' => x_fieldAddr (o := 0) (off := 1) Try.underlying26 rfl ty22 rfl rfl) (⟨M167, Hp.le_refl M167, S.pick [0, 1, 4] (by decide)⟩) ?_
  refine Wa_take (i := 1) rfl (by kernel_rfl) rfl rfl (.slice A23 t21.Keys.length c24) rfl (fun w' h' => x_load (cls_blk h' 0 rfl) ty22 rfl rfl) (⟨M167, Hp.le_refl M167, S.pick [0, 1, 4] (by decide)⟩) ?_
  refine Wa_take (i := 2) rfl (by kernel_rfl) rfl rfl (.int .i64 (IntKind.i64.wrap (Int.tdiv (IntKind.i64.wrap ((t21.Keys.length : Int) + (1 : Int))) (2 : Int)))) rfl (fun w' h' => x_move rfl) (⟨M167, Hp.le_refl M167, S.pick [0, 1, 4] (by decide)⟩) ?_
  refine Wa_take (i := 3) rfl (by kernel_rfl) rfl rfl (.int .i64 (IntKind.i64.wrap (Int.tdiv (IntKind.i64.wrap ((t21.Keys.length : Int) + (1 : Int))) (2 : Int)))) rfl (fun w' h' => x_move rfl) (⟨M167, Hp.le_refl M167, S.pick [0, 1, 4] (by decide)⟩) ?_
  obtain ⟨⟨p196, p197, p198⟩, H⟩ := chkS H
  obtain ⟨hs199, hx200⟩ := sl_hm hf166 p196 p197 p198
  have hs199z := hs199
  refine Wa_take (i := 4) rfl (by kernel_rfl) rfl rfl (.slice A23 (List.take (IntKind.i64.wrap (Int.tdiv (IntKind.i64.wrap ((t21.Keys.length : Int) + (1 : Int))) (2 : Int))).toNat t21.Keys).length ((IntKind.i64.wrap (Int.tdiv (IntKind.i64.wrap ((t21.Keys.length : Int) + (1 : Int))) (2 : Int))).toNat)) rfl (fun w' h' => hx200 Try.underlying22 ty9 rfl rfl rfl) (⟨M167, Hp.le_refl M167, S.pick [0, 1, 4] (by decide)⟩) ?_
  refine Wa_take (i := 5) rfl (by kernel_rfl) rfl rfl (.pointer (some ⟨b33, 2, none⟩)) rfl (fun w' h' => x_fieldAddr (o := 0) (off := 2) Try.underlying26 rfl ty23 rfl rfl) (⟨M167, Hp.le_refl M167, S.pick [0, 1, 4] (by decide)⟩) ?_
  refine Wa_take (i := 6) rfl (by kernel_rfl) rfl rfl (.slice A26 t21.Kids.length c27) rfl (fun w' h' => x_load (cls_blk h' 0 rfl) ty23 rfl rfl) (⟨M167, Hp.le_refl M167, S.pick [0, 1, 4] (by decide)⟩) ?_
  refine Wa_take (i := 7) rfl (by kernel_rfl) rfl rfl (.int .i64 (IntKind.i64.wrap (Int.tdiv (IntKind.i64.wrap ((t21.Keys.length : Int) + (1 : Int))) (2 : Int)))) rfl (fun w' h' => x_move rfl) (⟨M167, Hp.le_refl M167, S.pick [0, 1, 4] (by decide)⟩) ?_
  refine Wa_take (i := 8) rfl (by kernel_rfl) rfl rfl (.int .i64 (IntKind.i64.wrap ((IntKind.i64.wrap (Int.tdiv (IntKind.i64.wrap ((t21.Keys.length : Int) + (1 : Int))) (2 : Int))) + (1 : Int)))) rfl (fun w' h' => x_ibin rfl rfl rfl rfl) (⟨M167, Hp.le_refl M167, S.pick [0, 1, 4] (by decide)⟩) ?_
  refine Wa_take (i := 9) rfl (by kernel_rfl) rfl rfl (.int .i64 (IntKind.i64.wrap (Int.tdiv (IntKind.i64.wrap ((t21.Keys.length : Int) + (1 : Int))) (2 : Int)))) rfl (fun w' h' => x_move rfl) (⟨M167, Hp.le_refl M167, S.pick [0, 1, 4] (by decide)⟩) ?_
  refine Wa_take (i := 10) rfl (by kernel_rfl) rfl rfl (.int .i64 (IntKind.i64.wrap ((IntKind.i64.wrap (Int.tdiv (IntKind.i64.wrap ((t21.Keys.length : Int) + (1 : Int))) (2 : Int))) + (1 : Int)))) rfl (fun w' h' => x_ibin rfl rfl rfl rfl) (⟨M167, Hp.le_refl M167, S.pick [0, 1, 4] (by decide)⟩) ?_
  obtain ⟨⟨p201, p202, p203⟩, H⟩ := chkS H
  obtain ⟨hs204, hx205⟩ := sl_hm hf169 p201 p202 p203
  have hs204z := hs204
  refine Wa_take (i := 11) rfl (by kernel_rfl) rfl rfl (.slice A26 (List.take (IntKind.i64.wrap ((IntKind.i64.wrap (Int.tdiv (IntKind.i64.wrap ((t21.Keys.length : Int) + (1 : Int))) (2 : Int))) + (1 : Int))).toNat t21.Kids).length ((IntKind.i64.wrap ((IntKind.i64.wrap (Int.tdiv (IntKind.i64.wrap ((t21.Keys.length : Int) + (1 : Int))) (2 : Int))) + (1 : Int))).toNat)) rfl (fun w' h' => hx205 Try.underlying23 ty3 rfl rfl rfl) (⟨M167, Hp.le_refl M167, S.pick [0, 1, 4] (by decide)⟩) ?_
  refine Wa_take (i := 12) rfl (by kernel_rfl) rfl rfl (.agg #[.bool false, .slice A23 (List.take (IntKind.i64.wrap (Int.tdiv (IntKind.i64.wrap ((t21.Keys.length : Int) + (1 : Int))) (2 : Int))).toNat t21.Keys).length ((IntKind.i64.wrap (Int.tdiv (IntKind.i64.wrap ((t21.Keys.length : Int) + (1 : Int))) (2 : Int))).toNat), .slice A26 (List.take (IntKind.i64.wrap ((IntKind.i64.wrap (Int.tdiv (IntKind.i64.wrap ((t21.Keys.length : Int) + (1 : Int))) (2 : Int))) + (1 : Int))).toNat t21.Kids).length ((IntKind.i64.wrap ((IntKind.i64.wrap (Int.tdiv (IntKind.i64.wrap ((t21.Keys.length : Int) + (1 : Int))) (2 : Int))) + (1 : Int))).toNat), .slice none 0 0]) rfl (fun w' h' => x_build2 (pl := [(0, 1), (1, 1), (2, 1), (3, 1)]) #[.bool false, .slice A23 (List.take (IntKind.i64.wrap (Int.tdiv (IntKind.i64.wrap ((t21.Keys.length : Int) + (1 : Int))) (2 : Int))).toNat t21.Keys).length ((IntKind.i64.wrap (Int.tdiv (IntKind.i64.wrap ((t21.Keys.length : Int) + (1 : Int))) (2 : Int))).toNat), .slice A26 (List.take (IntKind.i64.wrap ((IntKind.i64.wrap (Int.tdiv (IntKind.i64.wrap ((t21.Keys.length : Int) + (1 : Int))) (2 : Int))) + (1 : Int))).toNat t21.Kids).length ((IntKind.i64.wrap ((IntKind.i64.wrap (Int.tdiv (IntKind.i64.wrap ((t21.Keys.length : Int) + (1 : Int))) (2 : Int))) + (1 : Int))).toNat), .slice none 0 0] Try.underlying26 ty26 (by kernel_rfl) rfl (by kernel_rfl)) (⟨M167, Hp.le_refl M167, S.pick [0, 1, 4] (by decide)⟩) ?_
  refine Wa_take (i := 13) rfl (by kernel_rfl) rfl rfl (.pointer (some ⟨b33, 1, none⟩)) rfl (fun w' h' => x_fieldAddr (o := 0) (off := 1) Try.underlying26 rfl ty22 rfl rfl) (⟨M167, Hp.le_refl M167, S.pick [0, 1, 4] (by decide)⟩) ?_
  refine Wa_take (i := 14) rfl (by kernel_rfl) rfl rfl (.slice A23 t21.Keys.length c24) rfl (fun w' h' => x_load (cls_blk h' 0 rfl) ty22 rfl rfl) (⟨M167, Hp.le_refl M167, S.pick [0, 1, 4] (by decide)⟩) ?_
  refine Wa_take (i := 15) rfl (by kernel_rfl) rfl rfl (.int .i64 (IntKind.i64.wrap (Int.tdiv (IntKind.i64.wrap ((t21.Keys.length : Int) + (1 : Int))) (2 : Int)))) rfl (fun w' h' => x_move rfl) (⟨M167, Hp.le_refl M167, S.pick [0, 1, 4] (by decide)⟩) ?_
  refine Wa_take (i := 16) rfl (by kernel_rfl) rfl rfl (.int .i64 (IntKind.i64.wrap ((IntKind.i64.wrap (Int.tdiv (IntKind.i64.wrap ((t21.Keys.length : Int) + (1 : Int))) (2 : Int))) + (1 : Int)))) rfl (fun w' h' => x_ibin rfl rfl rfl rfl) (⟨M167, Hp.le_refl M167, S.pick [0, 1, 4] (by decide)⟩) ?_
  obtain ⟨⟨p206, p207⟩, H⟩ := chkS H
  obtain ⟨A208, c209, hs210, hx211⟩ := sl_lo hf166 p206 p207
  have hs210z := hs210
  refine Wa_take (i := 17) rfl (by kernel_rfl) rfl rfl (.slice A208 (List.drop (IntKind.i64.wrap ((IntKind.i64.wrap (Int.tdiv (IntKind.i64.wrap ((t21.Keys.length : Int) + (1 : Int))) (2 : Int))) + (1 : Int))).toNat t21.Keys).length c209) rfl (fun w' h' => hx211 Try.underlying22 ty9 rfl rfl) (⟨M167, Hp.le_refl M167, S.pick [0, 1, 4] (by decide)⟩) ?_
  refine Wa_take (i := 18) rfl (by kernel_rfl) rfl rfl (.pointer (some ⟨b33, 2, none⟩)) rfl (fun w' h' => x_fieldAddr (o := 0) (off := 2) Try.underlying26 rfl ty23 rfl rfl) (⟨M167, Hp.le_refl M167, S.pick [0, 1, 4] (by decide)⟩) ?_
  refine Wa_take (i := 19) rfl (by kernel_rfl) rfl rfl (.slice A26 t21.Kids.length c27) rfl (fun w' h' => x_load (cls_blk h' 0 rfl) ty23 rfl rfl) (⟨M167, Hp.le_refl M167, S.pick [0, 1, 4] (by decide)⟩) ?_
  refine Wa_take (i := 20) rfl (by kernel_rfl) rfl rfl (.int .i64 (IntKind.i64.wrap (Int.tdiv (IntKind.i64.wrap ((t21.Keys.length : Int) + (1 : Int))) (2 : Int)))) rfl (fun w' h' => x_move rfl) (⟨M167, Hp.le_refl M167, S.pick [0, 1, 4] (by decide)⟩) ?_
  refine Wa_take (i := 21) rfl (by kernel_rfl) rfl rfl (.int .i64 (IntKind.i64.wrap ((IntKind.i64.wrap (Int.tdiv (IntKind.i64.wrap ((t21.Keys.length : Int) + (1 : Int))) (2 : Int))) + (1 : Int)))) rfl (fun w' h' => x_ibin rfl rfl rfl rfl) (⟨M167, Hp.le_refl M167, S.pick [0, 1, 4] (by decide)⟩) ?_
  obtain ⟨⟨p212, p213⟩, H⟩ := chkS H
  obtain ⟨A214, c215, hs216, hx217⟩ := sl_lo hf169 p212 p213
  have hs216z := hs216
  refine Wa_take (i := 22) rfl (by kernel_rfl) rfl rfl (.slice A214 (List.drop (IntKind.i64.wrap ((IntKind.i64.wrap (Int.tdiv (IntKind.i64.wrap ((t21.Keys.length : Int) + (1 : Int))) (2 : Int))) + (1 : Int))).toNat t21.Kids).length c215) rfl (fun w' h' => hx217 Try.underlying23 ty3 rfl rfl) (⟨M167, Hp.le_refl M167, S.pick [0, 1, 4] (by decide)⟩) ?_
  refine Wa_take (i := 23) rfl (by kernel_rfl) rfl rfl (.agg #[.bool false, .slice A208 (List.drop (IntKind.i64.wrap ((IntKind.i64.wrap (Int.tdiv (IntKind.i64.wrap ((t21.Keys.length : Int) + (1 : Int))) (2 : Int))) + (1 : Int))).toNat t21.Keys).length c209, .slice A214 (List.drop (IntKind.i64.wrap ((IntKind.i64.wrap (Int.tdiv (IntKind.i64.wrap ((t21.Keys.length : Int) + (1 : Int))) (2 : Int))) + (1 : Int))).toNat t21.Kids).length c215, .slice none 0 0]) rfl (fun w' h' => x_build2 (pl := [(0, 1), (1, 1), (2, 1), (3, 1)]) #[.bool false, .slice A208 (List.drop (IntKind.i64.wrap ((IntKind.i64.wrap (Int.tdiv (IntKind.i64.wrap ((t21.Keys.length : Int) + (1 : Int))) (2 : Int))) + (1 : Int))).toNat t21.Keys).length c209, .slice A214 (List.drop (IntKind.i64.wrap ((IntKind.i64.wrap (Int.tdiv (IntKind.i64.wrap ((t21.Keys.length : Int) + (1 : Int))) (2 : Int))) + (1 : Int))).toNat t21.Kids).length c215, .slice none 0 0] Try.underlying26 ty26 (by kernel_rfl) rfl (by kernel_rfl)) (⟨M167, Hp.le_refl M167, S.pick [0, 1, 4] (by decide)⟩) ?_
  refine Wa_take (i := 24) rfl (by kernel_rfl) rfl rfl (.string (bs (rd t21.Keys (IntKind.i64.wrap (Int.tdiv (IntKind.i64.wrap ((t21.Keys.length : Int) + (1 : Int))) (2 : Int)))))) rfl (fun w' h' => x_move rfl) (⟨M167, Hp.le_refl M167, S.pick [0, 1, 4] (by decide)⟩) ?_
  refine Wa_solo (i := 25) rfl (by kernel_rfl) ?_
  refine W_store S 3 rfl ty26 rfl rfl [.bool false, .slice A23 (List.take (IntKind.i64.wrap (Int.tdiv (IntKind.i64.wrap ((t21.Keys.length : Int) + (1 : Int))) (2 : Int))).toNat t21.Keys).length ((IntKind.i64.wrap (Int.tdiv (IntKind.i64.wrap ((t21.Keys.length : Int) + (1 : Int))) (2 : Int))).toNat), .slice A26 (List.take (IntKind.i64.wrap ((IntKind.i64.wrap (Int.tdiv (IntKind.i64.wrap ((t21.Keys.length : Int) + (1 : Int))) (2 : Int))) + (1 : Int))).toNat t21.Kids).length ((IntKind.i64.wrap ((IntKind.i64.wrap (Int.tdiv (IntKind.i64.wrap ((t21.Keys.length : Int) + (1 : Int))) (2 : Int))) + (1 : Int))).toNat), .slice none 0 0] rfl rfl rfl #[.bool false, .slice A23 (List.take (IntKind.i64.wrap (Int.tdiv (IntKind.i64.wrap ((t21.Keys.length : Int) + (1 : Int))) (2 : Int))).toNat t21.Keys).length ((IntKind.i64.wrap (Int.tdiv (IntKind.i64.wrap ((t21.Keys.length : Int) + (1 : Int))) (2 : Int))).toNat), .slice A26 (List.take (IntKind.i64.wrap ((IntKind.i64.wrap (Int.tdiv (IntKind.i64.wrap ((t21.Keys.length : Int) + (1 : Int))) (2 : Int))) + (1 : Int))).toNat t21.Kids).length ((IntKind.i64.wrap ((IntKind.i64.wrap (Int.tdiv (IntKind.i64.wrap ((t21.Keys.length : Int) + (1 : Int))) (2 : Int))) + (1 : Int))).toNat), .slice none 0 0] rfl rfl ?_
  intro w218 E' S
  replace E := E.trans E'
  clear E'
  refine Wl_nil (on_n ⟨⟨M167, Hp.le_refl M167, S.pick [0, 1, 4] (by decide)⟩, ?_⟩)
  refine Wa_solo (i := 26) rfl (by kernel_rfl) ?_
  refine W_store S 2 rfl ty26 rfl rfl [.bool false, .slice A208 (List.drop (IntKind.i64.wrap ((IntKind.i64.wrap (Int.tdiv (IntKind.i64.wrap ((t21.Keys.length : Int) + (1 : Int))) (2 : Int))) + (1 : Int))).toNat t21.Keys).length c209, .slice A214 (List.drop (IntKind.i64.wrap ((IntKind.i64.wrap (Int.tdiv (IntKind.i64.wrap ((t21.Keys.length : Int) + (1 : Int))) (2 : Int))) + (1 : Int))).toNat t21.Kids).length c215, .slice none 0 0] rfl rfl rfl #[.bool false, .slice A208 (List.drop (IntKind.i64.wrap ((IntKind.i64.wrap (Int.tdiv (IntKind.i64.wrap ((t21.Keys.length : Int) + (1 : Int))) (2 : Int))) + (1 : Int))).toNat t21.Keys).length c209, .slice A214 (List.drop (IntKind.i64.wrap ((IntKind.i64.wrap (Int.tdiv (IntKind.i64.wrap ((t21.Keys.length : Int) + (1 : Int))) (2 : Int))) + (1 : Int))).toNat t21.Kids).length c215, .slice none 0 0] rfl rfl ?_
  intro w219 E' S
  replace E := E.trans E'
  clear E'
  refine Wl_nil (on_n ⟨⟨M167, Hp.le_refl M167, S.pick [0, 1, 4] (by decide)⟩, ?_⟩)
  refine Wa_take (i := 27) rfl (by kernel_rfl) rfl rfl (.string (bs (rd t21.Keys (IntKind.i64.wrap (Int.tdiv (IntKind.i64.wrap ((t21.Keys.length : Int) + (1 : Int))) (2 : Int)))))) rfl (fun w' h' => x_assign rfl) (⟨M167, Hp.le_refl M167, S.pick [0, 1, 4] (by decide)⟩) ?_
  refine Wa_take (i := 28) rfl (by kernel_rfl) rfl rfl (.int .i64 0) rfl (fun w' h' => x_assign rfl) (⟨M167, Hp.le_refl M167, S.pick [0, 1, 4] (by decide)⟩) ?_
  refine Wa_done (by kernel_rfl) ?_
  refine tn ?_
  refine Wp_ret ?_
  obtain rfl := Option.some.inj H
  exact ⟨_, _, _, fun w1 e1 => run_resR (vs := [.agg #[.bool false, .slice A23 (List.take (IntKind.i64.wrap (Int.tdiv (IntKind.i64.wrap ((t21.Keys.length : Int) + (1 : Int))) (2 : Int))).toNat t21.Keys).length ((IntKind.i64.wrap (Int.tdiv (IntKind.i64.wrap ((t21.Keys.length : Int) + (1 : Int))) (2 : Int))).toNat), .slice A26 (List.take (IntKind.i64.wrap ((IntKind.i64.wrap (Int.tdiv (IntKind.i64.wrap ((t21.Keys.length : Int) + (1 : Int))) (2 : Int))) + (1 : Int))).toNat t21.Kids).length ((IntKind.i64.wrap ((IntKind.i64.wrap (Int.tdiv (IntKind.i64.wrap ((t21.Keys.length : Int) + (1 : Int))) (2 : Int))) + (1 : Int))).toNat), .slice none 0 0], .agg #[.bool false, .slice A208 (List.drop (IntKind.i64.wrap ((IntKind.i64.wrap (Int.tdiv (IntKind.i64.wrap ((t21.Keys.length : Int) + (1 : Int))) (2 : Int))) + (1 : Int))).toNat t21.Keys).length c209, .slice A214 (List.drop (IntKind.i64.wrap ((IntKind.i64.wrap (Int.tdiv (IntKind.i64.wrap ((t21.Keys.length : Int) + (1 : Int))) (2 : Int))) + (1 : Int))).toNat t21.Kids).length c215, .slice none 0 0], .string (bs (rd t21.Keys (IntKind.i64.wrap (Int.tdiv (IntKind.i64.wrap ((t21.Keys.length : Int) + (1 : Int))) (2 : Int))))), .int .i64 0]) (FA.cons (⟨_, rfl, run_loadVar_agg ty26 ((S.of_eq e1).blk 3 rfl) (sub_of_extract rfl) rfl (by decide)⟩) (FA.cons (⟨_, rfl, run_loadVar_agg ty26 ((S.of_eq e1).blk 2 rfl) (sub_of_extract rfl) rfl (by decide)⟩) (FA.cons (rfl) (FA.cons (rfl) (FA.nil))))), HM, E, S.pick [] (by decide), ⟨A23, (IntKind.i64.wrap (Int.tdiv (IntKind.i64.wrap ((t21.Keys.length : Int) + (1 : Int))) (2 : Int))).toNat, A26, (IntKind.i64.wrap ((IntKind.i64.wrap (Int.tdiv (IntKind.i64.wrap ((t21.Keys.length : Int) + (1 : Int))) (2 : Int))) + (1 : Int))).toNat, none, 0, A208, c209, A214, c215, none, 0, rfl, hs199, hs204, SlW.nil _ _, hs210, hs216, SlW.nil _ _, rfl⟩⟩
/-! ### slices.Grow[[]string,string]: function 51 -/
def slices_Grow_string_string_N (k : Nat) (a1 : Int) : Option ((List Str)) :=
  (Option.bind (α := Unit) (if (decide (a1 < (0 : Int))) = true then none else some ()) (fun _ => (Option.bind (α := List Str) (if (decide ((IntKind.i64.wrap (a1 - (IntKind.i64.wrap ((0 : Int) - (0 : Int))))) > (0 : Int))) = true then (if 0 ≤ (IntKind.i64.wrap (a1 - (IntKind.i64.wrap ((0 : Int) - (0 : Int))))) ∧ (IntKind.i64.wrap (a1 - (IntKind.i64.wrap ((0 : Int) - (0 : Int))))) * 16 ≤ 140737488355328 then (if 0 ≤ (0 : Int) ∧ (0 : Int) ≤ ((List.replicate (IntKind.i64.wrap (a1 - (IntKind.i64.wrap ((0 : Int) - (0 : Int))))).toNat ([] : Str)).length : Int) then some ((List.take (0 : Int).toNat (List.replicate (IntKind.i64.wrap (a1 - (IntKind.i64.wrap ((0 : Int) - (0 : Int))))).toNat ([] : Str)))) else none) else none) else some (([] : List Str))) (fun x15 => some x15))))
set_option maxHeartbeats 2000000 in
theorem slices_Grow_string_string_N.mono {k : Nat} {a1 : Int} : OLe (slices_Grow_string_string_N k a1) (slices_Grow_string_string_N (k + 1) a1) := by
  unfold slices_Grow_string_string_N
  repeat' (first | with_reducible exact OLe.none | with_reducible exact OLe.some | with_reducible refine OLe.ite ?_ ?_ | with_reducible refine OLe.bind ?_ (fun _ => ?_) | refine OLe.bind ?_ (fun _ => ?_) | refine OLe.ite ?_ ?_ | refine OLe.elim (fun _ => ?_) (fun _ => ?_) | split)
set_option maxHeartbeats 1000000 in
set_option maxRecDepth 100000 in
theorem slices_Grow_string_string_N.con (k : Nat) (M : Hp) (a1 : Int) (r : (List Str))  (h : slices_Grow_string_string_N k a1 = some r) : Con Try.prog 51 #[.slice none 0 0, .int .i64 a1] M [] (fun v M' Γ' => ∃ (Aq1 : Option Addr) (cq2 : Nat), v = .slice Aq1 r.length cq2 ∧ Γ' = [Row rStr 9 (.slice Aq1 r.length cq2) r]) := by
  refine con_of_wp Try.func51 rfl Try.ntmps51 Try.results51 rfl ?_
  intro w F rn S hrn
  have E := Ext.refl w
  have HM := Hp.le_refl M
  have H := h
  unfold slices_Grow_string_string_N at H
  refine Wp_seq ?_
  refine Wp_region_lit ?_
  refine W_v (.slice none 0 0) (x_assign rfl) rfl ?_
  refine Wl_nil ?_
  refine tn ?_
  refine Wp_seq ?_
  refine Wp_seq ?_
  refine Wp_region_lit ?_
  refine W_v (.int .i64 a1) (x_move rfl) rfl ?_
  refine W_v (.bool (decide (a1 < (0 : Int)))) (x_ibin rfl rfl rfl rfl) rfl ?_
  refine Wl_nil ?_
  refine tn ?_
  obtain ⟨o2, o2h, o2H⟩ := bindS H
  refine Wp_cut (fun ρ w' => () = o2 ∧ Agree ρ [(0, .slice none 0 0), (1, .int .i64 a1)] ∧ Ext w w' ∧ St w' M F []) ?_ ?_
  · clear o2H
    have H := o2h
    clear o2h
    rcases iteS H with ⟨hb3, H⟩ | ⟨hb3, H⟩
    · refine Wp_cond_true (congrArg Value.bool hb3) ?_
      cases H
    refine Wp_cond_false (congrArg Value.bool hb3) ?_
    refine Wp_skip ?_
    refine tn ?_
    exact ⟨Option.some.inj H, ⟨rfl, rfl, trivial⟩, E, S.pick [] (by decide)⟩
  clear o2h
  rintro ρ w4 ⟨rfl, hρ, E, S⟩
  rw [agree_eta hρ]
  clear hρ
  have H := o2H
  clear o2H
  refine tn ?_
  refine Wp_seq ?_
  refine Wp_seq ?_
  refine Wp_region_lit ?_
  refine W_v (.int .i64 a1) (x_move rfl) rfl ?_
  refine W_v (.slice none 0 0) (x_move rfl) rfl ?_
  refine W_v (.int .i64 0) (x_cap_slice (c := 0) Try.underlying22 rfl) rfl ?_
  refine W_v (.slice none 0 0) (x_move rfl) rfl ?_
  refine W_v (.int .i64 0) (x_len_slice (n := 0) Try.underlying22 rfl) rfl ?_
  refine W_v (.int .i64 (IntKind.i64.wrap ((0 : Int) - (0 : Int)))) (x_ibin rfl rfl rfl rfl) rfl ?_
  refine W_v (.int .i64 (IntKind.i64.wrap (a1 - (IntKind.i64.wrap ((0 : Int) - (0 : Int)))))) (x_ibin rfl rfl rfl rfl) rfl ?_
  refine W_v (.int .i64 (IntKind.i64.wrap (a1 - (IntKind.i64.wrap ((0 : Int) - (0 : Int)))))) (x_assign rfl) rfl ?_
  refine Wl_nil ?_
  refine tn ?_
  refine Wp_seq ?_
  refine Wp_region_lit ?_
  refine W_v (.int .i64 (IntKind.i64.wrap (a1 - (IntKind.i64.wrap ((0 : Int) - (0 : Int)))))) (x_move rfl) rfl ?_
  refine W_v (.bool (decide ((IntKind.i64.wrap (a1 - (IntKind.i64.wrap ((0 : Int) - (0 : Int))))) > (0 : Int)))) (x_ibin rfl rfl rfl rfl) rfl ?_
  refine Wl_nil ?_
  refine tn ?_
  obtain ⟨o19, o19h, o19H⟩ := bindS H
  refine Wp_cut (fun ρ w' => ∃ (x15 : List Str) (A16 : Option Addr) (c17 : Nat), (x15) = o19 ∧ Agree ρ [(0, .slice A16 x15.length c17)] ∧ Ext w w' ∧ St w' M F [Row rStr 9 (.slice A16 x15.length c17) x15]) ?_ ?_
  · clear o19H
    have H := o19h
    clear o19h
    rcases iteS H with ⟨hb20, H⟩ | ⟨hb20, H⟩
    · refine Wp_cond_true (congrArg Value.bool hb20) ?_
      refine Wp_region_lit ?_
      refine W_v (.slice none 0 0) (x_move rfl) rfl ?_
      refine W_v (.slice none 0 0) (x_move rfl) rfl ?_
      refine W_v (.int .i64 0) (x_cap_slice (c := 0) Try.underlying22 rfl) rfl ?_
      refine W_v (.slice none 0 0) (x_slice_nil0 Try.underlying22 ty9 rfl rfl) rfl ?_
      refine W_v (.int .i64 (IntKind.i64.wrap (a1 - (IntKind.i64.wrap ((0 : Int) - (0 : Int)))))) (x_move rfl) rfl ?_
      obtain ⟨⟨p21, p22⟩, H⟩ := chkS H
      refine W_appendZ (r := rStr) S ([] : Str) Try.underlying22 Try.underlying3 ty9 rfl (by decide) (by decide) (fun _ => rfl) rfl rfl p21 p22 rfl ?_
      intro A23 c24 w25 E' S
      replace E := E.trans E'
      clear E'
      refine W_v (.slice none 0 0) (x_move rfl) rfl ?_
      refine W_v (.int .i64 0) (x_len_slice (n := 0) Try.underlying22 rfl) rfl ?_
      obtain ⟨⟨p27, p28⟩, H⟩ := chkS H
      have hx29 := @slW_hi _ _ _ _ _ _ _ _ _ (S.row_read 0 rfl) p27 p28
      replace S := S.row_take 0 rfl (0 : Int).toNat (by omega)
      replace S : St w25 M F [Row rStr 9 (.slice A23 (List.take (0 : Int).toNat (List.replicate (IntKind.i64.wrap (a1 - (IntKind.i64.wrap ((0 : Int) - (0 : Int))))).toNat ([] : Str))).length c24) (List.take (0 : Int).toNat (List.replicate (IntKind.i64.wrap (a1 - (IntKind.i64.wrap ((0 : Int) - (0 : Int))))).toNat ([] : Str)))] := S
      refine W_v (.slice A23 (List.take (0 : Int).toNat (List.replicate (IntKind.i64.wrap (a1 - (IntKind.i64.wrap ((0 : Int) - (0 : Int))))).toNat ([] : Str))).length c24) (hx29 Try.underlying22 ty9 rfl rfl) rfl ?_
      refine W_v (.slice A23 (List.take (0 : Int).toNat (List.replicate (IntKind.i64.wrap (a1 - (IntKind.i64.wrap ((0 : Int) - (0 : Int))))).toNat ([] : Str))).length c24) (x_assign rfl) rfl ?_
      refine Wl_nil ?_
      refine tn ?_
      exact ⟨(List.take (0 : Int).toNat (List.replicate (IntKind.i64.wrap (a1 - (IntKind.i64.wrap ((0 : Int) - (0 : Int))))).toNat ([] : Str))), A23, c24, Option.some.inj H, ⟨rfl, trivial⟩, E, S.pick [0] (by decide)⟩
    refine Wp_cond_false (congrArg Value.bool hb20) ?_
    refine Wp_skip ?_
    refine tn ?_
    replace S := S.row_nil rStr 9
    exact ⟨([] : List Str), none, 0, Option.some.inj H, ⟨rfl, trivial⟩, E, S.pick [0] (by decide)⟩
  clear o19h
  rintro ρ w31 ⟨x15, A16, c17, rfl, hρ, E, S⟩
  rw [agree_eta hρ]
  clear hρ
  have H := o19H
  clear o19H
  refine tn ?_
  refine Wp_seq ?_
  refine Wp_region_lit ?_
  refine W_v (.slice A16 x15.length c17) (x_move rfl) rfl ?_
  refine W_v (.slice A16 x15.length c17) (x_assign rfl) rfl ?_
  refine Wl_nil ?_
  refine tn ?_
  refine Wp_ret ?_
  obtain rfl := Option.some.inj H
  exact ⟨_, _, _, fun w1 e1 => run_resR (vs := [.slice A16 x15.length c17]) (FA.cons (rfl) (FA.nil)), HM, E, S.pick [0] (by decide), ⟨A16, c17, rfl, rfl⟩⟩
/-! ### slices.Concat[[]string,string]: function 47 -/
def slices_Concat_string_string_l1 (a0 : (List (List Str))) : Nat → List Str → Int → Option ((List Str))
  | 0, _, _ => none
  | k + 1, x231, x235 => (if (decide (x235 < (a0.length : Int))) = true then (if 0 ≤ x235 ∧ x235 < (a0.length : Int) then (if x231.length + (rd a0 x235).length ≤ 8796093022208 then slices_Concat_string_string_l1 a0 k (x231 ++ (rd a0 x235)) (IntKind.i64.wrap (x235 + (1 : Int))) else none) else none) else some (x231))
set_option maxHeartbeats 2000000 in
theorem slices_Concat_string_string_l1.mono {a0 : (List (List Str))} : ∀ {k : Nat} {x0 x1}, OLe (slices_Concat_string_string_l1 a0 k x0 x1) (slices_Concat_string_string_l1 a0 (k + 1) x0 x1) := by
  intro k
  induction k with
  | zero => intros; exact OLe.none
  | succ k ih =>
    intros
    rw [slices_Concat_string_string_l1.eq_2, slices_Concat_string_string_l1.eq_2]
    repeat' (first | with_reducible exact OLe.none | with_reducible exact OLe.some | with_reducible refine OLe.ite ?_ ?_ | with_reducible refine OLe.bind ?_ (fun _ => ?_) | exact ih | refine OLe.bind ?_ (fun _ => ?_) | refine OLe.ite ?_ ?_ | refine OLe.elim (fun _ => ?_) (fun _ => ?_) | split)
def slices_Concat_string_string_l0 (a0 : (List (List Str))) : Nat → Int → Int → Option ((Int))
  | 0, _, _ => none
  | k + 1, x83, x84 => (if (decide (x84 < (a0.length : Int))) = true then (Option.bind (α := Unit) (if 0 ≤ x84 ∧ x84 < (a0.length : Int) then (Option.bind (α := Unit) (if (decide ((IntKind.i64.wrap (x83 + ((rd a0 x84).length : Int))) < (0 : Int))) = true then none else some ()) (fun _ => some ())) else none) (fun _ => slices_Concat_string_string_l0 a0 k (IntKind.i64.wrap (x83 + ((rd a0 x84).length : Int))) (IntKind.i64.wrap (x84 + (1 : Int))))) else some (x83))
set_option maxHeartbeats 2000000 in
theorem slices_Concat_string_string_l0.mono {a0 : (List (List Str))} : ∀ {k : Nat} {x0 x1}, OLe (slices_Concat_string_string_l0 a0 k x0 x1) (slices_Concat_string_string_l0 a0 (k + 1) x0 x1) := by
  intro k
  induction k with
  | zero => intros; exact OLe.none
  | succ k ih =>
    intros
    rw [slices_Concat_string_string_l0.eq_2, slices_Concat_string_string_l0.eq_2]
    repeat' (first | with_reducible exact OLe.none | with_reducible exact OLe.some | with_reducible refine OLe.ite ?_ ?_ | with_reducible refine OLe.bind ?_ (fun _ => ?_) | exact ih | refine OLe.bind ?_ (fun _ => ?_) | refine OLe.ite ?_ ?_ | refine OLe.elim (fun _ => ?_) (fun _ => ?_) | split)
def slices_Concat_string_string (k : Nat) (a0 : (List (List Str))) : Option ((List Str)) :=
  (Option.bind (slices_Concat_string_string_l0 a0 k (0 : Int) (0 : Int)) (fun x124 => (Option.bind (slices_Grow_string_string_N k x124) (fun t167 => (Option.bind (slices_Concat_string_string_l1 a0 k t167 (0 : Int)) (fun x259 => some x259))))))
set_option maxHeartbeats 2000000 in
theorem slices_Concat_string_string.mono {k : Nat} {a0 : (List (List Str))} : OLe (slices_Concat_string_string k a0) (slices_Concat_string_string (k + 1) a0) := by
  unfold slices_Concat_string_string
  repeat' (first | with_reducible exact OLe.none | with_reducible exact OLe.some | with_reducible refine OLe.ite ?_ ?_ | with_reducible refine OLe.bind ?_ (fun _ => ?_) | with_reducible exact slices_Concat_string_string_l0.mono | with_reducible exact slices_Concat_string_string_l1.mono | with_reducible exact slices_Grow_string_string_N.mono | refine OLe.bind ?_ (fun _ => ?_) | refine OLe.ite ?_ ?_ | refine OLe.elim (fun _ => ?_) (fun _ => ?_) | split)
set_option maxHeartbeats 1000000 in
set_option maxRecDepth 100000 in
theorem slices_Concat_string_string.con (k : Nat) (M : Hp) (A0 : Option Addr) (c0 : Nat) (a0 : (List (List Str))) (r : (List Str)) (hr0 : SlR (rSl rStr) M (.slice A0 a0.length c0) a0) (h : slices_Concat_string_string k a0 = some r) : Con Try.prog 47 #[.slice A0 a0.length c0] M [] (fun v M' Γ' => ∃ (A0 : Option Addr) (c0 : Nat), v = .slice A0 r.length c0 ∧ Γ' = [Row rStr 9 (.slice A0 r.length c0) r]) := by
  refine con_of_wp Try.func47 rfl Try.ntmps47 Try.results47 rfl ?_
  intro w F rn S hrn
  have E := Ext.refl w
  have HM := Hp.le_refl M
  have H := h
  unfold slices_Concat_string_string at H
  refine Wp_seq ?_
  refine Wp_region_lit ?_
  refine W_v (.slice none 0 0) (x_assign rfl) rfl ?_
  refine Wl_nil ?_
  refine tn ?_
  refine Wp_seq ?_
  refine Wp_region_lit ?_
  refine W_v (.int .i64 0) (x_assign rfl) rfl ?_
  refine Wl_nil ?_
  refine tn ?_
  refine Wp_seq ?_
  refine Wp_seq ?_
  refine Wp_region_lit ?_
  refine W_v (.slice A0 a0.length c0) (x_move rfl) rfl ?_
  refine W_v (.int .i64 (a0.length : Int)) (x_len_slice (n := a0.length) Try.underlying76 rfl) rfl ?_
  refine W_v (.int .i64 0) (x_move rfl) rfl ?_
  refine Wl_nil ?_
  refine tn ?_
  obtain ⟨o125, o125h, o125H⟩ := bindS H
  clear H
  refine Wp_blockJ (fun ρ w' => ∃ (x124 : Int), (x124) = o125 ∧ Agree ρ [(0, .slice A0 a0.length c0), (3, .int .i64 x124)] ∧ Ext w w' ∧ St w' M F []) ?_ ?_
  · skip
    refine Wp_loop (fun n ρ w' => ∃ (x83 : Int) (x84 : Int), slices_Concat_string_string_l0 a0 n x83 x84 = some o125 ∧ Agree ρ [(0, .slice A0 a0.length c0), (3, .int .i64 x83), (9, .slice A0 a0.length c0), (10, .int .i64 (a0.length : Int)), (11, .int .i64 x84)] ∧ Ext w w' ∧ St w' M F []) k ?_ ?_
    · skip
      exact ⟨(0 : Int), (0 : Int), o125h, ⟨rfl, rfl, rfl, rfl, rfl, trivial⟩, E, S.pick [] (by decide)⟩
    · intro n
      rintro ρ w126 ⟨x83, x84, H, hρ, E, S⟩
      rw [agree_eta hρ]
      clear hρ
      cases n with
      | zero => cases H
      | succ k =>
        rw [slices_Concat_string_string_l0.eq_2] at H
        refine Wp_seq ?_
        refine Wp_region_lit ?_
        refine W_v (.bool (decide (x84 < (a0.length : Int)))) (x_ibin rfl rfl rfl rfl) rfl ?_
        refine Wl_nil ?_
        refine tn ?_
        refine Wp_seq ?_
        rcases iteS H with ⟨hb127, H⟩ | ⟨hb127, H⟩
        · refine Wp_cond_true (congrArg Value.bool hb127) ?_
          refine Wp_skip ?_
          refine tn ?_
          refine Wp_seq ?_
          obtain ⟨o146, o146h, o146H⟩ := bindS H
          refine Wp_cut (fun ρ w' => () = o146 ∧ Agree ρ [(0, .slice A0 a0.length c0), (3, .int .i64 (IntKind.i64.wrap (x83 + ((rd a0 x84).length : Int)))), (9, .slice A0 a0.length c0), (10, .int .i64 (a0.length : Int)), (11, .int .i64 x84)] ∧ Ext w w' ∧ St w' M F []) ?_ ?_
          · clear o146H
            have H := o146h
            clear o146h
            refine Wp_block ?_
            refine Wp_seq ?_
            refine Wp_region_lit ?_
            obtain ⟨⟨p147, p148⟩, H⟩ := chkS H
            obtain ⟨b149, o150, cs151, _, _, ee156, hb152, vs153, hR154, hc155⟩ := SlW.at' hr0 p147 p148
            obtain ⟨v160, hs159, rfl⟩ := hR154
            obtain ⟨A157, c158, rfl, _⟩ := hs159.form
            refine W_v (.pointer (some ⟨b149, o150 + x84.toNat * 1, none⟩)) (x_indexAddr Try.underlying76 ty22 (slA ee156) rfl p147 p148) rfl ?_
            refine W_v (.slice A157 (rd a0 x84).length c158) (x_load (S.frz hb152) ty22 rfl (hc155 0 _ rfl)) rfl ?_
            refine W_v (.slice A157 (rd a0 x84).length c158) (x_assign rfl) rfl ?_
            refine Wl_nil ?_
            refine tn ?_
            refine Wp_seq ?_
            refine Wp_region_lit ?_
            refine W_v (.int .i64 x83) (x_move rfl) rfl ?_
            refine W_v (.slice A157 (rd a0 x84).length c158) (x_move rfl) rfl ?_
            refine W_v (.int .i64 ((rd a0 x84).length : Int)) (x_len_slice (n := (rd a0 x84).length) Try.underlying22 rfl) rfl ?_
            refine W_v (.int .i64 (IntKind.i64.wrap (x83 + ((rd a0 x84).length : Int)))) (x_ibin rfl rfl rfl rfl) rfl ?_
            refine W_v (.int .i64 (IntKind.i64.wrap (x83 + ((rd a0 x84).length : Int)))) (x_assign rfl) rfl ?_
            refine Wl_nil ?_
            refine tn ?_
            refine Wp_seq ?_
            refine Wp_region_lit ?_
            refine W_v (.int .i64 (IntKind.i64.wrap (x83 + ((rd a0 x84).length : Int)))) (x_move rfl) rfl ?_
            refine W_v (.bool (decide ((IntKind.i64.wrap (x83 + ((rd a0 x84).length : Int))) < (0 : Int)))) (x_ibin rfl rfl rfl rfl) rfl ?_
            refine Wl_nil ?_
            refine tn ?_
            obtain ⟨o162, o162h, o162H⟩ := bindS H
            refine Wp_cut (fun ρ w' => () = o162 ∧ Agree ρ [(0, .slice A0 a0.length c0), (3, .int .i64 (IntKind.i64.wrap (x83 + ((rd a0 x84).length : Int)))), (9, .slice A0 a0.length c0), (10, .int .i64 (a0.length : Int)), (11, .int .i64 x84)] ∧ Ext w w' ∧ St w' M F []) ?_ ?_
            · clear o162H
              have H := o162h
              clear o162h
              rcases iteS H with ⟨hb163, H⟩ | ⟨hb163, H⟩
              · refine Wp_cond_true (congrArg Value.bool hb163) ?_
                cases H
              refine Wp_cond_false (congrArg Value.bool hb163) ?_
              refine Wp_skip ?_
              refine tn ?_
              exact ⟨Option.some.inj H, ⟨rfl, rfl, rfl, rfl, rfl, trivial⟩, E, S.pick [] (by decide)⟩
            clear o162h
            rintro ρ w164 ⟨rfl, hρ, E, S⟩
            rw [agree_eta hρ]
            clear hρ
            have H := o162H
            clear o162H
            refine bn ?_
            refine tn ?_
            exact ⟨Option.some.inj H, ⟨rfl, rfl, rfl, rfl, rfl, trivial⟩, E, S.pick [] (by decide)⟩
          clear o146h
          rintro ρ w165 ⟨rfl, hρ, E, S⟩
          rw [agree_eta hρ]
          clear hρ
          have H := o146H
          clear o146H
          refine tn ?_
          refine Wp_region_lit ?_
          refine W_v (.int .i64 (IntKind.i64.wrap (x84 + (1 : Int)))) (x_ibin rfl rfl rfl rfl) rfl ?_
          refine W_v (.int .i64 (IntKind.i64.wrap (x84 + (1 : Int)))) (x_move rfl) rfl ?_
          refine Wl_nil ?_
          refine tn ?_
          exact ⟨k, Nat.lt_succ_self k, ⟨(IntKind.i64.wrap (x83 + ((rd a0 x84).length : Int))), (IntKind.i64.wrap (x84 + (1 : Int))), H, ⟨rfl, rfl, rfl, rfl, rfl, trivial⟩, E, S.pick [] (by decide)⟩⟩
        refine Wp_cond_false (congrArg Value.bool hb127) ?_
        refine Wp_exit ?_
        refine tx (tx (bsm (?_)))
        refine tn ?_
        exact ⟨x83, Option.some.inj H, ⟨rfl, rfl, trivial⟩, E, S.pick [] (by decide)⟩
  clear o125h
  rintro ρ w166 ⟨x124, rfl, hρ, E, S⟩
  rw [agree_eta hρ]
  clear hρ
  have H := o125H
  clear o125H
  refine tn ?_
  refine Wp_seq ?_
  refine Wp_region_lit ?_
  refine W_v (.int .i64 x124) (x_move rfl) rfl ?_
  obtain ⟨t167, ht168, H⟩ := bindS H
  refine W_callF2 fn51 (slices_Grow_string_string_N.con k M x124 t167  ht168) (Γ1 := []) (Γ2 := []) S rfl rfl (by rintro _ _ _ ⟨_, _, rfl, rfl⟩; exact (flat_cons (flat_row (fun _ _ _ _ h => h)) flat_nil)) ?_
  rintro _ w172 _ Γ' E' S ⟨A169, c170, rfl, rfl⟩
  replace E := E.trans E'
  clear E'
  replace S : St w172 M F [Row rStr 9 (.slice A169 t167.length c170) t167] := S
  refine W_v (.slice A169 t167.length c170) (x_assign rfl) rfl ?_
  refine Wl_nil ?_
  refine tn ?_
  refine Wp_seq ?_
  refine Wp_seq ?_
  refine Wp_region_lit ?_
  refine W_v (.slice A0 a0.length c0) (x_move rfl) rfl ?_
  refine W_v (.int .i64 (a0.length : Int)) (x_len_slice (n := a0.length) Try.underlying76 rfl) rfl ?_
  refine W_v (.int .i64 0) (x_move rfl) rfl ?_
  refine Wl_nil ?_
  refine tn ?_
  obtain ⟨o263, o263h, o263H⟩ := bindS H
  clear H
  refine Wp_blockJ (fun ρ w' => ∃ (x259 : List Str) (A260 : Option Addr) (c261 : Nat), (x259) = o263 ∧ Agree ρ [(6, .slice A260 x259.length c261)] ∧ Ext w w' ∧ St w' M F [Row rStr 9 (.slice A260 x259.length c261) x259]) ?_ ?_
  · skip
    refine Wp_loop (fun n ρ w' => ∃ (x231 : List Str) (x235 : Int) (A232 : Option Addr) (c233 : Nat), slices_Concat_string_string_l1 a0 n x231 x235 = some o263 ∧ Agree ρ [(6, .slice A232 x231.length c233), (25, .slice A0 a0.length c0), (26, .int .i64 (a0.length : Int)), (27, .int .i64 x235)] ∧ Ext w w' ∧ St w' M F [Row rStr 9 (.slice A232 x231.length c233) x231]) k ?_ ?_
    · skip
      exact ⟨t167, (0 : Int), A169, c170, o263h, ⟨rfl, rfl, rfl, rfl, trivial⟩, E, S.pick [0] (by decide)⟩
    · intro n
      rintro ρ w264 ⟨x231, x235, A232, c233, H, hρ, E, S⟩
      rw [agree_eta hρ]
      clear hρ
      cases n with
      | zero => cases H
      | succ k =>
        rw [slices_Concat_string_string_l1.eq_2] at H
        refine Wp_seq ?_
        refine Wp_region_lit ?_
        refine W_v (.bool (decide (x235 < (a0.length : Int)))) (x_ibin rfl rfl rfl rfl) rfl ?_
        refine Wl_nil ?_
        refine tn ?_
        refine Wp_seq ?_
        rcases iteS H with ⟨hb265, H⟩ | ⟨hb265, H⟩
        · refine Wp_cond_true (congrArg Value.bool hb265) ?_
          refine Wp_skip ?_
          refine tn ?_
          refine Wp_seq ?_
          refine Wp_block ?_
          refine Wp_seq ?_
          refine Wp_region_lit ?_
          obtain ⟨⟨p266, p267⟩, H⟩ := chkS H
          obtain ⟨b268, o269, cs270, _, _, ee275, hb271, vs272, hR273, hc274⟩ := SlW.at' hr0 p266 p267
          obtain ⟨v279, hs278, rfl⟩ := hR273
          obtain ⟨A276, c277, rfl, _⟩ := hs278.form
          refine W_v (.pointer (some ⟨b268, o269 + x235.toNat * 1, none⟩)) (x_indexAddr Try.underlying76 ty22 (slA ee275) rfl p266 p267) rfl ?_
          refine W_v (.slice A276 (rd a0 x235).length c277) (x_load (S.frz hb271) ty22 rfl (hc274 0 _ rfl)) rfl ?_
          refine W_v (.slice A276 (rd a0 x235).length c277) (x_assign rfl) rfl ?_
          refine Wl_nil ?_
          refine tn ?_
          refine Wp_region_lit ?_
          refine W_v (.slice A232 x231.length c233) (x_move rfl) rfl ?_
          refine W_v (.slice A276 (rd a0 x235).length c277) (x_move rfl) rfl ?_
          obtain ⟨p280, H⟩ := chkS H
          obtain ⟨src281, hs282, hC283⟩ := src_of_read (P := Try.prog) (ρ := rStr) (l := (rd a0 x235)) (SlR.world hs278 S) (by decide)
          refine W_append S 0 rfl rfl rfl Try.underlying22 (.inl Try.underlying22) ty9 rfl (by decide) (by decide) hs282 hC283 rfl (by omega) rfl ?_
          intro v284 w285 E' S
          replace E := E.trans E'
          clear E'
          obtain ⟨A286, c287, rfl, _⟩ := (S.row_read 0 rfl).form
          refine W_v (.slice A286 (x231 ++ (rd a0 x235)).length c287) (x_assign rfl) rfl ?_
          refine Wl_nil ?_
          refine bn ?_
          refine tn ?_
          refine Wp_region_lit ?_
          refine W_v (.int .i64 (IntKind.i64.wrap (x235 + (1 : Int)))) (x_ibin rfl rfl rfl rfl) rfl ?_
          refine W_v (.int .i64 (IntKind.i64.wrap (x235 + (1 : Int)))) (x_move rfl) rfl ?_
          refine Wl_nil ?_
          refine tn ?_
          exact ⟨k, Nat.lt_succ_self k, ⟨(x231 ++ (rd a0 x235)), (IntKind.i64.wrap (x235 + (1 : Int))), A286, c287, H, ⟨rfl, rfl, rfl, rfl, trivial⟩, E, S.pick [0] (by decide)⟩⟩
        refine Wp_cond_false (congrArg Value.bool hb265) ?_
        refine Wp_exit ?_
        refine tx (tx (bsm (?_)))
        refine tn ?_
        exact ⟨x231, A232, c233, Option.some.inj H, ⟨rfl, trivial⟩, E, S.pick [0] (by decide)⟩
  clear o263h
  rintro ρ w288 ⟨x259, A260, c261, rfl, hρ, E, S⟩
  rw [agree_eta hρ]
  clear hρ
  have H := o263H
  clear o263H
  refine tn ?_
  refine Wp_seq ?_
  refine Wp_region_lit ?_
  refine W_v (.slice A260 x259.length c261) (x_move rfl) rfl ?_
  refine W_v (.slice A260 x259.length c261) (x_assign rfl) rfl ?_
  refine Wl_nil ?_
  refine tn ?_
  refine Wp_ret ?_
  obtain rfl := Option.some.inj H
  exact ⟨_, _, _, fun w1 e1 => run_resR (vs := [.slice A260 x259.length c261]) (FA.cons (rfl) (FA.nil)), HM, E, S.pick [0] (by decide), ⟨A260, c261, rfl, rfl⟩⟩
/-! ### ferryman/fork.with[string]: function 37 -/
def fork_with_string (k : Nat) (a0 : (List Str)) (a1 : Int) (a2 : Int) (a3 : (List Str)) : Option ((List Str)) :=
  (if 0 ≤ a1 ∧ a1 ≤ (a0.length : Int) then (if 0 ≤ (IntKind.i64.wrap (a1 + a2)) ∧ (IntKind.i64.wrap (a1 + a2)) ≤ (a0.length : Int) then (Option.bind (slices_Concat_string_string k ([(List.take a1.toNat a0), a3, (List.drop (IntKind.i64.wrap (a1 + a2)).toNat a0)] : List (List Str))) (fun t37 => some t37)) else none) else none)
set_option maxHeartbeats 2000000 in
theorem fork_with_string.mono {k : Nat} {a0 : (List Str)} {a1 : Int} {a2 : Int} {a3 : (List Str)} : OLe (fork_with_string k a0 a1 a2 a3) (fork_with_string (k + 1) a0 a1 a2 a3) := by
  unfold fork_with_string
  repeat' (first | with_reducible exact OLe.none | with_reducible exact OLe.some | with_reducible refine OLe.ite ?_ ?_ | with_reducible refine OLe.bind ?_ (fun _ => ?_) | with_reducible exact slices_Concat_string_string.mono | refine OLe.bind ?_ (fun _ => ?_) | refine OLe.ite ?_ ?_ | refine OLe.elim (fun _ => ?_) (fun _ => ?_) | split)
set_option maxHeartbeats 1000000 in
set_option maxRecDepth 100000 in
theorem fork_with_string.con (k : Nat) (M : Hp) (A0 : Option Addr) (c0 : Nat) (a0 : (List Str)) (a1 : Int) (a2 : Int) (A3 : Option Addr) (c3 : Nat) (a3 : (List Str)) (r : (List Str)) (hr0 : SlR rStr M (.slice A0 a0.length c0) a0) (hr3 : SlR rStr M (.slice A3 a3.length c3) a3) (h : fork_with_string k a0 a1 a2 a3 = some r) : Con Try.prog 37 #[.slice A0 a0.length c0, .int .i64 a1, .int .i64 a2, .slice A3 a3.length c3] M [] (fun v M' Γ' => ∃ (A0 : Option Addr) (c0 : Nat), v = .slice A0 r.length c0 ∧ Γ' = [Row rStr 9 (.slice A0 r.length c0) r]) := by
  refine con_of_wp Try.func37 rfl Try.ntmps37 Try.results37 rfl ?_
  intro w F rn S hrn
  have E := Ext.refl w
  have HM := Hp.le_refl M
  have H := h
  unfold fork_with_string at H
  refine Wp_seq ?_
  refine Wp_region_lit ?_
  refine W_v (.slice none 0 0) (x_assign rfl) rfl ?_
  refine Wl_nil ?_
  refine tn ?_
  refine Wp_seq ?_
  refine Wp_region_any (S := fun w' => ∃ Mx, M.le Mx ∧ St w' Mx F []) mixed ?_
  intro w21 hw22 E'
  replace S := S.heap hw22
  replace E := E.trans E'
  clear E'
  refine Wa_take (i := 0) rfl (by kernel_rfl) rfl rfl (.slice A0 a0.length c0) rfl (fun w' h' => x_move rfl) (⟨M, Hp.le_refl M, S.pick [] (by decide)⟩) ?_
  refine Wa_take (i := 1) rfl (by kernel_rfl) rfl rfl (.int .i64 a1) rfl (fun w' h' => x_move rfl) (⟨M, Hp.le_refl M, S.pick [] (by decide)⟩) ?_
  obtain ⟨⟨p23, p24⟩, H⟩ := chkS H
  obtain ⟨hs26, hx27⟩ := sl_hi hr0 p23 p24
  have hs26z := hs26
  refine Wa_take (i := 2) rfl (by kernel_rfl) rfl rfl (.slice A0 (List.take a1.toNat a0).length c0) rfl (fun w' h' => hx27 Try.underlying22 ty9 rfl rfl) (⟨M, Hp.le_refl M, S.pick [] (by decide)⟩) ?_
  refine Wa_take (i := 3) rfl (by kernel_rfl) rfl rfl (.slice A3 a3.length c3) rfl (fun w' h' => x_move rfl) (⟨M, Hp.le_refl M, S.pick [] (by decide)⟩) ?_
  refine Wa_take (i := 4) rfl (by kernel_rfl) rfl rfl (.slice A0 a0.length c0) rfl (fun w' h' => x_move rfl) (⟨M, Hp.le_refl M, S.pick [] (by decide)⟩) ?_
  refine Wa_take (i := 5) rfl (by kernel_rfl) rfl rfl (.int .i64 a1) rfl (fun w' h' => x_move rfl) (⟨M, Hp.le_refl M, S.pick [] (by decide)⟩) ?_
  refine Wa_take (i := 6) rfl (by kernel_rfl) rfl rfl (.int .i64 a2) rfl (fun w' h' => x_move rfl) (⟨M, Hp.le_refl M, S.pick [] (by decide)⟩) ?_
  refine Wa_take (i := 7) rfl (by kernel_rfl) rfl rfl (.int .i64 (IntKind.i64.wrap (a1 + a2))) rfl (fun w' h' => x_ibin rfl rfl rfl rfl) (⟨M, Hp.le_refl M, S.pick [] (by decide)⟩) ?_
  obtain ⟨⟨p28, p29⟩, H⟩ := chkS H
  obtain ⟨A30, c31, hs32, hx33⟩ := sl_lo hr0 p28 p29
  have hs32z := hs32
  refine Wa_take (i := 8) rfl (by kernel_rfl) rfl rfl (.slice A30 (List.drop (IntKind.i64.wrap (a1 + a2)).toNat a0).length c31) rfl (fun w' h' => hx33 Try.underlying22 ty9 rfl rfl) (⟨M, Hp.le_refl M, S.pick [] (by decide)⟩) ?_
  refine Wa_solo (i := 9) rfl (by kernel_rfl) ?_
  refine W_bslice S #[.slice A0 (List.take a1.toNat a0).length c0, .slice A3 a3.length c3, .slice A30 (List.drop (IntKind.i64.wrap (a1 + a2)).toNat a0).length c31] Try.underlying76 ty22 rfl rfl #[.slice none 0 0, .slice none 0 0, .slice none 0 0] (by kernel_rfl) (by kernel_rfl) rfl ?_
  intro b34 w35 E' S
  replace E := E.trans E'
  clear E'
  replace S := S.blk_row (r := (rSl rStr)) (l := ([(List.take a1.toNat a0), a3, (List.drop (IntKind.i64.wrap (a1 + a2)).toNat a0)] : List (List Str))) 0 rfl 3 (Nat.le_refl 3) rfl (Cells.cons (vs := [.slice A0 (List.take a1.toNat a0).length c0]) (⟨_, hs26, rfl⟩) (Cells.cons (vs := [.slice A3 a3.length c3]) (⟨_, hr3, rfl⟩) (Cells.cons (vs := [.slice A30 (List.drop (IntKind.i64.wrap (a1 + a2)).toNat a0).length c31]) (⟨_, hs32, rfl⟩) Cells.nil)))
  refine Wl_nil (on_n ⟨⟨M, Hp.le_refl M, S.pick [] (by decide)⟩, ?_⟩)
  refine Wa_solo (i := 10) rfl (by kernel_rfl) ?_
  obtain ⟨t37, ht38, H⟩ := bindS H
  refine W_callN 1 fn47 (fun h9 hs9 hd9 => slices_Concat_string_string.con k _ (some ⟨b34, 0, none⟩) 3 ([(List.take a1.toNat a0), a3, (List.drop (IntKind.i64.wrap (a1 + a2)).toNat a0)] : List (List Str)) t37 (Sats.row hs9 hd9 0 rfl) ht38) S rfl rfl (by rintro _ _ _ ⟨_, _, _, rfl⟩; exact (flat_cons (flat_row (fun _ _ _ _ h => h)) flat_nil)) ?_
  rintro _ w42 _ Γ' E' S ⟨A39, c40, rfl, rfl⟩
  replace E := E.trans E'
  clear E'
  refine Wl_nil (on_n ⟨⟨M, Hp.le_refl M, S.pick [] (by decide)⟩, ?_⟩)
  refine Wa_take (i := 11) rfl (by kernel_rfl) rfl rfl (.slice A39 t37.length c40) rfl (fun w' h' => x_assign rfl) (⟨M, Hp.le_refl M, S.pick [] (by decide)⟩) ?_
  refine Wa_done (by kernel_rfl) ?_
  refine tn ?_
  refine Wp_ret ?_
  obtain rfl := Option.some.inj H
  exact ⟨_, _, _, fun w1 e1 => run_resR (vs := [.slice A39 t37.length c40]) (FA.cons (rfl) (FA.nil)), HM, E, S.pick [0] (by decide), ⟨A39, c40, rfl, rfl⟩⟩
/-! ### slices.Grow[[]ferryman/api.Handle,ferryman/api.Handle]: function 52 -/
def slices_Grow_api_Handle_api_Handle_N (k : Nat) (a1 : Int) : Option ((List Int)) :=
  (Option.bind (α := Unit) (if (decide (a1 < (0 : Int))) = true then none else some ()) (fun _ => (Option.bind (α := List Int) (if (decide ((IntKind.i64.wrap (a1 - (IntKind.i64.wrap ((0 : Int) - (0 : Int))))) > (0 : Int))) = true then (if 0 ≤ (IntKind.i64.wrap (a1 - (IntKind.i64.wrap ((0 : Int) - (0 : Int))))) ∧ (IntKind.i64.wrap (a1 - (IntKind.i64.wrap ((0 : Int) - (0 : Int))))) * 8 ≤ 140737488355328 then (if 0 ≤ (0 : Int) ∧ (0 : Int) ≤ ((List.replicate (IntKind.i64.wrap (a1 - (IntKind.i64.wrap ((0 : Int) - (0 : Int))))).toNat (0 : Int)).length : Int) then some ((List.take (0 : Int).toNat (List.replicate (IntKind.i64.wrap (a1 - (IntKind.i64.wrap ((0 : Int) - (0 : Int))))).toNat (0 : Int)))) else none) else none) else some (([] : List Int))) (fun x15 => some x15))))
set_option maxHeartbeats 2000000 in
theorem slices_Grow_api_Handle_api_Handle_N.mono {k : Nat} {a1 : Int} : OLe (slices_Grow_api_Handle_api_Handle_N k a1) (slices_Grow_api_Handle_api_Handle_N (k + 1) a1) := by
  unfold slices_Grow_api_Handle_api_Handle_N
  repeat' (first | with_reducible exact OLe.none | with_reducible exact OLe.some | with_reducible refine OLe.ite ?_ ?_ | with_reducible refine OLe.bind ?_ (fun _ => ?_) | refine OLe.bind ?_ (fun _ => ?_) | refine OLe.ite ?_ ?_ | refine OLe.elim (fun _ => ?_) (fun _ => ?_) | split)
set_option maxHeartbeats 1000000 in
set_option maxRecDepth 100000 in
theorem slices_Grow_api_Handle_api_Handle_N.con (k : Nat) (M : Hp) (a1 : Int) (r : (List Int))  (h : slices_Grow_api_Handle_api_Handle_N k a1 = some r) : Con Try.prog 52 #[.slice none 0 0, .int .i64 a1] M [] (fun v M' Γ' => ∃ (Aq1 : Option Addr) (cq2 : Nat), v = .slice Aq1 r.length cq2 ∧ Γ' = [Row (rInt .u64) 41 (.slice Aq1 r.length cq2) r]) := by
  refine con_of_wp Try.func52 rfl Try.ntmps52 Try.results52 rfl ?_
  intro w F rn S hrn
  have E := Ext.refl w
  have HM := Hp.le_refl M
  have H := h
  unfold slices_Grow_api_Handle_api_Handle_N at H
  refine Wp_seq ?_
  refine Wp_region_lit ?_
  refine W_v (.slice none 0 0) (x_assign rfl) rfl ?_
  refine Wl_nil ?_
  refine tn ?_
  refine Wp_seq ?_
  refine Wp_seq ?_
  refine Wp_region_lit ?_
  refine W_v (.int .i64 a1) (x_move rfl) rfl ?_
  refine W_v (.bool (decide (a1 < (0 : Int)))) (x_ibin rfl rfl rfl rfl) rfl ?_
  refine Wl_nil ?_
  refine tn ?_
  obtain ⟨o2, o2h, o2H⟩ := bindS H
  refine Wp_cut (fun ρ w' => () = o2 ∧ Agree ρ [(0, .slice none 0 0), (1, .int .i64 a1)] ∧ Ext w w' ∧ St w' M F []) ?_ ?_
  · clear o2H
    have H := o2h
    clear o2h
    rcases iteS H with ⟨hb3, H⟩ | ⟨hb3, H⟩
    · refine Wp_cond_true (congrArg Value.bool hb3) ?_
      cases H
    refine Wp_cond_false (congrArg Value.bool hb3) ?_
    refine Wp_skip ?_
    refine tn ?_
    exact ⟨Option.some.inj H, ⟨rfl, rfl, trivial⟩, E, S.pick [] (by decide)⟩
  clear o2h
  rintro ρ w4 ⟨rfl, hρ, E, S⟩
  rw [agree_eta hρ]
  clear hρ
  have H := o2H
  clear o2H
  refine tn ?_
  refine Wp_seq ?_
  refine Wp_seq ?_
  refine Wp_region_lit ?_
  refine W_v (.int .i64 a1) (x_move rfl) rfl ?_
  refine W_v (.slice none 0 0) (x_move rfl) rfl ?_
  refine W_v (.int .i64 0) (x_cap_slice (c := 0) Try.underlying24 rfl) rfl ?_
  refine W_v (.slice none 0 0) (x_move rfl) rfl ?_
  refine W_v (.int .i64 0) (x_len_slice (n := 0) Try.underlying24 rfl) rfl ?_
  refine W_v (.int .i64 (IntKind.i64.wrap ((0 : Int) - (0 : Int)))) (x_ibin rfl rfl rfl rfl) rfl ?_
  refine W_v (.int .i64 (IntKind.i64.wrap (a1 - (IntKind.i64.wrap ((0 : Int) - (0 : Int)))))) (x_ibin rfl rfl rfl rfl) rfl ?_
  refine W_v (.int .i64 (IntKind.i64.wrap (a1 - (IntKind.i64.wrap ((0 : Int) - (0 : Int)))))) (x_assign rfl) rfl ?_
  refine Wl_nil ?_
  refine tn ?_
  refine Wp_seq ?_
  refine Wp_region_lit ?_
  refine W_v (.int .i64 (IntKind.i64.wrap (a1 - (IntKind.i64.wrap ((0 : Int) - (0 : Int)))))) (x_move rfl) rfl ?_
  refine W_v (.bool (decide ((IntKind.i64.wrap (a1 - (IntKind.i64.wrap ((0 : Int) - (0 : Int))))) > (0 : Int)))) (x_ibin rfl rfl rfl rfl) rfl ?_
  refine Wl_nil ?_
  refine tn ?_
  obtain ⟨o19, o19h, o19H⟩ := bindS H
  refine Wp_cut (fun ρ w' => ∃ (x15 : List Int) (A16 : Option Addr) (c17 : Nat), (x15) = o19 ∧ Agree ρ [(0, .slice A16 x15.length c17)] ∧ Ext w w' ∧ St w' M F [Row (rInt .u64) 41 (.slice A16 x15.length c17) x15]) ?_ ?_
  · clear o19H
    have H := o19h
    clear o19h
    rcases iteS H with ⟨hb20, H⟩ | ⟨hb20, H⟩
    · refine Wp_cond_true (congrArg Value.bool hb20) ?_
      refine Wp_region_lit ?_
      refine W_v (.slice none 0 0) (x_move rfl) rfl ?_
      refine W_v (.slice none 0 0) (x_move rfl) rfl ?_
      refine W_v (.int .i64 0) (x_cap_slice (c := 0) Try.underlying24 rfl) rfl ?_
      refine W_v (.slice none 0 0) (x_slice_nil0 Try.underlying24 ty41 rfl rfl) rfl ?_
      refine W_v (.int .i64 (IntKind.i64.wrap (a1 - (IntKind.i64.wrap ((0 : Int) - (0 : Int)))))) (x_move rfl) rfl ?_
      obtain ⟨⟨p21, p22⟩, H⟩ := chkS H
      refine W_appendZ (r := (rInt .u64)) S (0 : Int) Try.underlying24 Try.underlying3 ty41 rfl (by decide) (by decide) (fun _ => rfl) rfl rfl p21 p22 rfl ?_
      intro A23 c24 w25 E' S
      replace E := E.trans E'
      clear E'
      refine W_v (.slice none 0 0) (x_move rfl) rfl ?_
      refine W_v (.int .i64 0) (x_len_slice (n := 0) Try.underlying24 rfl) rfl ?_
      obtain ⟨⟨p27, p28⟩, H⟩ := chkS H
      have hx29 := @slW_hi _ _ _ _ _ _ _ _ _ (S.row_read 0 rfl) p27 p28
      replace S := S.row_take 0 rfl (0 : Int).toNat (by omega)
      replace S : St w25 M F [Row (rInt .u64) 41 (.slice A23 (List.take (0 : Int).toNat (List.replicate (IntKind.i64.wrap (a1 - (IntKind.i64.wrap ((0 : Int) - (0 : Int))))).toNat (0 : Int))).length c24) (List.take (0 : Int).toNat (List.replicate (IntKind.i64.wrap (a1 - (IntKind.i64.wrap ((0 : Int) - (0 : Int))))).toNat (0 : Int)))] := S
      refine W_v (.slice A23 (List.take (0 : Int).toNat (List.replicate (IntKind.i64.wrap (a1 - (IntKind.i64.wrap ((0 : Int) - (0 : Int))))).toNat (0 : Int))).length c24) (hx29 Try.underlying24 ty41 rfl rfl) rfl ?_
      refine W_v (.slice A23 (List.take (0 : Int).toNat (List.replicate (IntKind.i64.wrap (a1 - (IntKind.i64.wrap ((0 : Int) - (0 : Int))))).toNat (0 : Int))).length c24) (x_assign rfl) rfl ?_
      refine Wl_nil ?_
      refine tn ?_
      exact ⟨(List.take (0 : Int).toNat (List.replicate (IntKind.i64.wrap (a1 - (IntKind.i64.wrap ((0 : Int) - (0 : Int))))).toNat (0 : Int))), A23, c24, Option.some.inj H, ⟨rfl, trivial⟩, E, S.pick [0] (by decide)⟩
    refine Wp_cond_false (congrArg Value.bool hb20) ?_
    refine Wp_skip ?_
    refine tn ?_
    replace S := S.row_nil (rInt .u64) 41
    exact ⟨([] : List Int), none, 0, Option.some.inj H, ⟨rfl, trivial⟩, E, S.pick [0] (by decide)⟩
  clear o19h
  rintro ρ w31 ⟨x15, A16, c17, rfl, hρ, E, S⟩
  rw [agree_eta hρ]
  clear hρ
  have H := o19H
  clear o19H
  refine tn ?_
  refine Wp_seq ?_
  refine Wp_region_lit ?_
  refine W_v (.slice A16 x15.length c17) (x_move rfl) rfl ?_
  refine W_v (.slice A16 x15.length c17) (x_assign rfl) rfl ?_
  refine Wl_nil ?_
  refine tn ?_
  refine Wp_ret ?_
  obtain rfl := Option.some.inj H
  exact ⟨_, _, _, fun w1 e1 => run_resR (vs := [.slice A16 x15.length c17]) (FA.cons (rfl) (FA.nil)), HM, E, S.pick [0] (by decide), ⟨A16, c17, rfl, rfl⟩⟩
/-! ### slices.Concat[[]ferryman/api.Handle,ferryman/api.Handle]: function 48 -/
def slices_Concat_api_Handle_api_Handle_l1 (a0 : (List (List Int))) : Nat → List Int → Int → Option ((List Int))
  | 0, _, _ => none
  | k + 1, x231, x235 => (if (decide (x235 < (a0.length : Int))) = true then (if 0 ≤ x235 ∧ x235 < (a0.length : Int) then (if x231.length + (rd a0 x235).length ≤ 17592186044416 then slices_Concat_api_Handle_api_Handle_l1 a0 k (x231 ++ (rd a0 x235)) (IntKind.i64.wrap (x235 + (1 : Int))) else none) else none) else some (x231))
set_option maxHeartbeats 2000000 in
theorem slices_Concat_api_Handle_api_Handle_l1.mono {a0 : (List (List Int))} : ∀ {k : Nat} {x0 x1}, OLe (slices_Concat_api_Handle_api_Handle_l1 a0 k x0 x1) (slices_Concat_api_Handle_api_Handle_l1 a0 (k + 1) x0 x1) := by
  intro k
  induction k with
  | zero => intros; exact OLe.none
  | succ k ih =>
    intros
    rw [slices_Concat_api_Handle_api_Handle_l1.eq_2, slices_Concat_api_Handle_api_Handle_l1.eq_2]
    repeat' (first | with_reducible exact OLe.none | with_reducible exact OLe.some | with_reducible refine OLe.ite ?_ ?_ | with_reducible refine OLe.bind ?_ (fun _ => ?_) | exact ih | refine OLe.bind ?_ (fun _ => ?_) | refine OLe.ite ?_ ?_ | refine OLe.elim (fun _ => ?_) (fun _ => ?_) | split)
def slices_Concat_api_Handle_api_Handle_l0 (a0 : (List (List Int))) : Nat → Int → Int → Option ((Int))
  | 0, _, _ => none
  | k + 1, x83, x84 => (if (decide (x84 < (a0.length : Int))) = true then (Option.bind (α := Unit) (if 0 ≤ x84 ∧ x84 < (a0.length : Int) then (Option.bind (α := Unit) (if (decide ((IntKind.i64.wrap (x83 + ((rd a0 x84).length : Int))) < (0 : Int))) = true then none else some ()) (fun _ => some ())) else none) (fun _ => slices_Concat_api_Handle_api_Handle_l0 a0 k (IntKind.i64.wrap (x83 + ((rd a0 x84).length : Int))) (IntKind.i64.wrap (x84 + (1 : Int))))) else some (x83))
set_option maxHeartbeats 2000000 in
theorem slices_Concat_api_Handle_api_Handle_l0.mono {a0 : (List (List Int))} : ∀ {k : Nat} {x0 x1}, OLe (slices_Concat_api_Handle_api_Handle_l0 a0 k x0 x1) (slices_Concat_api_Handle_api_Handle_l0 a0 (k + 1) x0 x1) := by
  intro k
  induction k with
  | zero => intros; exact OLe.none
  | succ k ih =>
    intros
    rw [slices_Concat_api_Handle_api_Handle_l0.eq_2, slices_Concat_api_Handle_api_Handle_l0.eq_2]
    repeat' (first | with_reducible exact OLe.none | with_reducible exact OLe.some | with_reducible refine OLe.ite ?_ ?_ | with_reducible refine OLe.bind ?_ (fun _ => ?_) | exact ih | refine OLe.bind ?_ (fun _ => ?_) | refine OLe.ite ?_ ?_ | refine OLe.elim (fun _ => ?_) (fun _ => ?_) | split)
def slices_Concat_api_Handle_api_Handle (k : Nat) (a0 : (List (List Int))) : Option ((List Int)) :=
  (Option.bind (slices_Concat_api_Handle_api_Handle_l0 a0 k (0 : Int) (0 : Int)) (fun x124 => (Option.bind (slices_Grow_api_Handle_api_Handle_N k x124) (fun t167 => (Option.bind (slices_Concat_api_Handle_api_Handle_l1 a0 k t167 (0 : Int)) (fun x259 => some x259))))))
set_option maxHeartbeats 2000000 in
theorem slices_Concat_api_Handle_api_Handle.mono {k : Nat} {a0 : (List (List Int))} : OLe (slices_Concat_api_Handle_api_Handle k a0) (slices_Concat_api_Handle_api_Handle (k + 1) a0) := by
  unfold slices_Concat_api_Handle_api_Handle
  repeat' (first | with_reducible exact OLe.none | with_reducible exact OLe.some | with_reducible refine OLe.ite ?_ ?_ | with_reducible refine OLe.bind ?_ (fun _ => ?_) | with_reducible exact slices_Concat_api_Handle_api_Handle_l0.mono | with_reducible exact slices_Concat_api_Handle_api_Handle_l1.mono | with_reducible exact slices_Grow_api_Handle_api_Handle_N.mono | refine OLe.bind ?_ (fun _ => ?_) | refine OLe.ite ?_ ?_ | refine OLe.elim (fun _ => ?_) (fun _ => ?_) | split)
set_option maxHeartbeats 1000000 in
set_option maxRecDepth 100000 in
theorem slices_Concat_api_Handle_api_Handle.con (k : Nat) (M : Hp) (A0 : Option Addr) (c0 : Nat) (a0 : (List (List Int))) (r : (List Int)) (hr0 : SlR (rSl (rInt .u64)) M (.slice A0 a0.length c0) a0) (h : slices_Concat_api_Handle_api_Handle k a0 = some r) : Con Try.prog 48 #[.slice A0 a0.length c0] M [] (fun v M' Γ' => ∃ (A0 : Option Addr) (c0 : Nat), v = .slice A0 r.length c0 ∧ Γ' = [Row (rInt .u64) 41 (.slice A0 r.length c0) r]) := by
  refine con_of_wp Try.func48 rfl Try.ntmps48 Try.results48 rfl ?_
  intro w F rn S hrn
  have E := Ext.refl w
  have HM := Hp.le_refl M
  have H := h
  unfold slices_Concat_api_Handle_api_Handle at H
  refine Wp_seq ?_
  refine Wp_region_lit ?_
  refine W_v (.slice none 0 0) (x_assign rfl) rfl ?_
  refine Wl_nil ?_
  refine tn ?_
  refine Wp_seq ?_
  refine Wp_region_lit ?_
  refine W_v (.int .i64 0) (x_assign rfl) rfl ?_
  refine Wl_nil ?_
  refine tn ?_
  refine Wp_seq ?_
  refine Wp_seq ?_
  refine Wp_region_lit ?_
  refine W_v (.slice A0 a0.length c0) (x_move rfl) rfl ?_
  refine W_v (.int .i64 (a0.length : Int)) (x_len_slice (n := a0.length) Try.underlying78 rfl) rfl ?_
  refine W_v (.int .i64 0) (x_move rfl) rfl ?_
  refine Wl_nil ?_
  refine tn ?_
  obtain ⟨o125, o125h, o125H⟩ := bindS H
  clear H
  refine Wp_blockJ (fun ρ w' => ∃ (x124 : Int), (x124) = o125 ∧ Agree ρ [(0, .slice A0 a0.length c0), (3, .int .i64 x124)] ∧ Ext w w' ∧ St w' M F []) ?_ ?_
  · skip
    refine Wp_loop (fun n ρ w' => ∃ (x83 : Int) (x84 : Int), slices_Concat_api_Handle_api_Handle_l0 a0 n x83 x84 = some o125 ∧ Agree ρ [(0, .slice A0 a0.length c0), (3, .int .i64 x83), (9, .slice A0 a0.length c0), (10, .int .i64 (a0.length : Int)), (11, .int .i64 x84)] ∧ Ext w w' ∧ St w' M F []) k ?_ ?_
    · skip
      exact ⟨(0 : Int), (0 : Int), o125h, ⟨rfl, rfl, rfl, rfl, rfl, trivial⟩, E, S.pick [] (by decide)⟩
    · intro n
      rintro ρ w126 ⟨x83, x84, H, hρ, E, S⟩
      rw [agree_eta hρ]
      clear hρ
      cases n with
      | zero => cases H
      | succ k =>
        rw [slices_Concat_api_Handle_api_Handle_l0.eq_2] at H
        refine Wp_seq ?_
        refine Wp_region_lit ?_
        refine W_v (.bool (decide (x84 < (a0.length : Int)))) (x_ibin rfl rfl rfl rfl) rfl ?_
        refine Wl_nil ?_
        refine tn ?_
        refine Wp_seq ?_
        rcases iteS H with ⟨hb127, H⟩ | ⟨hb127, H⟩
        · refine Wp_cond_true (congrArg Value.bool hb127) ?_
          refine Wp_skip ?_
          refine tn ?_
          refine Wp_seq ?_
          obtain ⟨o146, o146h, o146H⟩ := bindS H
          refine Wp_cut (fun ρ w' => () = o146 ∧ Agree ρ [(0, .slice A0 a0.length c0), (3, .int .i64 (IntKind.i64.wrap (x83 + ((rd a0 x84).length : Int)))), (9, .slice A0 a0.length c0), (10, .int .i64 (a0.length : Int)), (11, .int .i64 x84)] ∧ Ext w w' ∧ St w' M F []) ?_ ?_
          · clear o146H
            have H := o146h
            clear o146h
            refine Wp_block ?_
            refine Wp_seq ?_
            refine Wp_region_lit ?_
            obtain ⟨⟨p147, p148⟩, H⟩ := chkS H
            obtain ⟨b149, o150, cs151, _, _, ee156, hb152, vs153, hR154, hc155⟩ := SlW.at' hr0 p147 p148
            obtain ⟨v160, hs159, rfl⟩ := hR154
            obtain ⟨A157, c158, rfl, _⟩ := hs159.form
            refine W_v (.pointer (some ⟨b149, o150 + x84.toNat * 1, none⟩)) (x_indexAddr Try.underlying78 ty24 (slA ee156) rfl p147 p148) rfl ?_
            refine W_v (.slice A157 (rd a0 x84).length c158) (x_load (S.frz hb152) ty24 rfl (hc155 0 _ rfl)) rfl ?_
            refine W_v (.slice A157 (rd a0 x84).length c158) (x_assign rfl) rfl ?_
            refine Wl_nil ?_
            refine tn ?_
            refine Wp_seq ?_
            refine Wp_region_lit ?_
            refine W_v (.int .i64 x83) (x_move rfl) rfl ?_
            refine W_v (.slice A157 (rd a0 x84).length c158) (x_move rfl) rfl ?_
            refine W_v (.int .i64 ((rd a0 x84).length : Int)) (x_len_slice (n := (rd a0 x84).length) Try.underlying24 rfl) rfl ?_
            refine W_v (.int .i64 (IntKind.i64.wrap (x83 + ((rd a0 x84).length : Int)))) (x_ibin rfl rfl rfl rfl) rfl ?_
            refine W_v (.int .i64 (IntKind.i64.wrap (x83 + ((rd a0 x84).length : Int)))) (x_assign rfl) rfl ?_
            refine Wl_nil ?_
            refine tn ?_
            refine Wp_seq ?_
            refine Wp_region_lit ?_
            refine W_v (.int .i64 (IntKind.i64.wrap (x83 + ((rd a0 x84).length : Int)))) (x_move rfl) rfl ?_
            refine W_v (.bool (decide ((IntKind.i64.wrap (x83 + ((rd a0 x84).length : Int))) < (0 : Int)))) (x_ibin rfl rfl rfl rfl) rfl ?_
            refine Wl_nil ?_
            refine tn ?_
            obtain ⟨o162, o162h, o162H⟩ := bindS H
            refine Wp_cut (fun ρ w' => () = o162 ∧ Agree ρ [(0, .slice A0 a0.length c0), (3, .int .i64 (IntKind.i64.wrap (x83 + ((rd a0 x84).length : Int)))), (9, .slice A0 a0.length c0), (10, .int .i64 (a0.length : Int)), (11, .int .i64 x84)] ∧ Ext w w' ∧ St w' M F []) ?_ ?_
            · clear o162H
              have H := o162h
              clear o162h
              rcases iteS H with ⟨hb163, H⟩ | ⟨hb163, H⟩
              · refine Wp_cond_true (congrArg Value.bool hb163) ?_
                cases H
              refine Wp_cond_false (congrArg Value.bool hb163) ?_
              refine Wp_skip ?_
              refine tn ?_
              exact ⟨Option.some.inj H, ⟨rfl, rfl, rfl, rfl, rfl, trivial⟩, E, S.pick [] (by decide)⟩
            clear o162h
            rintro ρ w164 ⟨rfl, hρ, E, S⟩
            rw [agree_eta hρ]
            clear hρ
            have H := o162H
            clear o162H
            refine bn ?_
            refine tn ?_
            exact ⟨Option.some.inj H, ⟨rfl, rfl, rfl, rfl, rfl, trivial⟩, E, S.pick [] (by decide)⟩
          clear o146h
          rintro ρ w165 ⟨rfl, hρ, E, S⟩
          rw [agree_eta hρ]
          clear hρ
          have H := o146H
          clear o146H
          refine tn ?_
          refine Wp_region_lit ?_
          refine W_v (.int .i64 (IntKind.i64.wrap (x84 + (1 : Int)))) (x_ibin rfl rfl rfl rfl) rfl ?_
          refine W_v (.int .i64 (IntKind.i64.wrap (x84 + (1 : Int)))) (x_move rfl) rfl ?_
          refine Wl_nil ?_
          refine tn ?_
          exact ⟨k, Nat.lt_succ_self k, ⟨(IntKind.i64.wrap (x83 + ((rd a0 x84).length : Int))), (IntKind.i64.wrap (x84 + (1 : Int))), H, ⟨rfl, rfl, rfl, rfl, rfl, trivial⟩, E, S.pick [] (by decide)⟩⟩
        refine Wp_cond_false (congrArg Value.bool hb127) ?_
        refine Wp_exit ?_
        refine tx (tx (bsm (?_)))
        refine tn ?_
        exact ⟨x83, Option.some.inj H, ⟨rfl, rfl, trivial⟩, E, S.pick [] (by decide)⟩
  clear o125h
  rintro ρ w166 ⟨x124, rfl, hρ, E, S⟩
  rw [agree_eta hρ]
  clear hρ
  have H := o125H
  clear o125H
  refine tn ?_
  refine Wp_seq ?_
  refine Wp_region_lit ?_
  refine W_v (.int .i64 x124) (x_move rfl) rfl ?_
  obtain ⟨t167, ht168, H⟩ := bindS H
  refine W_callF2 fn52 (slices_Grow_api_Handle_api_Handle_N.con k M x124 t167  ht168) (Γ1 := []) (Γ2 := []) S rfl rfl (by rintro _ _ _ ⟨_, _, rfl, rfl⟩; exact (flat_cons (flat_row (fun _ _ _ _ h => h)) flat_nil)) ?_
  rintro _ w172 _ Γ' E' S ⟨A169, c170, rfl, rfl⟩
  replace E := E.trans E'
  clear E'
  replace S : St w172 M F [Row (rInt .u64) 41 (.slice A169 t167.length c170) t167] := S
  refine W_v (.slice A169 t167.length c170) (x_assign rfl) rfl ?_
  refine Wl_nil ?_
  refine tn ?_
  refine Wp_seq ?_
  refine Wp_seq ?_
  refine Wp_region_lit ?_
  refine W_v (.slice A0 a0.length c0) (x_move rfl) rfl ?_
  refine W_v (.int .i64 (a0.length : Int)) (x_len_slice (n := a0.length) Try.underlying78 rfl) rfl ?_
  refine W_v (.int .i64 0) (x_move rfl) rfl ?_
  refine Wl_nil ?_
  refine tn ?_
  obtain ⟨o263, o263h, o263H⟩ := bindS H
  clear H
  refine Wp_blockJ (fun ρ w' => ∃ (x259 : List Int) (A260 : Option Addr) (c261 : Nat), (x259) = o263 ∧ Agree ρ [(6, .slice A260 x259.length c261)] ∧ Ext w w' ∧ St w' M F [Row (rInt .u64) 41 (.slice A260 x259.length c261) x259]) ?_ ?_
  · skip
    refine Wp_loop (fun n ρ w' => ∃ (x231 : List Int) (x235 : Int) (A232 : Option Addr) (c233 : Nat), slices_Concat_api_Handle_api_Handle_l1 a0 n x231 x235 = some o263 ∧ Agree ρ [(6, .slice A232 x231.length c233), (25, .slice A0 a0.length c0), (26, .int .i64 (a0.length : Int)), (27, .int .i64 x235)] ∧ Ext w w' ∧ St w' M F [Row (rInt .u64) 41 (.slice A232 x231.length c233) x231]) k ?_ ?_
    · skip
      exact ⟨t167, (0 : Int), A169, c170, o263h, ⟨rfl, rfl, rfl, rfl, trivial⟩, E, S.pick [0] (by decide)⟩
    · intro n
      rintro ρ w264 ⟨x231, x235, A232, c233, H, hρ, E, S⟩
      rw [agree_eta hρ]
      clear hρ
      cases n with
      | zero => cases H
      | succ k =>
        rw [slices_Concat_api_Handle_api_Handle_l1.eq_2] at H
        refine Wp_seq ?_
        refine Wp_region_lit ?_
        refine W_v (.bool (decide (x235 < (a0.length : Int)))) (x_ibin rfl rfl rfl rfl) rfl ?_
        refine Wl_nil ?_
        refine tn ?_
        refine Wp_seq ?_
        rcases iteS H with ⟨hb265, H⟩ | ⟨hb265, H⟩
        · refine Wp_cond_true (congrArg Value.bool hb265) ?_
          refine Wp_skip ?_
          refine tn ?_
          refine Wp_seq ?_
          refine Wp_block ?_
          refine Wp_seq ?_
          refine Wp_region_lit ?_
          obtain ⟨⟨p266, p267⟩, H⟩ := chkS H
          obtain ⟨b268, o269, cs270, _, _, ee275, hb271, vs272, hR273, hc274⟩ := SlW.at' hr0 p266 p267
          obtain ⟨v279, hs278, rfl⟩ := hR273
          obtain ⟨A276, c277, rfl, _⟩ := hs278.form
          refine W_v (.pointer (some ⟨b268, o269 + x235.toNat * 1, none⟩)) (x_indexAddr Try.underlying78 ty24 (slA ee275) rfl p266 p267) rfl ?_
          refine W_v (.slice A276 (rd a0 x235).length c277) (x_load (S.frz hb271) ty24 rfl (hc274 0 _ rfl)) rfl ?_
          refine W_v (.slice A276 (rd a0 x235).length c277) (x_assign rfl) rfl ?_
          refine Wl_nil ?_
          refine tn ?_
          refine Wp_region_lit ?_
          refine W_v (.slice A232 x231.length c233) (x_move rfl) rfl ?_
          refine W_v (.slice A276 (rd a0 x235).length c277) (x_move rfl) rfl ?_
          obtain ⟨p280, H⟩ := chkS H
          obtain ⟨src281, hs282, hC283⟩ := src_of_read (P := Try.prog) (ρ := (rInt .u64)) (l := (rd a0 x235)) (SlR.world hs278 S) (by decide)
          refine W_append S 0 rfl rfl rfl Try.underlying24 (.inl Try.underlying24) ty41 rfl (by decide) (by decide) hs282 hC283 rfl (by omega) rfl ?_
          intro v284 w285 E' S
          replace E := E.trans E'
          clear E'
          obtain ⟨A286, c287, rfl, _⟩ := (S.row_read 0 rfl).form
          refine W_v (.slice A286 (x231 ++ (rd a0 x235)).length c287) (x_assign rfl) rfl ?_
          refine Wl_nil ?_
          refine bn ?_
          refine tn ?_
          refine Wp_region_lit ?_
          refine W_v (.int .i64 (IntKind.i64.wrap (x235 + (1 : Int)))) (x_ibin rfl rfl rfl rfl) rfl ?_
          refine W_v (.int .i64 (IntKind.i64.wrap (x235 + (1 : Int)))) (x_move rfl) rfl ?_
          refine Wl_nil ?_
          refine tn ?_
          exact ⟨k, Nat.lt_succ_self k, ⟨(x231 ++ (rd a0 x235)), (IntKind.i64.wrap (x235 + (1 : Int))), A286, c287, H, ⟨rfl, rfl, rfl, rfl, trivial⟩, E, S.pick [0] (by decide)⟩⟩
        refine Wp_cond_false (congrArg Value.bool hb265) ?_
        refine Wp_exit ?_
        refine tx (tx (bsm (?_)))
        refine tn ?_
        exact ⟨x231, A232, c233, Option.some.inj H, ⟨rfl, trivial⟩, E, S.pick [0] (by decide)⟩
  clear o263h
  rintro ρ w288 ⟨x259, A260, c261, rfl, hρ, E, S⟩
  rw [agree_eta hρ]
  clear hρ
  have H := o263H
  clear o263H
  refine tn ?_
  refine Wp_seq ?_
  refine Wp_region_lit ?_
  refine W_v (.slice A260 x259.length c261) (x_move rfl) rfl ?_
  refine W_v (.slice A260 x259.length c261) (x_assign rfl) rfl ?_
  refine Wl_nil ?_
  refine tn ?_
  refine Wp_ret ?_
  obtain rfl := Option.some.inj H
  exact ⟨_, _, _, fun w1 e1 => run_resR (vs := [.slice A260 x259.length c261]) (FA.cons (rfl) (FA.nil)), HM, E, S.pick [0] (by decide), ⟨A260, c261, rfl, rfl⟩⟩
/-! ### ferryman/fork.with[ferryman/api.Handle]: function 38 -/
def fork_with_api_Handle (k : Nat) (a0 : (List Int)) (a1 : Int) (a2 : Int) (a3 : (List Int)) : Option ((List Int)) :=
  (if 0 ≤ a1 ∧ a1 ≤ (a0.length : Int) then (if 0 ≤ (IntKind.i64.wrap (a1 + a2)) ∧ (IntKind.i64.wrap (a1 + a2)) ≤ (a0.length : Int) then (Option.bind (slices_Concat_api_Handle_api_Handle k ([(List.take a1.toNat a0), a3, (List.drop (IntKind.i64.wrap (a1 + a2)).toNat a0)] : List (List Int))) (fun t37 => some t37)) else none) else none)
set_option maxHeartbeats 2000000 in
theorem fork_with_api_Handle.mono {k : Nat} {a0 : (List Int)} {a1 : Int} {a2 : Int} {a3 : (List Int)} : OLe (fork_with_api_Handle k a0 a1 a2 a3) (fork_with_api_Handle (k + 1) a0 a1 a2 a3) := by
  unfold fork_with_api_Handle
  repeat' (first | with_reducible exact OLe.none | with_reducible exact OLe.some | with_reducible refine OLe.ite ?_ ?_ | with_reducible refine OLe.bind ?_ (fun _ => ?_) | with_reducible exact slices_Concat_api_Handle_api_Handle.mono | refine OLe.bind ?_ (fun _ => ?_) | refine OLe.ite ?_ ?_ | refine OLe.elim (fun _ => ?_) (fun _ => ?_) | split)
set_option maxHeartbeats 1000000 in
set_option maxRecDepth 100000 in
theorem fork_with_api_Handle.con (k : Nat) (M : Hp) (A0 : Option Addr) (c0 : Nat) (a0 : (List Int)) (a1 : Int) (a2 : Int) (A3 : Option Addr) (c3 : Nat) (a3 : (List Int)) (r : (List Int)) (hr0 : SlR (rInt .u64) M (.slice A0 a0.length c0) a0) (hr3 : SlR (rInt .u64) M (.slice A3 a3.length c3) a3) (h : fork_with_api_Handle k a0 a1 a2 a3 = some r) : Con Try.prog 38 #[.slice A0 a0.length c0, .int .i64 a1, .int .i64 a2, .slice A3 a3.length c3] M [] (fun v M' Γ' => ∃ (A0 : Option Addr) (c0 : Nat), v = .slice A0 r.length c0 ∧ Γ' = [Row (rInt .u64) 41 (.slice A0 r.length c0) r]) := by
  refine con_of_wp Try.func38 rfl Try.ntmps38 Try.results38 rfl ?_
  intro w F rn S hrn
  have E := Ext.refl w
  have HM := Hp.le_refl M
  have H := h
  unfold fork_with_api_Handle at H
  refine Wp_seq ?_
  refine Wp_region_lit ?_
  refine W_v (.slice none 0 0) (x_assign rfl) rfl ?_
  refine Wl_nil ?_
  refine tn ?_
  refine Wp_seq ?_
  refine Wp_region_any (S := fun w' => ∃ Mx, M.le Mx ∧ St w' Mx F []) mixed ?_
  intro w21 hw22 E'
  replace S := S.heap hw22
  replace E := E.trans E'
  clear E'
  refine Wa_take (i := 0) rfl (by kernel_rfl) rfl rfl (.slice A0 a0.length c0) rfl (fun w' h' => x_move rfl) (⟨M, Hp.le_refl M, S.pick [] (by decide)⟩) ?_
  refine Wa_take (i := 1) rfl (by kernel_rfl) rfl rfl (.int .i64 a1) rfl (fun w' h' => x_move rfl) (⟨M, Hp.le_refl M, S.pick [] (by decide)⟩) ?_
  obtain ⟨⟨p23, p24⟩, H⟩ := chkS H
  obtain ⟨hs26, hx27⟩ := sl_hi hr0 p23 p24
  have hs26z := hs26
  refine Wa_take (i := 2) rfl (by kernel_rfl) rfl rfl (.slice A0 (List.take a1.toNat a0).length c0) rfl (fun w' h' => hx27 Try.underlying24 ty41 rfl rfl) (⟨M, Hp.le_refl M, S.pick [] (by decide)⟩) ?_
  refine Wa_take (i := 3) rfl (by kernel_rfl) rfl rfl (.slice A3 a3.length c3) rfl (fun w' h' => x_move rfl) (⟨M, Hp.le_refl M, S.pick [] (by decide)⟩) ?_
  refine Wa_take (i := 4) rfl (by kernel_rfl) rfl rfl (.slice A0 a0.length c0) rfl (fun w' h' => x_move rfl) (⟨M, Hp.le_refl M, S.pick [] (by decide)⟩) ?_
  refine Wa_take (i := 5) rfl (by kernel_rfl) rfl rfl (.int .i64 a1) rfl (fun w' h' => x_move rfl) (⟨M, Hp.le_refl M, S.pick [] (by decide)⟩) ?_
  refine Wa_take (i := 6) rfl (by kernel_rfl) rfl rfl (.int .i64 a2) rfl (fun w' h' => x_move rfl) (⟨M, Hp.le_refl M, S.pick [] (by decide)⟩) ?_
  refine Wa_take (i := 7) rfl (by kernel_rfl) rfl rfl (.int .i64 (IntKind.i64.wrap (a1 + a2))) rfl (fun w' h' => x_ibin rfl rfl rfl rfl) (⟨M, Hp.le_refl M, S.pick [] (by decide)⟩) ?_
  obtain ⟨⟨p28, p29⟩, H⟩ := chkS H
  obtain ⟨A30, c31, hs32, hx33⟩ := sl_lo hr0 p28 p29
  have hs32z := hs32
  refine Wa_take (i := 8) rfl (by kernel_rfl) rfl rfl (.slice A30 (List.drop (IntKind.i64.wrap (a1 + a2)).toNat a0).length c31) rfl (fun w' h' => hx33 Try.underlying24 ty41 rfl rfl) (⟨M, Hp.le_refl M, S.pick [] (by decide)⟩) ?_
  refine Wa_solo (i := 9) rfl (by kernel_rfl) ?_
  refine W_bslice S #[.slice A0 (List.take a1.toNat a0).length c0, .slice A3 a3.length c3, .slice A30 (List.drop (IntKind.i64.wrap (a1 + a2)).toNat a0).length c31] Try.underlying78 ty24 rfl rfl #[.slice none 0 0, .slice none 0 0, .slice none 0 0] (by kernel_rfl) (by kernel_rfl) rfl ?_
  intro b34 w35 E' S
  replace E := E.trans E'
  clear E'
  replace S := S.blk_row (r := (rSl (rInt .u64))) (l := ([(List.take a1.toNat a0), a3, (List.drop (IntKind.i64.wrap (a1 + a2)).toNat a0)] : List (List Int))) 0 rfl 3 (Nat.le_refl 3) rfl (Cells.cons (vs := [.slice A0 (List.take a1.toNat a0).length c0]) (⟨_, hs26, rfl⟩) (Cells.cons (vs := [.slice A3 a3.length c3]) (⟨_, hr3, rfl⟩) (Cells.cons (vs := [.slice A30 (List.drop (IntKind.i64.wrap (a1 + a2)).toNat a0).length c31]) (⟨_, hs32, rfl⟩) Cells.nil)))
  refine Wl_nil (on_n ⟨⟨M, Hp.le_refl M, S.pick [] (by decide)⟩, ?_⟩)
  refine Wa_solo (i := 10) rfl (by kernel_rfl) ?_
  obtain ⟨t37, ht38, H⟩ := bindS H
  refine W_callN 1 fn48 (fun h9 hs9 hd9 => slices_Concat_api_Handle_api_Handle.con k _ (some ⟨b34, 0, none⟩) 3 ([(List.take a1.toNat a0), a3, (List.drop (IntKind.i64.wrap (a1 + a2)).toNat a0)] : List (List Int)) t37 (Sats.row hs9 hd9 0 rfl) ht38) S rfl rfl (by rintro _ _ _ ⟨_, _, _, rfl⟩; exact (flat_cons (flat_row (fun _ _ _ _ h => h)) flat_nil)) ?_
  rintro _ w42 _ Γ' E' S ⟨A39, c40, rfl, rfl⟩
  replace E := E.trans E'
  clear E'
  refine Wl_nil (on_n ⟨⟨M, Hp.le_refl M, S.pick [] (by decide)⟩, ?_⟩)
  refine Wa_take (i := 11) rfl (by kernel_rfl) rfl rfl (.slice A39 t37.length c40) rfl (fun w' h' => x_assign rfl) (⟨M, Hp.le_refl M, S.pick [] (by decide)⟩) ?_
  refine Wa_done (by kernel_rfl) ?_
  refine tn ?_
  refine Wp_ret ?_
  obtain rfl := Option.some.inj H
  exact ⟨_, _, _, fun w1 e1 => run_resR (vs := [.slice A39 t37.length c40]) (FA.cons (rfl) (FA.nil)), HM, E, S.pick [0] (by decide), ⟨A39, c40, rfl, rfl⟩⟩
end Go.Proofs.Ytdommjjhfplcaaa
