import Derived.Test.YtnfeinhialojnaaTyt1
namespace Go.Proofs.Ytnfeinhialojnaa
open Go
set_option linter.unusedVariables false
set_option linter.unusedSimpArgs false
structure api_Config where
  Tasks : Int
  Active : Int
  Keys : Int
  Depth : Int
  TS : Int
  KeyLen : Int
  ValLen : Int
  Fan : Int
instance : Inhabited api_Config := ⟨⟨0, 0, 0, 0, 0, 0, 0, 0⟩⟩
def r_api_Config : Rep api_Config where
  sz := 8
  R := fun _ x cs => cs = [.int .i64 x.Tasks, .int .i64 x.Active, .int .i64 x.Keys, .int .i64 x.Depth, .int .i64 x.TS, .int .i64 x.KeyLen, .int .i64 x.ValLen, .int .i64 x.Fan]
  len := fun h => by subst h; rfl
  one := by
    intro M x cs h
    subst h
    exact fun v hv => List.all_eq_true.1 (show (List.all [.int .i64 x.Tasks, .int .i64 x.Active, .int .i64 x.Keys, .int .i64 x.Depth, .int .i64 x.TS, .int .i64 x.KeyLen, .int .i64 x.ValLen, .int .i64 x.Fan] (·.oneCell')) = true from rfl) v hv
  mono := fun _ h => h
structure text_bound where
  n : Int
  low : Int
  high : Int
instance : Inhabited text_bound := ⟨⟨0, 0, 0⟩⟩
def r_text_bound : Rep text_bound where
  sz := 3
  R := fun _ x cs => cs = [.int .i64 x.n, .int .i64 x.low, .int .i64 x.high]
  len := fun h => by subst h; rfl
  one := by
    intro M x cs h
    subst h
    exact fun v hv => List.all_eq_true.1 (show (List.all [.int .i64 x.n, .int .i64 x.low, .int .i64 x.high] (·.oneCell')) = true from rfl) v hv
  mono := fun _ h => h
/-! ### ferryman/ferrymanlaw02.long: function 11 -/
def ferrymanlaw02_long_l0 (a0 : (List Str)) : Nat → Int → Int → Option ((Int))
  | 0, _, _ => none
  | k + 1, x27, x28 => (if (decide (x28 < (a0.length : Int))) = true then (if 0 ≤ x28 ∧ x28 < (a0.length : Int) then ferrymanlaw02_long_l0 a0 k (IntKind.i64.wrap (x27 + (imin ((rd a0 x28).length : Int) (9000 : Int)))) (IntKind.i64.wrap (x28 + (1 : Int))) else none) else some (x27))
set_option maxHeartbeats 2000000 in
theorem ferrymanlaw02_long_l0.mono {a0 : (List Str)} : ∀ {k : Nat} {x0 x1}, OLe (ferrymanlaw02_long_l0 a0 k x0 x1) (ferrymanlaw02_long_l0 a0 (k + 1) x0 x1) := by
  intro k
  induction k with
  | zero => intros; exact OLe.none
  | succ k ih =>
    intros
    rw [ferrymanlaw02_long_l0.eq_2, ferrymanlaw02_long_l0.eq_2]
    repeat' (first | with_reducible exact OLe.none | with_reducible exact OLe.some | with_reducible refine OLe.ite ?_ ?_ | with_reducible refine OLe.bind ?_ (fun _ => ?_) | exact ih | refine OLe.bind ?_ (fun _ => ?_) | refine OLe.ite ?_ ?_ | refine OLe.elim (fun _ => ?_) (fun _ => ?_) | split)
def ferrymanlaw02_long (k : Nat) (a0 : (List Str)) : Option (Bool) :=
  (Option.bind (ferrymanlaw02_long_l0 a0 k (0 : Int) (0 : Int)) (fun x40 => some (decide (x40 ≥ (9000 : Int)))))
set_option maxHeartbeats 2000000 in
theorem ferrymanlaw02_long.mono {k : Nat} {a0 : (List Str)} : OLe (ferrymanlaw02_long k a0) (ferrymanlaw02_long (k + 1) a0) := by
  unfold ferrymanlaw02_long
  repeat' (first | with_reducible exact OLe.none | with_reducible exact OLe.some | with_reducible refine OLe.ite ?_ ?_ | with_reducible refine OLe.bind ?_ (fun _ => ?_) | with_reducible exact ferrymanlaw02_long_l0.mono | refine OLe.bind ?_ (fun _ => ?_) | refine OLe.ite ?_ ?_ | refine OLe.elim (fun _ => ?_) (fun _ => ?_) | split)
set_option maxHeartbeats 1000000 in
set_option maxRecDepth 100000 in
theorem ferrymanlaw02_long.con (k : Nat) (M : Hp) (A0 : Option Addr) (c0 : Nat) (a0 : (List Str)) (r : Bool) (hr0 : SlR rStr M (.slice A0 a0.length c0) a0) (h : ferrymanlaw02_long k a0 = some r) : Con Try.prog 11 #[.slice A0 a0.length c0] M [] (fun v M' Γ' => v = .bool r ∧ Γ' = []) := by
  refine con_of_wp Try.func11 rfl Try.ntmps11 Try.results11 rfl ?_
  intro w F rn S hrn
  have E := Ext.refl w
  have HM := Hp.le_refl M
  have H := h
  unfold ferrymanlaw02_long at H
  refine Wp_seq ?_
  refine Wp_region_lit ?_
  refine W_v (.bool false) (x_assign rfl) rfl ?_
  refine Wl_nil ?_
  refine tn ?_
  refine Wp_seq ?_
  refine Wp_region_lit ?_
  refine W_v (.int .i64 0) (x_assign rfl) rfl ?_
  refine Wl_nil ?_
  refine tn ?_
  refine Wp_seq ?_
  refine Wp_seq ?_
  refine Wp_region_lit ?_
  refine W_v (.int .i64 0) (x_assign rfl) rfl ?_
  refine Wl_nil ?_
  refine tn ?_
  obtain ⟨o41, o41h, o41H⟩ := bindS H
  clear H
  refine Wp_blockJ (fun ρ w' => ∃ (x40 : Int), (x40) = o41 ∧ Agree ρ [(3, .int .i64 x40)] ∧ Ext w w' ∧ St w' M F []) ?_ ?_
  · skip
    refine Wp_loop (fun n ρ w' => ∃ (x27 : Int) (x28 : Int), ferrymanlaw02_long_l0 a0 n x27 x28 = some o41 ∧ Agree ρ [(0, .slice A0 a0.length c0), (3, .int .i64 x27), (4, .int .i64 x28)] ∧ Ext w w' ∧ St w' M F []) k ?_ ?_
    · skip
      exact ⟨(0 : Int), (0 : Int), o41h, ⟨rfl, rfl, rfl, trivial⟩, E, S.pick [] (by decide)⟩
    · intro n
      rintro ρ w42 ⟨x27, x28, H, hρ, E, S⟩
      rw [agree_eta hρ]
      clear hρ
      cases n with
      | zero => cases H
      | succ k =>
        rw [ferrymanlaw02_long_l0.eq_2] at H
        refine Wp_seq ?_
        refine Wp_seq ?_
        refine Wp_region_lit ?_
        refine W_v (.int .i64 x28) (x_move rfl) rfl ?_
        refine W_v (.slice A0 a0.length c0) (x_move rfl) rfl ?_
        refine W_v (.int .i64 (a0.length : Int)) (x_len_slice (n := a0.length) Try.underlying40 rfl) rfl ?_
        refine W_v (.bool (decide (x28 < (a0.length : Int)))) (x_ibin rfl rfl rfl rfl) rfl ?_
        refine Wl_nil ?_
        refine tn ?_
        rcases iteS H with ⟨hb43, H⟩ | ⟨hb43, H⟩
        · refine Wp_cond_true (congrArg Value.bool hb43) ?_
          refine Wp_skip ?_
          refine tn ?_
          refine Wp_seq ?_
          refine Wp_block ?_
          refine Wp_region_lit ?_
          refine W_v (.int .i64 x27) (x_move rfl) rfl ?_
          refine W_v (.slice A0 a0.length c0) (x_move rfl) rfl ?_
          refine W_v (.int .i64 x28) (x_move rfl) rfl ?_
          obtain ⟨⟨p44, p45⟩, H⟩ := chkS H
          obtain ⟨b46, o47, cs48, _, _, ee53, hb49, vs50, hR51, hc52⟩ := SlW.at' hr0 p44 p45
          obtain rfl : vs50 = _ := hR51
          refine W_v (.pointer (some ⟨b46, o47 + x28.toNat * 1, none⟩)) (x_indexAddr Try.underlying40 ty9 (slA ee53) rfl p44 p45) rfl ?_
          refine W_v (.string (bs (rd a0 x28))) (x_load (S.frz hb49) ty9 rfl (hc52 0 _ rfl)) rfl ?_
          refine W_v (.int .i64 ((rd a0 x28).length : Int)) (x_len_str Try.underlying9 rfl) rfl ?_
          refine W_v (.int .i64 (imin ((rd a0 x28).length : Int) (9000 : Int))) (x_min2 rfl rfl) rfl ?_
          refine W_v (.int .i64 (IntKind.i64.wrap (x27 + (imin ((rd a0 x28).length : Int) (9000 : Int))))) (x_ibin rfl rfl rfl rfl) rfl ?_
          refine W_v (.int .i64 (IntKind.i64.wrap (x27 + (imin ((rd a0 x28).length : Int) (9000 : Int))))) (x_assign rfl) rfl ?_
          refine Wl_nil ?_
          refine bn ?_
          refine tn ?_
          refine Wp_region_lit ?_
          refine W_v (.int .i64 x28) (x_move rfl) rfl ?_
          refine W_v (.int .i64 (IntKind.i64.wrap (x28 + (1 : Int)))) (x_ibin rfl rfl rfl rfl) rfl ?_
          refine W_v (.int .i64 (IntKind.i64.wrap (x28 + (1 : Int)))) (x_assign rfl) rfl ?_
          refine Wl_nil ?_
          refine tn ?_
          exact ⟨k, Nat.lt_succ_self k, ⟨(IntKind.i64.wrap (x27 + (imin ((rd a0 x28).length : Int) (9000 : Int)))), (IntKind.i64.wrap (x28 + (1 : Int))), H, ⟨rfl, rfl, rfl, trivial⟩, E, S.pick [] (by decide)⟩⟩
        · refine Wp_cond_false (congrArg Value.bool hb43) ?_
          refine Wp_exit ?_
          refine tx (tx (bsm (?_)))
          refine tn ?_
          exact ⟨x27, Option.some.inj H, ⟨rfl, trivial⟩, E, S.pick [] (by decide)⟩
  · clear o41h
    rintro ρ w54 ⟨x40, rfl, hρ, E, S⟩
    rw [agree_eta hρ]
    clear hρ
    have H := o41H
    clear o41H
    refine tn ?_
    refine Wp_seq ?_
    refine Wp_region_lit ?_
    refine W_v (.int .i64 x40) (x_move rfl) rfl ?_
    refine W_v (.bool (decide (x40 ≥ (9000 : Int)))) (x_ibin rfl rfl rfl rfl) rfl ?_
    refine W_v (.bool (decide (x40 ≥ (9000 : Int)))) (x_assign rfl) rfl ?_
    refine Wl_nil ?_
    refine tn ?_
    refine Wp_ret ?_
    obtain rfl := Option.some.inj H
    exact ⟨_, _, _, fun w1 e1 => run_resR (vs := [.bool (decide (x40 ≥ (9000 : Int)))]) (FA.cons (rfl) (FA.nil)), HM, E, S.pick [] (by decide), ⟨rfl, rfl⟩⟩
/-! ### internal/bytealg.CompareString: function 36 -/
def internal_bytealg_CompareString (k : Nat) (a0 : Str) (a1 : Str) : Option (Int) :=
  some (Lib.compareBytes a0 a1)
set_option maxHeartbeats 2000000 in
theorem internal_bytealg_CompareString.mono {k : Nat} {a0 : Str} {a1 : Str} : OLe (internal_bytealg_CompareString k a0 a1) (internal_bytealg_CompareString (k + 1) a0 a1) := by
  unfold internal_bytealg_CompareString
  repeat' (first | with_reducible exact OLe.none | with_reducible exact OLe.some | with_reducible refine OLe.ite ?_ ?_ | with_reducible refine OLe.bind ?_ (fun _ => ?_) | refine OLe.bind ?_ (fun _ => ?_) | refine OLe.ite ?_ ?_ | refine OLe.elim (fun _ => ?_) (fun _ => ?_) | split)
set_option maxHeartbeats 1000000 in
set_option maxRecDepth 100000 in
theorem internal_bytealg_CompareString.con (k : Nat) (M : Hp) (a0 : Str) (a1 : Str) (r : Int)  (h : internal_bytealg_CompareString k a0 a1 = some r) : Con Try.prog 36 #[.string (bs a0), .string (bs a1)] M [] (fun v M' Γ' => v = .int .i64 r ∧ Γ' = []) := by
  refine con_of_wp Try.func36 rfl Try.ntmps36 Try.results36 rfl ?_
  intro w F rn S hrn
  have E := Ext.refl w
  have HM := Hp.le_refl M
  have H := h
  unfold internal_bytealg_CompareString at H
  refine Wp_seq ?_
  refine Wp_region_lit ?_
  refine W_v (.int .i64 0) (x_assign rfl) rfl ?_
  refine Wl_nil ?_
  refine tn ?_
  refine Wp_seq ?_
  refine Wp_region_lit ?_
  refine W_v (.string (bs a0)) (x_move rfl) rfl ?_
  refine W_v (.string (bs a1)) (x_move rfl) rfl ?_
  refine W_v (.int .i64 (Lib.compareBytes a0 a1)) (x_cmp cmp38 rfl rfl) rfl ?_
  refine W_v (.int .i64 (Lib.compareBytes a0 a1)) (x_assign rfl) rfl ?_
  refine Wl_nil ?_
  refine tn ?_
  refine Wp_ret ?_
  obtain rfl := Option.some.inj H
  exact ⟨_, _, _, fun w1 e1 => run_resR (vs := [.int .i64 (Lib.compareBytes a0 a1)]) (FA.cons (rfl) (FA.nil)), HM, E, S.pick [] (by decide), ⟨rfl, rfl⟩⟩
/-! ### strings.Compare: function 33 -/
def strings_Compare (k : Nat) (a0 : Str) (a1 : Str) : Option (Int) :=
  (Option.bind (internal_bytealg_CompareString k a0 a1) (fun t1 => some t1))
set_option maxHeartbeats 2000000 in
theorem strings_Compare.mono {k : Nat} {a0 : Str} {a1 : Str} : OLe (strings_Compare k a0 a1) (strings_Compare (k + 1) a0 a1) := by
  unfold strings_Compare
  repeat' (first | with_reducible exact OLe.none | with_reducible exact OLe.some | with_reducible refine OLe.ite ?_ ?_ | with_reducible refine OLe.bind ?_ (fun _ => ?_) | with_reducible exact internal_bytealg_CompareString.mono | refine OLe.bind ?_ (fun _ => ?_) | refine OLe.ite ?_ ?_ | refine OLe.elim (fun _ => ?_) (fun _ => ?_) | split)
set_option maxHeartbeats 1000000 in
set_option maxRecDepth 100000 in
theorem strings_Compare.con (k : Nat) (M : Hp) (a0 : Str) (a1 : Str) (r : Int)  (h : strings_Compare k a0 a1 = some r) : Con Try.prog 33 #[.string (bs a0), .string (bs a1)] M [] (fun v M' Γ' => v = .int .i64 r ∧ Γ' = []) := by
  refine con_of_wp Try.func33 rfl Try.ntmps33 Try.results33 rfl ?_
  intro w F rn S hrn
  have E := Ext.refl w
  have HM := Hp.le_refl M
  have H := h
  unfold strings_Compare at H
  refine Wp_seq ?_
  refine Wp_region_lit ?_
  refine W_v (.int .i64 0) (x_assign rfl) rfl ?_
  refine Wl_nil ?_
  refine tn ?_
  refine Wp_seq ?_
  refine Wp_region_lit ?_
  refine W_v (.string (bs a0)) (x_move rfl) rfl ?_
  refine W_v (.string (bs a1)) (x_move rfl) rfl ?_
  obtain ⟨t1, ht2, H⟩ := bindS H
  refine W_callF fn36 (internal_bytealg_CompareString.con k M a0 a1 t1  ht2) S rfl rfl (by rintro _ _ _ ⟨_, rfl⟩; exact flat_nil) ?_
  rintro _ w3 _ Γ' E' S ⟨rfl, rfl⟩
  replace E := E.trans E'
  clear E'
  refine W_v (.int .i64 t1) (x_assign rfl) rfl ?_
  refine Wl_nil ?_
  refine tn ?_
  refine Wp_ret ?_
  obtain rfl := Option.some.inj H
  exact ⟨_, _, _, fun w1 e1 => run_resR (vs := [.int .i64 t1]) (FA.cons (rfl) (FA.nil)), HM, E, S.pick [] (by decide), ⟨rfl, rfl⟩⟩
/-! ### ferryman/text.Compare: function 13 -/
def text_Compare (k : Nat) (a0 : Str) (a1 : Str) : Option (Int) :=
  (Option.bind (strings_Compare k a0 a1) (fun t1 => some t1))
set_option maxHeartbeats 2000000 in
theorem text_Compare.mono {k : Nat} {a0 : Str} {a1 : Str} : OLe (text_Compare k a0 a1) (text_Compare (k + 1) a0 a1) := by
  unfold text_Compare
  repeat' (first | with_reducible exact OLe.none | with_reducible exact OLe.some | with_reducible refine OLe.ite ?_ ?_ | with_reducible refine OLe.bind ?_ (fun _ => ?_) | with_reducible exact strings_Compare.mono | refine OLe.bind ?_ (fun _ => ?_) | refine OLe.ite ?_ ?_ | refine OLe.elim (fun _ => ?_) (fun _ => ?_) | split)
set_option maxHeartbeats 1000000 in
set_option maxRecDepth 100000 in
theorem text_Compare.con (k : Nat) (M : Hp) (a0 : Str) (a1 : Str) (r : Int)  (h : text_Compare k a0 a1 = some r) : Con Try.prog 13 #[.string (bs a0), .string (bs a1)] M [] (fun v M' Γ' => v = .int .i64 r ∧ Γ' = []) := by
  refine con_of_wp Try.func13 rfl Try.ntmps13 Try.results13 rfl ?_
  intro w F rn S hrn
  have E := Ext.refl w
  have HM := Hp.le_refl M
  have H := h
  unfold text_Compare at H
  refine Wp_seq ?_
  refine Wp_region_lit ?_
  refine W_v (.int .i64 0) (x_assign rfl) rfl ?_
  refine Wl_nil ?_
  refine tn ?_
  refine Wp_seq ?_
  refine Wp_region_lit ?_
  refine W_v (.string (bs a0)) (x_move rfl) rfl ?_
  refine W_v (.string (bs a1)) (x_move rfl) rfl ?_
  obtain ⟨t1, ht2, H⟩ := bindS H
  refine W_callF fn33 (strings_Compare.con k M a0 a1 t1  ht2) S rfl rfl (by rintro _ _ _ ⟨_, rfl⟩; exact flat_nil) ?_
  rintro _ w3 _ Γ' E' S ⟨rfl, rfl⟩
  replace E := E.trans E'
  clear E'
  refine W_v (.int .i64 t1) (x_assign rfl) rfl ?_
  refine Wl_nil ?_
  refine tn ?_
  refine Wp_ret ?_
  obtain rfl := Option.some.inj H
  exact ⟨_, _, _, fun w1 e1 => run_resR (vs := [.int .i64 t1]) (FA.cons (rfl) (FA.nil)), HM, E, S.pick [] (by decide), ⟨rfl, rfl⟩⟩
/-! ### ferryman/text.Prefix: function 15 -/
def text_Prefix_l0 (a0 : Str) (a1 : Str) : Nat → Int → Option ((Int) ⊕ (Unit))
  | 0, _ => none
  | k + 1, x27 => (if (decide (x27 < (imin (a0.length : Int) (a1.length : Int)))) = true then (if 0 ≤ x27 ∧ x27 < (a0.length : Int) then (if 0 ≤ x27 ∧ x27 < (a1.length : Int) then (if ((((a0).getD (x27).toNat 0).toNat : Int) != (((a1).getD (x27).toNat 0).toNat : Int)) = true then some (.inl x27) else text_Prefix_l0 a0 a1 k (IntKind.i64.wrap (x27 + (1 : Int)))) else none) else none) else some (.inr ()))
set_option maxHeartbeats 2000000 in
theorem text_Prefix_l0.mono {a0 : Str} {a1 : Str} : ∀ {k : Nat} {x0}, OLe (text_Prefix_l0 a0 a1 k x0) (text_Prefix_l0 a0 a1 (k + 1) x0) := by
  intro k
  induction k with
  | zero => intros; exact OLe.none
  | succ k ih =>
    intros
    rw [text_Prefix_l0.eq_2, text_Prefix_l0.eq_2]
    repeat' (first | with_reducible exact OLe.none | with_reducible exact OLe.some | with_reducible refine OLe.ite ?_ ?_ | with_reducible refine OLe.bind ?_ (fun _ => ?_) | exact ih | refine OLe.bind ?_ (fun _ => ?_) | refine OLe.ite ?_ ?_ | refine OLe.elim (fun _ => ?_) (fun _ => ?_) | split)
def text_Prefix (k : Nat) (a0 : Str) (a1 : Str) : Option (Int) :=
  (Option.bind (text_Prefix_l0 a0 a1 k (0 : Int)) (fun o40o => Sum.elim (fun r' => some r') (fun _ => some (imin (a0.length : Int) (a1.length : Int))) o40o))
set_option maxHeartbeats 2000000 in
theorem text_Prefix.mono {k : Nat} {a0 : Str} {a1 : Str} : OLe (text_Prefix k a0 a1) (text_Prefix (k + 1) a0 a1) := by
  unfold text_Prefix
  repeat' (first | with_reducible exact OLe.none | with_reducible exact OLe.some | with_reducible refine OLe.ite ?_ ?_ | with_reducible refine OLe.bind ?_ (fun _ => ?_) | with_reducible exact text_Prefix_l0.mono | refine OLe.bind ?_ (fun _ => ?_) | refine OLe.ite ?_ ?_ | refine OLe.elim (fun _ => ?_) (fun _ => ?_) | split)
set_option maxHeartbeats 1000000 in
set_option maxRecDepth 100000 in
theorem text_Prefix.con (k : Nat) (M : Hp) (a0 : Str) (a1 : Str) (r : Int)  (h : text_Prefix k a0 a1 = some r) : Con Try.prog 15 #[.string (bs a0), .string (bs a1)] M [] (fun v M' Γ' => v = .int .i64 r ∧ Γ' = []) := by
  refine con_of_wp Try.func15 rfl Try.ntmps15 Try.results15 rfl ?_
  intro w F rn S hrn
  have E := Ext.refl w
  have HM := Hp.le_refl M
  have H := h
  unfold text_Prefix at H
  refine Wp_seq ?_
  refine Wp_region_lit ?_
  refine W_v (.int .i64 0) (x_assign rfl) rfl ?_
  refine Wl_nil ?_
  refine tn ?_
  refine Wp_seq ?_
  refine Wp_region_lit ?_
  refine W_v (.string (bs a0)) (x_move rfl) rfl ?_
  refine W_v (.int .i64 (a0.length : Int)) (x_len_str Try.underlying9 rfl) rfl ?_
  refine W_v (.string (bs a1)) (x_move rfl) rfl ?_
  refine W_v (.int .i64 (a1.length : Int)) (x_len_str Try.underlying9 rfl) rfl ?_
  refine W_v (.int .i64 (imin (a0.length : Int) (a1.length : Int))) (x_min2 rfl rfl) rfl ?_
  refine W_v (.int .i64 (imin (a0.length : Int) (a1.length : Int))) (x_assign rfl) rfl ?_
  refine Wl_nil ?_
  refine tn ?_
  refine Wp_seq ?_
  refine Wp_seq ?_
  refine Wp_region_lit ?_
  refine W_v (.int .i64 (imin (a0.length : Int) (a1.length : Int))) (x_move rfl) rfl ?_
  refine W_v (.int .i64 0) (x_move rfl) rfl ?_
  refine Wl_nil ?_
  refine tn ?_
  obtain ⟨o40, o40h, o40H⟩ := bindS H
  clear H
  refine Wp_blockJ (fun ρ w' => .inr () = o40 ∧ Agree ρ [(5, .int .i64 (imin (a0.length : Int) (a1.length : Int)))] ∧ Ext w w' ∧ St w' M F []) ?_ ?_
  · skip
    refine Wp_loop (fun n ρ w' => ∃ (x27 : Int), text_Prefix_l0 a0 a1 n x27 = some o40 ∧ Agree ρ [(0, .string (bs a0)), (1, .string (bs a1)), (5, .int .i64 (imin (a0.length : Int) (a1.length : Int))), (12, .int .i64 (imin (a0.length : Int) (a1.length : Int))), (13, .int .i64 x27)] ∧ Ext w w' ∧ St w' M F []) k ?_ ?_
    · skip
      exact ⟨(0 : Int), o40h, ⟨rfl, rfl, rfl, rfl, rfl, trivial⟩, E, S.pick [] (by decide)⟩
    · intro n
      rintro ρ w41 ⟨x27, H, hρ, E, S⟩
      rw [agree_eta hρ]
      clear hρ
      cases n with
      | zero => cases H
      | succ k =>
        rw [text_Prefix_l0.eq_2] at H
        refine Wp_seq ?_
        refine Wp_region_lit ?_
        refine W_v (.bool (decide (x27 < (imin (a0.length : Int) (a1.length : Int))))) (x_ibin rfl rfl rfl rfl) rfl ?_
        refine Wl_nil ?_
        refine tn ?_
        refine Wp_seq ?_
        rcases iteS H with ⟨hb42, H⟩ | ⟨hb42, H⟩
        · refine Wp_cond_true (congrArg Value.bool hb42) ?_
          refine Wp_skip ?_
          refine tn ?_
          refine Wp_seq ?_
          refine Wp_block ?_
          refine Wp_seq ?_
          refine Wp_region_lit ?_
          refine W_v (.int .i64 x27) (x_move rfl) rfl ?_
          refine W_v (.int .i64 x27) (x_assign rfl) rfl ?_
          refine Wl_nil ?_
          refine tn ?_
          refine Wp_seq ?_
          refine Wp_region_any (S := fun w' => ∃ Mx, M.le Mx ∧ St w' Mx F []) mixed ?_
          intro w47 hw48 E'
          replace S := S.heap hw48
          replace E := E.trans E'
          clear E'
          refine Wa_take (i := 0) rfl (by kernel_rfl) rfl rfl (.string (bs a0)) rfl (fun w' h' => x_move rfl) (⟨M, Hp.le_refl M, S.pick [] (by decide)⟩) ?_
          refine Wa_take (i := 1) rfl (by kernel_rfl) rfl rfl (.int .i64 x27) rfl (fun w' h' => x_move rfl) (⟨M, Hp.le_refl M, S.pick [] (by decide)⟩) ?_
          obtain ⟨⟨p49, p50⟩, H⟩ := chkS H
          refine Wa_take (i := 2) rfl (by kernel_rfl) rfl rfl (.int .u8 (((a0).getD (x27).toNat 0).toNat : Int)) rfl (fun w' h' => x_indexStr Try.underlying9 rfl rfl p49 p50) (⟨M, Hp.le_refl M, S.pick [] (by decide)⟩) ?_
          refine Wa_take (i := 3) rfl (by kernel_rfl) rfl rfl (.string (bs a1)) rfl (fun w' h' => x_move rfl) (⟨M, Hp.le_refl M, S.pick [] (by decide)⟩) ?_
          refine Wa_take (i := 4) rfl (by kernel_rfl) rfl rfl (.int .i64 x27) rfl (fun w' h' => x_move rfl) (⟨M, Hp.le_refl M, S.pick [] (by decide)⟩) ?_
          obtain ⟨⟨p51, p52⟩, H⟩ := chkS H
          refine Wa_take (i := 5) rfl (by kernel_rfl) rfl rfl (.int .u8 (((a1).getD (x27).toNat 0).toNat : Int)) rfl (fun w' h' => x_indexStr Try.underlying9 rfl rfl p51 p52) (⟨M, Hp.le_refl M, S.pick [] (by decide)⟩) ?_
          refine Wa_take (i := 6) rfl (by kernel_rfl) rfl rfl (.bool ((((a0).getD (x27).toNat 0).toNat : Int) != (((a1).getD (x27).toNat 0).toNat : Int))) rfl (fun w' h' => x_ibin rfl rfl rfl rfl) (⟨M, Hp.le_refl M, S.pick [] (by decide)⟩) ?_
          refine Wa_done (by kernel_rfl) ?_
          refine tn ?_
          rcases iteS H with ⟨hb53, H⟩ | ⟨hb53, H⟩
          · refine Wp_cond_true (congrArg Value.bool hb53) ?_
            refine Wp_seq ?_
            refine Wp_region_lit ?_
            refine W_v (.int .i64 x27) (x_move rfl) rfl ?_
            refine W_v (.int .i64 x27) (x_assign rfl) rfl ?_
            refine Wl_nil ?_
            refine tn ?_
            refine Wp_ret ?_
            refine br (tr (tr (br (tr (tr (?_))))))
            obtain rfl := Option.some.inj H
            have H := o40H
            replace H := elimL H
            obtain rfl := Option.some.inj H
            exact ⟨_, _, _, fun w1 e1 => run_resR (vs := [.int .i64 x27]) (FA.cons (rfl) (FA.nil)), HM, E, S.pick [] (by decide), ⟨rfl, rfl⟩⟩
          · refine Wp_cond_false (congrArg Value.bool hb53) ?_
            refine Wp_skip ?_
            refine bn ?_
            refine tn ?_
            refine Wp_region_lit ?_
            refine W_v (.int .i64 (IntKind.i64.wrap (x27 + (1 : Int)))) (x_ibin rfl rfl rfl rfl) rfl ?_
            refine W_v (.int .i64 (IntKind.i64.wrap (x27 + (1 : Int)))) (x_move rfl) rfl ?_
            refine Wl_nil ?_
            refine tn ?_
            exact ⟨k, Nat.lt_succ_self k, ⟨(IntKind.i64.wrap (x27 + (1 : Int))), H, ⟨rfl, rfl, rfl, rfl, rfl, trivial⟩, E, S.pick [] (by decide)⟩⟩
        · refine Wp_cond_false (congrArg Value.bool hb42) ?_
          refine Wp_exit ?_
          refine tx (tx (bsm (?_)))
          refine tn ?_
          exact ⟨Option.some.inj H, ⟨rfl, trivial⟩, E, S.pick [] (by decide)⟩
  · clear o40h
    rintro ρ w54 ⟨rfl, hρ, E, S⟩
    rw [agree_eta hρ]
    clear hρ
    have H := o40H
    clear o40H
    replace H := elimR H
    refine tn ?_
    refine Wp_seq ?_
    refine Wp_region_lit ?_
    refine W_v (.int .i64 (imin (a0.length : Int) (a1.length : Int))) (x_move rfl) rfl ?_
    refine W_v (.int .i64 (imin (a0.length : Int) (a1.length : Int))) (x_assign rfl) rfl ?_
    refine Wl_nil ?_
    refine tn ?_
    refine Wp_ret ?_
    obtain rfl := Option.some.inj H
    exact ⟨_, _, _, fun w1 e1 => run_resR (vs := [.int .i64 (imin (a0.length : Int) (a1.length : Int))]) (FA.cons (rfl) (FA.nil)), HM, E, S.pick [] (by decide), ⟨rfl, rfl⟩⟩
/-! ### ferryman/text.Suffix: function 17 -/
def text_Suffix_l0 (a0 : Str) (a1 : Str) (a2 : Int) : Nat → Int → Option ((Int) ⊕ (Unit))
  | 0, _ => none
  | k + 1, x27 => (if (decide (x27 < (imax (0 : Int) (imin (imin a2 (a0.length : Int)) (a1.length : Int))))) = true then (if 0 ≤ (IntKind.i64.wrap ((IntKind.i64.wrap ((a0.length : Int) - (1 : Int))) - x27)) ∧ (IntKind.i64.wrap ((IntKind.i64.wrap ((a0.length : Int) - (1 : Int))) - x27)) < (a0.length : Int) then (if 0 ≤ (IntKind.i64.wrap ((IntKind.i64.wrap ((a1.length : Int) - (1 : Int))) - x27)) ∧ (IntKind.i64.wrap ((IntKind.i64.wrap ((a1.length : Int) - (1 : Int))) - x27)) < (a1.length : Int) then (if ((((a0).getD ((IntKind.i64.wrap ((IntKind.i64.wrap ((a0.length : Int) - (1 : Int))) - x27))).toNat 0).toNat : Int) != (((a1).getD ((IntKind.i64.wrap ((IntKind.i64.wrap ((a1.length : Int) - (1 : Int))) - x27))).toNat 0).toNat : Int)) = true then some (.inl x27) else text_Suffix_l0 a0 a1 a2 k (IntKind.i64.wrap (x27 + (1 : Int)))) else none) else none) else some (.inr ()))
set_option maxHeartbeats 2000000 in
theorem text_Suffix_l0.mono {a0 : Str} {a1 : Str} {a2 : Int} : ∀ {k : Nat} {x0}, OLe (text_Suffix_l0 a0 a1 a2 k x0) (text_Suffix_l0 a0 a1 a2 (k + 1) x0) := by
  intro k
  induction k with
  | zero => intros; exact OLe.none
  | succ k ih =>
    intros
    rw [text_Suffix_l0.eq_2, text_Suffix_l0.eq_2]
    repeat' (first | with_reducible exact OLe.none | with_reducible exact OLe.some | with_reducible refine OLe.ite ?_ ?_ | with_reducible refine OLe.bind ?_ (fun _ => ?_) | exact ih | refine OLe.bind ?_ (fun _ => ?_) | refine OLe.ite ?_ ?_ | refine OLe.elim (fun _ => ?_) (fun _ => ?_) | split)
def text_Suffix (k : Nat) (a0 : Str) (a1 : Str) (a2 : Int) : Option (Int) :=
  (Option.bind (text_Suffix_l0 a0 a1 a2 k (0 : Int)) (fun o40o => Sum.elim (fun r' => some r') (fun _ => some (imax (0 : Int) (imin (imin a2 (a0.length : Int)) (a1.length : Int)))) o40o))
set_option maxHeartbeats 2000000 in
theorem text_Suffix.mono {k : Nat} {a0 : Str} {a1 : Str} {a2 : Int} : OLe (text_Suffix k a0 a1 a2) (text_Suffix (k + 1) a0 a1 a2) := by
  unfold text_Suffix
  repeat' (first | with_reducible exact OLe.none | with_reducible exact OLe.some | with_reducible refine OLe.ite ?_ ?_ | with_reducible refine OLe.bind ?_ (fun _ => ?_) | with_reducible exact text_Suffix_l0.mono | refine OLe.bind ?_ (fun _ => ?_) | refine OLe.ite ?_ ?_ | refine OLe.elim (fun _ => ?_) (fun _ => ?_) | split)
set_option maxHeartbeats 1000000 in
set_option maxRecDepth 100000 in
theorem text_Suffix.con (k : Nat) (M : Hp) (a0 : Str) (a1 : Str) (a2 : Int) (r : Int)  (h : text_Suffix k a0 a1 a2 = some r) : Con Try.prog 17 #[.string (bs a0), .string (bs a1), .int .i64 a2] M [] (fun v M' Γ' => v = .int .i64 r ∧ Γ' = []) := by
  refine con_of_wp Try.func17 rfl Try.ntmps17 Try.results17 rfl ?_
  intro w F rn S hrn
  have E := Ext.refl w
  have HM := Hp.le_refl M
  have H := h
  unfold text_Suffix at H
  refine Wp_seq ?_
  refine Wp_region_lit ?_
  refine W_v (.int .i64 0) (x_assign rfl) rfl ?_
  refine Wl_nil ?_
  refine tn ?_
  refine Wp_seq ?_
  refine Wp_region_lit ?_
  refine W_v (.int .i64 a2) (x_move rfl) rfl ?_
  refine W_v (.string (bs a0)) (x_move rfl) rfl ?_
  refine W_v (.int .i64 (a0.length : Int)) (x_len_str Try.underlying9 rfl) rfl ?_
  refine W_v (.string (bs a1)) (x_move rfl) rfl ?_
  refine W_v (.int .i64 (a1.length : Int)) (x_len_str Try.underlying9 rfl) rfl ?_
  refine W_v (.int .i64 (imin (imin a2 (a0.length : Int)) (a1.length : Int))) (x_min3 rfl rfl rfl) rfl ?_
  refine W_v (.int .i64 (imax (0 : Int) (imin (imin a2 (a0.length : Int)) (a1.length : Int)))) (x_max2 rfl rfl) rfl ?_
  refine W_v (.int .i64 (imax (0 : Int) (imin (imin a2 (a0.length : Int)) (a1.length : Int)))) (x_assign rfl) rfl ?_
  refine Wl_nil ?_
  refine tn ?_
  refine Wp_seq ?_
  refine Wp_seq ?_
  refine Wp_region_lit ?_
  refine W_v (.int .i64 (imax (0 : Int) (imin (imin a2 (a0.length : Int)) (a1.length : Int)))) (x_move rfl) rfl ?_
  refine W_v (.int .i64 0) (x_move rfl) rfl ?_
  refine Wl_nil ?_
  refine tn ?_
  obtain ⟨o40, o40h, o40H⟩ := bindS H
  clear H
  refine Wp_blockJ (fun ρ w' => .inr () = o40 ∧ Agree ρ [(7, .int .i64 (imax (0 : Int) (imin (imin a2 (a0.length : Int)) (a1.length : Int))))] ∧ Ext w w' ∧ St w' M F []) ?_ ?_
  · skip
    refine Wp_loop (fun n ρ w' => ∃ (x27 : Int), text_Suffix_l0 a0 a1 a2 n x27 = some o40 ∧ Agree ρ [(0, .string (bs a0)), (1, .string (bs a1)), (7, .int .i64 (imax (0 : Int) (imin (imin a2 (a0.length : Int)) (a1.length : Int)))), (16, .int .i64 (imax (0 : Int) (imin (imin a2 (a0.length : Int)) (a1.length : Int)))), (17, .int .i64 x27)] ∧ Ext w w' ∧ St w' M F []) k ?_ ?_
    · skip
      exact ⟨(0 : Int), o40h, ⟨rfl, rfl, rfl, rfl, rfl, trivial⟩, E, S.pick [] (by decide)⟩
    · intro n
      rintro ρ w41 ⟨x27, H, hρ, E, S⟩
      rw [agree_eta hρ]
      clear hρ
      cases n with
      | zero => cases H
      | succ k =>
        rw [text_Suffix_l0.eq_2] at H
        refine Wp_seq ?_
        refine Wp_region_lit ?_
        refine W_v (.bool (decide (x27 < (imax (0 : Int) (imin (imin a2 (a0.length : Int)) (a1.length : Int)))))) (x_ibin rfl rfl rfl rfl) rfl ?_
        refine Wl_nil ?_
        refine tn ?_
        refine Wp_seq ?_
        rcases iteS H with ⟨hb42, H⟩ | ⟨hb42, H⟩
        · refine Wp_cond_true (congrArg Value.bool hb42) ?_
          refine Wp_skip ?_
          refine tn ?_
          refine Wp_seq ?_
          refine Wp_block ?_
          refine Wp_seq ?_
          refine Wp_region_lit ?_
          refine W_v (.int .i64 x27) (x_move rfl) rfl ?_
          refine W_v (.int .i64 x27) (x_assign rfl) rfl ?_
          refine Wl_nil ?_
          refine tn ?_
          refine Wp_seq ?_
          refine Wp_region_any (S := fun w' => ∃ Mx, M.le Mx ∧ St w' Mx F []) mixed ?_
          intro w47 hw48 E'
          replace S := S.heap hw48
          replace E := E.trans E'
          clear E'
          refine Wa_take (i := 0) rfl (by kernel_rfl) rfl rfl (.string (bs a0)) rfl (fun w' h' => x_move rfl) (⟨M, Hp.le_refl M, S.pick [] (by decide)⟩) ?_
          refine Wa_take (i := 1) rfl (by kernel_rfl) rfl rfl (.string (bs a0)) rfl (fun w' h' => x_move rfl) (⟨M, Hp.le_refl M, S.pick [] (by decide)⟩) ?_
          refine Wa_take (i := 2) rfl (by kernel_rfl) rfl rfl (.int .i64 (a0.length : Int)) rfl (fun w' h' => x_len_str Try.underlying9 rfl) (⟨M, Hp.le_refl M, S.pick [] (by decide)⟩) ?_
          refine Wa_take (i := 3) rfl (by kernel_rfl) rfl rfl (.int .i64 (IntKind.i64.wrap ((a0.length : Int) - (1 : Int)))) rfl (fun w' h' => x_ibin rfl rfl rfl rfl) (⟨M, Hp.le_refl M, S.pick [] (by decide)⟩) ?_
          refine Wa_take (i := 4) rfl (by kernel_rfl) rfl rfl (.int .i64 x27) rfl (fun w' h' => x_move rfl) (⟨M, Hp.le_refl M, S.pick [] (by decide)⟩) ?_
          refine Wa_take (i := 5) rfl (by kernel_rfl) rfl rfl (.int .i64 (IntKind.i64.wrap ((IntKind.i64.wrap ((a0.length : Int) - (1 : Int))) - x27))) rfl (fun w' h' => x_ibin rfl rfl rfl rfl) (⟨M, Hp.le_refl M, S.pick [] (by decide)⟩) ?_
          obtain ⟨⟨p49, p50⟩, H⟩ := chkS H
          refine Wa_take (i := 6) rfl (by kernel_rfl) rfl rfl (.int .u8 (((a0).getD ((IntKind.i64.wrap ((IntKind.i64.wrap ((a0.length : Int) - (1 : Int))) - x27))).toNat 0).toNat : Int)) rfl (fun w' h' => x_indexStr Try.underlying9 rfl rfl p49 p50) (⟨M, Hp.le_refl M, S.pick [] (by decide)⟩) ?_
          refine Wa_take (i := 7) rfl (by kernel_rfl) rfl rfl (.string (bs a1)) rfl (fun w' h' => x_move rfl) (⟨M, Hp.le_refl M, S.pick [] (by decide)⟩) ?_
          refine Wa_take (i := 8) rfl (by kernel_rfl) rfl rfl (.string (bs a1)) rfl (fun w' h' => x_move rfl) (⟨M, Hp.le_refl M, S.pick [] (by decide)⟩) ?_
          refine Wa_take (i := 9) rfl (by kernel_rfl) rfl rfl (.int .i64 (a1.length : Int)) rfl (fun w' h' => x_len_str Try.underlying9 rfl) (⟨M, Hp.le_refl M, S.pick [] (by decide)⟩) ?_
          refine Wa_take (i := 10) rfl (by kernel_rfl) rfl rfl (.int .i64 (IntKind.i64.wrap ((a1.length : Int) - (1 : Int)))) rfl (fun w' h' => x_ibin rfl rfl rfl rfl) (⟨M, Hp.le_refl M, S.pick [] (by decide)⟩) ?_
          refine Wa_take (i := 11) rfl (by kernel_rfl) rfl rfl (.int .i64 x27) rfl (fun w' h' => x_move rfl) (⟨M, Hp.le_refl M, S.pick [] (by decide)⟩) ?_
          refine Wa_take (i := 12) rfl (by kernel_rfl) rfl rfl (.int .i64 (IntKind.i64.wrap ((IntKind.i64.wrap ((a1.length : Int) - (1 : Int))) - x27))) rfl (fun w' h' => x_ibin rfl rfl rfl rfl) (⟨M, Hp.le_refl M, S.pick [] (by decide)⟩) ?_
          obtain ⟨⟨p51, p52⟩, H⟩ := chkS H
          refine Wa_take (i := 13) rfl (by kernel_rfl) rfl rfl (.int .u8 (((a1).getD ((IntKind.i64.wrap ((IntKind.i64.wrap ((a1.length : Int) - (1 : Int))) - x27))).toNat 0).toNat : Int)) rfl (fun w' h' => x_indexStr Try.underlying9 rfl rfl p51 p52) (⟨M, Hp.le_refl M, S.pick [] (by decide)⟩) ?_
          refine Wa_take (i := 14) rfl (by kernel_rfl) rfl rfl (.bool ((((a0).getD ((IntKind.i64.wrap ((IntKind.i64.wrap ((a0.length : Int) - (1 : Int))) - x27))).toNat 0).toNat : Int) != (((a1).getD ((IntKind.i64.wrap ((IntKind.i64.wrap ((a1.length : Int) - (1 : Int))) - x27))).toNat 0).toNat : Int))) rfl (fun w' h' => x_ibin rfl rfl rfl rfl) (⟨M, Hp.le_refl M, S.pick [] (by decide)⟩) ?_
          refine Wa_done (by kernel_rfl) ?_
          refine tn ?_
          rcases iteS H with ⟨hb53, H⟩ | ⟨hb53, H⟩
          · refine Wp_cond_true (congrArg Value.bool hb53) ?_
            refine Wp_seq ?_
            refine Wp_region_lit ?_
            refine W_v (.int .i64 x27) (x_move rfl) rfl ?_
            refine W_v (.int .i64 x27) (x_assign rfl) rfl ?_
            refine Wl_nil ?_
            refine tn ?_
            refine Wp_ret ?_
            refine br (tr (tr (br (tr (tr (?_))))))
            obtain rfl := Option.some.inj H
            have H := o40H
            replace H := elimL H
            obtain rfl := Option.some.inj H
            exact ⟨_, _, _, fun w1 e1 => run_resR (vs := [.int .i64 x27]) (FA.cons (rfl) (FA.nil)), HM, E, S.pick [] (by decide), ⟨rfl, rfl⟩⟩
          · refine Wp_cond_false (congrArg Value.bool hb53) ?_
            refine Wp_skip ?_
            refine bn ?_
            refine tn ?_
            refine Wp_region_lit ?_
            refine W_v (.int .i64 (IntKind.i64.wrap (x27 + (1 : Int)))) (x_ibin rfl rfl rfl rfl) rfl ?_
            refine W_v (.int .i64 (IntKind.i64.wrap (x27 + (1 : Int)))) (x_move rfl) rfl ?_
            refine Wl_nil ?_
            refine tn ?_
            exact ⟨k, Nat.lt_succ_self k, ⟨(IntKind.i64.wrap (x27 + (1 : Int))), H, ⟨rfl, rfl, rfl, rfl, rfl, trivial⟩, E, S.pick [] (by decide)⟩⟩
        · refine Wp_cond_false (congrArg Value.bool hb42) ?_
          refine Wp_exit ?_
          refine tx (tx (bsm (?_)))
          refine tn ?_
          exact ⟨Option.some.inj H, ⟨rfl, trivial⟩, E, S.pick [] (by decide)⟩
  · clear o40h
    rintro ρ w54 ⟨rfl, hρ, E, S⟩
    rw [agree_eta hρ]
    clear hρ
    have H := o40H
    clear o40H
    replace H := elimR H
    refine tn ?_
    refine Wp_seq ?_
    refine Wp_region_lit ?_
    refine W_v (.int .i64 (imax (0 : Int) (imin (imin a2 (a0.length : Int)) (a1.length : Int)))) (x_move rfl) rfl ?_
    refine W_v (.int .i64 (imax (0 : Int) (imin (imin a2 (a0.length : Int)) (a1.length : Int)))) (x_assign rfl) rfl ?_
    refine Wl_nil ?_
    refine tn ?_
    refine Wp_ret ?_
    obtain rfl := Option.some.inj H
    exact ⟨_, _, _, fun w1 e1 => run_resR (vs := [.int .i64 (imax (0 : Int) (imin (imin a2 (a0.length : Int)) (a1.length : Int)))]) (FA.cons (rfl) (FA.nil)), HM, E, S.pick [] (by decide), ⟨rfl, rfl⟩⟩
/-! ### ferryman/text.Next: function 19 -/
def text_Next (k : Nat) (a0 : Str) : Option (Str) :=
  (if (a0.length : Int) + ([0] : Str).length ≤ 9223372036854775807 then some (a0 ++ ([0] : Str)) else none)
set_option maxHeartbeats 2000000 in
theorem text_Next.mono {k : Nat} {a0 : Str} : OLe (text_Next k a0) (text_Next (k + 1) a0) := by
  unfold text_Next
  repeat' (first | with_reducible exact OLe.none | with_reducible exact OLe.some | with_reducible refine OLe.ite ?_ ?_ | with_reducible refine OLe.bind ?_ (fun _ => ?_) | refine OLe.bind ?_ (fun _ => ?_) | refine OLe.ite ?_ ?_ | refine OLe.elim (fun _ => ?_) (fun _ => ?_) | split)
set_option maxHeartbeats 1000000 in
set_option maxRecDepth 100000 in
theorem text_Next.con (k : Nat) (M : Hp) (a0 : Str) (r : Str)  (h : text_Next k a0 = some r) : Con Try.prog 19 #[.string (bs a0)] M [] (fun v M' Γ' => v = .string (bs r) ∧ Γ' = []) := by
  refine con_of_wp Try.func19 rfl Try.ntmps19 Try.results19 rfl ?_
  intro w F rn S hrn
  have E := Ext.refl w
  have HM := Hp.le_refl M
  have H := h
  unfold text_Next at H
  refine Wp_seq ?_
  refine Wp_region_lit ?_
  refine W_v (.string (bs ([] : Str))) (x_assign rfl) rfl ?_
  refine Wl_nil ?_
  refine tn ?_
  refine Wp_seq ?_
  refine Wp_region_lit ?_
  refine W_v (.string (bs a0)) (x_move rfl) rfl ?_
  obtain ⟨p1, H⟩ := chkS H
  refine W_v (.string (bs (a0 ++ ([0] : Str)))) (x_cat rfl rfl p1) rfl ?_
  refine W_v (.string (bs (a0 ++ ([0] : Str)))) (x_assign rfl) rfl ?_
  refine Wl_nil ?_
  refine tn ?_
  refine Wp_ret ?_
  obtain rfl := Option.some.inj H
  exact ⟨_, _, _, fun w1 e1 => run_resR (vs := [.string (bs (a0 ++ ([0] : Str)))]) (FA.cons (rfl) (FA.nil)), HM, E, S.pick [] (by decide), ⟨rfl, rfl⟩⟩
/-! ### ferryman/text.Within: function 21 -/
def text_Within (k : Nat) (a0 : Str) (a1 : Str) (a2 : Str) : Option (Bool) :=
  some ((sbin .leq a1 a0) && ((sbin .eql a2 ([] : Str)) || (sbin .lss a0 a2)))
set_option maxHeartbeats 2000000 in
theorem text_Within.mono {k : Nat} {a0 : Str} {a1 : Str} {a2 : Str} : OLe (text_Within k a0 a1 a2) (text_Within (k + 1) a0 a1 a2) := by
  unfold text_Within
  repeat' (first | with_reducible exact OLe.none | with_reducible exact OLe.some | with_reducible refine OLe.ite ?_ ?_ | with_reducible refine OLe.bind ?_ (fun _ => ?_) | refine OLe.bind ?_ (fun _ => ?_) | refine OLe.ite ?_ ?_ | refine OLe.elim (fun _ => ?_) (fun _ => ?_) | split)
set_option maxHeartbeats 1000000 in
set_option maxRecDepth 100000 in
theorem text_Within.con (k : Nat) (M : Hp) (a0 : Str) (a1 : Str) (a2 : Str) (r : Bool)  (h : text_Within k a0 a1 a2 = some r) : Con Try.prog 21 #[.string (bs a0), .string (bs a1), .string (bs a2)] M [] (fun v M' Γ' => v = .bool r ∧ Γ' = []) := by
  refine con_of_wp Try.func21 rfl Try.ntmps21 Try.results21 rfl ?_
  intro w F rn S hrn
  have E := Ext.refl w
  have HM := Hp.le_refl M
  have H := h
  unfold text_Within at H
  refine Wp_seq ?_
  refine Wp_region_lit ?_
  refine W_v (.bool false) (x_assign rfl) rfl ?_
  refine Wl_nil ?_
  refine tn ?_
  refine Wp_seq ?_
  refine Wp_region_lit ?_
  refine W_v (.string (bs a1)) (x_move rfl) rfl ?_
  refine W_v (.string (bs a0)) (x_move rfl) rfl ?_
  refine W_v (.bool (sbin .leq a1 a0)) (x_sbin rfl rfl rfl) rfl ?_
  refine W_v (.bool (sbin .leq a1 a0)) (x_move rfl) rfl ?_
  refine Wl_cutN 8 (fun ρ w' => Agree ρ [(18, .bool ((sbin .leq a1 a0) && ((sbin .eql a2 ([] : Str)) || (sbin .lss a0 a2))))] ∧ w = w') ?_ ?_
  · rcases boolCases (sbin .leq a1 a0) with hb3 | hb3
    · skip
      refine W_no (skT hb3) rfl ?_
      refine W_no (skT hb3) rfl ?_
      refine W_no (skT hb3) rfl ?_
      refine W_no (rfl) rfl ?_
      refine W_no (rfl) rfl ?_
      refine W_no (rfl) rfl ?_
      refine W_no (skT hb3) rfl ?_
      refine W_v (.bool false) (x_pick (k := false) (congrArg Value.bool hb3) rfl) rfl ?_
      refine Wl_nil ?_
      exact ⟨⟨(by first | rfl | (rw [hb3]; rfl) | (simp only [hb3]; rfl)), trivial⟩, rfl⟩
    · skip
      refine W_yes (congrArg some hb3) ?_
      refine W_v (.string (bs a2)) (x_move rfl) rfl ?_
      refine W_yes (congrArg some hb3) ?_
      refine W_v (.bool (sbin .eql a2 ([] : Str))) (x_sbin rfl rfl rfl) rfl ?_
      refine W_yes (congrArg some hb3) ?_
      refine W_v (.bool (sbin .eql a2 ([] : Str))) (x_move rfl) rfl ?_
      refine Wl_cutN 4 (fun ρ w' => Agree ρ [(10, .bool (sbin .leq a1 a0)), (17, .bool ((sbin .eql a2 ([] : Str)) || (sbin .lss a0 a2)))] ∧ w = w') ?_ ?_
      · rcases boolCases (sbin .eql a2 ([] : Str)) with hb4 | hb4
        · skip
          refine W_yes (congrArg some hb4) ?_
          refine W_v (.string (bs a0)) (x_move rfl) rfl ?_
          refine W_yes (congrArg some hb4) ?_
          refine W_v (.string (bs a2)) (x_move rfl) rfl ?_
          refine W_yes (congrArg some hb4) ?_
          refine W_v (.bool (sbin .lss a0 a2)) (x_sbin rfl rfl rfl) rfl ?_
          refine W_yes (congrArg some hb3) ?_
          refine W_v (.bool (sbin .lss a0 a2)) (x_pick (k := false) (congrArg Value.bool hb4) rfl) rfl ?_
          refine Wl_nil ?_
          exact ⟨⟨rfl, (by first | rfl | (rw [hb4]; rfl) | (simp only [hb4]; rfl)), trivial⟩, rfl⟩
        · skip
          refine W_no (skF hb4) rfl ?_
          refine W_no (skF hb4) rfl ?_
          refine W_no (skF hb4) rfl ?_
          refine W_yes (congrArg some hb3) ?_
          refine W_v (.bool true) (x_pick (k := true) (congrArg Value.bool hb4) rfl) rfl ?_
          refine Wl_nil ?_
          exact ⟨⟨rfl, (by first | rfl | (rw [hb4]; rfl) | (simp only [hb4]; rfl)), trivial⟩, rfl⟩
      · rintro ρ _ ⟨hρ, rfl⟩
        rw [agree_eta hρ]
        clear hρ
        skip
        refine W_v (.bool ((sbin .eql a2 ([] : Str)) || (sbin .lss a0 a2))) (x_pick (k := true) (congrArg Value.bool hb3) rfl) rfl ?_
        refine Wl_nil ?_
        exact ⟨⟨(by first | rfl | (rw [hb3]; rfl) | (simp only [hb3]; rfl)), trivial⟩, rfl⟩
  · rintro ρ _ ⟨hρ, rfl⟩
    rw [agree_eta hρ]
    clear hρ
    skip
    refine W_v (.bool ((sbin .leq a1 a0) && ((sbin .eql a2 ([] : Str)) || (sbin .lss a0 a2)))) (x_assign rfl) rfl ?_
    refine Wl_nil ?_
    refine tn ?_
    refine Wp_ret ?_
    obtain rfl := Option.some.inj H
    exact ⟨_, _, _, fun w1 e1 => run_resR (vs := [.bool ((sbin .leq a1 a0) && ((sbin .eql a2 ([] : Str)) || (sbin .lss a0 a2)))]) (FA.cons (rfl) (FA.nil)), HM, E, S.pick [] (by decide), ⟨rfl, rfl⟩⟩
/-! ### ferryman/text.May: function 24 -/
def text_May_l0 (a0 : api_Config) : Nat → Int → Option ((Bool) ⊕ (Unit))
  | 0, _ => none
  | k + 1, x22 => (if (decide (x22 < (8 : Int))) = true then (if 0 ≤ x22 ∧ x22 < (8 : Int) then (if ((decide ((rd ([(⟨a0.Tasks, (1 : Int), (6 : Int)⟩ : text_bound), (⟨a0.Active, (1 : Int), (8 : Int)⟩ : text_bound), (⟨a0.Keys, (1 : Int), (64 : Int)⟩ : text_bound), (⟨a0.Depth, (2 : Int), (8 : Int)⟩ : text_bound), (⟨a0.TS, (1 : Int), (1048576 : Int)⟩ : text_bound), (⟨a0.KeyLen, (1 : Int), (64 : Int)⟩ : text_bound), (⟨a0.ValLen, (0 : Int), (256 : Int)⟩ : text_bound), (⟨a0.Fan, (3 : Int), (8 : Int)⟩ : text_bound)] : List text_bound) x22).n < (rd ([(⟨a0.Tasks, (1 : Int), (6 : Int)⟩ : text_bound), (⟨a0.Active, (1 : Int), (8 : Int)⟩ : text_bound), (⟨a0.Keys, (1 : Int), (64 : Int)⟩ : text_bound), (⟨a0.Depth, (2 : Int), (8 : Int)⟩ : text_bound), (⟨a0.TS, (1 : Int), (1048576 : Int)⟩ : text_bound), (⟨a0.KeyLen, (1 : Int), (64 : Int)⟩ : text_bound), (⟨a0.ValLen, (0 : Int), (256 : Int)⟩ : text_bound), (⟨a0.Fan, (3 : Int), (8 : Int)⟩ : text_bound)] : List text_bound) x22).low)) || (decide ((rd ([(⟨a0.Tasks, (1 : Int), (6 : Int)⟩ : text_bound), (⟨a0.Active, (1 : Int), (8 : Int)⟩ : text_bound), (⟨a0.Keys, (1 : Int), (64 : Int)⟩ : text_bound), (⟨a0.Depth, (2 : Int), (8 : Int)⟩ : text_bound), (⟨a0.TS, (1 : Int), (1048576 : Int)⟩ : text_bound), (⟨a0.KeyLen, (1 : Int), (64 : Int)⟩ : text_bound), (⟨a0.ValLen, (0 : Int), (256 : Int)⟩ : text_bound), (⟨a0.Fan, (3 : Int), (8 : Int)⟩ : text_bound)] : List text_bound) x22).n > (rd ([(⟨a0.Tasks, (1 : Int), (6 : Int)⟩ : text_bound), (⟨a0.Active, (1 : Int), (8 : Int)⟩ : text_bound), (⟨a0.Keys, (1 : Int), (64 : Int)⟩ : text_bound), (⟨a0.Depth, (2 : Int), (8 : Int)⟩ : text_bound), (⟨a0.TS, (1 : Int), (1048576 : Int)⟩ : text_bound), (⟨a0.KeyLen, (1 : Int), (64 : Int)⟩ : text_bound), (⟨a0.ValLen, (0 : Int), (256 : Int)⟩ : text_bound), (⟨a0.Fan, (3 : Int), (8 : Int)⟩ : text_bound)] : List text_bound) x22).high))) = true then some (.inl false) else text_May_l0 a0 k (IntKind.i64.wrap (x22 + (1 : Int)))) else none) else some (.inr ()))
set_option maxHeartbeats 2000000 in
theorem text_May_l0.mono {a0 : api_Config} : ∀ {k : Nat} {x0}, OLe (text_May_l0 a0 k x0) (text_May_l0 a0 (k + 1) x0) := by
  intro k
  induction k with
  | zero => intros; exact OLe.none
  | succ k ih =>
    intros
    rw [text_May_l0.eq_2, text_May_l0.eq_2]
    repeat' (first | with_reducible exact OLe.none | with_reducible exact OLe.some | with_reducible refine OLe.ite ?_ ?_ | with_reducible refine OLe.bind ?_ (fun _ => ?_) | exact ih | refine OLe.bind ?_ (fun _ => ?_) | refine OLe.ite ?_ ?_ | refine OLe.elim (fun _ => ?_) (fun _ => ?_) | split)
def text_May (k : Nat) (a0 : api_Config) : Option (Bool) :=
  (Option.bind (text_May_l0 a0 k (0 : Int)) (fun o32o => Sum.elim (fun r' => some r') (fun _ => some true) o32o))
set_option maxHeartbeats 2000000 in
theorem text_May.mono {k : Nat} {a0 : api_Config} : OLe (text_May k a0) (text_May (k + 1) a0) := by
  unfold text_May
  repeat' (first | with_reducible exact OLe.none | with_reducible exact OLe.some | with_reducible refine OLe.ite ?_ ?_ | with_reducible refine OLe.bind ?_ (fun _ => ?_) | with_reducible exact text_May_l0.mono | refine OLe.bind ?_ (fun _ => ?_) | refine OLe.ite ?_ ?_ | refine OLe.elim (fun _ => ?_) (fun _ => ?_) | split)
set_option maxHeartbeats 1000000 in
set_option maxRecDepth 100000 in
theorem text_May.con (k : Nat) (M : Hp) (a0 : api_Config) (r : Bool)  (h : text_May k a0 = some r) : Con Try.prog 24 #[.agg #[.int .i64 a0.Tasks, .int .i64 a0.Active, .int .i64 a0.Keys, .int .i64 a0.Depth, .int .i64 a0.TS, .int .i64 a0.KeyLen, .int .i64 a0.ValLen, .int .i64 a0.Fan]] M [] (fun v M' Γ' => v = .bool r ∧ Γ' = []) := by
  refine con_of_wp Try.func24 rfl Try.ntmps24 Try.results24 rfl ?_
  intro w F rn S hrn
  have E := Ext.refl w
  have HM := Hp.le_refl M
  have H := h
  unfold text_May at H
  refine Wp_seq ?_
  refine Wp_region_lit ?_
  refine W_box S #[.int .i64 a0.Tasks, .int .i64 a0.Active, .int .i64 a0.Keys, .int .i64 a0.Depth, .int .i64 a0.TS, .int .i64 a0.KeyLen, .int .i64 a0.ValLen, .int .i64 a0.Fan] rfl rfl rfl ?_
  intro b1 w2 E' S
  replace E := E.trans E'
  clear E'
  refine W_v (.bool false) (x_assign rfl) rfl ?_
  refine Wl_nil ?_
  refine tn ?_
  refine Wp_seq ?_
  refine Wp_seq ?_
  refine Wp_region_lit ?_
  refine W_v (.pointer (some ⟨b1, 0, none⟩)) (x_fieldAddr (o := 0) (off := 0) Try.underlying37 rfl ty3 rfl rfl) rfl ?_
  refine W_v (.int .i64 a0.Tasks) (x_load (S.blk 0 rfl) ty3 rfl rfl) rfl ?_
  refine W_v (.agg #[.int .i64 a0.Tasks, .int .i64 1, .int .i64 6]) (x_build2 (pl := [(0, 1), (1, 1), (2, 1)]) #[.int .i64 a0.Tasks, .int .i64 1, .int .i64 6] Try.underlying43 ty43 (by kernel_rfl) rfl (by kernel_rfl)) rfl ?_
  refine W_v (.pointer (some ⟨b1, 1, none⟩)) (x_fieldAddr (o := 0) (off := 1) Try.underlying37 rfl ty3 rfl rfl) rfl ?_
  refine W_v (.int .i64 a0.Active) (x_load (S.blk 0 rfl) ty3 rfl rfl) rfl ?_
  refine W_v (.agg #[.int .i64 a0.Active, .int .i64 1, .int .i64 8]) (x_build2 (pl := [(0, 1), (1, 1), (2, 1)]) #[.int .i64 a0.Active, .int .i64 1, .int .i64 8] Try.underlying43 ty43 (by kernel_rfl) rfl (by kernel_rfl)) rfl ?_
  refine W_v (.pointer (some ⟨b1, 2, none⟩)) (x_fieldAddr (o := 0) (off := 2) Try.underlying37 rfl ty3 rfl rfl) rfl ?_
  refine W_v (.int .i64 a0.Keys) (x_load (S.blk 0 rfl) ty3 rfl rfl) rfl ?_
  refine W_v (.agg #[.int .i64 a0.Keys, .int .i64 1, .int .i64 64]) (x_build2 (pl := [(0, 1), (1, 1), (2, 1)]) #[.int .i64 a0.Keys, .int .i64 1, .int .i64 64] Try.underlying43 ty43 (by kernel_rfl) rfl (by kernel_rfl)) rfl ?_
  refine W_v (.pointer (some ⟨b1, 3, none⟩)) (x_fieldAddr (o := 0) (off := 3) Try.underlying37 rfl ty3 rfl rfl) rfl ?_
  refine W_v (.int .i64 a0.Depth) (x_load (S.blk 0 rfl) ty3 rfl rfl) rfl ?_
  refine W_v (.agg #[.int .i64 a0.Depth, .int .i64 2, .int .i64 8]) (x_build2 (pl := [(0, 1), (1, 1), (2, 1)]) #[.int .i64 a0.Depth, .int .i64 2, .int .i64 8] Try.underlying43 ty43 (by kernel_rfl) rfl (by kernel_rfl)) rfl ?_
  refine W_v (.pointer (some ⟨b1, 4, none⟩)) (x_fieldAddr (o := 0) (off := 4) Try.underlying37 rfl ty3 rfl rfl) rfl ?_
  refine W_v (.int .i64 a0.TS) (x_load (S.blk 0 rfl) ty3 rfl rfl) rfl ?_
  refine W_v (.agg #[.int .i64 a0.TS, .int .i64 1, .int .i64 1048576]) (x_build2 (pl := [(0, 1), (1, 1), (2, 1)]) #[.int .i64 a0.TS, .int .i64 1, .int .i64 1048576] Try.underlying43 ty43 (by kernel_rfl) rfl (by kernel_rfl)) rfl ?_
  refine W_v (.pointer (some ⟨b1, 5, none⟩)) (x_fieldAddr (o := 0) (off := 5) Try.underlying37 rfl ty3 rfl rfl) rfl ?_
  refine W_v (.int .i64 a0.KeyLen) (x_load (S.blk 0 rfl) ty3 rfl rfl) rfl ?_
  refine W_v (.agg #[.int .i64 a0.KeyLen, .int .i64 1, .int .i64 64]) (x_build2 (pl := [(0, 1), (1, 1), (2, 1)]) #[.int .i64 a0.KeyLen, .int .i64 1, .int .i64 64] Try.underlying43 ty43 (by kernel_rfl) rfl (by kernel_rfl)) rfl ?_
  refine W_v (.pointer (some ⟨b1, 6, none⟩)) (x_fieldAddr (o := 0) (off := 6) Try.underlying37 rfl ty3 rfl rfl) rfl ?_
  refine W_v (.int .i64 a0.ValLen) (x_load (S.blk 0 rfl) ty3 rfl rfl) rfl ?_
  refine W_v (.agg #[.int .i64 a0.ValLen, .int .i64 0, .int .i64 256]) (x_build2 (pl := [(0, 1), (1, 1), (2, 1)]) #[.int .i64 a0.ValLen, .int .i64 0, .int .i64 256] Try.underlying43 ty43 (by kernel_rfl) rfl (by kernel_rfl)) rfl ?_
  refine W_v (.pointer (some ⟨b1, 7, none⟩)) (x_fieldAddr (o := 0) (off := 7) Try.underlying37 rfl ty3 rfl rfl) rfl ?_
  refine W_v (.int .i64 a0.Fan) (x_load (S.blk 0 rfl) ty3 rfl rfl) rfl ?_
  refine W_v (.agg #[.int .i64 a0.Fan, .int .i64 3, .int .i64 8]) (x_build2 (pl := [(0, 1), (1, 1), (2, 1)]) #[.int .i64 a0.Fan, .int .i64 3, .int .i64 8] Try.underlying43 ty43 (by kernel_rfl) rfl (by kernel_rfl)) rfl ?_
  refine W_v (.agg #[.int .i64 a0.Tasks, .int .i64 1, .int .i64 6, .int .i64 a0.Active, .int .i64 1, .int .i64 8, .int .i64 a0.Keys, .int .i64 1, .int .i64 64, .int .i64 a0.Depth, .int .i64 2, .int .i64 8, .int .i64 a0.TS, .int .i64 1, .int .i64 1048576, .int .i64 a0.KeyLen, .int .i64 1, .int .i64 64, .int .i64 a0.ValLen, .int .i64 0, .int .i64 256, .int .i64 a0.Fan, .int .i64 3, .int .i64 8]) (x_buildArr #[.int .i64 a0.Tasks, .int .i64 1, .int .i64 6, .int .i64 a0.Active, .int .i64 1, .int .i64 8, .int .i64 a0.Keys, .int .i64 1, .int .i64 64, .int .i64 a0.Depth, .int .i64 2, .int .i64 8, .int .i64 a0.TS, .int .i64 1, .int .i64 1048576, .int .i64 a0.KeyLen, .int .i64 1, .int .i64 64, .int .i64 a0.ValLen, .int .i64 0, .int .i64 256, .int .i64 a0.Fan, .int .i64 3, .int .i64 8] Try.underlying44 ty44 ty43 rfl (by kernel_rfl)) rfl ?_
  refine W_v (.int .i64 0) (x_move rfl) rfl ?_
  refine Wl_nil ?_
  refine tn ?_
  obtain ⟨o32, o32h, o32H⟩ := bindS H
  clear H
  refine Wp_blockJ (fun ρ w' => .inr () = o32 ∧ Agree ρ [] ∧ Ext w w' ∧ St w' M F []) ?_ ?_
  · skip
    refine Wp_loop (fun n ρ w' => ∃ (x22 : Int), text_May_l0 a0 n x22 = some o32 ∧ Agree ρ [(29, .agg #[.int .i64 a0.Tasks, .int .i64 1, .int .i64 6, .int .i64 a0.Active, .int .i64 1, .int .i64 8, .int .i64 a0.Keys, .int .i64 1, .int .i64 64, .int .i64 a0.Depth, .int .i64 2, .int .i64 8, .int .i64 a0.TS, .int .i64 1, .int .i64 1048576, .int .i64 a0.KeyLen, .int .i64 1, .int .i64 64, .int .i64 a0.ValLen, .int .i64 0, .int .i64 256, .int .i64 a0.Fan, .int .i64 3, .int .i64 8]), (30, .int .i64 x22)] ∧ Ext w w' ∧ St w' M F []) k ?_ ?_
    · skip
      exact ⟨(0 : Int), o32h, ⟨rfl, rfl, trivial⟩, E, S.pick [] (by decide)⟩
    · intro n
      rintro ρ w33 ⟨x22, H, hρ, E, S⟩
      rw [agree_eta hρ]
      clear hρ
      cases n with
      | zero => cases H
      | succ k =>
        rw [text_May_l0.eq_2] at H
        refine Wp_seq ?_
        refine Wp_region_lit ?_
        refine W_v (.bool (decide (x22 < (8 : Int)))) (x_ibin rfl rfl rfl rfl) rfl ?_
        refine Wl_nil ?_
        refine tn ?_
        refine Wp_seq ?_
        rcases iteS H with ⟨hb34, H⟩ | ⟨hb34, H⟩
        · refine Wp_cond_true (congrArg Value.bool hb34) ?_
          refine Wp_skip ?_
          refine tn ?_
          refine Wp_seq ?_
          refine Wp_block ?_
          refine Wp_seq ?_
          refine Wp_region_lit ?_
          obtain ⟨⟨p35, p36⟩, H⟩ := chkS H
          refine W_v (.agg #[.int .i64 ((rd ([(⟨a0.Tasks, (1 : Int), (6 : Int)⟩ : text_bound), (⟨a0.Active, (1 : Int), (8 : Int)⟩ : text_bound), (⟨a0.Keys, (1 : Int), (64 : Int)⟩ : text_bound), (⟨a0.Depth, (2 : Int), (8 : Int)⟩ : text_bound), (⟨a0.TS, (1 : Int), (1048576 : Int)⟩ : text_bound), (⟨a0.KeyLen, (1 : Int), (64 : Int)⟩ : text_bound), (⟨a0.ValLen, (0 : Int), (256 : Int)⟩ : text_bound), (⟨a0.Fan, (3 : Int), (8 : Int)⟩ : text_bound)] : List text_bound) x22).n), .int .i64 ((rd ([(⟨a0.Tasks, (1 : Int), (6 : Int)⟩ : text_bound), (⟨a0.Active, (1 : Int), (8 : Int)⟩ : text_bound), (⟨a0.Keys, (1 : Int), (64 : Int)⟩ : text_bound), (⟨a0.Depth, (2 : Int), (8 : Int)⟩ : text_bound), (⟨a0.TS, (1 : Int), (1048576 : Int)⟩ : text_bound), (⟨a0.KeyLen, (1 : Int), (64 : Int)⟩ : text_bound), (⟨a0.ValLen, (0 : Int), (256 : Int)⟩ : text_bound), (⟨a0.Fan, (3 : Int), (8 : Int)⟩ : text_bound)] : List text_bound) x22).low), .int .i64 ((rd ([(⟨a0.Tasks, (1 : Int), (6 : Int)⟩ : text_bound), (⟨a0.Active, (1 : Int), (8 : Int)⟩ : text_bound), (⟨a0.Keys, (1 : Int), (64 : Int)⟩ : text_bound), (⟨a0.Depth, (2 : Int), (8 : Int)⟩ : text_bound), (⟨a0.TS, (1 : Int), (1048576 : Int)⟩ : text_bound), (⟨a0.KeyLen, (1 : Int), (64 : Int)⟩ : text_bound), (⟨a0.ValLen, (0 : Int), (256 : Int)⟩ : text_bound), (⟨a0.Fan, (3 : Int), (8 : Int)⟩ : text_bound)] : List text_bound) x22).high)]) (x_indexAgg Try.underlying44 ty43 rfl rfl p35 p36 (by obtain ⟨q, hq⟩ := Int.eq_ofNat_of_zero_le p35; have h9 : q = 0 ∨ q = 1 ∨ q = 2 ∨ q = 3 ∨ q = 4 ∨ q = 5 ∨ q = 6 ∨ q = 7 := (by omega); rcases h9 with rfl | rfl | rfl | rfl | rfl | rfl | rfl | rfl <;> (rw [hq] <;> rfl))) rfl ?_
          refine W_alloc S #[.int .i64 0, .int .i64 0, .int .i64 0] ty43 rfl rfl ?_
          intro b37 w38 E' S
          replace E := E.trans E'
          clear E'
          refine W_store S 0 rfl ty43 rfl rfl [.int .i64 ((rd ([(⟨a0.Tasks, (1 : Int), (6 : Int)⟩ : text_bound), (⟨a0.Active, (1 : Int), (8 : Int)⟩ : text_bound), (⟨a0.Keys, (1 : Int), (64 : Int)⟩ : text_bound), (⟨a0.Depth, (2 : Int), (8 : Int)⟩ : text_bound), (⟨a0.TS, (1 : Int), (1048576 : Int)⟩ : text_bound), (⟨a0.KeyLen, (1 : Int), (64 : Int)⟩ : text_bound), (⟨a0.ValLen, (0 : Int), (256 : Int)⟩ : text_bound), (⟨a0.Fan, (3 : Int), (8 : Int)⟩ : text_bound)] : List text_bound) x22).n), .int .i64 ((rd ([(⟨a0.Tasks, (1 : Int), (6 : Int)⟩ : text_bound), (⟨a0.Active, (1 : Int), (8 : Int)⟩ : text_bound), (⟨a0.Keys, (1 : Int), (64 : Int)⟩ : text_bound), (⟨a0.Depth, (2 : Int), (8 : Int)⟩ : text_bound), (⟨a0.TS, (1 : Int), (1048576 : Int)⟩ : text_bound), (⟨a0.KeyLen, (1 : Int), (64 : Int)⟩ : text_bound), (⟨a0.ValLen, (0 : Int), (256 : Int)⟩ : text_bound), (⟨a0.Fan, (3 : Int), (8 : Int)⟩ : text_bound)] : List text_bound) x22).low), .int .i64 ((rd ([(⟨a0.Tasks, (1 : Int), (6 : Int)⟩ : text_bound), (⟨a0.Active, (1 : Int), (8 : Int)⟩ : text_bound), (⟨a0.Keys, (1 : Int), (64 : Int)⟩ : text_bound), (⟨a0.Depth, (2 : Int), (8 : Int)⟩ : text_bound), (⟨a0.TS, (1 : Int), (1048576 : Int)⟩ : text_bound), (⟨a0.KeyLen, (1 : Int), (64 : Int)⟩ : text_bound), (⟨a0.ValLen, (0 : Int), (256 : Int)⟩ : text_bound), (⟨a0.Fan, (3 : Int), (8 : Int)⟩ : text_bound)] : List text_bound) x22).high)] rfl rfl rfl #[.int .i64 ((rd ([(⟨a0.Tasks, (1 : Int), (6 : Int)⟩ : text_bound), (⟨a0.Active, (1 : Int), (8 : Int)⟩ : text_bound), (⟨a0.Keys, (1 : Int), (64 : Int)⟩ : text_bound), (⟨a0.Depth, (2 : Int), (8 : Int)⟩ : text_bound), (⟨a0.TS, (1 : Int), (1048576 : Int)⟩ : text_bound), (⟨a0.KeyLen, (1 : Int), (64 : Int)⟩ : text_bound), (⟨a0.ValLen, (0 : Int), (256 : Int)⟩ : text_bound), (⟨a0.Fan, (3 : Int), (8 : Int)⟩ : text_bound)] : List text_bound) x22).n), .int .i64 ((rd ([(⟨a0.Tasks, (1 : Int), (6 : Int)⟩ : text_bound), (⟨a0.Active, (1 : Int), (8 : Int)⟩ : text_bound), (⟨a0.Keys, (1 : Int), (64 : Int)⟩ : text_bound), (⟨a0.Depth, (2 : Int), (8 : Int)⟩ : text_bound), (⟨a0.TS, (1 : Int), (1048576 : Int)⟩ : text_bound), (⟨a0.KeyLen, (1 : Int), (64 : Int)⟩ : text_bound), (⟨a0.ValLen, (0 : Int), (256 : Int)⟩ : text_bound), (⟨a0.Fan, (3 : Int), (8 : Int)⟩ : text_bound)] : List text_bound) x22).low), .int .i64 ((rd ([(⟨a0.Tasks, (1 : Int), (6 : Int)⟩ : text_bound), (⟨a0.Active, (1 : Int), (8 : Int)⟩ : text_bound), (⟨a0.Keys, (1 : Int), (64 : Int)⟩ : text_bound), (⟨a0.Depth, (2 : Int), (8 : Int)⟩ : text_bound), (⟨a0.TS, (1 : Int), (1048576 : Int)⟩ : text_bound), (⟨a0.KeyLen, (1 : Int), (64 : Int)⟩ : text_bound), (⟨a0.ValLen, (0 : Int), (256 : Int)⟩ : text_bound), (⟨a0.Fan, (3 : Int), (8 : Int)⟩ : text_bound)] : List text_bound) x22).high)] rfl rfl ?_
          intro w40 E' S
          replace E := E.trans E'
          clear E'
          refine Wl_nil ?_
          refine tn ?_
          refine Wp_seq ?_
          refine Wp_region_lit ?_
          refine W_v (.pointer (some ⟨b37, 0, none⟩)) (x_fieldAddr (o := 0) (off := 0) Try.underlying43 rfl ty3 rfl rfl) rfl ?_
          refine W_v (.int .i64 ((rd ([(⟨a0.Tasks, (1 : Int), (6 : Int)⟩ : text_bound), (⟨a0.Active, (1 : Int), (8 : Int)⟩ : text_bound), (⟨a0.Keys, (1 : Int), (64 : Int)⟩ : text_bound), (⟨a0.Depth, (2 : Int), (8 : Int)⟩ : text_bound), (⟨a0.TS, (1 : Int), (1048576 : Int)⟩ : text_bound), (⟨a0.KeyLen, (1 : Int), (64 : Int)⟩ : text_bound), (⟨a0.ValLen, (0 : Int), (256 : Int)⟩ : text_bound), (⟨a0.Fan, (3 : Int), (8 : Int)⟩ : text_bound)] : List text_bound) x22).n)) (x_load (S.blk 0 rfl) ty3 rfl rfl) rfl ?_
          refine W_v (.pointer (some ⟨b37, 1, none⟩)) (x_fieldAddr (o := 0) (off := 1) Try.underlying43 rfl ty3 rfl rfl) rfl ?_
          refine W_v (.int .i64 ((rd ([(⟨a0.Tasks, (1 : Int), (6 : Int)⟩ : text_bound), (⟨a0.Active, (1 : Int), (8 : Int)⟩ : text_bound), (⟨a0.Keys, (1 : Int), (64 : Int)⟩ : text_bound), (⟨a0.Depth, (2 : Int), (8 : Int)⟩ : text_bound), (⟨a0.TS, (1 : Int), (1048576 : Int)⟩ : text_bound), (⟨a0.KeyLen, (1 : Int), (64 : Int)⟩ : text_bound), (⟨a0.ValLen, (0 : Int), (256 : Int)⟩ : text_bound), (⟨a0.Fan, (3 : Int), (8 : Int)⟩ : text_bound)] : List text_bound) x22).low)) (x_load (S.blk 0 rfl) ty3 rfl rfl) rfl ?_
          refine W_v (.bool (decide ((rd ([(⟨a0.Tasks, (1 : Int), (6 : Int)⟩ : text_bound), (⟨a0.Active, (1 : Int), (8 : Int)⟩ : text_bound), (⟨a0.Keys, (1 : Int), (64 : Int)⟩ : text_bound), (⟨a0.Depth, (2 : Int), (8 : Int)⟩ : text_bound), (⟨a0.TS, (1 : Int), (1048576 : Int)⟩ : text_bound), (⟨a0.KeyLen, (1 : Int), (64 : Int)⟩ : text_bound), (⟨a0.ValLen, (0 : Int), (256 : Int)⟩ : text_bound), (⟨a0.Fan, (3 : Int), (8 : Int)⟩ : text_bound)] : List text_bound) x22).n < (rd ([(⟨a0.Tasks, (1 : Int), (6 : Int)⟩ : text_bound), (⟨a0.Active, (1 : Int), (8 : Int)⟩ : text_bound), (⟨a0.Keys, (1 : Int), (64 : Int)⟩ : text_bound), (⟨a0.Depth, (2 : Int), (8 : Int)⟩ : text_bound), (⟨a0.TS, (1 : Int), (1048576 : Int)⟩ : text_bound), (⟨a0.KeyLen, (1 : Int), (64 : Int)⟩ : text_bound), (⟨a0.ValLen, (0 : Int), (256 : Int)⟩ : text_bound), (⟨a0.Fan, (3 : Int), (8 : Int)⟩ : text_bound)] : List text_bound) x22).low))) (x_ibin rfl rfl rfl rfl) rfl ?_
          refine W_v (.bool (decide ((rd ([(⟨a0.Tasks, (1 : Int), (6 : Int)⟩ : text_bound), (⟨a0.Active, (1 : Int), (8 : Int)⟩ : text_bound), (⟨a0.Keys, (1 : Int), (64 : Int)⟩ : text_bound), (⟨a0.Depth, (2 : Int), (8 : Int)⟩ : text_bound), (⟨a0.TS, (1 : Int), (1048576 : Int)⟩ : text_bound), (⟨a0.KeyLen, (1 : Int), (64 : Int)⟩ : text_bound), (⟨a0.ValLen, (0 : Int), (256 : Int)⟩ : text_bound), (⟨a0.Fan, (3 : Int), (8 : Int)⟩ : text_bound)] : List text_bound) x22).n < (rd ([(⟨a0.Tasks, (1 : Int), (6 : Int)⟩ : text_bound), (⟨a0.Active, (1 : Int), (8 : Int)⟩ : text_bound), (⟨a0.Keys, (1 : Int), (64 : Int)⟩ : text_bound), (⟨a0.Depth, (2 : Int), (8 : Int)⟩ : text_bound), (⟨a0.TS, (1 : Int), (1048576 : Int)⟩ : text_bound), (⟨a0.KeyLen, (1 : Int), (64 : Int)⟩ : text_bound), (⟨a0.ValLen, (0 : Int), (256 : Int)⟩ : text_bound), (⟨a0.Fan, (3 : Int), (8 : Int)⟩ : text_bound)] : List text_bound) x22).low))) (x_move rfl) rfl ?_
          refine Wl_cutN 6 (fun ρ w' => Agree ρ [(29, .agg #[.int .i64 a0.Tasks, .int .i64 1, .int .i64 6, .int .i64 a0.Active, .int .i64 1, .int .i64 8, .int .i64 a0.Keys, .int .i64 1, .int .i64 64, .int .i64 a0.Depth, .int .i64 2, .int .i64 8, .int .i64 a0.TS, .int .i64 1, .int .i64 1048576, .int .i64 a0.KeyLen, .int .i64 1, .int .i64 64, .int .i64 a0.ValLen, .int .i64 0, .int .i64 256, .int .i64 a0.Fan, .int .i64 3, .int .i64 8]), (30, .int .i64 x22), (44, .bool ((decide ((rd ([(⟨a0.Tasks, (1 : Int), (6 : Int)⟩ : text_bound), (⟨a0.Active, (1 : Int), (8 : Int)⟩ : text_bound), (⟨a0.Keys, (1 : Int), (64 : Int)⟩ : text_bound), (⟨a0.Depth, (2 : Int), (8 : Int)⟩ : text_bound), (⟨a0.TS, (1 : Int), (1048576 : Int)⟩ : text_bound), (⟨a0.KeyLen, (1 : Int), (64 : Int)⟩ : text_bound), (⟨a0.ValLen, (0 : Int), (256 : Int)⟩ : text_bound), (⟨a0.Fan, (3 : Int), (8 : Int)⟩ : text_bound)] : List text_bound) x22).n < (rd ([(⟨a0.Tasks, (1 : Int), (6 : Int)⟩ : text_bound), (⟨a0.Active, (1 : Int), (8 : Int)⟩ : text_bound), (⟨a0.Keys, (1 : Int), (64 : Int)⟩ : text_bound), (⟨a0.Depth, (2 : Int), (8 : Int)⟩ : text_bound), (⟨a0.TS, (1 : Int), (1048576 : Int)⟩ : text_bound), (⟨a0.KeyLen, (1 : Int), (64 : Int)⟩ : text_bound), (⟨a0.ValLen, (0 : Int), (256 : Int)⟩ : text_bound), (⟨a0.Fan, (3 : Int), (8 : Int)⟩ : text_bound)] : List text_bound) x22).low)) || (decide ((rd ([(⟨a0.Tasks, (1 : Int), (6 : Int)⟩ : text_bound), (⟨a0.Active, (1 : Int), (8 : Int)⟩ : text_bound), (⟨a0.Keys, (1 : Int), (64 : Int)⟩ : text_bound), (⟨a0.Depth, (2 : Int), (8 : Int)⟩ : text_bound), (⟨a0.TS, (1 : Int), (1048576 : Int)⟩ : text_bound), (⟨a0.KeyLen, (1 : Int), (64 : Int)⟩ : text_bound), (⟨a0.ValLen, (0 : Int), (256 : Int)⟩ : text_bound), (⟨a0.Fan, (3 : Int), (8 : Int)⟩ : text_bound)] : List text_bound) x22).n > (rd ([(⟨a0.Tasks, (1 : Int), (6 : Int)⟩ : text_bound), (⟨a0.Active, (1 : Int), (8 : Int)⟩ : text_bound), (⟨a0.Keys, (1 : Int), (64 : Int)⟩ : text_bound), (⟨a0.Depth, (2 : Int), (8 : Int)⟩ : text_bound), (⟨a0.TS, (1 : Int), (1048576 : Int)⟩ : text_bound), (⟨a0.KeyLen, (1 : Int), (64 : Int)⟩ : text_bound), (⟨a0.ValLen, (0 : Int), (256 : Int)⟩ : text_bound), (⟨a0.Fan, (3 : Int), (8 : Int)⟩ : text_bound)] : List text_bound) x22).high))))] ∧ w40 = w') ?_ ?_
          · rcases boolCases (decide ((rd ([(⟨a0.Tasks, (1 : Int), (6 : Int)⟩ : text_bound), (⟨a0.Active, (1 : Int), (8 : Int)⟩ : text_bound), (⟨a0.Keys, (1 : Int), (64 : Int)⟩ : text_bound), (⟨a0.Depth, (2 : Int), (8 : Int)⟩ : text_bound), (⟨a0.TS, (1 : Int), (1048576 : Int)⟩ : text_bound), (⟨a0.KeyLen, (1 : Int), (64 : Int)⟩ : text_bound), (⟨a0.ValLen, (0 : Int), (256 : Int)⟩ : text_bound), (⟨a0.Fan, (3 : Int), (8 : Int)⟩ : text_bound)] : List text_bound) x22).n < (rd ([(⟨a0.Tasks, (1 : Int), (6 : Int)⟩ : text_bound), (⟨a0.Active, (1 : Int), (8 : Int)⟩ : text_bound), (⟨a0.Keys, (1 : Int), (64 : Int)⟩ : text_bound), (⟨a0.Depth, (2 : Int), (8 : Int)⟩ : text_bound), (⟨a0.TS, (1 : Int), (1048576 : Int)⟩ : text_bound), (⟨a0.KeyLen, (1 : Int), (64 : Int)⟩ : text_bound), (⟨a0.ValLen, (0 : Int), (256 : Int)⟩ : text_bound), (⟨a0.Fan, (3 : Int), (8 : Int)⟩ : text_bound)] : List text_bound) x22).low)) with hb41 | hb41
            · skip
              refine W_yes (congrArg some hb41) ?_
              refine W_v (.pointer (some ⟨b37, 0, none⟩)) (x_fieldAddr (o := 0) (off := 0) Try.underlying43 rfl ty3 rfl rfl) rfl ?_
              refine W_yes (congrArg some hb41) ?_
              refine W_v (.int .i64 ((rd ([(⟨a0.Tasks, (1 : Int), (6 : Int)⟩ : text_bound), (⟨a0.Active, (1 : Int), (8 : Int)⟩ : text_bound), (⟨a0.Keys, (1 : Int), (64 : Int)⟩ : text_bound), (⟨a0.Depth, (2 : Int), (8 : Int)⟩ : text_bound), (⟨a0.TS, (1 : Int), (1048576 : Int)⟩ : text_bound), (⟨a0.KeyLen, (1 : Int), (64 : Int)⟩ : text_bound), (⟨a0.ValLen, (0 : Int), (256 : Int)⟩ : text_bound), (⟨a0.Fan, (3 : Int), (8 : Int)⟩ : text_bound)] : List text_bound) x22).n)) (x_load (S.blk 0 rfl) ty3 rfl rfl) rfl ?_
              refine W_yes (congrArg some hb41) ?_
              refine W_v (.pointer (some ⟨b37, 2, none⟩)) (x_fieldAddr (o := 0) (off := 2) Try.underlying43 rfl ty3 rfl rfl) rfl ?_
              refine W_yes (congrArg some hb41) ?_
              refine W_v (.int .i64 ((rd ([(⟨a0.Tasks, (1 : Int), (6 : Int)⟩ : text_bound), (⟨a0.Active, (1 : Int), (8 : Int)⟩ : text_bound), (⟨a0.Keys, (1 : Int), (64 : Int)⟩ : text_bound), (⟨a0.Depth, (2 : Int), (8 : Int)⟩ : text_bound), (⟨a0.TS, (1 : Int), (1048576 : Int)⟩ : text_bound), (⟨a0.KeyLen, (1 : Int), (64 : Int)⟩ : text_bound), (⟨a0.ValLen, (0 : Int), (256 : Int)⟩ : text_bound), (⟨a0.Fan, (3 : Int), (8 : Int)⟩ : text_bound)] : List text_bound) x22).high)) (x_load (S.blk 0 rfl) ty3 rfl rfl) rfl ?_
              refine W_yes (congrArg some hb41) ?_
              refine W_v (.bool (decide ((rd ([(⟨a0.Tasks, (1 : Int), (6 : Int)⟩ : text_bound), (⟨a0.Active, (1 : Int), (8 : Int)⟩ : text_bound), (⟨a0.Keys, (1 : Int), (64 : Int)⟩ : text_bound), (⟨a0.Depth, (2 : Int), (8 : Int)⟩ : text_bound), (⟨a0.TS, (1 : Int), (1048576 : Int)⟩ : text_bound), (⟨a0.KeyLen, (1 : Int), (64 : Int)⟩ : text_bound), (⟨a0.ValLen, (0 : Int), (256 : Int)⟩ : text_bound), (⟨a0.Fan, (3 : Int), (8 : Int)⟩ : text_bound)] : List text_bound) x22).n > (rd ([(⟨a0.Tasks, (1 : Int), (6 : Int)⟩ : text_bound), (⟨a0.Active, (1 : Int), (8 : Int)⟩ : text_bound), (⟨a0.Keys, (1 : Int), (64 : Int)⟩ : text_bound), (⟨a0.Depth, (2 : Int), (8 : Int)⟩ : text_bound), (⟨a0.TS, (1 : Int), (1048576 : Int)⟩ : text_bound), (⟨a0.KeyLen, (1 : Int), (64 : Int)⟩ : text_bound), (⟨a0.ValLen, (0 : Int), (256 : Int)⟩ : text_bound), (⟨a0.Fan, (3 : Int), (8 : Int)⟩ : text_bound)] : List text_bound) x22).high))) (x_ibin rfl rfl rfl rfl) rfl ?_
              refine W_v (.bool (decide ((rd ([(⟨a0.Tasks, (1 : Int), (6 : Int)⟩ : text_bound), (⟨a0.Active, (1 : Int), (8 : Int)⟩ : text_bound), (⟨a0.Keys, (1 : Int), (64 : Int)⟩ : text_bound), (⟨a0.Depth, (2 : Int), (8 : Int)⟩ : text_bound), (⟨a0.TS, (1 : Int), (1048576 : Int)⟩ : text_bound), (⟨a0.KeyLen, (1 : Int), (64 : Int)⟩ : text_bound), (⟨a0.ValLen, (0 : Int), (256 : Int)⟩ : text_bound), (⟨a0.Fan, (3 : Int), (8 : Int)⟩ : text_bound)] : List text_bound) x22).n > (rd ([(⟨a0.Tasks, (1 : Int), (6 : Int)⟩ : text_bound), (⟨a0.Active, (1 : Int), (8 : Int)⟩ : text_bound), (⟨a0.Keys, (1 : Int), (64 : Int)⟩ : text_bound), (⟨a0.Depth, (2 : Int), (8 : Int)⟩ : text_bound), (⟨a0.TS, (1 : Int), (1048576 : Int)⟩ : text_bound), (⟨a0.KeyLen, (1 : Int), (64 : Int)⟩ : text_bound), (⟨a0.ValLen, (0 : Int), (256 : Int)⟩ : text_bound), (⟨a0.Fan, (3 : Int), (8 : Int)⟩ : text_bound)] : List text_bound) x22).high))) (x_pick (k := false) (congrArg Value.bool hb41) rfl) rfl ?_
              refine Wl_nil ?_
              exact ⟨⟨rfl, rfl, (by first | rfl | (rw [hb41]; rfl) | (simp only [hb41]; rfl)), trivial⟩, rfl⟩
            · skip
              refine W_no (skF hb41) rfl ?_
              refine W_no (skF hb41) rfl ?_
              refine W_no (skF hb41) rfl ?_
              refine W_no (skF hb41) rfl ?_
              refine W_no (skF hb41) rfl ?_
              refine W_v (.bool true) (x_pick (k := true) (congrArg Value.bool hb41) rfl) rfl ?_
              refine Wl_nil ?_
              exact ⟨⟨rfl, rfl, (by first | rfl | (rw [hb41]; rfl) | (simp only [hb41]; rfl)), trivial⟩, rfl⟩
          · rintro ρ _ ⟨hρ, rfl⟩
            rw [agree_eta hρ]
            clear hρ
            skip
            refine Wl_nil ?_
            refine tn ?_
            rcases iteS H with ⟨hb42, H⟩ | ⟨hb42, H⟩
            · refine Wp_cond_true (congrArg Value.bool hb42) ?_
              refine Wp_seq ?_
              refine Wp_region_lit ?_
              refine W_v (.bool false) (x_assign rfl) rfl ?_
              refine Wl_nil ?_
              refine tn ?_
              refine Wp_ret ?_
              refine br (tr (tr (br (tr (tr (?_))))))
              obtain rfl := Option.some.inj H
              have H := o32H
              replace H := elimL H
              obtain rfl := Option.some.inj H
              exact ⟨_, _, _, fun w1 e1 => run_resR (vs := [.bool false]) (FA.cons (rfl) (FA.nil)), HM, E, S.pick [] (by decide), ⟨rfl, rfl⟩⟩
            · refine Wp_cond_false (congrArg Value.bool hb42) ?_
              refine Wp_skip ?_
              refine bn ?_
              refine tn ?_
              refine Wp_region_lit ?_
              refine W_v (.int .i64 (IntKind.i64.wrap (x22 + (1 : Int)))) (x_ibin rfl rfl rfl rfl) rfl ?_
              refine W_v (.int .i64 (IntKind.i64.wrap (x22 + (1 : Int)))) (x_move rfl) rfl ?_
              refine Wl_nil ?_
              refine tn ?_
              exact ⟨k, Nat.lt_succ_self k, ⟨(IntKind.i64.wrap (x22 + (1 : Int))), H, ⟨rfl, rfl, trivial⟩, E, S.pick [] (by decide)⟩⟩
        · refine Wp_cond_false (congrArg Value.bool hb34) ?_
          refine Wp_exit ?_
          refine tx (tx (bsm (?_)))
          refine tn ?_
          exact ⟨Option.some.inj H, trivial, E, S.pick [] (by decide)⟩
  · clear o32h
    rintro ρ w43 ⟨rfl, hρ, E, S⟩
    rw [agree_eta hρ]
    clear hρ
    have H := o32H
    clear o32H
    replace H := elimR H
    refine tn ?_
    refine Wp_seq ?_
    refine Wp_region_lit ?_
    refine W_v (.bool true) (x_assign rfl) rfl ?_
    refine Wl_nil ?_
    refine tn ?_
    refine Wp_ret ?_
    obtain rfl := Option.some.inj H
    exact ⟨_, _, _, fun w1 e1 => run_resR (vs := [.bool true]) (FA.cons (rfl) (FA.nil)), HM, E, S.pick [] (by decide), ⟨rfl, rfl⟩⟩
/-! ### ferryman/text.length$1: function 37 -/
def text_length_1 (k : Nat) (a0 : Str) (a1 : api_Config) (a2 : Int) (a3 : Int) : Option (Bool) :=
  (Option.bind (text_May k a1) (fun t1 => some ((t1 && (decide ((a0.length : Int) ≥ a2))) && (decide ((a0.length : Int) ≤ a3)))))
set_option maxHeartbeats 2000000 in
theorem text_length_1.mono {k : Nat} {a0 : Str} {a1 : api_Config} {a2 : Int} {a3 : Int} : OLe (text_length_1 k a0 a1 a2 a3) (text_length_1 (k + 1) a0 a1 a2 a3) := by
  unfold text_length_1
  repeat' (first | with_reducible exact OLe.none | with_reducible exact OLe.some | with_reducible refine OLe.ite ?_ ?_ | with_reducible refine OLe.bind ?_ (fun _ => ?_) | with_reducible exact text_May.mono | refine OLe.bind ?_ (fun _ => ?_) | refine OLe.ite ?_ ?_ | refine OLe.elim (fun _ => ?_) (fun _ => ?_) | split)
set_option maxHeartbeats 1000000 in
set_option maxRecDepth 100000 in
theorem text_length_1.con (k : Nat) (M : Hp) (a0 : Str) (a1 : api_Config) (a2 : Int) (a3 : Int) (b0 : Nat) (b1 : Nat) (b2 : Nat) (r : Bool)  (h : text_length_1 k a0 a1 a2 a3 = some r) : Con Try.prog 37 #[.string (bs a0), .pointer (some ⟨b0, 0, none⟩), .pointer (some ⟨b1, 0, none⟩), .pointer (some ⟨b2, 0, none⟩)] M [Blk b0 (.cells #[.int .i64 a1.Tasks, .int .i64 a1.Active, .int .i64 a1.Keys, .int .i64 a1.Depth, .int .i64 a1.TS, .int .i64 a1.KeyLen, .int .i64 a1.ValLen, .int .i64 a1.Fan] 37 (0, 0)), Blk b1 (.cells #[.int .i64 a2] 3 (0, 0)), Blk b2 (.cells #[.int .i64 a3] 3 (0, 0))] (fun v M' Γ' => v = .bool r ∧ Γ' = [Blk b0 (.cells #[.int .i64 a1.Tasks, .int .i64 a1.Active, .int .i64 a1.Keys, .int .i64 a1.Depth, .int .i64 a1.TS, .int .i64 a1.KeyLen, .int .i64 a1.ValLen, .int .i64 a1.Fan] 37 (0, 0)), Blk b1 (.cells #[.int .i64 a2] 3 (0, 0)), Blk b2 (.cells #[.int .i64 a3] 3 (0, 0))]) := by
  refine con_of_wp Try.func37 rfl Try.ntmps37 Try.results37 rfl ?_
  intro w F rn S hrn
  have E := Ext.refl w
  have HM := Hp.le_refl M
  have H := h
  unfold text_length_1 at H
  refine Wp_seq ?_
  refine Wp_region_lit ?_
  refine W_v (.bool false) (x_assign rfl) rfl ?_
  refine Wl_nil ?_
  refine tn ?_
  refine Wp_seq ?_
  refine Wp_region_lit ?_
  refine W_v (.agg #[.int .i64 a1.Tasks, .int .i64 a1.Active, .int .i64 a1.Keys, .int .i64 a1.Depth, .int .i64 a1.TS, .int .i64 a1.KeyLen, .int .i64 a1.ValLen, .int .i64 a1.Fan]) (x_loadA (S.blk 0 rfl) ty37 rfl (sub_of_extract rfl) rfl rfl) rfl ?_
  obtain ⟨t1, ht2, H⟩ := bindS H
  refine W_callF fn24 (text_May.con k M a1 t1  ht2) S rfl rfl (by rintro _ _ _ ⟨_, rfl⟩; exact flat_nil) ?_
  rintro _ w3 _ Γ' E' S ⟨rfl, rfl⟩
  replace E := E.trans E'
  clear E'
  refine W_v (.bool t1) (x_move rfl) rfl ?_
  refine Wl_cutN 5 (fun ρ w' => Agree ρ [(0, .string (bs a0)), (3, .pointer (some ⟨b2, 0, none⟩)), (13, .bool (t1 && (decide ((a0.length : Int) ≥ a2))))] ∧ w3 = w') ?_ ?_
  · rcases boolCases t1 with hb4 | hb4
    · skip
      refine W_no (skT hb4) rfl ?_
      refine W_no (skT hb4) rfl ?_
      refine W_no (skT hb4) rfl ?_
      refine W_no (skT hb4) rfl ?_
      refine W_v (.bool false) (x_pick (k := false) (congrArg Value.bool hb4) rfl) rfl ?_
      refine Wl_nil ?_
      exact ⟨⟨rfl, rfl, (by first | rfl | (rw [hb4]; rfl) | (simp only [hb4]; rfl)), trivial⟩, rfl⟩
    · skip
      refine W_yes (congrArg some hb4) ?_
      refine W_v (.string (bs a0)) (x_move rfl) rfl ?_
      refine W_yes (congrArg some hb4) ?_
      refine W_v (.int .i64 (a0.length : Int)) (x_len_str Try.underlying9 rfl) rfl ?_
      refine W_yes (congrArg some hb4) ?_
      refine W_v (.int .i64 a2) (x_load (S.blk 1 rfl) ty3 rfl rfl) rfl ?_
      refine W_yes (congrArg some hb4) ?_
      refine W_v (.bool (decide ((a0.length : Int) ≥ a2))) (x_ibin rfl rfl rfl rfl) rfl ?_
      refine W_v (.bool (decide ((a0.length : Int) ≥ a2))) (x_pick (k := true) (congrArg Value.bool hb4) rfl) rfl ?_
      refine Wl_nil ?_
      exact ⟨⟨rfl, rfl, (by first | rfl | (rw [hb4]; rfl) | (simp only [hb4]; rfl)), trivial⟩, rfl⟩
  · rintro ρ _ ⟨hρ, rfl⟩
    rw [agree_eta hρ]
    clear hρ
    skip
    refine W_v (.bool (t1 && (decide ((a0.length : Int) ≥ a2)))) (x_move rfl) rfl ?_
    refine Wl_cutN 5 (fun ρ w' => Agree ρ [(19, .bool ((t1 && (decide ((a0.length : Int) ≥ a2))) && (decide ((a0.length : Int) ≤ a3))))] ∧ w3 = w') ?_ ?_
    · rcases boolCases (t1 && (decide ((a0.length : Int) ≥ a2))) with hb5 | hb5
      · skip
        refine W_no (skT hb5) rfl ?_
        refine W_no (skT hb5) rfl ?_
        refine W_no (skT hb5) rfl ?_
        refine W_no (skT hb5) rfl ?_
        refine W_v (.bool false) (x_pick (k := false) (congrArg Value.bool hb5) rfl) rfl ?_
        refine Wl_nil ?_
        exact ⟨⟨(by first | rfl | (rw [hb5]; rfl) | (simp only [hb5]; rfl)), trivial⟩, rfl⟩
      · skip
        refine W_yes (congrArg some hb5) ?_
        refine W_v (.string (bs a0)) (x_move rfl) rfl ?_
        refine W_yes (congrArg some hb5) ?_
        refine W_v (.int .i64 (a0.length : Int)) (x_len_str Try.underlying9 rfl) rfl ?_
        refine W_yes (congrArg some hb5) ?_
        refine W_v (.int .i64 a3) (x_load (S.blk 2 rfl) ty3 rfl rfl) rfl ?_
        refine W_yes (congrArg some hb5) ?_
        refine W_v (.bool (decide ((a0.length : Int) ≤ a3))) (x_ibin rfl rfl rfl rfl) rfl ?_
        refine W_v (.bool (decide ((a0.length : Int) ≤ a3))) (x_pick (k := true) (congrArg Value.bool hb5) rfl) rfl ?_
        refine Wl_nil ?_
        exact ⟨⟨(by first | rfl | (rw [hb5]; rfl) | (simp only [hb5]; rfl)), trivial⟩, rfl⟩
    · rintro ρ _ ⟨hρ, rfl⟩
      rw [agree_eta hρ]
      clear hρ
      skip
      refine W_v (.bool ((t1 && (decide ((a0.length : Int) ≥ a2))) && (decide ((a0.length : Int) ≤ a3)))) (x_assign rfl) rfl ?_
      refine Wl_nil ?_
      refine tn ?_
      refine Wp_ret ?_
      obtain rfl := Option.some.inj H
      exact ⟨_, _, _, fun w1 e1 => run_resR (vs := [.bool ((t1 && (decide ((a0.length : Int) ≥ a2))) && (decide ((a0.length : Int) ≤ a3)))]) (FA.cons (rfl) (FA.nil)), HM, E, S.pick [0, 1, 2] (by decide), ⟨rfl, rfl⟩⟩
/-! ### ferryman/text.length: function 34 -/
def text_length (k : Nat) (a0 : api_Config) (a1 : Int) (a2 : Int) : Option (Unit) :=
  some ()
set_option maxHeartbeats 2000000 in
theorem text_length.mono {k : Nat} {a0 : api_Config} {a1 : Int} {a2 : Int} : OLe (text_length k a0 a1 a2) (text_length (k + 1) a0 a1 a2) := by
  unfold text_length
  repeat' (first | with_reducible exact OLe.none | with_reducible exact OLe.some | with_reducible refine OLe.ite ?_ ?_ | with_reducible refine OLe.bind ?_ (fun _ => ?_) | refine OLe.bind ?_ (fun _ => ?_) | refine OLe.ite ?_ ?_ | refine OLe.elim (fun _ => ?_) (fun _ => ?_) | split)
set_option maxHeartbeats 1000000 in
set_option maxRecDepth 100000 in
theorem text_length.con (k : Nat) (M : Hp) (a0 : api_Config) (a1 : Int) (a2 : Int) (r : Unit)  (h : text_length k a0 a1 a2 = some r) : Con Try.prog 34 #[.agg #[.int .i64 a0.Tasks, .int .i64 a0.Active, .int .i64 a0.Keys, .int .i64 a0.Depth, .int .i64 a0.TS, .int .i64 a0.KeyLen, .int .i64 a0.ValLen, .int .i64 a0.Fan], .int .i64 a1, .int .i64 a2] M [] (fun v M' Γ' => ∃ (b1 : Nat) (b4 : Nat) (b7 : Nat), v = .func (.func 37) #[] #[.pointer (some ⟨b1, 0, none⟩), .pointer (some ⟨b4, 0, none⟩), .pointer (some ⟨b7, 0, none⟩)] ∧ Γ' = [Blk b1 (.cells #[.int .i64 a0.Tasks, .int .i64 a0.Active, .int .i64 a0.Keys, .int .i64 a0.Depth, .int .i64 a0.TS, .int .i64 a0.KeyLen, .int .i64 a0.ValLen, .int .i64 a0.Fan] 37 (0, 0)), Blk b4 (.cells #[.int .i64 a1] 3 (0, 0)), Blk b7 (.cells #[.int .i64 a2] 3 (0, 0))]) := by
  refine con_of_wp Try.func34 rfl Try.ntmps34 Try.results34 rfl ?_
  intro w F rn S hrn
  have E := Ext.refl w
  have HM := Hp.le_refl M
  have H := h
  unfold text_length at H
  refine Wp_seq ?_
  refine Wp_region_lit ?_
  refine W_box S #[.int .i64 a0.Tasks, .int .i64 a0.Active, .int .i64 a0.Keys, .int .i64 a0.Depth, .int .i64 a0.TS, .int .i64 a0.KeyLen, .int .i64 a0.ValLen, .int .i64 a0.Fan] rfl rfl rfl ?_
  intro b1 w2 E' S
  replace E := E.trans E'
  clear E'
  refine W_box S #[.int .i64 a1] rfl rfl rfl ?_
  intro b4 w5 E' S
  replace E := E.trans E'
  clear E'
  refine W_box S #[.int .i64 a2] rfl rfl rfl ?_
  intro b7 w8 E' S
  replace E := E.trans E'
  clear E'
  refine W_v (.nilFunc) (x_assign rfl) rfl ?_
  refine Wl_nil ?_
  refine tn ?_
  refine Wp_seq ?_
  refine Wp_region_lit ?_
  refine W_v (.func (.func 37) #[] #[.pointer (some ⟨b1, 0, none⟩), .pointer (some ⟨b4, 0, none⟩), .pointer (some ⟨b7, 0, none⟩)]) (x_makeFunc rfl) rfl ?_
  refine W_v (.func (.func 37) #[] #[.pointer (some ⟨b1, 0, none⟩), .pointer (some ⟨b4, 0, none⟩), .pointer (some ⟨b7, 0, none⟩)]) (x_assign rfl) rfl ?_
  refine Wl_nil ?_
  refine tn ?_
  refine Wp_ret ?_
  obtain rfl := Option.some.inj H
  exact ⟨_, _, _, fun w1 e1 => run_resR (vs := [.func (.func 37) #[] #[.pointer (some ⟨b1, 0, none⟩), .pointer (some ⟨b4, 0, none⟩), .pointer (some ⟨b7, 0, none⟩)]]) (FA.cons rfl FA.nil), HM, E, S.pick [2, 1, 0] (by decide), ⟨b1, b4, b7, rfl, rfl⟩⟩
/-! ### ferryman/text.Key: function 25 -/
def text_Key (k : Nat) (a0 : api_Config) (a1 : Str) : Option (Bool) :=
  (Option.bind (text_length k a0 (1 : Int) a0.KeyLen) (fun t4 => (Option.bind (text_length_1 k a1 a0 (1 : Int) a0.KeyLen) (fun t13 => some t13))))
set_option maxHeartbeats 2000000 in
theorem text_Key.mono {k : Nat} {a0 : api_Config} {a1 : Str} : OLe (text_Key k a0 a1) (text_Key (k + 1) a0 a1) := by
  unfold text_Key
  repeat' (first | with_reducible exact OLe.none | with_reducible exact OLe.some | with_reducible refine OLe.ite ?_ ?_ | with_reducible refine OLe.bind ?_ (fun _ => ?_) | with_reducible exact text_length.mono | with_reducible exact text_length_1.mono | refine OLe.bind ?_ (fun _ => ?_) | refine OLe.ite ?_ ?_ | refine OLe.elim (fun _ => ?_) (fun _ => ?_) | split)
set_option maxHeartbeats 1000000 in
set_option maxRecDepth 100000 in
theorem text_Key.con (k : Nat) (M : Hp) (a0 : api_Config) (a1 : Str) (r : Bool)  (h : text_Key k a0 a1 = some r) : Con Try.prog 25 #[.agg #[.int .i64 a0.Tasks, .int .i64 a0.Active, .int .i64 a0.Keys, .int .i64 a0.Depth, .int .i64 a0.TS, .int .i64 a0.KeyLen, .int .i64 a0.ValLen, .int .i64 a0.Fan], .string (bs a1)] M [] (fun v M' Γ' => v = .bool r ∧ Γ' = []) := by
  refine con_of_wp Try.func25 rfl Try.ntmps25 Try.results25 rfl ?_
  intro w F rn S hrn
  have E := Ext.refl w
  have HM := Hp.le_refl M
  have H := h
  unfold text_Key at H
  refine Wp_seq ?_
  refine Wp_region_lit ?_
  refine W_box S #[.int .i64 a0.Tasks, .int .i64 a0.Active, .int .i64 a0.Keys, .int .i64 a0.Depth, .int .i64 a0.TS, .int .i64 a0.KeyLen, .int .i64 a0.ValLen, .int .i64 a0.Fan] rfl rfl rfl ?_
  intro b1 w2 E' S
  replace E := E.trans E'
  clear E'
  refine W_v (.bool false) (x_assign rfl) rfl ?_
  refine Wl_nil ?_
  refine tn ?_
  refine Wp_seq ?_
  refine Wp_region_lit ?_
  refine W_v (.agg #[.int .i64 a0.Tasks, .int .i64 a0.Active, .int .i64 a0.Keys, .int .i64 a0.Depth, .int .i64 a0.TS, .int .i64 a0.KeyLen, .int .i64 a0.ValLen, .int .i64 a0.Fan]) (x_loadA (S.blk 0 rfl) ty37 rfl (sub_of_extract rfl) rfl rfl) rfl ?_
  refine W_v (.pointer (some ⟨b1, 5, none⟩)) (x_fieldAddr (o := 0) (off := 5) Try.underlying37 rfl ty3 rfl rfl) rfl ?_
  refine W_v (.int .i64 a0.KeyLen) (x_load (S.blk 0 rfl) ty3 rfl rfl) rfl ?_
  obtain ⟨t4, ht5, H⟩ := bindS H
  refine W_callF fn34 (text_length.con k M a0 (1 : Int) a0.KeyLen t4  ht5) S rfl rfl (by rintro _ _ _ ⟨_, _, _, rfl, rfl⟩; exact (flat_cons flat_blk (flat_cons flat_blk (flat_cons flat_blk flat_nil)))) ?_
  rintro _ w12 _ Γ' E' S ⟨b6, b8, b10, rfl, rfl⟩
  replace E := E.trans E'
  clear E'
  replace S : St w12 M F [Blk b6 (.cells #[.int .i64 a0.Tasks, .int .i64 a0.Active, .int .i64 a0.Keys, .int .i64 a0.Depth, .int .i64 a0.TS, .int .i64 a0.KeyLen, .int .i64 a0.ValLen, .int .i64 a0.Fan] 37 (0, 0)), Blk b8 (.cells #[.int .i64 (1 : Int)] 3 (0, 0)), Blk b10 (.cells #[.int .i64 a0.KeyLen] 3 (0, 0)), Blk b1 (.cells #[.int .i64 a0.Tasks, .int .i64 a0.Active, .int .i64 a0.Keys, .int .i64 a0.Depth, .int .i64 a0.TS, .int .i64 a0.KeyLen, .int .i64 a0.ValLen, .int .i64 a0.Fan] 37 (0, 0))] := S
  refine W_v (.string (bs a1)) (x_move rfl) rfl ?_
  obtain ⟨t13, ht14, H⟩ := bindS H
  replace S : St w12 M F [Blk b6 (.cells #[.int .i64 a0.Tasks, .int .i64 a0.Active, .int .i64 a0.Keys, .int .i64 a0.Depth, .int .i64 a0.TS, .int .i64 a0.KeyLen, .int .i64 a0.ValLen, .int .i64 a0.Fan] 37 (0, 0)), Blk b8 (.cells #[.int .i64 (1 : Int)] 3 (0, 0)), Blk b10 (.cells #[.int .i64 a0.KeyLen] 3 (0, 0)), Blk b1 (.cells #[.int .i64 a0.Tasks, .int .i64 a0.Active, .int .i64 a0.Keys, .int .i64 a0.Depth, .int .i64 a0.TS, .int .i64 a0.KeyLen, .int .i64 a0.ValLen, .int .i64 a0.Fan] 37 (0, 0))] := S.pick [0, 1, 2, 3] (by decide)
  refine W_callv (fs := []) (cap := [.pointer (some ⟨b6, 0, none⟩), .pointer (some ⟨b8, 0, none⟩), .pointer (some ⟨b10, 0, none⟩)]) fn37 rfl (text_length_1.con k M a1 a0 (1 : Int) a0.KeyLen b6 b8 b10 t13  ht14) (Γ1 := [Blk b6 (.cells #[.int .i64 a0.Tasks, .int .i64 a0.Active, .int .i64 a0.Keys, .int .i64 a0.Depth, .int .i64 a0.TS, .int .i64 a0.KeyLen, .int .i64 a0.ValLen, .int .i64 a0.Fan] 37 (0, 0)), Blk b8 (.cells #[.int .i64 (1 : Int)] 3 (0, 0)), Blk b10 (.cells #[.int .i64 a0.KeyLen] 3 (0, 0))]) (Γ2 := [Blk b1 (.cells #[.int .i64 a0.Tasks, .int .i64 a0.Active, .int .i64 a0.Keys, .int .i64 a0.Depth, .int .i64 a0.TS, .int .i64 a0.KeyLen, .int .i64 a0.ValLen, .int .i64 a0.Fan] 37 (0, 0))]) S rfl rfl ?_
  rintro _ w15 M16 Γ' hM17 E' S ⟨rfl, rfl⟩
  replace HM := Hp.le_trans HM hM17
  replace E := E.trans E'
  clear E'
  replace S : St w15 M16 F [Blk b6 (.cells #[.int .i64 a0.Tasks, .int .i64 a0.Active, .int .i64 a0.Keys, .int .i64 a0.Depth, .int .i64 a0.TS, .int .i64 a0.KeyLen, .int .i64 a0.ValLen, .int .i64 a0.Fan] 37 (0, 0)), Blk b8 (.cells #[.int .i64 (1 : Int)] 3 (0, 0)), Blk b10 (.cells #[.int .i64 a0.KeyLen] 3 (0, 0)), Blk b1 (.cells #[.int .i64 a0.Tasks, .int .i64 a0.Active, .int .i64 a0.Keys, .int .i64 a0.Depth, .int .i64 a0.TS, .int .i64 a0.KeyLen, .int .i64 a0.ValLen, .int .i64 a0.Fan] 37 (0, 0))] := S
  refine W_v (.bool t13) (x_assign rfl) rfl ?_
  refine Wl_nil ?_
  refine tn ?_
  refine Wp_ret ?_
  obtain rfl := Option.some.inj H
  exact ⟨_, _, _, fun w1 e1 => run_resR (vs := [.bool t13]) (FA.cons (rfl) (FA.nil)), HM, E, S.pick [] (by decide), ⟨rfl, rfl⟩⟩
/-! ### ferryman/text.Bound: function 26 -/
def text_Bound (k : Nat) (a0 : api_Config) (a1 : Str) : Option (Bool) :=
  (Option.bind (text_length k a0 (0 : Int) a0.KeyLen) (fun t4 => (Option.bind (text_length_1 k a1 a0 (0 : Int) a0.KeyLen) (fun t13 => some t13))))
set_option maxHeartbeats 2000000 in
theorem text_Bound.mono {k : Nat} {a0 : api_Config} {a1 : Str} : OLe (text_Bound k a0 a1) (text_Bound (k + 1) a0 a1) := by
  unfold text_Bound
  repeat' (first | with_reducible exact OLe.none | with_reducible exact OLe.some | with_reducible refine OLe.ite ?_ ?_ | with_reducible refine OLe.bind ?_ (fun _ => ?_) | with_reducible exact text_length.mono | with_reducible exact text_length_1.mono | refine OLe.bind ?_ (fun _ => ?_) | refine OLe.ite ?_ ?_ | refine OLe.elim (fun _ => ?_) (fun _ => ?_) | split)
set_option maxHeartbeats 1000000 in
set_option maxRecDepth 100000 in
theorem text_Bound.con (k : Nat) (M : Hp) (a0 : api_Config) (a1 : Str) (r : Bool)  (h : text_Bound k a0 a1 = some r) : Con Try.prog 26 #[.agg #[.int .i64 a0.Tasks, .int .i64 a0.Active, .int .i64 a0.Keys, .int .i64 a0.Depth, .int .i64 a0.TS, .int .i64 a0.KeyLen, .int .i64 a0.ValLen, .int .i64 a0.Fan], .string (bs a1)] M [] (fun v M' Γ' => v = .bool r ∧ Γ' = []) := by
  refine con_of_wp Try.func26 rfl Try.ntmps26 Try.results26 rfl ?_
  intro w F rn S hrn
  have E := Ext.refl w
  have HM := Hp.le_refl M
  have H := h
  unfold text_Bound at H
  refine Wp_seq ?_
  refine Wp_region_lit ?_
  refine W_box S #[.int .i64 a0.Tasks, .int .i64 a0.Active, .int .i64 a0.Keys, .int .i64 a0.Depth, .int .i64 a0.TS, .int .i64 a0.KeyLen, .int .i64 a0.ValLen, .int .i64 a0.Fan] rfl rfl rfl ?_
  intro b1 w2 E' S
  replace E := E.trans E'
  clear E'
  refine W_v (.bool false) (x_assign rfl) rfl ?_
  refine Wl_nil ?_
  refine tn ?_
  refine Wp_seq ?_
  refine Wp_region_lit ?_
  refine W_v (.agg #[.int .i64 a0.Tasks, .int .i64 a0.Active, .int .i64 a0.Keys, .int .i64 a0.Depth, .int .i64 a0.TS, .int .i64 a0.KeyLen, .int .i64 a0.ValLen, .int .i64 a0.Fan]) (x_loadA (S.blk 0 rfl) ty37 rfl (sub_of_extract rfl) rfl rfl) rfl ?_
  refine W_v (.pointer (some ⟨b1, 5, none⟩)) (x_fieldAddr (o := 0) (off := 5) Try.underlying37 rfl ty3 rfl rfl) rfl ?_
  refine W_v (.int .i64 a0.KeyLen) (x_load (S.blk 0 rfl) ty3 rfl rfl) rfl ?_
  obtain ⟨t4, ht5, H⟩ := bindS H
  refine W_callF fn34 (text_length.con k M a0 (0 : Int) a0.KeyLen t4  ht5) S rfl rfl (by rintro _ _ _ ⟨_, _, _, rfl, rfl⟩; exact (flat_cons flat_blk (flat_cons flat_blk (flat_cons flat_blk flat_nil)))) ?_
  rintro _ w12 _ Γ' E' S ⟨b6, b8, b10, rfl, rfl⟩
  replace E := E.trans E'
  clear E'
  replace S : St w12 M F [Blk b6 (.cells #[.int .i64 a0.Tasks, .int .i64 a0.Active, .int .i64 a0.Keys, .int .i64 a0.Depth, .int .i64 a0.TS, .int .i64 a0.KeyLen, .int .i64 a0.ValLen, .int .i64 a0.Fan] 37 (0, 0)), Blk b8 (.cells #[.int .i64 (0 : Int)] 3 (0, 0)), Blk b10 (.cells #[.int .i64 a0.KeyLen] 3 (0, 0)), Blk b1 (.cells #[.int .i64 a0.Tasks, .int .i64 a0.Active, .int .i64 a0.Keys, .int .i64 a0.Depth, .int .i64 a0.TS, .int .i64 a0.KeyLen, .int .i64 a0.ValLen, .int .i64 a0.Fan] 37 (0, 0))] := S
  refine W_v (.string (bs a1)) (x_move rfl) rfl ?_
  obtain ⟨t13, ht14, H⟩ := bindS H
  replace S : St w12 M F [Blk b6 (.cells #[.int .i64 a0.Tasks, .int .i64 a0.Active, .int .i64 a0.Keys, .int .i64 a0.Depth, .int .i64 a0.TS, .int .i64 a0.KeyLen, .int .i64 a0.ValLen, .int .i64 a0.Fan] 37 (0, 0)), Blk b8 (.cells #[.int .i64 (0 : Int)] 3 (0, 0)), Blk b10 (.cells #[.int .i64 a0.KeyLen] 3 (0, 0)), Blk b1 (.cells #[.int .i64 a0.Tasks, .int .i64 a0.Active, .int .i64 a0.Keys, .int .i64 a0.Depth, .int .i64 a0.TS, .int .i64 a0.KeyLen, .int .i64 a0.ValLen, .int .i64 a0.Fan] 37 (0, 0))] := S.pick [0, 1, 2, 3] (by decide)
  refine W_callv (fs := []) (cap := [.pointer (some ⟨b6, 0, none⟩), .pointer (some ⟨b8, 0, none⟩), .pointer (some ⟨b10, 0, none⟩)]) fn37 rfl (text_length_1.con k M a1 a0 (0 : Int) a0.KeyLen b6 b8 b10 t13  ht14) (Γ1 := [Blk b6 (.cells #[.int .i64 a0.Tasks, .int .i64 a0.Active, .int .i64 a0.Keys, .int .i64 a0.Depth, .int .i64 a0.TS, .int .i64 a0.KeyLen, .int .i64 a0.ValLen, .int .i64 a0.Fan] 37 (0, 0)), Blk b8 (.cells #[.int .i64 (0 : Int)] 3 (0, 0)), Blk b10 (.cells #[.int .i64 a0.KeyLen] 3 (0, 0))]) (Γ2 := [Blk b1 (.cells #[.int .i64 a0.Tasks, .int .i64 a0.Active, .int .i64 a0.Keys, .int .i64 a0.Depth, .int .i64 a0.TS, .int .i64 a0.KeyLen, .int .i64 a0.ValLen, .int .i64 a0.Fan] 37 (0, 0))]) S rfl rfl ?_
  rintro _ w15 M16 Γ' hM17 E' S ⟨rfl, rfl⟩
  replace HM := Hp.le_trans HM hM17
  replace E := E.trans E'
  clear E'
  replace S : St w15 M16 F [Blk b6 (.cells #[.int .i64 a0.Tasks, .int .i64 a0.Active, .int .i64 a0.Keys, .int .i64 a0.Depth, .int .i64 a0.TS, .int .i64 a0.KeyLen, .int .i64 a0.ValLen, .int .i64 a0.Fan] 37 (0, 0)), Blk b8 (.cells #[.int .i64 (0 : Int)] 3 (0, 0)), Blk b10 (.cells #[.int .i64 a0.KeyLen] 3 (0, 0)), Blk b1 (.cells #[.int .i64 a0.Tasks, .int .i64 a0.Active, .int .i64 a0.Keys, .int .i64 a0.Depth, .int .i64 a0.TS, .int .i64 a0.KeyLen, .int .i64 a0.ValLen, .int .i64 a0.Fan] 37 (0, 0))] := S
  refine W_v (.bool t13) (x_assign rfl) rfl ?_
  refine Wl_nil ?_
  refine tn ?_
  refine Wp_ret ?_
  obtain rfl := Option.some.inj H
  exact ⟨_, _, _, fun w1 e1 => run_resR (vs := [.bool t13]) (FA.cons (rfl) (FA.nil)), HM, E, S.pick [] (by decide), ⟨rfl, rfl⟩⟩
/-! ### ferryman/ferrymanlaw02.some: function 32 -/
def ferrymanlaw02_some (k : Nat)  : Option (api_Config) :=
  some (⟨(2 : Int), (2 : Int), (3 : Int), (3 : Int), (9 : Int), (2 : Int), (1 : Int), (3 : Int)⟩ : api_Config)
set_option maxHeartbeats 2000000 in
theorem ferrymanlaw02_some.mono {k : Nat}  : OLe (ferrymanlaw02_some k ) (ferrymanlaw02_some (k + 1) ) := by
  unfold ferrymanlaw02_some
  repeat' (first | with_reducible exact OLe.none | with_reducible exact OLe.some | with_reducible refine OLe.ite ?_ ?_ | with_reducible refine OLe.bind ?_ (fun _ => ?_) | refine OLe.bind ?_ (fun _ => ?_) | refine OLe.ite ?_ ?_ | refine OLe.elim (fun _ => ?_) (fun _ => ?_) | split)
set_option maxHeartbeats 1000000 in
set_option maxRecDepth 100000 in
theorem ferrymanlaw02_some.con (k : Nat) (M : Hp)  (r : api_Config)  (h : ferrymanlaw02_some k  = some r) : Con Try.prog 32 #[] M [] (fun v M' Γ' => v = .agg #[.int .i64 r.Tasks, .int .i64 r.Active, .int .i64 r.Keys, .int .i64 r.Depth, .int .i64 r.TS, .int .i64 r.KeyLen, .int .i64 r.ValLen, .int .i64 r.Fan] ∧ Γ' = []) := by
  refine con_of_wp Try.func32 rfl Try.ntmps32 Try.results32 rfl ?_
  intro w F rn S hrn
  have E := Ext.refl w
  have HM := Hp.le_refl M
  have H := h
  unfold ferrymanlaw02_some at H
  refine Wp_seq ?_
  refine Wp_region_lit ?_
  refine W_alloc S #[.int .i64 0, .int .i64 0, .int .i64 0, .int .i64 0, .int .i64 0, .int .i64 0, .int .i64 0, .int .i64 0] ty37 rfl rfl ?_
  intro b1 w2 E' S
  replace E := E.trans E'
  clear E'
  refine Wl_nil ?_
  refine tn ?_
  refine Wp_seq ?_
  refine Wp_region_lit ?_
  refine W_v (.agg #[.int .i64 2, .int .i64 2, .int .i64 3, .int .i64 3, .int .i64 9, .int .i64 2, .int .i64 1, .int .i64 3]) (x_build2 (pl := [(0, 1), (1, 1), (2, 1), (3, 1), (4, 1), (5, 1), (6, 1), (7, 1)]) #[.int .i64 2, .int .i64 2, .int .i64 3, .int .i64 3, .int .i64 9, .int .i64 2, .int .i64 1, .int .i64 3] Try.underlying37 ty37 (by kernel_rfl) rfl (by kernel_rfl)) rfl ?_
  refine W_store S 0 rfl ty37 rfl rfl [.int .i64 2, .int .i64 2, .int .i64 3, .int .i64 3, .int .i64 9, .int .i64 2, .int .i64 1, .int .i64 3] rfl rfl rfl #[.int .i64 2, .int .i64 2, .int .i64 3, .int .i64 3, .int .i64 9, .int .i64 2, .int .i64 1, .int .i64 3] rfl rfl ?_
  intro w4 E' S
  replace E := E.trans E'
  clear E'
  refine Wl_nil ?_
  refine tn ?_
  refine Wp_ret ?_
  obtain rfl := Option.some.inj H
  exact ⟨_, _, _, fun w1 e1 => run_resR (vs := [.agg #[.int .i64 2, .int .i64 2, .int .i64 3, .int .i64 3, .int .i64 9, .int .i64 2, .int .i64 1, .int .i64 3]]) (FA.cons (⟨_, rfl, run_loadVar_agg ty37 ((S.of_eq e1).blk 0 rfl) (sub_of_extract rfl) rfl (by decide)⟩) (FA.nil)), HM, E, S.pick [] (by decide), ⟨rfl, rfl⟩⟩
/-! ### ferryman/ferrymanlaw02.works: function 12 -/
def ferrymanlaw02_works (k : Nat)  : Option (Bool) :=
  (Option.bind (ferrymanlaw02_some k ) (fun t1 => (Option.bind (text_Compare k ([97] : Str) ([97, 98] : Str)) (fun t8 => (Option.bind (α := Bool) (if (t8 == (-1 : Int)) = true then (Option.bind (text_Compare k ([98] : Str) ([97, 98] : Str)) (fun t20 => some ((t20 == (1 : Int))))) else some (false)) (fun x18 => (Option.bind (α := Bool) (if x18 = true then (Option.bind (text_Compare k ([] : Str) ([] : Str)) (fun t33 => some ((t33 == (0 : Int))))) else some (false)) (fun x31 => (Option.bind (α := Bool) (if x31 = true then (Option.bind (text_Prefix k ([97, 98, 99, 120] : Str) ([97, 98, 100, 120] : Str)) (fun t46 => some ((t46 == (2 : Int))))) else some (false)) (fun x44 => (Option.bind (α := Bool) (if x44 = true then (Option.bind (text_Suffix k ([97, 98, 99, 120] : Str) ([97, 98, 100, 120] : Str) (9 : Int)) (fun t59 => some ((t59 == (1 : Int))))) else some (false)) (fun x57 => (Option.bind (α := Bool) (if x57 = true then (Option.bind (text_Suffix k ([97, 98, 99, 120] : Str) ([97, 98, 100, 120] : Str) (0 : Int)) (fun t72 => some ((t72 == (0 : Int))))) else some (false)) (fun x70 => (Option.bind (α := Bool) (if x70 = true then (Option.bind (text_Next k ([97] : Str)) (fun t85 => some ((sbin .eql t85 ([97, 0] : Str))))) else some (false)) (fun x83 => (Option.bind (α := Bool) (if x83 = true then (Option.bind (text_Within k ([98] : Str) ([97] : Str) ([99] : Str)) (fun t98 => some (t98))) else some (false)) (fun x96 => (Option.bind (α := Bool) (if x96 = true then (Option.bind (text_Within k ([99] : Str) ([97] : Str) ([99] : Str)) (fun t111 => some ((!t111)))) else some (false)) (fun x109 => (Option.bind (α := Bool) (if x109 = true then (Option.bind (text_Within k ([99] : Str) ([97] : Str) ([] : Str)) (fun t124 => some (t124))) else some (false)) (fun x122 => (Option.bind (α := Bool) (if x122 = true then (Option.bind (text_Key k t1 ([97, 98] : Str)) (fun t137 => some (t137))) else some (false)) (fun x135 => (Option.bind (α := Bool) (if x135 = true then (Option.bind (text_Key k t1 ([] : Str)) (fun t150 => some ((!t150)))) else some (false)) (fun x148 => (Option.bind (α := Bool) (if x148 = true then (Option.bind (text_Key k t1 ([97, 98, 99] : Str)) (fun t163 => some ((!t163)))) else some (false)) (fun x161 => (Option.bind (α := Bool) (if x161 = true then (Option.bind (text_Bound k t1 ([] : Str)) (fun t176 => some (t176))) else some (false)) (fun x174 => some x174))))))))))))))))))))))))))))))
set_option maxHeartbeats 2000000 in
theorem ferrymanlaw02_works.mono {k : Nat}  : OLe (ferrymanlaw02_works k ) (ferrymanlaw02_works (k + 1) ) := by
  unfold ferrymanlaw02_works
  repeat' (first | with_reducible exact OLe.none | with_reducible exact OLe.some | with_reducible refine OLe.ite ?_ ?_ | with_reducible refine OLe.bind ?_ (fun _ => ?_) | with_reducible exact ferrymanlaw02_some.mono | with_reducible exact text_Bound.mono | with_reducible exact text_Compare.mono | with_reducible exact text_Key.mono | with_reducible exact text_Next.mono | with_reducible exact text_Prefix.mono | with_reducible exact text_Suffix.mono | with_reducible exact text_Within.mono | refine OLe.bind ?_ (fun _ => ?_) | refine OLe.ite ?_ ?_ | refine OLe.elim (fun _ => ?_) (fun _ => ?_) | split)
set_option maxHeartbeats 1000000 in
set_option maxRecDepth 100000 in
theorem ferrymanlaw02_works.con (k : Nat) (M : Hp)  (r : Bool)  (h : ferrymanlaw02_works k  = some r) : Con Try.prog 12 #[] M [] (fun v M' Γ' => v = .bool r ∧ Γ' = []) := by
  refine con_of_wp Try.func12 rfl Try.ntmps12 Try.results12 rfl ?_
  intro w F rn S hrn
  have E := Ext.refl w
  have HM := Hp.le_refl M
  have H := h
  unfold ferrymanlaw02_works at H
  refine Wp_seq ?_
  refine Wp_region_lit ?_
  refine W_v (.bool false) (x_assign rfl) rfl ?_
  refine Wl_nil ?_
  refine tn ?_
  refine Wp_seq ?_
  refine Wp_region_lit ?_
  obtain ⟨t1, ht2, H⟩ := bindS H
  refine W_callF fn32 (ferrymanlaw02_some.con k M  t1  ht2) S rfl rfl (by rintro _ _ _ ⟨_, rfl⟩; exact flat_nil) ?_
  rintro _ w3 _ Γ' E' S ⟨rfl, rfl⟩
  replace E := E.trans E'
  clear E'
  refine W_alloc S #[.int .i64 0, .int .i64 0, .int .i64 0, .int .i64 0, .int .i64 0, .int .i64 0, .int .i64 0, .int .i64 0] ty37 rfl rfl ?_
  intro b4 w5 E' S
  replace E := E.trans E'
  clear E'
  refine W_store S 0 rfl ty37 rfl rfl [.int .i64 t1.Tasks, .int .i64 t1.Active, .int .i64 t1.Keys, .int .i64 t1.Depth, .int .i64 t1.TS, .int .i64 t1.KeyLen, .int .i64 t1.ValLen, .int .i64 t1.Fan] rfl rfl rfl #[.int .i64 t1.Tasks, .int .i64 t1.Active, .int .i64 t1.Keys, .int .i64 t1.Depth, .int .i64 t1.TS, .int .i64 t1.KeyLen, .int .i64 t1.ValLen, .int .i64 t1.Fan] rfl rfl ?_
  intro w7 E' S
  replace E := E.trans E'
  clear E'
  refine Wl_nil ?_
  refine tn ?_
  refine Wp_seq ?_
  refine Wp_region_lit ?_
  obtain ⟨t8, ht9, H⟩ := bindS H
  refine W_callF fn13 (text_Compare.con k M ([97] : Str) ([97, 98] : Str) t8  ht9) S rfl rfl (by rintro _ _ _ ⟨_, rfl⟩; exact flat_nil) ?_
  rintro _ w10 _ Γ' E' S ⟨rfl, rfl⟩
  replace E := E.trans E'
  clear E'
  refine W_v (.bool (t8 == (-1 : Int))) (x_ibin rfl rfl rfl rfl) rfl ?_
  refine W_v (.bool (t8 == (-1 : Int))) (x_move rfl) rfl ?_
  obtain ⟨o19, o19h, o19H⟩ := bindS H
  clear H
  refine Wl_cutN 3 (fun ρ w' => ∃ (x18 : Bool), (x18) = o19 ∧ Agree ρ [(1, .pointer (some ⟨b4, 0, none⟩)), (8, .bool x18)] ∧ Ext w w' ∧ St w' M F [Blk b4 (.cells #[.int .i64 t1.Tasks, .int .i64 t1.Active, .int .i64 t1.Keys, .int .i64 t1.Depth, .int .i64 t1.TS, .int .i64 t1.KeyLen, .int .i64 t1.ValLen, .int .i64 t1.Fan] 37 (0, 0))]) ?_ ?_
  · have H := o19h
    rcases iteS H with ⟨hb17, H⟩ | ⟨hb17, H⟩
    · skip
      refine W_yes (congrArg some hb17) ?_
      obtain ⟨t20, ht21, H⟩ := bindS H
      refine W_callF fn13 (text_Compare.con k M ([98] : Str) ([97, 98] : Str) t20  ht21) S rfl rfl (by rintro _ _ _ ⟨_, rfl⟩; exact flat_nil) ?_
      rintro _ w22 _ Γ' E' S ⟨rfl, rfl⟩
      replace E := E.trans E'
      clear E'
      refine W_yes (congrArg some hb17) ?_
      refine W_v (.bool (t20 == (1 : Int))) (x_ibin rfl rfl rfl rfl) rfl ?_
      refine W_v (.bool (t20 == (1 : Int))) (x_pick (k := true) (congrArg Value.bool hb17) rfl) rfl ?_
      refine Wl_nil ?_
      exact ⟨(t20 == (1 : Int)), Option.some.inj H, ⟨rfl, rfl, trivial⟩, E, S.pick [0] (by decide)⟩
    · skip
      refine W_no (skT hb17) rfl ?_
      refine W_no (skT hb17) rfl ?_
      refine W_v (.bool false) (x_pick (k := false) (congrArg Value.bool hb17) rfl) rfl ?_
      refine Wl_nil ?_
      exact ⟨false, Option.some.inj H, ⟨rfl, rfl, trivial⟩, E, S.pick [0] (by decide)⟩
  · clear o19h
    rintro ρ w23 ⟨x18, rfl, hρ, E, S⟩
    rw [agree_eta hρ]
    clear hρ
    have H := o19H
    clear o19H
    refine W_v (.bool x18) (x_move rfl) rfl ?_
    obtain ⟨o32, o32h, o32H⟩ := bindS H
    clear H
    refine Wl_cutN 3 (fun ρ w' => ∃ (x31 : Bool), (x31) = o32 ∧ Agree ρ [(1, .pointer (some ⟨b4, 0, none⟩)), (12, .bool x31)] ∧ Ext w w' ∧ St w' M F [Blk b4 (.cells #[.int .i64 t1.Tasks, .int .i64 t1.Active, .int .i64 t1.Keys, .int .i64 t1.Depth, .int .i64 t1.TS, .int .i64 t1.KeyLen, .int .i64 t1.ValLen, .int .i64 t1.Fan] 37 (0, 0))]) ?_ ?_
    · have H := o32h
      rcases iteS H with ⟨hb30, H⟩ | ⟨hb30, H⟩
      · skip
        refine W_yes (congrArg some hb30) ?_
        obtain ⟨t33, ht34, H⟩ := bindS H
        refine W_callF fn13 (text_Compare.con k M ([] : Str) ([] : Str) t33  ht34) S rfl rfl (by rintro _ _ _ ⟨_, rfl⟩; exact flat_nil) ?_
        rintro _ w35 _ Γ' E' S ⟨rfl, rfl⟩
        replace E := E.trans E'
        clear E'
        refine W_yes (congrArg some hb30) ?_
        refine W_v (.bool (t33 == (0 : Int))) (x_ibin rfl rfl rfl rfl) rfl ?_
        refine W_v (.bool (t33 == (0 : Int))) (x_pick (k := true) (congrArg Value.bool hb30) rfl) rfl ?_
        refine Wl_nil ?_
        exact ⟨(t33 == (0 : Int)), Option.some.inj H, ⟨rfl, rfl, trivial⟩, E, S.pick [0] (by decide)⟩
      · skip
        refine W_no (skT hb30) rfl ?_
        refine W_no (skT hb30) rfl ?_
        refine W_v (.bool false) (x_pick (k := false) (congrArg Value.bool hb30) rfl) rfl ?_
        refine Wl_nil ?_
        exact ⟨false, Option.some.inj H, ⟨rfl, rfl, trivial⟩, E, S.pick [0] (by decide)⟩
    · clear o32h
      rintro ρ w36 ⟨x31, rfl, hρ, E, S⟩
      rw [agree_eta hρ]
      clear hρ
      have H := o32H
      clear o32H
      refine W_v (.bool x31) (x_move rfl) rfl ?_
      obtain ⟨o45, o45h, o45H⟩ := bindS H
      clear H
      refine Wl_cutN 3 (fun ρ w' => ∃ (x44 : Bool), (x44) = o45 ∧ Agree ρ [(1, .pointer (some ⟨b4, 0, none⟩)), (16, .bool x44)] ∧ Ext w w' ∧ St w' M F [Blk b4 (.cells #[.int .i64 t1.Tasks, .int .i64 t1.Active, .int .i64 t1.Keys, .int .i64 t1.Depth, .int .i64 t1.TS, .int .i64 t1.KeyLen, .int .i64 t1.ValLen, .int .i64 t1.Fan] 37 (0, 0))]) ?_ ?_
      · have H := o45h
        rcases iteS H with ⟨hb43, H⟩ | ⟨hb43, H⟩
        · skip
          refine W_yes (congrArg some hb43) ?_
          obtain ⟨t46, ht47, H⟩ := bindS H
          refine W_callF fn15 (text_Prefix.con k M ([97, 98, 99, 120] : Str) ([97, 98, 100, 120] : Str) t46  ht47) S rfl rfl (by rintro _ _ _ ⟨_, rfl⟩; exact flat_nil) ?_
          rintro _ w48 _ Γ' E' S ⟨rfl, rfl⟩
          replace E := E.trans E'
          clear E'
          refine W_yes (congrArg some hb43) ?_
          refine W_v (.bool (t46 == (2 : Int))) (x_ibin rfl rfl rfl rfl) rfl ?_
          refine W_v (.bool (t46 == (2 : Int))) (x_pick (k := true) (congrArg Value.bool hb43) rfl) rfl ?_
          refine Wl_nil ?_
          exact ⟨(t46 == (2 : Int)), Option.some.inj H, ⟨rfl, rfl, trivial⟩, E, S.pick [0] (by decide)⟩
        · skip
          refine W_no (skT hb43) rfl ?_
          refine W_no (skT hb43) rfl ?_
          refine W_v (.bool false) (x_pick (k := false) (congrArg Value.bool hb43) rfl) rfl ?_
          refine Wl_nil ?_
          exact ⟨false, Option.some.inj H, ⟨rfl, rfl, trivial⟩, E, S.pick [0] (by decide)⟩
      · clear o45h
        rintro ρ w49 ⟨x44, rfl, hρ, E, S⟩
        rw [agree_eta hρ]
        clear hρ
        have H := o45H
        clear o45H
        refine W_v (.bool x44) (x_move rfl) rfl ?_
        obtain ⟨o58, o58h, o58H⟩ := bindS H
        clear H
        refine Wl_cutN 3 (fun ρ w' => ∃ (x57 : Bool), (x57) = o58 ∧ Agree ρ [(1, .pointer (some ⟨b4, 0, none⟩)), (20, .bool x57)] ∧ Ext w w' ∧ St w' M F [Blk b4 (.cells #[.int .i64 t1.Tasks, .int .i64 t1.Active, .int .i64 t1.Keys, .int .i64 t1.Depth, .int .i64 t1.TS, .int .i64 t1.KeyLen, .int .i64 t1.ValLen, .int .i64 t1.Fan] 37 (0, 0))]) ?_ ?_
        · have H := o58h
          rcases iteS H with ⟨hb56, H⟩ | ⟨hb56, H⟩
          · skip
            refine W_yes (congrArg some hb56) ?_
            obtain ⟨t59, ht60, H⟩ := bindS H
            refine W_callF fn17 (text_Suffix.con k M ([97, 98, 99, 120] : Str) ([97, 98, 100, 120] : Str) (9 : Int) t59  ht60) S rfl rfl (by rintro _ _ _ ⟨_, rfl⟩; exact flat_nil) ?_
            rintro _ w61 _ Γ' E' S ⟨rfl, rfl⟩
            replace E := E.trans E'
            clear E'
            refine W_yes (congrArg some hb56) ?_
            refine W_v (.bool (t59 == (1 : Int))) (x_ibin rfl rfl rfl rfl) rfl ?_
            refine W_v (.bool (t59 == (1 : Int))) (x_pick (k := true) (congrArg Value.bool hb56) rfl) rfl ?_
            refine Wl_nil ?_
            exact ⟨(t59 == (1 : Int)), Option.some.inj H, ⟨rfl, rfl, trivial⟩, E, S.pick [0] (by decide)⟩
          · skip
            refine W_no (skT hb56) rfl ?_
            refine W_no (skT hb56) rfl ?_
            refine W_v (.bool false) (x_pick (k := false) (congrArg Value.bool hb56) rfl) rfl ?_
            refine Wl_nil ?_
            exact ⟨false, Option.some.inj H, ⟨rfl, rfl, trivial⟩, E, S.pick [0] (by decide)⟩
        · clear o58h
          rintro ρ w62 ⟨x57, rfl, hρ, E, S⟩
          rw [agree_eta hρ]
          clear hρ
          have H := o58H
          clear o58H
          refine W_v (.bool x57) (x_move rfl) rfl ?_
          obtain ⟨o71, o71h, o71H⟩ := bindS H
          clear H
          refine Wl_cutN 3 (fun ρ w' => ∃ (x70 : Bool), (x70) = o71 ∧ Agree ρ [(1, .pointer (some ⟨b4, 0, none⟩)), (24, .bool x70)] ∧ Ext w w' ∧ St w' M F [Blk b4 (.cells #[.int .i64 t1.Tasks, .int .i64 t1.Active, .int .i64 t1.Keys, .int .i64 t1.Depth, .int .i64 t1.TS, .int .i64 t1.KeyLen, .int .i64 t1.ValLen, .int .i64 t1.Fan] 37 (0, 0))]) ?_ ?_
          · have H := o71h
            rcases iteS H with ⟨hb69, H⟩ | ⟨hb69, H⟩
            · skip
              refine W_yes (congrArg some hb69) ?_
              obtain ⟨t72, ht73, H⟩ := bindS H
              refine W_callF fn17 (text_Suffix.con k M ([97, 98, 99, 120] : Str) ([97, 98, 100, 120] : Str) (0 : Int) t72  ht73) S rfl rfl (by rintro _ _ _ ⟨_, rfl⟩; exact flat_nil) ?_
              rintro _ w74 _ Γ' E' S ⟨rfl, rfl⟩
              replace E := E.trans E'
              clear E'
              refine W_yes (congrArg some hb69) ?_
              refine W_v (.bool (t72 == (0 : Int))) (x_ibin rfl rfl rfl rfl) rfl ?_
              refine W_v (.bool (t72 == (0 : Int))) (x_pick (k := true) (congrArg Value.bool hb69) rfl) rfl ?_
              refine Wl_nil ?_
              exact ⟨(t72 == (0 : Int)), Option.some.inj H, ⟨rfl, rfl, trivial⟩, E, S.pick [0] (by decide)⟩
            · skip
              refine W_no (skT hb69) rfl ?_
              refine W_no (skT hb69) rfl ?_
              refine W_v (.bool false) (x_pick (k := false) (congrArg Value.bool hb69) rfl) rfl ?_
              refine Wl_nil ?_
              exact ⟨false, Option.some.inj H, ⟨rfl, rfl, trivial⟩, E, S.pick [0] (by decide)⟩
          · clear o71h
            rintro ρ w75 ⟨x70, rfl, hρ, E, S⟩
            rw [agree_eta hρ]
            clear hρ
            have H := o71H
            clear o71H
            refine W_v (.bool x70) (x_move rfl) rfl ?_
            obtain ⟨o84, o84h, o84H⟩ := bindS H
            clear H
            refine Wl_cutN 3 (fun ρ w' => ∃ (x83 : Bool), (x83) = o84 ∧ Agree ρ [(1, .pointer (some ⟨b4, 0, none⟩)), (28, .bool x83)] ∧ Ext w w' ∧ St w' M F [Blk b4 (.cells #[.int .i64 t1.Tasks, .int .i64 t1.Active, .int .i64 t1.Keys, .int .i64 t1.Depth, .int .i64 t1.TS, .int .i64 t1.KeyLen, .int .i64 t1.ValLen, .int .i64 t1.Fan] 37 (0, 0))]) ?_ ?_
            · have H := o84h
              rcases iteS H with ⟨hb82, H⟩ | ⟨hb82, H⟩
              · skip
                refine W_yes (congrArg some hb82) ?_
                obtain ⟨t85, ht86, H⟩ := bindS H
                refine W_callF fn19 (text_Next.con k M ([97] : Str) t85  ht86) S rfl rfl (by rintro _ _ _ ⟨_, rfl⟩; exact flat_nil) ?_
                rintro _ w87 _ Γ' E' S ⟨rfl, rfl⟩
                replace E := E.trans E'
                clear E'
                refine W_yes (congrArg some hb82) ?_
                refine W_v (.bool (sbin .eql t85 ([97, 0] : Str))) (x_sbin rfl rfl rfl) rfl ?_
                refine W_v (.bool (sbin .eql t85 ([97, 0] : Str))) (x_pick (k := true) (congrArg Value.bool hb82) rfl) rfl ?_
                refine Wl_nil ?_
                exact ⟨(sbin .eql t85 ([97, 0] : Str)), Option.some.inj H, ⟨rfl, rfl, trivial⟩, E, S.pick [0] (by decide)⟩
              · skip
                refine W_no (skT hb82) rfl ?_
                refine W_no (skT hb82) rfl ?_
                refine W_v (.bool false) (x_pick (k := false) (congrArg Value.bool hb82) rfl) rfl ?_
                refine Wl_nil ?_
                exact ⟨false, Option.some.inj H, ⟨rfl, rfl, trivial⟩, E, S.pick [0] (by decide)⟩
            · clear o84h
              rintro ρ w88 ⟨x83, rfl, hρ, E, S⟩
              rw [agree_eta hρ]
              clear hρ
              have H := o84H
              clear o84H
              refine W_v (.bool x83) (x_move rfl) rfl ?_
              obtain ⟨o97, o97h, o97H⟩ := bindS H
              clear H
              refine Wl_cutN 2 (fun ρ w' => ∃ (x96 : Bool), (x96) = o97 ∧ Agree ρ [(1, .pointer (some ⟨b4, 0, none⟩)), (31, .bool x96)] ∧ Ext w w' ∧ St w' M F [Blk b4 (.cells #[.int .i64 t1.Tasks, .int .i64 t1.Active, .int .i64 t1.Keys, .int .i64 t1.Depth, .int .i64 t1.TS, .int .i64 t1.KeyLen, .int .i64 t1.ValLen, .int .i64 t1.Fan] 37 (0, 0))]) ?_ ?_
              · have H := o97h
                rcases iteS H with ⟨hb95, H⟩ | ⟨hb95, H⟩
                · skip
                  refine W_yes (congrArg some hb95) ?_
                  obtain ⟨t98, ht99, H⟩ := bindS H
                  refine W_callF fn21 (text_Within.con k M ([98] : Str) ([97] : Str) ([99] : Str) t98  ht99) S rfl rfl (by rintro _ _ _ ⟨_, rfl⟩; exact flat_nil) ?_
                  rintro _ w100 _ Γ' E' S ⟨rfl, rfl⟩
                  replace E := E.trans E'
                  clear E'
                  refine W_v (.bool t98) (x_pick (k := true) (congrArg Value.bool hb95) rfl) rfl ?_
                  refine Wl_nil ?_
                  exact ⟨t98, Option.some.inj H, ⟨rfl, rfl, trivial⟩, E, S.pick [0] (by decide)⟩
                · skip
                  refine W_no (skT hb95) rfl ?_
                  refine W_v (.bool false) (x_pick (k := false) (congrArg Value.bool hb95) rfl) rfl ?_
                  refine Wl_nil ?_
                  exact ⟨false, Option.some.inj H, ⟨rfl, rfl, trivial⟩, E, S.pick [0] (by decide)⟩
              · clear o97h
                rintro ρ w101 ⟨x96, rfl, hρ, E, S⟩
                rw [agree_eta hρ]
                clear hρ
                have H := o97H
                clear o97H
                refine W_v (.bool x96) (x_move rfl) rfl ?_
                obtain ⟨o110, o110h, o110H⟩ := bindS H
                clear H
                refine Wl_cutN 3 (fun ρ w' => ∃ (x109 : Bool), (x109) = o110 ∧ Agree ρ [(1, .pointer (some ⟨b4, 0, none⟩)), (35, .bool x109)] ∧ Ext w w' ∧ St w' M F [Blk b4 (.cells #[.int .i64 t1.Tasks, .int .i64 t1.Active, .int .i64 t1.Keys, .int .i64 t1.Depth, .int .i64 t1.TS, .int .i64 t1.KeyLen, .int .i64 t1.ValLen, .int .i64 t1.Fan] 37 (0, 0))]) ?_ ?_
                · have H := o110h
                  rcases iteS H with ⟨hb108, H⟩ | ⟨hb108, H⟩
                  · skip
                    refine W_yes (congrArg some hb108) ?_
                    obtain ⟨t111, ht112, H⟩ := bindS H
                    refine W_callF fn21 (text_Within.con k M ([99] : Str) ([97] : Str) ([99] : Str) t111  ht112) S rfl rfl (by rintro _ _ _ ⟨_, rfl⟩; exact flat_nil) ?_
                    rintro _ w113 _ Γ' E' S ⟨rfl, rfl⟩
                    replace E := E.trans E'
                    clear E'
                    refine W_yes (congrArg some hb108) ?_
                    refine W_v (.bool (!t111)) (x_not rfl) rfl ?_
                    refine W_v (.bool (!t111)) (x_pick (k := true) (congrArg Value.bool hb108) rfl) rfl ?_
                    refine Wl_nil ?_
                    exact ⟨(!t111), Option.some.inj H, ⟨rfl, rfl, trivial⟩, E, S.pick [0] (by decide)⟩
                  · skip
                    refine W_no (skT hb108) rfl ?_
                    refine W_no (skT hb108) rfl ?_
                    refine W_v (.bool false) (x_pick (k := false) (congrArg Value.bool hb108) rfl) rfl ?_
                    refine Wl_nil ?_
                    exact ⟨false, Option.some.inj H, ⟨rfl, rfl, trivial⟩, E, S.pick [0] (by decide)⟩
                · clear o110h
                  rintro ρ w114 ⟨x109, rfl, hρ, E, S⟩
                  rw [agree_eta hρ]
                  clear hρ
                  have H := o110H
                  clear o110H
                  refine W_v (.bool x109) (x_move rfl) rfl ?_
                  obtain ⟨o123, o123h, o123H⟩ := bindS H
                  clear H
                  refine Wl_cutN 2 (fun ρ w' => ∃ (x122 : Bool), (x122) = o123 ∧ Agree ρ [(1, .pointer (some ⟨b4, 0, none⟩)), (38, .bool x122)] ∧ Ext w w' ∧ St w' M F [Blk b4 (.cells #[.int .i64 t1.Tasks, .int .i64 t1.Active, .int .i64 t1.Keys, .int .i64 t1.Depth, .int .i64 t1.TS, .int .i64 t1.KeyLen, .int .i64 t1.ValLen, .int .i64 t1.Fan] 37 (0, 0))]) ?_ ?_
                  · have H := o123h
                    rcases iteS H with ⟨hb121, H⟩ | ⟨hb121, H⟩
                    · skip
                      refine W_yes (congrArg some hb121) ?_
                      obtain ⟨t124, ht125, H⟩ := bindS H
                      refine W_callF fn21 (text_Within.con k M ([99] : Str) ([97] : Str) ([] : Str) t124  ht125) S rfl rfl (by rintro _ _ _ ⟨_, rfl⟩; exact flat_nil) ?_
                      rintro _ w126 _ Γ' E' S ⟨rfl, rfl⟩
                      replace E := E.trans E'
                      clear E'
                      refine W_v (.bool t124) (x_pick (k := true) (congrArg Value.bool hb121) rfl) rfl ?_
                      refine Wl_nil ?_
                      exact ⟨t124, Option.some.inj H, ⟨rfl, rfl, trivial⟩, E, S.pick [0] (by decide)⟩
                    · skip
                      refine W_no (skT hb121) rfl ?_
                      refine W_v (.bool false) (x_pick (k := false) (congrArg Value.bool hb121) rfl) rfl ?_
                      refine Wl_nil ?_
                      exact ⟨false, Option.some.inj H, ⟨rfl, rfl, trivial⟩, E, S.pick [0] (by decide)⟩
                  · clear o123h
                    rintro ρ w127 ⟨x122, rfl, hρ, E, S⟩
                    rw [agree_eta hρ]
                    clear hρ
                    have H := o123H
                    clear o123H
                    refine W_v (.bool x122) (x_move rfl) rfl ?_
                    obtain ⟨o136, o136h, o136H⟩ := bindS H
                    clear H
                    refine Wl_cutN 3 (fun ρ w' => ∃ (x135 : Bool), (x135) = o136 ∧ Agree ρ [(1, .pointer (some ⟨b4, 0, none⟩)), (42, .bool x135)] ∧ Ext w w' ∧ St w' M F [Blk b4 (.cells #[.int .i64 t1.Tasks, .int .i64 t1.Active, .int .i64 t1.Keys, .int .i64 t1.Depth, .int .i64 t1.TS, .int .i64 t1.KeyLen, .int .i64 t1.ValLen, .int .i64 t1.Fan] 37 (0, 0))]) ?_ ?_
                    · have H := o136h
                      rcases iteS H with ⟨hb134, H⟩ | ⟨hb134, H⟩
                      · skip
                        refine W_yes (congrArg some hb134) ?_
                        refine W_v (.agg #[.int .i64 t1.Tasks, .int .i64 t1.Active, .int .i64 t1.Keys, .int .i64 t1.Depth, .int .i64 t1.TS, .int .i64 t1.KeyLen, .int .i64 t1.ValLen, .int .i64 t1.Fan]) (x_loadA (S.blk 0 rfl) ty37 rfl (sub_of_extract rfl) rfl rfl) rfl ?_
                        refine W_yes (congrArg some hb134) ?_
                        obtain ⟨t137, ht138, H⟩ := bindS H
                        refine W_callF fn25 (text_Key.con k M t1 ([97, 98] : Str) t137  ht138) S rfl rfl (by rintro _ _ _ ⟨_, rfl⟩; exact flat_nil) ?_
                        rintro _ w139 _ Γ' E' S ⟨rfl, rfl⟩
                        replace E := E.trans E'
                        clear E'
                        refine W_v (.bool t137) (x_pick (k := true) (congrArg Value.bool hb134) rfl) rfl ?_
                        refine Wl_nil ?_
                        exact ⟨t137, Option.some.inj H, ⟨rfl, rfl, trivial⟩, E, S.pick [0] (by decide)⟩
                      · skip
                        refine W_no (skT hb134) rfl ?_
                        refine W_no (skT hb134) rfl ?_
                        refine W_v (.bool false) (x_pick (k := false) (congrArg Value.bool hb134) rfl) rfl ?_
                        refine Wl_nil ?_
                        exact ⟨false, Option.some.inj H, ⟨rfl, rfl, trivial⟩, E, S.pick [0] (by decide)⟩
                    · clear o136h
                      rintro ρ w140 ⟨x135, rfl, hρ, E, S⟩
                      rw [agree_eta hρ]
                      clear hρ
                      have H := o136H
                      clear o136H
                      refine W_v (.bool x135) (x_move rfl) rfl ?_
                      obtain ⟨o149, o149h, o149H⟩ := bindS H
                      clear H
                      refine Wl_cutN 4 (fun ρ w' => ∃ (x148 : Bool), (x148) = o149 ∧ Agree ρ [(1, .pointer (some ⟨b4, 0, none⟩)), (47, .bool x148)] ∧ Ext w w' ∧ St w' M F [Blk b4 (.cells #[.int .i64 t1.Tasks, .int .i64 t1.Active, .int .i64 t1.Keys, .int .i64 t1.Depth, .int .i64 t1.TS, .int .i64 t1.KeyLen, .int .i64 t1.ValLen, .int .i64 t1.Fan] 37 (0, 0))]) ?_ ?_
                      · have H := o149h
                        rcases iteS H with ⟨hb147, H⟩ | ⟨hb147, H⟩
                        · skip
                          refine W_yes (congrArg some hb147) ?_
                          refine W_v (.agg #[.int .i64 t1.Tasks, .int .i64 t1.Active, .int .i64 t1.Keys, .int .i64 t1.Depth, .int .i64 t1.TS, .int .i64 t1.KeyLen, .int .i64 t1.ValLen, .int .i64 t1.Fan]) (x_loadA (S.blk 0 rfl) ty37 rfl (sub_of_extract rfl) rfl rfl) rfl ?_
                          refine W_yes (congrArg some hb147) ?_
                          obtain ⟨t150, ht151, H⟩ := bindS H
                          refine W_callF fn25 (text_Key.con k M t1 ([] : Str) t150  ht151) S rfl rfl (by rintro _ _ _ ⟨_, rfl⟩; exact flat_nil) ?_
                          rintro _ w152 _ Γ' E' S ⟨rfl, rfl⟩
                          replace E := E.trans E'
                          clear E'
                          refine W_yes (congrArg some hb147) ?_
                          refine W_v (.bool (!t150)) (x_not rfl) rfl ?_
                          refine W_v (.bool (!t150)) (x_pick (k := true) (congrArg Value.bool hb147) rfl) rfl ?_
                          refine Wl_nil ?_
                          exact ⟨(!t150), Option.some.inj H, ⟨rfl, rfl, trivial⟩, E, S.pick [0] (by decide)⟩
                        · skip
                          refine W_no (skT hb147) rfl ?_
                          refine W_no (skT hb147) rfl ?_
                          refine W_no (skT hb147) rfl ?_
                          refine W_v (.bool false) (x_pick (k := false) (congrArg Value.bool hb147) rfl) rfl ?_
                          refine Wl_nil ?_
                          exact ⟨false, Option.some.inj H, ⟨rfl, rfl, trivial⟩, E, S.pick [0] (by decide)⟩
                      · clear o149h
                        rintro ρ w153 ⟨x148, rfl, hρ, E, S⟩
                        rw [agree_eta hρ]
                        clear hρ
                        have H := o149H
                        clear o149H
                        refine W_v (.bool x148) (x_move rfl) rfl ?_
                        obtain ⟨o162, o162h, o162H⟩ := bindS H
                        clear H
                        refine Wl_cutN 4 (fun ρ w' => ∃ (x161 : Bool), (x161) = o162 ∧ Agree ρ [(1, .pointer (some ⟨b4, 0, none⟩)), (52, .bool x161)] ∧ Ext w w' ∧ St w' M F [Blk b4 (.cells #[.int .i64 t1.Tasks, .int .i64 t1.Active, .int .i64 t1.Keys, .int .i64 t1.Depth, .int .i64 t1.TS, .int .i64 t1.KeyLen, .int .i64 t1.ValLen, .int .i64 t1.Fan] 37 (0, 0))]) ?_ ?_
                        · have H := o162h
                          rcases iteS H with ⟨hb160, H⟩ | ⟨hb160, H⟩
                          · skip
                            refine W_yes (congrArg some hb160) ?_
                            refine W_v (.agg #[.int .i64 t1.Tasks, .int .i64 t1.Active, .int .i64 t1.Keys, .int .i64 t1.Depth, .int .i64 t1.TS, .int .i64 t1.KeyLen, .int .i64 t1.ValLen, .int .i64 t1.Fan]) (x_loadA (S.blk 0 rfl) ty37 rfl (sub_of_extract rfl) rfl rfl) rfl ?_
                            refine W_yes (congrArg some hb160) ?_
                            obtain ⟨t163, ht164, H⟩ := bindS H
                            refine W_callF fn25 (text_Key.con k M t1 ([97, 98, 99] : Str) t163  ht164) S rfl rfl (by rintro _ _ _ ⟨_, rfl⟩; exact flat_nil) ?_
                            rintro _ w165 _ Γ' E' S ⟨rfl, rfl⟩
                            replace E := E.trans E'
                            clear E'
                            refine W_yes (congrArg some hb160) ?_
                            refine W_v (.bool (!t163)) (x_not rfl) rfl ?_
                            refine W_v (.bool (!t163)) (x_pick (k := true) (congrArg Value.bool hb160) rfl) rfl ?_
                            refine Wl_nil ?_
                            exact ⟨(!t163), Option.some.inj H, ⟨rfl, rfl, trivial⟩, E, S.pick [0] (by decide)⟩
                          · skip
                            refine W_no (skT hb160) rfl ?_
                            refine W_no (skT hb160) rfl ?_
                            refine W_no (skT hb160) rfl ?_
                            refine W_v (.bool false) (x_pick (k := false) (congrArg Value.bool hb160) rfl) rfl ?_
                            refine Wl_nil ?_
                            exact ⟨false, Option.some.inj H, ⟨rfl, rfl, trivial⟩, E, S.pick [0] (by decide)⟩
                        · clear o162h
                          rintro ρ w166 ⟨x161, rfl, hρ, E, S⟩
                          rw [agree_eta hρ]
                          clear hρ
                          have H := o162H
                          clear o162H
                          refine W_v (.bool x161) (x_move rfl) rfl ?_
                          obtain ⟨o175, o175h, o175H⟩ := bindS H
                          clear H
                          refine Wl_cutN 3 (fun ρ w' => ∃ (x174 : Bool), (x174) = o175 ∧ Agree ρ [(56, .bool x174)] ∧ Ext w w' ∧ St w' M F []) ?_ ?_
                          · have H := o175h
                            rcases iteS H with ⟨hb173, H⟩ | ⟨hb173, H⟩
                            · skip
                              refine W_yes (congrArg some hb173) ?_
                              refine W_v (.agg #[.int .i64 t1.Tasks, .int .i64 t1.Active, .int .i64 t1.Keys, .int .i64 t1.Depth, .int .i64 t1.TS, .int .i64 t1.KeyLen, .int .i64 t1.ValLen, .int .i64 t1.Fan]) (x_loadA (S.blk 0 rfl) ty37 rfl (sub_of_extract rfl) rfl rfl) rfl ?_
                              refine W_yes (congrArg some hb173) ?_
                              obtain ⟨t176, ht177, H⟩ := bindS H
                              refine W_callF fn26 (text_Bound.con k M t1 ([] : Str) t176  ht177) S rfl rfl (by rintro _ _ _ ⟨_, rfl⟩; exact flat_nil) ?_
                              rintro _ w178 _ Γ' E' S ⟨rfl, rfl⟩
                              replace E := E.trans E'
                              clear E'
                              refine W_v (.bool t176) (x_pick (k := true) (congrArg Value.bool hb173) rfl) rfl ?_
                              refine Wl_nil ?_
                              exact ⟨t176, Option.some.inj H, ⟨rfl, trivial⟩, E, S.pick [] (by decide)⟩
                            · skip
                              refine W_no (skT hb173) rfl ?_
                              refine W_no (skT hb173) rfl ?_
                              refine W_v (.bool false) (x_pick (k := false) (congrArg Value.bool hb173) rfl) rfl ?_
                              refine Wl_nil ?_
                              exact ⟨false, Option.some.inj H, ⟨rfl, trivial⟩, E, S.pick [] (by decide)⟩
                          · clear o175h
                            rintro ρ w179 ⟨x174, rfl, hρ, E, S⟩
                            rw [agree_eta hρ]
                            clear hρ
                            have H := o175H
                            clear o175H
                            refine W_v (.bool x174) (x_assign rfl) rfl ?_
                            refine Wl_nil ?_
                            refine tn ?_
                            refine Wp_ret ?_
                            obtain rfl := Option.some.inj H
                            exact ⟨_, _, _, fun w1 e1 => run_resR (vs := [.bool x174]) (FA.cons (rfl) (FA.nil)), HM, E, S.pick [] (by decide), ⟨rfl, rfl⟩⟩
/-! ### ferryman/ferrymanref02.Compare: function 14 -/
def ferrymanref02_Compare_l0 (a0 : Str) (a1 : Str) : Nat → Int → Option ((Int) ⊕ (Unit))
  | 0, _ => none
  | k + 1, x51 => (if ((decide (x51 < (a0.length : Int))) && (decide (x51 < (a1.length : Int)))) = true then (if 0 ≤ x51 ∧ x51 < (a0.length : Int) then (if 0 ≤ x51 ∧ x51 < (a1.length : Int) then (if (decide ((((a0).getD (x51).toNat 0).toNat : Int) < (((a1).getD (x51).toNat 0).toNat : Int))) = true then some (.inl (-1 : Int)) else (if 0 ≤ x51 ∧ x51 < (a0.length : Int) then (if 0 ≤ x51 ∧ x51 < (a1.length : Int) then (if (decide ((((a0).getD (x51).toNat 0).toNat : Int) > (((a1).getD (x51).toNat 0).toNat : Int))) = true then some (.inl (1 : Int)) else ferrymanref02_Compare_l0 a0 a1 k (IntKind.i64.wrap (x51 + (1 : Int)))) else none) else none)) else none) else none) else some (.inr ()))
set_option maxHeartbeats 2000000 in
theorem ferrymanref02_Compare_l0.mono {a0 : Str} {a1 : Str} : ∀ {k : Nat} {x0}, OLe (ferrymanref02_Compare_l0 a0 a1 k x0) (ferrymanref02_Compare_l0 a0 a1 (k + 1) x0) := by
  intro k
  induction k with
  | zero => intros; exact OLe.none
  | succ k ih =>
    intros
    rw [ferrymanref02_Compare_l0.eq_2, ferrymanref02_Compare_l0.eq_2]
    repeat' (first | with_reducible exact OLe.none | with_reducible exact OLe.some | with_reducible refine OLe.ite ?_ ?_ | with_reducible refine OLe.bind ?_ (fun _ => ?_) | exact ih | refine OLe.bind ?_ (fun _ => ?_) | refine OLe.ite ?_ ?_ | refine OLe.elim (fun _ => ?_) (fun _ => ?_) | split)
def ferrymanref02_Compare (k : Nat) (a0 : Str) (a1 : Str) : Option (Int) :=
  (Option.bind (ferrymanref02_Compare_l0 a0 a1 k (0 : Int)) (fun o76o => Sum.elim (fun r' => some r') (fun _ => (if (decide ((a0.length : Int) < (a1.length : Int))) = true then some (-1 : Int) else (if (decide ((a0.length : Int) > (a1.length : Int))) = true then some (1 : Int) else some (0 : Int)))) o76o))
set_option maxHeartbeats 2000000 in
theorem ferrymanref02_Compare.mono {k : Nat} {a0 : Str} {a1 : Str} : OLe (ferrymanref02_Compare k a0 a1) (ferrymanref02_Compare (k + 1) a0 a1) := by
  unfold ferrymanref02_Compare
  repeat' (first | with_reducible exact OLe.none | with_reducible exact OLe.some | with_reducible refine OLe.ite ?_ ?_ | with_reducible refine OLe.bind ?_ (fun _ => ?_) | with_reducible exact ferrymanref02_Compare_l0.mono | refine OLe.bind ?_ (fun _ => ?_) | refine OLe.ite ?_ ?_ | refine OLe.elim (fun _ => ?_) (fun _ => ?_) | split)
set_option maxHeartbeats 1000000 in
set_option maxRecDepth 100000 in
theorem ferrymanref02_Compare.con (k : Nat) (M : Hp) (a0 : Str) (a1 : Str) (r : Int)  (h : ferrymanref02_Compare k a0 a1 = some r) : Con Try.prog 14 #[.string (bs a0), .string (bs a1)] M [] (fun v M' Γ' => v = .int .i64 r ∧ Γ' = []) := by
  refine con_of_wp Try.func14 rfl Try.ntmps14 Try.results14 rfl ?_
  intro w F rn S hrn
  have E := Ext.refl w
  have HM := Hp.le_refl M
  have H := h
  unfold ferrymanref02_Compare at H
  refine Wp_seq ?_
  refine Wp_region_lit ?_
  refine W_v (.int .i64 0) (x_assign rfl) rfl ?_
  refine Wl_nil ?_
  refine tn ?_
  refine Wp_seq ?_
  refine Wp_seq ?_
  refine Wp_region_lit ?_
  refine W_v (.int .i64 0) (x_assign rfl) rfl ?_
  refine Wl_nil ?_
  refine tn ?_
  obtain ⟨o76, o76h, o76H⟩ := bindS H
  clear H
  refine Wp_blockJ (fun ρ w' => .inr () = o76 ∧ Agree ρ [(0, .string (bs a0)), (1, .string (bs a1))] ∧ Ext w w' ∧ St w' M F []) ?_ ?_
  · skip
    refine Wp_loop (fun n ρ w' => ∃ (x51 : Int), ferrymanref02_Compare_l0 a0 a1 n x51 = some o76 ∧ Agree ρ [(0, .string (bs a0)), (1, .string (bs a1)), (5, .int .i64 x51)] ∧ Ext w w' ∧ St w' M F []) k ?_ ?_
    · skip
      exact ⟨(0 : Int), o76h, ⟨rfl, rfl, rfl, trivial⟩, E, S.pick [] (by decide)⟩
    · intro n
      rintro ρ w77 ⟨x51, H, hρ, E, S⟩
      rw [agree_eta hρ]
      clear hρ
      cases n with
      | zero => cases H
      | succ k =>
        rw [ferrymanref02_Compare_l0.eq_2] at H
        refine Wp_seq ?_
        refine Wp_seq ?_
        refine Wp_region_lit ?_
        refine W_v (.int .i64 x51) (x_move rfl) rfl ?_
        refine W_v (.string (bs a0)) (x_move rfl) rfl ?_
        refine W_v (.int .i64 (a0.length : Int)) (x_len_str Try.underlying9 rfl) rfl ?_
        refine W_v (.bool (decide (x51 < (a0.length : Int)))) (x_ibin rfl rfl rfl rfl) rfl ?_
        refine W_v (.bool (decide (x51 < (a0.length : Int)))) (x_move rfl) rfl ?_
        refine Wl_cutN 5 (fun ρ w' => Agree ρ [(0, .string (bs a0)), (1, .string (bs a1)), (5, .int .i64 x51), (15, .bool ((decide (x51 < (a0.length : Int))) && (decide (x51 < (a1.length : Int)))))] ∧ w77 = w') ?_ ?_
        · rcases boolCases (decide (x51 < (a0.length : Int))) with hb78 | hb78
          · skip
            refine W_no (skT hb78) rfl ?_
            refine W_no (skT hb78) rfl ?_
            refine W_no (skT hb78) rfl ?_
            refine W_no (skT hb78) rfl ?_
            refine W_v (.bool false) (x_pick (k := false) (congrArg Value.bool hb78) rfl) rfl ?_
            refine Wl_nil ?_
            exact ⟨⟨rfl, rfl, rfl, (by first | rfl | (rw [hb78]; rfl) | (simp only [hb78]; rfl)), trivial⟩, rfl⟩
          · skip
            refine W_yes (congrArg some hb78) ?_
            refine W_v (.int .i64 x51) (x_move rfl) rfl ?_
            refine W_yes (congrArg some hb78) ?_
            refine W_v (.string (bs a1)) (x_move rfl) rfl ?_
            refine W_yes (congrArg some hb78) ?_
            refine W_v (.int .i64 (a1.length : Int)) (x_len_str Try.underlying9 rfl) rfl ?_
            refine W_yes (congrArg some hb78) ?_
            refine W_v (.bool (decide (x51 < (a1.length : Int)))) (x_ibin rfl rfl rfl rfl) rfl ?_
            refine W_v (.bool (decide (x51 < (a1.length : Int)))) (x_pick (k := true) (congrArg Value.bool hb78) rfl) rfl ?_
            refine Wl_nil ?_
            exact ⟨⟨rfl, rfl, rfl, (by first | rfl | (rw [hb78]; rfl) | (simp only [hb78]; rfl)), trivial⟩, rfl⟩
        · rintro ρ _ ⟨hρ, rfl⟩
          rw [agree_eta hρ]
          clear hρ
          skip
          refine Wl_nil ?_
          refine tn ?_
          rcases iteS H with ⟨hb79, H⟩ | ⟨hb79, H⟩
          · refine Wp_cond_true (congrArg Value.bool hb79) ?_
            refine Wp_skip ?_
            refine tn ?_
            refine Wp_seq ?_
            refine Wp_block ?_
            refine Wp_seq ?_
            refine Wp_seq ?_
            refine Wp_region_any (S := fun w' => ∃ Mx, M.le Mx ∧ St w' Mx F []) mixed ?_
            intro w84 hw85 E'
            replace S := S.heap hw85
            replace E := E.trans E'
            clear E'
            refine Wa_take (i := 0) rfl (by kernel_rfl) rfl rfl (.string (bs a0)) rfl (fun w' h' => x_move rfl) (⟨M, Hp.le_refl M, S.pick [] (by decide)⟩) ?_
            refine Wa_take (i := 1) rfl (by kernel_rfl) rfl rfl (.int .i64 x51) rfl (fun w' h' => x_move rfl) (⟨M, Hp.le_refl M, S.pick [] (by decide)⟩) ?_
            obtain ⟨⟨p86, p87⟩, H⟩ := chkS H
            refine Wa_take (i := 2) rfl (by kernel_rfl) rfl rfl (.int .u8 (((a0).getD (x51).toNat 0).toNat : Int)) rfl (fun w' h' => x_indexStr Try.underlying9 rfl rfl p86 p87) (⟨M, Hp.le_refl M, S.pick [] (by decide)⟩) ?_
            refine Wa_take (i := 3) rfl (by kernel_rfl) rfl rfl (.string (bs a1)) rfl (fun w' h' => x_move rfl) (⟨M, Hp.le_refl M, S.pick [] (by decide)⟩) ?_
            refine Wa_take (i := 4) rfl (by kernel_rfl) rfl rfl (.int .i64 x51) rfl (fun w' h' => x_move rfl) (⟨M, Hp.le_refl M, S.pick [] (by decide)⟩) ?_
            obtain ⟨⟨p88, p89⟩, H⟩ := chkS H
            refine Wa_take (i := 5) rfl (by kernel_rfl) rfl rfl (.int .u8 (((a1).getD (x51).toNat 0).toNat : Int)) rfl (fun w' h' => x_indexStr Try.underlying9 rfl rfl p88 p89) (⟨M, Hp.le_refl M, S.pick [] (by decide)⟩) ?_
            refine Wa_take (i := 6) rfl (by kernel_rfl) rfl rfl (.bool (decide ((((a0).getD (x51).toNat 0).toNat : Int) < (((a1).getD (x51).toNat 0).toNat : Int)))) rfl (fun w' h' => x_ibin rfl rfl rfl rfl) (⟨M, Hp.le_refl M, S.pick [] (by decide)⟩) ?_
            refine Wa_done (by kernel_rfl) ?_
            refine tn ?_
            rcases iteS H with ⟨hb90, H⟩ | ⟨hb90, H⟩
            · refine Wp_cond_true (congrArg Value.bool hb90) ?_
              refine Wp_seq ?_
              refine Wp_region_lit ?_
              refine W_v (.int .i64 (-1)) (x_assign rfl) rfl ?_
              refine Wl_nil ?_
              refine tn ?_
              refine Wp_ret ?_
              refine tr (br (tr (tr (br (tr (tr (?_)))))))
              obtain rfl := Option.some.inj H
              have H := o76H
              replace H := elimL H
              obtain rfl := Option.some.inj H
              exact ⟨_, _, _, fun w1 e1 => run_resR (vs := [.int .i64 (-1)]) (FA.cons (rfl) (FA.nil)), HM, E, S.pick [] (by decide), ⟨rfl, rfl⟩⟩
            · refine Wp_cond_false (congrArg Value.bool hb90) ?_
              refine Wp_skip ?_
              refine tn ?_
              refine Wp_seq ?_
              refine Wp_region_any (S := fun w' => ∃ Mx, M.le Mx ∧ St w' Mx F []) mixed ?_
              intro w95 hw96 E'
              replace S := S.heap hw96
              replace E := E.trans E'
              clear E'
              refine Wa_take (i := 0) rfl (by kernel_rfl) rfl rfl (.string (bs a0)) rfl (fun w' h' => x_move rfl) (⟨M, Hp.le_refl M, S.pick [] (by decide)⟩) ?_
              refine Wa_take (i := 1) rfl (by kernel_rfl) rfl rfl (.int .i64 x51) rfl (fun w' h' => x_move rfl) (⟨M, Hp.le_refl M, S.pick [] (by decide)⟩) ?_
              obtain ⟨⟨p97, p98⟩, H⟩ := chkS H
              refine Wa_take (i := 2) rfl (by kernel_rfl) rfl rfl (.int .u8 (((a0).getD (x51).toNat 0).toNat : Int)) rfl (fun w' h' => x_indexStr Try.underlying9 rfl rfl p97 p98) (⟨M, Hp.le_refl M, S.pick [] (by decide)⟩) ?_
              refine Wa_take (i := 3) rfl (by kernel_rfl) rfl rfl (.string (bs a1)) rfl (fun w' h' => x_move rfl) (⟨M, Hp.le_refl M, S.pick [] (by decide)⟩) ?_
              refine Wa_take (i := 4) rfl (by kernel_rfl) rfl rfl (.int .i64 x51) rfl (fun w' h' => x_move rfl) (⟨M, Hp.le_refl M, S.pick [] (by decide)⟩) ?_
              obtain ⟨⟨p99, p100⟩, H⟩ := chkS H
              refine Wa_take (i := 5) rfl (by kernel_rfl) rfl rfl (.int .u8 (((a1).getD (x51).toNat 0).toNat : Int)) rfl (fun w' h' => x_indexStr Try.underlying9 rfl rfl p99 p100) (⟨M, Hp.le_refl M, S.pick [] (by decide)⟩) ?_
              refine Wa_take (i := 6) rfl (by kernel_rfl) rfl rfl (.bool (decide ((((a0).getD (x51).toNat 0).toNat : Int) > (((a1).getD (x51).toNat 0).toNat : Int)))) rfl (fun w' h' => x_ibin rfl rfl rfl rfl) (⟨M, Hp.le_refl M, S.pick [] (by decide)⟩) ?_
              refine Wa_done (by kernel_rfl) ?_
              refine tn ?_
              rcases iteS H with ⟨hb101, H⟩ | ⟨hb101, H⟩
              · refine Wp_cond_true (congrArg Value.bool hb101) ?_
                refine Wp_seq ?_
                refine Wp_region_lit ?_
                refine W_v (.int .i64 1) (x_assign rfl) rfl ?_
                refine Wl_nil ?_
                refine tn ?_
                refine Wp_ret ?_
                refine br (tr (tr (br (tr (tr (?_))))))
                obtain rfl := Option.some.inj H
                have H := o76H
                replace H := elimL H
                obtain rfl := Option.some.inj H
                exact ⟨_, _, _, fun w1 e1 => run_resR (vs := [.int .i64 1]) (FA.cons (rfl) (FA.nil)), HM, E, S.pick [] (by decide), ⟨rfl, rfl⟩⟩
              · refine Wp_cond_false (congrArg Value.bool hb101) ?_
                refine Wp_skip ?_
                refine bn ?_
                refine tn ?_
                refine Wp_region_lit ?_
                refine W_v (.int .i64 x51) (x_move rfl) rfl ?_
                refine W_v (.int .i64 (IntKind.i64.wrap (x51 + (1 : Int)))) (x_ibin rfl rfl rfl rfl) rfl ?_
                refine W_v (.int .i64 (IntKind.i64.wrap (x51 + (1 : Int)))) (x_assign rfl) rfl ?_
                refine Wl_nil ?_
                refine tn ?_
                exact ⟨k, Nat.lt_succ_self k, ⟨(IntKind.i64.wrap (x51 + (1 : Int))), H, ⟨rfl, rfl, rfl, trivial⟩, E, S.pick [] (by decide)⟩⟩
          · refine Wp_cond_false (congrArg Value.bool hb79) ?_
            refine Wp_exit ?_
            refine tx (tx (bsm (?_)))
            refine tn ?_
            exact ⟨Option.some.inj H, ⟨rfl, rfl, trivial⟩, E, S.pick [] (by decide)⟩
  · clear o76h
    rintro ρ w102 ⟨rfl, hρ, E, S⟩
    rw [agree_eta hρ]
    clear hρ
    have H := o76H
    clear o76H
    replace H := elimR H
    refine tn ?_
    refine Wp_seq ?_
    refine Wp_seq ?_
    refine Wp_region_lit ?_
    refine W_v (.string (bs a0)) (x_move rfl) rfl ?_
    refine W_v (.int .i64 (a0.length : Int)) (x_len_str Try.underlying9 rfl) rfl ?_
    refine W_v (.string (bs a1)) (x_move rfl) rfl ?_
    refine W_v (.int .i64 (a1.length : Int)) (x_len_str Try.underlying9 rfl) rfl ?_
    refine W_v (.bool (decide ((a0.length : Int) < (a1.length : Int)))) (x_ibin rfl rfl rfl rfl) rfl ?_
    refine Wl_nil ?_
    refine tn ?_
    rcases iteS H with ⟨hb103, H⟩ | ⟨hb103, H⟩
    · refine Wp_cond_true (congrArg Value.bool hb103) ?_
      refine Wp_seq ?_
      refine Wp_region_lit ?_
      refine W_v (.int .i64 (-1)) (x_assign rfl) rfl ?_
      refine Wl_nil ?_
      refine tn ?_
      refine Wp_ret ?_
      refine tr (?_)
      obtain rfl := Option.some.inj H
      exact ⟨_, _, _, fun w1 e1 => run_resR (vs := [.int .i64 (-1)]) (FA.cons (rfl) (FA.nil)), HM, E, S.pick [] (by decide), ⟨rfl, rfl⟩⟩
    · refine Wp_cond_false (congrArg Value.bool hb103) ?_
      refine Wp_skip ?_
      refine tn ?_
      refine Wp_seq ?_
      refine Wp_seq ?_
      refine Wp_region_lit ?_
      refine W_v (.string (bs a0)) (x_move rfl) rfl ?_
      refine W_v (.int .i64 (a0.length : Int)) (x_len_str Try.underlying9 rfl) rfl ?_
      refine W_v (.string (bs a1)) (x_move rfl) rfl ?_
      refine W_v (.int .i64 (a1.length : Int)) (x_len_str Try.underlying9 rfl) rfl ?_
      refine W_v (.bool (decide ((a0.length : Int) > (a1.length : Int)))) (x_ibin rfl rfl rfl rfl) rfl ?_
      refine Wl_nil ?_
      refine tn ?_
      rcases iteS H with ⟨hb104, H⟩ | ⟨hb104, H⟩
      · refine Wp_cond_true (congrArg Value.bool hb104) ?_
        refine Wp_seq ?_
        refine Wp_region_lit ?_
        refine W_v (.int .i64 1) (x_assign rfl) rfl ?_
        refine Wl_nil ?_
        refine tn ?_
        refine Wp_ret ?_
        refine tr (?_)
        obtain rfl := Option.some.inj H
        exact ⟨_, _, _, fun w1 e1 => run_resR (vs := [.int .i64 1]) (FA.cons (rfl) (FA.nil)), HM, E, S.pick [] (by decide), ⟨rfl, rfl⟩⟩
      · refine Wp_cond_false (congrArg Value.bool hb104) ?_
        refine Wp_skip ?_
        refine tn ?_
        refine Wp_seq ?_
        refine Wp_region_lit ?_
        refine W_v (.int .i64 0) (x_assign rfl) rfl ?_
        refine Wl_nil ?_
        refine tn ?_
        refine Wp_ret ?_
        obtain rfl := Option.some.inj H
        exact ⟨_, _, _, fun w1 e1 => run_resR (vs := [.int .i64 0]) (FA.cons (rfl) (FA.nil)), HM, E, S.pick [] (by decide), ⟨rfl, rfl⟩⟩
/-! ### ferryman/ferrymanref02.Prefix: function 16 -/
def ferrymanref02_Prefix_l0 (a0 : Str) (a1 : Str) : Nat → Int → Option ((Int))
  | 0, _ => none
  | k + 1, x61 => (Option.bind (α := Bool) (if ((decide (x61 < (a0.length : Int))) && (decide (x61 < (a1.length : Int)))) = true then (if 0 ≤ x61 ∧ x61 < (a0.length : Int) then (if 0 ≤ x61 ∧ x61 < (a1.length : Int) then some (((((a0).getD (x61).toNat 0).toNat : Int) == (((a1).getD (x61).toNat 0).toNat : Int))) else none) else none) else some (false)) (fun x115 => (if x115 = true then ferrymanref02_Prefix_l0 a0 a1 k (IntKind.i64.wrap (x61 + (1 : Int))) else some (x61))))
set_option maxHeartbeats 2000000 in
theorem ferrymanref02_Prefix_l0.mono {a0 : Str} {a1 : Str} : ∀ {k : Nat} {x0}, OLe (ferrymanref02_Prefix_l0 a0 a1 k x0) (ferrymanref02_Prefix_l0 a0 a1 (k + 1) x0) := by
  intro k
  induction k with
  | zero => intros; exact OLe.none
  | succ k ih =>
    intros
    rw [ferrymanref02_Prefix_l0.eq_2, ferrymanref02_Prefix_l0.eq_2]
    repeat' (first | with_reducible exact OLe.none | with_reducible exact OLe.some | with_reducible refine OLe.ite ?_ ?_ | with_reducible refine OLe.bind ?_ (fun _ => ?_) | exact ih | refine OLe.bind ?_ (fun _ => ?_) | refine OLe.ite ?_ ?_ | refine OLe.elim (fun _ => ?_) (fun _ => ?_) | split)
def ferrymanref02_Prefix (k : Nat) (a0 : Str) (a1 : Str) : Option (Int) :=
  (Option.bind (ferrymanref02_Prefix_l0 a0 a1 k (0 : Int)) (fun x91 => some x91))
set_option maxHeartbeats 2000000 in
theorem ferrymanref02_Prefix.mono {k : Nat} {a0 : Str} {a1 : Str} : OLe (ferrymanref02_Prefix k a0 a1) (ferrymanref02_Prefix (k + 1) a0 a1) := by
  unfold ferrymanref02_Prefix
  repeat' (first | with_reducible exact OLe.none | with_reducible exact OLe.some | with_reducible refine OLe.ite ?_ ?_ | with_reducible refine OLe.bind ?_ (fun _ => ?_) | with_reducible exact ferrymanref02_Prefix_l0.mono | refine OLe.bind ?_ (fun _ => ?_) | refine OLe.ite ?_ ?_ | refine OLe.elim (fun _ => ?_) (fun _ => ?_) | split)
set_option maxHeartbeats 1000000 in
set_option maxRecDepth 100000 in
theorem ferrymanref02_Prefix.con (k : Nat) (M : Hp) (a0 : Str) (a1 : Str) (r : Int)  (h : ferrymanref02_Prefix k a0 a1 = some r) : Con Try.prog 16 #[.string (bs a0), .string (bs a1)] M [] (fun v M' Γ' => v = .int .i64 r ∧ Γ' = []) := by
  refine con_of_wp Try.func16 rfl Try.ntmps16 Try.results16 rfl ?_
  intro w F rn S hrn
  have E := Ext.refl w
  have HM := Hp.le_refl M
  have H := h
  unfold ferrymanref02_Prefix at H
  refine Wp_seq ?_
  refine Wp_region_lit ?_
  refine W_v (.int .i64 0) (x_assign rfl) rfl ?_
  refine Wl_nil ?_
  refine tn ?_
  refine Wp_seq ?_
  refine Wp_region_lit ?_
  refine W_v (.int .i64 0) (x_assign rfl) rfl ?_
  refine Wl_nil ?_
  refine tn ?_
  refine Wp_seq ?_
  obtain ⟨o92, o92h, o92H⟩ := bindS H
  clear H
  refine Wp_blockJ (fun ρ w' => ∃ (x91 : Int), (x91) = o92 ∧ Agree ρ [(5, .int .i64 x91)] ∧ Ext w w' ∧ St w' M F []) ?_ ?_
  · skip
    refine Wp_loop (fun n ρ w' => ∃ (x61 : Int), ferrymanref02_Prefix_l0 a0 a1 n x61 = some o92 ∧ Agree ρ [(0, .string (bs a0)), (1, .string (bs a1)), (5, .int .i64 x61)] ∧ Ext w w' ∧ St w' M F []) k ?_ ?_
    · skip
      exact ⟨(0 : Int), o92h, ⟨rfl, rfl, rfl, trivial⟩, E, S.pick [] (by decide)⟩
    · intro n
      rintro ρ w93 ⟨x61, H, hρ, E, S⟩
      rw [agree_eta hρ]
      clear hρ
      cases n with
      | zero => cases H
      | succ k =>
        rw [ferrymanref02_Prefix_l0.eq_2] at H
        refine Wp_seq ?_
        refine Wp_seq ?_
        refine Wp_region_any (S := fun w' => ∃ Mx, M.le Mx ∧ St w' Mx F []) mixed ?_
        intro w107 hw108 E'
        replace S := S.heap hw108
        replace E := E.trans E'
        clear E'
        refine Wa_take (i := 0) rfl (by kernel_rfl) rfl rfl (.int .i64 x61) rfl (fun w' h' => x_move rfl) (⟨M, Hp.le_refl M, S.pick [] (by decide)⟩) ?_
        refine Wa_take (i := 1) rfl (by kernel_rfl) rfl rfl (.string (bs a0)) rfl (fun w' h' => x_move rfl) (⟨M, Hp.le_refl M, S.pick [] (by decide)⟩) ?_
        refine Wa_take (i := 2) rfl (by kernel_rfl) rfl rfl (.int .i64 (a0.length : Int)) rfl (fun w' h' => x_len_str Try.underlying9 rfl) (⟨M, Hp.le_refl M, S.pick [] (by decide)⟩) ?_
        refine Wa_take (i := 3) rfl (by kernel_rfl) rfl rfl (.bool (decide (x61 < (a0.length : Int)))) rfl (fun w' h' => x_ibin rfl rfl rfl rfl) (⟨M, Hp.le_refl M, S.pick [] (by decide)⟩) ?_
        refine Wa_take (i := 4) rfl (by kernel_rfl) rfl rfl (.bool (decide (x61 < (a0.length : Int)))) rfl (fun w' h' => x_move rfl) (⟨M, Hp.le_refl M, S.pick [] (by decide)⟩) ?_
        refine Wa_join (fun ρ w' => Agree ρ [(0, .string (bs a0)), (1, .string (bs a1)), (5, .int .i64 x61), (15, .bool ((decide (x61 < (a0.length : Int))) && (decide (x61 < (a1.length : Int)))))] ∧ w107 = w') 9 (Ls 19 [0, 1, 2, 3, 4, 5, 6, 7, 8, 9]) ?_ ?_
        · rintro ρ _ ⟨hρ, rfl⟩
          rw [agree_eta hρ]
          clear hρ
          refine Wa_take (i := 10) rfl (by kernel_rfl) rfl rfl (.bool ((decide (x61 < (a0.length : Int))) && (decide (x61 < (a1.length : Int))))) rfl (fun w' h' => x_move rfl) (⟨M, Hp.le_refl M, S.pick [] (by decide)⟩) ?_
          obtain ⟨o116, o116h, o116H⟩ := bindS H
          clear H
          refine Wa_join (fun ρ w' => ∃ (x115 : Bool), (x115) = o116 ∧ Agree ρ [(0, .string (bs a0)), (1, .string (bs a1)), (5, .int .i64 x61), (24, .bool x115)] ∧ Ext w w' ∧ St w' M F []) 0 (Ls 19 [0, 1, 2, 3, 4, 5, 6, 7, 8, 9, 10, 11, 12, 13, 14, 15, 16, 17, 18]) ?_ ?_
          · clear o116h
            rintro ρ w117 ⟨x115, rfl, hρ, E, S⟩
            rw [agree_eta hρ]
            clear hρ
            have H := o116H
            clear o116H
            refine Wa_done (by kernel_rfl) ?_
            refine tn ?_
            rcases iteS H with ⟨hb118, H⟩ | ⟨hb118, H⟩
            · refine Wp_cond_true (congrArg Value.bool hb118) ?_
              refine Wp_skip ?_
              refine tn ?_
              refine Wp_block ?_
              refine Wp_region_lit ?_
              refine W_v (.int .i64 x61) (x_move rfl) rfl ?_
              refine W_v (.int .i64 (IntKind.i64.wrap (x61 + (1 : Int)))) (x_ibin rfl rfl rfl rfl) rfl ?_
              refine W_v (.int .i64 (IntKind.i64.wrap (x61 + (1 : Int)))) (x_assign rfl) rfl ?_
              refine Wl_nil ?_
              refine bn ?_
              refine tn ?_
              exact ⟨k, Nat.lt_succ_self k, ⟨(IntKind.i64.wrap (x61 + (1 : Int))), H, ⟨rfl, rfl, rfl, trivial⟩, E, S.pick [] (by decide)⟩⟩
            · refine Wp_cond_false (congrArg Value.bool hb118) ?_
              refine Wp_exit ?_
              refine tx (tx (bsm (?_)))
              refine tn ?_
              exact ⟨x61, Option.some.inj H, ⟨rfl, trivial⟩, E, S.pick [] (by decide)⟩
          · intro hrest
            have H := o116h
            clear o116h o116H
            rcases iteS H with ⟨hb114, H⟩ | ⟨hb114, H⟩
            · skip
              refine Wa_takeY (i := 11) rfl (by kernel_rfl) rfl rfl (.string (bs a0)) rfl (congrArg some hb114) (fun w' h' => x_move rfl) (⟨M, Hp.le_refl M, S.pick [] (by decide)⟩) ?_
              refine Wa_takeY (i := 12) rfl (by kernel_rfl) rfl rfl (.int .i64 x61) rfl (congrArg some hb114) (fun w' h' => x_move rfl) (⟨M, Hp.le_refl M, S.pick [] (by decide)⟩) ?_
              obtain ⟨⟨p119, p120⟩, H⟩ := chkS H
              refine Wa_takeY (i := 13) rfl (by kernel_rfl) rfl rfl (.int .u8 (((a0).getD (x61).toNat 0).toNat : Int)) rfl (congrArg some hb114) (fun w' h' => x_indexStr Try.underlying9 rfl rfl p119 p120) (⟨M, Hp.le_refl M, S.pick [] (by decide)⟩) ?_
              refine Wa_takeY (i := 14) rfl (by kernel_rfl) rfl rfl (.string (bs a1)) rfl (congrArg some hb114) (fun w' h' => x_move rfl) (⟨M, Hp.le_refl M, S.pick [] (by decide)⟩) ?_
              refine Wa_takeY (i := 15) rfl (by kernel_rfl) rfl rfl (.int .i64 x61) rfl (congrArg some hb114) (fun w' h' => x_move rfl) (⟨M, Hp.le_refl M, S.pick [] (by decide)⟩) ?_
              obtain ⟨⟨p121, p122⟩, H⟩ := chkS H
              refine Wa_takeY (i := 16) rfl (by kernel_rfl) rfl rfl (.int .u8 (((a1).getD (x61).toNat 0).toNat : Int)) rfl (congrArg some hb114) (fun w' h' => x_indexStr Try.underlying9 rfl rfl p121 p122) (⟨M, Hp.le_refl M, S.pick [] (by decide)⟩) ?_
              refine Wa_takeY (i := 17) rfl (by kernel_rfl) rfl rfl (.bool ((((a0).getD (x61).toNat 0).toNat : Int) == (((a1).getD (x61).toNat 0).toNat : Int))) rfl (congrArg some hb114) (fun w' h' => x_ibin rfl rfl rfl rfl) (⟨M, Hp.le_refl M, S.pick [] (by decide)⟩) ?_
              refine Wa_take (i := 18) rfl (by kernel_rfl) rfl rfl (.bool ((((a0).getD (x61).toNat 0).toNat : Int) == (((a1).getD (x61).toNat 0).toNat : Int))) rfl (fun w' h' => x_pick (k := true) (congrArg Value.bool hb114) rfl) (⟨M, Hp.le_refl M, S.pick [] (by decide)⟩) ?_
              exact hrest _ _ ⟨((((a0).getD (x61).toNat 0).toNat : Int) == (((a1).getD (x61).toNat 0).toNat : Int)), Option.some.inj H, ⟨rfl, rfl, rfl, rfl, trivial⟩, E, S.pick [] (by decide)⟩
            · skip
              refine Wa_takeN (i := 11) rfl (by kernel_rfl) rfl rfl rfl (skT hb114) (⟨M, Hp.le_refl M, S.pick [] (by decide)⟩) ?_
              refine Wa_takeN (i := 12) rfl (by kernel_rfl) rfl rfl rfl (skT hb114) (⟨M, Hp.le_refl M, S.pick [] (by decide)⟩) ?_
              refine Wa_takeN (i := 13) rfl (by kernel_rfl) rfl rfl rfl (skT hb114) (⟨M, Hp.le_refl M, S.pick [] (by decide)⟩) ?_
              refine Wa_takeN (i := 14) rfl (by kernel_rfl) rfl rfl rfl (skT hb114) (⟨M, Hp.le_refl M, S.pick [] (by decide)⟩) ?_
              refine Wa_takeN (i := 15) rfl (by kernel_rfl) rfl rfl rfl (skT hb114) (⟨M, Hp.le_refl M, S.pick [] (by decide)⟩) ?_
              refine Wa_takeN (i := 16) rfl (by kernel_rfl) rfl rfl rfl (skT hb114) (⟨M, Hp.le_refl M, S.pick [] (by decide)⟩) ?_
              refine Wa_takeN (i := 17) rfl (by kernel_rfl) rfl rfl rfl (skT hb114) (⟨M, Hp.le_refl M, S.pick [] (by decide)⟩) ?_
              refine Wa_take (i := 18) rfl (by kernel_rfl) rfl rfl (.bool false) rfl (fun w' h' => x_pick (k := false) (congrArg Value.bool hb114) rfl) (⟨M, Hp.le_refl M, S.pick [] (by decide)⟩) ?_
              exact hrest _ _ ⟨false, Option.some.inj H, ⟨rfl, rfl, rfl, rfl, trivial⟩, E, S.pick [] (by decide)⟩
        · intro hrest
          rcases boolCases (decide (x61 < (a0.length : Int))) with hb109 | hb109
          · skip
            refine Wa_takeN (i := 5) rfl (by kernel_rfl) rfl rfl rfl (skT hb109) (⟨M, Hp.le_refl M, S.pick [] (by decide)⟩) ?_
            refine Wa_takeN (i := 6) rfl (by kernel_rfl) rfl rfl rfl (skT hb109) (⟨M, Hp.le_refl M, S.pick [] (by decide)⟩) ?_
            refine Wa_takeN (i := 7) rfl (by kernel_rfl) rfl rfl rfl (skT hb109) (⟨M, Hp.le_refl M, S.pick [] (by decide)⟩) ?_
            refine Wa_takeN (i := 8) rfl (by kernel_rfl) rfl rfl rfl (skT hb109) (⟨M, Hp.le_refl M, S.pick [] (by decide)⟩) ?_
            refine Wa_take (i := 9) rfl (by kernel_rfl) rfl rfl (.bool false) rfl (fun w' h' => x_pick (k := false) (congrArg Value.bool hb109) rfl) (⟨M, Hp.le_refl M, S.pick [] (by decide)⟩) ?_
            exact hrest _ _ ⟨⟨rfl, rfl, rfl, (by first | rfl | (rw [hb109]; rfl) | (simp only [hb109]; rfl)), trivial⟩, rfl⟩
          · skip
            refine Wa_takeY (i := 5) rfl (by kernel_rfl) rfl rfl (.int .i64 x61) rfl (congrArg some hb109) (fun w' h' => x_move rfl) (⟨M, Hp.le_refl M, S.pick [] (by decide)⟩) ?_
            refine Wa_takeY (i := 6) rfl (by kernel_rfl) rfl rfl (.string (bs a1)) rfl (congrArg some hb109) (fun w' h' => x_move rfl) (⟨M, Hp.le_refl M, S.pick [] (by decide)⟩) ?_
            refine Wa_takeY (i := 7) rfl (by kernel_rfl) rfl rfl (.int .i64 (a1.length : Int)) rfl (congrArg some hb109) (fun w' h' => x_len_str Try.underlying9 rfl) (⟨M, Hp.le_refl M, S.pick [] (by decide)⟩) ?_
            refine Wa_takeY (i := 8) rfl (by kernel_rfl) rfl rfl (.bool (decide (x61 < (a1.length : Int)))) rfl (congrArg some hb109) (fun w' h' => x_ibin rfl rfl rfl rfl) (⟨M, Hp.le_refl M, S.pick [] (by decide)⟩) ?_
            refine Wa_take (i := 9) rfl (by kernel_rfl) rfl rfl (.bool (decide (x61 < (a1.length : Int)))) rfl (fun w' h' => x_pick (k := true) (congrArg Value.bool hb109) rfl) (⟨M, Hp.le_refl M, S.pick [] (by decide)⟩) ?_
            exact hrest _ _ ⟨⟨rfl, rfl, rfl, (by first | rfl | (rw [hb109]; rfl) | (simp only [hb109]; rfl)), trivial⟩, rfl⟩
  · clear o92h
    rintro ρ w123 ⟨x91, rfl, hρ, E, S⟩
    rw [agree_eta hρ]
    clear hρ
    have H := o92H
    clear o92H
    refine tn ?_
    refine Wp_seq ?_
    refine Wp_region_lit ?_
    refine W_v (.int .i64 x91) (x_move rfl) rfl ?_
    refine W_v (.int .i64 x91) (x_assign rfl) rfl ?_
    refine Wl_nil ?_
    refine tn ?_
    refine Wp_ret ?_
    obtain rfl := Option.some.inj H
    exact ⟨_, _, _, fun w1 e1 => run_resR (vs := [.int .i64 x91]) (FA.cons (rfl) (FA.nil)), HM, E, S.pick [] (by decide), ⟨rfl, rfl⟩⟩
/-! ### ferryman/ferrymanref02.Suffix: function 18 -/
def ferrymanref02_Suffix_l0 (a0 : Str) (a1 : Str) (a2 : Int) : Nat → Int → Option ((Int))
  | 0, _ => none
  | k + 1, x65 => (Option.bind (α := Bool) (if (((decide (x65 < a2)) && (decide (x65 < (a0.length : Int)))) && (decide (x65 < (a1.length : Int)))) = true then (if 0 ≤ (IntKind.i64.wrap ((IntKind.i64.wrap ((a0.length : Int) - (1 : Int))) - x65)) ∧ (IntKind.i64.wrap ((IntKind.i64.wrap ((a0.length : Int) - (1 : Int))) - x65)) < (a0.length : Int) then (if 0 ≤ (IntKind.i64.wrap ((IntKind.i64.wrap ((a1.length : Int) - (1 : Int))) - x65)) ∧ (IntKind.i64.wrap ((IntKind.i64.wrap ((a1.length : Int) - (1 : Int))) - x65)) < (a1.length : Int) then some (((((a0).getD ((IntKind.i64.wrap ((IntKind.i64.wrap ((a0.length : Int) - (1 : Int))) - x65))).toNat 0).toNat : Int) == (((a1).getD ((IntKind.i64.wrap ((IntKind.i64.wrap ((a1.length : Int) - (1 : Int))) - x65))).toNat 0).toNat : Int))) else none) else none) else some (false)) (fun x123 => (if x123 = true then ferrymanref02_Suffix_l0 a0 a1 a2 k (IntKind.i64.wrap (x65 + (1 : Int))) else some (x65))))
set_option maxHeartbeats 2000000 in
theorem ferrymanref02_Suffix_l0.mono {a0 : Str} {a1 : Str} {a2 : Int} : ∀ {k : Nat} {x0}, OLe (ferrymanref02_Suffix_l0 a0 a1 a2 k x0) (ferrymanref02_Suffix_l0 a0 a1 a2 (k + 1) x0) := by
  intro k
  induction k with
  | zero => intros; exact OLe.none
  | succ k ih =>
    intros
    rw [ferrymanref02_Suffix_l0.eq_2, ferrymanref02_Suffix_l0.eq_2]
    repeat' (first | with_reducible exact OLe.none | with_reducible exact OLe.some | with_reducible refine OLe.ite ?_ ?_ | with_reducible refine OLe.bind ?_ (fun _ => ?_) | exact ih | refine OLe.bind ?_ (fun _ => ?_) | refine OLe.ite ?_ ?_ | refine OLe.elim (fun _ => ?_) (fun _ => ?_) | split)
def ferrymanref02_Suffix (k : Nat) (a0 : Str) (a1 : Str) (a2 : Int) : Option (Int) :=
  (Option.bind (ferrymanref02_Suffix_l0 a0 a1 a2 k (0 : Int)) (fun x97 => some x97))
set_option maxHeartbeats 2000000 in
theorem ferrymanref02_Suffix.mono {k : Nat} {a0 : Str} {a1 : Str} {a2 : Int} : OLe (ferrymanref02_Suffix k a0 a1 a2) (ferrymanref02_Suffix (k + 1) a0 a1 a2) := by
  unfold ferrymanref02_Suffix
  repeat' (first | with_reducible exact OLe.none | with_reducible exact OLe.some | with_reducible refine OLe.ite ?_ ?_ | with_reducible refine OLe.bind ?_ (fun _ => ?_) | with_reducible exact ferrymanref02_Suffix_l0.mono | refine OLe.bind ?_ (fun _ => ?_) | refine OLe.ite ?_ ?_ | refine OLe.elim (fun _ => ?_) (fun _ => ?_) | split)
set_option maxHeartbeats 1000000 in
set_option maxRecDepth 100000 in
theorem ferrymanref02_Suffix.con (k : Nat) (M : Hp) (a0 : Str) (a1 : Str) (a2 : Int) (r : Int)  (h : ferrymanref02_Suffix k a0 a1 a2 = some r) : Con Try.prog 18 #[.string (bs a0), .string (bs a1), .int .i64 a2] M [] (fun v M' Γ' => v = .int .i64 r ∧ Γ' = []) := by
  refine con_of_wp Try.func18 rfl Try.ntmps18 Try.results18 rfl ?_
  intro w F rn S hrn
  have E := Ext.refl w
  have HM := Hp.le_refl M
  have H := h
  unfold ferrymanref02_Suffix at H
  refine Wp_seq ?_
  refine Wp_region_lit ?_
  refine W_v (.int .i64 0) (x_assign rfl) rfl ?_
  refine Wl_nil ?_
  refine tn ?_
  refine Wp_seq ?_
  refine Wp_region_lit ?_
  refine W_v (.int .i64 0) (x_assign rfl) rfl ?_
  refine Wl_nil ?_
  refine tn ?_
  refine Wp_seq ?_
  obtain ⟨o98, o98h, o98H⟩ := bindS H
  clear H
  refine Wp_blockJ (fun ρ w' => ∃ (x97 : Int), (x97) = o98 ∧ Agree ρ [(7, .int .i64 x97)] ∧ Ext w w' ∧ St w' M F []) ?_ ?_
  · skip
    refine Wp_loop (fun n ρ w' => ∃ (x65 : Int), ferrymanref02_Suffix_l0 a0 a1 a2 n x65 = some o98 ∧ Agree ρ [(0, .string (bs a0)), (1, .string (bs a1)), (2, .int .i64 a2), (7, .int .i64 x65)] ∧ Ext w w' ∧ St w' M F []) k ?_ ?_
    · skip
      exact ⟨(0 : Int), o98h, ⟨rfl, rfl, rfl, rfl, trivial⟩, E, S.pick [] (by decide)⟩
    · intro n
      rintro ρ w99 ⟨x65, H, hρ, E, S⟩
      rw [agree_eta hρ]
      clear hρ
      cases n with
      | zero => cases H
      | succ k =>
        rw [ferrymanref02_Suffix_l0.eq_2] at H
        refine Wp_seq ?_
        refine Wp_seq ?_
        refine Wp_region_any (S := fun w' => ∃ Mx, M.le Mx ∧ St w' Mx F []) mixed ?_
        intro w114 hw115 E'
        replace S := S.heap hw115
        replace E := E.trans E'
        clear E'
        refine Wa_take (i := 0) rfl (by kernel_rfl) rfl rfl (.int .i64 x65) rfl (fun w' h' => x_move rfl) (⟨M, Hp.le_refl M, S.pick [] (by decide)⟩) ?_
        refine Wa_take (i := 1) rfl (by kernel_rfl) rfl rfl (.int .i64 a2) rfl (fun w' h' => x_move rfl) (⟨M, Hp.le_refl M, S.pick [] (by decide)⟩) ?_
        refine Wa_take (i := 2) rfl (by kernel_rfl) rfl rfl (.bool (decide (x65 < a2))) rfl (fun w' h' => x_ibin rfl rfl rfl rfl) (⟨M, Hp.le_refl M, S.pick [] (by decide)⟩) ?_
        refine Wa_take (i := 3) rfl (by kernel_rfl) rfl rfl (.bool (decide (x65 < a2))) rfl (fun w' h' => x_move rfl) (⟨M, Hp.le_refl M, S.pick [] (by decide)⟩) ?_
        refine Wa_join (fun ρ w' => Agree ρ [(0, .string (bs a0)), (1, .string (bs a1)), (2, .int .i64 a2), (7, .int .i64 x65), (16, .bool ((decide (x65 < a2)) && (decide (x65 < (a0.length : Int)))))] ∧ w114 = w') 23 (Ls 32 [0, 1, 2, 3, 4, 5, 6, 7, 8]) ?_ ?_
        · rintro ρ _ ⟨hρ, rfl⟩
          rw [agree_eta hρ]
          clear hρ
          refine Wa_take (i := 9) rfl (by kernel_rfl) rfl rfl (.bool ((decide (x65 < a2)) && (decide (x65 < (a0.length : Int))))) rfl (fun w' h' => x_move rfl) (⟨M, Hp.le_refl M, S.pick [] (by decide)⟩) ?_
          refine Wa_join (fun ρ w' => Agree ρ [(0, .string (bs a0)), (1, .string (bs a1)), (2, .int .i64 a2), (7, .int .i64 x65), (22, .bool (((decide (x65 < a2)) && (decide (x65 < (a0.length : Int)))) && (decide (x65 < (a1.length : Int)))))] ∧ w114 = w') 17 (Ls 32 [0, 1, 2, 3, 4, 5, 6, 7, 8, 9, 10, 11, 12, 13, 14]) ?_ ?_
          · rintro ρ _ ⟨hρ, rfl⟩
            rw [agree_eta hρ]
            clear hρ
            refine Wa_take (i := 15) rfl (by kernel_rfl) rfl rfl (.bool (((decide (x65 < a2)) && (decide (x65 < (a0.length : Int)))) && (decide (x65 < (a1.length : Int))))) rfl (fun w' h' => x_move rfl) (⟨M, Hp.le_refl M, S.pick [] (by decide)⟩) ?_
            obtain ⟨o124, o124h, o124H⟩ := bindS H
            clear H
            refine Wa_join (fun ρ w' => ∃ (x123 : Bool), (x123) = o124 ∧ Agree ρ [(0, .string (bs a0)), (1, .string (bs a1)), (2, .int .i64 a2), (7, .int .i64 x65), (39, .bool x123)] ∧ Ext w w' ∧ St w' M F []) 0 (Ls 32 [0, 1, 2, 3, 4, 5, 6, 7, 8, 9, 10, 11, 12, 13, 14, 15, 16, 17, 18, 19, 20, 21, 22, 23, 24, 25, 26, 27, 28, 29, 30, 31]) ?_ ?_
            · clear o124h
              rintro ρ w125 ⟨x123, rfl, hρ, E, S⟩
              rw [agree_eta hρ]
              clear hρ
              have H := o124H
              clear o124H
              refine Wa_done (by kernel_rfl) ?_
              refine tn ?_
              rcases iteS H with ⟨hb126, H⟩ | ⟨hb126, H⟩
              · refine Wp_cond_true (congrArg Value.bool hb126) ?_
                refine Wp_skip ?_
                refine tn ?_
                refine Wp_block ?_
                refine Wp_region_lit ?_
                refine W_v (.int .i64 x65) (x_move rfl) rfl ?_
                refine W_v (.int .i64 (IntKind.i64.wrap (x65 + (1 : Int)))) (x_ibin rfl rfl rfl rfl) rfl ?_
                refine W_v (.int .i64 (IntKind.i64.wrap (x65 + (1 : Int)))) (x_assign rfl) rfl ?_
                refine Wl_nil ?_
                refine bn ?_
                refine tn ?_
                exact ⟨k, Nat.lt_succ_self k, ⟨(IntKind.i64.wrap (x65 + (1 : Int))), H, ⟨rfl, rfl, rfl, rfl, trivial⟩, E, S.pick [] (by decide)⟩⟩
              · refine Wp_cond_false (congrArg Value.bool hb126) ?_
                refine Wp_exit ?_
                refine tx (tx (bsm (?_)))
                refine tn ?_
                exact ⟨x65, Option.some.inj H, ⟨rfl, trivial⟩, E, S.pick [] (by decide)⟩
            · intro hrest
              have H := o124h
              clear o124h o124H
              rcases iteS H with ⟨hb122, H⟩ | ⟨hb122, H⟩
              · skip
                refine Wa_takeY (i := 16) rfl (by kernel_rfl) rfl rfl (.string (bs a0)) rfl (congrArg some hb122) (fun w' h' => x_move rfl) (⟨M, Hp.le_refl M, S.pick [] (by decide)⟩) ?_
                refine Wa_takeY (i := 17) rfl (by kernel_rfl) rfl rfl (.string (bs a0)) rfl (congrArg some hb122) (fun w' h' => x_move rfl) (⟨M, Hp.le_refl M, S.pick [] (by decide)⟩) ?_
                refine Wa_takeY (i := 18) rfl (by kernel_rfl) rfl rfl (.int .i64 (a0.length : Int)) rfl (congrArg some hb122) (fun w' h' => x_len_str Try.underlying9 rfl) (⟨M, Hp.le_refl M, S.pick [] (by decide)⟩) ?_
                refine Wa_takeY (i := 19) rfl (by kernel_rfl) rfl rfl (.int .i64 (IntKind.i64.wrap ((a0.length : Int) - (1 : Int)))) rfl (congrArg some hb122) (fun w' h' => x_ibin rfl rfl rfl rfl) (⟨M, Hp.le_refl M, S.pick [] (by decide)⟩) ?_
                refine Wa_takeY (i := 20) rfl (by kernel_rfl) rfl rfl (.int .i64 x65) rfl (congrArg some hb122) (fun w' h' => x_move rfl) (⟨M, Hp.le_refl M, S.pick [] (by decide)⟩) ?_
                refine Wa_takeY (i := 21) rfl (by kernel_rfl) rfl rfl (.int .i64 (IntKind.i64.wrap ((IntKind.i64.wrap ((a0.length : Int) - (1 : Int))) - x65))) rfl (congrArg some hb122) (fun w' h' => x_ibin rfl rfl rfl rfl) (⟨M, Hp.le_refl M, S.pick [] (by decide)⟩) ?_
                obtain ⟨⟨p127, p128⟩, H⟩ := chkS H
                refine Wa_takeY (i := 22) rfl (by kernel_rfl) rfl rfl (.int .u8 (((a0).getD ((IntKind.i64.wrap ((IntKind.i64.wrap ((a0.length : Int) - (1 : Int))) - x65))).toNat 0).toNat : Int)) rfl (congrArg some hb122) (fun w' h' => x_indexStr Try.underlying9 rfl rfl p127 p128) (⟨M, Hp.le_refl M, S.pick [] (by decide)⟩) ?_
                refine Wa_takeY (i := 23) rfl (by kernel_rfl) rfl rfl (.string (bs a1)) rfl (congrArg some hb122) (fun w' h' => x_move rfl) (⟨M, Hp.le_refl M, S.pick [] (by decide)⟩) ?_
                refine Wa_takeY (i := 24) rfl (by kernel_rfl) rfl rfl (.string (bs a1)) rfl (congrArg some hb122) (fun w' h' => x_move rfl) (⟨M, Hp.le_refl M, S.pick [] (by decide)⟩) ?_
                refine Wa_takeY (i := 25) rfl (by kernel_rfl) rfl rfl (.int .i64 (a1.length : Int)) rfl (congrArg some hb122) (fun w' h' => x_len_str Try.underlying9 rfl) (⟨M, Hp.le_refl M, S.pick [] (by decide)⟩) ?_
                refine Wa_takeY (i := 26) rfl (by kernel_rfl) rfl rfl (.int .i64 (IntKind.i64.wrap ((a1.length : Int) - (1 : Int)))) rfl (congrArg some hb122) (fun w' h' => x_ibin rfl rfl rfl rfl) (⟨M, Hp.le_refl M, S.pick [] (by decide)⟩) ?_
                refine Wa_takeY (i := 27) rfl (by kernel_rfl) rfl rfl (.int .i64 x65) rfl (congrArg some hb122) (fun w' h' => x_move rfl) (⟨M, Hp.le_refl M, S.pick [] (by decide)⟩) ?_
                refine Wa_takeY (i := 28) rfl (by kernel_rfl) rfl rfl (.int .i64 (IntKind.i64.wrap ((IntKind.i64.wrap ((a1.length : Int) - (1 : Int))) - x65))) rfl (congrArg some hb122) (fun w' h' => x_ibin rfl rfl rfl rfl) (⟨M, Hp.le_refl M, S.pick [] (by decide)⟩) ?_
                obtain ⟨⟨p129, p130⟩, H⟩ := chkS H
                refine Wa_takeY (i := 29) rfl (by kernel_rfl) rfl rfl (.int .u8 (((a1).getD ((IntKind.i64.wrap ((IntKind.i64.wrap ((a1.length : Int) - (1 : Int))) - x65))).toNat 0).toNat : Int)) rfl (congrArg some hb122) (fun w' h' => x_indexStr Try.underlying9 rfl rfl p129 p130) (⟨M, Hp.le_refl M, S.pick [] (by decide)⟩) ?_
                refine Wa_takeY (i := 30) rfl (by kernel_rfl) rfl rfl (.bool ((((a0).getD ((IntKind.i64.wrap ((IntKind.i64.wrap ((a0.length : Int) - (1 : Int))) - x65))).toNat 0).toNat : Int) == (((a1).getD ((IntKind.i64.wrap ((IntKind.i64.wrap ((a1.length : Int) - (1 : Int))) - x65))).toNat 0).toNat : Int))) rfl (congrArg some hb122) (fun w' h' => x_ibin rfl rfl rfl rfl) (⟨M, Hp.le_refl M, S.pick [] (by decide)⟩) ?_
                refine Wa_take (i := 31) rfl (by kernel_rfl) rfl rfl (.bool ((((a0).getD ((IntKind.i64.wrap ((IntKind.i64.wrap ((a0.length : Int) - (1 : Int))) - x65))).toNat 0).toNat : Int) == (((a1).getD ((IntKind.i64.wrap ((IntKind.i64.wrap ((a1.length : Int) - (1 : Int))) - x65))).toNat 0).toNat : Int))) rfl (fun w' h' => x_pick (k := true) (congrArg Value.bool hb122) rfl) (⟨M, Hp.le_refl M, S.pick [] (by decide)⟩) ?_
                exact hrest _ _ ⟨((((a0).getD ((IntKind.i64.wrap ((IntKind.i64.wrap ((a0.length : Int) - (1 : Int))) - x65))).toNat 0).toNat : Int) == (((a1).getD ((IntKind.i64.wrap ((IntKind.i64.wrap ((a1.length : Int) - (1 : Int))) - x65))).toNat 0).toNat : Int)), Option.some.inj H, ⟨rfl, rfl, rfl, rfl, rfl, trivial⟩, E, S.pick [] (by decide)⟩
              · skip
                refine Wa_takeN (i := 16) rfl (by kernel_rfl) rfl rfl rfl (skT hb122) (⟨M, Hp.le_refl M, S.pick [] (by decide)⟩) ?_
                refine Wa_takeN (i := 17) rfl (by kernel_rfl) rfl rfl rfl (skT hb122) (⟨M, Hp.le_refl M, S.pick [] (by decide)⟩) ?_
                refine Wa_takeN (i := 18) rfl (by kernel_rfl) rfl rfl rfl (skT hb122) (⟨M, Hp.le_refl M, S.pick [] (by decide)⟩) ?_
                refine Wa_takeN (i := 19) rfl (by kernel_rfl) rfl rfl rfl (skT hb122) (⟨M, Hp.le_refl M, S.pick [] (by decide)⟩) ?_
                refine Wa_takeN (i := 20) rfl (by kernel_rfl) rfl rfl rfl (skT hb122) (⟨M, Hp.le_refl M, S.pick [] (by decide)⟩) ?_
                refine Wa_takeN (i := 21) rfl (by kernel_rfl) rfl rfl rfl (skT hb122) (⟨M, Hp.le_refl M, S.pick [] (by decide)⟩) ?_
                refine Wa_takeN (i := 22) rfl (by kernel_rfl) rfl rfl rfl (skT hb122) (⟨M, Hp.le_refl M, S.pick [] (by decide)⟩) ?_
                refine Wa_takeN (i := 23) rfl (by kernel_rfl) rfl rfl rfl (skT hb122) (⟨M, Hp.le_refl M, S.pick [] (by decide)⟩) ?_
                refine Wa_takeN (i := 24) rfl (by kernel_rfl) rfl rfl rfl (skT hb122) (⟨M, Hp.le_refl M, S.pick [] (by decide)⟩) ?_
                refine Wa_takeN (i := 25) rfl (by kernel_rfl) rfl rfl rfl (skT hb122) (⟨M, Hp.le_refl M, S.pick [] (by decide)⟩) ?_
                refine Wa_takeN (i := 26) rfl (by kernel_rfl) rfl rfl rfl (skT hb122) (⟨M, Hp.le_refl M, S.pick [] (by decide)⟩) ?_
                refine Wa_takeN (i := 27) rfl (by kernel_rfl) rfl rfl rfl (skT hb122) (⟨M, Hp.le_refl M, S.pick [] (by decide)⟩) ?_
                refine Wa_takeN (i := 28) rfl (by kernel_rfl) rfl rfl rfl (skT hb122) (⟨M, Hp.le_refl M, S.pick [] (by decide)⟩) ?_
                refine Wa_takeN (i := 29) rfl (by kernel_rfl) rfl rfl rfl (skT hb122) (⟨M, Hp.le_refl M, S.pick [] (by decide)⟩) ?_
                refine Wa_takeN (i := 30) rfl (by kernel_rfl) rfl rfl rfl (skT hb122) (⟨M, Hp.le_refl M, S.pick [] (by decide)⟩) ?_
                refine Wa_take (i := 31) rfl (by kernel_rfl) rfl rfl (.bool false) rfl (fun w' h' => x_pick (k := false) (congrArg Value.bool hb122) rfl) (⟨M, Hp.le_refl M, S.pick [] (by decide)⟩) ?_
                exact hrest _ _ ⟨false, Option.some.inj H, ⟨rfl, rfl, rfl, rfl, rfl, trivial⟩, E, S.pick [] (by decide)⟩
          · intro hrest
            rcases boolCases ((decide (x65 < a2)) && (decide (x65 < (a0.length : Int)))) with hb117 | hb117
            · skip
              refine Wa_takeN (i := 10) rfl (by kernel_rfl) rfl rfl rfl (skT hb117) (⟨M, Hp.le_refl M, S.pick [] (by decide)⟩) ?_
              refine Wa_takeN (i := 11) rfl (by kernel_rfl) rfl rfl rfl (skT hb117) (⟨M, Hp.le_refl M, S.pick [] (by decide)⟩) ?_
              refine Wa_takeN (i := 12) rfl (by kernel_rfl) rfl rfl rfl (skT hb117) (⟨M, Hp.le_refl M, S.pick [] (by decide)⟩) ?_
              refine Wa_takeN (i := 13) rfl (by kernel_rfl) rfl rfl rfl (skT hb117) (⟨M, Hp.le_refl M, S.pick [] (by decide)⟩) ?_
              refine Wa_take (i := 14) rfl (by kernel_rfl) rfl rfl (.bool false) rfl (fun w' h' => x_pick (k := false) (congrArg Value.bool hb117) rfl) (⟨M, Hp.le_refl M, S.pick [] (by decide)⟩) ?_
              exact hrest _ _ ⟨⟨rfl, rfl, rfl, rfl, (by first | rfl | (rw [hb117]; rfl) | (simp only [hb117]; rfl)), trivial⟩, rfl⟩
            · skip
              refine Wa_takeY (i := 10) rfl (by kernel_rfl) rfl rfl (.int .i64 x65) rfl (congrArg some hb117) (fun w' h' => x_move rfl) (⟨M, Hp.le_refl M, S.pick [] (by decide)⟩) ?_
              refine Wa_takeY (i := 11) rfl (by kernel_rfl) rfl rfl (.string (bs a1)) rfl (congrArg some hb117) (fun w' h' => x_move rfl) (⟨M, Hp.le_refl M, S.pick [] (by decide)⟩) ?_
              refine Wa_takeY (i := 12) rfl (by kernel_rfl) rfl rfl (.int .i64 (a1.length : Int)) rfl (congrArg some hb117) (fun w' h' => x_len_str Try.underlying9 rfl) (⟨M, Hp.le_refl M, S.pick [] (by decide)⟩) ?_
              refine Wa_takeY (i := 13) rfl (by kernel_rfl) rfl rfl (.bool (decide (x65 < (a1.length : Int)))) rfl (congrArg some hb117) (fun w' h' => x_ibin rfl rfl rfl rfl) (⟨M, Hp.le_refl M, S.pick [] (by decide)⟩) ?_
              refine Wa_take (i := 14) rfl (by kernel_rfl) rfl rfl (.bool (decide (x65 < (a1.length : Int)))) rfl (fun w' h' => x_pick (k := true) (congrArg Value.bool hb117) rfl) (⟨M, Hp.le_refl M, S.pick [] (by decide)⟩) ?_
              exact hrest _ _ ⟨⟨rfl, rfl, rfl, rfl, (by first | rfl | (rw [hb117]; rfl) | (simp only [hb117]; rfl)), trivial⟩, rfl⟩
        · intro hrest
          rcases boolCases (decide (x65 < a2)) with hb116 | hb116
          · skip
            refine Wa_takeN (i := 4) rfl (by kernel_rfl) rfl rfl rfl (skT hb116) (⟨M, Hp.le_refl M, S.pick [] (by decide)⟩) ?_
            refine Wa_takeN (i := 5) rfl (by kernel_rfl) rfl rfl rfl (skT hb116) (⟨M, Hp.le_refl M, S.pick [] (by decide)⟩) ?_
            refine Wa_takeN (i := 6) rfl (by kernel_rfl) rfl rfl rfl (skT hb116) (⟨M, Hp.le_refl M, S.pick [] (by decide)⟩) ?_
            refine Wa_takeN (i := 7) rfl (by kernel_rfl) rfl rfl rfl (skT hb116) (⟨M, Hp.le_refl M, S.pick [] (by decide)⟩) ?_
            refine Wa_take (i := 8) rfl (by kernel_rfl) rfl rfl (.bool false) rfl (fun w' h' => x_pick (k := false) (congrArg Value.bool hb116) rfl) (⟨M, Hp.le_refl M, S.pick [] (by decide)⟩) ?_
            exact hrest _ _ ⟨⟨rfl, rfl, rfl, rfl, (by first | rfl | (rw [hb116]; rfl) | (simp only [hb116]; rfl)), trivial⟩, rfl⟩
          · skip
            refine Wa_takeY (i := 4) rfl (by kernel_rfl) rfl rfl (.int .i64 x65) rfl (congrArg some hb116) (fun w' h' => x_move rfl) (⟨M, Hp.le_refl M, S.pick [] (by decide)⟩) ?_
            refine Wa_takeY (i := 5) rfl (by kernel_rfl) rfl rfl (.string (bs a0)) rfl (congrArg some hb116) (fun w' h' => x_move rfl) (⟨M, Hp.le_refl M, S.pick [] (by decide)⟩) ?_
            refine Wa_takeY (i := 6) rfl (by kernel_rfl) rfl rfl (.int .i64 (a0.length : Int)) rfl (congrArg some hb116) (fun w' h' => x_len_str Try.underlying9 rfl) (⟨M, Hp.le_refl M, S.pick [] (by decide)⟩) ?_
            refine Wa_takeY (i := 7) rfl (by kernel_rfl) rfl rfl (.bool (decide (x65 < (a0.length : Int)))) rfl (congrArg some hb116) (fun w' h' => x_ibin rfl rfl rfl rfl) (⟨M, Hp.le_refl M, S.pick [] (by decide)⟩) ?_
            refine Wa_take (i := 8) rfl (by kernel_rfl) rfl rfl (.bool (decide (x65 < (a0.length : Int)))) rfl (fun w' h' => x_pick (k := true) (congrArg Value.bool hb116) rfl) (⟨M, Hp.le_refl M, S.pick [] (by decide)⟩) ?_
            exact hrest _ _ ⟨⟨rfl, rfl, rfl, rfl, (by first | rfl | (rw [hb116]; rfl) | (simp only [hb116]; rfl)), trivial⟩, rfl⟩
  · clear o98h
    rintro ρ w131 ⟨x97, rfl, hρ, E, S⟩
    rw [agree_eta hρ]
    clear hρ
    have H := o98H
    clear o98H
    refine tn ?_
    refine Wp_seq ?_
    refine Wp_region_lit ?_
    refine W_v (.int .i64 x97) (x_move rfl) rfl ?_
    refine W_v (.int .i64 x97) (x_assign rfl) rfl ?_
    refine Wl_nil ?_
    refine tn ?_
    refine Wp_ret ?_
    obtain rfl := Option.some.inj H
    exact ⟨_, _, _, fun w1 e1 => run_resR (vs := [.int .i64 x97]) (FA.cons (rfl) (FA.nil)), HM, E, S.pick [] (by decide), ⟨rfl, rfl⟩⟩
/-! ### ferryman/ferrymanref02.Next: function 20 -/
def ferrymanref02_Next (k : Nat) (a0 : Str) : Option (Str) :=
  (if (a0.length : Int) + (bytesOf ([(0 : Int)] : List Int)).length ≤ 9223372036854775807 then some (a0 ++ (bytesOf ([(0 : Int)] : List Int))) else none)
set_option maxHeartbeats 2000000 in
theorem ferrymanref02_Next.mono {k : Nat} {a0 : Str} : OLe (ferrymanref02_Next k a0) (ferrymanref02_Next (k + 1) a0) := by
  unfold ferrymanref02_Next
  repeat' (first | with_reducible exact OLe.none | with_reducible exact OLe.some | with_reducible refine OLe.ite ?_ ?_ | with_reducible refine OLe.bind ?_ (fun _ => ?_) | refine OLe.bind ?_ (fun _ => ?_) | refine OLe.ite ?_ ?_ | refine OLe.elim (fun _ => ?_) (fun _ => ?_) | split)
set_option maxHeartbeats 1000000 in
set_option maxRecDepth 100000 in
theorem ferrymanref02_Next.con (k : Nat) (M : Hp) (a0 : Str) (r : Str)  (h : ferrymanref02_Next k a0 = some r) : Con Try.prog 20 #[.string (bs a0)] M [] (fun v M' Γ' => v = .string (bs r) ∧ Γ' = []) := by
  refine con_of_wp Try.func20 rfl Try.ntmps20 Try.results20 rfl ?_
  intro w F rn S hrn
  have E := Ext.refl w
  have HM := Hp.le_refl M
  have H := h
  unfold ferrymanref02_Next at H
  refine Wp_seq ?_
  refine Wp_region_lit ?_
  refine W_v (.string (bs ([] : Str))) (x_assign rfl) rfl ?_
  refine Wl_nil ?_
  refine tn ?_
  refine Wp_seq ?_
  refine Wp_region_lit ?_
  refine W_v (.string (bs a0)) (x_move rfl) rfl ?_
  refine W_bslice S #[.int .u8 0] Try.underlying39 ty5 rfl rfl #[.int .u8 0] (by kernel_rfl) (by kernel_rfl) rfl ?_
  intro b1 w2 E' S
  replace E := E.trans E'
  clear E'
  replace S := S.blk_row (r := (rInt .u8)) (l := ([(0 : Int)] : List Int)) 0 rfl 1 (Nat.le_refl 1) rfl (Cells.cons (vs := [.int .u8 0]) (rfl) Cells.nil)
  refine W_v (.string (bs (bytesOf ([(0 : Int)] : List Int)))) (x_conv_b2s Try.underlying39 Try.underlying9 Try.underlying5 rfl (S.row_read 0 rfl)) rfl ?_
  obtain ⟨p4, H⟩ := chkS H
  refine W_v (.string (bs (a0 ++ (bytesOf ([(0 : Int)] : List Int))))) (x_cat rfl rfl p4) rfl ?_
  refine W_v (.string (bs (a0 ++ (bytesOf ([(0 : Int)] : List Int))))) (x_assign rfl) rfl ?_
  refine Wl_nil ?_
  refine tn ?_
  refine Wp_ret ?_
  obtain rfl := Option.some.inj H
  exact ⟨_, _, _, fun w1 e1 => run_resR (vs := [.string (bs (a0 ++ (bytesOf ([(0 : Int)] : List Int))))]) (FA.cons (rfl) (FA.nil)), HM, E, S.pick [] (by decide), ⟨rfl, rfl⟩⟩
/-! ### ferryman/ferrymanref02.Within: function 22 -/
def ferrymanref02_Within (k : Nat) (a0 : Str) (a1 : Str) (a2 : Str) : Option (Bool) :=
  (Option.bind (ferrymanref02_Compare k a1 a0) (fun t1 => (Option.bind (α := Bool) (if (decide (t1 ≤ (0 : Int))) = true then (Option.bind (α := Bool) (if (sbin .eql a2 ([] : Str)) = true then some (true) else (Option.bind (ferrymanref02_Compare k a0 a2) (fun t42 => some ((decide (t42 < (0 : Int))))))) (fun x40 => some (x40))) else some (false)) (fun x31 => some x31))))
set_option maxHeartbeats 2000000 in
theorem ferrymanref02_Within.mono {k : Nat} {a0 : Str} {a1 : Str} {a2 : Str} : OLe (ferrymanref02_Within k a0 a1 a2) (ferrymanref02_Within (k + 1) a0 a1 a2) := by
  unfold ferrymanref02_Within
  repeat' (first | with_reducible exact OLe.none | with_reducible exact OLe.some | with_reducible refine OLe.ite ?_ ?_ | with_reducible refine OLe.bind ?_ (fun _ => ?_) | with_reducible exact ferrymanref02_Compare.mono | refine OLe.bind ?_ (fun _ => ?_) | refine OLe.ite ?_ ?_ | refine OLe.elim (fun _ => ?_) (fun _ => ?_) | split)
set_option maxHeartbeats 1000000 in
set_option maxRecDepth 100000 in
theorem ferrymanref02_Within.con (k : Nat) (M : Hp) (a0 : Str) (a1 : Str) (a2 : Str) (r : Bool)  (h : ferrymanref02_Within k a0 a1 a2 = some r) : Con Try.prog 22 #[.string (bs a0), .string (bs a1), .string (bs a2)] M [] (fun v M' Γ' => v = .bool r ∧ Γ' = []) := by
  refine con_of_wp Try.func22 rfl Try.ntmps22 Try.results22 rfl ?_
  intro w F rn S hrn
  have E := Ext.refl w
  have HM := Hp.le_refl M
  have H := h
  unfold ferrymanref02_Within at H
  refine Wp_seq ?_
  refine Wp_region_lit ?_
  refine W_v (.bool false) (x_assign rfl) rfl ?_
  refine Wl_nil ?_
  refine tn ?_
  refine Wp_seq ?_
  refine Wp_region_lit ?_
  refine W_v (.string (bs a1)) (x_move rfl) rfl ?_
  refine W_v (.string (bs a0)) (x_move rfl) rfl ?_
  obtain ⟨t1, ht2, H⟩ := bindS H
  refine W_callF fn14 (ferrymanref02_Compare.con k M a1 a0 t1  ht2) S rfl rfl (by rintro _ _ _ ⟨_, rfl⟩; exact flat_nil) ?_
  rintro _ w3 _ Γ' E' S ⟨rfl, rfl⟩
  replace E := E.trans E'
  clear E'
  refine W_v (.bool (decide (t1 ≤ (0 : Int)))) (x_ibin rfl rfl rfl rfl) rfl ?_
  refine W_v (.bool (decide (t1 ≤ (0 : Int)))) (x_move rfl) rfl ?_
  obtain ⟨o32, o32h, o32H⟩ := bindS H
  clear H
  refine Wl_cutN 9 (fun ρ w' => ∃ (x31 : Bool), (x31) = o32 ∧ Agree ρ [(20, .bool x31)] ∧ Ext w w' ∧ St w' M F []) ?_ ?_
  · have H := o32h
    rcases iteS H with ⟨hb30, H⟩ | ⟨hb30, H⟩
    · skip
      refine W_yes (congrArg some hb30) ?_
      refine W_v (.string (bs a2)) (x_move rfl) rfl ?_
      refine W_yes (congrArg some hb30) ?_
      refine W_v (.bool (sbin .eql a2 ([] : Str))) (x_sbin rfl rfl rfl) rfl ?_
      refine W_yes (congrArg some hb30) ?_
      refine W_v (.bool (sbin .eql a2 ([] : Str))) (x_move rfl) rfl ?_
      obtain ⟨o41, o41h, o41H⟩ := bindS H
      clear H
      refine Wl_cutN 5 (fun ρ w' => ∃ (x40 : Bool), (x40) = o41 ∧ Agree ρ [(11, .bool (decide (t1 ≤ (0 : Int)))), (19, .bool x40)] ∧ Ext w w' ∧ St w' M F []) ?_ ?_
      · have H := o41h
        rcases iteS H with ⟨hb39, H⟩ | ⟨hb39, H⟩
        · skip
          refine W_no (skF hb39) rfl ?_
          refine W_no (skF hb39) rfl ?_
          refine W_no (skF hb39) rfl ?_
          refine W_no (skF hb39) rfl ?_
          refine W_yes (congrArg some hb30) ?_
          refine W_v (.bool true) (x_pick (k := true) (congrArg Value.bool hb39) rfl) rfl ?_
          refine Wl_nil ?_
          exact ⟨true, Option.some.inj H, ⟨rfl, rfl, trivial⟩, E, S.pick [] (by decide)⟩
        · skip
          refine W_yes (congrArg some hb39) ?_
          refine W_v (.string (bs a0)) (x_move rfl) rfl ?_
          refine W_yes (congrArg some hb39) ?_
          refine W_v (.string (bs a2)) (x_move rfl) rfl ?_
          refine W_yes (congrArg some hb39) ?_
          obtain ⟨t42, ht43, H⟩ := bindS H
          refine W_callF fn14 (ferrymanref02_Compare.con k M a0 a2 t42  ht43) S rfl rfl (by rintro _ _ _ ⟨_, rfl⟩; exact flat_nil) ?_
          rintro _ w44 _ Γ' E' S ⟨rfl, rfl⟩
          replace E := E.trans E'
          clear E'
          refine W_yes (congrArg some hb39) ?_
          refine W_v (.bool (decide (t42 < (0 : Int)))) (x_ibin rfl rfl rfl rfl) rfl ?_
          refine W_yes (congrArg some hb30) ?_
          refine W_v (.bool (decide (t42 < (0 : Int)))) (x_pick (k := false) (congrArg Value.bool hb39) rfl) rfl ?_
          refine Wl_nil ?_
          exact ⟨(decide (t42 < (0 : Int))), Option.some.inj H, ⟨rfl, rfl, trivial⟩, E, S.pick [] (by decide)⟩
      · clear o41h
        rintro ρ w45 ⟨x40, rfl, hρ, E, S⟩
        rw [agree_eta hρ]
        clear hρ
        have H := o41H
        clear o41H
        refine W_v (.bool x40) (x_pick (k := true) (congrArg Value.bool hb30) rfl) rfl ?_
        refine Wl_nil ?_
        exact ⟨x40, Option.some.inj H, ⟨rfl, trivial⟩, E, S.pick [] (by decide)⟩
    · skip
      refine W_no (skT hb30) rfl ?_
      refine W_no (skT hb30) rfl ?_
      refine W_no (skT hb30) rfl ?_
      refine W_no (rfl) rfl ?_
      refine W_no (rfl) rfl ?_
      refine W_no (rfl) rfl ?_
      refine W_no (rfl) rfl ?_
      refine W_no (skT hb30) rfl ?_
      refine W_v (.bool false) (x_pick (k := false) (congrArg Value.bool hb30) rfl) rfl ?_
      refine Wl_nil ?_
      exact ⟨false, Option.some.inj H, ⟨rfl, trivial⟩, E, S.pick [] (by decide)⟩
  · clear o32h
    rintro ρ w46 ⟨x31, rfl, hρ, E, S⟩
    rw [agree_eta hρ]
    clear hρ
    have H := o32H
    clear o32H
    refine W_v (.bool x31) (x_assign rfl) rfl ?_
    refine Wl_nil ?_
    refine tn ?_
    refine Wp_ret ?_
    obtain rfl := Option.some.inj H
    exact ⟨_, _, _, fun w1 e1 => run_resR (vs := [.bool x31]) (FA.cons (rfl) (FA.nil)), HM, E, S.pick [] (by decide), ⟨rfl, rfl⟩⟩
/-! ### ferryman/text.Value: function 27 -/
def text_Value (k : Nat) (a0 : api_Config) (a1 : Str) : Option (Bool) :=
  (Option.bind (text_length k a0 (0 : Int) a0.ValLen) (fun t4 => (Option.bind (text_length_1 k a1 a0 (0 : Int) a0.ValLen) (fun t13 => some t13))))
set_option maxHeartbeats 2000000 in
theorem text_Value.mono {k : Nat} {a0 : api_Config} {a1 : Str} : OLe (text_Value k a0 a1) (text_Value (k + 1) a0 a1) := by
  unfold text_Value
  repeat' (first | with_reducible exact OLe.none | with_reducible exact OLe.some | with_reducible refine OLe.ite ?_ ?_ | with_reducible refine OLe.bind ?_ (fun _ => ?_) | with_reducible exact text_length.mono | with_reducible exact text_length_1.mono | refine OLe.bind ?_ (fun _ => ?_) | refine OLe.ite ?_ ?_ | refine OLe.elim (fun _ => ?_) (fun _ => ?_) | split)
set_option maxHeartbeats 1000000 in
set_option maxRecDepth 100000 in
theorem text_Value.con (k : Nat) (M : Hp) (a0 : api_Config) (a1 : Str) (r : Bool)  (h : text_Value k a0 a1 = some r) : Con Try.prog 27 #[.agg #[.int .i64 a0.Tasks, .int .i64 a0.Active, .int .i64 a0.Keys, .int .i64 a0.Depth, .int .i64 a0.TS, .int .i64 a0.KeyLen, .int .i64 a0.ValLen, .int .i64 a0.Fan], .string (bs a1)] M [] (fun v M' Γ' => v = .bool r ∧ Γ' = []) := by
  refine con_of_wp Try.func27 rfl Try.ntmps27 Try.results27 rfl ?_
  intro w F rn S hrn
  have E := Ext.refl w
  have HM := Hp.le_refl M
  have H := h
  unfold text_Value at H
  refine Wp_seq ?_
  refine Wp_region_lit ?_
  refine W_box S #[.int .i64 a0.Tasks, .int .i64 a0.Active, .int .i64 a0.Keys, .int .i64 a0.Depth, .int .i64 a0.TS, .int .i64 a0.KeyLen, .int .i64 a0.ValLen, .int .i64 a0.Fan] rfl rfl rfl ?_
  intro b1 w2 E' S
  replace E := E.trans E'
  clear E'
  refine W_v (.bool false) (x_assign rfl) rfl ?_
  refine Wl_nil ?_
  refine tn ?_
  refine Wp_seq ?_
  refine Wp_region_lit ?_
  refine W_v (.agg #[.int .i64 a0.Tasks, .int .i64 a0.Active, .int .i64 a0.Keys, .int .i64 a0.Depth, .int .i64 a0.TS, .int .i64 a0.KeyLen, .int .i64 a0.ValLen, .int .i64 a0.Fan]) (x_loadA (S.blk 0 rfl) ty37 rfl (sub_of_extract rfl) rfl rfl) rfl ?_
  refine W_v (.pointer (some ⟨b1, 6, none⟩)) (x_fieldAddr (o := 0) (off := 6) Try.underlying37 rfl ty3 rfl rfl) rfl ?_
  refine W_v (.int .i64 a0.ValLen) (x_load (S.blk 0 rfl) ty3 rfl rfl) rfl ?_
  obtain ⟨t4, ht5, H⟩ := bindS H
  refine W_callF fn34 (text_length.con k M a0 (0 : Int) a0.ValLen t4  ht5) S rfl rfl (by rintro _ _ _ ⟨_, _, _, rfl, rfl⟩; exact (flat_cons flat_blk (flat_cons flat_blk (flat_cons flat_blk flat_nil)))) ?_
  rintro _ w12 _ Γ' E' S ⟨b6, b8, b10, rfl, rfl⟩
  replace E := E.trans E'
  clear E'
  replace S : St w12 M F [Blk b6 (.cells #[.int .i64 a0.Tasks, .int .i64 a0.Active, .int .i64 a0.Keys, .int .i64 a0.Depth, .int .i64 a0.TS, .int .i64 a0.KeyLen, .int .i64 a0.ValLen, .int .i64 a0.Fan] 37 (0, 0)), Blk b8 (.cells #[.int .i64 (0 : Int)] 3 (0, 0)), Blk b10 (.cells #[.int .i64 a0.ValLen] 3 (0, 0)), Blk b1 (.cells #[.int .i64 a0.Tasks, .int .i64 a0.Active, .int .i64 a0.Keys, .int .i64 a0.Depth, .int .i64 a0.TS, .int .i64 a0.KeyLen, .int .i64 a0.ValLen, .int .i64 a0.Fan] 37 (0, 0))] := S
  refine W_v (.string (bs a1)) (x_move rfl) rfl ?_
  obtain ⟨t13, ht14, H⟩ := bindS H
  replace S : St w12 M F [Blk b6 (.cells #[.int .i64 a0.Tasks, .int .i64 a0.Active, .int .i64 a0.Keys, .int .i64 a0.Depth, .int .i64 a0.TS, .int .i64 a0.KeyLen, .int .i64 a0.ValLen, .int .i64 a0.Fan] 37 (0, 0)), Blk b8 (.cells #[.int .i64 (0 : Int)] 3 (0, 0)), Blk b10 (.cells #[.int .i64 a0.ValLen] 3 (0, 0)), Blk b1 (.cells #[.int .i64 a0.Tasks, .int .i64 a0.Active, .int .i64 a0.Keys, .int .i64 a0.Depth, .int .i64 a0.TS, .int .i64 a0.KeyLen, .int .i64 a0.ValLen, .int .i64 a0.Fan] 37 (0, 0))] := S.pick [0, 1, 2, 3] (by decide)
  refine W_callv (fs := []) (cap := [.pointer (some ⟨b6, 0, none⟩), .pointer (some ⟨b8, 0, none⟩), .pointer (some ⟨b10, 0, none⟩)]) fn37 rfl (text_length_1.con k M a1 a0 (0 : Int) a0.ValLen b6 b8 b10 t13  ht14) (Γ1 := [Blk b6 (.cells #[.int .i64 a0.Tasks, .int .i64 a0.Active, .int .i64 a0.Keys, .int .i64 a0.Depth, .int .i64 a0.TS, .int .i64 a0.KeyLen, .int .i64 a0.ValLen, .int .i64 a0.Fan] 37 (0, 0)), Blk b8 (.cells #[.int .i64 (0 : Int)] 3 (0, 0)), Blk b10 (.cells #[.int .i64 a0.ValLen] 3 (0, 0))]) (Γ2 := [Blk b1 (.cells #[.int .i64 a0.Tasks, .int .i64 a0.Active, .int .i64 a0.Keys, .int .i64 a0.Depth, .int .i64 a0.TS, .int .i64 a0.KeyLen, .int .i64 a0.ValLen, .int .i64 a0.Fan] 37 (0, 0))]) S rfl rfl ?_
  rintro _ w15 M16 Γ' hM17 E' S ⟨rfl, rfl⟩
  replace HM := Hp.le_trans HM hM17
  replace E := E.trans E'
  clear E'
  replace S : St w15 M16 F [Blk b6 (.cells #[.int .i64 a0.Tasks, .int .i64 a0.Active, .int .i64 a0.Keys, .int .i64 a0.Depth, .int .i64 a0.TS, .int .i64 a0.KeyLen, .int .i64 a0.ValLen, .int .i64 a0.Fan] 37 (0, 0)), Blk b8 (.cells #[.int .i64 (0 : Int)] 3 (0, 0)), Blk b10 (.cells #[.int .i64 a0.ValLen] 3 (0, 0)), Blk b1 (.cells #[.int .i64 a0.Tasks, .int .i64 a0.Active, .int .i64 a0.Keys, .int .i64 a0.Depth, .int .i64 a0.TS, .int .i64 a0.KeyLen, .int .i64 a0.ValLen, .int .i64 a0.Fan] 37 (0, 0))] := S
  refine W_v (.bool t13) (x_assign rfl) rfl ?_
  refine Wl_nil ?_
  refine tn ?_
  refine Wp_ret ?_
  obtain rfl := Option.some.inj H
  exact ⟨_, _, _, fun w1 e1 => run_resR (vs := [.bool t13]) (FA.cons (rfl) (FA.nil)), HM, E, S.pick [] (by decide), ⟨rfl, rfl⟩⟩
/-! ### ferryman/ferrymanref02.is: function 35 -/
def ferrymanref02_is (k : Nat) (a0 : Int) (a1 : Int) (a2 : Int) : Option (Bool) :=
  some ((decide (a0 ≥ a1)) && (decide (a0 ≤ a2)))
set_option maxHeartbeats 2000000 in
theorem ferrymanref02_is.mono {k : Nat} {a0 : Int} {a1 : Int} {a2 : Int} : OLe (ferrymanref02_is k a0 a1 a2) (ferrymanref02_is (k + 1) a0 a1 a2) := by
  unfold ferrymanref02_is
  repeat' (first | with_reducible exact OLe.none | with_reducible exact OLe.some | with_reducible refine OLe.ite ?_ ?_ | with_reducible refine OLe.bind ?_ (fun _ => ?_) | refine OLe.bind ?_ (fun _ => ?_) | refine OLe.ite ?_ ?_ | refine OLe.elim (fun _ => ?_) (fun _ => ?_) | split)
set_option maxHeartbeats 1000000 in
set_option maxRecDepth 100000 in
theorem ferrymanref02_is.con (k : Nat) (M : Hp) (a0 : Int) (a1 : Int) (a2 : Int) (r : Bool)  (h : ferrymanref02_is k a0 a1 a2 = some r) : Con Try.prog 35 #[.int .i64 a0, .int .i64 a1, .int .i64 a2] M [] (fun v M' Γ' => v = .bool r ∧ Γ' = []) := by
  refine con_of_wp Try.func35 rfl Try.ntmps35 Try.results35 rfl ?_
  intro w F rn S hrn
  have E := Ext.refl w
  have HM := Hp.le_refl M
  have H := h
  unfold ferrymanref02_is at H
  refine Wp_seq ?_
  refine Wp_region_lit ?_
  refine W_v (.bool false) (x_assign rfl) rfl ?_
  refine Wl_nil ?_
  refine tn ?_
  refine Wp_seq ?_
  refine Wp_region_lit ?_
  refine W_v (.int .i64 a0) (x_move rfl) rfl ?_
  refine W_v (.int .i64 a1) (x_move rfl) rfl ?_
  refine W_v (.bool (decide (a0 ≥ a1))) (x_ibin rfl rfl rfl rfl) rfl ?_
  refine W_v (.bool (decide (a0 ≥ a1))) (x_move rfl) rfl ?_
  refine Wl_cutN 4 (fun ρ w' => Agree ρ [(14, .bool ((decide (a0 ≥ a1)) && (decide (a0 ≤ a2))))] ∧ w = w') ?_ ?_
  · rcases boolCases (decide (a0 ≥ a1)) with hb1 | hb1
    · skip
      refine W_no (skT hb1) rfl ?_
      refine W_no (skT hb1) rfl ?_
      refine W_no (skT hb1) rfl ?_
      refine W_v (.bool false) (x_pick (k := false) (congrArg Value.bool hb1) rfl) rfl ?_
      refine Wl_nil ?_
      exact ⟨⟨(by first | rfl | (rw [hb1]; rfl) | (simp only [hb1]; rfl)), trivial⟩, rfl⟩
    · skip
      refine W_yes (congrArg some hb1) ?_
      refine W_v (.int .i64 a0) (x_move rfl) rfl ?_
      refine W_yes (congrArg some hb1) ?_
      refine W_v (.int .i64 a2) (x_move rfl) rfl ?_
      refine W_yes (congrArg some hb1) ?_
      refine W_v (.bool (decide (a0 ≤ a2))) (x_ibin rfl rfl rfl rfl) rfl ?_
      refine W_v (.bool (decide (a0 ≤ a2))) (x_pick (k := true) (congrArg Value.bool hb1) rfl) rfl ?_
      refine Wl_nil ?_
      exact ⟨⟨(by first | rfl | (rw [hb1]; rfl) | (simp only [hb1]; rfl)), trivial⟩, rfl⟩
  · rintro ρ _ ⟨hρ, rfl⟩
    rw [agree_eta hρ]
    clear hρ
    skip
    refine W_v (.bool ((decide (a0 ≥ a1)) && (decide (a0 ≤ a2)))) (x_assign rfl) rfl ?_
    refine Wl_nil ?_
    refine tn ?_
    refine Wp_ret ?_
    obtain rfl := Option.some.inj H
    exact ⟨_, _, _, fun w1 e1 => run_resR (vs := [.bool ((decide (a0 ≥ a1)) && (decide (a0 ≤ a2)))]) (FA.cons (rfl) (FA.nil)), HM, E, S.pick [] (by decide), ⟨rfl, rfl⟩⟩
/-! ### ferryman/ferrymanref02.May: function 28 -/
def ferrymanref02_May (k : Nat) (a0 : api_Config) : Option (Bool) :=
  (Option.bind (ferrymanref02_is k a0.Tasks (1 : Int) (6 : Int)) (fun t4 => (Option.bind (α := Bool) (if t4 = true then (Option.bind (ferrymanref02_is k a0.Active (1 : Int) (8 : Int)) (fun t16 => some (t16))) else some (false)) (fun x14 => (Option.bind (α := Bool) (if x14 = true then (Option.bind (ferrymanref02_is k a0.Keys (1 : Int) (64 : Int)) (fun t29 => some (t29))) else some (false)) (fun x27 => (Option.bind (α := Bool) (if x27 = true then (Option.bind (ferrymanref02_is k a0.Depth (2 : Int) (8 : Int)) (fun t42 => some (t42))) else some (false)) (fun x40 => (Option.bind (α := Bool) (if x40 = true then (Option.bind (ferrymanref02_is k a0.TS (1 : Int) (1048576 : Int)) (fun t55 => some (t55))) else some (false)) (fun x53 => (Option.bind (α := Bool) (if x53 = true then (Option.bind (ferrymanref02_is k a0.KeyLen (1 : Int) (64 : Int)) (fun t68 => some (t68))) else some (false)) (fun x66 => (Option.bind (α := Bool) (if x66 = true then (Option.bind (ferrymanref02_is k a0.ValLen (0 : Int) (256 : Int)) (fun t81 => some (t81))) else some (false)) (fun x79 => (Option.bind (α := Bool) (if x79 = true then (Option.bind (ferrymanref02_is k a0.Fan (3 : Int) (8 : Int)) (fun t94 => some (t94))) else some (false)) (fun x92 => some x92))))))))))))))))
set_option maxHeartbeats 2000000 in
theorem ferrymanref02_May.mono {k : Nat} {a0 : api_Config} : OLe (ferrymanref02_May k a0) (ferrymanref02_May (k + 1) a0) := by
  unfold ferrymanref02_May
  repeat' (first | with_reducible exact OLe.none | with_reducible exact OLe.some | with_reducible refine OLe.ite ?_ ?_ | with_reducible refine OLe.bind ?_ (fun _ => ?_) | with_reducible exact ferrymanref02_is.mono | refine OLe.bind ?_ (fun _ => ?_) | refine OLe.ite ?_ ?_ | refine OLe.elim (fun _ => ?_) (fun _ => ?_) | split)
set_option maxHeartbeats 1000000 in
set_option maxRecDepth 100000 in
theorem ferrymanref02_May.con (k : Nat) (M : Hp) (a0 : api_Config) (r : Bool)  (h : ferrymanref02_May k a0 = some r) : Con Try.prog 28 #[.agg #[.int .i64 a0.Tasks, .int .i64 a0.Active, .int .i64 a0.Keys, .int .i64 a0.Depth, .int .i64 a0.TS, .int .i64 a0.KeyLen, .int .i64 a0.ValLen, .int .i64 a0.Fan]] M [] (fun v M' Γ' => v = .bool r ∧ Γ' = []) := by
  refine con_of_wp Try.func28 rfl Try.ntmps28 Try.results28 rfl ?_
  intro w F rn S hrn
  have E := Ext.refl w
  have HM := Hp.le_refl M
  have H := h
  unfold ferrymanref02_May at H
  refine Wp_seq ?_
  refine Wp_region_lit ?_
  refine W_box S #[.int .i64 a0.Tasks, .int .i64 a0.Active, .int .i64 a0.Keys, .int .i64 a0.Depth, .int .i64 a0.TS, .int .i64 a0.KeyLen, .int .i64 a0.ValLen, .int .i64 a0.Fan] rfl rfl rfl ?_
  intro b1 w2 E' S
  replace E := E.trans E'
  clear E'
  refine W_v (.bool false) (x_assign rfl) rfl ?_
  refine Wl_nil ?_
  refine tn ?_
  refine Wp_seq ?_
  refine Wp_region_lit ?_
  refine W_v (.pointer (some ⟨b1, 0, none⟩)) (x_fieldAddr (o := 0) (off := 0) Try.underlying37 rfl ty3 rfl rfl) rfl ?_
  refine W_v (.int .i64 a0.Tasks) (x_load (S.blk 0 rfl) ty3 rfl rfl) rfl ?_
  obtain ⟨t4, ht5, H⟩ := bindS H
  refine W_callF fn35 (ferrymanref02_is.con k M a0.Tasks (1 : Int) (6 : Int) t4  ht5) S rfl rfl (by rintro _ _ _ ⟨_, rfl⟩; exact flat_nil) ?_
  rintro _ w6 _ Γ' E' S ⟨rfl, rfl⟩
  replace E := E.trans E'
  clear E'
  refine W_v (.bool t4) (x_move rfl) rfl ?_
  obtain ⟨o15, o15h, o15H⟩ := bindS H
  clear H
  refine Wl_cutN 4 (fun ρ w' => ∃ (x14 : Bool), (x14) = o15 ∧ Agree ρ [(1, .pointer (some ⟨b1, 0, none⟩)), (10, .bool x14)] ∧ Ext w w' ∧ St w' M F [Blk b1 (.cells #[.int .i64 a0.Tasks, .int .i64 a0.Active, .int .i64 a0.Keys, .int .i64 a0.Depth, .int .i64 a0.TS, .int .i64 a0.KeyLen, .int .i64 a0.ValLen, .int .i64 a0.Fan] 37 (0, 0))]) ?_ ?_
  · have H := o15h
    rcases iteS H with ⟨hb13, H⟩ | ⟨hb13, H⟩
    · skip
      refine W_yes (congrArg some hb13) ?_
      refine W_v (.pointer (some ⟨b1, 1, none⟩)) (x_fieldAddr (o := 0) (off := 1) Try.underlying37 rfl ty3 rfl rfl) rfl ?_
      refine W_yes (congrArg some hb13) ?_
      refine W_v (.int .i64 a0.Active) (x_load (S.blk 0 rfl) ty3 rfl rfl) rfl ?_
      refine W_yes (congrArg some hb13) ?_
      obtain ⟨t16, ht17, H⟩ := bindS H
      refine W_callF fn35 (ferrymanref02_is.con k M a0.Active (1 : Int) (8 : Int) t16  ht17) S rfl rfl (by rintro _ _ _ ⟨_, rfl⟩; exact flat_nil) ?_
      rintro _ w18 _ Γ' E' S ⟨rfl, rfl⟩
      replace E := E.trans E'
      clear E'
      refine W_v (.bool t16) (x_pick (k := true) (congrArg Value.bool hb13) rfl) rfl ?_
      refine Wl_nil ?_
      exact ⟨t16, Option.some.inj H, ⟨rfl, rfl, trivial⟩, E, S.pick [0] (by decide)⟩
    · skip
      refine W_no (skT hb13) rfl ?_
      refine W_no (skT hb13) rfl ?_
      refine W_no (skT hb13) rfl ?_
      refine W_v (.bool false) (x_pick (k := false) (congrArg Value.bool hb13) rfl) rfl ?_
      refine Wl_nil ?_
      exact ⟨false, Option.some.inj H, ⟨rfl, rfl, trivial⟩, E, S.pick [0] (by decide)⟩
  · clear o15h
    rintro ρ w19 ⟨x14, rfl, hρ, E, S⟩
    rw [agree_eta hρ]
    clear hρ
    have H := o15H
    clear o15H
    refine W_v (.bool x14) (x_move rfl) rfl ?_
    obtain ⟨o28, o28h, o28H⟩ := bindS H
    clear H
    refine Wl_cutN 4 (fun ρ w' => ∃ (x27 : Bool), (x27) = o28 ∧ Agree ρ [(1, .pointer (some ⟨b1, 0, none⟩)), (15, .bool x27)] ∧ Ext w w' ∧ St w' M F [Blk b1 (.cells #[.int .i64 a0.Tasks, .int .i64 a0.Active, .int .i64 a0.Keys, .int .i64 a0.Depth, .int .i64 a0.TS, .int .i64 a0.KeyLen, .int .i64 a0.ValLen, .int .i64 a0.Fan] 37 (0, 0))]) ?_ ?_
    · have H := o28h
      rcases iteS H with ⟨hb26, H⟩ | ⟨hb26, H⟩
      · skip
        refine W_yes (congrArg some hb26) ?_
        refine W_v (.pointer (some ⟨b1, 2, none⟩)) (x_fieldAddr (o := 0) (off := 2) Try.underlying37 rfl ty3 rfl rfl) rfl ?_
        refine W_yes (congrArg some hb26) ?_
        refine W_v (.int .i64 a0.Keys) (x_load (S.blk 0 rfl) ty3 rfl rfl) rfl ?_
        refine W_yes (congrArg some hb26) ?_
        obtain ⟨t29, ht30, H⟩ := bindS H
        refine W_callF fn35 (ferrymanref02_is.con k M a0.Keys (1 : Int) (64 : Int) t29  ht30) S rfl rfl (by rintro _ _ _ ⟨_, rfl⟩; exact flat_nil) ?_
        rintro _ w31 _ Γ' E' S ⟨rfl, rfl⟩
        replace E := E.trans E'
        clear E'
        refine W_v (.bool t29) (x_pick (k := true) (congrArg Value.bool hb26) rfl) rfl ?_
        refine Wl_nil ?_
        exact ⟨t29, Option.some.inj H, ⟨rfl, rfl, trivial⟩, E, S.pick [0] (by decide)⟩
      · skip
        refine W_no (skT hb26) rfl ?_
        refine W_no (skT hb26) rfl ?_
        refine W_no (skT hb26) rfl ?_
        refine W_v (.bool false) (x_pick (k := false) (congrArg Value.bool hb26) rfl) rfl ?_
        refine Wl_nil ?_
        exact ⟨false, Option.some.inj H, ⟨rfl, rfl, trivial⟩, E, S.pick [0] (by decide)⟩
    · clear o28h
      rintro ρ w32 ⟨x27, rfl, hρ, E, S⟩
      rw [agree_eta hρ]
      clear hρ
      have H := o28H
      clear o28H
      refine W_v (.bool x27) (x_move rfl) rfl ?_
      obtain ⟨o41, o41h, o41H⟩ := bindS H
      clear H
      refine Wl_cutN 4 (fun ρ w' => ∃ (x40 : Bool), (x40) = o41 ∧ Agree ρ [(1, .pointer (some ⟨b1, 0, none⟩)), (20, .bool x40)] ∧ Ext w w' ∧ St w' M F [Blk b1 (.cells #[.int .i64 a0.Tasks, .int .i64 a0.Active, .int .i64 a0.Keys, .int .i64 a0.Depth, .int .i64 a0.TS, .int .i64 a0.KeyLen, .int .i64 a0.ValLen, .int .i64 a0.Fan] 37 (0, 0))]) ?_ ?_
      · have H := o41h
        rcases iteS H with ⟨hb39, H⟩ | ⟨hb39, H⟩
        · skip
          refine W_yes (congrArg some hb39) ?_
          refine W_v (.pointer (some ⟨b1, 3, none⟩)) (x_fieldAddr (o := 0) (off := 3) Try.underlying37 rfl ty3 rfl rfl) rfl ?_
          refine W_yes (congrArg some hb39) ?_
          refine W_v (.int .i64 a0.Depth) (x_load (S.blk 0 rfl) ty3 rfl rfl) rfl ?_
          refine W_yes (congrArg some hb39) ?_
          obtain ⟨t42, ht43, H⟩ := bindS H
          refine W_callF fn35 (ferrymanref02_is.con k M a0.Depth (2 : Int) (8 : Int) t42  ht43) S rfl rfl (by rintro _ _ _ ⟨_, rfl⟩; exact flat_nil) ?_
          rintro _ w44 _ Γ' E' S ⟨rfl, rfl⟩
          replace E := E.trans E'
          clear E'
          refine W_v (.bool t42) (x_pick (k := true) (congrArg Value.bool hb39) rfl) rfl ?_
          refine Wl_nil ?_
          exact ⟨t42, Option.some.inj H, ⟨rfl, rfl, trivial⟩, E, S.pick [0] (by decide)⟩
        · skip
          refine W_no (skT hb39) rfl ?_
          refine W_no (skT hb39) rfl ?_
          refine W_no (skT hb39) rfl ?_
          refine W_v (.bool false) (x_pick (k := false) (congrArg Value.bool hb39) rfl) rfl ?_
          refine Wl_nil ?_
          exact ⟨false, Option.some.inj H, ⟨rfl, rfl, trivial⟩, E, S.pick [0] (by decide)⟩
      · clear o41h
        rintro ρ w45 ⟨x40, rfl, hρ, E, S⟩
        rw [agree_eta hρ]
        clear hρ
        have H := o41H
        clear o41H
        refine W_v (.bool x40) (x_move rfl) rfl ?_
        obtain ⟨o54, o54h, o54H⟩ := bindS H
        clear H
        refine Wl_cutN 4 (fun ρ w' => ∃ (x53 : Bool), (x53) = o54 ∧ Agree ρ [(1, .pointer (some ⟨b1, 0, none⟩)), (25, .bool x53)] ∧ Ext w w' ∧ St w' M F [Blk b1 (.cells #[.int .i64 a0.Tasks, .int .i64 a0.Active, .int .i64 a0.Keys, .int .i64 a0.Depth, .int .i64 a0.TS, .int .i64 a0.KeyLen, .int .i64 a0.ValLen, .int .i64 a0.Fan] 37 (0, 0))]) ?_ ?_
        · have H := o54h
          rcases iteS H with ⟨hb52, H⟩ | ⟨hb52, H⟩
          · skip
            refine W_yes (congrArg some hb52) ?_
            refine W_v (.pointer (some ⟨b1, 4, none⟩)) (x_fieldAddr (o := 0) (off := 4) Try.underlying37 rfl ty3 rfl rfl) rfl ?_
            refine W_yes (congrArg some hb52) ?_
            refine W_v (.int .i64 a0.TS) (x_load (S.blk 0 rfl) ty3 rfl rfl) rfl ?_
            refine W_yes (congrArg some hb52) ?_
            obtain ⟨t55, ht56, H⟩ := bindS H
            refine W_callF fn35 (ferrymanref02_is.con k M a0.TS (1 : Int) (1048576 : Int) t55  ht56) S rfl rfl (by rintro _ _ _ ⟨_, rfl⟩; exact flat_nil) ?_
            rintro _ w57 _ Γ' E' S ⟨rfl, rfl⟩
            replace E := E.trans E'
            clear E'
            refine W_v (.bool t55) (x_pick (k := true) (congrArg Value.bool hb52) rfl) rfl ?_
            refine Wl_nil ?_
            exact ⟨t55, Option.some.inj H, ⟨rfl, rfl, trivial⟩, E, S.pick [0] (by decide)⟩
          · skip
            refine W_no (skT hb52) rfl ?_
            refine W_no (skT hb52) rfl ?_
            refine W_no (skT hb52) rfl ?_
            refine W_v (.bool false) (x_pick (k := false) (congrArg Value.bool hb52) rfl) rfl ?_
            refine Wl_nil ?_
            exact ⟨false, Option.some.inj H, ⟨rfl, rfl, trivial⟩, E, S.pick [0] (by decide)⟩
        · clear o54h
          rintro ρ w58 ⟨x53, rfl, hρ, E, S⟩
          rw [agree_eta hρ]
          clear hρ
          have H := o54H
          clear o54H
          refine W_v (.bool x53) (x_move rfl) rfl ?_
          obtain ⟨o67, o67h, o67H⟩ := bindS H
          clear H
          refine Wl_cutN 4 (fun ρ w' => ∃ (x66 : Bool), (x66) = o67 ∧ Agree ρ [(1, .pointer (some ⟨b1, 0, none⟩)), (30, .bool x66)] ∧ Ext w w' ∧ St w' M F [Blk b1 (.cells #[.int .i64 a0.Tasks, .int .i64 a0.Active, .int .i64 a0.Keys, .int .i64 a0.Depth, .int .i64 a0.TS, .int .i64 a0.KeyLen, .int .i64 a0.ValLen, .int .i64 a0.Fan] 37 (0, 0))]) ?_ ?_
          · have H := o67h
            rcases iteS H with ⟨hb65, H⟩ | ⟨hb65, H⟩
            · skip
              refine W_yes (congrArg some hb65) ?_
              refine W_v (.pointer (some ⟨b1, 5, none⟩)) (x_fieldAddr (o := 0) (off := 5) Try.underlying37 rfl ty3 rfl rfl) rfl ?_
              refine W_yes (congrArg some hb65) ?_
              refine W_v (.int .i64 a0.KeyLen) (x_load (S.blk 0 rfl) ty3 rfl rfl) rfl ?_
              refine W_yes (congrArg some hb65) ?_
              obtain ⟨t68, ht69, H⟩ := bindS H
              refine W_callF fn35 (ferrymanref02_is.con k M a0.KeyLen (1 : Int) (64 : Int) t68  ht69) S rfl rfl (by rintro _ _ _ ⟨_, rfl⟩; exact flat_nil) ?_
              rintro _ w70 _ Γ' E' S ⟨rfl, rfl⟩
              replace E := E.trans E'
              clear E'
              refine W_v (.bool t68) (x_pick (k := true) (congrArg Value.bool hb65) rfl) rfl ?_
              refine Wl_nil ?_
              exact ⟨t68, Option.some.inj H, ⟨rfl, rfl, trivial⟩, E, S.pick [0] (by decide)⟩
            · skip
              refine W_no (skT hb65) rfl ?_
              refine W_no (skT hb65) rfl ?_
              refine W_no (skT hb65) rfl ?_
              refine W_v (.bool false) (x_pick (k := false) (congrArg Value.bool hb65) rfl) rfl ?_
              refine Wl_nil ?_
              exact ⟨false, Option.some.inj H, ⟨rfl, rfl, trivial⟩, E, S.pick [0] (by decide)⟩
          · clear o67h
            rintro ρ w71 ⟨x66, rfl, hρ, E, S⟩
            rw [agree_eta hρ]
            clear hρ
            have H := o67H
            clear o67H
            refine W_v (.bool x66) (x_move rfl) rfl ?_
            obtain ⟨o80, o80h, o80H⟩ := bindS H
            clear H
            refine Wl_cutN 4 (fun ρ w' => ∃ (x79 : Bool), (x79) = o80 ∧ Agree ρ [(1, .pointer (some ⟨b1, 0, none⟩)), (35, .bool x79)] ∧ Ext w w' ∧ St w' M F [Blk b1 (.cells #[.int .i64 a0.Tasks, .int .i64 a0.Active, .int .i64 a0.Keys, .int .i64 a0.Depth, .int .i64 a0.TS, .int .i64 a0.KeyLen, .int .i64 a0.ValLen, .int .i64 a0.Fan] 37 (0, 0))]) ?_ ?_
            · have H := o80h
              rcases iteS H with ⟨hb78, H⟩ | ⟨hb78, H⟩
              · skip
                refine W_yes (congrArg some hb78) ?_
                refine W_v (.pointer (some ⟨b1, 6, none⟩)) (x_fieldAddr (o := 0) (off := 6) Try.underlying37 rfl ty3 rfl rfl) rfl ?_
                refine W_yes (congrArg some hb78) ?_
                refine W_v (.int .i64 a0.ValLen) (x_load (S.blk 0 rfl) ty3 rfl rfl) rfl ?_
                refine W_yes (congrArg some hb78) ?_
                obtain ⟨t81, ht82, H⟩ := bindS H
                refine W_callF fn35 (ferrymanref02_is.con k M a0.ValLen (0 : Int) (256 : Int) t81  ht82) S rfl rfl (by rintro _ _ _ ⟨_, rfl⟩; exact flat_nil) ?_
                rintro _ w83 _ Γ' E' S ⟨rfl, rfl⟩
                replace E := E.trans E'
                clear E'
                refine W_v (.bool t81) (x_pick (k := true) (congrArg Value.bool hb78) rfl) rfl ?_
                refine Wl_nil ?_
                exact ⟨t81, Option.some.inj H, ⟨rfl, rfl, trivial⟩, E, S.pick [0] (by decide)⟩
              · skip
                refine W_no (skT hb78) rfl ?_
                refine W_no (skT hb78) rfl ?_
                refine W_no (skT hb78) rfl ?_
                refine W_v (.bool false) (x_pick (k := false) (congrArg Value.bool hb78) rfl) rfl ?_
                refine Wl_nil ?_
                exact ⟨false, Option.some.inj H, ⟨rfl, rfl, trivial⟩, E, S.pick [0] (by decide)⟩
            · clear o80h
              rintro ρ w84 ⟨x79, rfl, hρ, E, S⟩
              rw [agree_eta hρ]
              clear hρ
              have H := o80H
              clear o80H
              refine W_v (.bool x79) (x_move rfl) rfl ?_
              obtain ⟨o93, o93h, o93H⟩ := bindS H
              clear H
              refine Wl_cutN 4 (fun ρ w' => ∃ (x92 : Bool), (x92) = o93 ∧ Agree ρ [(40, .bool x92)] ∧ Ext w w' ∧ St w' M F []) ?_ ?_
              · have H := o93h
                rcases iteS H with ⟨hb91, H⟩ | ⟨hb91, H⟩
                · skip
                  refine W_yes (congrArg some hb91) ?_
                  refine W_v (.pointer (some ⟨b1, 7, none⟩)) (x_fieldAddr (o := 0) (off := 7) Try.underlying37 rfl ty3 rfl rfl) rfl ?_
                  refine W_yes (congrArg some hb91) ?_
                  refine W_v (.int .i64 a0.Fan) (x_load (S.blk 0 rfl) ty3 rfl rfl) rfl ?_
                  refine W_yes (congrArg some hb91) ?_
                  obtain ⟨t94, ht95, H⟩ := bindS H
                  refine W_callF fn35 (ferrymanref02_is.con k M a0.Fan (3 : Int) (8 : Int) t94  ht95) S rfl rfl (by rintro _ _ _ ⟨_, rfl⟩; exact flat_nil) ?_
                  rintro _ w96 _ Γ' E' S ⟨rfl, rfl⟩
                  replace E := E.trans E'
                  clear E'
                  refine W_v (.bool t94) (x_pick (k := true) (congrArg Value.bool hb91) rfl) rfl ?_
                  refine Wl_nil ?_
                  exact ⟨t94, Option.some.inj H, ⟨rfl, trivial⟩, E, S.pick [] (by decide)⟩
                · skip
                  refine W_no (skT hb91) rfl ?_
                  refine W_no (skT hb91) rfl ?_
                  refine W_no (skT hb91) rfl ?_
                  refine W_v (.bool false) (x_pick (k := false) (congrArg Value.bool hb91) rfl) rfl ?_
                  refine Wl_nil ?_
                  exact ⟨false, Option.some.inj H, ⟨rfl, trivial⟩, E, S.pick [] (by decide)⟩
              · clear o93h
                rintro ρ w97 ⟨x92, rfl, hρ, E, S⟩
                rw [agree_eta hρ]
                clear hρ
                have H := o93H
                clear o93H
                refine W_v (.bool x92) (x_assign rfl) rfl ?_
                refine Wl_nil ?_
                refine tn ?_
                refine Wp_ret ?_
                obtain rfl := Option.some.inj H
                exact ⟨_, _, _, fun w1 e1 => run_resR (vs := [.bool x92]) (FA.cons (rfl) (FA.nil)), HM, E, S.pick [] (by decide), ⟨rfl, rfl⟩⟩
/-! ### ferryman/ferrymanref02.Key: function 29 -/
def ferrymanref02_Key (k : Nat) (a0 : api_Config) (a1 : Str) : Option (Bool) :=
  (Option.bind (ferrymanref02_May k a0) (fun t4 => (Option.bind (α := Bool) (if t4 = true then (Option.bind (ferrymanref02_is k (a1.length : Int) (1 : Int) a0.KeyLen) (fun t16 => some (t16))) else some (false)) (fun x14 => some x14))))
set_option maxHeartbeats 2000000 in
theorem ferrymanref02_Key.mono {k : Nat} {a0 : api_Config} {a1 : Str} : OLe (ferrymanref02_Key k a0 a1) (ferrymanref02_Key (k + 1) a0 a1) := by
  unfold ferrymanref02_Key
  repeat' (first | with_reducible exact OLe.none | with_reducible exact OLe.some | with_reducible refine OLe.ite ?_ ?_ | with_reducible refine OLe.bind ?_ (fun _ => ?_) | with_reducible exact ferrymanref02_May.mono | with_reducible exact ferrymanref02_is.mono | refine OLe.bind ?_ (fun _ => ?_) | refine OLe.ite ?_ ?_ | refine OLe.elim (fun _ => ?_) (fun _ => ?_) | split)
set_option maxHeartbeats 1000000 in
set_option maxRecDepth 100000 in
theorem ferrymanref02_Key.con (k : Nat) (M : Hp) (a0 : api_Config) (a1 : Str) (r : Bool)  (h : ferrymanref02_Key k a0 a1 = some r) : Con Try.prog 29 #[.agg #[.int .i64 a0.Tasks, .int .i64 a0.Active, .int .i64 a0.Keys, .int .i64 a0.Depth, .int .i64 a0.TS, .int .i64 a0.KeyLen, .int .i64 a0.ValLen, .int .i64 a0.Fan], .string (bs a1)] M [] (fun v M' Γ' => v = .bool r ∧ Γ' = []) := by
  refine con_of_wp Try.func29 rfl Try.ntmps29 Try.results29 rfl ?_
  intro w F rn S hrn
  have E := Ext.refl w
  have HM := Hp.le_refl M
  have H := h
  unfold ferrymanref02_Key at H
  refine Wp_seq ?_
  refine Wp_region_lit ?_
  refine W_box S #[.int .i64 a0.Tasks, .int .i64 a0.Active, .int .i64 a0.Keys, .int .i64 a0.Depth, .int .i64 a0.TS, .int .i64 a0.KeyLen, .int .i64 a0.ValLen, .int .i64 a0.Fan] rfl rfl rfl ?_
  intro b1 w2 E' S
  replace E := E.trans E'
  clear E'
  refine W_v (.bool false) (x_assign rfl) rfl ?_
  refine Wl_nil ?_
  refine tn ?_
  refine Wp_seq ?_
  refine Wp_region_lit ?_
  refine W_v (.agg #[.int .i64 a0.Tasks, .int .i64 a0.Active, .int .i64 a0.Keys, .int .i64 a0.Depth, .int .i64 a0.TS, .int .i64 a0.KeyLen, .int .i64 a0.ValLen, .int .i64 a0.Fan]) (x_loadA (S.blk 0 rfl) ty37 rfl (sub_of_extract rfl) rfl rfl) rfl ?_
  obtain ⟨t4, ht5, H⟩ := bindS H
  refine W_callF fn28 (ferrymanref02_May.con k M a0 t4  ht5) S rfl rfl (by rintro _ _ _ ⟨_, rfl⟩; exact flat_nil) ?_
  rintro _ w6 _ Γ' E' S ⟨rfl, rfl⟩
  replace E := E.trans E'
  clear E'
  refine W_v (.bool t4) (x_move rfl) rfl ?_
  obtain ⟨o15, o15h, o15H⟩ := bindS H
  clear H
  refine Wl_cutN 6 (fun ρ w' => ∃ (x14 : Bool), (x14) = o15 ∧ Agree ρ [(13, .bool x14)] ∧ Ext w w' ∧ St w' M F []) ?_ ?_
  · have H := o15h
    rcases iteS H with ⟨hb13, H⟩ | ⟨hb13, H⟩
    · skip
      refine W_yes (congrArg some hb13) ?_
      refine W_v (.string (bs a1)) (x_move rfl) rfl ?_
      refine W_yes (congrArg some hb13) ?_
      refine W_v (.int .i64 (a1.length : Int)) (x_len_str Try.underlying9 rfl) rfl ?_
      refine W_yes (congrArg some hb13) ?_
      refine W_v (.pointer (some ⟨b1, 5, none⟩)) (x_fieldAddr (o := 0) (off := 5) Try.underlying37 rfl ty3 rfl rfl) rfl ?_
      refine W_yes (congrArg some hb13) ?_
      refine W_v (.int .i64 a0.KeyLen) (x_load (S.blk 0 rfl) ty3 rfl rfl) rfl ?_
      refine W_yes (congrArg some hb13) ?_
      obtain ⟨t16, ht17, H⟩ := bindS H
      refine W_callF fn35 (ferrymanref02_is.con k M (a1.length : Int) (1 : Int) a0.KeyLen t16  ht17) S rfl rfl (by rintro _ _ _ ⟨_, rfl⟩; exact flat_nil) ?_
      rintro _ w18 _ Γ' E' S ⟨rfl, rfl⟩
      replace E := E.trans E'
      clear E'
      refine W_v (.bool t16) (x_pick (k := true) (congrArg Value.bool hb13) rfl) rfl ?_
      refine Wl_nil ?_
      exact ⟨t16, Option.some.inj H, ⟨rfl, trivial⟩, E, S.pick [] (by decide)⟩
    · skip
      refine W_no (skT hb13) rfl ?_
      refine W_no (skT hb13) rfl ?_
      refine W_no (skT hb13) rfl ?_
      refine W_no (skT hb13) rfl ?_
      refine W_no (skT hb13) rfl ?_
      refine W_v (.bool false) (x_pick (k := false) (congrArg Value.bool hb13) rfl) rfl ?_
      refine Wl_nil ?_
      exact ⟨false, Option.some.inj H, ⟨rfl, trivial⟩, E, S.pick [] (by decide)⟩
  · clear o15h
    rintro ρ w19 ⟨x14, rfl, hρ, E, S⟩
    rw [agree_eta hρ]
    clear hρ
    have H := o15H
    clear o15H
    refine W_v (.bool x14) (x_assign rfl) rfl ?_
    refine Wl_nil ?_
    refine tn ?_
    refine Wp_ret ?_
    obtain rfl := Option.some.inj H
    exact ⟨_, _, _, fun w1 e1 => run_resR (vs := [.bool x14]) (FA.cons (rfl) (FA.nil)), HM, E, S.pick [] (by decide), ⟨rfl, rfl⟩⟩
/-! ### ferryman/ferrymanref02.Bound: function 30 -/
def ferrymanref02_Bound (k : Nat) (a0 : api_Config) (a1 : Str) : Option (Bool) :=
  (Option.bind (ferrymanref02_May k a0) (fun t4 => (Option.bind (α := Bool) (if t4 = true then (Option.bind (ferrymanref02_is k (a1.length : Int) (0 : Int) a0.KeyLen) (fun t16 => some (t16))) else some (false)) (fun x14 => some x14))))
set_option maxHeartbeats 2000000 in
theorem ferrymanref02_Bound.mono {k : Nat} {a0 : api_Config} {a1 : Str} : OLe (ferrymanref02_Bound k a0 a1) (ferrymanref02_Bound (k + 1) a0 a1) := by
  unfold ferrymanref02_Bound
  repeat' (first | with_reducible exact OLe.none | with_reducible exact OLe.some | with_reducible refine OLe.ite ?_ ?_ | with_reducible refine OLe.bind ?_ (fun _ => ?_) | with_reducible exact ferrymanref02_May.mono | with_reducible exact ferrymanref02_is.mono | refine OLe.bind ?_ (fun _ => ?_) | refine OLe.ite ?_ ?_ | refine OLe.elim (fun _ => ?_) (fun _ => ?_) | split)
set_option maxHeartbeats 1000000 in
set_option maxRecDepth 100000 in
theorem ferrymanref02_Bound.con (k : Nat) (M : Hp) (a0 : api_Config) (a1 : Str) (r : Bool)  (h : ferrymanref02_Bound k a0 a1 = some r) : Con Try.prog 30 #[.agg #[.int .i64 a0.Tasks, .int .i64 a0.Active, .int .i64 a0.Keys, .int .i64 a0.Depth, .int .i64 a0.TS, .int .i64 a0.KeyLen, .int .i64 a0.ValLen, .int .i64 a0.Fan], .string (bs a1)] M [] (fun v M' Γ' => v = .bool r ∧ Γ' = []) := by
  refine con_of_wp Try.func30 rfl Try.ntmps30 Try.results30 rfl ?_
  intro w F rn S hrn
  have E := Ext.refl w
  have HM := Hp.le_refl M
  have H := h
  unfold ferrymanref02_Bound at H
  refine Wp_seq ?_
  refine Wp_region_lit ?_
  refine W_box S #[.int .i64 a0.Tasks, .int .i64 a0.Active, .int .i64 a0.Keys, .int .i64 a0.Depth, .int .i64 a0.TS, .int .i64 a0.KeyLen, .int .i64 a0.ValLen, .int .i64 a0.Fan] rfl rfl rfl ?_
  intro b1 w2 E' S
  replace E := E.trans E'
  clear E'
  refine W_v (.bool false) (x_assign rfl) rfl ?_
  refine Wl_nil ?_
  refine tn ?_
  refine Wp_seq ?_
  refine Wp_region_lit ?_
  refine W_v (.agg #[.int .i64 a0.Tasks, .int .i64 a0.Active, .int .i64 a0.Keys, .int .i64 a0.Depth, .int .i64 a0.TS, .int .i64 a0.KeyLen, .int .i64 a0.ValLen, .int .i64 a0.Fan]) (x_loadA (S.blk 0 rfl) ty37 rfl (sub_of_extract rfl) rfl rfl) rfl ?_
  obtain ⟨t4, ht5, H⟩ := bindS H
  refine W_callF fn28 (ferrymanref02_May.con k M a0 t4  ht5) S rfl rfl (by rintro _ _ _ ⟨_, rfl⟩; exact flat_nil) ?_
  rintro _ w6 _ Γ' E' S ⟨rfl, rfl⟩
  replace E := E.trans E'
  clear E'
  refine W_v (.bool t4) (x_move rfl) rfl ?_
  obtain ⟨o15, o15h, o15H⟩ := bindS H
  clear H
  refine Wl_cutN 6 (fun ρ w' => ∃ (x14 : Bool), (x14) = o15 ∧ Agree ρ [(13, .bool x14)] ∧ Ext w w' ∧ St w' M F []) ?_ ?_
  · have H := o15h
    rcases iteS H with ⟨hb13, H⟩ | ⟨hb13, H⟩
    · skip
      refine W_yes (congrArg some hb13) ?_
      refine W_v (.string (bs a1)) (x_move rfl) rfl ?_
      refine W_yes (congrArg some hb13) ?_
      refine W_v (.int .i64 (a1.length : Int)) (x_len_str Try.underlying9 rfl) rfl ?_
      refine W_yes (congrArg some hb13) ?_
      refine W_v (.pointer (some ⟨b1, 5, none⟩)) (x_fieldAddr (o := 0) (off := 5) Try.underlying37 rfl ty3 rfl rfl) rfl ?_
      refine W_yes (congrArg some hb13) ?_
      refine W_v (.int .i64 a0.KeyLen) (x_load (S.blk 0 rfl) ty3 rfl rfl) rfl ?_
      refine W_yes (congrArg some hb13) ?_
      obtain ⟨t16, ht17, H⟩ := bindS H
      refine W_callF fn35 (ferrymanref02_is.con k M (a1.length : Int) (0 : Int) a0.KeyLen t16  ht17) S rfl rfl (by rintro _ _ _ ⟨_, rfl⟩; exact flat_nil) ?_
      rintro _ w18 _ Γ' E' S ⟨rfl, rfl⟩
      replace E := E.trans E'
      clear E'
      refine W_v (.bool t16) (x_pick (k := true) (congrArg Value.bool hb13) rfl) rfl ?_
      refine Wl_nil ?_
      exact ⟨t16, Option.some.inj H, ⟨rfl, trivial⟩, E, S.pick [] (by decide)⟩
    · skip
      refine W_no (skT hb13) rfl ?_
      refine W_no (skT hb13) rfl ?_
      refine W_no (skT hb13) rfl ?_
      refine W_no (skT hb13) rfl ?_
      refine W_no (skT hb13) rfl ?_
      refine W_v (.bool false) (x_pick (k := false) (congrArg Value.bool hb13) rfl) rfl ?_
      refine Wl_nil ?_
      exact ⟨false, Option.some.inj H, ⟨rfl, trivial⟩, E, S.pick [] (by decide)⟩
  · clear o15h
    rintro ρ w19 ⟨x14, rfl, hρ, E, S⟩
    rw [agree_eta hρ]
    clear hρ
    have H := o15H
    clear o15H
    refine W_v (.bool x14) (x_assign rfl) rfl ?_
    refine Wl_nil ?_
    refine tn ?_
    refine Wp_ret ?_
    obtain rfl := Option.some.inj H
    exact ⟨_, _, _, fun w1 e1 => run_resR (vs := [.bool x14]) (FA.cons (rfl) (FA.nil)), HM, E, S.pick [] (by decide), ⟨rfl, rfl⟩⟩
/-! ### ferryman/ferrymanref02.Value: function 31 -/
def ferrymanref02_Value (k : Nat) (a0 : api_Config) (a1 : Str) : Option (Bool) :=
  (Option.bind (ferrymanref02_May k a0) (fun t4 => (Option.bind (α := Bool) (if t4 = true then (Option.bind (ferrymanref02_is k (a1.length : Int) (0 : Int) a0.ValLen) (fun t16 => some (t16))) else some (false)) (fun x14 => some x14))))
set_option maxHeartbeats 2000000 in
theorem ferrymanref02_Value.mono {k : Nat} {a0 : api_Config} {a1 : Str} : OLe (ferrymanref02_Value k a0 a1) (ferrymanref02_Value (k + 1) a0 a1) := by
  unfold ferrymanref02_Value
  repeat' (first | with_reducible exact OLe.none | with_reducible exact OLe.some | with_reducible refine OLe.ite ?_ ?_ | with_reducible refine OLe.bind ?_ (fun _ => ?_) | with_reducible exact ferrymanref02_May.mono | with_reducible exact ferrymanref02_is.mono | refine OLe.bind ?_ (fun _ => ?_) | refine OLe.ite ?_ ?_ | refine OLe.elim (fun _ => ?_) (fun _ => ?_) | split)
set_option maxHeartbeats 1000000 in
set_option maxRecDepth 100000 in
theorem ferrymanref02_Value.con (k : Nat) (M : Hp) (a0 : api_Config) (a1 : Str) (r : Bool)  (h : ferrymanref02_Value k a0 a1 = some r) : Con Try.prog 31 #[.agg #[.int .i64 a0.Tasks, .int .i64 a0.Active, .int .i64 a0.Keys, .int .i64 a0.Depth, .int .i64 a0.TS, .int .i64 a0.KeyLen, .int .i64 a0.ValLen, .int .i64 a0.Fan], .string (bs a1)] M [] (fun v M' Γ' => v = .bool r ∧ Γ' = []) := by
  refine con_of_wp Try.func31 rfl Try.ntmps31 Try.results31 rfl ?_
  intro w F rn S hrn
  have E := Ext.refl w
  have HM := Hp.le_refl M
  have H := h
  unfold ferrymanref02_Value at H
  refine Wp_seq ?_
  refine Wp_region_lit ?_
  refine W_box S #[.int .i64 a0.Tasks, .int .i64 a0.Active, .int .i64 a0.Keys, .int .i64 a0.Depth, .int .i64 a0.TS, .int .i64 a0.KeyLen, .int .i64 a0.ValLen, .int .i64 a0.Fan] rfl rfl rfl ?_
  intro b1 w2 E' S
  replace E := E.trans E'
  clear E'
  refine W_v (.bool false) (x_assign rfl) rfl ?_
  refine Wl_nil ?_
  refine tn ?_
  refine Wp_seq ?_
  refine Wp_region_lit ?_
  refine W_v (.agg #[.int .i64 a0.Tasks, .int .i64 a0.Active, .int .i64 a0.Keys, .int .i64 a0.Depth, .int .i64 a0.TS, .int .i64 a0.KeyLen, .int .i64 a0.ValLen, .int .i64 a0.Fan]) (x_loadA (S.blk 0 rfl) ty37 rfl (sub_of_extract rfl) rfl rfl) rfl ?_
  obtain ⟨t4, ht5, H⟩ := bindS H
  refine W_callF fn28 (ferrymanref02_May.con k M a0 t4  ht5) S rfl rfl (by rintro _ _ _ ⟨_, rfl⟩; exact flat_nil) ?_
  rintro _ w6 _ Γ' E' S ⟨rfl, rfl⟩
  replace E := E.trans E'
  clear E'
  refine W_v (.bool t4) (x_move rfl) rfl ?_
  obtain ⟨o15, o15h, o15H⟩ := bindS H
  clear H
  refine Wl_cutN 6 (fun ρ w' => ∃ (x14 : Bool), (x14) = o15 ∧ Agree ρ [(13, .bool x14)] ∧ Ext w w' ∧ St w' M F []) ?_ ?_
  · have H := o15h
    rcases iteS H with ⟨hb13, H⟩ | ⟨hb13, H⟩
    · skip
      refine W_yes (congrArg some hb13) ?_
      refine W_v (.string (bs a1)) (x_move rfl) rfl ?_
      refine W_yes (congrArg some hb13) ?_
      refine W_v (.int .i64 (a1.length : Int)) (x_len_str Try.underlying9 rfl) rfl ?_
      refine W_yes (congrArg some hb13) ?_
      refine W_v (.pointer (some ⟨b1, 6, none⟩)) (x_fieldAddr (o := 0) (off := 6) Try.underlying37 rfl ty3 rfl rfl) rfl ?_
      refine W_yes (congrArg some hb13) ?_
      refine W_v (.int .i64 a0.ValLen) (x_load (S.blk 0 rfl) ty3 rfl rfl) rfl ?_
      refine W_yes (congrArg some hb13) ?_
      obtain ⟨t16, ht17, H⟩ := bindS H
      refine W_callF fn35 (ferrymanref02_is.con k M (a1.length : Int) (0 : Int) a0.ValLen t16  ht17) S rfl rfl (by rintro _ _ _ ⟨_, rfl⟩; exact flat_nil) ?_
      rintro _ w18 _ Γ' E' S ⟨rfl, rfl⟩
      replace E := E.trans E'
      clear E'
      refine W_v (.bool t16) (x_pick (k := true) (congrArg Value.bool hb13) rfl) rfl ?_
      refine Wl_nil ?_
      exact ⟨t16, Option.some.inj H, ⟨rfl, trivial⟩, E, S.pick [] (by decide)⟩
    · skip
      refine W_no (skT hb13) rfl ?_
      refine W_no (skT hb13) rfl ?_
      refine W_no (skT hb13) rfl ?_
      refine W_no (skT hb13) rfl ?_
      refine W_no (skT hb13) rfl ?_
      refine W_v (.bool false) (x_pick (k := false) (congrArg Value.bool hb13) rfl) rfl ?_
      refine Wl_nil ?_
      exact ⟨false, Option.some.inj H, ⟨rfl, trivial⟩, E, S.pick [] (by decide)⟩
  · clear o15h
    rintro ρ w19 ⟨x14, rfl, hρ, E, S⟩
    rw [agree_eta hρ]
    clear hρ
    have H := o15H
    clear o15H
    refine W_v (.bool x14) (x_assign rfl) rfl ?_
    refine Wl_nil ?_
    refine tn ?_
    refine Wp_ret ?_
    obtain rfl := Option.some.inj H
    exact ⟨_, _, _, fun w1 e1 => run_resR (vs := [.bool x14]) (FA.cons (rfl) (FA.nil)), HM, E, S.pick [] (by decide), ⟨rfl, rfl⟩⟩
end Go.Proofs.Ytnfeinhialojnaa
