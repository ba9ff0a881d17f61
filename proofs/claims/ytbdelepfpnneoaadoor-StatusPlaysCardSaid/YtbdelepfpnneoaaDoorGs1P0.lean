import Derived.Test.YtbdelepfpnneoaaDoorTys1
namespace Go.Proofs.YtbdelepfpnneoaaDoor
open Go
set_option linter.unusedVariables false
set_option linter.unusedSimpArgs false
structure status_writer where
  state : Int
  ts : Int
instance : Inhabited status_writer := ⟨⟨0, 0⟩⟩
def r_status_writer : Rep status_writer where
  sz := 2
  R := fun _ x cs => cs = [.int .u8 x.state, .int .i64 x.ts]
  len := fun h => by subst h; rfl
  one := by
    intro M x cs h
    subst h
    exact fun v hv => List.all_eq_true.1 (show (List.all [.int .u8 x.state, .int .i64 x.ts] (·.oneCell')) = true from rfl) v hv
  mono := fun _ h => h
structure status_Writers where
  l : (List status_writer)
  last : Int
instance : Inhabited status_Writers := ⟨⟨[], 0⟩⟩
def r_status_Writers : Rep status_Writers where
  sz := 2
  R := fun M x cs => ∃ v0, SlR r_status_writer M v0 x.l ∧ cs = [v0, .int .i64 x.last]
  len := fun ⟨v0, h0, h⟩ => by subst h; rfl
  one := by
    rintro M x cs ⟨v0, h0, h⟩
    subst h
    obtain ⟨A0, c0, rfl, _⟩ := h0.form
    exact fun v hv => List.all_eq_true.1 (show (List.all [.slice A0 x.l.length c0, .int .i64 x.last] (·.oneCell')) = true from rfl) v hv
  mono := fun hM ⟨v0, h0, h⟩ => ⟨v0, SlR.mono h0 hM, h⟩
structure ferrymanlaw08_Step where
  What : Int
  W : Int
  TS : Int
instance : Inhabited ferrymanlaw08_Step := ⟨⟨0, 0, 0⟩⟩
def r_ferrymanlaw08_Step : Rep ferrymanlaw08_Step where
  sz := 3
  R := fun _ x cs => cs = [.int .u8 x.What, .int .i64 x.W, .int .i64 x.TS]
  len := fun h => by subst h; rfl
  one := by
    intro M x cs h
    subst h
    exact fun v hv => List.all_eq_true.1 (show (List.all [.int .u8 x.What, .int .i64 x.W, .int .i64 x.TS] (·.oneCell')) = true from rfl) v hv
  mono := fun _ h => h
structure ferrymanref08_Writer where
  State : Int
  TS : Int
instance : Inhabited ferrymanref08_Writer := ⟨⟨0, 0⟩⟩
def r_ferrymanref08_Writer : Rep ferrymanref08_Writer where
  sz := 2
  R := fun _ x cs => cs = [.int .u8 x.State, .int .i64 x.TS]
  len := fun h => by subst h; rfl
  one := by
    intro M x cs h
    subst h
    exact fun v hv => List.all_eq_true.1 (show (List.all [.int .u8 x.State, .int .i64 x.TS] (·.oneCell')) = true from rfl) v hv
  mono := fun _ h => h
structure ferrymanref08_Writers where
  L : (List ferrymanref08_Writer)
instance : Inhabited ferrymanref08_Writers := ⟨⟨[]⟩⟩
def r_ferrymanref08_Writers : Rep ferrymanref08_Writers where
  sz := 1
  R := fun M x cs => ∃ v0, SlR r_ferrymanref08_Writer M v0 x.L ∧ cs = [v0]
  len := fun ⟨v0, h0, h⟩ => by subst h; rfl
  one := by
    rintro M x cs ⟨v0, h0, h⟩
    subst h
    obtain ⟨A0, c0, rfl, _⟩ := h0.form
    exact fun v hv => List.all_eq_true.1 (show (List.all [.slice A0 x.L.length c0] (·.oneCell')) = true from rfl) v hv
  mono := fun hM ⟨v0, h0, h⟩ => ⟨v0, SlR.mono h0 hM, h⟩
/-! ### ferryman/ferrymanref08.Ints: function 13 -/
def ferrymanref08_Ints_l0 (a0 : (List Int)) (a1 : (List Int)) : Nat → Int → Option ((Bool) ⊕ (Unit))
  | 0, _ => none
  | k + 1, x92 => (if (decide (x92 < (a0.length : Int))) = true then (if 0 ≤ x92 ∧ x92 < (a0.length : Int) then (if 0 ≤ x92 ∧ x92 < (a1.length : Int) then (if ((rd a0 x92) != (rd a1 x92)) = true then some (.inl false) else ferrymanref08_Ints_l0 a0 a1 k (IntKind.i64.wrap (x92 + (1 : Int)))) else none) else none) else some (.inr ()))
set_option maxHeartbeats 2000000 in
theorem ferrymanref08_Ints_l0.mono {a0 : (List Int)} {a1 : (List Int)} : ∀ {k : Nat} {x0}, OLe (ferrymanref08_Ints_l0 a0 a1 k x0) (ferrymanref08_Ints_l0 a0 a1 (k + 1) x0) := by
  intro k
  induction k with
  | zero => intros; exact OLe.none
  | succ k ih =>
    intros
    rw [ferrymanref08_Ints_l0.eq_2, ferrymanref08_Ints_l0.eq_2]
    repeat' (first | with_reducible exact OLe.none | with_reducible exact OLe.some | with_reducible refine OLe.ite ?_ ?_ | with_reducible refine OLe.bind ?_ (fun _ => ?_) | exact ih | refine OLe.bind ?_ (fun _ => ?_) | refine OLe.ite ?_ ?_ | refine OLe.elim (fun _ => ?_) (fun _ => ?_) | split)
def ferrymanref08_Ints (k : Nat) (a0 : (List Int)) (a1 : (List Int)) : Option (Bool) :=
  (if ((a0.length : Int) != (a1.length : Int)) = true then some false else (Option.bind (ferrymanref08_Ints_l0 a0 a1 k (0 : Int)) (fun o137o => Sum.elim (fun r' => some r') (fun _ => some true) o137o)))
set_option maxHeartbeats 2000000 in
theorem ferrymanref08_Ints.mono {k : Nat} {a0 : (List Int)} {a1 : (List Int)} : OLe (ferrymanref08_Ints k a0 a1) (ferrymanref08_Ints (k + 1) a0 a1) := by
  unfold ferrymanref08_Ints
  repeat' (first | with_reducible exact OLe.none | with_reducible exact OLe.some | with_reducible refine OLe.ite ?_ ?_ | with_reducible refine OLe.bind ?_ (fun _ => ?_) | with_reducible exact ferrymanref08_Ints_l0.mono | refine OLe.bind ?_ (fun _ => ?_) | refine OLe.ite ?_ ?_ | refine OLe.elim (fun _ => ?_) (fun _ => ?_) | split)
set_option maxHeartbeats 1000000 in
set_option maxRecDepth 100000 in
theorem ferrymanref08_Ints.con (k : Nat) (M : Hp) (A0 : Option Addr) (c0 : Nat) (a0 : (List Int)) (A1 : Option Addr) (c1 : Nat) (a1 : (List Int)) (r : Bool) (hr0 : SlR (rInt .i64) M (.slice A0 a0.length c0) a0) (hr1 : SlR (rInt .i64) M (.slice A1 a1.length c1) a1) (hg0 : ∃ gt fr, M 0 = some (.cells #[.int .u8 0, .int .u8 0, .int .u8 1, .int .u8 1, .int .u8 2] gt fr)) (h : ferrymanref08_Ints k a0 a1 = some r) : Con Tryd.prog 13 #[.slice A0 a0.length c0, .slice A1 a1.length c1] M [] (fun v M' Γ' => v = .bool r ∧ Γ' = []) := by
  refine con_of_wp Tryd.func13 rfl Tryd.ntmps13 Tryd.results13 rfl ?_
  intro w F rn S hrn
  have E := Ext.refl w
  have HM := Hp.le_refl M
  have H := h
  unfold ferrymanref08_Ints at H
  refine Wp_seq ?_
  refine Wp_region_lit ?_
  refine W_v (.bool false) (x_assign rfl) rfl ?_
  refine Wl_nil ?_
  refine tn ?_
  refine Wp_seq ?_
  refine Wp_seq ?_
  refine Wp_region_lit ?_
  refine W_v (.slice A0 a0.length c0) (x_move rfl) rfl ?_
  refine W_v (.int .i64 (a0.length : Int)) (x_len_slice (n := a0.length) Tryd.underlying32 rfl) rfl ?_
  refine W_v (.slice A1 a1.length c1) (x_move rfl) rfl ?_
  refine W_v (.int .i64 (a1.length : Int)) (x_len_slice (n := a1.length) Tryd.underlying32 rfl) rfl ?_
  refine W_v (.bool ((a0.length : Int) != (a1.length : Int))) (x_ibin rfl rfl rfl rfl) rfl ?_
  refine Wl_nil ?_
  refine tn ?_
  rcases iteS H with ⟨hb1, H⟩ | ⟨hb1, H⟩
  · refine Wp_cond_true (congrArg Value.bool hb1) ?_
    refine Wp_seq ?_
    refine Wp_region_lit ?_
    refine W_v (.bool false) (x_assign rfl) rfl ?_
    refine Wl_nil ?_
    refine tn ?_
    refine Wp_ret ?_
    refine tr (?_)
    obtain rfl := Option.some.inj H
    exact ⟨_, _, _, fun w1 e1 => run_resR (vs := [.bool false]) (FA.cons (rfl) (FA.nil)), HM, E, S.pick [] (by decide), ⟨rfl, rfl⟩⟩
  refine Wp_cond_false (congrArg Value.bool hb1) ?_
  refine Wp_skip ?_
  refine tn ?_
  refine Wp_seq ?_
  refine Wp_seq ?_
  refine Wp_region_lit ?_
  refine W_v (.int .i64 0) (x_assign rfl) rfl ?_
  refine Wl_nil ?_
  refine tn ?_
  obtain ⟨o137, o137h, o137H⟩ := bindS H
  clear H
  refine Wp_blockJ (fun ρ w' => .inr () = o137 ∧ Agree ρ [] ∧ Ext w w' ∧ St w' M F []) ?_ ?_
  · skip
    refine Wp_loop (fun n ρ w' => ∃ (x92 : Int), ferrymanref08_Ints_l0 a0 a1 n x92 = some o137 ∧ Agree ρ [(0, .slice A0 a0.length c0), (1, .slice A1 a1.length c1), (5, .int .i64 x92)] ∧ Ext w w' ∧ St w' M F []) k ?_ ?_
    · skip
      exact ⟨(0 : Int), o137h, ⟨rfl, rfl, rfl, trivial⟩, E, S.pick [] (by decide)⟩
    · intro n
      rintro ρ w138 ⟨x92, H, hρ, E, S⟩
      rw [agree_eta hρ]
      clear hρ
      cases n with
      | zero => cases H
      | succ k =>
        rw [ferrymanref08_Ints_l0.eq_2] at H
        refine Wp_seq ?_
        refine Wp_seq ?_
        refine Wp_region_lit ?_
        refine W_v (.int .i64 x92) (x_move rfl) rfl ?_
        refine W_v (.slice A0 a0.length c0) (x_move rfl) rfl ?_
        refine W_v (.int .i64 (a0.length : Int)) (x_len_slice (n := a0.length) Tryd.underlying32 rfl) rfl ?_
        refine W_v (.bool (decide (x92 < (a0.length : Int)))) (x_ibin rfl rfl rfl rfl) rfl ?_
        refine Wl_nil ?_
        refine tn ?_
        rcases iteS H with ⟨hb139, H⟩ | ⟨hb139, H⟩
        · refine Wp_cond_true (congrArg Value.bool hb139) ?_
          refine Wp_skip ?_
          refine tn ?_
          refine Wp_seq ?_
          refine Wp_block ?_
          refine Wp_seq ?_
          refine Wp_region_any (S := fun w' => ∃ Mx, M.le Mx ∧ St w' Mx F []) mixed ?_
          intro w160 hw161 E'
          replace S := S.heap hw161
          replace E := E.trans E'
          clear E'
          refine Wa_take (i := 0) rfl (by kernel_rfl) rfl rfl (.slice A0 a0.length c0) rfl (fun w' h' => x_move rfl) (⟨M, Hp.le_refl M, S.pick [] (by decide)⟩) ?_
          refine Wa_take (i := 1) rfl (by kernel_rfl) rfl rfl (.int .i64 x92) rfl (fun w' h' => x_move rfl) (⟨M, Hp.le_refl M, S.pick [] (by decide)⟩) ?_
          obtain ⟨⟨p162, p163⟩, H⟩ := chkS H
          obtain ⟨b164, o165, cs166, _, _, ee171, hb167, vs168, hR169, hc170⟩ := SlW.at' hr0 p162 p163
          obtain rfl : vs168 = _ := hR169
          refine Wa_take (i := 2) rfl (by kernel_rfl) rfl rfl (.pointer (some ⟨b164, o165 + x92.toNat * 1, none⟩)) rfl (fun w' h' => x_indexAddr Tryd.underlying32 ty3 (slA ee171) rfl p162 p163) (⟨M, Hp.le_refl M, S.pick [] (by decide)⟩) ?_
          refine Wa_take (i := 3) rfl (by kernel_rfl) rfl rfl (.int .i64 (rd a0 x92)) rfl (fun w' h' => x_load (cls_frz h' hb167) ty3 rfl (hc170 0 _ rfl)) (⟨M, Hp.le_refl M, S.pick [] (by decide)⟩) ?_
          refine Wa_take (i := 4) rfl (by kernel_rfl) rfl rfl (.slice A1 a1.length c1) rfl (fun w' h' => x_move rfl) (⟨M, Hp.le_refl M, S.pick [] (by decide)⟩) ?_
          refine Wa_take (i := 5) rfl (by kernel_rfl) rfl rfl (.int .i64 x92) rfl (fun w' h' => x_move rfl) (⟨M, Hp.le_refl M, S.pick [] (by decide)⟩) ?_
          obtain ⟨⟨p172, p173⟩, H⟩ := chkS H
          obtain ⟨b174, o175, cs176, _, _, ee181, hb177, vs178, hR179, hc180⟩ := SlW.at' hr1 p172 p173
          obtain rfl : vs178 = _ := hR179
          refine Wa_take (i := 6) rfl (by kernel_rfl) rfl rfl (.pointer (some ⟨b174, o175 + x92.toNat * 1, none⟩)) rfl (fun w' h' => x_indexAddr Tryd.underlying32 ty3 (slA ee181) rfl p172 p173) (⟨M, Hp.le_refl M, S.pick [] (by decide)⟩) ?_
          refine Wa_take (i := 7) rfl (by kernel_rfl) rfl rfl (.int .i64 (rd a1 x92)) rfl (fun w' h' => x_load (cls_frz h' hb177) ty3 rfl (hc180 0 _ rfl)) (⟨M, Hp.le_refl M, S.pick [] (by decide)⟩) ?_
          refine Wa_take (i := 8) rfl (by kernel_rfl) rfl rfl (.bool ((rd a0 x92) != (rd a1 x92))) rfl (fun w' h' => x_ibin rfl rfl rfl rfl) (⟨M, Hp.le_refl M, S.pick [] (by decide)⟩) ?_
          refine Wa_done (by kernel_rfl) ?_
          refine tn ?_
          rcases iteS H with ⟨hb182, H⟩ | ⟨hb182, H⟩
          · refine Wp_cond_true (congrArg Value.bool hb182) ?_
            refine Wp_seq ?_
            refine Wp_region_lit ?_
            refine W_v (.bool false) (x_assign rfl) rfl ?_
            refine Wl_nil ?_
            refine tn ?_
            refine Wp_ret ?_
            refine br (tr (tr (br (tr (tr (?_))))))
            obtain rfl := Option.some.inj H
            have H := o137H
            replace H := elimL H
            obtain rfl := Option.some.inj H
            exact ⟨_, _, _, fun w1 e1 => run_resR (vs := [.bool false]) (FA.cons (rfl) (FA.nil)), HM, E, S.pick [] (by decide), ⟨rfl, rfl⟩⟩
          refine Wp_cond_false (congrArg Value.bool hb182) ?_
          refine Wp_skip ?_
          refine bn ?_
          refine tn ?_
          refine Wp_region_lit ?_
          refine W_v (.int .i64 x92) (x_move rfl) rfl ?_
          refine W_v (.int .i64 (IntKind.i64.wrap (x92 + (1 : Int)))) (x_ibin rfl rfl rfl rfl) rfl ?_
          refine W_v (.int .i64 (IntKind.i64.wrap (x92 + (1 : Int)))) (x_assign rfl) rfl ?_
          refine Wl_nil ?_
          refine tn ?_
          exact ⟨k, Nat.lt_succ_self k, ⟨(IntKind.i64.wrap (x92 + (1 : Int))), H, ⟨rfl, rfl, rfl, trivial⟩, E, S.pick [] (by decide)⟩⟩
        refine Wp_cond_false (congrArg Value.bool hb139) ?_
        refine Wp_exit ?_
        refine tx (tx (bsm (?_)))
        refine tn ?_
        exact ⟨Option.some.inj H, trivial, E, S.pick [] (by decide)⟩
  clear o137h
  rintro ρ w183 ⟨rfl, hρ, E, S⟩
  rw [agree_eta hρ]
  clear hρ
  have H := o137H
  clear o137H
  replace H := elimR H
  refine tn ?_
  refine Wp_seq ?_
  refine Wp_region_lit ?_
  refine W_v (.bool true) (x_assign rfl) rfl ?_
  refine Wl_nil ?_
  refine tn ?_
  refine Wp_ret ?_
  obtain rfl := Option.some.inj H
  exact ⟨_, _, _, fun w1 e1 => run_resR (vs := [.bool true]) (FA.cons (rfl) (FA.nil)), HM, E, S.pick [] (by decide), ⟨rfl, rfl⟩⟩
/-! ### slices.Index[[]uint8,uint8]: function 44 -/
def slices_Index_uint8_uint8_l0 (a0 : (List Int)) (a1 : Int) : Nat → Int → Option ((Int) ⊕ (Unit))
  | 0, _ => none
  | k + 1, x27 => (if (decide (x27 < (a0.length : Int))) = true then (if 0 ≤ x27 ∧ x27 < (a0.length : Int) then (if (a1 == (rd a0 x27)) = true then some (.inl x27) else slices_Index_uint8_uint8_l0 a0 a1 k (IntKind.i64.wrap (x27 + (1 : Int)))) else none) else some (.inr ()))
set_option maxHeartbeats 2000000 in
theorem slices_Index_uint8_uint8_l0.mono {a0 : (List Int)} {a1 : Int} : ∀ {k : Nat} {x0}, OLe (slices_Index_uint8_uint8_l0 a0 a1 k x0) (slices_Index_uint8_uint8_l0 a0 a1 (k + 1) x0) := by
  intro k
  induction k with
  | zero => intros; exact OLe.none
  | succ k ih =>
    intros
    rw [slices_Index_uint8_uint8_l0.eq_2, slices_Index_uint8_uint8_l0.eq_2]
    repeat' (first | with_reducible exact OLe.none | with_reducible exact OLe.some | with_reducible refine OLe.ite ?_ ?_ | with_reducible refine OLe.bind ?_ (fun _ => ?_) | exact ih | refine OLe.bind ?_ (fun _ => ?_) | refine OLe.ite ?_ ?_ | refine OLe.elim (fun _ => ?_) (fun _ => ?_) | split)
def slices_Index_uint8_uint8 (k : Nat) (a0 : (List Int)) (a1 : Int) : Option (Int) :=
  (Option.bind (slices_Index_uint8_uint8_l0 a0 a1 k (0 : Int)) (fun o40o => Sum.elim (fun r' => some r') (fun _ => some (-1 : Int)) o40o))
set_option maxHeartbeats 2000000 in
theorem slices_Index_uint8_uint8.mono {k : Nat} {a0 : (List Int)} {a1 : Int} : OLe (slices_Index_uint8_uint8 k a0 a1) (slices_Index_uint8_uint8 (k + 1) a0 a1) := by
  unfold slices_Index_uint8_uint8
  repeat' (first | with_reducible exact OLe.none | with_reducible exact OLe.some | with_reducible refine OLe.ite ?_ ?_ | with_reducible refine OLe.bind ?_ (fun _ => ?_) | with_reducible exact slices_Index_uint8_uint8_l0.mono | refine OLe.bind ?_ (fun _ => ?_) | refine OLe.ite ?_ ?_ | refine OLe.elim (fun _ => ?_) (fun _ => ?_) | split)
set_option maxHeartbeats 1000000 in
set_option maxRecDepth 100000 in
theorem slices_Index_uint8_uint8.con (k : Nat) (M : Hp) (A0 : Option Addr) (c0 : Nat) (a0 : (List Int)) (a1 : Int) (r : Int) (hr0 : SlR (rInt .u8) M (.slice A0 a0.length c0) a0) (hg0 : ∃ gt fr, M 0 = some (.cells #[.int .u8 0, .int .u8 0, .int .u8 1, .int .u8 1, .int .u8 2] gt fr)) (h : slices_Index_uint8_uint8 k a0 a1 = some r) : Con Tryd.prog 44 #[.slice A0 a0.length c0, .int .u8 a1] M [] (fun v M' Γ' => v = .int .i64 r ∧ Γ' = []) := by
  refine con_of_wp Tryd.func44 rfl Tryd.ntmps44 Tryd.results44 rfl ?_
  intro w F rn S hrn
  have E := Ext.refl w
  have HM := Hp.le_refl M
  have H := h
  unfold slices_Index_uint8_uint8 at H
  refine Wp_seq ?_
  refine Wp_region_lit ?_
  refine W_v (.int .i64 0) (x_assign rfl) rfl ?_
  refine Wl_nil ?_
  refine tn ?_
  refine Wp_seq ?_
  refine Wp_seq ?_
  refine Wp_region_lit ?_
  refine W_v (.slice A0 a0.length c0) (x_move rfl) rfl ?_
  refine W_v (.int .i64 (a0.length : Int)) (x_len_slice (n := a0.length) Tryd.underlying63 rfl) rfl ?_
  refine W_v (.int .i64 0) (x_move rfl) rfl ?_
  refine Wl_nil ?_
  refine tn ?_
  obtain ⟨o40, o40h, o40H⟩ := bindS H
  clear H
  refine Wp_blockJ (fun ρ w' => .inr () = o40 ∧ Agree ρ [] ∧ Ext w w' ∧ St w' M F []) ?_ ?_
  · skip
    refine Wp_loop (fun n ρ w' => ∃ (x27 : Int), slices_Index_uint8_uint8_l0 a0 a1 n x27 = some o40 ∧ Agree ρ [(0, .slice A0 a0.length c0), (1, .int .u8 a1), (7, .int .i64 (a0.length : Int)), (8, .int .i64 x27)] ∧ Ext w w' ∧ St w' M F []) k ?_ ?_
    · skip
      exact ⟨(0 : Int), o40h, ⟨rfl, rfl, rfl, rfl, trivial⟩, E, S.pick [] (by decide)⟩
    · intro n
      rintro ρ w41 ⟨x27, H, hρ, E, S⟩
      rw [agree_eta hρ]
      clear hρ
      cases n with
      | zero => cases H
      | succ k =>
        rw [slices_Index_uint8_uint8_l0.eq_2] at H
        refine Wp_seq ?_
        refine Wp_region_lit ?_
        refine W_v (.bool (decide (x27 < (a0.length : Int)))) (x_ibin rfl rfl rfl rfl) rfl ?_
        refine Wl_nil ?_
        refine tn ?_
        refine Wp_seq ?_
        rcases iteS H with ⟨hb42, H⟩ | ⟨hb42, H⟩
        · refine Wp_cond_true (congrArg Value.bool hb42) ?_
          refine Wp_skip ?_
          refine tn ?_
          refine Wp_seq ?_
          refine Wp_block ?_
          refine Wp_seq ?_
          refine Wp_region_lit ?_
          refine W_v (.int .i64 x27) (x_move rfl) rfl ?_
          refine W_v (.int .i64 x27) (x_assign rfl) rfl ?_
          refine Wl_nil ?_
          refine tn ?_
          refine Wp_seq ?_
          refine Wp_region_lit ?_
          refine W_v (.int .u8 a1) (x_move rfl) rfl ?_
          refine W_v (.slice A0 a0.length c0) (x_move rfl) rfl ?_
          refine W_v (.int .i64 x27) (x_move rfl) rfl ?_
          obtain ⟨⟨p43, p44⟩, H⟩ := chkS H
          obtain ⟨b45, o46, cs47, _, _, ee52, hb48, vs49, hR50, hc51⟩ := SlW.at' hr0 p43 p44
          obtain rfl : vs49 = _ := hR50
          refine W_v (.pointer (some ⟨b45, o46 + x27.toNat * 1, none⟩)) (x_indexAddr Tryd.underlying63 ty5 (slA ee52) rfl p43 p44) rfl ?_
          refine W_v (.int .u8 (rd a0 x27)) (x_load (S.frz hb48) ty5 rfl (hc51 0 _ rfl)) rfl ?_
          refine W_v (.bool (a1 == (rd a0 x27))) (x_ibin rfl rfl rfl rfl) rfl ?_
          refine Wl_nil ?_
          refine tn ?_
          rcases iteS H with ⟨hb53, H⟩ | ⟨hb53, H⟩
          · refine Wp_cond_true (congrArg Value.bool hb53) ?_
            refine Wp_seq ?_
            refine Wp_region_lit ?_
            refine W_v (.int .i64 x27) (x_move rfl) rfl ?_
            refine W_v (.int .i64 x27) (x_assign rfl) rfl ?_
            refine Wl_nil ?_
            refine tn ?_
            refine Wp_ret ?_
            refine br (tr (tr (br (tr (tr (?_))))))
            obtain rfl := Option.some.inj H
            have H := o40H
            replace H := elimL H
            obtain rfl := Option.some.inj H
            exact ⟨_, _, _, fun w1 e1 => run_resR (vs := [.int .i64 x27]) (FA.cons (rfl) (FA.nil)), HM, E, S.pick [] (by decide), ⟨rfl, rfl⟩⟩
          refine Wp_cond_false (congrArg Value.bool hb53) ?_
          refine Wp_skip ?_
          refine bn ?_
          refine tn ?_
          refine Wp_region_lit ?_
          refine W_v (.int .i64 (IntKind.i64.wrap (x27 + (1 : Int)))) (x_ibin rfl rfl rfl rfl) rfl ?_
          refine W_v (.int .i64 (IntKind.i64.wrap (x27 + (1 : Int)))) (x_move rfl) rfl ?_
          refine Wl_nil ?_
          refine tn ?_
          exact ⟨k, Nat.lt_succ_self k, ⟨(IntKind.i64.wrap (x27 + (1 : Int))), H, ⟨rfl, rfl, rfl, rfl, trivial⟩, E, S.pick [] (by decide)⟩⟩
        refine Wp_cond_false (congrArg Value.bool hb42) ?_
        refine Wp_exit ?_
        refine tx (tx (bsm (?_)))
        refine tn ?_
        exact ⟨Option.some.inj H, trivial, E, S.pick [] (by decide)⟩
  clear o40h
  rintro ρ w54 ⟨rfl, hρ, E, S⟩
  rw [agree_eta hρ]
  clear hρ
  have H := o40H
  clear o40H
  replace H := elimR H
  refine tn ?_
  refine Wp_seq ?_
  refine Wp_region_lit ?_
  refine W_v (.int .i64 (-1)) (x_assign rfl) rfl ?_
  refine Wl_nil ?_
  refine tn ?_
  refine Wp_ret ?_
  obtain rfl := Option.some.inj H
  exact ⟨_, _, _, fun w1 e1 => run_resR (vs := [.int .i64 (-1)]) (FA.cons (rfl) (FA.nil)), HM, E, S.pick [] (by decide), ⟨rfl, rfl⟩⟩
/-! ### slices.Contains[[]uint8,uint8]: function 43 -/
def slices_Contains_uint8_uint8 (k : Nat) (a0 : (List Int)) (a1 : Int) : Option (Bool) :=
  (Option.bind (slices_Index_uint8_uint8 k a0 a1) (fun t1 => some (decide (t1 ≥ (0 : Int)))))
set_option maxHeartbeats 2000000 in
theorem slices_Contains_uint8_uint8.mono {k : Nat} {a0 : (List Int)} {a1 : Int} : OLe (slices_Contains_uint8_uint8 k a0 a1) (slices_Contains_uint8_uint8 (k + 1) a0 a1) := by
  unfold slices_Contains_uint8_uint8
  repeat' (first | with_reducible exact OLe.none | with_reducible exact OLe.some | with_reducible refine OLe.ite ?_ ?_ | with_reducible refine OLe.bind ?_ (fun _ => ?_) | with_reducible exact slices_Index_uint8_uint8.mono | refine OLe.bind ?_ (fun _ => ?_) | refine OLe.ite ?_ ?_ | refine OLe.elim (fun _ => ?_) (fun _ => ?_) | split)
set_option maxHeartbeats 1000000 in
set_option maxRecDepth 100000 in
theorem slices_Contains_uint8_uint8.con (k : Nat) (M : Hp) (A0 : Option Addr) (c0 : Nat) (a0 : (List Int)) (a1 : Int) (r : Bool) (hr0 : SlR (rInt .u8) M (.slice A0 a0.length c0) a0) (hg0 : ∃ gt fr, M 0 = some (.cells #[.int .u8 0, .int .u8 0, .int .u8 1, .int .u8 1, .int .u8 2] gt fr)) (h : slices_Contains_uint8_uint8 k a0 a1 = some r) : Con Tryd.prog 43 #[.slice A0 a0.length c0, .int .u8 a1] M [] (fun v M' Γ' => v = .bool r ∧ Γ' = []) := by
  refine con_of_wp Tryd.func43 rfl Tryd.ntmps43 Tryd.results43 rfl ?_
  intro w F rn S hrn
  have E := Ext.refl w
  have HM := Hp.le_refl M
  have H := h
  unfold slices_Contains_uint8_uint8 at H
  refine Wp_seq ?_
  refine Wp_region_lit ?_
  refine W_v (.bool false) (x_assign rfl) rfl ?_
  refine Wl_nil ?_
  refine tn ?_
  refine Wp_seq ?_
  refine Wp_region_lit ?_
  refine W_v (.slice A0 a0.length c0) (x_move rfl) rfl ?_
  refine W_v (.int .u8 a1) (x_move rfl) rfl ?_
  obtain ⟨t1, ht2, H⟩ := bindS H
  refine W_callF fn44 (slices_Index_uint8_uint8.con k M A0 c0 a0 a1 t1 hr0 hg0 ht2) S rfl rfl (by rintro _ _ _ ⟨_, rfl⟩; exact flat_nil) ?_
  rintro _ w3 _ Γ' E' S ⟨rfl, rfl⟩
  replace E := E.trans E'
  clear E'
  refine W_v (.bool (decide (t1 ≥ (0 : Int)))) (x_ibin rfl rfl rfl rfl) rfl ?_
  refine W_v (.bool (decide (t1 ≥ (0 : Int)))) (x_assign rfl) rfl ?_
  refine Wl_nil ?_
  refine tn ?_
  refine Wp_ret ?_
  obtain rfl := Option.some.inj H
  exact ⟨_, _, _, fun w1 e1 => run_resR (vs := [.bool (decide (t1 ≥ (0 : Int)))]) (FA.cons (rfl) (FA.nil)), HM, E, S.pick [] (by decide), ⟨rfl, rfl⟩⟩
/-! ### ferryman/status.New: function 9 -/
def status_New (k : Nat)  : Option (status_Writers) :=
  some (⟨([] : List status_writer), (0 : Int)⟩ : status_Writers)
set_option maxHeartbeats 2000000 in
theorem status_New.mono {k : Nat}  : OLe (status_New k ) (status_New (k + 1) ) := by
  unfold status_New
  repeat' (first | with_reducible exact OLe.none | with_reducible exact OLe.some | with_reducible refine OLe.ite ?_ ?_ | with_reducible refine OLe.bind ?_ (fun _ => ?_) | refine OLe.bind ?_ (fun _ => ?_) | refine OLe.ite ?_ ?_ | refine OLe.elim (fun _ => ?_) (fun _ => ?_) | split)
set_option maxHeartbeats 1000000 in
set_option maxRecDepth 100000 in
theorem status_New.con (k : Nat) (M : Hp)  (r : status_Writers)  (hg0 : ∃ gt fr, M 0 = some (.cells #[.int .u8 0, .int .u8 0, .int .u8 1, .int .u8 1, .int .u8 2] gt fr)) (h : status_New k  = some r) : Con Tryd.prog 9 #[] M [] (fun v M' Γ' => ∃ (bq1 : Nat) (Aq3 : Option Addr) (cq4 : Nat), v = .pointer (some ⟨bq1, 0, none⟩) ∧ Γ' = [Blk bq1 (.cells #[.slice Aq3 r.l.length cq4, .int .i64 r.last] 47 (0, 0)), Row r_status_writer 49 (.slice Aq3 r.l.length cq4) r.l]) := by
  refine con_of_wp Tryd.func9 rfl Tryd.ntmps9 Tryd.results9 rfl ?_
  intro w F rn S hrn
  have E := Ext.refl w
  have HM := Hp.le_refl M
  have H := h
  unfold status_New at H
  refine Wp_seq ?_
  refine Wp_region_lit ?_
  refine W_v (.pointer none) (x_assign rfl) rfl ?_
  refine Wl_nil ?_
  refine tn ?_
  refine Wp_seq ?_
  refine Wp_region_lit ?_
  refine W_v (.agg #[.slice none 0 0, .int .i64 0]) (x_build2 (pl := [(0, 1), (1, 1)]) #[.slice none 0 0, .int .i64 0] Tryd.underlying47 ty47 (by kernel_rfl) rfl (by kernel_rfl)) rfl ?_
  refine W_box S #[.slice none 0 0, .int .i64 0] rfl rfl rfl ?_
  intro b1 w2 E' S
  replace E := E.trans E'
  clear E'
  refine W_v (.pointer (some ⟨b1, 0, none⟩)) (x_assign rfl) rfl ?_
  refine Wl_nil ?_
  refine tn ?_
  refine Wp_ret ?_
  obtain rfl := Option.some.inj H
  replace S := S.row_nil r_status_writer 49
  exact ⟨_, _, _, fun w1 e1 => run_resR (vs := [.pointer (some ⟨b1, 0, none⟩)]) (FA.cons (rfl) (FA.nil)), HM, E, S.pick [1, 0] (by decide), ⟨b1, none, 0, rfl, rfl⟩⟩
/-! ### (*ferryman/status.Writers).Begin: function 16 -/
def status_Writers_Begin_PO (k : Nat) (a0 : status_Writers) : Option (Int × status_Writers) :=
  (if a0.l.length + ([(⟨(1 : Int), (0 : Int)⟩ : status_writer)] : List status_writer).length ≤ 8796093022208 then some (((a0.l ++ ([(⟨(1 : Int), (0 : Int)⟩ : status_writer)] : List status_writer)).length : Int), (⟨(a0.l ++ ([(⟨(1 : Int), (0 : Int)⟩ : status_writer)] : List status_writer)), a0.last⟩ : status_Writers)) else none)
set_option maxHeartbeats 2000000 in
theorem status_Writers_Begin_PO.mono {k : Nat} {a0 : status_Writers} : OLe (status_Writers_Begin_PO k a0) (status_Writers_Begin_PO (k + 1) a0) := by
  unfold status_Writers_Begin_PO
  repeat' (first | with_reducible exact OLe.none | with_reducible exact OLe.some | with_reducible refine OLe.ite ?_ ?_ | with_reducible refine OLe.bind ?_ (fun _ => ?_) | refine OLe.bind ?_ (fun _ => ?_) | refine OLe.ite ?_ ?_ | refine OLe.elim (fun _ => ?_) (fun _ => ?_) | split)
set_option maxHeartbeats 1000000 in
set_option maxRecDepth 100000 in
theorem status_Writers_Begin_PO.con (k : Nat) (M : Hp) (A0_0 : Option Addr) (c0_0 : Nat) (a0 : status_Writers) (bo0 : Nat) (r : Int × status_Writers)  (hg0 : ∃ gt fr, M 0 = some (.cells #[.int .u8 0, .int .u8 0, .int .u8 1, .int .u8 1, .int .u8 2] gt fr)) (h : status_Writers_Begin_PO k a0 = some r) : Con Tryd.prog 16 #[.pointer (some ⟨bo0, 0, none⟩)] M [Blk bo0 (.cells #[.slice A0_0 a0.l.length c0_0, .int .i64 a0.last] 47 (0, 0)), Row r_status_writer 49 (.slice A0_0 a0.l.length c0_0) a0.l] (fun v M' Γ' => ∃ (Aq1 : Option Addr) (cq2 : Nat), v = .int .i64 r.1 ∧ Γ' = [Blk bo0 (.cells #[.slice Aq1 r.2.l.length cq2, .int .i64 r.2.last] 47 (0, 0)), Row r_status_writer 49 (.slice Aq1 r.2.l.length cq2) r.2.l]) := by
  refine con_of_wp Tryd.func16 rfl Tryd.ntmps16 Tryd.results16 rfl ?_
  intro w F rn S hrn
  have E := Ext.refl w
  have HM := Hp.le_refl M
  have H := h
  unfold status_Writers_Begin_PO at H
  refine Wp_seq ?_
  refine Wp_region_lit ?_
  refine W_v (.int .i64 0) (x_assign rfl) rfl ?_
  refine Wl_nil ?_
  refine tn ?_
  refine Wp_seq ?_
  refine Wp_seq ?_
  refine Wp_region_lit ?_
  refine W_v (.pointer (some ⟨bo0, 0, none⟩)) (x_move rfl) rfl ?_
  refine W_v (.bool false) (x_eq_of (r := false) rfl rfl (run_eq_ptrsn Tryd.underlying24)) rfl ?_
  refine Wl_nil ?_
  refine tn ?_
  refine Wp_cond_false rfl ?_
  refine Wp_skip ?_
  refine tn ?_
  refine Wp_seq ?_
  refine Wp_region_lit ?_
  refine W_v (.pointer (some ⟨bo0, 0, none⟩)) (x_move rfl) rfl ?_
  refine W_v (.pointer (some ⟨bo0, 0, none⟩)) (x_move rfl) rfl ?_
  refine W_v (.pointer (some ⟨bo0, 0, none⟩)) (x_nilptr rfl) rfl ?_
  refine W_v (.pointer (some ⟨bo0, 0, none⟩)) (x_fieldAddr (o := 0) (off := 0) Tryd.underlying47 rfl ty45 rfl rfl) rfl ?_
  refine W_v (.slice A0_0 a0.l.length c0_0) (x_load (S.blk 0 rfl) ty45 rfl rfl) rfl ?_
  refine W_v (.agg #[.int .u8 1, .int .i64 0]) (x_build2 (pl := [(0, 1), (1, 1)]) #[.int .u8 1, .int .i64 0] Tryd.underlying49 ty49 (by kernel_rfl) rfl (by kernel_rfl)) rfl ?_
  refine W_bslice S #[.int .u8 1, .int .i64 0] Tryd.underlying45 ty49 rfl rfl #[.int .u8 0, .int .i64 0] (by kernel_rfl) (by kernel_rfl) rfl ?_
  intro b1 w2 E' S
  replace E := E.trans E'
  clear E'
  replace S := S.blk_row (r := r_status_writer) (l := ([(⟨(1 : Int), (0 : Int)⟩ : status_writer)] : List status_writer)) 0 rfl 1 (Nat.le_refl 1) rfl (Cells.cons (vs := [.int .u8 1, .int .i64 0]) (rfl) Cells.nil)
  obtain ⟨p4, H⟩ := chkS H
  obtain ⟨src5, hs6, hC7⟩ := src_of_read (P := Tryd.prog) (ρ := r_status_writer) (l := ([(⟨(1 : Int), (0 : Int)⟩ : status_writer)] : List status_writer)) (S.row_read 0 rfl) (by decide)
  refine W_append S 2 rfl rfl rfl Tryd.underlying45 (.inl Tryd.underlying45) ty49 rfl (by decide) (by decide) hs6 hC7 rfl (by omega) rfl ?_
  intro v8 w9 E' S
  replace E := E.trans E'
  clear E'
  obtain ⟨A10, c11, rfl, _⟩ := (S.row_read 2 rfl).form
  refine W_v (.pointer (some ⟨bo0, 0, none⟩)) (x_nilptr rfl) rfl ?_
  refine W_v (.pointer (some ⟨bo0, 0, none⟩)) (x_fieldAddr (o := 0) (off := 0) Tryd.underlying47 rfl ty45 rfl rfl) rfl ?_
  refine W_store S 1 rfl ty45 rfl rfl [.slice A10 (a0.l ++ ([(⟨(1 : Int), (0 : Int)⟩ : status_writer)] : List status_writer)).length c11] rfl rfl rfl #[.slice A10 (a0.l ++ ([(⟨(1 : Int), (0 : Int)⟩ : status_writer)] : List status_writer)).length c11, .int .i64 a0.last] rfl rfl ?_
  intro w12 E' S
  replace E := E.trans E'
  clear E'
  refine Wl_nil ?_
  refine tn ?_
  refine Wp_seq ?_
  refine Wp_region_lit ?_
  refine W_v (.pointer (some ⟨bo0, 0, none⟩)) (x_move rfl) rfl ?_
  refine W_v (.pointer (some ⟨bo0, 0, none⟩)) (x_nilptr rfl) rfl ?_
  refine W_v (.pointer (some ⟨bo0, 0, none⟩)) (x_fieldAddr (o := 0) (off := 0) Tryd.underlying47 rfl ty45 rfl rfl) rfl ?_
  refine W_v (.slice A10 (a0.l ++ ([(⟨(1 : Int), (0 : Int)⟩ : status_writer)] : List status_writer)).length c11) (x_load (S.blk 1 rfl) ty45 rfl rfl) rfl ?_
  refine W_v (.int .i64 ((a0.l ++ ([(⟨(1 : Int), (0 : Int)⟩ : status_writer)] : List status_writer)).length : Int)) (x_len_slice (n := (a0.l ++ ([(⟨(1 : Int), (0 : Int)⟩ : status_writer)] : List status_writer)).length) Tryd.underlying45 rfl) rfl ?_
  refine W_v (.int .i64 ((a0.l ++ ([(⟨(1 : Int), (0 : Int)⟩ : status_writer)] : List status_writer)).length : Int)) (x_assign rfl) rfl ?_
  refine Wl_nil ?_
  refine tn ?_
  refine Wp_ret ?_
  obtain rfl := Option.some.inj H
  exact ⟨_, _, _, fun w1 e1 => run_resR (vs := [.int .i64 ((a0.l ++ ([(⟨(1 : Int), (0 : Int)⟩ : status_writer)] : List status_writer)).length : Int)]) (FA.cons (rfl) (FA.nil)), HM, E, S.pick [1, 2] (by decide), ⟨A10, c11, rfl, rfl⟩⟩
/-! ### (*ferryman/status.Writers).may: function 33 -/
def status_Writers_may_PO (k : Nat) (a0 : status_Writers) (a1 : Int) (a2 : Int) : Option (Int) :=
  (if ((decide (a1 < (1 : Int))) || (decide (a1 > (a0.l.length : Int)))) = true then some (5 : Int) else (if 0 ≤ (IntKind.i64.wrap (a1 - (1 : Int))) ∧ (IntKind.i64.wrap (a1 - (1 : Int))) < (a0.l.length : Int) then (if 0 ≤ a2 ∧ a2 < (5 : Int) then (if ((rd a0.l (IntKind.i64.wrap (a1 - (1 : Int)))).state != (rd ([0, 0, 1, 1, 2] : List Int) a2)) = true then some (7 : Int) else some (0 : Int)) else none) else none))
set_option maxHeartbeats 2000000 in
theorem status_Writers_may_PO.mono {k : Nat} {a0 : status_Writers} {a1 : Int} {a2 : Int} : OLe (status_Writers_may_PO k a0 a1 a2) (status_Writers_may_PO (k + 1) a0 a1 a2) := by
  unfold status_Writers_may_PO
  repeat' (first | with_reducible exact OLe.none | with_reducible exact OLe.some | with_reducible refine OLe.ite ?_ ?_ | with_reducible refine OLe.bind ?_ (fun _ => ?_) | refine OLe.bind ?_ (fun _ => ?_) | refine OLe.ite ?_ ?_ | refine OLe.elim (fun _ => ?_) (fun _ => ?_) | split)
set_option maxHeartbeats 1000000 in
set_option maxRecDepth 100000 in
theorem status_Writers_may_PO.con (k : Nat) (M : Hp) (A0_0 : Option Addr) (c0_0 : Nat) (a0 : status_Writers) (a1 : Int) (a2 : Int) (bo0 : Nat) (r : Int)  (hg0 : ∃ gt fr, M 0 = some (.cells #[.int .u8 0, .int .u8 0, .int .u8 1, .int .u8 1, .int .u8 2] gt fr)) (h : status_Writers_may_PO k a0 a1 a2 = some r) : Con Tryd.prog 33 #[.pointer (some ⟨bo0, 0, none⟩), .int .i64 a1, .int .u8 a2] M [Blk bo0 (.cells #[.slice A0_0 a0.l.length c0_0, .int .i64 a0.last] 47 (0, 0)), Row r_status_writer 49 (.slice A0_0 a0.l.length c0_0) a0.l] (fun v M' Γ' => v = .int .i64 r ∧ Γ' = [Blk bo0 (.cells #[.slice A0_0 a0.l.length c0_0, .int .i64 a0.last] 47 (0, 0)), Row r_status_writer 49 (.slice A0_0 a0.l.length c0_0) a0.l]) := by
  refine con_of_wp Tryd.func33 rfl Tryd.ntmps33 Tryd.results33 rfl ?_
  intro w F rn S hrn
  have E := Ext.refl w
  have HM := Hp.le_refl M
  have H := h
  unfold status_Writers_may_PO at H
  refine Wp_seq ?_
  refine Wp_region_lit ?_
  refine W_v (.int .i64 0) (x_assign rfl) rfl ?_
  refine Wl_nil ?_
  refine tn ?_
  refine Wp_seq ?_
  refine Wp_block ?_
  refine Wp_seq ?_
  refine Wp_region_lit ?_
  refine W_v (.pointer (some ⟨bo0, 0, none⟩)) (x_move rfl) rfl ?_
  refine W_v (.bool false) (x_eq_of (r := false) rfl rfl (run_eq_ptrsn Tryd.underlying24)) rfl ?_
  refine W_v (.bool false) (x_assign rfl) rfl ?_
  refine Wl_nil ?_
  refine tn ?_
  refine Wp_cond_false rfl ?_
  refine Wp_seq ?_
  refine Wp_region_lit ?_
  refine W_v (.int .i64 a1) (x_move rfl) rfl ?_
  refine W_v (.bool (decide (a1 < (1 : Int)))) (x_ibin rfl rfl rfl rfl) rfl ?_
  refine W_v (.bool (decide (a1 < (1 : Int)))) (x_move rfl) rfl ?_
  refine Wl_cutN 8 (fun ρ w' => Agree ρ [(0, .pointer (some ⟨bo0, 0, none⟩)), (1, .int .i64 a1), (2, .int .u8 a2), (21, .bool ((decide (a1 < (1 : Int))) || (decide (a1 > (a0.l.length : Int)))))] ∧ w = w') ?_ ?_
  · rcases boolCases (decide (a1 < (1 : Int))) with hb1 | hb1
    · skip
      refine W_yes (congrArg some hb1) ?_
      refine W_v (.int .i64 a1) (x_move rfl) rfl ?_
      refine W_yes (congrArg some hb1) ?_
      refine W_v (.pointer (some ⟨bo0, 0, none⟩)) (x_move rfl) rfl ?_
      refine W_yes (congrArg some hb1) ?_
      refine W_v (.pointer (some ⟨bo0, 0, none⟩)) (x_nilptr rfl) rfl ?_
      refine W_yes (congrArg some hb1) ?_
      refine W_v (.pointer (some ⟨bo0, 0, none⟩)) (x_fieldAddr (o := 0) (off := 0) Tryd.underlying47 rfl ty45 rfl rfl) rfl ?_
      refine W_yes (congrArg some hb1) ?_
      refine W_v (.slice A0_0 a0.l.length c0_0) (x_load (S.blk 0 rfl) ty45 rfl rfl) rfl ?_
      refine W_yes (congrArg some hb1) ?_
      refine W_v (.int .i64 (a0.l.length : Int)) (x_len_slice (n := a0.l.length) Tryd.underlying45 rfl) rfl ?_
      refine W_yes (congrArg some hb1) ?_
      refine W_v (.bool (decide (a1 > (a0.l.length : Int)))) (x_ibin rfl rfl rfl rfl) rfl ?_
      refine W_v (.bool (decide (a1 > (a0.l.length : Int)))) (x_pick (k := false) (congrArg Value.bool hb1) rfl) rfl ?_
      refine Wl_nil ?_
      exact ⟨⟨rfl, rfl, rfl, (by first | rfl | (rw [hb1]; rfl) | (simp only [hb1]; rfl)), trivial⟩, rfl⟩
    · skip
      refine W_no (skF hb1) rfl ?_
      refine W_no (skF hb1) rfl ?_
      refine W_no (skF hb1) rfl ?_
      refine W_no (skF hb1) rfl ?_
      refine W_no (skF hb1) rfl ?_
      refine W_no (skF hb1) rfl ?_
      refine W_no (skF hb1) rfl ?_
      refine W_v (.bool true) (x_pick (k := true) (congrArg Value.bool hb1) rfl) rfl ?_
      refine Wl_nil ?_
      exact ⟨⟨rfl, rfl, rfl, (by first | rfl | (rw [hb1]; rfl) | (simp only [hb1]; rfl)), trivial⟩, rfl⟩
  rintro ρ _ ⟨hρ, rfl⟩
  rw [agree_eta hρ]
  clear hρ
  refine W_v (.bool ((decide (a1 < (1 : Int))) || (decide (a1 > (a0.l.length : Int))))) (x_assign rfl) rfl ?_
  refine Wl_nil ?_
  refine tn ?_
  rcases iteS H with ⟨hb2, H⟩ | ⟨hb2, H⟩
  · refine Wp_cond_true (congrArg Value.bool hb2) ?_
    refine Wp_seq ?_
    refine Wp_region_lit ?_
    refine W_v (.int .i64 5) (x_assign rfl) rfl ?_
    refine Wl_nil ?_
    refine tn ?_
    refine Wp_ret ?_
    refine br (tr (?_))
    obtain rfl := Option.some.inj H
    exact ⟨_, _, _, fun w1 e1 => run_resR (vs := [.int .i64 5]) (FA.cons (rfl) (FA.nil)), HM, E, S.pick [0, 1] (by decide), ⟨rfl, rfl⟩⟩
  refine Wp_cond_false (congrArg Value.bool hb2) ?_
  refine Wp_seq ?_
  refine Wp_region_any (S := fun w' => ∃ Mx, M.le Mx ∧ St w' Mx F [Blk bo0 (.cells #[.slice A0_0 a0.l.length c0_0, .int .i64 a0.last] 47 (0, 0)), Row r_status_writer 49 (.slice A0_0 a0.l.length c0_0) a0.l]) mixed ?_
  intro w12 hw13 E'
  replace S := S.heap hw13
  replace E := E.trans E'
  clear E'
  refine Wa_take (i := 0) rfl (by kernel_rfl) rfl rfl (.pointer (some ⟨bo0, 0, none⟩)) rfl (fun w' h' => x_move rfl) (⟨M, Hp.le_refl M, S.pick [0, 1] (by decide)⟩) ?_
  refine Wa_take (i := 1) rfl (by kernel_rfl) rfl rfl (.pointer (some ⟨bo0, 0, none⟩)) rfl (fun w' h' => x_nilptr rfl) (⟨M, Hp.le_refl M, S.pick [0, 1] (by decide)⟩) ?_
  refine Wa_take (i := 2) rfl (by kernel_rfl) rfl rfl (.pointer (some ⟨bo0, 0, none⟩)) rfl (fun w' h' => x_fieldAddr (o := 0) (off := 0) Tryd.underlying47 rfl ty45 rfl rfl) (⟨M, Hp.le_refl M, S.pick [0, 1] (by decide)⟩) ?_
  refine Wa_take (i := 3) rfl (by kernel_rfl) rfl rfl (.slice A0_0 a0.l.length c0_0) rfl (fun w' h' => x_load (cls_blk h' 0 rfl) ty45 rfl rfl) (⟨M, Hp.le_refl M, S.pick [0, 1] (by decide)⟩) ?_
  refine Wa_take (i := 4) rfl (by kernel_rfl) rfl rfl (.int .i64 a1) rfl (fun w' h' => x_move rfl) (⟨M, Hp.le_refl M, S.pick [0, 1] (by decide)⟩) ?_
  refine Wa_take (i := 5) rfl (by kernel_rfl) rfl rfl (.int .i64 (IntKind.i64.wrap (a1 - (1 : Int)))) rfl (fun w' h' => x_ibin rfl rfl rfl rfl) (⟨M, Hp.le_refl M, S.pick [0, 1] (by decide)⟩) ?_
  obtain ⟨⟨p14, p15⟩, H⟩ := chkS H
  obtain ⟨b16, o17, _, _, _, ee18, _⟩ := SlW.at' (S.row_read 1 rfl) p14 p15
  refine Wa_take (i := 6) rfl (by kernel_rfl) rfl rfl (.pointer (some ⟨b16, o17 + (IntKind.i64.wrap (a1 - (1 : Int))).toNat * 2, none⟩)) rfl (fun w' h' => x_indexAddr Tryd.underlying45 ty49 (slA ee18) rfl p14 p15) (⟨M, Hp.le_refl M, S.pick [0, 1] (by decide)⟩) ?_
  refine Wa_take (i := 7) rfl (by kernel_rfl) rfl rfl (.pointer (some ⟨b16, o17 + (IntKind.i64.wrap (a1 - (1 : Int))).toNat * 2, none⟩)) rfl (fun w' h' => x_fieldAddr (o := o17 + (IntKind.i64.wrap (a1 - (1 : Int))).toNat * 2) (off := 0) Tryd.underlying49 rfl ty5 rfl rfl) (⟨M, Hp.le_refl M, S.pick [0, 1] (by decide)⟩) ?_
  refine Wa_take (i := 8) rfl (by kernel_rfl) rfl rfl (.int .u8 ((rd a0.l (IntKind.i64.wrap (a1 - (1 : Int)))).state)) rfl (fun w' h' => x_load_cls h' 1 rfl ee18 p14 p15 0 (by rintro _ _ rfl; rfl) ty5 rfl) (⟨M, Hp.le_refl M, S.pick [0, 1] (by decide)⟩) ?_
  refine Wa_take (i := 9) rfl (by kernel_rfl) rfl rfl (.int .u8 a2) rfl (fun w' h' => x_move rfl) (⟨M, Hp.le_refl M, S.pick [0, 1] (by decide)⟩) ?_
  obtain ⟨⟨p19, p20⟩, H⟩ := chkS H
  refine Wa_take (i := 10) rfl (by kernel_rfl) rfl rfl (.pointer (some ⟨0, 0 + a2.toNat * 1, none⟩)) rfl (fun w' h' => x_indexArr Tryd.underlying66 ty5 rfl rfl p19 p20) (⟨M, Hp.le_refl M, S.pick [0, 1] (by decide)⟩) ?_
  obtain ⟨gtfr21, fr21, hgx22⟩ := hg0
  have hg0 : ∃ gt fr, _ := ⟨gtfr21, fr21, hgx22⟩
  refine Wa_take (i := 11) rfl (by kernel_rfl) rfl rfl (.int .u8 (rd ([0, 0, 1, 1, 2] : List Int) a2)) rfl (fun w' h' => x_load (cls_frz h' hgx22) ty5 rfl (by obtain ⟨q, hq⟩ := Int.eq_ofNat_of_zero_le p19; have h9 : q = 0 ∨ q = 1 ∨ q = 2 ∨ q = 3 ∨ q = 4 := (by omega); rcases h9 with rfl | rfl | rfl | rfl | rfl <;> (rw [hq] <;> rfl))) (⟨M, Hp.le_refl M, S.pick [0, 1] (by decide)⟩) ?_
  refine Wa_take (i := 12) rfl (by kernel_rfl) rfl rfl (.bool ((rd a0.l (IntKind.i64.wrap (a1 - (1 : Int)))).state != (rd ([0, 0, 1, 1, 2] : List Int) a2))) rfl (fun w' h' => x_ibin rfl rfl rfl rfl) (⟨M, Hp.le_refl M, S.pick [0, 1] (by decide)⟩) ?_
  refine Wa_take (i := 13) rfl (by kernel_rfl) rfl rfl (.bool ((rd a0.l (IntKind.i64.wrap (a1 - (1 : Int)))).state != (rd ([0, 0, 1, 1, 2] : List Int) a2))) rfl (fun w' h' => x_assign rfl) (⟨M, Hp.le_refl M, S.pick [0, 1] (by decide)⟩) ?_
  refine Wa_done (by kernel_rfl) ?_
  refine tn ?_
  rcases iteS H with ⟨hb23, H⟩ | ⟨hb23, H⟩
  · refine Wp_cond_true (congrArg Value.bool hb23) ?_
    refine Wp_seq ?_
    refine Wp_region_lit ?_
    refine W_v (.int .i64 7) (x_assign rfl) rfl ?_
    refine Wl_nil ?_
    refine tn ?_
    refine Wp_ret ?_
    refine br (tr (?_))
    obtain rfl := Option.some.inj H
    exact ⟨_, _, _, fun w1 e1 => run_resR (vs := [.int .i64 7]) (FA.cons (rfl) (FA.nil)), HM, E, S.pick [0, 1] (by decide), ⟨rfl, rfl⟩⟩
  refine Wp_cond_false (congrArg Value.bool hb23) ?_
  refine Wp_skip ?_
  refine bn ?_
  refine tn ?_
  refine Wp_seq ?_
  refine Wp_region_lit ?_
  refine W_v (.int .i64 0) (x_assign rfl) rfl ?_
  refine Wl_nil ?_
  refine tn ?_
  refine Wp_ret ?_
  obtain rfl := Option.some.inj H
  exact ⟨_, _, _, fun w1 e1 => run_resR (vs := [.int .i64 0]) (FA.cons (rfl) (FA.nil)), HM, E, S.pick [0, 1] (by decide), ⟨rfl, rfl⟩⟩
/-! ### (*ferryman/status.Writers).Commit: function 17 -/
def status_Writers_Commit_PO (k : Nat) (a0 : status_Writers) (a1 : Int) (a2 : Int) : Option (Int × status_Writers) :=
  (Option.bind (status_Writers_may_PO k a0 a1 (3 : Int)) (fun t1 => (if (t1 != (0 : Int)) = true then some (t1, a0) else (if ((a2 != (0 : Int)) && ((decide (a2 ≤ a0.last)) || (decide (a2 > (1048576 : Int))))) = true then some ((1 : Int), a0) else (if 0 ≤ (IntKind.i64.wrap (a1 - (1 : Int))) ∧ (IntKind.i64.wrap (a1 - (1 : Int))) < (a0.l.length : Int) then (Option.bind (α := List status_writer) (some (List.set a0.l (IntKind.i64.wrap (a1 - (1 : Int))).toNat (⟨(3 : Int), a2⟩ : status_writer))) (fun x23 => some ((0 : Int), (⟨x23, (imax a0.last a2)⟩ : status_Writers)))) else none)))))
set_option maxHeartbeats 2000000 in
theorem status_Writers_Commit_PO.mono {k : Nat} {a0 : status_Writers} {a1 : Int} {a2 : Int} : OLe (status_Writers_Commit_PO k a0 a1 a2) (status_Writers_Commit_PO (k + 1) a0 a1 a2) := by
  unfold status_Writers_Commit_PO
  repeat' (first | with_reducible exact OLe.none | with_reducible exact OLe.some | with_reducible refine OLe.ite ?_ ?_ | with_reducible refine OLe.bind ?_ (fun _ => ?_) | with_reducible exact status_Writers_may_PO.mono | refine OLe.bind ?_ (fun _ => ?_) | refine OLe.ite ?_ ?_ | refine OLe.elim (fun _ => ?_) (fun _ => ?_) | split)
set_option maxHeartbeats 1000000 in
set_option maxRecDepth 100000 in
theorem status_Writers_Commit_PO.con (k : Nat) (M : Hp) (A0_0 : Option Addr) (c0_0 : Nat) (a0 : status_Writers) (a1 : Int) (a2 : Int) (bo0 : Nat) (r : Int × status_Writers)  (hg0 : ∃ gt fr, M 0 = some (.cells #[.int .u8 0, .int .u8 0, .int .u8 1, .int .u8 1, .int .u8 2] gt fr)) (h : status_Writers_Commit_PO k a0 a1 a2 = some r) : Con Tryd.prog 17 #[.pointer (some ⟨bo0, 0, none⟩), .int .i64 a1, .int .i64 a2] M [Blk bo0 (.cells #[.slice A0_0 a0.l.length c0_0, .int .i64 a0.last] 47 (0, 0)), Row r_status_writer 49 (.slice A0_0 a0.l.length c0_0) a0.l] (fun v M' Γ' => ∃ (Aq1 : Option Addr) (cq2 : Nat), v = .int .i64 r.1 ∧ Γ' = [Blk bo0 (.cells #[.slice Aq1 r.2.l.length cq2, .int .i64 r.2.last] 47 (0, 0)), Row r_status_writer 49 (.slice Aq1 r.2.l.length cq2) r.2.l]) := by
  refine con_of_wp Tryd.func17 rfl Tryd.ntmps17 Tryd.results17 rfl ?_
  intro w F rn S hrn
  have E := Ext.refl w
  have HM := Hp.le_refl M
  have H := h
  unfold status_Writers_Commit_PO at H
  refine Wp_seq ?_
  refine Wp_region_lit ?_
  refine W_v (.int .i64 0) (x_assign rfl) rfl ?_
  refine Wl_nil ?_
  refine tn ?_
  refine Wp_seq ?_
  refine Wp_seq ?_
  refine Wp_region_lit ?_
  refine W_v (.pointer (some ⟨bo0, 0, none⟩)) (x_move rfl) rfl ?_
  refine W_v (.int .i64 a1) (x_move rfl) rfl ?_
  obtain ⟨t1, ht2, H⟩ := bindS H
  refine W_callF2 fn33 (status_Writers_may_PO.con k M A0_0 c0_0 a0 a1 (3 : Int) bo0 t1 hg0 ht2) (Γ1 := [Blk bo0 (.cells #[.slice A0_0 a0.l.length c0_0, .int .i64 a0.last] 47 (0, 0)), Row r_status_writer 49 (.slice A0_0 a0.l.length c0_0) a0.l]) (Γ2 := []) S rfl rfl (by rintro _ _ _ ⟨rfl, rfl⟩; exact (flat_cons flat_blk (flat_cons (flat_row (fun _ _ _ _ h => h)) flat_nil))) ?_
  rintro _ w3 _ Γ' E' S ⟨rfl, rfl⟩
  replace E := E.trans E'
  clear E'
  replace S : St w3 M F [Blk bo0 (.cells #[.slice A0_0 a0.l.length c0_0, .int .i64 a0.last] 47 (0, 0)), Row r_status_writer 49 (.slice A0_0 a0.l.length c0_0) a0.l] := S
  refine W_v (.int .i64 t1) (x_assign rfl) rfl ?_
  refine Wl_nil ?_
  refine tn ?_
  refine Wp_seq ?_
  refine Wp_region_lit ?_
  refine W_v (.int .i64 t1) (x_move rfl) rfl ?_
  refine W_v (.bool (t1 != (0 : Int))) (x_ibin rfl rfl rfl rfl) rfl ?_
  refine Wl_nil ?_
  refine tn ?_
  rcases iteS H with ⟨hb6, H⟩ | ⟨hb6, H⟩
  · refine Wp_cond_true (congrArg Value.bool hb6) ?_
    refine Wp_seq ?_
    refine Wp_region_lit ?_
    refine W_v (.int .i64 t1) (x_move rfl) rfl ?_
    refine W_v (.int .i64 t1) (x_assign rfl) rfl ?_
    refine Wl_nil ?_
    refine tn ?_
    refine Wp_ret ?_
    refine tr (?_)
    obtain rfl := Option.some.inj H
    exact ⟨_, _, _, fun w1 e1 => run_resR (vs := [.int .i64 t1]) (FA.cons (rfl) (FA.nil)), HM, E, S.pick [0, 1] (by decide), ⟨A0_0, c0_0, rfl, rfl⟩⟩
  refine Wp_cond_false (congrArg Value.bool hb6) ?_
  refine Wp_skip ?_
  refine tn ?_
  refine Wp_seq ?_
  refine Wp_seq ?_
  refine Wp_region_lit ?_
  refine W_v (.int .i64 a2) (x_move rfl) rfl ?_
  refine W_v (.bool (a2 != (0 : Int))) (x_ibin rfl rfl rfl rfl) rfl ?_
  refine W_v (.bool (a2 != (0 : Int))) (x_move rfl) rfl ?_
  refine Wl_cutN 11 (fun ρ w' => Agree ρ [(0, .pointer (some ⟨bo0, 0, none⟩)), (1, .int .i64 a1), (2, .int .i64 a2), (27, .bool ((a2 != (0 : Int)) && ((decide (a2 ≤ a0.last)) || (decide (a2 > (1048576 : Int))))))] ∧ w3 = w') ?_ ?_
  · rcases boolCases (a2 != (0 : Int)) with hb9 | hb9
    · skip
      refine W_no (skT hb9) rfl ?_
      refine W_no (skT hb9) rfl ?_
      refine W_no (skT hb9) rfl ?_
      refine W_no (skT hb9) rfl ?_
      refine W_no (skT hb9) rfl ?_
      refine W_no (skT hb9) rfl ?_
      refine W_no (skT hb9) rfl ?_
      refine W_no (rfl) rfl ?_
      refine W_no (rfl) rfl ?_
      refine W_no (skT hb9) rfl ?_
      refine W_v (.bool false) (x_pick (k := false) (congrArg Value.bool hb9) rfl) rfl ?_
      refine Wl_nil ?_
      exact ⟨⟨rfl, rfl, rfl, (by first | rfl | (rw [hb9]; rfl) | (simp only [hb9]; rfl)), trivial⟩, rfl⟩
    · skip
      refine W_yes (congrArg some hb9) ?_
      refine W_v (.int .i64 a2) (x_move rfl) rfl ?_
      refine W_yes (congrArg some hb9) ?_
      refine W_v (.pointer (some ⟨bo0, 0, none⟩)) (x_move rfl) rfl ?_
      refine W_yes (congrArg some hb9) ?_
      refine W_v (.pointer (some ⟨bo0, 0, none⟩)) (x_nilptr rfl) rfl ?_
      refine W_yes (congrArg some hb9) ?_
      refine W_v (.pointer (some ⟨bo0, 1, none⟩)) (x_fieldAddr (o := 0) (off := 1) Tryd.underlying47 rfl ty3 rfl rfl) rfl ?_
      refine W_yes (congrArg some hb9) ?_
      refine W_v (.int .i64 a0.last) (x_load (S.blk 0 rfl) ty3 rfl rfl) rfl ?_
      refine W_yes (congrArg some hb9) ?_
      refine W_v (.bool (decide (a2 ≤ a0.last))) (x_ibin rfl rfl rfl rfl) rfl ?_
      refine W_yes (congrArg some hb9) ?_
      refine W_v (.bool (decide (a2 ≤ a0.last))) (x_move rfl) rfl ?_
      refine Wl_cutN 3 (fun ρ w' => Agree ρ [(0, .pointer (some ⟨bo0, 0, none⟩)), (1, .int .i64 a1), (2, .int .i64 a2), (16, .bool (a2 != (0 : Int))), (26, .bool ((decide (a2 ≤ a0.last)) || (decide (a2 > (1048576 : Int)))))] ∧ w3 = w') ?_ ?_
      · rcases boolCases (decide (a2 ≤ a0.last)) with hb10 | hb10
        · skip
          refine W_yes (congrArg some hb10) ?_
          refine W_v (.int .i64 a2) (x_move rfl) rfl ?_
          refine W_yes (congrArg some hb10) ?_
          refine W_v (.bool (decide (a2 > (1048576 : Int)))) (x_ibin rfl rfl rfl rfl) rfl ?_
          refine W_yes (congrArg some hb9) ?_
          refine W_v (.bool (decide (a2 > (1048576 : Int)))) (x_pick (k := false) (congrArg Value.bool hb10) rfl) rfl ?_
          refine Wl_nil ?_
          exact ⟨⟨rfl, rfl, rfl, rfl, (by first | rfl | (rw [hb10]; rfl) | (simp only [hb10]; rfl)), trivial⟩, rfl⟩
        · skip
          refine W_no (skF hb10) rfl ?_
          refine W_no (skF hb10) rfl ?_
          refine W_yes (congrArg some hb9) ?_
          refine W_v (.bool true) (x_pick (k := true) (congrArg Value.bool hb10) rfl) rfl ?_
          refine Wl_nil ?_
          exact ⟨⟨rfl, rfl, rfl, rfl, (by first | rfl | (rw [hb10]; rfl) | (simp only [hb10]; rfl)), trivial⟩, rfl⟩
      rintro ρ _ ⟨hρ, rfl⟩
      rw [agree_eta hρ]
      clear hρ
      refine W_v (.bool ((decide (a2 ≤ a0.last)) || (decide (a2 > (1048576 : Int))))) (x_pick (k := true) (congrArg Value.bool hb9) rfl) rfl ?_
      refine Wl_nil ?_
      exact ⟨⟨rfl, rfl, rfl, (by first | rfl | (rw [hb9]; rfl) | (simp only [hb9]; rfl)), trivial⟩, rfl⟩
  rintro ρ _ ⟨hρ, rfl⟩
  rw [agree_eta hρ]
  clear hρ
  refine Wl_nil ?_
  refine tn ?_
  rcases iteS H with ⟨hb11, H⟩ | ⟨hb11, H⟩
  · refine Wp_cond_true (congrArg Value.bool hb11) ?_
    refine Wp_seq ?_
    refine Wp_region_lit ?_
    refine W_v (.int .i64 1) (x_assign rfl) rfl ?_
    refine Wl_nil ?_
    refine tn ?_
    refine Wp_ret ?_
    refine tr (?_)
    obtain rfl := Option.some.inj H
    exact ⟨_, _, _, fun w1 e1 => run_resR (vs := [.int .i64 1]) (FA.cons (rfl) (FA.nil)), HM, E, S.pick [0, 1] (by decide), ⟨A0_0, c0_0, rfl, rfl⟩⟩
  refine Wp_cond_false (congrArg Value.bool hb11) ?_
  refine Wp_skip ?_
  refine tn ?_
  refine Wp_seq ?_
  refine Wp_region_lit ?_
  refine W_v (.pointer (some ⟨bo0, 0, none⟩)) (x_move rfl) rfl ?_
  refine W_v (.pointer (some ⟨bo0, 0, none⟩)) (x_nilptr rfl) rfl ?_
  refine W_v (.pointer (some ⟨bo0, 0, none⟩)) (x_fieldAddr (o := 0) (off := 0) Tryd.underlying47 rfl ty45 rfl rfl) rfl ?_
  refine W_v (.slice A0_0 a0.l.length c0_0) (x_load (S.blk 0 rfl) ty45 rfl rfl) rfl ?_
  refine W_v (.int .i64 a1) (x_move rfl) rfl ?_
  refine W_v (.int .i64 (IntKind.i64.wrap (a1 - (1 : Int)))) (x_ibin rfl rfl rfl rfl) rfl ?_
  refine W_v (.int .i64 a2) (x_move rfl) rfl ?_
  refine W_v (.agg #[.int .u8 3, .int .i64 a2]) (x_build2 (pl := [(0, 1), (1, 1)]) #[.int .u8 3, .int .i64 a2] Tryd.underlying49 ty49 (by kernel_rfl) rfl (by kernel_rfl)) rfl ?_
  obtain ⟨⟨p12, p13⟩, H⟩ := chkS H
  obtain ⟨b14, o15, cs16, _, _, ee21, hb17, vs18, hR19, hc20⟩ := SlW.at' (S.row_read 1 rfl) p12 p13
  obtain rfl : vs18 = _ := hR19
  refine W_v (.pointer (some ⟨b14, o15 + (IntKind.i64.wrap (a1 - (1 : Int))).toNat * 2, none⟩)) (x_indexAddr Tryd.underlying45 ty49 (slA ee21) rfl p12 p13) rfl ?_
  obtain ⟨x23, he24, H⟩ := bindS H
  replace he24 := Option.some.inj he24
  refine W_rowstore S 1 rfl rfl ee21 (by first | exact p12 | simpa using p12) (by first | exact p13 | simpa using p13) 0 ty49 rfl rfl [.int .u8 3, .int .i64 a2] rfl rfl rfl rfl (⟨(3 : Int), a2⟩ : status_writer) (by rintro _ rfl; rfl) he24 ?_
  intro w22 E' S
  replace E := E.trans E'
  clear E'
  have hs25 : Value.slice A0_0 a0.l.length c0_0 = Value.slice A0_0 x23.length c0_0 := by rw [← he24, List.length_set]
  try rw [hs25] at S
  try rw [hs25]
  clear hs25
  refine Wl_nil ?_
  refine tn ?_
  refine Wp_seq ?_
  refine Wp_region_lit ?_
  refine W_v (.pointer (some ⟨bo0, 0, none⟩)) (x_move rfl) rfl ?_
  refine W_v (.pointer (some ⟨bo0, 0, none⟩)) (x_move rfl) rfl ?_
  refine W_v (.pointer (some ⟨bo0, 0, none⟩)) (x_nilptr rfl) rfl ?_
  refine W_v (.pointer (some ⟨bo0, 1, none⟩)) (x_fieldAddr (o := 0) (off := 1) Tryd.underlying47 rfl ty3 rfl rfl) rfl ?_
  refine W_v (.int .i64 a0.last) (x_load (S.blk 0 rfl) ty3 rfl rfl) rfl ?_
  refine W_v (.int .i64 a2) (x_move rfl) rfl ?_
  refine W_v (.int .i64 (imax a0.last a2)) (x_max2 rfl rfl) rfl ?_
  refine W_v (.pointer (some ⟨bo0, 0, none⟩)) (x_nilptr rfl) rfl ?_
  refine W_v (.pointer (some ⟨bo0, 1, none⟩)) (x_fieldAddr (o := 0) (off := 1) Tryd.underlying47 rfl ty3 rfl rfl) rfl ?_
  refine W_store S 0 rfl ty3 rfl rfl [.int .i64 (imax a0.last a2)] rfl rfl rfl #[.slice A0_0 x23.length c0_0, .int .i64 (imax a0.last a2)] rfl rfl ?_
  intro w26 E' S
  replace E := E.trans E'
  clear E'
  refine Wl_nil ?_
  refine tn ?_
  refine Wp_seq ?_
  refine Wp_region_lit ?_
  refine W_v (.int .i64 0) (x_assign rfl) rfl ?_
  refine Wl_nil ?_
  refine tn ?_
  refine Wp_ret ?_
  obtain rfl := Option.some.inj H
  exact ⟨_, _, _, fun w1 e1 => run_resR (vs := [.int .i64 0]) (FA.cons (rfl) (FA.nil)), HM, E, S.pick [0, 1] (by decide), ⟨A0_0, c0_0, rfl, rfl⟩⟩
/-! ### (*ferryman/status.Writers).turn: function 34 -/
def status_Writers_turn_PO (k : Nat) (a0 : status_Writers) (a1 : Int) (a2 : Int) : Option (Int × status_Writers) :=
  (Option.bind (status_Writers_may_PO k a0 a1 a2) (fun t1 => (Option.bind (α := List status_writer) (if (t1 == (0 : Int)) = true then (if 0 ≤ (IntKind.i64.wrap (a1 - (1 : Int))) ∧ (IntKind.i64.wrap (a1 - (1 : Int))) < (a0.l.length : Int) then (Option.bind (α := List status_writer) (some (List.set a0.l (IntKind.i64.wrap (a1 - (1 : Int))).toNat (⟨a2, (rd a0.l (IntKind.i64.wrap (a1 - (1 : Int)))).ts⟩ : status_writer))) (fun x38 => some (x38))) else none) else some (a0.l)) (fun x21 => some (t1, (⟨x21, a0.last⟩ : status_Writers))))))
set_option maxHeartbeats 2000000 in
theorem status_Writers_turn_PO.mono {k : Nat} {a0 : status_Writers} {a1 : Int} {a2 : Int} : OLe (status_Writers_turn_PO k a0 a1 a2) (status_Writers_turn_PO (k + 1) a0 a1 a2) := by
  unfold status_Writers_turn_PO
  repeat' (first | with_reducible exact OLe.none | with_reducible exact OLe.some | with_reducible refine OLe.ite ?_ ?_ | with_reducible refine OLe.bind ?_ (fun _ => ?_) | with_reducible exact status_Writers_may_PO.mono | refine OLe.bind ?_ (fun _ => ?_) | refine OLe.ite ?_ ?_ | refine OLe.elim (fun _ => ?_) (fun _ => ?_) | split)
set_option maxHeartbeats 1000000 in
set_option maxRecDepth 100000 in
theorem status_Writers_turn_PO.con (k : Nat) (M : Hp) (A0_0 : Option Addr) (c0_0 : Nat) (a0 : status_Writers) (a1 : Int) (a2 : Int) (bo0 : Nat) (r : Int × status_Writers)  (hg0 : ∃ gt fr, M 0 = some (.cells #[.int .u8 0, .int .u8 0, .int .u8 1, .int .u8 1, .int .u8 2] gt fr)) (h : status_Writers_turn_PO k a0 a1 a2 = some r) : Con Tryd.prog 34 #[.pointer (some ⟨bo0, 0, none⟩), .int .i64 a1, .int .u8 a2] M [Blk bo0 (.cells #[.slice A0_0 a0.l.length c0_0, .int .i64 a0.last] 47 (0, 0)), Row r_status_writer 49 (.slice A0_0 a0.l.length c0_0) a0.l] (fun v M' Γ' => ∃ (Aq1 : Option Addr) (cq2 : Nat), v = .int .i64 r.1 ∧ Γ' = [Blk bo0 (.cells #[.slice Aq1 r.2.l.length cq2, .int .i64 r.2.last] 47 (0, 0)), Row r_status_writer 49 (.slice Aq1 r.2.l.length cq2) r.2.l]) := by
  refine con_of_wp Tryd.func34 rfl Tryd.ntmps34 Tryd.results34 rfl ?_
  intro w F rn S hrn
  have E := Ext.refl w
  have HM := Hp.le_refl M
  have H := h
  unfold status_Writers_turn_PO at H
  refine Wp_seq ?_
  refine Wp_region_lit ?_
  refine W_v (.int .i64 0) (x_assign rfl) rfl ?_
  refine Wl_nil ?_
  refine tn ?_
  refine Wp_seq ?_
  refine Wp_region_lit ?_
  refine W_v (.pointer (some ⟨bo0, 0, none⟩)) (x_move rfl) rfl ?_
  refine W_v (.int .i64 a1) (x_move rfl) rfl ?_
  refine W_v (.int .u8 a2) (x_move rfl) rfl ?_
  obtain ⟨t1, ht2, H⟩ := bindS H
  refine W_callF2 fn33 (status_Writers_may_PO.con k M A0_0 c0_0 a0 a1 a2 bo0 t1 hg0 ht2) (Γ1 := [Blk bo0 (.cells #[.slice A0_0 a0.l.length c0_0, .int .i64 a0.last] 47 (0, 0)), Row r_status_writer 49 (.slice A0_0 a0.l.length c0_0) a0.l]) (Γ2 := []) S rfl rfl (by rintro _ _ _ ⟨rfl, rfl⟩; exact (flat_cons flat_blk (flat_cons (flat_row (fun _ _ _ _ h => h)) flat_nil))) ?_
  rintro _ w3 _ Γ' E' S ⟨rfl, rfl⟩
  replace E := E.trans E'
  clear E'
  replace S : St w3 M F [Blk bo0 (.cells #[.slice A0_0 a0.l.length c0_0, .int .i64 a0.last] 47 (0, 0)), Row r_status_writer 49 (.slice A0_0 a0.l.length c0_0) a0.l] := S
  refine W_v (.int .i64 t1) (x_assign rfl) rfl ?_
  refine Wl_nil ?_
  refine tn ?_
  refine Wp_seq ?_
  refine Wp_seq ?_
  refine Wp_region_lit ?_
  refine W_v (.int .i64 t1) (x_move rfl) rfl ?_
  refine W_v (.bool (t1 == (0 : Int))) (x_ibin rfl rfl rfl rfl) rfl ?_
  refine Wl_nil ?_
  refine tn ?_
  obtain ⟨o25, o25h, o25H⟩ := bindS H
  refine Wp_cut (fun ρ w' => ∃ (x21 : List status_writer) (A22 : Option Addr) (c23 : Nat), (x21) = o25 ∧ Agree ρ [(7, .int .i64 t1)] ∧ Ext w w' ∧ St w' M F [Row r_status_writer 49 (.slice A22 x21.length c23) x21, Blk bo0 (.cells #[.slice A22 x21.length c23, .int .i64 a0.last] 47 (0, 0))]) ?_ ?_
  · clear o25H
    have H := o25h
    clear o25h
    rcases iteS H with ⟨hb26, H⟩ | ⟨hb26, H⟩
    · refine Wp_cond_true (congrArg Value.bool hb26) ?_
      refine Wp_region_lit ?_
      refine W_v (.pointer (some ⟨bo0, 0, none⟩)) (x_move rfl) rfl ?_
      refine W_v (.pointer (some ⟨bo0, 0, none⟩)) (x_nilptr rfl) rfl ?_
      refine W_v (.pointer (some ⟨bo0, 0, none⟩)) (x_fieldAddr (o := 0) (off := 0) Tryd.underlying47 rfl ty45 rfl rfl) rfl ?_
      refine W_v (.slice A0_0 a0.l.length c0_0) (x_load (S.blk 0 rfl) ty45 rfl rfl) rfl ?_
      refine W_v (.int .i64 a1) (x_move rfl) rfl ?_
      refine W_v (.int .i64 (IntKind.i64.wrap (a1 - (1 : Int)))) (x_ibin rfl rfl rfl rfl) rfl ?_
      refine W_v (.int .u8 a2) (x_move rfl) rfl ?_
      obtain ⟨⟨p27, p28⟩, H⟩ := chkS H
      obtain ⟨b29, o30, cs31, _, _, ee36, hb32, vs33, hR34, hc35⟩ := SlW.at' (S.row_read 1 rfl) p27 p28
      obtain rfl : vs33 = _ := hR34
      refine W_v (.pointer (some ⟨b29, o30 + (IntKind.i64.wrap (a1 - (1 : Int))).toNat * 2, none⟩)) (x_indexAddr Tryd.underlying45 ty49 (slA ee36) rfl p27 p28) rfl ?_
      refine W_v (.pointer (some ⟨b29, o30 + (IntKind.i64.wrap (a1 - (1 : Int))).toNat * 2, none⟩)) (x_fieldAddr (o := o30 + (IntKind.i64.wrap (a1 - (1 : Int))).toNat * 2) (off := 0) Tryd.underlying49 rfl ty5 rfl rfl) rfl ?_
      obtain ⟨x38, he39, H⟩ := bindS H
      replace he39 := Option.some.inj he39
      refine W_rowstore S 1 rfl rfl ee36 (by first | exact p27 | simpa using p27) (by first | exact p28 | simpa using p28) 0 ty5 rfl rfl [.int .u8 a2] rfl rfl rfl rfl (⟨a2, (rd a0.l (IntKind.i64.wrap (a1 - (1 : Int)))).ts⟩ : status_writer) (by rintro _ rfl; rfl) he39 ?_
      intro w37 E' S
      replace E := E.trans E'
      clear E'
      have hs40 : Value.slice A0_0 a0.l.length c0_0 = Value.slice A0_0 x38.length c0_0 := by rw [← he39, List.length_set]
      try rw [hs40] at S
      try rw [hs40]
      clear hs40
      refine Wl_nil ?_
      refine tn ?_
      exact ⟨x38, A0_0, c0_0, Option.some.inj H, ⟨rfl, trivial⟩, E, S.pick [1, 0] (by decide)⟩
    refine Wp_cond_false (congrArg Value.bool hb26) ?_
    refine Wp_skip ?_
    refine tn ?_
    exact ⟨a0.l, A0_0, c0_0, Option.some.inj H, ⟨rfl, trivial⟩, E, S.pick [1, 0] (by decide)⟩
  clear o25h
  rintro ρ w41 ⟨x21, A22, c23, rfl, hρ, E, S⟩
  rw [agree_eta hρ]
  clear hρ
  have H := o25H
  clear o25H
  refine tn ?_
  refine Wp_seq ?_
  refine Wp_region_lit ?_
  refine W_v (.int .i64 t1) (x_move rfl) rfl ?_
  refine W_v (.int .i64 t1) (x_assign rfl) rfl ?_
  refine Wl_nil ?_
  refine tn ?_
  refine Wp_ret ?_
  obtain rfl := Option.some.inj H
  exact ⟨_, _, _, fun w1 e1 => run_resR (vs := [.int .i64 t1]) (FA.cons (rfl) (FA.nil)), HM, E, S.pick [1, 0] (by decide), ⟨A22, c23, rfl, rfl⟩⟩
/-! ### (*ferryman/status.Writers).Fall: function 18 -/
def status_Writers_Fall_PO (k : Nat) (a0 : status_Writers) (a1 : Int) : Option (Int × status_Writers) :=
  (Option.bind (status_Writers_turn_PO k a0 a1 (2 : Int)) (fun t1 => some (t1.1, t1.2)))
set_option maxHeartbeats 2000000 in
theorem status_Writers_Fall_PO.mono {k : Nat} {a0 : status_Writers} {a1 : Int} : OLe (status_Writers_Fall_PO k a0 a1) (status_Writers_Fall_PO (k + 1) a0 a1) := by
  unfold status_Writers_Fall_PO
  repeat' (first | with_reducible exact OLe.none | with_reducible exact OLe.some | with_reducible refine OLe.ite ?_ ?_ | with_reducible refine OLe.bind ?_ (fun _ => ?_) | with_reducible exact status_Writers_turn_PO.mono | refine OLe.bind ?_ (fun _ => ?_) | refine OLe.ite ?_ ?_ | refine OLe.elim (fun _ => ?_) (fun _ => ?_) | split)
set_option maxHeartbeats 1000000 in
set_option maxRecDepth 100000 in
theorem status_Writers_Fall_PO.con (k : Nat) (M : Hp) (A0_0 : Option Addr) (c0_0 : Nat) (a0 : status_Writers) (a1 : Int) (bo0 : Nat) (r : Int × status_Writers)  (hg0 : ∃ gt fr, M 0 = some (.cells #[.int .u8 0, .int .u8 0, .int .u8 1, .int .u8 1, .int .u8 2] gt fr)) (h : status_Writers_Fall_PO k a0 a1 = some r) : Con Tryd.prog 18 #[.pointer (some ⟨bo0, 0, none⟩), .int .i64 a1] M [Blk bo0 (.cells #[.slice A0_0 a0.l.length c0_0, .int .i64 a0.last] 47 (0, 0)), Row r_status_writer 49 (.slice A0_0 a0.l.length c0_0) a0.l] (fun v M' Γ' => ∃ (Aq1 : Option Addr) (cq2 : Nat), v = .int .i64 r.1 ∧ Γ' = [Blk bo0 (.cells #[.slice Aq1 r.2.l.length cq2, .int .i64 r.2.last] 47 (0, 0)), Row r_status_writer 49 (.slice Aq1 r.2.l.length cq2) r.2.l]) := by
  refine con_of_wp Tryd.func18 rfl Tryd.ntmps18 Tryd.results18 rfl ?_
  intro w F rn S hrn
  have E := Ext.refl w
  have HM := Hp.le_refl M
  have H := h
  unfold status_Writers_Fall_PO at H
  refine Wp_seq ?_
  refine Wp_region_lit ?_
  refine W_v (.int .i64 0) (x_assign rfl) rfl ?_
  refine Wl_nil ?_
  refine tn ?_
  refine Wp_seq ?_
  refine Wp_region_lit ?_
  refine W_v (.pointer (some ⟨bo0, 0, none⟩)) (x_move rfl) rfl ?_
  refine W_v (.int .i64 a1) (x_move rfl) rfl ?_
  obtain ⟨t1, ht2, H⟩ := bindS H
  refine W_callF2 fn34 (status_Writers_turn_PO.con k M A0_0 c0_0 a0 a1 (2 : Int) bo0 t1 hg0 ht2) (Γ1 := [Blk bo0 (.cells #[.slice A0_0 a0.l.length c0_0, .int .i64 a0.last] 47 (0, 0)), Row r_status_writer 49 (.slice A0_0 a0.l.length c0_0) a0.l]) (Γ2 := []) S rfl rfl (by rintro _ _ _ ⟨_, _, rfl, rfl⟩; exact (flat_cons flat_blk (flat_cons (flat_row (fun _ _ _ _ h => h)) flat_nil))) ?_
  rintro _ w6 _ Γ' E' S ⟨A3, c4, rfl, rfl⟩
  replace E := E.trans E'
  clear E'
  replace S : St w6 M F [Blk bo0 (.cells #[.slice A3 t1.2.l.length c4, .int .i64 t1.2.last] 47 (0, 0)), Row r_status_writer 49 (.slice A3 t1.2.l.length c4) t1.2.l] := S
  refine W_v (.int .i64 t1.1) (x_assign rfl) rfl ?_
  refine Wl_nil ?_
  refine tn ?_
  refine Wp_ret ?_
  obtain rfl := Option.some.inj H
  exact ⟨_, _, _, fun w1 e1 => run_resR (vs := [.int .i64 t1.1]) (FA.cons (rfl) (FA.nil)), HM, E, S.pick [0, 1] (by decide), ⟨A3, c4, rfl, rfl⟩⟩
/-! ### (*ferryman/status.Writers).those: function 32 -/
def status_Writers_those_PO (k : Nat) (a0 : status_Writers) (a1 : (List Int)) : Option (Unit) :=
  some ()
set_option maxHeartbeats 2000000 in
theorem status_Writers_those_PO.mono {k : Nat} {a0 : status_Writers} {a1 : (List Int)} : OLe (status_Writers_those_PO k a0 a1) (status_Writers_those_PO (k + 1) a0 a1) := by
  unfold status_Writers_those_PO
  repeat' (first | with_reducible exact OLe.none | with_reducible exact OLe.some | with_reducible refine OLe.ite ?_ ?_ | with_reducible refine OLe.bind ?_ (fun _ => ?_) | refine OLe.bind ?_ (fun _ => ?_) | refine OLe.ite ?_ ?_ | refine OLe.elim (fun _ => ?_) (fun _ => ?_) | split)
set_option maxHeartbeats 1000000 in
set_option maxRecDepth 100000 in
theorem status_Writers_those_PO.con (k : Nat) (M : Hp) (A0_0 : Option Addr) (c0_0 : Nat) (a0 : status_Writers) (A1 : Option Addr) (c1 : Nat) (a1 : (List Int)) (bo0 : Nat) (r : Unit) (hr1 : SlR (rInt .u8) M (.slice A1 a1.length c1) a1) (hg0 : ∃ gt fr, M 0 = some (.cells #[.int .u8 0, .int .u8 0, .int .u8 1, .int .u8 1, .int .u8 2] gt fr)) (h : status_Writers_those_PO k a0 a1 = some r) : Con Tryd.prog 32 #[.pointer (some ⟨bo0, 0, none⟩), .slice A1 a1.length c1] M [Blk bo0 (.cells #[.slice A0_0 a0.l.length c0_0, .int .i64 a0.last] 47 (0, 0)), Row r_status_writer 49 (.slice A0_0 a0.l.length c0_0) a0.l] (fun v M' Γ' => ∃ (bq1 : Nat) (bq3 : Nat), v = .func (.func 42) #[] #[.pointer (some ⟨bq1, 0, none⟩), .pointer (some ⟨bq3, 0, none⟩)] ∧ Γ' = [Blk bq1 (.cells #[.pointer (some ⟨bo0, 0, none⟩)] 24 (0, 0)), Blk bq3 (.cells #[.slice A1 a1.length c1] 63 (0, 0)), Blk bo0 (.cells #[.slice A0_0 a0.l.length c0_0, .int .i64 a0.last] 47 (0, 0)), Row r_status_writer 49 (.slice A0_0 a0.l.length c0_0) a0.l]) := by
  refine con_of_wp Tryd.func32 rfl Tryd.ntmps32 Tryd.results32 rfl ?_
  intro w F rn S hrn
  have E := Ext.refl w
  have HM := Hp.le_refl M
  have H := h
  unfold status_Writers_those_PO at H
  refine Wp_seq ?_
  refine Wp_region_lit ?_
  refine W_box S #[.pointer (some ⟨bo0, 0, none⟩)] rfl rfl rfl ?_
  intro b1 w2 E' S
  replace E := E.trans E'
  clear E'
  refine W_box S #[.slice A1 a1.length c1] rfl rfl rfl ?_
  intro b4 w5 E' S
  replace E := E.trans E'
  clear E'
  refine W_v (.nilFunc) (x_assign rfl) rfl ?_
  refine Wl_nil ?_
  refine tn ?_
  refine Wp_seq ?_
  refine Wp_region_lit ?_
  refine W_v (.func (.func 42) #[] #[.pointer (some ⟨b1, 0, none⟩), .pointer (some ⟨b4, 0, none⟩)]) (x_makeFunc rfl) rfl ?_
  refine W_v (.func (.func 42) #[] #[.pointer (some ⟨b1, 0, none⟩), .pointer (some ⟨b4, 0, none⟩)]) (x_assign rfl) rfl ?_
  refine Wl_nil ?_
  refine tn ?_
  refine Wp_ret ?_
  obtain rfl := Option.some.inj H
  exact ⟨_, _, _, fun w1 e1 => run_resR (vs := [.func (.func 42) #[] #[.pointer (some ⟨b1, 0, none⟩), .pointer (some ⟨b4, 0, none⟩)]]) (FA.cons (rfl) (FA.nil)), HM, E, S.pick [1, 0, 2, 3] (by decide), ⟨b1, b4, rfl, rfl⟩⟩
/-! ### (*ferryman/status.Writers).those$1: function 42 -/
def status_Writers_those_1_PO_l0 {σ ε : Type} (a_0 : status_Writers) (a_1 : (List Int)) (bd : Int → σ → Option (σ ⊕ ε)) : Nat → Int → σ ⊕ ε → Option ((σ ⊕ ε) ⊕ ((σ ⊕ ε)))
  | 0, _, _ => none
  | k + 1, x101, x102 => (if (decide (x101 < (a_0.l.length : Int))) = true then (if 0 ≤ x101 ∧ x101 < (a_0.l.length : Int) then (Option.bind (slices_Contains_uint8_uint8 k a_1 ((rd a_0.l x101).state)) (fun t171 => (Option.bind (α := Bool × (σ ⊕ ε)) (if t171 = true then (Option.bind (toL x102) (fun s193 => Option.bind (bd ((IntKind.i64.wrap (x101 + (1 : Int)))) s193) (fun t195 => some ((!(isNorm t195)), t195)))) else some (false, x102)) (fun ⟨x189, x190⟩ => (if x189 = true then some (.inl x190) else status_Writers_those_1_PO_l0 a_0 a_1 bd k (IntKind.i64.wrap (x101 + (1 : Int))) x190))))) else none) else some (.inr (x102)))
set_option maxHeartbeats 2000000 in
theorem status_Writers_those_1_PO_l0.mono {σ ε : Type} {a_0 : status_Writers} {a_1 : (List Int)} {bd bd' : Int → σ → Option (σ ⊕ ε)} (hbd : ∀ x s, OLe (bd x s) (bd' x s)) : ∀ {k : Nat} {x0 x1}, OLe (status_Writers_those_1_PO_l0 a_0 a_1 bd k x0 x1) (status_Writers_those_1_PO_l0 a_0 a_1 bd' (k + 1) x0 x1) := by
  intro k
  induction k with
  | zero => intros; exact OLe.none
  | succ k ih =>
    intros
    rw [status_Writers_those_1_PO_l0.eq_2, status_Writers_those_1_PO_l0.eq_2]
    repeat' (first | with_reducible exact OLe.none | with_reducible exact OLe.some | with_reducible refine OLe.ite ?_ ?_ | with_reducible refine OLe.bind ?_ (fun _ => ?_) | with_reducible exact slices_Contains_uint8_uint8.mono | exact OLe.toL | exact hbd _ _ | exact ih | refine OLe.bind ?_ (fun _ => ?_) | refine OLe.ite ?_ ?_ | refine OLe.elim (fun _ => ?_) (fun _ => ?_) | split)
def status_Writers_those_1_PO {σ ε : Type} (k : Nat) (a_0 : status_Writers) (a_1 : (List Int)) (bd : Int → σ → Option (σ ⊕ ε)) (s0 : σ) : Option (σ ⊕ ε) :=
  (Option.bind (status_Writers_those_1_PO_l0 a_0 a_1 bd k (0 : Int) (.inl s0)) (fun o152o => Sum.elim (fun r' => some r') (fun x151 => some x151) o152o))
set_option maxHeartbeats 2000000 in
theorem status_Writers_those_1_PO.mono {σ ε : Type} {k : Nat} {a_0 : status_Writers} {a_1 : (List Int)} {bd bd' : Int → σ → Option (σ ⊕ ε)} (hbd : ∀ x s, OLe (bd x s) (bd' x s)) {s0 : σ} : OLe (status_Writers_those_1_PO k a_0 a_1 bd s0) (status_Writers_those_1_PO (k + 1) a_0 a_1 bd' s0) := by
  unfold status_Writers_those_1_PO
  repeat' (first | with_reducible exact OLe.none | with_reducible exact OLe.some | with_reducible refine OLe.ite ?_ ?_ | with_reducible refine OLe.bind ?_ (fun _ => ?_) | with_reducible exact status_Writers_those_1_PO_l0.mono hbd | exact OLe.toL | exact hbd _ _ | refine OLe.bind ?_ (fun _ => ?_) | refine OLe.ite ?_ ?_ | refine OLe.elim (fun _ => ?_) (fun _ => ?_) | split)
set_option maxHeartbeats 2000000 in
set_option maxRecDepth 100000 in
theorem status_Writers_those_1_PO.con {σ ε : Type} (k : Nat) (M : Hp) (A_0_0 : Option Addr) (c_0_0 : Nat) (a_0 : status_Writers) (A_1 : Option Addr) (c_1 : Nat) (a_1 : (List Int)) (b_0 : Nat) (bo_0 : Nat) (b_1 : Nat) (bd : Int → σ → Option (σ ⊕ ε)) (s0 : σ) (r : σ ⊕ ε) (hr_1 : SlR (rInt .u8) M (.slice A_1 a_1.length c_1) a_1) (hg0 : ∃ gt fr, M 0 = some (.cells #[.int .u8 0, .int .u8 0, .int .u8 1, .int .u8 1, .int .u8 2] gt fr)) (h : status_Writers_those_1_PO k a_0 a_1 bd s0 = some r) : Iter Tryd.prog 42 [.pointer (some ⟨b_0, 0, none⟩), .pointer (some ⟨b_1, 0, none⟩)] M (fun (M : Hp) (x : Int) (vs : List Value) => vs = [.int .i64 x]) bd s0 r [Blk b_0 (.cells #[.pointer (some ⟨bo_0, 0, none⟩)] 24 (0, 0)), Blk bo_0 (.cells #[.slice A_0_0 a_0.l.length c_0_0, .int .i64 a_0.last] 47 (0, 0)), Row r_status_writer 49 (.slice A_0_0 a_0.l.length c_0_0) a_0.l, Blk b_1 (.cells #[.slice A_1 a_1.length c_1] 63 (0, 0))] (fun M' Γ' => Γ' = [Blk b_0 (.cells #[.pointer (some ⟨bo_0, 0, none⟩)] 24 (0, 0)), Blk bo_0 (.cells #[.slice A_0_0 a_0.l.length c_0_0, .int .i64 a_0.last] 47 (0, 0)), Row r_status_writer 49 (.slice A_0_0 a_0.l.length c_0_0) a_0.l, Blk b_1 (.cells #[.slice A_1 a_1.length c_1] 63 (0, 0))]) := by
  intro lp B hY
  refine con_of_wp Tryd.func42 rfl Tryd.ntmps42 Tryd.results42 rfl ?_
  intro w F rn S hrn
  have E := Ext.refl w
  have HM := Hp.le_refl M
  have H := h
  unfold status_Writers_those_1_PO at H
  refine Wp_seq ?_
  refine Wp_seq ?_
  refine Wp_region_lit ?_
  refine W_v (.pointer (some ⟨bo_0, 0, none⟩)) (x_load (S.blk 1 rfl) ty24 rfl rfl) rfl ?_
  refine W_v (.bool false) (x_eq_of (r := false) rfl rfl (run_eq_ptrsn Tryd.underlying24)) rfl ?_
  refine Wl_nil ?_
  refine tn ?_
  refine Wp_cond_false rfl ?_
  refine Wp_skip ?_
  refine tn ?_
  refine Wp_seq ?_
  refine Wp_region_lit ?_
  refine W_v (.pointer (some ⟨bo_0, 0, none⟩)) (x_load (S.blk 1 rfl) ty24 rfl rfl) rfl ?_
  refine W_v (.pointer (some ⟨bo_0, 0, none⟩)) (x_nilptr rfl) rfl ?_
  refine W_v (.pointer (some ⟨bo_0, 0, none⟩)) (x_fieldAddr (o := 0) (off := 0) Tryd.underlying47 rfl ty45 rfl rfl) rfl ?_
  refine W_v (.slice A_0_0 a_0.l.length c_0_0) (x_load (S.blk 2 rfl) ty45 rfl rfl) rfl ?_
  refine W_v (.int .i64 (a_0.l.length : Int)) (x_len_slice (n := a_0.l.length) Tryd.underlying45 rfl) rfl ?_
  refine W_v (.int .i64 0) (x_move rfl) rfl ?_
  refine Wl_nil ?_
  refine tn ?_
  obtain ⟨o152, o152h, o152H⟩ := bindS H
  clear H
  refine Wp_blockJ (fun ρ w' => ∃ (x151 : σ ⊕ ε) (Mj : Hp), .inr (x151) = o152 ∧ Agree ρ [] ∧ M.le Mj ∧ Ext w w' ∧ St w' Mj F [Blk b_0 (.cells #[.pointer (some ⟨bo_0, 0, none⟩)] 24 (0, 0)), Blk bo_0 (.cells #[.slice A_0_0 a_0.l.length c_0_0, .int .i64 a_0.last] 47 (0, 0)), Row r_status_writer 49 (.slice A_0_0 a_0.l.length c_0_0) a_0.l, Blk b_1 (.cells #[.slice A_1 a_1.length c_1] 63 (0, 0)), B x151]) ?_ ?_
  · skip
    refine Wp_loop (fun n ρ w' => ∃ (x101 : Int) (x102 : σ ⊕ ε) (Mj : Hp), status_Writers_those_1_PO_l0 a_0 a_1 bd n x101 x102 = some o152 ∧ Agree ρ [(0, .func (.yield lp) #[] #[]), (2, .pointer (some ⟨b_1, 0, none⟩)), (11, .slice A_0_0 a_0.l.length c_0_0), (12, .int .i64 (a_0.l.length : Int)), (13, .int .i64 x101)] ∧ M.le Mj ∧ Ext w w' ∧ St w' Mj F [Blk b_0 (.cells #[.pointer (some ⟨bo_0, 0, none⟩)] 24 (0, 0)), Blk bo_0 (.cells #[.slice A_0_0 a_0.l.length c_0_0, .int .i64 a_0.last] 47 (0, 0)), Row r_status_writer 49 (.slice A_0_0 a_0.l.length c_0_0) a_0.l, Blk b_1 (.cells #[.slice A_1 a_1.length c_1] 63 (0, 0)), B x102]) k ?_ ?_
    · skip
      exact ⟨(0 : Int), (.inl s0), M, o152h, ⟨rfl, rfl, rfl, rfl, rfl, trivial⟩, (Hp.le_refl M), E, S.pick [1, 2, 3, 4, 0] (by decide)⟩
    · intro n
      rintro ρ w153 ⟨x101, x102, M154, H, hρ, hM155, E, S⟩
      rw [agree_eta hρ]
      clear hρ
      replace hg0 : ∃ gt fr, _ := (let ⟨gt, fr, h8⟩ := hg0; ⟨gt, fr, hM155 _ _ h8⟩)
      replace HM := Hp.le_trans HM hM155
      replace hr_1 := SlR.mono hr_1 hM155
      cases n with
      | zero => cases H
      | succ k =>
        rw [status_Writers_those_1_PO_l0.eq_2] at H
        refine Wp_seq ?_
        refine Wp_region_lit ?_
        refine W_v (.bool (decide (x101 < (a_0.l.length : Int)))) (x_ibin rfl rfl rfl rfl) rfl ?_
        refine Wl_nil ?_
        refine tn ?_
        refine Wp_seq ?_
        rcases iteS H with ⟨hb156, H⟩ | ⟨hb156, H⟩
        · refine Wp_cond_true (congrArg Value.bool hb156) ?_
          refine Wp_skip ?_
          refine tn ?_
          refine Wp_seq ?_
          refine Wp_block ?_
          refine Wp_seq ?_
          refine Wp_region_lit ?_
          refine W_v (.int .i64 x101) (x_move rfl) rfl ?_
          obtain ⟨⟨p157, p158⟩, H⟩ := chkS H
          obtain ⟨b159, o160, cs161, _, _, ee166, hb162, vs163, hR164, hc165⟩ := SlW.at' (S.row_read 2 rfl) p157 p158
          obtain rfl : vs163 = _ := hR164
          refine W_v (.pointer (some ⟨b159, o160 + x101.toNat * 2, none⟩)) (x_indexAddr Tryd.underlying45 ty49 (slA ee166) rfl p157 p158) rfl ?_
          refine W_v (.agg #[.int .u8 ((rd a_0.l x101).state), .int .i64 ((rd a_0.l x101).ts)]) (x_loadA (Hp.of_get hb162) ty49 rfl (sub_el hc165 0 rfl) rfl rfl) rfl ?_
          refine W_alloc S #[.int .u8 0, .int .i64 0] ty49 rfl rfl ?_
          intro b167 w168 E' S
          replace E := E.trans E'
          clear E'
          refine W_v (.int .i64 x101) (x_assign rfl) rfl ?_
          refine W_store S 0 rfl ty49 rfl rfl [.int .u8 ((rd a_0.l x101).state), .int .i64 ((rd a_0.l x101).ts)] rfl rfl rfl #[.int .u8 ((rd a_0.l x101).state), .int .i64 ((rd a_0.l x101).ts)] rfl rfl ?_
          intro w170 E' S
          replace E := E.trans E'
          clear E'
          refine Wl_nil ?_
          refine tn ?_
          refine Wp_seq ?_
          refine Wp_region_lit ?_
          refine W_v (.slice A_1 a_1.length c_1) (x_load (S.blk 4 rfl) ty63 rfl rfl) rfl ?_
          refine W_v (.pointer (some ⟨b167, 0, none⟩)) (x_fieldAddr (o := 0) (off := 0) Tryd.underlying49 rfl ty5 rfl rfl) rfl ?_
          refine W_v (.int .u8 ((rd a_0.l x101).state)) (x_load (S.blk 0 rfl) ty5 rfl rfl) rfl ?_
          obtain ⟨t171, ht172, H⟩ := bindS H
          refine W_callF fn43 (slices_Contains_uint8_uint8.con k M154 A_1 c_1 a_1 ((rd a_0.l x101).state) t171 hr_1 hg0 ht172) S rfl rfl (by rintro _ _ _ ⟨_, rfl⟩; exact flat_nil) ?_
          rintro _ w173 _ Γ' E' S ⟨rfl, rfl⟩
          replace E := E.trans E'
          clear E'
          refine W_v (.bool t171) (x_move rfl) rfl ?_
          obtain ⟨o191, o191h, o191H⟩ := bindS H
          clear H
          refine Wl_cutN 6 (fun ρ w' => ∃ (x189 : Bool) (x190 : σ ⊕ ε) (Mj : Hp), (x189, x190) = o191 ∧ Agree ρ [(0, .func (.yield lp) #[] #[]), (2, .pointer (some ⟨b_1, 0, none⟩)), (11, .slice A_0_0 a_0.l.length c_0_0), (12, .int .i64 (a_0.l.length : Int)), (13, .int .i64 x101), (28, .bool x189)] ∧ M154.le Mj ∧ Ext w w' ∧ St w' Mj F [Blk b_0 (.cells #[.pointer (some ⟨bo_0, 0, none⟩)] 24 (0, 0)), Blk bo_0 (.cells #[.slice A_0_0 a_0.l.length c_0_0, .int .i64 a_0.last] 47 (0, 0)), Row r_status_writer 49 (.slice A_0_0 a_0.l.length c_0_0) a_0.l, Blk b_1 (.cells #[.slice A_1 a_1.length c_1] 63 (0, 0)), B x190]) ?_ ?_
          · have H := o191h
            have LE192 := Hp.le_refl M154
            rcases iteS H with ⟨hb188, H⟩ | ⟨hb188, H⟩
            · skip
              refine W_yes (congrArg some hb188) ?_
              refine W_v (.func (.yield lp) #[] #[]) (x_move rfl) rfl ?_
              refine W_yes (congrArg some hb188) ?_
              refine W_v (.int .i64 x101) (x_move rfl) rfl ?_
              refine W_yes (congrArg some hb188) ?_
              refine W_v (.int .i64 (IntKind.i64.wrap (x101 + (1 : Int)))) (x_ibin rfl rfl rfl rfl) rfl ?_
              refine W_yes (congrArg some hb188) ?_
              obtain ⟨s193, hs194, H⟩ := bindS H
              obtain ⟨t195, ht196, H⟩ := bindS H
              rw [toL_eq hs194] at S
              replace S : St w173 M154 F [B (.inl s193), Blk b167 (.cells #[.int .u8 ((rd a_0.l x101).state), .int .i64 ((rd a_0.l x101).ts)] 49 (0, 0)), Blk b_0 (.cells #[.pointer (some ⟨bo_0, 0, none⟩)] 24 (0, 0)), Blk bo_0 (.cells #[.slice A_0_0 a_0.l.length c_0_0, .int .i64 a_0.last] 47 (0, 0)), Row r_status_writer 49 (.slice A_0_0 a_0.l.length c_0_0) a_0.l, Blk b_1 (.cells #[.slice A_1 a_1.length c_1] 63 (0, 0))] := S.pick [5, 0, 1, 2, 3, 4] (by decide)
              refine W_yield rfl (hY _ ((IntKind.i64.wrap (x101 + (1 : Int)))) _ s193 t195 HM (rfl) ht196) S rfl rfl ?_
              rintro _ w197 M198 _ hM199 E' S ⟨rfl, rfl⟩
              replace hg0 : ∃ gt fr, _ := (let ⟨gt, fr, h8⟩ := hg0; ⟨gt, fr, hM199 _ _ h8⟩)
              replace HM := Hp.le_trans HM hM199
              replace hM155 := Hp.le_trans hM155 hM199
              replace LE192 := Hp.le_trans LE192 hM199
              replace hr_1 := SlR.mono hr_1 hM199
              replace E := E.trans E'
              clear E'
              refine W_yes (congrArg some hb188) ?_
              refine W_v (.bool (!(isNorm t195))) (x_not rfl) rfl ?_
              refine W_v (.bool (!(isNorm t195))) (x_pick (k := true) (congrArg Value.bool hb188) rfl) rfl ?_
              refine Wl_nil ?_
              exact ⟨(!(isNorm t195)), t195, M198, Option.some.inj H, ⟨rfl, rfl, rfl, rfl, rfl, rfl, trivial⟩, LE192, E, S.pick [2, 3, 4, 5, 0] (by decide)⟩
            · skip
              refine W_no (skT hb188) rfl ?_
              refine W_no (skT hb188) rfl ?_
              refine W_no (skT hb188) rfl ?_
              refine W_no (skT hb188) rfl ?_
              refine W_no (skT hb188) rfl ?_
              refine W_v (.bool false) (x_pick (k := false) (congrArg Value.bool hb188) rfl) rfl ?_
              refine Wl_nil ?_
              exact ⟨false, x102, M154, Option.some.inj H, ⟨rfl, rfl, rfl, rfl, rfl, rfl, trivial⟩, (Hp.le_refl M154), E, S.pick [1, 2, 3, 4, 5] (by decide)⟩
          clear o191h
          rintro ρ w200 ⟨x189, x190, M201, rfl, hρ, hM202, E, S⟩
          rw [agree_eta hρ]
          clear hρ
          replace hg0 : ∃ gt fr, _ := (let ⟨gt, fr, h8⟩ := hg0; ⟨gt, fr, hM202 _ _ h8⟩)
          replace HM := Hp.le_trans HM hM202
          replace hM155 := Hp.le_trans hM155 hM202
          replace hr_1 := SlR.mono hr_1 hM202
          have H := o191H
          clear o191H
          refine Wl_nil ?_
          refine tn ?_
          rcases iteS H with ⟨hb203, H⟩ | ⟨hb203, H⟩
          · refine Wp_cond_true (congrArg Value.bool hb203) ?_
            refine Wp_ret ?_
            refine br (tr (tr (br (tr (?_)))))
            obtain rfl := Option.some.inj H
            have H := o152H
            replace H := elimL H
            obtain rfl := Option.some.inj H
            exact ⟨_, _, _, fun w1 e1 => run_resR (vs := []) FA.nil, HM, E, S.pick [4, 0, 1, 2, 3] (by decide), ⟨_, rfl, rfl⟩⟩
          refine Wp_cond_false (congrArg Value.bool hb203) ?_
          refine Wp_skip ?_
          refine bn ?_
          refine tn ?_
          refine Wp_region_lit ?_
          refine W_v (.int .i64 (IntKind.i64.wrap (x101 + (1 : Int)))) (x_ibin rfl rfl rfl rfl) rfl ?_
          refine W_v (.int .i64 (IntKind.i64.wrap (x101 + (1 : Int)))) (x_move rfl) rfl ?_
          refine Wl_nil ?_
          refine tn ?_
          exact ⟨k, Nat.lt_succ_self k, ⟨(IntKind.i64.wrap (x101 + (1 : Int))), x190, M201, H, ⟨rfl, rfl, rfl, rfl, rfl, trivial⟩, hM155, E, S.pick [0, 1, 2, 3, 4] (by decide)⟩⟩
        refine Wp_cond_false (congrArg Value.bool hb156) ?_
        refine Wp_exit ?_
        refine tx (tx (bsm (?_)))
        refine tn ?_
        exact ⟨x102, M154, Option.some.inj H, trivial, hM155, E, S.pick [0, 1, 2, 3, 4] (by decide)⟩
  clear o152h
  rintro ρ w204 ⟨x151, M205, rfl, hρ, hM206, E, S⟩
  rw [agree_eta hρ]
  clear hρ
  replace hg0 : ∃ gt fr, _ := (let ⟨gt, fr, h8⟩ := hg0; ⟨gt, fr, hM206 _ _ h8⟩)
  replace HM := Hp.le_trans HM hM206
  replace hr_1 := SlR.mono hr_1 hM206
  have H := o152H
  clear o152H
  replace H := elimR H
  obtain rfl := Option.some.inj H
  exact ⟨_, _, _, fun w1 e1 => run_resR (vs := []) FA.nil, HM, E, S.pick [4, 0, 1, 2, 3] (by decide), ⟨_, rfl, rfl⟩⟩
/-! ### slices.AppendSeq[[]int,int]: function 41 -/
def slices_AppendSeq_int_int_N_Writers_those_1_PO_b0 (k : Nat) : Int → (List Int) → Option ((List Int) ⊕ (Unit))
  | y60, x39 => (if x39.length + ([y60] : List Int).length ≤ 17592186044416 then some (.inl (x39 ++ ([y60] : List Int))) else none)
set_option maxHeartbeats 2000000 in
theorem slices_AppendSeq_int_int_N_Writers_those_1_PO_b0.mono {k : Nat} : ∀ x s, OLe (slices_AppendSeq_int_int_N_Writers_those_1_PO_b0  k x s) (slices_AppendSeq_int_int_N_Writers_those_1_PO_b0  (k + 1) x s) := by
  intro x s
  unfold slices_AppendSeq_int_int_N_Writers_those_1_PO_b0
  repeat' (first | with_reducible exact OLe.none | with_reducible exact OLe.some | with_reducible refine OLe.ite ?_ ?_ | with_reducible refine OLe.bind ?_ (fun _ => ?_) | refine OLe.bind ?_ (fun _ => ?_) | refine OLe.ite ?_ ?_ | refine OLe.elim (fun _ => ?_) (fun _ => ?_) | split)
def slices_AppendSeq_int_int_N_Writers_those_1_PO (k : Nat) (a1_0 : status_Writers) (a1_1 : (List Int)) : Option ((List Int)) :=
  (Option.bind (status_Writers_those_1_PO k a1_0 a1_1 (slices_AppendSeq_int_int_N_Writers_those_1_PO_b0 k) ([] : List Int)) (fun o56o => Sum.elim (fun x39 => some x39) (fun _ => none) o56o))
set_option maxHeartbeats 2000000 in
theorem slices_AppendSeq_int_int_N_Writers_those_1_PO.mono {k : Nat} {a1_0 : status_Writers} {a1_1 : (List Int)} : OLe (slices_AppendSeq_int_int_N_Writers_those_1_PO k a1_0 a1_1) (slices_AppendSeq_int_int_N_Writers_those_1_PO (k + 1) a1_0 a1_1) := by
  unfold slices_AppendSeq_int_int_N_Writers_those_1_PO
  repeat' (first | with_reducible exact OLe.none | with_reducible exact OLe.some | with_reducible refine OLe.ite ?_ ?_ | with_reducible refine OLe.bind ?_ (fun _ => ?_) | with_reducible exact slices_AppendSeq_int_int_N_Writers_those_1_PO_b0.mono | exact status_Writers_those_1_PO.mono (fun _ _ => by first | exact slices_AppendSeq_int_int_N_Writers_those_1_PO_b0.mono _ _) | refine OLe.bind ?_ (fun _ => ?_) | refine OLe.ite ?_ ?_ | refine OLe.elim (fun _ => ?_) (fun _ => ?_) | split)
set_option maxHeartbeats 1000000 in
set_option maxRecDepth 100000 in
theorem slices_AppendSeq_int_int_N_Writers_those_1_PO.con (k : Nat) (M : Hp) (A1_0_0 : Option Addr) (c1_0_0 : Nat) (a1_0 : status_Writers) (A1_1 : Option Addr) (c1_1 : Nat) (a1_1 : (List Int)) (b1_0 : Nat) (bo1_0 : Nat) (b1_1 : Nat) (r : (List Int)) (hr1_1 : SlR (rInt .u8) M (.slice A1_1 a1_1.length c1_1) a1_1) (hg0 : ∃ gt fr, M 0 = some (.cells #[.int .u8 0, .int .u8 0, .int .u8 1, .int .u8 1, .int .u8 2] gt fr)) (h : slices_AppendSeq_int_int_N_Writers_those_1_PO k a1_0 a1_1 = some r) : Con Tryd.prog 41 #[.slice none 0 0, .func (.func 42) #[] #[.pointer (some ⟨b1_0, 0, none⟩), .pointer (some ⟨b1_1, 0, none⟩)]] M [Blk b1_0 (.cells #[.pointer (some ⟨bo1_0, 0, none⟩)] 24 (0, 0)), Blk bo1_0 (.cells #[.slice A1_0_0 a1_0.l.length c1_0_0, .int .i64 a1_0.last] 47 (0, 0)), Row r_status_writer 49 (.slice A1_0_0 a1_0.l.length c1_0_0) a1_0.l, Blk b1_1 (.cells #[.slice A1_1 a1_1.length c1_1] 63 (0, 0))] (fun v M' Γ' => ∃ (Aq1 : Option Addr) (cq2 : Nat), v = .slice Aq1 r.length cq2 ∧ Γ' = [Row (rInt .i64) 3 (.slice Aq1 r.length cq2) r, Blk b1_0 (.cells #[.pointer (some ⟨bo1_0, 0, none⟩)] 24 (0, 0)), Blk bo1_0 (.cells #[.slice A1_0_0 a1_0.l.length c1_0_0, .int .i64 a1_0.last] 47 (0, 0)), Row r_status_writer 49 (.slice A1_0_0 a1_0.l.length c1_0_0) a1_0.l, Blk b1_1 (.cells #[.slice A1_1 a1_1.length c1_1] 63 (0, 0))]) := by
  refine con_of_wp Tryd.func41 rfl Tryd.ntmps41 Tryd.results41 rfl ?_
  intro w F rn S hrn
  have E := Ext.refl w
  have HM := Hp.le_refl M
  have H := h
  unfold slices_AppendSeq_int_int_N_Writers_those_1_PO at H
  refine Wp_seq ?_
  refine Wp_region_lit ?_
  refine W_box S #[.slice none 0 0] rfl rfl rfl ?_
  intro b1 w2 E' S
  replace E := E.trans E'
  clear E'
  refine W_v (.slice none 0 0) (x_assign rfl) rfl ?_
  refine Wl_nil ?_
  refine tn ?_
  refine Wp_seq ?_
  refine Wp_seq ?_
  refine Wp_region_lit ?_
  refine W_v (.func (.func 42) #[] #[.pointer (some ⟨b1_0, 0, none⟩), .pointer (some ⟨b1_1, 0, none⟩)]) (x_move rfl) rfl ?_
  refine Wl_nil ?_
  refine tn ?_
  refine Wp_block ?_
  obtain ⟨o56, o56h, o56H⟩ := bindS H
  clear H
  replace S := S.row_nil (rInt .i64) 3
  refine Wp_rangeFunc (σ := List Int) (ε := Unit) (Γi := [Blk b1_0 (.cells #[.pointer (some ⟨bo1_0, 0, none⟩)] 24 (0, 0)), Blk bo1_0 (.cells #[.slice A1_0_0 a1_0.l.length c1_0_0, .int .i64 a1_0.last] 47 (0, 0)), Row r_status_writer 49 (.slice A1_0_0 a1_0.l.length c1_0_0) a1_0.l, Blk b1_1 (.cells #[.slice A1_1 a1_1.length c1_1] 63 (0, 0))]) (Γr := []) (Sum.elim (fun x39 => AE (ι := Option Addr × Nat) (fun ⟨A40, c41⟩ => [Row (rInt .i64) 3 (.slice A40 x39.length c41) x39, Blk b1 (.cells #[.slice A40 x39.length c41] 32 (0, 0))]) (fun _ _ => True) (fun _ _ _ _ _ => trivial)) (fun _ => Star [])) (fun _ => Code.ret) fn42 rfl (St.close_ex (φ := (fun _ _ => True)) (hφ := (fun _ _ _ _ _ => trivial)) (none, 0) trivial (S.pick [0, 1, 2, 3, 4, 5] (by decide))) (by rintro _ _ _ rfl; rfl) (by decide) (status_Writers_those_1_PO.con k M A1_0_0 c1_0_0 a1_0 A1_1 c1_1 a1_1 b1_0 bo1_0 b1_1 (slices_AppendSeq_int_int_N_Writers_those_1_PO_b0 k) ([] : List Int) o56 hr1_1 hg0 o56h) ?_ ?_
  · intro nn lp M58 F y60 vs x39 tt w hM59 henc hbd S
    obtain rfl := henc
    replace hg0 : ∃ gt fr, _ := (let ⟨gt, fr, h8⟩ := hg0; ⟨gt, fr, hM59 _ _ h8⟩)
    replace HM := Hp.le_trans HM hM59
    replace hr1_1 := SlR.mono hr1_1 hM59
    replace S : St w M58 F (AE (ι := Option Addr × Nat) (fun ⟨A40, c41⟩ => [Row (rInt .i64) 3 (.slice A40 x39.length c41) x39, Blk b1 (.cells #[.slice A40 x39.length c41] 32 (0, 0))]) (fun _ _ => True) (fun _ _ _ _ _ => trivial) :: []) := S
    obtain ⟨⟨A40, c41⟩, _, S⟩ := S.open_ex
    replace S : St w M58 F [Row (rInt .i64) 3 (.slice A40 x39.length c41) x39, Blk b1 (.cells #[.slice A40 x39.length c41] 32 (0, 0))] := S
    have E := Ext.refl w
    have LE61 := Hp.le_refl M58
    have H := hbd
    rw [slices_AppendSeq_int_int_N_Writers_those_1_PO_b0.eq_1] at H
    refine Wp_region_lit ?_
    refine W_v (.int .i64 y60) (x_assign rfl) rfl ?_
    refine Wl_nil ?_
    refine on_n ⟨_, _, LE61, E, S, ?_⟩
    intro w F E3 S
    have E := Ext.refl w
    have LE62 := Hp.le_refl M58
    refine Wp_block ?_
    refine Wp_region_lit ?_
    refine W_v (.slice A40 x39.length c41) (x_load (S.blk 1 rfl) ty32 rfl rfl) rfl ?_
    refine W_v (.int .i64 y60) (x_move rfl) rfl ?_
    refine W_bslice S #[.int .i64 y60] Tryd.underlying32 ty3 rfl rfl #[.int .i64 0] (by kernel_rfl) (by kernel_rfl) rfl ?_
    intro b63 w64 E' S
    replace E := E.trans E'
    clear E'
    replace S := S.blk_row (r := (rInt .i64)) (l := ([y60] : List Int)) 0 rfl 1 (Nat.le_refl 1) rfl (Cells.cons (vs := [.int .i64 y60]) (rfl) Cells.nil)
    obtain ⟨p66, H⟩ := chkS H
    obtain ⟨src67, hs68, hC69⟩ := src_of_read (P := Tryd.prog) (ρ := (rInt .i64)) (l := ([y60] : List Int)) (S.row_read 0 rfl) (by decide)
    refine W_append S 1 rfl rfl rfl Tryd.underlying32 (.inl Tryd.underlying32) ty3 rfl (by decide) (by decide) hs68 hC69 rfl (by omega) rfl ?_
    intro v70 w71 E' S
    replace E := E.trans E'
    clear E'
    obtain ⟨A72, c73, rfl, _⟩ := (S.row_read 1 rfl).form
    refine W_store S 2 rfl ty32 rfl rfl [.slice A72 (x39 ++ ([y60] : List Int)).length c73] rfl rfl rfl #[.slice A72 (x39 ++ ([y60] : List Int)).length c73] rfl rfl ?_
    intro w74 E' S
    replace E := E.trans E'
    clear E'
    refine Wl_nil ?_
    refine bn ?_
    obtain rfl := Option.some.inj H
    exact endB_mk trivial LE62 E (St.close_ex (φ := (fun _ _ => True)) (hφ := (fun _ _ _ _ _ => trivial)) (A72, c73) trivial (S.pick [1, 2] (by decide)))
  intro w75 M76 Γ' hM77 E' hΨ S
  obtain rfl : Γ' = _ := hΨ
  replace E := E.trans E'
  clear E'
  replace hg0 : ∃ gt fr, _ := (let ⟨gt, fr, h8⟩ := hg0; ⟨gt, fr, hM77 _ _ h8⟩)
  replace HM := Hp.le_trans HM hM77
  replace hr1_1 := SlR.mono hr1_1 hM77
  have H := o56H
  clear o56H
  rcases o56 with x39 | _
  · replace H := elimL H
    refine afterR_l ?_
    replace S : St w75 M76 F (AE (ι := Option Addr × Nat) (fun ⟨A40, c41⟩ => [Row (rInt .i64) 3 (.slice A40 x39.length c41) x39, Blk b1 (.cells #[.slice A40 x39.length c41] 32 (0, 0))]) (fun _ _ => True) (fun _ _ _ _ _ => trivial) :: [Blk b1_0 (.cells #[.pointer (some ⟨bo1_0, 0, none⟩)] 24 (0, 0)), Blk bo1_0 (.cells #[.slice A1_0_0 a1_0.l.length c1_0_0, .int .i64 a1_0.last] 47 (0, 0)), Row r_status_writer 49 (.slice A1_0_0 a1_0.l.length c1_0_0) a1_0.l, Blk b1_1 (.cells #[.slice A1_1 a1_1.length c1_1] 63 (0, 0))]) := S
    obtain ⟨⟨A40, c41⟩, _, S⟩ := S.open_ex
    replace S : St w75 M76 F [Row (rInt .i64) 3 (.slice A40 x39.length c41) x39, Blk b1 (.cells #[.slice A40 x39.length c41] 32 (0, 0)), Blk b1_0 (.cells #[.pointer (some ⟨bo1_0, 0, none⟩)] 24 (0, 0)), Blk bo1_0 (.cells #[.slice A1_0_0 a1_0.l.length c1_0_0, .int .i64 a1_0.last] 47 (0, 0)), Row r_status_writer 49 (.slice A1_0_0 a1_0.l.length c1_0_0) a1_0.l, Blk b1_1 (.cells #[.slice A1_1 a1_1.length c1_1] 63 (0, 0))] := S
    refine bn ?_
    refine tn ?_
    refine Wp_seq ?_
    refine Wp_region_lit ?_
    refine W_v (.slice A40 x39.length c41) (x_load (S.blk 1 rfl) ty32 rfl rfl) rfl ?_
    refine W_v (.slice A40 x39.length c41) (x_assign rfl) rfl ?_
    refine Wl_nil ?_
    refine tn ?_
    refine Wp_ret ?_
    obtain rfl := Option.some.inj H
    exact ⟨_, _, _, fun w1 e1 => run_resR (vs := [.slice A40 x39.length c41]) (FA.cons (rfl) (FA.nil)), HM, E, S.pick [0, 2, 3, 4, 5] (by decide), ⟨A40, c41, rfl, rfl⟩⟩
  · cases H
/-! ### slices.Collect[int]: function 31 -/
def slices_Collect_int_Writers_those_1_PO (k : Nat) (a0_0 : status_Writers) (a0_1 : (List Int)) : Option ((List Int)) :=
  (Option.bind (slices_AppendSeq_int_int_N_Writers_those_1_PO k a0_0 a0_1) (fun t1 => some t1))
set_option maxHeartbeats 2000000 in
theorem slices_Collect_int_Writers_those_1_PO.mono {k : Nat} {a0_0 : status_Writers} {a0_1 : (List Int)} : OLe (slices_Collect_int_Writers_those_1_PO k a0_0 a0_1) (slices_Collect_int_Writers_those_1_PO (k + 1) a0_0 a0_1) := by
  unfold slices_Collect_int_Writers_those_1_PO
  repeat' (first | with_reducible exact OLe.none | with_reducible exact OLe.some | with_reducible refine OLe.ite ?_ ?_ | with_reducible refine OLe.bind ?_ (fun _ => ?_) | with_reducible exact slices_AppendSeq_int_int_N_Writers_those_1_PO.mono | refine OLe.bind ?_ (fun _ => ?_) | refine OLe.ite ?_ ?_ | refine OLe.elim (fun _ => ?_) (fun _ => ?_) | split)
set_option maxHeartbeats 1000000 in
set_option maxRecDepth 100000 in
theorem slices_Collect_int_Writers_those_1_PO.con (k : Nat) (M : Hp) (A0_0_0 : Option Addr) (c0_0_0 : Nat) (a0_0 : status_Writers) (A0_1 : Option Addr) (c0_1 : Nat) (a0_1 : (List Int)) (b0_0 : Nat) (bo0_0 : Nat) (b0_1 : Nat) (r : (List Int)) (hr0_1 : SlR (rInt .u8) M (.slice A0_1 a0_1.length c0_1) a0_1) (hg0 : ∃ gt fr, M 0 = some (.cells #[.int .u8 0, .int .u8 0, .int .u8 1, .int .u8 1, .int .u8 2] gt fr)) (h : slices_Collect_int_Writers_those_1_PO k a0_0 a0_1 = some r) : Con Tryd.prog 31 #[.func (.func 42) #[] #[.pointer (some ⟨b0_0, 0, none⟩), .pointer (some ⟨b0_1, 0, none⟩)]] M [Blk b0_0 (.cells #[.pointer (some ⟨bo0_0, 0, none⟩)] 24 (0, 0)), Blk bo0_0 (.cells #[.slice A0_0_0 a0_0.l.length c0_0_0, .int .i64 a0_0.last] 47 (0, 0)), Row r_status_writer 49 (.slice A0_0_0 a0_0.l.length c0_0_0) a0_0.l, Blk b0_1 (.cells #[.slice A0_1 a0_1.length c0_1] 63 (0, 0))] (fun v M' Γ' => ∃ (Aq1 : Option Addr) (cq2 : Nat), v = .slice Aq1 r.length cq2 ∧ Γ' = [Row (rInt .i64) 3 (.slice Aq1 r.length cq2) r, Blk b0_0 (.cells #[.pointer (some ⟨bo0_0, 0, none⟩)] 24 (0, 0)), Blk bo0_0 (.cells #[.slice A0_0_0 a0_0.l.length c0_0_0, .int .i64 a0_0.last] 47 (0, 0)), Row r_status_writer 49 (.slice A0_0_0 a0_0.l.length c0_0_0) a0_0.l, Blk b0_1 (.cells #[.slice A0_1 a0_1.length c0_1] 63 (0, 0))]) := by
  refine con_of_wp Tryd.func31 rfl Tryd.ntmps31 Tryd.results31 rfl ?_
  intro w F rn S hrn
  have E := Ext.refl w
  have HM := Hp.le_refl M
  have H := h
  unfold slices_Collect_int_Writers_those_1_PO at H
  refine Wp_seq ?_
  refine Wp_region_lit ?_
  refine W_v (.slice none 0 0) (x_assign rfl) rfl ?_
  refine Wl_nil ?_
  refine tn ?_
  refine Wp_seq ?_
  refine Wp_region_lit ?_
  refine W_v (.func (.func 42) #[] #[.pointer (some ⟨b0_0, 0, none⟩), .pointer (some ⟨b0_1, 0, none⟩)]) (x_move rfl) rfl ?_
  obtain ⟨t1, ht2, H⟩ := bindS H
  refine W_callF2 fn41 (slices_AppendSeq_int_int_N_Writers_those_1_PO.con k M A0_0_0 c0_0_0 a0_0 A0_1 c0_1 a0_1 b0_0 bo0_0 b0_1 t1 hr0_1 hg0 ht2) (Γ1 := [Blk b0_0 (.cells #[.pointer (some ⟨bo0_0, 0, none⟩)] 24 (0, 0)), Blk bo0_0 (.cells #[.slice A0_0_0 a0_0.l.length c0_0_0, .int .i64 a0_0.last] 47 (0, 0)), Row r_status_writer 49 (.slice A0_0_0 a0_0.l.length c0_0_0) a0_0.l, Blk b0_1 (.cells #[.slice A0_1 a0_1.length c0_1] 63 (0, 0))]) (Γ2 := []) S rfl rfl (by rintro _ _ _ ⟨_, _, rfl, rfl⟩; exact (flat_cons (flat_row (fun _ _ _ _ h => h)) (flat_cons flat_blk (flat_cons flat_blk (flat_cons (flat_row (fun _ _ _ _ h => h)) (flat_cons flat_blk flat_nil)))))) ?_
  rintro _ w6 _ Γ' E' S ⟨A3, c4, rfl, rfl⟩
  replace E := E.trans E'
  clear E'
  replace S : St w6 M F [Row (rInt .i64) 3 (.slice A3 t1.length c4) t1, Blk b0_0 (.cells #[.pointer (some ⟨bo0_0, 0, none⟩)] 24 (0, 0)), Blk bo0_0 (.cells #[.slice A0_0_0 a0_0.l.length c0_0_0, .int .i64 a0_0.last] 47 (0, 0)), Row r_status_writer 49 (.slice A0_0_0 a0_0.l.length c0_0_0) a0_0.l, Blk b0_1 (.cells #[.slice A0_1 a0_1.length c0_1] 63 (0, 0))] := S
  refine W_v (.slice A3 t1.length c4) (x_assign rfl) rfl ?_
  refine Wl_nil ?_
  refine tn ?_
  refine Wp_ret ?_
  obtain rfl := Option.some.inj H
  exact ⟨_, _, _, fun w1 e1 => run_resR (vs := [.slice A3 t1.length c4]) (FA.cons (rfl) (FA.nil)), HM, E, S.pick [0, 1, 2, 3, 4] (by decide), ⟨A3, c4, rfl, rfl⟩⟩
/-! ### (*ferryman/status.Writers).Busy: function 14 -/
def status_Writers_Busy_PO (k : Nat) (a0 : status_Writers) : Option ((List Int)) :=
  (Option.bind (status_Writers_those_PO k a0 ([(1 : Int), (2 : Int)] : List Int)) (fun t7 => (Option.bind (slices_Collect_int_Writers_those_1_PO k a0 ([(1 : Int), (2 : Int)] : List Int)) (fun t16 => some t16))))
set_option maxHeartbeats 2000000 in
theorem status_Writers_Busy_PO.mono {k : Nat} {a0 : status_Writers} : OLe (status_Writers_Busy_PO k a0) (status_Writers_Busy_PO (k + 1) a0) := by
  unfold status_Writers_Busy_PO
  repeat' (first | with_reducible exact OLe.none | with_reducible exact OLe.some | with_reducible refine OLe.ite ?_ ?_ | with_reducible refine OLe.bind ?_ (fun _ => ?_) | with_reducible exact slices_Collect_int_Writers_those_1_PO.mono | with_reducible exact status_Writers_those_PO.mono | refine OLe.bind ?_ (fun _ => ?_) | refine OLe.ite ?_ ?_ | refine OLe.elim (fun _ => ?_) (fun _ => ?_) | split)
set_option maxHeartbeats 1000000 in
set_option maxRecDepth 100000 in
theorem status_Writers_Busy_PO.con (k : Nat) (M : Hp) (A0_0 : Option Addr) (c0_0 : Nat) (a0 : status_Writers) (bo0 : Nat) (r : (List Int))  (hg0 : ∃ gt fr, M 0 = some (.cells #[.int .u8 0, .int .u8 0, .int .u8 1, .int .u8 1, .int .u8 2] gt fr)) (h : status_Writers_Busy_PO k a0 = some r) : Con Tryd.prog 14 #[.pointer (some ⟨bo0, 0, none⟩)] M [Blk bo0 (.cells #[.slice A0_0 a0.l.length c0_0, .int .i64 a0.last] 47 (0, 0)), Row r_status_writer 49 (.slice A0_0 a0.l.length c0_0) a0.l] (fun v M' Γ' => ∃ (Aq1 : Option Addr) (cq2 : Nat), v = .slice Aq1 r.length cq2 ∧ Γ' = [Row (rInt .i64) 3 (.slice Aq1 r.length cq2) r, Blk bo0 (.cells #[.slice A0_0 a0.l.length c0_0, .int .i64 a0.last] 47 (0, 0)), Row r_status_writer 49 (.slice A0_0 a0.l.length c0_0) a0.l]) := by
  refine con_of_wp Tryd.func14 rfl Tryd.ntmps14 Tryd.results14 rfl ?_
  intro w F rn S hrn
  have E := Ext.refl w
  have HM := Hp.le_refl M
  have H := h
  unfold status_Writers_Busy_PO at H
  refine Wp_seq ?_
  refine Wp_region_lit ?_
  refine W_v (.slice none 0 0) (x_assign rfl) rfl ?_
  refine Wl_nil ?_
  refine tn ?_
  refine Wp_seq ?_
  refine Wp_region_lit ?_
  refine W_v (.pointer (some ⟨bo0, 0, none⟩)) (x_move rfl) rfl ?_
  refine W_bslice S #[.int .u8 1, .int .u8 2] Tryd.underlying63 ty5 rfl rfl #[.int .u8 0, .int .u8 0] (by kernel_rfl) (by kernel_rfl) rfl ?_
  intro b1 w2 E' S
  replace E := E.trans E'
  clear E'
  replace S := S.blk_row (r := (rInt .u8)) (l := ([(1 : Int), (2 : Int)] : List Int)) 0 rfl 2 (Nat.le_refl 2) rfl (Cells.cons (vs := [.int .u8 1]) (rfl) (Cells.cons (vs := [.int .u8 2]) (rfl) Cells.nil))
  obtain ⟨M4, hM5, hf6, S⟩ := S.row_freeze 0 rfl
  replace hg0 : ∃ gt fr, _ := (let ⟨gt, fr, h8⟩ := hg0; ⟨gt, fr, hM5 _ _ h8⟩)
  replace HM := Hp.le_trans HM hM5
  obtain ⟨t7, ht8, H⟩ := bindS H
  refine W_callF2 fn32 (status_Writers_those_PO.con k M4 A0_0 c0_0 a0 (some ⟨b1, 0, none⟩) 2 ([(1 : Int), (2 : Int)] : List Int) bo0 t7 hf6 hg0 ht8) (Γ1 := [Blk bo0 (.cells #[.slice A0_0 a0.l.length c0_0, .int .i64 a0.last] 47 (0, 0)), Row r_status_writer 49 (.slice A0_0 a0.l.length c0_0) a0.l]) (Γ2 := []) S rfl rfl (by rintro _ _ _ ⟨_, _, rfl, rfl⟩; exact (flat_cons flat_blk (flat_cons flat_blk (flat_cons flat_blk (flat_cons (flat_row (fun _ _ _ _ h => h)) flat_nil))))) ?_
  rintro _ w13 _ Γ' E' S ⟨b9, b11, rfl, rfl⟩
  replace E := E.trans E'
  clear E'
  replace S : St w13 M4 F [Blk b9 (.cells #[.pointer (some ⟨bo0, 0, none⟩)] 24 (0, 0)), Blk b11 (.cells #[.slice (some ⟨b1, 0, none⟩) ([(1 : Int), (2 : Int)] : List Int).length 2] 63 (0, 0)), Blk bo0 (.cells #[.slice A0_0 a0.l.length c0_0, .int .i64 a0.last] 47 (0, 0)), Row r_status_writer 49 (.slice A0_0 a0.l.length c0_0) a0.l] := S
  obtain ⟨t16, ht17, H⟩ := bindS H
  replace S : St w13 M4 F [Blk b9 (.cells #[.pointer (some ⟨bo0, 0, none⟩)] 24 (0, 0)), Blk bo0 (.cells #[.slice A0_0 a0.l.length c0_0, .int .i64 a0.last] 47 (0, 0)), Row r_status_writer 49 (.slice A0_0 a0.l.length c0_0) a0.l, Blk b11 (.cells #[.slice (some ⟨b1, 0, none⟩) ([(1 : Int), (2 : Int)] : List Int).length 2] 63 (0, 0))] := S.pick [0, 2, 3, 1] (by decide)
  refine W_callF2 fn31 (slices_Collect_int_Writers_those_1_PO.con k M4 A0_0 c0_0 a0 (some ⟨b1, 0, none⟩) 2 ([(1 : Int), (2 : Int)] : List Int) b9 bo0 b11 t16 hf6 hg0 ht17) (Γ1 := [Blk b9 (.cells #[.pointer (some ⟨bo0, 0, none⟩)] 24 (0, 0)), Blk bo0 (.cells #[.slice A0_0 a0.l.length c0_0, .int .i64 a0.last] 47 (0, 0)), Row r_status_writer 49 (.slice A0_0 a0.l.length c0_0) a0.l, Blk b11 (.cells #[.slice (some ⟨b1, 0, none⟩) ([(1 : Int), (2 : Int)] : List Int).length 2] 63 (0, 0))]) (Γ2 := []) S rfl rfl (by rintro _ _ _ ⟨_, _, rfl, rfl⟩; exact (flat_cons (flat_row (fun _ _ _ _ h => h)) (flat_cons flat_blk (flat_cons flat_blk (flat_cons (flat_row (fun _ _ _ _ h => h)) (flat_cons flat_blk flat_nil)))))) ?_
  rintro _ w21 _ Γ' E' S ⟨A18, c19, rfl, rfl⟩
  replace E := E.trans E'
  clear E'
  replace S : St w21 M4 F [Row (rInt .i64) 3 (.slice A18 t16.length c19) t16, Blk b9 (.cells #[.pointer (some ⟨bo0, 0, none⟩)] 24 (0, 0)), Blk bo0 (.cells #[.slice A0_0 a0.l.length c0_0, .int .i64 a0.last] 47 (0, 0)), Row r_status_writer 49 (.slice A0_0 a0.l.length c0_0) a0.l, Blk b11 (.cells #[.slice (some ⟨b1, 0, none⟩) ([(1 : Int), (2 : Int)] : List Int).length 2] 63 (0, 0))] := S
  refine W_v (.slice A18 t16.length c19) (x_assign rfl) rfl ?_
  refine Wl_nil ?_
  refine tn ?_
  refine Wp_ret ?_
  obtain rfl := Option.some.inj H
  exact ⟨_, _, _, fun w1 e1 => run_resR (vs := [.slice A18 t16.length c19]) (FA.cons (rfl) (FA.nil)), HM, E, S.pick [0, 2, 3] (by decide), ⟨A18, c19, rfl, rfl⟩⟩
/-! ### (*ferryman/status.Writers).Active: function 15 -/
def status_Writers_Active_PO_b0 (k : Nat) : Int → Int → Option ((Int) ⊕ (Unit))
  | y32, x26 => some (.inl (IntKind.i64.wrap (x26 + (1 : Int))))
set_option maxHeartbeats 2000000 in
theorem status_Writers_Active_PO_b0.mono {k : Nat} : ∀ x s, OLe (status_Writers_Active_PO_b0  k x s) (status_Writers_Active_PO_b0  (k + 1) x s) := by
  intro x s
  unfold status_Writers_Active_PO_b0
  repeat' (first | with_reducible exact OLe.none | with_reducible exact OLe.some | with_reducible refine OLe.ite ?_ ?_ | with_reducible refine OLe.bind ?_ (fun _ => ?_) | refine OLe.bind ?_ (fun _ => ?_) | refine OLe.ite ?_ ?_ | refine OLe.elim (fun _ => ?_) (fun _ => ?_) | split)
def status_Writers_Active_PO (k : Nat) (a0 : status_Writers) : Option (Int) :=
  (Option.bind (status_Writers_those_PO k a0 ([(1 : Int)] : List Int)) (fun t11 => (Option.bind (status_Writers_those_1_PO k a0 ([(1 : Int)] : List Int) (status_Writers_Active_PO_b0 k) (0 : Int)) (fun o29o => Sum.elim (fun x26 => some x26) (fun _ => none) o29o))))
set_option maxHeartbeats 2000000 in
theorem status_Writers_Active_PO.mono {k : Nat} {a0 : status_Writers} : OLe (status_Writers_Active_PO k a0) (status_Writers_Active_PO (k + 1) a0) := by
  unfold status_Writers_Active_PO
  repeat' (first | with_reducible exact OLe.none | with_reducible exact OLe.some | with_reducible refine OLe.ite ?_ ?_ | with_reducible refine OLe.bind ?_ (fun _ => ?_) | with_reducible exact status_Writers_Active_PO_b0.mono | exact status_Writers_those_1_PO.mono (fun _ _ => by first | exact status_Writers_Active_PO_b0.mono _ _) | with_reducible exact status_Writers_those_PO.mono | refine OLe.bind ?_ (fun _ => ?_) | refine OLe.ite ?_ ?_ | refine OLe.elim (fun _ => ?_) (fun _ => ?_) | split)
set_option maxHeartbeats 1000000 in
set_option maxRecDepth 100000 in
theorem status_Writers_Active_PO.con (k : Nat) (M : Hp) (A0_0 : Option Addr) (c0_0 : Nat) (a0 : status_Writers) (bo0 : Nat) (r : Int)  (hg0 : ∃ gt fr, M 0 = some (.cells #[.int .u8 0, .int .u8 0, .int .u8 1, .int .u8 1, .int .u8 2] gt fr)) (h : status_Writers_Active_PO k a0 = some r) : Con Tryd.prog 15 #[.pointer (some ⟨bo0, 0, none⟩)] M [Blk bo0 (.cells #[.slice A0_0 a0.l.length c0_0, .int .i64 a0.last] 47 (0, 0)), Row r_status_writer 49 (.slice A0_0 a0.l.length c0_0) a0.l] (fun v M' Γ' => v = .int .i64 r ∧ Γ' = [Blk bo0 (.cells #[.slice A0_0 a0.l.length c0_0, .int .i64 a0.last] 47 (0, 0)), Row r_status_writer 49 (.slice A0_0 a0.l.length c0_0) a0.l]) := by
  refine con_of_wp Tryd.func15 rfl Tryd.ntmps15 Tryd.results15 rfl ?_
  intro w F rn S hrn
  have E := Ext.refl w
  have HM := Hp.le_refl M
  have H := h
  unfold status_Writers_Active_PO at H
  refine Wp_seq ?_
  refine Wp_region_lit ?_
  refine W_v (.int .i64 0) (x_assign rfl) rfl ?_
  refine Wl_nil ?_
  refine tn ?_
  refine Wp_seq ?_
  refine Wp_region_lit ?_
  refine W_alloc S #[.int .i64 0] ty3 rfl rfl ?_
  intro b1 w2 E' S
  replace E := E.trans E'
  clear E'
  refine W_store S 0 rfl ty3 rfl rfl [.int .i64 0] rfl rfl rfl #[.int .i64 0] rfl rfl ?_
  intro w4 E' S
  replace E := E.trans E'
  clear E'
  refine Wl_nil ?_
  refine tn ?_
  refine Wp_seq ?_
  refine Wp_seq ?_
  refine Wp_region_lit ?_
  refine W_v (.pointer (some ⟨bo0, 0, none⟩)) (x_move rfl) rfl ?_
  refine W_bslice S #[.int .u8 1] Tryd.underlying63 ty5 rfl rfl #[.int .u8 0] (by kernel_rfl) (by kernel_rfl) rfl ?_
  intro b5 w6 E' S
  replace E := E.trans E'
  clear E'
  replace S := S.blk_row (r := (rInt .u8)) (l := ([(1 : Int)] : List Int)) 0 rfl 1 (Nat.le_refl 1) rfl (Cells.cons (vs := [.int .u8 1]) (rfl) Cells.nil)
  obtain ⟨M8, hM9, hf10, S⟩ := S.row_freeze 0 rfl
  replace hg0 : ∃ gt fr, _ := (let ⟨gt, fr, h8⟩ := hg0; ⟨gt, fr, hM9 _ _ h8⟩)
  replace HM := Hp.le_trans HM hM9
  obtain ⟨t11, ht12, H⟩ := bindS H
  replace S : St w6 M8 F [Blk bo0 (.cells #[.slice A0_0 a0.l.length c0_0, .int .i64 a0.last] 47 (0, 0)), Row r_status_writer 49 (.slice A0_0 a0.l.length c0_0) a0.l, Blk b1 (.cells #[.int .i64 0] 3 (0, 0))] := S.pick [1, 2, 0] (by decide)
  refine W_callF2 fn32 (status_Writers_those_PO.con k M8 A0_0 c0_0 a0 (some ⟨b5, 0, none⟩) 1 ([(1 : Int)] : List Int) bo0 t11 hf10 hg0 ht12) (Γ1 := [Blk bo0 (.cells #[.slice A0_0 a0.l.length c0_0, .int .i64 a0.last] 47 (0, 0)), Row r_status_writer 49 (.slice A0_0 a0.l.length c0_0) a0.l]) (Γ2 := [Blk b1 (.cells #[.int .i64 0] 3 (0, 0))]) S rfl rfl (by rintro _ _ _ ⟨_, _, rfl, rfl⟩; exact (flat_cons flat_blk (flat_cons flat_blk (flat_cons flat_blk (flat_cons (flat_row (fun _ _ _ _ h => h)) flat_nil))))) ?_
  rintro _ w17 _ Γ' E' S ⟨b13, b15, rfl, rfl⟩
  replace E := E.trans E'
  clear E'
  replace S : St w17 M8 F [Blk b13 (.cells #[.pointer (some ⟨bo0, 0, none⟩)] 24 (0, 0)), Blk b15 (.cells #[.slice (some ⟨b5, 0, none⟩) ([(1 : Int)] : List Int).length 1] 63 (0, 0)), Blk bo0 (.cells #[.slice A0_0 a0.l.length c0_0, .int .i64 a0.last] 47 (0, 0)), Row r_status_writer 49 (.slice A0_0 a0.l.length c0_0) a0.l, Blk b1 (.cells #[.int .i64 0] 3 (0, 0))] := S
  refine Wl_nil ?_
  refine tn ?_
  refine Wp_block ?_
  obtain ⟨o29, o29h, o29H⟩ := bindS H
  clear H
  refine Wp_rangeFunc (σ := Int) (ε := Unit) (Γi := [Blk b13 (.cells #[.pointer (some ⟨bo0, 0, none⟩)] 24 (0, 0)), Blk bo0 (.cells #[.slice A0_0 a0.l.length c0_0, .int .i64 a0.last] 47 (0, 0)), Row r_status_writer 49 (.slice A0_0 a0.l.length c0_0) a0.l, Blk b15 (.cells #[.slice (some ⟨b5, 0, none⟩) ([(1 : Int)] : List Int).length 1] 63 (0, 0))]) (Γr := []) (Sum.elim (fun x26 => AE (ι := Unit) (fun (i : Unit) => [Blk b1 (.cells #[.int .i64 x26] 3 (0, 0))]) (fun _ _ => True) (fun _ _ _ _ _ => trivial)) (fun _ => Star [])) (fun _ => Code.ret) fn42 rfl (St.close_ex (φ := (fun _ _ => True)) (hφ := (fun _ _ _ _ _ => trivial)) () trivial (S.pick [4, 0, 2, 3, 1] (by decide))) (by rintro _ _ _ rfl; rfl) (by decide) (status_Writers_those_1_PO.con k M8 A0_0 c0_0 a0 (some ⟨b5, 0, none⟩) 1 ([(1 : Int)] : List Int) b13 bo0 b15 (status_Writers_Active_PO_b0 k) (0 : Int) o29 hf10 hg0 o29h) ?_ ?_
  · intro nn lp M30 F y32 vs x26 tt w hM31 henc hbd S
    obtain rfl := henc
    replace hg0 : ∃ gt fr, _ := (let ⟨gt, fr, h8⟩ := hg0; ⟨gt, fr, hM31 _ _ h8⟩)
    replace HM := Hp.le_trans HM hM31
    replace hf10 := SlR.mono hf10 hM31
    replace S : St w M30 F (AE (ι := Unit) (fun (i : Unit) => [Blk b1 (.cells #[.int .i64 x26] 3 (0, 0))]) (fun _ _ => True) (fun _ _ _ _ _ => trivial) :: []) := S
    obtain ⟨_, _, S⟩ := S.open_ex
    replace S : St w M30 F [Blk b1 (.cells #[.int .i64 x26] 3 (0, 0))] := S
    have E := Ext.refl w
    have LE33 := Hp.le_refl M30
    have H := hbd
    rw [status_Writers_Active_PO_b0.eq_1] at H
    refine Wp_skip ?_
    refine on_n ⟨_, _, LE33, E, S, ?_⟩
    intro w F E3 S
    have E := Ext.refl w
    have LE34 := Hp.le_refl M30
    refine Wp_block ?_
    refine Wp_region_lit ?_
    refine W_v (.int .i64 x26) (x_load (S.blk 0 rfl) ty3 rfl rfl) rfl ?_
    refine W_v (.int .i64 (IntKind.i64.wrap (x26 + (1 : Int)))) (x_ibin rfl rfl rfl rfl) rfl ?_
    refine W_store S 0 rfl ty3 rfl rfl [.int .i64 (IntKind.i64.wrap (x26 + (1 : Int)))] rfl rfl rfl #[.int .i64 (IntKind.i64.wrap (x26 + (1 : Int)))] rfl rfl ?_
    intro w35 E' S
    replace E := E.trans E'
    clear E'
    refine Wl_nil ?_
    refine bn ?_
    obtain rfl := Option.some.inj H
    exact endB_mk trivial LE34 E (St.close_ex (φ := (fun _ _ => True)) (hφ := (fun _ _ _ _ _ => trivial)) () trivial (S.pick [0] (by decide)))
  intro w36 M37 Γ' hM38 E' hΨ S
  obtain rfl : Γ' = _ := hΨ
  replace E := E.trans E'
  clear E'
  replace hg0 : ∃ gt fr, _ := (let ⟨gt, fr, h8⟩ := hg0; ⟨gt, fr, hM38 _ _ h8⟩)
  replace HM := Hp.le_trans HM hM38
  replace hf10 := SlR.mono hf10 hM38
  have H := o29H
  clear o29H
  rcases o29 with x26 | _
  · replace H := elimL H
    refine afterR_l ?_
    replace S : St w36 M37 F (AE (ι := Unit) (fun (i : Unit) => [Blk b1 (.cells #[.int .i64 x26] 3 (0, 0))]) (fun _ _ => True) (fun _ _ _ _ _ => trivial) :: [Blk b13 (.cells #[.pointer (some ⟨bo0, 0, none⟩)] 24 (0, 0)), Blk bo0 (.cells #[.slice A0_0 a0.l.length c0_0, .int .i64 a0.last] 47 (0, 0)), Row r_status_writer 49 (.slice A0_0 a0.l.length c0_0) a0.l, Blk b15 (.cells #[.slice (some ⟨b5, 0, none⟩) ([(1 : Int)] : List Int).length 1] 63 (0, 0))]) := S
    obtain ⟨_, _, S⟩ := S.open_ex
    replace S : St w36 M37 F [Blk b1 (.cells #[.int .i64 x26] 3 (0, 0)), Blk b13 (.cells #[.pointer (some ⟨bo0, 0, none⟩)] 24 (0, 0)), Blk bo0 (.cells #[.slice A0_0 a0.l.length c0_0, .int .i64 a0.last] 47 (0, 0)), Row r_status_writer 49 (.slice A0_0 a0.l.length c0_0) a0.l, Blk b15 (.cells #[.slice (some ⟨b5, 0, none⟩) ([(1 : Int)] : List Int).length 1] 63 (0, 0))] := S
    refine bn ?_
    refine tn ?_
    refine Wp_seq ?_
    refine Wp_region_lit ?_
    refine W_v (.int .i64 x26) (x_load (S.blk 0 rfl) ty3 rfl rfl) rfl ?_
    refine W_v (.int .i64 x26) (x_assign rfl) rfl ?_
    refine Wl_nil ?_
    refine tn ?_
    refine Wp_ret ?_
    obtain rfl := Option.some.inj H
    exact ⟨_, _, _, fun w1 e1 => run_resR (vs := [.int .i64 x26]) (FA.cons (rfl) (FA.nil)), HM, E, S.pick [2, 3] (by decide), ⟨rfl, rfl⟩⟩
  · cases H
/-! ### (*ferryman/status.Writers).Fallen: function 19 -/
def status_Writers_Fallen_PO (k : Nat) (a0 : status_Writers) (a1 : Int) : Option (Int × status_Writers) :=
  (Option.bind (status_Writers_turn_PO k a0 a1 (4 : Int)) (fun t1 => some (t1.1, t1.2)))
set_option maxHeartbeats 2000000 in
theorem status_Writers_Fallen_PO.mono {k : Nat} {a0 : status_Writers} {a1 : Int} : OLe (status_Writers_Fallen_PO k a0 a1) (status_Writers_Fallen_PO (k + 1) a0 a1) := by
  unfold status_Writers_Fallen_PO
  repeat' (first | with_reducible exact OLe.none | with_reducible exact OLe.some | with_reducible refine OLe.ite ?_ ?_ | with_reducible refine OLe.bind ?_ (fun _ => ?_) | with_reducible exact status_Writers_turn_PO.mono | refine OLe.bind ?_ (fun _ => ?_) | refine OLe.ite ?_ ?_ | refine OLe.elim (fun _ => ?_) (fun _ => ?_) | split)
set_option maxHeartbeats 1000000 in
set_option maxRecDepth 100000 in
theorem status_Writers_Fallen_PO.con (k : Nat) (M : Hp) (A0_0 : Option Addr) (c0_0 : Nat) (a0 : status_Writers) (a1 : Int) (bo0 : Nat) (r : Int × status_Writers)  (hg0 : ∃ gt fr, M 0 = some (.cells #[.int .u8 0, .int .u8 0, .int .u8 1, .int .u8 1, .int .u8 2] gt fr)) (h : status_Writers_Fallen_PO k a0 a1 = some r) : Con Tryd.prog 19 #[.pointer (some ⟨bo0, 0, none⟩), .int .i64 a1] M [Blk bo0 (.cells #[.slice A0_0 a0.l.length c0_0, .int .i64 a0.last] 47 (0, 0)), Row r_status_writer 49 (.slice A0_0 a0.l.length c0_0) a0.l] (fun v M' Γ' => ∃ (Aq1 : Option Addr) (cq2 : Nat), v = .int .i64 r.1 ∧ Γ' = [Blk bo0 (.cells #[.slice Aq1 r.2.l.length cq2, .int .i64 r.2.last] 47 (0, 0)), Row r_status_writer 49 (.slice Aq1 r.2.l.length cq2) r.2.l]) := by
  refine con_of_wp Tryd.func19 rfl Tryd.ntmps19 Tryd.results19 rfl ?_
  intro w F rn S hrn
  have E := Ext.refl w
  have HM := Hp.le_refl M
  have H := h
  unfold status_Writers_Fallen_PO at H
  refine Wp_seq ?_
  refine Wp_region_lit ?_
  refine W_v (.int .i64 0) (x_assign rfl) rfl ?_
  refine Wl_nil ?_
  refine tn ?_
  refine Wp_seq ?_
  refine Wp_region_lit ?_
  refine W_v (.pointer (some ⟨bo0, 0, none⟩)) (x_move rfl) rfl ?_
  refine W_v (.int .i64 a1) (x_move rfl) rfl ?_
  obtain ⟨t1, ht2, H⟩ := bindS H
  refine W_callF2 fn34 (status_Writers_turn_PO.con k M A0_0 c0_0 a0 a1 (4 : Int) bo0 t1 hg0 ht2) (Γ1 := [Blk bo0 (.cells #[.slice A0_0 a0.l.length c0_0, .int .i64 a0.last] 47 (0, 0)), Row r_status_writer 49 (.slice A0_0 a0.l.length c0_0) a0.l]) (Γ2 := []) S rfl rfl (by rintro _ _ _ ⟨_, _, rfl, rfl⟩; exact (flat_cons flat_blk (flat_cons (flat_row (fun _ _ _ _ h => h)) flat_nil))) ?_
  rintro _ w6 _ Γ' E' S ⟨A3, c4, rfl, rfl⟩
  replace E := E.trans E'
  clear E'
  replace S : St w6 M F [Blk bo0 (.cells #[.slice A3 t1.2.l.length c4, .int .i64 t1.2.last] 47 (0, 0)), Row r_status_writer 49 (.slice A3 t1.2.l.length c4) t1.2.l] := S
  refine W_v (.int .i64 t1.1) (x_assign rfl) rfl ?_
  refine Wl_nil ?_
  refine tn ?_
  refine Wp_ret ?_
  obtain rfl := Option.some.inj H
  exact ⟨_, _, _, fun w1 e1 => run_resR (vs := [.int .i64 t1.1]) (FA.cons (rfl) (FA.nil)), HM, E, S.pick [0, 1] (by decide), ⟨A3, c4, rfl, rfl⟩⟩
/-! ### (*ferryman/status.Writers).Of: function 12 -/
def status_Writers_Of_PO (k : Nat) (a0 : status_Writers) (a1 : Int) : Option (Int × Int) :=
  (if ((decide (a1 < (1 : Int))) || (decide (a1 > (a0.l.length : Int)))) = true then some ((0 : Int), (0 : Int)) else (if 0 ≤ (IntKind.i64.wrap (a1 - (1 : Int))) ∧ (IntKind.i64.wrap (a1 - (1 : Int))) < (a0.l.length : Int) then some ((rd a0.l (IntKind.i64.wrap (a1 - (1 : Int)))).state, (rd a0.l (IntKind.i64.wrap (a1 - (1 : Int)))).ts) else none))
set_option maxHeartbeats 2000000 in
theorem status_Writers_Of_PO.mono {k : Nat} {a0 : status_Writers} {a1 : Int} : OLe (status_Writers_Of_PO k a0 a1) (status_Writers_Of_PO (k + 1) a0 a1) := by
  unfold status_Writers_Of_PO
  repeat' (first | with_reducible exact OLe.none | with_reducible exact OLe.some | with_reducible refine OLe.ite ?_ ?_ | with_reducible refine OLe.bind ?_ (fun _ => ?_) | refine OLe.bind ?_ (fun _ => ?_) | refine OLe.ite ?_ ?_ | refine OLe.elim (fun _ => ?_) (fun _ => ?_) | split)
set_option maxHeartbeats 1000000 in
set_option maxRecDepth 100000 in
theorem status_Writers_Of_PO.con (k : Nat) (M : Hp) (A0_0 : Option Addr) (c0_0 : Nat) (a0 : status_Writers) (a1 : Int) (bo0 : Nat) (r : Int × Int)  (hg0 : ∃ gt fr, M 0 = some (.cells #[.int .u8 0, .int .u8 0, .int .u8 1, .int .u8 1, .int .u8 2] gt fr)) (h : status_Writers_Of_PO k a0 a1 = some r) : Con Tryd.prog 12 #[.pointer (some ⟨bo0, 0, none⟩), .int .i64 a1] M [Blk bo0 (.cells #[.slice A0_0 a0.l.length c0_0, .int .i64 a0.last] 47 (0, 0)), Row r_status_writer 49 (.slice A0_0 a0.l.length c0_0) a0.l] (fun v M' Γ' => v = .tuple #[.int .u8 r.1, .int .i64 r.2] ∧ Γ' = [Blk bo0 (.cells #[.slice A0_0 a0.l.length c0_0, .int .i64 a0.last] 47 (0, 0)), Row r_status_writer 49 (.slice A0_0 a0.l.length c0_0) a0.l]) := by
  refine con_of_wp Tryd.func12 rfl Tryd.ntmps12 Tryd.results12 rfl ?_
  intro w F rn S hrn
  have E := Ext.refl w
  have HM := Hp.le_refl M
  have H := h
  unfold status_Writers_Of_PO at H
  refine Wp_seq ?_
  refine Wp_region_lit ?_
  refine W_v (.int .u8 0) (x_assign rfl) rfl ?_
  refine W_v (.int .i64 0) (x_assign rfl) rfl ?_
  refine Wl_nil ?_
  refine tn ?_
  refine Wp_seq ?_
  refine Wp_seq ?_
  refine Wp_region_lit ?_
  refine W_v (.pointer (some ⟨bo0, 0, none⟩)) (x_move rfl) rfl ?_
  refine W_v (.bool false) (x_eq_of (r := false) rfl rfl (run_eq_ptrsn Tryd.underlying24)) rfl ?_
  refine W_v (.bool false) (x_move rfl) rfl ?_
  refine W_yes (rfl) ?_
  refine W_v (.int .i64 a1) (x_move rfl) rfl ?_
  refine W_yes (rfl) ?_
  refine W_v (.bool (decide (a1 < (1 : Int)))) (x_ibin rfl rfl rfl rfl) rfl ?_
  refine W_v (.bool (decide (a1 < (1 : Int)))) (x_pick (k := false) rfl rfl) rfl ?_
  refine W_v (.bool (decide (a1 < (1 : Int)))) (x_move rfl) rfl ?_
  refine Wl_cutN 8 (fun ρ w' => Agree ρ [(0, .pointer (some ⟨bo0, 0, none⟩)), (1, .int .i64 a1), (21, .bool ((decide (a1 < (1 : Int))) || (decide (a1 > (a0.l.length : Int)))))] ∧ w = w') ?_ ?_
  · rcases boolCases (decide (a1 < (1 : Int))) with hb1 | hb1
    · skip
      refine W_yes (congrArg some hb1) ?_
      refine W_v (.int .i64 a1) (x_move rfl) rfl ?_
      refine W_yes (congrArg some hb1) ?_
      refine W_v (.pointer (some ⟨bo0, 0, none⟩)) (x_move rfl) rfl ?_
      refine W_yes (congrArg some hb1) ?_
      refine W_v (.pointer (some ⟨bo0, 0, none⟩)) (x_nilptr rfl) rfl ?_
      refine W_yes (congrArg some hb1) ?_
      refine W_v (.pointer (some ⟨bo0, 0, none⟩)) (x_fieldAddr (o := 0) (off := 0) Tryd.underlying47 rfl ty45 rfl rfl) rfl ?_
      refine W_yes (congrArg some hb1) ?_
      refine W_v (.slice A0_0 a0.l.length c0_0) (x_load (S.blk 0 rfl) ty45 rfl rfl) rfl ?_
      refine W_yes (congrArg some hb1) ?_
      refine W_v (.int .i64 (a0.l.length : Int)) (x_len_slice (n := a0.l.length) Tryd.underlying45 rfl) rfl ?_
      refine W_yes (congrArg some hb1) ?_
      refine W_v (.bool (decide (a1 > (a0.l.length : Int)))) (x_ibin rfl rfl rfl rfl) rfl ?_
      refine W_v (.bool (decide (a1 > (a0.l.length : Int)))) (x_pick (k := false) (congrArg Value.bool hb1) rfl) rfl ?_
      refine Wl_nil ?_
      exact ⟨⟨rfl, rfl, (by first | rfl | (rw [hb1]; rfl) | (simp only [hb1]; rfl)), trivial⟩, rfl⟩
    · skip
      refine W_no (skF hb1) rfl ?_
      refine W_no (skF hb1) rfl ?_
      refine W_no (skF hb1) rfl ?_
      refine W_no (skF hb1) rfl ?_
      refine W_no (skF hb1) rfl ?_
      refine W_no (skF hb1) rfl ?_
      refine W_no (skF hb1) rfl ?_
      refine W_v (.bool true) (x_pick (k := true) (congrArg Value.bool hb1) rfl) rfl ?_
      refine Wl_nil ?_
      exact ⟨⟨rfl, rfl, (by first | rfl | (rw [hb1]; rfl) | (simp only [hb1]; rfl)), trivial⟩, rfl⟩
  rintro ρ _ ⟨hρ, rfl⟩
  rw [agree_eta hρ]
  clear hρ
  refine Wl_nil ?_
  refine tn ?_
  rcases iteS H with ⟨hb2, H⟩ | ⟨hb2, H⟩
  · refine Wp_cond_true (congrArg Value.bool hb2) ?_
    refine Wp_seq ?_
    refine Wp_region_lit ?_
    refine W_v (.int .u8 0) (x_assign rfl) rfl ?_
    refine W_v (.int .i64 0) (x_assign rfl) rfl ?_
    refine Wl_nil ?_
    refine tn ?_
    refine Wp_ret ?_
    refine tr (?_)
    obtain rfl := Option.some.inj H
    exact ⟨_, _, _, fun w1 e1 => run_resR (vs := [.int .u8 0, .int .i64 0]) (FA.cons (rfl) (FA.cons (rfl) (FA.nil))), HM, E, S.pick [0, 1] (by decide), ⟨rfl, rfl⟩⟩
  refine Wp_cond_false (congrArg Value.bool hb2) ?_
  refine Wp_skip ?_
  refine tn ?_
  refine Wp_seq ?_
  refine Wp_region_lit ?_
  refine W_v (.pointer (some ⟨bo0, 0, none⟩)) (x_move rfl) rfl ?_
  refine W_v (.pointer (some ⟨bo0, 0, none⟩)) (x_nilptr rfl) rfl ?_
  refine W_v (.pointer (some ⟨bo0, 0, none⟩)) (x_fieldAddr (o := 0) (off := 0) Tryd.underlying47 rfl ty45 rfl rfl) rfl ?_
  refine W_v (.slice A0_0 a0.l.length c0_0) (x_load (S.blk 0 rfl) ty45 rfl rfl) rfl ?_
  refine W_v (.int .i64 a1) (x_move rfl) rfl ?_
  refine W_v (.int .i64 (IntKind.i64.wrap (a1 - (1 : Int)))) (x_ibin rfl rfl rfl rfl) rfl ?_
  obtain ⟨⟨p3, p4⟩, H⟩ := chkS H
  obtain ⟨b5, o6, cs7, _, _, ee12, hb8, vs9, hR10, hc11⟩ := SlW.at' (S.row_read 1 rfl) p3 p4
  obtain rfl : vs9 = _ := hR10
  refine W_v (.pointer (some ⟨b5, o6 + (IntKind.i64.wrap (a1 - (1 : Int))).toNat * 2, none⟩)) (x_indexAddr Tryd.underlying45 ty49 (slA ee12) rfl p3 p4) rfl ?_
  refine W_v (.agg #[.int .u8 ((rd a0.l (IntKind.i64.wrap (a1 - (1 : Int)))).state), .int .i64 ((rd a0.l (IntKind.i64.wrap (a1 - (1 : Int)))).ts)]) (x_loadA (Hp.of_get hb8) ty49 rfl (sub_el hc11 0 rfl) rfl rfl) rfl ?_
  refine W_alloc S #[.int .u8 0, .int .i64 0] ty49 rfl rfl ?_
  intro b13 w14 E' S
  replace E := E.trans E'
  clear E'
  refine W_store S 0 rfl ty49 rfl rfl [.int .u8 ((rd a0.l (IntKind.i64.wrap (a1 - (1 : Int)))).state), .int .i64 ((rd a0.l (IntKind.i64.wrap (a1 - (1 : Int)))).ts)] rfl rfl rfl #[.int .u8 ((rd a0.l (IntKind.i64.wrap (a1 - (1 : Int)))).state), .int .i64 ((rd a0.l (IntKind.i64.wrap (a1 - (1 : Int)))).ts)] rfl rfl ?_
  intro w16 E' S
  replace E := E.trans E'
  clear E'
  refine Wl_nil ?_
  refine tn ?_
  refine Wp_seq ?_
  refine Wp_region_any (S := fun w' => ∃ Mx, M.le Mx ∧ St w' Mx F [Blk b13 (.cells #[.int .u8 ((rd a0.l (IntKind.i64.wrap (a1 - (1 : Int)))).state), .int .i64 ((rd a0.l (IntKind.i64.wrap (a1 - (1 : Int)))).ts)] 49 (0, 0)), Blk bo0 (.cells #[.slice A0_0 a0.l.length c0_0, .int .i64 a0.last] 47 (0, 0)), Row r_status_writer 49 (.slice A0_0 a0.l.length c0_0) a0.l]) mixed ?_
  intro w17 hw18 E'
  replace S := S.heap hw18
  replace E := E.trans E'
  clear E'
  refine Wa_take (i := 0) rfl (by kernel_rfl) rfl rfl (.pointer (some ⟨b13, 0, none⟩)) rfl (fun w' h' => x_fieldAddr (o := 0) (off := 0) Tryd.underlying49 rfl ty5 rfl rfl) (⟨M, Hp.le_refl M, S.pick [0, 1, 2] (by decide)⟩) ?_
  refine Wa_take (i := 1) rfl (by kernel_rfl) rfl rfl (.int .u8 ((rd a0.l (IntKind.i64.wrap (a1 - (1 : Int)))).state)) rfl (fun w' h' => x_load (cls_blk h' 0 rfl) ty5 rfl rfl) (⟨M, Hp.le_refl M, S.pick [0, 1, 2] (by decide)⟩) ?_
  refine Wa_take (i := 2) rfl (by kernel_rfl) rfl rfl (.pointer (some ⟨b13, 1, none⟩)) rfl (fun w' h' => x_fieldAddr (o := 0) (off := 1) Tryd.underlying49 rfl ty3 rfl rfl) (⟨M, Hp.le_refl M, S.pick [0, 1, 2] (by decide)⟩) ?_
  refine Wa_take (i := 3) rfl (by kernel_rfl) rfl rfl (.int .i64 ((rd a0.l (IntKind.i64.wrap (a1 - (1 : Int)))).ts)) rfl (fun w' h' => x_load (cls_blk h' 0 rfl) ty3 rfl rfl) (⟨M, Hp.le_refl M, S.pick [0, 1, 2] (by decide)⟩) ?_
  refine Wa_take (i := 4) rfl (by kernel_rfl) rfl rfl (.int .u8 ((rd a0.l (IntKind.i64.wrap (a1 - (1 : Int)))).state)) rfl (fun w' h' => x_assign rfl) (⟨M, Hp.le_refl M, S.pick [0, 1, 2] (by decide)⟩) ?_
  refine Wa_take (i := 5) rfl (by kernel_rfl) rfl rfl (.int .i64 ((rd a0.l (IntKind.i64.wrap (a1 - (1 : Int)))).ts)) rfl (fun w' h' => x_assign rfl) (⟨M, Hp.le_refl M, S.pick [0, 1, 2] (by decide)⟩) ?_
  refine Wa_done (by kernel_rfl) ?_
  refine tn ?_
  refine Wp_ret ?_
  obtain rfl := Option.some.inj H
  exact ⟨_, _, _, fun w1 e1 => run_resR (vs := [.int .u8 ((rd a0.l (IntKind.i64.wrap (a1 - (1 : Int)))).state), .int .i64 ((rd a0.l (IntKind.i64.wrap (a1 - (1 : Int)))).ts)]) (FA.cons (rfl) (FA.cons (rfl) (FA.nil))), HM, E, S.pick [1, 2] (by decide), ⟨rfl, rfl⟩⟩
/-! ### ferryman/ferrymanlaw08.is: function 20 -/
def ferrymanlaw08_is_PO (k : Nat) (a0 : status_Writers) (a1 : Int) (a2 : Int) (a3 : Int) : Option (Bool) :=
  (Option.bind (status_Writers_Of_PO k a0 a1) (fun t1 => some (((IntKind.i64.wrap t1.1) == a2) && (t1.2 == a3))))
set_option maxHeartbeats 2000000 in
theorem ferrymanlaw08_is_PO.mono {k : Nat} {a0 : status_Writers} {a1 : Int} {a2 : Int} {a3 : Int} : OLe (ferrymanlaw08_is_PO k a0 a1 a2 a3) (ferrymanlaw08_is_PO (k + 1) a0 a1 a2 a3) := by
  unfold ferrymanlaw08_is_PO
  repeat' (first | with_reducible exact OLe.none | with_reducible exact OLe.some | with_reducible refine OLe.ite ?_ ?_ | with_reducible refine OLe.bind ?_ (fun _ => ?_) | with_reducible exact status_Writers_Of_PO.mono | refine OLe.bind ?_ (fun _ => ?_) | refine OLe.ite ?_ ?_ | refine OLe.elim (fun _ => ?_) (fun _ => ?_) | split)
set_option maxHeartbeats 1000000 in
set_option maxRecDepth 100000 in
theorem ferrymanlaw08_is_PO.con (k : Nat) (M : Hp) (A0_0 : Option Addr) (c0_0 : Nat) (a0 : status_Writers) (a1 : Int) (a2 : Int) (a3 : Int) (bo0 : Nat) (r : Bool)  (hg0 : ∃ gt fr, M 0 = some (.cells #[.int .u8 0, .int .u8 0, .int .u8 1, .int .u8 1, .int .u8 2] gt fr)) (h : ferrymanlaw08_is_PO k a0 a1 a2 a3 = some r) : Con Tryd.prog 20 #[.pointer (some ⟨bo0, 0, none⟩), .int .i64 a1, .int .i64 a2, .int .i64 a3] M [Blk bo0 (.cells #[.slice A0_0 a0.l.length c0_0, .int .i64 a0.last] 47 (0, 0)), Row r_status_writer 49 (.slice A0_0 a0.l.length c0_0) a0.l] (fun v M' Γ' => v = .bool r ∧ Γ' = [Blk bo0 (.cells #[.slice A0_0 a0.l.length c0_0, .int .i64 a0.last] 47 (0, 0)), Row r_status_writer 49 (.slice A0_0 a0.l.length c0_0) a0.l]) := by
  refine con_of_wp Tryd.func20 rfl Tryd.ntmps20 Tryd.results20 rfl ?_
  intro w F rn S hrn
  have E := Ext.refl w
  have HM := Hp.le_refl M
  have H := h
  unfold ferrymanlaw08_is_PO at H
  refine Wp_seq ?_
  refine Wp_region_lit ?_
  refine W_v (.bool false) (x_assign rfl) rfl ?_
  refine Wl_nil ?_
  refine tn ?_
  refine Wp_seq ?_
  refine Wp_region_lit ?_
  refine W_v (.pointer (some ⟨bo0, 0, none⟩)) (x_move rfl) rfl ?_
  refine W_v (.int .i64 a1) (x_move rfl) rfl ?_
  obtain ⟨t1, ht2, H⟩ := bindS H
  refine W_callF2 fn12 (status_Writers_Of_PO.con k M A0_0 c0_0 a0 a1 bo0 t1 hg0 ht2) (Γ1 := [Blk bo0 (.cells #[.slice A0_0 a0.l.length c0_0, .int .i64 a0.last] 47 (0, 0)), Row r_status_writer 49 (.slice A0_0 a0.l.length c0_0) a0.l]) (Γ2 := []) S rfl rfl (by rintro _ _ _ ⟨rfl, rfl⟩; exact (flat_cons flat_blk (flat_cons (flat_row (fun _ _ _ _ h => h)) flat_nil))) ?_
  rintro _ w3 _ Γ' E' S ⟨rfl, rfl⟩
  replace E := E.trans E'
  clear E'
  replace S : St w3 M F [Blk bo0 (.cells #[.slice A0_0 a0.l.length c0_0, .int .i64 a0.last] 47 (0, 0)), Row r_status_writer 49 (.slice A0_0 a0.l.length c0_0) a0.l] := S
  refine W_v (.tuple #[.int .u8 t1.1, .int .i64 t1.2]) (x_move rfl) rfl ?_
  refine W_v (.int .u8 t1.1) (x_extract rfl rfl) rfl ?_
  refine W_v (.int .i64 t1.2) (x_extract rfl rfl) rfl ?_
  refine W_v (.int .u8 t1.1) (x_assign rfl) rfl ?_
  refine W_v (.int .i64 t1.2) (x_assign rfl) rfl ?_
  refine Wl_nil ?_
  refine tn ?_
  refine Wp_seq ?_
  refine Wp_region_lit ?_
  refine W_v (.int .u8 t1.1) (x_move rfl) rfl ?_
  refine W_v (.int .i64 (IntKind.i64.wrap t1.1)) (x_conv_int Tryd.underlying5 Tryd.underlying3 rfl) rfl ?_
  refine W_v (.int .i64 a2) (x_move rfl) rfl ?_
  refine W_v (.bool ((IntKind.i64.wrap t1.1) == a2)) (x_ibin rfl rfl rfl rfl) rfl ?_
  refine W_v (.bool ((IntKind.i64.wrap t1.1) == a2)) (x_move rfl) rfl ?_
  refine Wl_cutN 4 (fun ρ w' => Agree ρ [(25, .bool (((IntKind.i64.wrap t1.1) == a2) && (t1.2 == a3)))] ∧ w3 = w') ?_ ?_
  · rcases boolCases ((IntKind.i64.wrap t1.1) == a2) with hb6 | hb6
    · skip
      refine W_no (skT hb6) rfl ?_
      refine W_no (skT hb6) rfl ?_
      refine W_no (skT hb6) rfl ?_
      refine W_v (.bool false) (x_pick (k := false) (congrArg Value.bool hb6) rfl) rfl ?_
      refine Wl_nil ?_
      exact ⟨⟨(by first | rfl | (rw [hb6]; rfl) | (simp only [hb6]; rfl)), trivial⟩, rfl⟩
    · skip
      refine W_yes (congrArg some hb6) ?_
      refine W_v (.int .i64 t1.2) (x_move rfl) rfl ?_
      refine W_yes (congrArg some hb6) ?_
      refine W_v (.int .i64 a3) (x_move rfl) rfl ?_
      refine W_yes (congrArg some hb6) ?_
      refine W_v (.bool (t1.2 == a3)) (x_ibin rfl rfl rfl rfl) rfl ?_
      refine W_v (.bool (t1.2 == a3)) (x_pick (k := true) (congrArg Value.bool hb6) rfl) rfl ?_
      refine Wl_nil ?_
      exact ⟨⟨(by first | rfl | (rw [hb6]; rfl) | (simp only [hb6]; rfl)), trivial⟩, rfl⟩
  rintro ρ _ ⟨hρ, rfl⟩
  rw [agree_eta hρ]
  clear hρ
  refine W_v (.bool (((IntKind.i64.wrap t1.1) == a2) && (t1.2 == a3))) (x_assign rfl) rfl ?_
  refine Wl_nil ?_
  refine tn ?_
  refine Wp_ret ?_
  obtain rfl := Option.some.inj H
  exact ⟨_, _, _, fun w1 e1 => run_resR (vs := [.bool (((IntKind.i64.wrap t1.1) == a2) && (t1.2 == a3))]) (FA.cons (rfl) (FA.nil)), HM, E, S.pick [0, 1] (by decide), ⟨rfl, rfl⟩⟩
/-! ### (*ferryman/status.Writers).High: function 10 -/
def status_Writers_High_PO (k : Nat) (a0 : status_Writers) : Option (Int) :=
  some (IntKind.i64.wrap ((a0.l.length : Int) + (1 : Int)))
set_option maxHeartbeats 2000000 in
theorem status_Writers_High_PO.mono {k : Nat} {a0 : status_Writers} : OLe (status_Writers_High_PO k a0) (status_Writers_High_PO (k + 1) a0) := by
  unfold status_Writers_High_PO
  repeat' (first | with_reducible exact OLe.none | with_reducible exact OLe.some | with_reducible refine OLe.ite ?_ ?_ | with_reducible refine OLe.bind ?_ (fun _ => ?_) | refine OLe.bind ?_ (fun _ => ?_) | refine OLe.ite ?_ ?_ | refine OLe.elim (fun _ => ?_) (fun _ => ?_) | split)
set_option maxHeartbeats 1000000 in
set_option maxRecDepth 100000 in
theorem status_Writers_High_PO.con (k : Nat) (M : Hp) (A0_0 : Option Addr) (c0_0 : Nat) (a0 : status_Writers) (bo0 : Nat) (r : Int)  (hg0 : ∃ gt fr, M 0 = some (.cells #[.int .u8 0, .int .u8 0, .int .u8 1, .int .u8 1, .int .u8 2] gt fr)) (h : status_Writers_High_PO k a0 = some r) : Con Tryd.prog 10 #[.pointer (some ⟨bo0, 0, none⟩)] M [Blk bo0 (.cells #[.slice A0_0 a0.l.length c0_0, .int .i64 a0.last] 47 (0, 0)), Row r_status_writer 49 (.slice A0_0 a0.l.length c0_0) a0.l] (fun v M' Γ' => v = .int .i64 r ∧ Γ' = [Blk bo0 (.cells #[.slice A0_0 a0.l.length c0_0, .int .i64 a0.last] 47 (0, 0)), Row r_status_writer 49 (.slice A0_0 a0.l.length c0_0) a0.l]) := by
  refine con_of_wp Tryd.func10 rfl Tryd.ntmps10 Tryd.results10 rfl ?_
  intro w F rn S hrn
  have E := Ext.refl w
  have HM := Hp.le_refl M
  have H := h
  unfold status_Writers_High_PO at H
  refine Wp_seq ?_
  refine Wp_region_lit ?_
  refine W_v (.int .i64 0) (x_assign rfl) rfl ?_
  refine Wl_nil ?_
  refine tn ?_
  refine Wp_seq ?_
  refine Wp_seq ?_
  refine Wp_region_lit ?_
  refine W_v (.pointer (some ⟨bo0, 0, none⟩)) (x_move rfl) rfl ?_
  refine W_v (.bool false) (x_eq_of (r := false) rfl rfl (run_eq_ptrsn Tryd.underlying24)) rfl ?_
  refine Wl_nil ?_
  refine tn ?_
  refine Wp_cond_false rfl ?_
  refine Wp_skip ?_
  refine tn ?_
  refine Wp_seq ?_
  refine Wp_region_lit ?_
  refine W_v (.pointer (some ⟨bo0, 0, none⟩)) (x_move rfl) rfl ?_
  refine W_v (.pointer (some ⟨bo0, 0, none⟩)) (x_nilptr rfl) rfl ?_
  refine W_v (.pointer (some ⟨bo0, 0, none⟩)) (x_fieldAddr (o := 0) (off := 0) Tryd.underlying47 rfl ty45 rfl rfl) rfl ?_
  refine W_v (.slice A0_0 a0.l.length c0_0) (x_load (S.blk 0 rfl) ty45 rfl rfl) rfl ?_
  refine W_v (.int .i64 (a0.l.length : Int)) (x_len_slice (n := a0.l.length) Tryd.underlying45 rfl) rfl ?_
  refine W_v (.int .i64 (IntKind.i64.wrap ((a0.l.length : Int) + (1 : Int)))) (x_ibin rfl rfl rfl rfl) rfl ?_
  refine W_v (.int .i64 (IntKind.i64.wrap ((a0.l.length : Int) + (1 : Int)))) (x_assign rfl) rfl ?_
  refine Wl_nil ?_
  refine tn ?_
  refine Wp_ret ?_
  obtain rfl := Option.some.inj H
  exact ⟨_, _, _, fun w1 e1 => run_resR (vs := [.int .i64 (IntKind.i64.wrap ((a0.l.length : Int) + (1 : Int)))]) (FA.cons (rfl) (FA.nil)), HM, E, S.pick [0, 1] (by decide), ⟨rfl, rfl⟩⟩
/-! ### (*ferryman/status.Writers).Last: function 21 -/
def status_Writers_Last_PO (k : Nat) (a0 : status_Writers) : Option (Int) :=
  some a0.last
set_option maxHeartbeats 2000000 in
theorem status_Writers_Last_PO.mono {k : Nat} {a0 : status_Writers} : OLe (status_Writers_Last_PO k a0) (status_Writers_Last_PO (k + 1) a0) := by
  unfold status_Writers_Last_PO
  repeat' (first | with_reducible exact OLe.none | with_reducible exact OLe.some | with_reducible refine OLe.ite ?_ ?_ | with_reducible refine OLe.bind ?_ (fun _ => ?_) | refine OLe.bind ?_ (fun _ => ?_) | refine OLe.ite ?_ ?_ | refine OLe.elim (fun _ => ?_) (fun _ => ?_) | split)
set_option maxHeartbeats 1000000 in
set_option maxRecDepth 100000 in
theorem status_Writers_Last_PO.con (k : Nat) (M : Hp) (A0_0 : Option Addr) (c0_0 : Nat) (a0 : status_Writers) (bo0 : Nat) (r : Int)  (hg0 : ∃ gt fr, M 0 = some (.cells #[.int .u8 0, .int .u8 0, .int .u8 1, .int .u8 1, .int .u8 2] gt fr)) (h : status_Writers_Last_PO k a0 = some r) : Con Tryd.prog 21 #[.pointer (some ⟨bo0, 0, none⟩)] M [Blk bo0 (.cells #[.slice A0_0 a0.l.length c0_0, .int .i64 a0.last] 47 (0, 0)), Row r_status_writer 49 (.slice A0_0 a0.l.length c0_0) a0.l] (fun v M' Γ' => v = .int .i64 r ∧ Γ' = [Blk bo0 (.cells #[.slice A0_0 a0.l.length c0_0, .int .i64 a0.last] 47 (0, 0)), Row r_status_writer 49 (.slice A0_0 a0.l.length c0_0) a0.l]) := by
  refine con_of_wp Tryd.func21 rfl Tryd.ntmps21 Tryd.results21 rfl ?_
  intro w F rn S hrn
  have E := Ext.refl w
  have HM := Hp.le_refl M
  have H := h
  unfold status_Writers_Last_PO at H
  refine Wp_seq ?_
  refine Wp_region_lit ?_
  refine W_v (.int .i64 0) (x_assign rfl) rfl ?_
  refine Wl_nil ?_
  refine tn ?_
  refine Wp_seq ?_
  refine Wp_seq ?_
  refine Wp_region_lit ?_
  refine W_v (.pointer (some ⟨bo0, 0, none⟩)) (x_move rfl) rfl ?_
  refine W_v (.bool false) (x_eq_of (r := false) rfl rfl (run_eq_ptrsn Tryd.underlying24)) rfl ?_
  refine Wl_nil ?_
  refine tn ?_
  refine Wp_cond_false rfl ?_
  refine Wp_skip ?_
  refine tn ?_
  refine Wp_seq ?_
  refine Wp_region_lit ?_
  refine W_v (.pointer (some ⟨bo0, 0, none⟩)) (x_move rfl) rfl ?_
  refine W_v (.pointer (some ⟨bo0, 0, none⟩)) (x_nilptr rfl) rfl ?_
  refine W_v (.pointer (some ⟨bo0, 1, none⟩)) (x_fieldAddr (o := 0) (off := 1) Tryd.underlying47 rfl ty3 rfl rfl) rfl ?_
  refine W_v (.int .i64 a0.last) (x_load (S.blk 0 rfl) ty3 rfl rfl) rfl ?_
  refine W_v (.int .i64 a0.last) (x_assign rfl) rfl ?_
  refine Wl_nil ?_
  refine tn ?_
  refine Wp_ret ?_
  obtain rfl := Option.some.inj H
  exact ⟨_, _, _, fun w1 e1 => run_resR (vs := [.int .i64 a0.last]) (FA.cons (rfl) (FA.nil)), HM, E, S.pick [0, 1] (by decide), ⟨rfl, rfl⟩⟩
/-! ### ferryman/ferrymanlaw08.works: function 8 -/
def ferrymanlaw08_works (k : Nat)  : Option (Bool) :=
  (Option.bind (status_New k ) (fun t1 => (Option.bind (status_Writers_Begin_PO k t1) (fun t11 => (Option.bind (α := Bool × List status_writer × Int) (if (t11.1 != (1 : Int)) = true then some (true, t11.2.l, t11.2.last) else (Option.bind (status_Writers_Begin_PO k t11.2) (fun t43 => some ((t43.1 != (2 : Int)), t43.2.l, t43.2.last)))) (fun ⟨x36, x37, x41⟩ => (Option.bind (α := Bool × List status_writer × Int) (if x36 = true then some (true, x37, x41) else (Option.bind (status_Writers_Commit_PO k (⟨x37, x41⟩ : status_Writers) (1 : Int) (5 : Int)) (fun t76 => some ((t76.1 != (0 : Int)), t76.2.l, t76.2.last)))) (fun ⟨x69, x70, x74⟩ => (Option.bind (α := Bool × List status_writer × Int) (if x69 = true then some (true, x70, x74) else (Option.bind (status_Writers_Commit_PO k (⟨x70, x74⟩ : status_Writers) (1 : Int) (6 : Int)) (fun t109 => some ((t109.1 != (7 : Int)), t109.2.l, t109.2.last)))) (fun ⟨x102, x103, x107⟩ => (Option.bind (α := Bool × List status_writer × Int) (if x102 = true then some (true, x103, x107) else (Option.bind (status_Writers_Commit_PO k (⟨x103, x107⟩ : status_Writers) (2 : Int) (5 : Int)) (fun t142 => some ((t142.1 != (1 : Int)), t142.2.l, t142.2.last)))) (fun ⟨x135, x136, x140⟩ => (Option.bind (α := Bool × List status_writer × Int) (if x135 = true then some (true, x136, x140) else (Option.bind (status_Writers_Fall_PO k (⟨x136, x140⟩ : status_Writers) (2 : Int)) (fun t175 => some ((t175.1 != (0 : Int)), t175.2.l, t175.2.last)))) (fun ⟨x168, x169, x173⟩ => (Option.bind (α := Bool) (if x168 = true then some (true) else (Option.bind (status_Writers_Busy_PO k (⟨x169, x173⟩ : status_Writers)) (fun t215 => (Option.bind (ferrymanref08_Ints k t215 ([(2 : Int)] : List Int)) (fun t226 => some ((!t226))))))) (fun x213 => (Option.bind (α := Bool) (if x213 = true then some (true) else (Option.bind (status_Writers_Active_PO k (⟨x169, x173⟩ : status_Writers)) (fun t243 => some ((t243 != (0 : Int)))))) (fun x241 => (Option.bind (α := Bool × List status_writer × Int) (if x241 = true then some (true, x169, x173) else (Option.bind (status_Writers_Commit_PO k (⟨x169, x173⟩ : status_Writers) (2 : Int) (6 : Int)) (fun t273 => some ((t273.1 != (7 : Int)), t273.2.l, t273.2.last)))) (fun ⟨x266, x267, x271⟩ => (Option.bind (α := Bool × List status_writer × Int) (if x266 = true then some (true, x267, x271) else (Option.bind (status_Writers_Fallen_PO k (⟨x267, x271⟩ : status_Writers) (2 : Int)) (fun t306 => some ((t306.1 != (0 : Int)), t306.2.l, t306.2.last)))) (fun ⟨x299, x300, x304⟩ => (if x299 = true then some false else (Option.bind (status_Writers_Busy_PO k (⟨x300, x304⟩ : status_Writers)) (fun t316 => (Option.bind (α := Bool) (if ((t316.length : Int) == (0 : Int)) = true then (Option.bind (ferrymanlaw08_is_PO k (⟨x300, x304⟩ : status_Writers) (1 : Int) (3 : Int) (5 : Int)) (fun t337 => some (t337))) else some (false)) (fun x335 => (Option.bind (α := Bool) (if x335 = true then (Option.bind (ferrymanlaw08_is_PO k (⟨x300, x304⟩ : status_Writers) (2 : Int) (4 : Int) (0 : Int)) (fun t356 => some (t356))) else some (false)) (fun x354 => (Option.bind (α := Bool) (if x354 = true then (Option.bind (ferrymanlaw08_is_PO k (⟨x300, x304⟩ : status_Writers) (3 : Int) (0 : Int) (0 : Int)) (fun t375 => some (t375))) else some (false)) (fun x373 => (Option.bind (α := Bool) (if x373 = true then (Option.bind (status_Writers_High_PO k (⟨x300, x304⟩ : status_Writers)) (fun t394 => some ((t394 == (3 : Int))))) else some (false)) (fun x392 => (Option.bind (α := Bool) (if x392 = true then (Option.bind (status_Writers_Last_PO k (⟨x300, x304⟩ : status_Writers)) (fun t413 => some ((t413 == (5 : Int))))) else some (false)) (fun x411 => some x411)))))))))))))))))))))))))))))))))))
set_option maxHeartbeats 2000000 in
theorem ferrymanlaw08_works.mono {k : Nat}  : OLe (ferrymanlaw08_works k ) (ferrymanlaw08_works (k + 1) ) := by
  unfold ferrymanlaw08_works
  repeat' (first | with_reducible exact OLe.none | with_reducible exact OLe.some | with_reducible refine OLe.ite ?_ ?_ | with_reducible refine OLe.bind ?_ (fun _ => ?_) | with_reducible exact ferrymanlaw08_is_PO.mono | with_reducible exact ferrymanref08_Ints.mono | with_reducible exact status_New.mono | with_reducible exact status_Writers_Active_PO.mono | with_reducible exact status_Writers_Begin_PO.mono | with_reducible exact status_Writers_Busy_PO.mono | with_reducible exact status_Writers_Commit_PO.mono | with_reducible exact status_Writers_Fall_PO.mono | with_reducible exact status_Writers_Fallen_PO.mono | with_reducible exact status_Writers_High_PO.mono | with_reducible exact status_Writers_Last_PO.mono | refine OLe.bind ?_ (fun _ => ?_) | refine OLe.ite ?_ ?_ | refine OLe.elim (fun _ => ?_) (fun _ => ?_) | split)
set_option maxHeartbeats 1000000 in
set_option maxRecDepth 100000 in
theorem ferrymanlaw08_works.con (k : Nat) (M : Hp)  (r : Bool)  (hg0 : ∃ gt fr, M 0 = some (.cells #[.int .u8 0, .int .u8 0, .int .u8 1, .int .u8 1, .int .u8 2] gt fr)) (h : ferrymanlaw08_works k  = some r) : Con Tryd.prog 8 #[] M [] (fun v M' Γ' => v = .bool r ∧ Γ' = []) := by
  refine con_of_wp Tryd.func8 rfl Tryd.ntmps8 Tryd.results8 rfl ?_
  intro w F rn S hrn
  have E := Ext.refl w
  have HM := Hp.le_refl M
  have H := h
  unfold ferrymanlaw08_works at H
  refine Wp_seq ?_
  refine Wp_region_lit ?_
  refine W_v (.bool false) (x_assign rfl) rfl ?_
  refine Wl_nil ?_
  refine tn ?_
  refine Wp_seq ?_
  refine Wp_region_lit ?_
  obtain ⟨t1, ht2, H⟩ := bindS H
  refine W_callF2 fn9 (status_New.con k M  t1 hg0 ht2) (Γ1 := []) (Γ2 := []) S rfl rfl (by rintro _ _ _ ⟨_, _, _, rfl, rfl⟩; exact (flat_cons flat_blk (flat_cons (flat_row (fun _ _ _ _ h => h)) flat_nil))) ?_
  rintro _ w8 _ Γ' E' S ⟨b3, A5, c6, rfl, rfl⟩
  replace E := E.trans E'
  clear E'
  replace S : St w8 M F [Blk b3 (.cells #[.slice A5 t1.l.length c6, .int .i64 t1.last] 47 (0, 0)), Row r_status_writer 49 (.slice A5 t1.l.length c6) t1.l] := S
  refine W_v (.pointer (some ⟨b3, 0, none⟩)) (x_assign rfl) rfl ?_
  refine Wl_nil ?_
  refine tn ?_
  refine Wp_seq ?_
  refine Wp_seq ?_
  refine Wp_region_lit ?_
  refine W_v (.pointer (some ⟨b3, 0, none⟩)) (x_move rfl) rfl ?_
  obtain ⟨t11, ht12, H⟩ := bindS H
  refine W_callF2 fn16 (status_Writers_Begin_PO.con k M A5 c6 t1 b3 t11 hg0 ht12) (Γ1 := [Blk b3 (.cells #[.slice A5 t1.l.length c6, .int .i64 t1.last] 47 (0, 0)), Row r_status_writer 49 (.slice A5 t1.l.length c6) t1.l]) (Γ2 := []) S rfl rfl (by rintro _ _ _ ⟨_, _, rfl, rfl⟩; exact (flat_cons flat_blk (flat_cons (flat_row (fun _ _ _ _ h => h)) flat_nil))) ?_
  rintro _ w16 _ Γ' E' S ⟨A13, c14, rfl, rfl⟩
  replace E := E.trans E'
  clear E'
  replace S : St w16 M F [Blk b3 (.cells #[.slice A13 t11.2.l.length c14, .int .i64 t11.2.last] 47 (0, 0)), Row r_status_writer 49 (.slice A13 t11.2.l.length c14) t11.2.l] := S
  refine W_v (.bool (t11.1 != (1 : Int))) (x_ibin rfl rfl rfl rfl) rfl ?_
  refine W_v (.bool (t11.1 != (1 : Int))) (x_move rfl) rfl ?_
  obtain ⟨o42, o42h, o42H⟩ := bindS H
  clear H
  refine Wl_cutN 4 (fun ρ w' => ∃ (x36 : Bool) (x37 : List status_writer) (x41 : Int) (A38 : Option Addr) (c39 : Nat), (x36, x37, x41) = o42 ∧ Agree ρ [(1, .pointer (some ⟨b3, 0, none⟩)), (10, .bool x36)] ∧ Ext w w' ∧ St w' M F [Row r_status_writer 49 (.slice A38 x37.length c39) x37, Blk b3 (.cells #[.slice A38 x37.length c39, .int .i64 x41] 47 (0, 0))]) ?_ ?_
  · have H := o42h
    rcases iteS H with ⟨hb35, H⟩ | ⟨hb35, H⟩
    · skip
      refine W_no (skF hb35) rfl ?_
      refine W_no (skF hb35) rfl ?_
      refine W_no (skF hb35) rfl ?_
      refine W_v (.bool true) (x_pick (k := true) (congrArg Value.bool hb35) rfl) rfl ?_
      refine Wl_nil ?_
      exact ⟨true, t11.2.l, t11.2.last, A13, c14, Option.some.inj H, ⟨rfl, rfl, trivial⟩, E, S.pick [1, 0] (by decide)⟩
    · skip
      refine W_yes (congrArg some hb35) ?_
      refine W_v (.pointer (some ⟨b3, 0, none⟩)) (x_move rfl) rfl ?_
      refine W_yes (congrArg some hb35) ?_
      obtain ⟨t43, ht44, H⟩ := bindS H
      refine W_callF2 fn16 (status_Writers_Begin_PO.con k M A13 c14 t11.2 b3 t43 hg0 ht44) (Γ1 := [Blk b3 (.cells #[.slice A13 t11.2.l.length c14, .int .i64 t11.2.last] 47 (0, 0)), Row r_status_writer 49 (.slice A13 t11.2.l.length c14) t11.2.l]) (Γ2 := []) S rfl rfl (by rintro _ _ _ ⟨_, _, rfl, rfl⟩; exact (flat_cons flat_blk (flat_cons (flat_row (fun _ _ _ _ h => h)) flat_nil))) ?_
      rintro _ w48 _ Γ' E' S ⟨A45, c46, rfl, rfl⟩
      replace E := E.trans E'
      clear E'
      replace S : St w48 M F [Blk b3 (.cells #[.slice A45 t43.2.l.length c46, .int .i64 t43.2.last] 47 (0, 0)), Row r_status_writer 49 (.slice A45 t43.2.l.length c46) t43.2.l] := S
      refine W_yes (congrArg some hb35) ?_
      refine W_v (.bool (t43.1 != (2 : Int))) (x_ibin rfl rfl rfl rfl) rfl ?_
      refine W_v (.bool (t43.1 != (2 : Int))) (x_pick (k := false) (congrArg Value.bool hb35) rfl) rfl ?_
      refine Wl_nil ?_
      exact ⟨(t43.1 != (2 : Int)), t43.2.l, t43.2.last, A45, c46, Option.some.inj H, ⟨rfl, rfl, trivial⟩, E, S.pick [1, 0] (by decide)⟩
  clear o42h
  rintro ρ w51 ⟨x36, x37, x41, A38, c39, rfl, hρ, E, S⟩
  rw [agree_eta hρ]
  clear hρ
  have H := o42H
  clear o42H
  refine W_v (.bool x36) (x_move rfl) rfl ?_
  obtain ⟨o75, o75h, o75H⟩ := bindS H
  clear H
  refine Wl_cutN 4 (fun ρ w' => ∃ (x69 : Bool) (x70 : List status_writer) (x74 : Int) (A71 : Option Addr) (c72 : Nat), (x69, x70, x74) = o75 ∧ Agree ρ [(1, .pointer (some ⟨b3, 0, none⟩)), (15, .bool x69)] ∧ Ext w w' ∧ St w' M F [Row r_status_writer 49 (.slice A71 x70.length c72) x70, Blk b3 (.cells #[.slice A71 x70.length c72, .int .i64 x74] 47 (0, 0))]) ?_ ?_
  · have H := o75h
    rcases iteS H with ⟨hb68, H⟩ | ⟨hb68, H⟩
    · skip
      refine W_no (skF hb68) rfl ?_
      refine W_no (skF hb68) rfl ?_
      refine W_no (skF hb68) rfl ?_
      refine W_v (.bool true) (x_pick (k := true) (congrArg Value.bool hb68) rfl) rfl ?_
      refine Wl_nil ?_
      exact ⟨true, x37, x41, A38, c39, Option.some.inj H, ⟨rfl, rfl, trivial⟩, E, S.pick [0, 1] (by decide)⟩
    · skip
      refine W_yes (congrArg some hb68) ?_
      refine W_v (.pointer (some ⟨b3, 0, none⟩)) (x_move rfl) rfl ?_
      refine W_yes (congrArg some hb68) ?_
      obtain ⟨t76, ht77, H⟩ := bindS H
      replace S : St w51 M F [Blk b3 (.cells #[.slice A38 x37.length c39, .int .i64 x41] 47 (0, 0)), Row r_status_writer 49 (.slice A38 x37.length c39) x37] := S.pick [1, 0] (by decide)
      refine W_callF2 fn17 (status_Writers_Commit_PO.con k M A38 c39 (⟨x37, x41⟩ : status_Writers) (1 : Int) (5 : Int) b3 t76 hg0 ht77) (Γ1 := [Blk b3 (.cells #[.slice A38 x37.length c39, .int .i64 x41] 47 (0, 0)), Row r_status_writer 49 (.slice A38 x37.length c39) x37]) (Γ2 := []) S rfl rfl (by rintro _ _ _ ⟨_, _, rfl, rfl⟩; exact (flat_cons flat_blk (flat_cons (flat_row (fun _ _ _ _ h => h)) flat_nil))) ?_
      rintro _ w81 _ Γ' E' S ⟨A78, c79, rfl, rfl⟩
      replace E := E.trans E'
      clear E'
      replace S : St w81 M F [Blk b3 (.cells #[.slice A78 t76.2.l.length c79, .int .i64 t76.2.last] 47 (0, 0)), Row r_status_writer 49 (.slice A78 t76.2.l.length c79) t76.2.l] := S
      refine W_yes (congrArg some hb68) ?_
      refine W_v (.bool (t76.1 != (0 : Int))) (x_ibin rfl rfl rfl rfl) rfl ?_
      refine W_v (.bool (t76.1 != (0 : Int))) (x_pick (k := false) (congrArg Value.bool hb68) rfl) rfl ?_
      refine Wl_nil ?_
      exact ⟨(t76.1 != (0 : Int)), t76.2.l, t76.2.last, A78, c79, Option.some.inj H, ⟨rfl, rfl, trivial⟩, E, S.pick [1, 0] (by decide)⟩
  clear o75h
  rintro ρ w84 ⟨x69, x70, x74, A71, c72, rfl, hρ, E, S⟩
  rw [agree_eta hρ]
  clear hρ
  have H := o75H
  clear o75H
  refine W_v (.bool x69) (x_move rfl) rfl ?_
  obtain ⟨o108, o108h, o108H⟩ := bindS H
  clear H
  refine Wl_cutN 4 (fun ρ w' => ∃ (x102 : Bool) (x103 : List status_writer) (x107 : Int) (A104 : Option Addr) (c105 : Nat), (x102, x103, x107) = o108 ∧ Agree ρ [(1, .pointer (some ⟨b3, 0, none⟩)), (20, .bool x102)] ∧ Ext w w' ∧ St w' M F [Row r_status_writer 49 (.slice A104 x103.length c105) x103, Blk b3 (.cells #[.slice A104 x103.length c105, .int .i64 x107] 47 (0, 0))]) ?_ ?_
  · have H := o108h
    rcases iteS H with ⟨hb101, H⟩ | ⟨hb101, H⟩
    · skip
      refine W_no (skF hb101) rfl ?_
      refine W_no (skF hb101) rfl ?_
      refine W_no (skF hb101) rfl ?_
      refine W_v (.bool true) (x_pick (k := true) (congrArg Value.bool hb101) rfl) rfl ?_
      refine Wl_nil ?_
      exact ⟨true, x70, x74, A71, c72, Option.some.inj H, ⟨rfl, rfl, trivial⟩, E, S.pick [0, 1] (by decide)⟩
    · skip
      refine W_yes (congrArg some hb101) ?_
      refine W_v (.pointer (some ⟨b3, 0, none⟩)) (x_move rfl) rfl ?_
      refine W_yes (congrArg some hb101) ?_
      obtain ⟨t109, ht110, H⟩ := bindS H
      replace S : St w84 M F [Blk b3 (.cells #[.slice A71 x70.length c72, .int .i64 x74] 47 (0, 0)), Row r_status_writer 49 (.slice A71 x70.length c72) x70] := S.pick [1, 0] (by decide)
      refine W_callF2 fn17 (status_Writers_Commit_PO.con k M A71 c72 (⟨x70, x74⟩ : status_Writers) (1 : Int) (6 : Int) b3 t109 hg0 ht110) (Γ1 := [Blk b3 (.cells #[.slice A71 x70.length c72, .int .i64 x74] 47 (0, 0)), Row r_status_writer 49 (.slice A71 x70.length c72) x70]) (Γ2 := []) S rfl rfl (by rintro _ _ _ ⟨_, _, rfl, rfl⟩; exact (flat_cons flat_blk (flat_cons (flat_row (fun _ _ _ _ h => h)) flat_nil))) ?_
      rintro _ w114 _ Γ' E' S ⟨A111, c112, rfl, rfl⟩
      replace E := E.trans E'
      clear E'
      replace S : St w114 M F [Blk b3 (.cells #[.slice A111 t109.2.l.length c112, .int .i64 t109.2.last] 47 (0, 0)), Row r_status_writer 49 (.slice A111 t109.2.l.length c112) t109.2.l] := S
      refine W_yes (congrArg some hb101) ?_
      refine W_v (.bool (t109.1 != (7 : Int))) (x_ibin rfl rfl rfl rfl) rfl ?_
      refine W_v (.bool (t109.1 != (7 : Int))) (x_pick (k := false) (congrArg Value.bool hb101) rfl) rfl ?_
      refine Wl_nil ?_
      exact ⟨(t109.1 != (7 : Int)), t109.2.l, t109.2.last, A111, c112, Option.some.inj H, ⟨rfl, rfl, trivial⟩, E, S.pick [1, 0] (by decide)⟩
  clear o108h
  rintro ρ w117 ⟨x102, x103, x107, A104, c105, rfl, hρ, E, S⟩
  rw [agree_eta hρ]
  clear hρ
  have H := o108H
  clear o108H
  refine W_v (.bool x102) (x_move rfl) rfl ?_
  obtain ⟨o141, o141h, o141H⟩ := bindS H
  clear H
  refine Wl_cutN 4 (fun ρ w' => ∃ (x135 : Bool) (x136 : List status_writer) (x140 : Int) (A137 : Option Addr) (c138 : Nat), (x135, x136, x140) = o141 ∧ Agree ρ [(1, .pointer (some ⟨b3, 0, none⟩)), (25, .bool x135)] ∧ Ext w w' ∧ St w' M F [Row r_status_writer 49 (.slice A137 x136.length c138) x136, Blk b3 (.cells #[.slice A137 x136.length c138, .int .i64 x140] 47 (0, 0))]) ?_ ?_
  · have H := o141h
    rcases iteS H with ⟨hb134, H⟩ | ⟨hb134, H⟩
    · skip
      refine W_no (skF hb134) rfl ?_
      refine W_no (skF hb134) rfl ?_
      refine W_no (skF hb134) rfl ?_
      refine W_v (.bool true) (x_pick (k := true) (congrArg Value.bool hb134) rfl) rfl ?_
      refine Wl_nil ?_
      exact ⟨true, x103, x107, A104, c105, Option.some.inj H, ⟨rfl, rfl, trivial⟩, E, S.pick [0, 1] (by decide)⟩
    · skip
      refine W_yes (congrArg some hb134) ?_
      refine W_v (.pointer (some ⟨b3, 0, none⟩)) (x_move rfl) rfl ?_
      refine W_yes (congrArg some hb134) ?_
      obtain ⟨t142, ht143, H⟩ := bindS H
      replace S : St w117 M F [Blk b3 (.cells #[.slice A104 x103.length c105, .int .i64 x107] 47 (0, 0)), Row r_status_writer 49 (.slice A104 x103.length c105) x103] := S.pick [1, 0] (by decide)
      refine W_callF2 fn17 (status_Writers_Commit_PO.con k M A104 c105 (⟨x103, x107⟩ : status_Writers) (2 : Int) (5 : Int) b3 t142 hg0 ht143) (Γ1 := [Blk b3 (.cells #[.slice A104 x103.length c105, .int .i64 x107] 47 (0, 0)), Row r_status_writer 49 (.slice A104 x103.length c105) x103]) (Γ2 := []) S rfl rfl (by rintro _ _ _ ⟨_, _, rfl, rfl⟩; exact (flat_cons flat_blk (flat_cons (flat_row (fun _ _ _ _ h => h)) flat_nil))) ?_
      rintro _ w147 _ Γ' E' S ⟨A144, c145, rfl, rfl⟩
      replace E := E.trans E'
      clear E'
      replace S : St w147 M F [Blk b3 (.cells #[.slice A144 t142.2.l.length c145, .int .i64 t142.2.last] 47 (0, 0)), Row r_status_writer 49 (.slice A144 t142.2.l.length c145) t142.2.l] := S
      refine W_yes (congrArg some hb134) ?_
      refine W_v (.bool (t142.1 != (1 : Int))) (x_ibin rfl rfl rfl rfl) rfl ?_
      refine W_v (.bool (t142.1 != (1 : Int))) (x_pick (k := false) (congrArg Value.bool hb134) rfl) rfl ?_
      refine Wl_nil ?_
      exact ⟨(t142.1 != (1 : Int)), t142.2.l, t142.2.last, A144, c145, Option.some.inj H, ⟨rfl, rfl, trivial⟩, E, S.pick [1, 0] (by decide)⟩
  clear o141h
  rintro ρ w150 ⟨x135, x136, x140, A137, c138, rfl, hρ, E, S⟩
  rw [agree_eta hρ]
  clear hρ
  have H := o141H
  clear o141H
  refine W_v (.bool x135) (x_move rfl) rfl ?_
  obtain ⟨o174, o174h, o174H⟩ := bindS H
  clear H
  refine Wl_cutN 4 (fun ρ w' => ∃ (x168 : Bool) (x169 : List status_writer) (x173 : Int) (A170 : Option Addr) (c171 : Nat), (x168, x169, x173) = o174 ∧ Agree ρ [(1, .pointer (some ⟨b3, 0, none⟩)), (30, .bool x168)] ∧ Ext w w' ∧ St w' M F [Row r_status_writer 49 (.slice A170 x169.length c171) x169, Blk b3 (.cells #[.slice A170 x169.length c171, .int .i64 x173] 47 (0, 0))]) ?_ ?_
  · have H := o174h
    rcases iteS H with ⟨hb167, H⟩ | ⟨hb167, H⟩
    · skip
      refine W_no (skF hb167) rfl ?_
      refine W_no (skF hb167) rfl ?_
      refine W_no (skF hb167) rfl ?_
      refine W_v (.bool true) (x_pick (k := true) (congrArg Value.bool hb167) rfl) rfl ?_
      refine Wl_nil ?_
      exact ⟨true, x136, x140, A137, c138, Option.some.inj H, ⟨rfl, rfl, trivial⟩, E, S.pick [0, 1] (by decide)⟩
    · skip
      refine W_yes (congrArg some hb167) ?_
      refine W_v (.pointer (some ⟨b3, 0, none⟩)) (x_move rfl) rfl ?_
      refine W_yes (congrArg some hb167) ?_
      obtain ⟨t175, ht176, H⟩ := bindS H
      replace S : St w150 M F [Blk b3 (.cells #[.slice A137 x136.length c138, .int .i64 x140] 47 (0, 0)), Row r_status_writer 49 (.slice A137 x136.length c138) x136] := S.pick [1, 0] (by decide)
      refine W_callF2 fn18 (status_Writers_Fall_PO.con k M A137 c138 (⟨x136, x140⟩ : status_Writers) (2 : Int) b3 t175 hg0 ht176) (Γ1 := [Blk b3 (.cells #[.slice A137 x136.length c138, .int .i64 x140] 47 (0, 0)), Row r_status_writer 49 (.slice A137 x136.length c138) x136]) (Γ2 := []) S rfl rfl (by rintro _ _ _ ⟨_, _, rfl, rfl⟩; exact (flat_cons flat_blk (flat_cons (flat_row (fun _ _ _ _ h => h)) flat_nil))) ?_
      rintro _ w180 _ Γ' E' S ⟨A177, c178, rfl, rfl⟩
      replace E := E.trans E'
      clear E'
      replace S : St w180 M F [Blk b3 (.cells #[.slice A177 t175.2.l.length c178, .int .i64 t175.2.last] 47 (0, 0)), Row r_status_writer 49 (.slice A177 t175.2.l.length c178) t175.2.l] := S
      refine W_yes (congrArg some hb167) ?_
      refine W_v (.bool (t175.1 != (0 : Int))) (x_ibin rfl rfl rfl rfl) rfl ?_
      refine W_v (.bool (t175.1 != (0 : Int))) (x_pick (k := false) (congrArg Value.bool hb167) rfl) rfl ?_
      refine Wl_nil ?_
      exact ⟨(t175.1 != (0 : Int)), t175.2.l, t175.2.last, A177, c178, Option.some.inj H, ⟨rfl, rfl, trivial⟩, E, S.pick [1, 0] (by decide)⟩
  clear o174h
  rintro ρ w183 ⟨x168, x169, x173, A170, c171, rfl, hρ, E, S⟩
  rw [agree_eta hρ]
  clear hρ
  have H := o174H
  clear o174H
  refine W_v (.bool x168) (x_move rfl) rfl ?_
  obtain ⟨o214, o214h, o214H⟩ := bindS H
  clear H
  refine Wl_cutN 6 (fun ρ w' => ∃ (x213 : Bool), (x213) = o214 ∧ Agree ρ [(1, .pointer (some ⟨b3, 0, none⟩)), (37, .bool x213)] ∧ Ext w w' ∧ St w' M F [Row r_status_writer 49 (.slice A170 x169.length c171) x169, Blk b3 (.cells #[.slice A170 x169.length c171, .int .i64 x173] 47 (0, 0))]) ?_ ?_
  · have H := o214h
    rcases iteS H with ⟨hb212, H⟩ | ⟨hb212, H⟩
    · skip
      refine W_no (skF hb212) rfl ?_
      refine W_no (skF hb212) rfl ?_
      refine W_no (skF hb212) rfl ?_
      refine W_no (skF hb212) rfl ?_
      refine W_no (skF hb212) rfl ?_
      refine W_v (.bool true) (x_pick (k := true) (congrArg Value.bool hb212) rfl) rfl ?_
      refine Wl_nil ?_
      exact ⟨true, Option.some.inj H, ⟨rfl, rfl, trivial⟩, E, S.pick [0, 1] (by decide)⟩
    · skip
      refine W_yes (congrArg some hb212) ?_
      refine W_v (.pointer (some ⟨b3, 0, none⟩)) (x_move rfl) rfl ?_
      refine W_yes (congrArg some hb212) ?_
      obtain ⟨t215, ht216, H⟩ := bindS H
      replace S : St w183 M F [Blk b3 (.cells #[.slice A170 x169.length c171, .int .i64 x173] 47 (0, 0)), Row r_status_writer 49 (.slice A170 x169.length c171) x169] := S.pick [1, 0] (by decide)
      refine W_callF2 fn14 (status_Writers_Busy_PO.con k M A170 c171 (⟨x169, x173⟩ : status_Writers) b3 t215 hg0 ht216) (Γ1 := [Blk b3 (.cells #[.slice A170 x169.length c171, .int .i64 x173] 47 (0, 0)), Row r_status_writer 49 (.slice A170 x169.length c171) x169]) (Γ2 := []) S rfl rfl (by rintro _ _ _ ⟨_, _, rfl, rfl⟩; exact (flat_cons (flat_row (fun _ _ _ _ h => h)) (flat_cons flat_blk (flat_cons (flat_row (fun _ _ _ _ h => h)) flat_nil)))) ?_
      rintro _ w220 _ Γ' E' S ⟨A217, c218, rfl, rfl⟩
      replace E := E.trans E'
      clear E'
      replace S : St w220 M F [Row (rInt .i64) 3 (.slice A217 t215.length c218) t215, Blk b3 (.cells #[.slice A170 x169.length c171, .int .i64 x173] 47 (0, 0)), Row r_status_writer 49 (.slice A170 x169.length c171) x169] := S
      refine W_yes (congrArg some hb212) ?_
      refine W_bslice S #[.int .i64 2] Tryd.underlying32 ty3 rfl rfl #[.int .i64 0] (by kernel_rfl) (by kernel_rfl) rfl ?_
      intro b223 w224 E' S
      replace E := E.trans E'
      clear E'
      replace S := S.blk_row (r := (rInt .i64)) (l := ([(2 : Int)] : List Int)) 0 rfl 1 (Nat.le_refl 1) rfl (Cells.cons (vs := [.int .i64 2]) (rfl) Cells.nil)
      refine W_yes (congrArg some hb212) ?_
      replace S : St w224 M F [Row (rInt .i64) 3 (.slice A217 t215.length c218) t215, Row (rInt .i64) 3 (.slice (some ⟨b223, 0, none⟩) ([(2 : Int)] : List Int).length 1) ([(2 : Int)] : List Int), Blk b3 (.cells #[.slice A170 x169.length c171, .int .i64 x173] 47 (0, 0)), Row r_status_writer 49 (.slice A170 x169.length c171) x169] := S.pick [1, 0, 2, 3] (by decide)
      obtain ⟨t226, ht227, H⟩ := bindS H
      refine W_callN 2 fn13 (fun h9 hs9 hd9 => ferrymanref08_Ints.con k _ A217 c218 t215 (some ⟨b223, 0, none⟩) 1 ([(2 : Int)] : List Int) t226 (Sats.row hs9 hd9 0 rfl) (Sats.row hs9 hd9 1 rfl) (let ⟨gt, fr, h8⟩ := hg0; ⟨gt, fr, Hp.le_union_left _ _ _ _ h8⟩) ht227) S rfl rfl (by rintro _ _ _ ⟨_, rfl⟩; exact flat_nil) ?_
      rintro _ w228 _ Γ' E' S ⟨rfl, rfl⟩
      replace E := E.trans E'
      clear E'
      refine W_yes (congrArg some hb212) ?_
      refine W_v (.bool (!t226)) (x_not rfl) rfl ?_
      refine W_v (.bool (!t226)) (x_pick (k := false) (congrArg Value.bool hb212) rfl) rfl ?_
      refine Wl_nil ?_
      exact ⟨(!t226), Option.some.inj H, ⟨rfl, rfl, trivial⟩, E, S.pick [3, 2] (by decide)⟩
  clear o214h
  rintro ρ w229 ⟨x213, rfl, hρ, E, S⟩
  rw [agree_eta hρ]
  clear hρ
  have H := o214H
  clear o214H
  refine W_v (.bool x213) (x_move rfl) rfl ?_
  obtain ⟨o242, o242h, o242H⟩ := bindS H
  clear H
  refine Wl_cutN 4 (fun ρ w' => ∃ (x241 : Bool), (x241) = o242 ∧ Agree ρ [(1, .pointer (some ⟨b3, 0, none⟩)), (42, .bool x241)] ∧ Ext w w' ∧ St w' M F [Row r_status_writer 49 (.slice A170 x169.length c171) x169, Blk b3 (.cells #[.slice A170 x169.length c171, .int .i64 x173] 47 (0, 0))]) ?_ ?_
  · have H := o242h
    rcases iteS H with ⟨hb240, H⟩ | ⟨hb240, H⟩
    · skip
      refine W_no (skF hb240) rfl ?_
      refine W_no (skF hb240) rfl ?_
      refine W_no (skF hb240) rfl ?_
      refine W_v (.bool true) (x_pick (k := true) (congrArg Value.bool hb240) rfl) rfl ?_
      refine Wl_nil ?_
      exact ⟨true, Option.some.inj H, ⟨rfl, rfl, trivial⟩, E, S.pick [0, 1] (by decide)⟩
    · skip
      refine W_yes (congrArg some hb240) ?_
      refine W_v (.pointer (some ⟨b3, 0, none⟩)) (x_move rfl) rfl ?_
      refine W_yes (congrArg some hb240) ?_
      obtain ⟨t243, ht244, H⟩ := bindS H
      replace S : St w229 M F [Blk b3 (.cells #[.slice A170 x169.length c171, .int .i64 x173] 47 (0, 0)), Row r_status_writer 49 (.slice A170 x169.length c171) x169] := S.pick [1, 0] (by decide)
      refine W_callF2 fn15 (status_Writers_Active_PO.con k M A170 c171 (⟨x169, x173⟩ : status_Writers) b3 t243 hg0 ht244) (Γ1 := [Blk b3 (.cells #[.slice A170 x169.length c171, .int .i64 x173] 47 (0, 0)), Row r_status_writer 49 (.slice A170 x169.length c171) x169]) (Γ2 := []) S rfl rfl (by rintro _ _ _ ⟨rfl, rfl⟩; exact (flat_cons flat_blk (flat_cons (flat_row (fun _ _ _ _ h => h)) flat_nil))) ?_
      rintro _ w245 _ Γ' E' S ⟨rfl, rfl⟩
      replace E := E.trans E'
      clear E'
      replace S : St w245 M F [Blk b3 (.cells #[.slice A170 x169.length c171, .int .i64 x173] 47 (0, 0)), Row r_status_writer 49 (.slice A170 x169.length c171) x169] := S
      refine W_yes (congrArg some hb240) ?_
      refine W_v (.bool (t243 != (0 : Int))) (x_ibin rfl rfl rfl rfl) rfl ?_
      refine W_v (.bool (t243 != (0 : Int))) (x_pick (k := false) (congrArg Value.bool hb240) rfl) rfl ?_
      refine Wl_nil ?_
      exact ⟨(t243 != (0 : Int)), Option.some.inj H, ⟨rfl, rfl, trivial⟩, E, S.pick [1, 0] (by decide)⟩
  clear o242h
  rintro ρ w248 ⟨x241, rfl, hρ, E, S⟩
  rw [agree_eta hρ]
  clear hρ
  have H := o242H
  clear o242H
  refine W_v (.bool x241) (x_move rfl) rfl ?_
  obtain ⟨o272, o272h, o272H⟩ := bindS H
  clear H
  refine Wl_cutN 4 (fun ρ w' => ∃ (x266 : Bool) (x267 : List status_writer) (x271 : Int) (A268 : Option Addr) (c269 : Nat), (x266, x267, x271) = o272 ∧ Agree ρ [(1, .pointer (some ⟨b3, 0, none⟩)), (47, .bool x266)] ∧ Ext w w' ∧ St w' M F [Row r_status_writer 49 (.slice A268 x267.length c269) x267, Blk b3 (.cells #[.slice A268 x267.length c269, .int .i64 x271] 47 (0, 0))]) ?_ ?_
  · have H := o272h
    rcases iteS H with ⟨hb265, H⟩ | ⟨hb265, H⟩
    · skip
      refine W_no (skF hb265) rfl ?_
      refine W_no (skF hb265) rfl ?_
      refine W_no (skF hb265) rfl ?_
      refine W_v (.bool true) (x_pick (k := true) (congrArg Value.bool hb265) rfl) rfl ?_
      refine Wl_nil ?_
      exact ⟨true, x169, x173, A170, c171, Option.some.inj H, ⟨rfl, rfl, trivial⟩, E, S.pick [0, 1] (by decide)⟩
    · skip
      refine W_yes (congrArg some hb265) ?_
      refine W_v (.pointer (some ⟨b3, 0, none⟩)) (x_move rfl) rfl ?_
      refine W_yes (congrArg some hb265) ?_
      obtain ⟨t273, ht274, H⟩ := bindS H
      replace S : St w248 M F [Blk b3 (.cells #[.slice A170 x169.length c171, .int .i64 x173] 47 (0, 0)), Row r_status_writer 49 (.slice A170 x169.length c171) x169] := S.pick [1, 0] (by decide)
      refine W_callF2 fn17 (status_Writers_Commit_PO.con k M A170 c171 (⟨x169, x173⟩ : status_Writers) (2 : Int) (6 : Int) b3 t273 hg0 ht274) (Γ1 := [Blk b3 (.cells #[.slice A170 x169.length c171, .int .i64 x173] 47 (0, 0)), Row r_status_writer 49 (.slice A170 x169.length c171) x169]) (Γ2 := []) S rfl rfl (by rintro _ _ _ ⟨_, _, rfl, rfl⟩; exact (flat_cons flat_blk (flat_cons (flat_row (fun _ _ _ _ h => h)) flat_nil))) ?_
      rintro _ w278 _ Γ' E' S ⟨A275, c276, rfl, rfl⟩
      replace E := E.trans E'
      clear E'
      replace S : St w278 M F [Blk b3 (.cells #[.slice A275 t273.2.l.length c276, .int .i64 t273.2.last] 47 (0, 0)), Row r_status_writer 49 (.slice A275 t273.2.l.length c276) t273.2.l] := S
      refine W_yes (congrArg some hb265) ?_
      refine W_v (.bool (t273.1 != (7 : Int))) (x_ibin rfl rfl rfl rfl) rfl ?_
      refine W_v (.bool (t273.1 != (7 : Int))) (x_pick (k := false) (congrArg Value.bool hb265) rfl) rfl ?_
      refine Wl_nil ?_
      exact ⟨(t273.1 != (7 : Int)), t273.2.l, t273.2.last, A275, c276, Option.some.inj H, ⟨rfl, rfl, trivial⟩, E, S.pick [1, 0] (by decide)⟩
  clear o272h
  rintro ρ w281 ⟨x266, x267, x271, A268, c269, rfl, hρ, E, S⟩
  rw [agree_eta hρ]
  clear hρ
  have H := o272H
  clear o272H
  refine W_v (.bool x266) (x_move rfl) rfl ?_
  obtain ⟨o305, o305h, o305H⟩ := bindS H
  clear H
  refine Wl_cutN 4 (fun ρ w' => ∃ (x299 : Bool) (x300 : List status_writer) (x304 : Int) (A301 : Option Addr) (c302 : Nat), (x299, x300, x304) = o305 ∧ Agree ρ [(1, .pointer (some ⟨b3, 0, none⟩)), (52, .bool x299)] ∧ Ext w w' ∧ St w' M F [Row r_status_writer 49 (.slice A301 x300.length c302) x300, Blk b3 (.cells #[.slice A301 x300.length c302, .int .i64 x304] 47 (0, 0))]) ?_ ?_
  · have H := o305h
    rcases iteS H with ⟨hb298, H⟩ | ⟨hb298, H⟩
    · skip
      refine W_no (skF hb298) rfl ?_
      refine W_no (skF hb298) rfl ?_
      refine W_no (skF hb298) rfl ?_
      refine W_v (.bool true) (x_pick (k := true) (congrArg Value.bool hb298) rfl) rfl ?_
      refine Wl_nil ?_
      exact ⟨true, x267, x271, A268, c269, Option.some.inj H, ⟨rfl, rfl, trivial⟩, E, S.pick [0, 1] (by decide)⟩
    · skip
      refine W_yes (congrArg some hb298) ?_
      refine W_v (.pointer (some ⟨b3, 0, none⟩)) (x_move rfl) rfl ?_
      refine W_yes (congrArg some hb298) ?_
      obtain ⟨t306, ht307, H⟩ := bindS H
      replace S : St w281 M F [Blk b3 (.cells #[.slice A268 x267.length c269, .int .i64 x271] 47 (0, 0)), Row r_status_writer 49 (.slice A268 x267.length c269) x267] := S.pick [1, 0] (by decide)
      refine W_callF2 fn19 (status_Writers_Fallen_PO.con k M A268 c269 (⟨x267, x271⟩ : status_Writers) (2 : Int) b3 t306 hg0 ht307) (Γ1 := [Blk b3 (.cells #[.slice A268 x267.length c269, .int .i64 x271] 47 (0, 0)), Row r_status_writer 49 (.slice A268 x267.length c269) x267]) (Γ2 := []) S rfl rfl (by rintro _ _ _ ⟨_, _, rfl, rfl⟩; exact (flat_cons flat_blk (flat_cons (flat_row (fun _ _ _ _ h => h)) flat_nil))) ?_
      rintro _ w311 _ Γ' E' S ⟨A308, c309, rfl, rfl⟩
      replace E := E.trans E'
      clear E'
      replace S : St w311 M F [Blk b3 (.cells #[.slice A308 t306.2.l.length c309, .int .i64 t306.2.last] 47 (0, 0)), Row r_status_writer 49 (.slice A308 t306.2.l.length c309) t306.2.l] := S
      refine W_yes (congrArg some hb298) ?_
      refine W_v (.bool (t306.1 != (0 : Int))) (x_ibin rfl rfl rfl rfl) rfl ?_
      refine W_v (.bool (t306.1 != (0 : Int))) (x_pick (k := false) (congrArg Value.bool hb298) rfl) rfl ?_
      refine Wl_nil ?_
      exact ⟨(t306.1 != (0 : Int)), t306.2.l, t306.2.last, A308, c309, Option.some.inj H, ⟨rfl, rfl, trivial⟩, E, S.pick [1, 0] (by decide)⟩
  clear o305h
  rintro ρ w314 ⟨x299, x300, x304, A301, c302, rfl, hρ, E, S⟩
  rw [agree_eta hρ]
  clear hρ
  have H := o305H
  clear o305H
  refine Wl_nil ?_
  refine tn ?_
  rcases iteS H with ⟨hb315, H⟩ | ⟨hb315, H⟩
  · refine Wp_cond_true (congrArg Value.bool hb315) ?_
    refine Wp_seq ?_
    refine Wp_region_lit ?_
    refine W_v (.bool false) (x_assign rfl) rfl ?_
    refine Wl_nil ?_
    refine tn ?_
    refine Wp_ret ?_
    refine tr (?_)
    obtain rfl := Option.some.inj H
    exact ⟨_, _, _, fun w1 e1 => run_resR (vs := [.bool false]) (FA.cons (rfl) (FA.nil)), HM, E, S.pick [] (by decide), ⟨rfl, rfl⟩⟩
  refine Wp_cond_false (congrArg Value.bool hb315) ?_
  refine Wp_skip ?_
  refine tn ?_
  refine Wp_seq ?_
  refine Wp_region_lit ?_
  refine W_v (.pointer (some ⟨b3, 0, none⟩)) (x_move rfl) rfl ?_
  obtain ⟨t316, ht317, H⟩ := bindS H
  replace S : St w314 M F [Blk b3 (.cells #[.slice A301 x300.length c302, .int .i64 x304] 47 (0, 0)), Row r_status_writer 49 (.slice A301 x300.length c302) x300] := S.pick [1, 0] (by decide)
  refine W_callF2 fn14 (status_Writers_Busy_PO.con k M A301 c302 (⟨x300, x304⟩ : status_Writers) b3 t316 hg0 ht317) (Γ1 := [Blk b3 (.cells #[.slice A301 x300.length c302, .int .i64 x304] 47 (0, 0)), Row r_status_writer 49 (.slice A301 x300.length c302) x300]) (Γ2 := []) S rfl rfl (by rintro _ _ _ ⟨_, _, rfl, rfl⟩; exact (flat_cons (flat_row (fun _ _ _ _ h => h)) (flat_cons flat_blk (flat_cons (flat_row (fun _ _ _ _ h => h)) flat_nil)))) ?_
  rintro _ w321 _ Γ' E' S ⟨A318, c319, rfl, rfl⟩
  replace E := E.trans E'
  clear E'
  replace S : St w321 M F [Row (rInt .i64) 3 (.slice A318 t316.length c319) t316, Blk b3 (.cells #[.slice A301 x300.length c302, .int .i64 x304] 47 (0, 0)), Row r_status_writer 49 (.slice A301 x300.length c302) x300] := S
  refine W_v (.int .i64 (t316.length : Int)) (x_len_slice (n := t316.length) Tryd.underlying32 rfl) rfl ?_
  refine W_v (.bool ((t316.length : Int) == (0 : Int))) (x_ibin rfl rfl rfl rfl) rfl ?_
  refine W_v (.bool ((t316.length : Int) == (0 : Int))) (x_move rfl) rfl ?_
  obtain ⟨o336, o336h, o336H⟩ := bindS H
  clear H
  refine Wl_cutN 3 (fun ρ w' => ∃ (x335 : Bool), (x335) = o336 ∧ Agree ρ [(1, .pointer (some ⟨b3, 0, none⟩)), (60, .bool x335)] ∧ Ext w w' ∧ St w' M F [Blk b3 (.cells #[.slice A301 x300.length c302, .int .i64 x304] 47 (0, 0)), Row r_status_writer 49 (.slice A301 x300.length c302) x300]) ?_ ?_
  · have H := o336h
    rcases iteS H with ⟨hb334, H⟩ | ⟨hb334, H⟩
    · skip
      refine W_yes (congrArg some hb334) ?_
      refine W_v (.pointer (some ⟨b3, 0, none⟩)) (x_move rfl) rfl ?_
      refine W_yes (congrArg some hb334) ?_
      obtain ⟨t337, ht338, H⟩ := bindS H
      replace S : St w321 M F [Blk b3 (.cells #[.slice A301 x300.length c302, .int .i64 x304] 47 (0, 0)), Row r_status_writer 49 (.slice A301 x300.length c302) x300, Row (rInt .i64) 3 (.slice A318 t316.length c319) t316] := S.pick [1, 2, 0] (by decide)
      refine W_callF2 fn20 (ferrymanlaw08_is_PO.con k M A301 c302 (⟨x300, x304⟩ : status_Writers) (1 : Int) (3 : Int) (5 : Int) b3 t337 hg0 ht338) (Γ1 := [Blk b3 (.cells #[.slice A301 x300.length c302, .int .i64 x304] 47 (0, 0)), Row r_status_writer 49 (.slice A301 x300.length c302) x300]) (Γ2 := [Row (rInt .i64) 3 (.slice A318 t316.length c319) t316]) S rfl rfl (by rintro _ _ _ ⟨rfl, rfl⟩; exact (flat_cons flat_blk (flat_cons (flat_row (fun _ _ _ _ h => h)) flat_nil))) ?_
      rintro _ w339 _ Γ' E' S ⟨rfl, rfl⟩
      replace E := E.trans E'
      clear E'
      replace S : St w339 M F [Blk b3 (.cells #[.slice A301 x300.length c302, .int .i64 x304] 47 (0, 0)), Row r_status_writer 49 (.slice A301 x300.length c302) x300, Row (rInt .i64) 3 (.slice A318 t316.length c319) t316] := S
      refine W_v (.bool t337) (x_pick (k := true) (congrArg Value.bool hb334) rfl) rfl ?_
      refine Wl_nil ?_
      exact ⟨t337, Option.some.inj H, ⟨rfl, rfl, trivial⟩, E, S.pick [0, 1] (by decide)⟩
    · skip
      refine W_no (skT hb334) rfl ?_
      refine W_no (skT hb334) rfl ?_
      refine W_v (.bool false) (x_pick (k := false) (congrArg Value.bool hb334) rfl) rfl ?_
      refine Wl_nil ?_
      exact ⟨false, Option.some.inj H, ⟨rfl, rfl, trivial⟩, E, S.pick [1, 2] (by decide)⟩
  clear o336h
  rintro ρ w342 ⟨x335, rfl, hρ, E, S⟩
  rw [agree_eta hρ]
  clear hρ
  have H := o336H
  clear o336H
  refine W_v (.bool x335) (x_move rfl) rfl ?_
  obtain ⟨o355, o355h, o355H⟩ := bindS H
  clear H
  refine Wl_cutN 3 (fun ρ w' => ∃ (x354 : Bool), (x354) = o355 ∧ Agree ρ [(1, .pointer (some ⟨b3, 0, none⟩)), (64, .bool x354)] ∧ Ext w w' ∧ St w' M F [Blk b3 (.cells #[.slice A301 x300.length c302, .int .i64 x304] 47 (0, 0)), Row r_status_writer 49 (.slice A301 x300.length c302) x300]) ?_ ?_
  · have H := o355h
    rcases iteS H with ⟨hb353, H⟩ | ⟨hb353, H⟩
    · skip
      refine W_yes (congrArg some hb353) ?_
      refine W_v (.pointer (some ⟨b3, 0, none⟩)) (x_move rfl) rfl ?_
      refine W_yes (congrArg some hb353) ?_
      obtain ⟨t356, ht357, H⟩ := bindS H
      refine W_callF2 fn20 (ferrymanlaw08_is_PO.con k M A301 c302 (⟨x300, x304⟩ : status_Writers) (2 : Int) (4 : Int) (0 : Int) b3 t356 hg0 ht357) (Γ1 := [Blk b3 (.cells #[.slice A301 x300.length c302, .int .i64 x304] 47 (0, 0)), Row r_status_writer 49 (.slice A301 x300.length c302) x300]) (Γ2 := []) S rfl rfl (by rintro _ _ _ ⟨rfl, rfl⟩; exact (flat_cons flat_blk (flat_cons (flat_row (fun _ _ _ _ h => h)) flat_nil))) ?_
      rintro _ w358 _ Γ' E' S ⟨rfl, rfl⟩
      replace E := E.trans E'
      clear E'
      replace S : St w358 M F [Blk b3 (.cells #[.slice A301 x300.length c302, .int .i64 x304] 47 (0, 0)), Row r_status_writer 49 (.slice A301 x300.length c302) x300] := S
      refine W_v (.bool t356) (x_pick (k := true) (congrArg Value.bool hb353) rfl) rfl ?_
      refine Wl_nil ?_
      exact ⟨t356, Option.some.inj H, ⟨rfl, rfl, trivial⟩, E, S.pick [0, 1] (by decide)⟩
    · skip
      refine W_no (skT hb353) rfl ?_
      refine W_no (skT hb353) rfl ?_
      refine W_v (.bool false) (x_pick (k := false) (congrArg Value.bool hb353) rfl) rfl ?_
      refine Wl_nil ?_
      exact ⟨false, Option.some.inj H, ⟨rfl, rfl, trivial⟩, E, S.pick [0, 1] (by decide)⟩
  clear o355h
  rintro ρ w361 ⟨x354, rfl, hρ, E, S⟩
  rw [agree_eta hρ]
  clear hρ
  have H := o355H
  clear o355H
  refine W_v (.bool x354) (x_move rfl) rfl ?_
  obtain ⟨o374, o374h, o374H⟩ := bindS H
  clear H
  refine Wl_cutN 3 (fun ρ w' => ∃ (x373 : Bool), (x373) = o374 ∧ Agree ρ [(1, .pointer (some ⟨b3, 0, none⟩)), (68, .bool x373)] ∧ Ext w w' ∧ St w' M F [Blk b3 (.cells #[.slice A301 x300.length c302, .int .i64 x304] 47 (0, 0)), Row r_status_writer 49 (.slice A301 x300.length c302) x300]) ?_ ?_
  · have H := o374h
    rcases iteS H with ⟨hb372, H⟩ | ⟨hb372, H⟩
    · skip
      refine W_yes (congrArg some hb372) ?_
      refine W_v (.pointer (some ⟨b3, 0, none⟩)) (x_move rfl) rfl ?_
      refine W_yes (congrArg some hb372) ?_
      obtain ⟨t375, ht376, H⟩ := bindS H
      refine W_callF2 fn20 (ferrymanlaw08_is_PO.con k M A301 c302 (⟨x300, x304⟩ : status_Writers) (3 : Int) (0 : Int) (0 : Int) b3 t375 hg0 ht376) (Γ1 := [Blk b3 (.cells #[.slice A301 x300.length c302, .int .i64 x304] 47 (0, 0)), Row r_status_writer 49 (.slice A301 x300.length c302) x300]) (Γ2 := []) S rfl rfl (by rintro _ _ _ ⟨rfl, rfl⟩; exact (flat_cons flat_blk (flat_cons (flat_row (fun _ _ _ _ h => h)) flat_nil))) ?_
      rintro _ w377 _ Γ' E' S ⟨rfl, rfl⟩
      replace E := E.trans E'
      clear E'
      replace S : St w377 M F [Blk b3 (.cells #[.slice A301 x300.length c302, .int .i64 x304] 47 (0, 0)), Row r_status_writer 49 (.slice A301 x300.length c302) x300] := S
      refine W_v (.bool t375) (x_pick (k := true) (congrArg Value.bool hb372) rfl) rfl ?_
      refine Wl_nil ?_
      exact ⟨t375, Option.some.inj H, ⟨rfl, rfl, trivial⟩, E, S.pick [0, 1] (by decide)⟩
    · skip
      refine W_no (skT hb372) rfl ?_
      refine W_no (skT hb372) rfl ?_
      refine W_v (.bool false) (x_pick (k := false) (congrArg Value.bool hb372) rfl) rfl ?_
      refine Wl_nil ?_
      exact ⟨false, Option.some.inj H, ⟨rfl, rfl, trivial⟩, E, S.pick [0, 1] (by decide)⟩
  clear o374h
  rintro ρ w380 ⟨x373, rfl, hρ, E, S⟩
  rw [agree_eta hρ]
  clear hρ
  have H := o374H
  clear o374H
  refine W_v (.bool x373) (x_move rfl) rfl ?_
  obtain ⟨o393, o393h, o393H⟩ := bindS H
  clear H
  refine Wl_cutN 4 (fun ρ w' => ∃ (x392 : Bool), (x392) = o393 ∧ Agree ρ [(1, .pointer (some ⟨b3, 0, none⟩)), (73, .bool x392)] ∧ Ext w w' ∧ St w' M F [Blk b3 (.cells #[.slice A301 x300.length c302, .int .i64 x304] 47 (0, 0)), Row r_status_writer 49 (.slice A301 x300.length c302) x300]) ?_ ?_
  · have H := o393h
    rcases iteS H with ⟨hb391, H⟩ | ⟨hb391, H⟩
    · skip
      refine W_yes (congrArg some hb391) ?_
      refine W_v (.pointer (some ⟨b3, 0, none⟩)) (x_move rfl) rfl ?_
      refine W_yes (congrArg some hb391) ?_
      obtain ⟨t394, ht395, H⟩ := bindS H
      refine W_callF2 fn10 (status_Writers_High_PO.con k M A301 c302 (⟨x300, x304⟩ : status_Writers) b3 t394 hg0 ht395) (Γ1 := [Blk b3 (.cells #[.slice A301 x300.length c302, .int .i64 x304] 47 (0, 0)), Row r_status_writer 49 (.slice A301 x300.length c302) x300]) (Γ2 := []) S rfl rfl (by rintro _ _ _ ⟨rfl, rfl⟩; exact (flat_cons flat_blk (flat_cons (flat_row (fun _ _ _ _ h => h)) flat_nil))) ?_
      rintro _ w396 _ Γ' E' S ⟨rfl, rfl⟩
      replace E := E.trans E'
      clear E'
      replace S : St w396 M F [Blk b3 (.cells #[.slice A301 x300.length c302, .int .i64 x304] 47 (0, 0)), Row r_status_writer 49 (.slice A301 x300.length c302) x300] := S
      refine W_yes (congrArg some hb391) ?_
      refine W_v (.bool (t394 == (3 : Int))) (x_ibin rfl rfl rfl rfl) rfl ?_
      refine W_v (.bool (t394 == (3 : Int))) (x_pick (k := true) (congrArg Value.bool hb391) rfl) rfl ?_
      refine Wl_nil ?_
      exact ⟨(t394 == (3 : Int)), Option.some.inj H, ⟨rfl, rfl, trivial⟩, E, S.pick [0, 1] (by decide)⟩
    · skip
      refine W_no (skT hb391) rfl ?_
      refine W_no (skT hb391) rfl ?_
      refine W_no (skT hb391) rfl ?_
      refine W_v (.bool false) (x_pick (k := false) (congrArg Value.bool hb391) rfl) rfl ?_
      refine Wl_nil ?_
      exact ⟨false, Option.some.inj H, ⟨rfl, rfl, trivial⟩, E, S.pick [0, 1] (by decide)⟩
  clear o393h
  rintro ρ w399 ⟨x392, rfl, hρ, E, S⟩
  rw [agree_eta hρ]
  clear hρ
  have H := o393H
  clear o393H
  refine W_v (.bool x392) (x_move rfl) rfl ?_
  obtain ⟨o412, o412h, o412H⟩ := bindS H
  clear H
  refine Wl_cutN 4 (fun ρ w' => ∃ (x411 : Bool), (x411) = o412 ∧ Agree ρ [(78, .bool x411)] ∧ Ext w w' ∧ St w' M F []) ?_ ?_
  · have H := o412h
    rcases iteS H with ⟨hb410, H⟩ | ⟨hb410, H⟩
    · skip
      refine W_yes (congrArg some hb410) ?_
      refine W_v (.pointer (some ⟨b3, 0, none⟩)) (x_move rfl) rfl ?_
      refine W_yes (congrArg some hb410) ?_
      obtain ⟨t413, ht414, H⟩ := bindS H
      refine W_callF2 fn21 (status_Writers_Last_PO.con k M A301 c302 (⟨x300, x304⟩ : status_Writers) b3 t413 hg0 ht414) (Γ1 := [Blk b3 (.cells #[.slice A301 x300.length c302, .int .i64 x304] 47 (0, 0)), Row r_status_writer 49 (.slice A301 x300.length c302) x300]) (Γ2 := []) S rfl rfl (by rintro _ _ _ ⟨rfl, rfl⟩; exact (flat_cons flat_blk (flat_cons (flat_row (fun _ _ _ _ h => h)) flat_nil))) ?_
      rintro _ w415 _ Γ' E' S ⟨rfl, rfl⟩
      replace E := E.trans E'
      clear E'
      replace S : St w415 M F [Blk b3 (.cells #[.slice A301 x300.length c302, .int .i64 x304] 47 (0, 0)), Row r_status_writer 49 (.slice A301 x300.length c302) x300] := S
      refine W_yes (congrArg some hb410) ?_
      refine W_v (.bool (t413 == (5 : Int))) (x_ibin rfl rfl rfl rfl) rfl ?_
      refine W_v (.bool (t413 == (5 : Int))) (x_pick (k := true) (congrArg Value.bool hb410) rfl) rfl ?_
      refine Wl_nil ?_
      exact ⟨(t413 == (5 : Int)), Option.some.inj H, ⟨rfl, trivial⟩, E, S.pick [] (by decide)⟩
    · skip
      refine W_no (skT hb410) rfl ?_
      refine W_no (skT hb410) rfl ?_
      refine W_no (skT hb410) rfl ?_
      refine W_v (.bool false) (x_pick (k := false) (congrArg Value.bool hb410) rfl) rfl ?_
      refine Wl_nil ?_
      exact ⟨false, Option.some.inj H, ⟨rfl, trivial⟩, E, S.pick [] (by decide)⟩
  clear o412h
  rintro ρ w418 ⟨x411, rfl, hρ, E, S⟩
  rw [agree_eta hρ]
  clear hρ
  have H := o412H
  clear o412H
  refine W_v (.bool x411) (x_assign rfl) rfl ?_
  refine Wl_nil ?_
  refine tn ?_
  refine Wp_ret ?_
  obtain rfl := Option.some.inj H
  exact ⟨_, _, _, fun w1 e1 => run_resR (vs := [.bool x411]) (FA.cons (rfl) (FA.nil)), HM, E, S.pick [] (by decide), ⟨rfl, rfl⟩⟩
/-! ### slices.Clone[[]ferryman/status.writer,ferryman/status.writer]: function 35 -/
def slices_Clone_status_writer_status_writer (k : Nat) (a0 : List status_writer) : Option (List status_writer) :=
  if ([] : List status_writer).length + a0.length ≤ 8796093022208 then some (([] : List status_writer) ++ a0) else none
set_option maxHeartbeats 2000000 in
theorem slices_Clone_status_writer_status_writer.mono {k : Nat} {a0 : List status_writer} : OLe (slices_Clone_status_writer_status_writer k a0) (slices_Clone_status_writer_status_writer (k + 1) a0) := by
  unfold slices_Clone_status_writer_status_writer
  repeat' (first | with_reducible exact OLe.none | with_reducible exact OLe.some | with_reducible refine OLe.ite ?_ ?_ | with_reducible refine OLe.bind ?_ (fun _ => ?_) | refine OLe.bind ?_ (fun _ => ?_) | refine OLe.ite ?_ ?_ | refine OLe.elim (fun _ => ?_) (fun _ => ?_) | split)
set_option maxHeartbeats 1000000 in
set_option maxRecDepth 100000 in
theorem slices_Clone_status_writer_status_writer.con (k : Nat) (M : Hp) (A0 : Option Addr) (c0 : Nat) (a0 : (List status_writer)) (r : (List status_writer)) (hr0 : SlR r_status_writer M (.slice A0 a0.length c0) a0) (hg0 : ∃ gt fr, M 0 = some (.cells #[.int .u8 0, .int .u8 0, .int .u8 1, .int .u8 1, .int .u8 2] gt fr)) (h : slices_Clone_status_writer_status_writer k a0 = some r) : Con Tryd.prog 35 #[.slice A0 a0.length c0] M [] (fun v M' Γ' => ∃ (A0 : Option Addr) (c0 : Nat), v = .slice A0 r.length c0 ∧ Γ' = [Row r_status_writer 49 (.slice A0 r.length c0) r]) := by
  have H := h
  unfold slices_Clone_status_writer_status_writer at H
  cases A0 with
  | none =>
    obtain ⟨_, H⟩ := chkS H
    obtain rfl : a0 = [] := SlW.none_nil hr0
    refine con_of_wp Tryd.func35 rfl Tryd.ntmps35 Tryd.results35 rfl ?_
    intro w F rn S hrn
    have E := Ext.refl w
    have HM := Hp.le_refl M
    refine Wp_seq ?_
    refine Wp_region_lit ?_
    refine W_v (.slice none 0 0) (x_assign rfl) rfl ?_
    refine Wl_nil ?_
    refine tn ?_
    refine Wp_seq ?_
    refine Wp_seq ?_
    refine Wp_region_lit ?_
    refine W_v (.slice none ([] : List status_writer).length c0) (x_move rfl) rfl ?_
    refine W_v (.bool true) (x_eq_of rfl rfl (run_equal_slice_nil _ _ _ _ _ _ Tryd.underlying45)) rfl ?_
    refine Wl_nil ?_
    refine tn ?_
    refine Wp_cond_true rfl ?_
    refine Wp_seq ?_
    refine Wp_region_lit ?_
    refine W_v (.slice none 0 0) (x_assign rfl) rfl ?_
    refine Wl_nil ?_
    refine tn ?_
    refine Wp_ret ?_
    refine tr (?_)
    obtain rfl := Option.some.inj H
    replace S := S.row_nil r_status_writer 49
    exact ⟨_, _, _, fun w1 e1 => run_resR (vs := [.slice none 0 0]) (FA.cons (rfl) (FA.nil)), HM, E, S.pick [0] (by decide), ⟨none, 0, rfl, rfl⟩⟩
  | some ad =>
    refine con_of_wp Tryd.func35 rfl Tryd.ntmps35 Tryd.results35 rfl ?_
    intro w F rn S hrn
    have E := Ext.refl w
    have HM := Hp.le_refl M
    refine Wp_seq ?_
    refine Wp_region_lit ?_
    refine W_v (.slice none 0 0) (x_assign rfl) rfl ?_
    refine Wl_nil ?_
    refine tn ?_
    refine Wp_seq ?_
    refine Wp_seq ?_
    refine Wp_region_lit ?_
    refine W_v (.slice (some ad) a0.length c0) (x_move rfl) rfl ?_
    refine W_v (.bool false) (x_eq_of rfl rfl (run_equal_slice_nil _ _ _ _ _ _ Tryd.underlying45)) rfl ?_
    refine Wl_nil ?_
    refine tn ?_
    refine Wp_cond_false rfl ?_
    refine Wp_skip ?_
    refine tn ?_
    refine Wp_seq ?_
    refine Wp_region_lit ?_
    refine W_bslice S #[] Tryd.underlying45 ty49 rfl rfl #[] (by kernel_rfl) (by kernel_rfl) rfl ?_
    intro b2 w3 E' S
    replace E := E.trans E'
    clear E'
    replace S := S.blk_row (r := r_status_writer) (l := ([] : List status_writer)) 0 rfl 0 (Nat.le_refl 0) rfl Cells.nil
    refine W_v (.slice (some ad) a0.length c0) (x_move rfl) rfl ?_
    obtain ⟨p5, H⟩ := chkS H
    obtain ⟨src6, hs7, hC8⟩ := src_of_read (P := Tryd.prog) (ρ := r_status_writer) (l := a0) (SlR.world hr0 S) (by decide)
    refine W_append S 0 rfl rfl rfl Tryd.underlying45 (.inl Tryd.underlying45) ty49 rfl (by decide) (by decide) hs7 hC8 rfl (by omega) rfl ?_
    intro v9 w10 E' S
    replace E := E.trans E'
    clear E'
    obtain ⟨A11, c12, rfl, _⟩ := (S.row_read 0 rfl).form
    refine W_v (.slice A11 (([] : List status_writer) ++ a0).length c12) (x_assign rfl) rfl ?_
    refine Wl_nil ?_
    refine tn ?_
    refine Wp_ret ?_
    obtain rfl := Option.some.inj H
    exact ⟨_, _, _, fun w1 e1 => run_resR (vs := [.slice A11 (([] : List status_writer) ++ a0).length c12]) (FA.cons (rfl) (FA.nil)), HM, E, S.pick [0] (by decide), ⟨A11, c12, rfl, rfl⟩⟩
/-! ### (*ferryman/status.Writers).Begin: function 16 -/
def status_Writers_Begin_Z (k : Nat)  : Option (Int) :=
  some (0 : Int)
set_option maxHeartbeats 2000000 in
theorem status_Writers_Begin_Z.mono {k : Nat}  : OLe (status_Writers_Begin_Z k ) (status_Writers_Begin_Z (k + 1) ) := by
  unfold status_Writers_Begin_Z
  repeat' (first | with_reducible exact OLe.none | with_reducible exact OLe.some | with_reducible refine OLe.ite ?_ ?_ | with_reducible refine OLe.bind ?_ (fun _ => ?_) | refine OLe.bind ?_ (fun _ => ?_) | refine OLe.ite ?_ ?_ | refine OLe.elim (fun _ => ?_) (fun _ => ?_) | split)
set_option maxHeartbeats 1000000 in
set_option maxRecDepth 100000 in
theorem status_Writers_Begin_Z.con (k : Nat) (M : Hp)  (r : Int)  (hg0 : ∃ gt fr, M 0 = some (.cells #[.int .u8 0, .int .u8 0, .int .u8 1, .int .u8 1, .int .u8 2] gt fr)) (h : status_Writers_Begin_Z k  = some r) : Con Tryd.prog 16 #[.pointer none] M [] (fun v M' Γ' => v = .int .i64 r ∧ Γ' = []) := by
  refine con_of_wp Tryd.func16 rfl Tryd.ntmps16 Tryd.results16 rfl ?_
  intro w F rn S hrn
  have E := Ext.refl w
  have HM := Hp.le_refl M
  have H := h
  unfold status_Writers_Begin_Z at H
  refine Wp_seq ?_
  refine Wp_region_lit ?_
  refine W_v (.int .i64 0) (x_assign rfl) rfl ?_
  refine Wl_nil ?_
  refine tn ?_
  refine Wp_seq ?_
  refine Wp_seq ?_
  refine Wp_region_lit ?_
  refine W_v (.pointer none) (x_move rfl) rfl ?_
  refine W_v (.bool true) (x_eq_of (r := true) rfl rfl (run_eq_ptrnn Tryd.underlying24)) rfl ?_
  refine Wl_nil ?_
  refine tn ?_
  refine Wp_cond_true rfl ?_
  refine Wp_seq ?_
  refine Wp_region_lit ?_
  refine W_v (.int .i64 0) (x_assign rfl) rfl ?_
  refine Wl_nil ?_
  refine tn ?_
  refine Wp_ret ?_
  refine tr (?_)
  obtain rfl := Option.some.inj H
  exact ⟨_, _, _, fun w1 e1 => run_resR (vs := [.int .i64 0]) (FA.cons (rfl) (FA.nil)), HM, E, S.pick [] (by decide), ⟨rfl, rfl⟩⟩
/-! ### (*ferryman/status.Writers).may: function 33 -/
def status_Writers_may_Z (k : Nat) (a1 : Int) (a2 : Int) : Option (Int) :=
  some (2 : Int)
set_option maxHeartbeats 2000000 in
theorem status_Writers_may_Z.mono {k : Nat} {a1 : Int} {a2 : Int} : OLe (status_Writers_may_Z k a1 a2) (status_Writers_may_Z (k + 1) a1 a2) := by
  unfold status_Writers_may_Z
  repeat' (first | with_reducible exact OLe.none | with_reducible exact OLe.some | with_reducible refine OLe.ite ?_ ?_ | with_reducible refine OLe.bind ?_ (fun _ => ?_) | refine OLe.bind ?_ (fun _ => ?_) | refine OLe.ite ?_ ?_ | refine OLe.elim (fun _ => ?_) (fun _ => ?_) | split)
set_option maxHeartbeats 1000000 in
set_option maxRecDepth 100000 in
theorem status_Writers_may_Z.con (k : Nat) (M : Hp) (a1 : Int) (a2 : Int) (r : Int)  (hg0 : ∃ gt fr, M 0 = some (.cells #[.int .u8 0, .int .u8 0, .int .u8 1, .int .u8 1, .int .u8 2] gt fr)) (h : status_Writers_may_Z k a1 a2 = some r) : Con Tryd.prog 33 #[.pointer none, .int .i64 a1, .int .u8 a2] M [] (fun v M' Γ' => v = .int .i64 r ∧ Γ' = []) := by
  refine con_of_wp Tryd.func33 rfl Tryd.ntmps33 Tryd.results33 rfl ?_
  intro w F rn S hrn
  have E := Ext.refl w
  have HM := Hp.le_refl M
  have H := h
  unfold status_Writers_may_Z at H
  refine Wp_seq ?_
  refine Wp_region_lit ?_
  refine W_v (.int .i64 0) (x_assign rfl) rfl ?_
  refine Wl_nil ?_
  refine tn ?_
  refine Wp_seq ?_
  refine Wp_block ?_
  refine Wp_seq ?_
  refine Wp_region_lit ?_
  refine W_v (.pointer none) (x_move rfl) rfl ?_
  refine W_v (.bool true) (x_eq_of (r := true) rfl rfl (run_eq_ptrnn Tryd.underlying24)) rfl ?_
  refine W_v (.bool true) (x_assign rfl) rfl ?_
  refine Wl_nil ?_
  refine tn ?_
  refine Wp_cond_true rfl ?_
  refine Wp_seq ?_
  refine Wp_region_lit ?_
  refine W_v (.int .i64 2) (x_assign rfl) rfl ?_
  refine Wl_nil ?_
  refine tn ?_
  refine Wp_ret ?_
  refine br (tr (?_))
  obtain rfl := Option.some.inj H
  exact ⟨_, _, _, fun w1 e1 => run_resR (vs := [.int .i64 2]) (FA.cons (rfl) (FA.nil)), HM, E, S.pick [] (by decide), ⟨rfl, rfl⟩⟩
/-! ### (*ferryman/status.Writers).Commit: function 17 -/
def status_Writers_Commit_Z (k : Nat) (a1 : Int) (a2 : Int) : Option (Int) :=
  (Option.bind (status_Writers_may_Z k a1 (3 : Int)) (fun t1 => (if (t1 != (0 : Int)) = true then some t1 else (Option.bind (α := Unit) (if (a2 != (0 : Int)) = true then none else some ()) (fun _ => none)))))
set_option maxHeartbeats 2000000 in
theorem status_Writers_Commit_Z.mono {k : Nat} {a1 : Int} {a2 : Int} : OLe (status_Writers_Commit_Z k a1 a2) (status_Writers_Commit_Z (k + 1) a1 a2) := by
  unfold status_Writers_Commit_Z
  repeat' (first | with_reducible exact OLe.none | with_reducible exact OLe.some | with_reducible refine OLe.ite ?_ ?_ | with_reducible refine OLe.bind ?_ (fun _ => ?_) | with_reducible exact status_Writers_may_Z.mono | refine OLe.bind ?_ (fun _ => ?_) | refine OLe.ite ?_ ?_ | refine OLe.elim (fun _ => ?_) (fun _ => ?_) | split)
set_option maxHeartbeats 1000000 in
set_option maxRecDepth 100000 in
theorem status_Writers_Commit_Z.con (k : Nat) (M : Hp) (a1 : Int) (a2 : Int) (r : Int)  (hg0 : ∃ gt fr, M 0 = some (.cells #[.int .u8 0, .int .u8 0, .int .u8 1, .int .u8 1, .int .u8 2] gt fr)) (h : status_Writers_Commit_Z k a1 a2 = some r) : Con Tryd.prog 17 #[.pointer none, .int .i64 a1, .int .i64 a2] M [] (fun v M' Γ' => v = .int .i64 r ∧ Γ' = []) := by
  refine con_of_wp Tryd.func17 rfl Tryd.ntmps17 Tryd.results17 rfl ?_
  intro w F rn S hrn
  have E := Ext.refl w
  have HM := Hp.le_refl M
  have H := h
  unfold status_Writers_Commit_Z at H
  refine Wp_seq ?_
  refine Wp_region_lit ?_
  refine W_v (.int .i64 0) (x_assign rfl) rfl ?_
  refine Wl_nil ?_
  refine tn ?_
  refine Wp_seq ?_
  refine Wp_seq ?_
  refine Wp_region_lit ?_
  refine W_v (.pointer none) (x_move rfl) rfl ?_
  refine W_v (.int .i64 a1) (x_move rfl) rfl ?_
  obtain ⟨t1, ht2, H⟩ := bindS H
  refine W_callF2 fn33 (status_Writers_may_Z.con k M a1 (3 : Int) t1 hg0 ht2) (Γ1 := []) (Γ2 := []) S rfl rfl (by rintro _ _ _ ⟨rfl, rfl⟩; exact flat_nil) ?_
  rintro _ w3 _ Γ' E' S ⟨rfl, rfl⟩
  replace E := E.trans E'
  clear E'
  replace S : St w3 M F [] := S
  refine W_v (.int .i64 t1) (x_assign rfl) rfl ?_
  refine Wl_nil ?_
  refine tn ?_
  refine Wp_seq ?_
  refine Wp_region_lit ?_
  refine W_v (.int .i64 t1) (x_move rfl) rfl ?_
  refine W_v (.bool (t1 != (0 : Int))) (x_ibin rfl rfl rfl rfl) rfl ?_
  refine Wl_nil ?_
  refine tn ?_
  rcases iteS H with ⟨hb6, H⟩ | ⟨hb6, H⟩
  · refine Wp_cond_true (congrArg Value.bool hb6) ?_
    refine Wp_seq ?_
    refine Wp_region_lit ?_
    refine W_v (.int .i64 t1) (x_move rfl) rfl ?_
    refine W_v (.int .i64 t1) (x_assign rfl) rfl ?_
    refine Wl_nil ?_
    refine tn ?_
    refine Wp_ret ?_
    refine tr (?_)
    obtain rfl := Option.some.inj H
    exact ⟨_, _, _, fun w1 e1 => run_resR (vs := [.int .i64 t1]) (FA.cons (rfl) (FA.nil)), HM, E, S.pick [] (by decide), ⟨rfl, rfl⟩⟩
  refine Wp_cond_false (congrArg Value.bool hb6) ?_
  refine Wp_skip ?_
  refine tn ?_
  refine Wp_seq ?_
  refine Wp_seq ?_
  refine Wp_region_lit ?_
  refine W_v (.int .i64 a2) (x_move rfl) rfl ?_
  refine W_v (.bool (a2 != (0 : Int))) (x_ibin rfl rfl rfl rfl) rfl ?_
  refine W_v (.bool (a2 != (0 : Int))) (x_move rfl) rfl ?_
  obtain ⟨o8, o8h, o8H⟩ := bindS H
  clear H
  refine Wl_cutN 11 (fun ρ w' => () = o8 ∧ Agree ρ [(0, .pointer none), (1, .int .i64 a1), (2, .int .i64 a2), (27, .bool false)] ∧ Ext w w' ∧ St w' M F []) ?_ ?_
  · have H := o8h
    rcases iteS H with ⟨hb7, H⟩ | ⟨hb7, H⟩
    · skip
      refine W_yes (congrArg some hb7) ?_
      refine W_v (.int .i64 a2) (x_move rfl) rfl ?_
      refine W_yes (congrArg some hb7) ?_
      refine W_v (.pointer none) (x_move rfl) rfl ?_
      refine W_yes (congrArg some hb7) ?_
      cases H
    · skip
      refine W_no (skT hb7) rfl ?_
      refine W_no (skT hb7) rfl ?_
      refine W_no (skT hb7) rfl ?_
      refine W_no (skT hb7) rfl ?_
      refine W_no (skT hb7) rfl ?_
      refine W_no (skT hb7) rfl ?_
      refine W_no (skT hb7) rfl ?_
      refine W_no (rfl) rfl ?_
      refine W_no (rfl) rfl ?_
      refine W_no (skT hb7) rfl ?_
      refine W_v (.bool false) (x_pick (k := false) (congrArg Value.bool hb7) rfl) rfl ?_
      refine Wl_nil ?_
      exact ⟨Option.some.inj H, ⟨rfl, rfl, rfl, rfl, trivial⟩, E, S.pick [] (by decide)⟩
  clear o8h
  rintro ρ w9 ⟨rfl, hρ, E, S⟩
  rw [agree_eta hρ]
  clear hρ
  have H := o8H
  clear o8H
  refine Wl_nil ?_
  refine tn ?_
  refine Wp_cond_false rfl ?_
  refine Wp_skip ?_
  refine tn ?_
  refine Wp_seq ?_
  refine Wp_region_lit ?_
  refine W_v (.pointer none) (x_move rfl) rfl ?_
  cases H
/-! ### (*ferryman/status.Writers).turn: function 34 -/
def status_Writers_turn_Z (k : Nat) (a1 : Int) (a2 : Int) : Option (Int) :=
  (Option.bind (status_Writers_may_Z k a1 a2) (fun t1 => (Option.bind (α := Unit) (if (t1 == (0 : Int)) = true then none else some ()) (fun _ => some t1))))
set_option maxHeartbeats 2000000 in
theorem status_Writers_turn_Z.mono {k : Nat} {a1 : Int} {a2 : Int} : OLe (status_Writers_turn_Z k a1 a2) (status_Writers_turn_Z (k + 1) a1 a2) := by
  unfold status_Writers_turn_Z
  repeat' (first | with_reducible exact OLe.none | with_reducible exact OLe.some | with_reducible refine OLe.ite ?_ ?_ | with_reducible refine OLe.bind ?_ (fun _ => ?_) | with_reducible exact status_Writers_may_Z.mono | refine OLe.bind ?_ (fun _ => ?_) | refine OLe.ite ?_ ?_ | refine OLe.elim (fun _ => ?_) (fun _ => ?_) | split)
set_option maxHeartbeats 1000000 in
set_option maxRecDepth 100000 in
theorem status_Writers_turn_Z.con (k : Nat) (M : Hp) (a1 : Int) (a2 : Int) (r : Int)  (hg0 : ∃ gt fr, M 0 = some (.cells #[.int .u8 0, .int .u8 0, .int .u8 1, .int .u8 1, .int .u8 2] gt fr)) (h : status_Writers_turn_Z k a1 a2 = some r) : Con Tryd.prog 34 #[.pointer none, .int .i64 a1, .int .u8 a2] M [] (fun v M' Γ' => v = .int .i64 r ∧ Γ' = []) := by
  refine con_of_wp Tryd.func34 rfl Tryd.ntmps34 Tryd.results34 rfl ?_
  intro w F rn S hrn
  have E := Ext.refl w
  have HM := Hp.le_refl M
  have H := h
  unfold status_Writers_turn_Z at H
  refine Wp_seq ?_
  refine Wp_region_lit ?_
  refine W_v (.int .i64 0) (x_assign rfl) rfl ?_
  refine Wl_nil ?_
  refine tn ?_
  refine Wp_seq ?_
  refine Wp_region_lit ?_
  refine W_v (.pointer none) (x_move rfl) rfl ?_
  refine W_v (.int .i64 a1) (x_move rfl) rfl ?_
  refine W_v (.int .u8 a2) (x_move rfl) rfl ?_
  obtain ⟨t1, ht2, H⟩ := bindS H
  refine W_callF2 fn33 (status_Writers_may_Z.con k M a1 a2 t1 hg0 ht2) (Γ1 := []) (Γ2 := []) S rfl rfl (by rintro _ _ _ ⟨rfl, rfl⟩; exact flat_nil) ?_
  rintro _ w3 _ Γ' E' S ⟨rfl, rfl⟩
  replace E := E.trans E'
  clear E'
  replace S : St w3 M F [] := S
  refine W_v (.int .i64 t1) (x_assign rfl) rfl ?_
  refine Wl_nil ?_
  refine tn ?_
  refine Wp_seq ?_
  refine Wp_seq ?_
  refine Wp_region_lit ?_
  refine W_v (.int .i64 t1) (x_move rfl) rfl ?_
  refine W_v (.bool (t1 == (0 : Int))) (x_ibin rfl rfl rfl rfl) rfl ?_
  refine Wl_nil ?_
  refine tn ?_
  obtain ⟨o7, o7h, o7H⟩ := bindS H
  refine Wp_cut (fun ρ w' => () = o7 ∧ Agree ρ [(7, .int .i64 t1)] ∧ Ext w w' ∧ St w' M F []) ?_ ?_
  · clear o7H
    have H := o7h
    clear o7h
    rcases iteS H with ⟨hb8, H⟩ | ⟨hb8, H⟩
    · refine Wp_cond_true (congrArg Value.bool hb8) ?_
      refine Wp_region_lit ?_
      refine W_v (.pointer none) (x_move rfl) rfl ?_
      cases H
    refine Wp_cond_false (congrArg Value.bool hb8) ?_
    refine Wp_skip ?_
    refine tn ?_
    exact ⟨Option.some.inj H, ⟨rfl, trivial⟩, E, S.pick [] (by decide)⟩
  clear o7h
  rintro ρ w9 ⟨rfl, hρ, E, S⟩
  rw [agree_eta hρ]
  clear hρ
  have H := o7H
  clear o7H
  refine tn ?_
  refine Wp_seq ?_
  refine Wp_region_lit ?_
  refine W_v (.int .i64 t1) (x_move rfl) rfl ?_
  refine W_v (.int .i64 t1) (x_assign rfl) rfl ?_
  refine Wl_nil ?_
  refine tn ?_
  refine Wp_ret ?_
  obtain rfl := Option.some.inj H
  exact ⟨_, _, _, fun w1 e1 => run_resR (vs := [.int .i64 t1]) (FA.cons (rfl) (FA.nil)), HM, E, S.pick [] (by decide), ⟨rfl, rfl⟩⟩
/-! ### (*ferryman/status.Writers).Fall: function 18 -/
def status_Writers_Fall_Z (k : Nat) (a1 : Int) : Option (Int) :=
  (Option.bind (status_Writers_turn_Z k a1 (2 : Int)) (fun t1 => some t1))
set_option maxHeartbeats 2000000 in
theorem status_Writers_Fall_Z.mono {k : Nat} {a1 : Int} : OLe (status_Writers_Fall_Z k a1) (status_Writers_Fall_Z (k + 1) a1) := by
  unfold status_Writers_Fall_Z
  repeat' (first | with_reducible exact OLe.none | with_reducible exact OLe.some | with_reducible refine OLe.ite ?_ ?_ | with_reducible refine OLe.bind ?_ (fun _ => ?_) | with_reducible exact status_Writers_turn_Z.mono | refine OLe.bind ?_ (fun _ => ?_) | refine OLe.ite ?_ ?_ | refine OLe.elim (fun _ => ?_) (fun _ => ?_) | split)
set_option maxHeartbeats 1000000 in
set_option maxRecDepth 100000 in
theorem status_Writers_Fall_Z.con (k : Nat) (M : Hp) (a1 : Int) (r : Int)  (hg0 : ∃ gt fr, M 0 = some (.cells #[.int .u8 0, .int .u8 0, .int .u8 1, .int .u8 1, .int .u8 2] gt fr)) (h : status_Writers_Fall_Z k a1 = some r) : Con Tryd.prog 18 #[.pointer none, .int .i64 a1] M [] (fun v M' Γ' => v = .int .i64 r ∧ Γ' = []) := by
  refine con_of_wp Tryd.func18 rfl Tryd.ntmps18 Tryd.results18 rfl ?_
  intro w F rn S hrn
  have E := Ext.refl w
  have HM := Hp.le_refl M
  have H := h
  unfold status_Writers_Fall_Z at H
  refine Wp_seq ?_
  refine Wp_region_lit ?_
  refine W_v (.int .i64 0) (x_assign rfl) rfl ?_
  refine Wl_nil ?_
  refine tn ?_
  refine Wp_seq ?_
  refine Wp_region_lit ?_
  refine W_v (.pointer none) (x_move rfl) rfl ?_
  refine W_v (.int .i64 a1) (x_move rfl) rfl ?_
  obtain ⟨t1, ht2, H⟩ := bindS H
  refine W_callF2 fn34 (status_Writers_turn_Z.con k M a1 (2 : Int) t1 hg0 ht2) (Γ1 := []) (Γ2 := []) S rfl rfl (by rintro _ _ _ ⟨rfl, rfl⟩; exact flat_nil) ?_
  rintro _ w3 _ Γ' E' S ⟨rfl, rfl⟩
  replace E := E.trans E'
  clear E'
  replace S : St w3 M F [] := S
  refine W_v (.int .i64 t1) (x_assign rfl) rfl ?_
  refine Wl_nil ?_
  refine tn ?_
  refine Wp_ret ?_
  obtain rfl := Option.some.inj H
  exact ⟨_, _, _, fun w1 e1 => run_resR (vs := [.int .i64 t1]) (FA.cons (rfl) (FA.nil)), HM, E, S.pick [] (by decide), ⟨rfl, rfl⟩⟩
/-! ### (*ferryman/status.Writers).Fallen: function 19 -/
def status_Writers_Fallen_Z (k : Nat) (a1 : Int) : Option (Int) :=
  (Option.bind (status_Writers_turn_Z k a1 (4 : Int)) (fun t1 => some t1))
set_option maxHeartbeats 2000000 in
theorem status_Writers_Fallen_Z.mono {k : Nat} {a1 : Int} : OLe (status_Writers_Fallen_Z k a1) (status_Writers_Fallen_Z (k + 1) a1) := by
  unfold status_Writers_Fallen_Z
  repeat' (first | with_reducible exact OLe.none | with_reducible exact OLe.some | with_reducible refine OLe.ite ?_ ?_ | with_reducible refine OLe.bind ?_ (fun _ => ?_) | with_reducible exact status_Writers_turn_Z.mono | refine OLe.bind ?_ (fun _ => ?_) | refine OLe.ite ?_ ?_ | refine OLe.elim (fun _ => ?_) (fun _ => ?_) | split)
set_option maxHeartbeats 1000000 in
set_option maxRecDepth 100000 in
theorem status_Writers_Fallen_Z.con (k : Nat) (M : Hp) (a1 : Int) (r : Int)  (hg0 : ∃ gt fr, M 0 = some (.cells #[.int .u8 0, .int .u8 0, .int .u8 1, .int .u8 1, .int .u8 2] gt fr)) (h : status_Writers_Fallen_Z k a1 = some r) : Con Tryd.prog 19 #[.pointer none, .int .i64 a1] M [] (fun v M' Γ' => v = .int .i64 r ∧ Γ' = []) := by
  refine con_of_wp Tryd.func19 rfl Tryd.ntmps19 Tryd.results19 rfl ?_
  intro w F rn S hrn
  have E := Ext.refl w
  have HM := Hp.le_refl M
  have H := h
  unfold status_Writers_Fallen_Z at H
  refine Wp_seq ?_
  refine Wp_region_lit ?_
  refine W_v (.int .i64 0) (x_assign rfl) rfl ?_
  refine Wl_nil ?_
  refine tn ?_
  refine Wp_seq ?_
  refine Wp_region_lit ?_
  refine W_v (.pointer none) (x_move rfl) rfl ?_
  refine W_v (.int .i64 a1) (x_move rfl) rfl ?_
  obtain ⟨t1, ht2, H⟩ := bindS H
  refine W_callF2 fn34 (status_Writers_turn_Z.con k M a1 (4 : Int) t1 hg0 ht2) (Γ1 := []) (Γ2 := []) S rfl rfl (by rintro _ _ _ ⟨rfl, rfl⟩; exact flat_nil) ?_
  rintro _ w3 _ Γ' E' S ⟨rfl, rfl⟩
  replace E := E.trans E'
  clear E'
  replace S : St w3 M F [] := S
  refine W_v (.int .i64 t1) (x_assign rfl) rfl ?_
  refine Wl_nil ?_
  refine tn ?_
  refine Wp_ret ?_
  obtain rfl := Option.some.inj H
  exact ⟨_, _, _, fun w1 e1 => run_resR (vs := [.int .i64 t1]) (FA.cons (rfl) (FA.nil)), HM, E, S.pick [] (by decide), ⟨rfl, rfl⟩⟩
/-! ### (*ferryman/status.Writers).Of: function 12 -/
def status_Writers_Of_Z (k : Nat) (a1 : Int) : Option (Int × Int) :=
  some ((0 : Int), (0 : Int))
set_option maxHeartbeats 2000000 in
theorem status_Writers_Of_Z.mono {k : Nat} {a1 : Int} : OLe (status_Writers_Of_Z k a1) (status_Writers_Of_Z (k + 1) a1) := by
  unfold status_Writers_Of_Z
  repeat' (first | with_reducible exact OLe.none | with_reducible exact OLe.some | with_reducible refine OLe.ite ?_ ?_ | with_reducible refine OLe.bind ?_ (fun _ => ?_) | refine OLe.bind ?_ (fun _ => ?_) | refine OLe.ite ?_ ?_ | refine OLe.elim (fun _ => ?_) (fun _ => ?_) | split)
set_option maxHeartbeats 1000000 in
set_option maxRecDepth 100000 in
theorem status_Writers_Of_Z.con (k : Nat) (M : Hp) (a1 : Int) (r : Int × Int)  (hg0 : ∃ gt fr, M 0 = some (.cells #[.int .u8 0, .int .u8 0, .int .u8 1, .int .u8 1, .int .u8 2] gt fr)) (h : status_Writers_Of_Z k a1 = some r) : Con Tryd.prog 12 #[.pointer none, .int .i64 a1] M [] (fun v M' Γ' => v = .tuple #[.int .u8 r.1, .int .i64 r.2] ∧ Γ' = []) := by
  refine con_of_wp Tryd.func12 rfl Tryd.ntmps12 Tryd.results12 rfl ?_
  intro w F rn S hrn
  have E := Ext.refl w
  have HM := Hp.le_refl M
  have H := h
  unfold status_Writers_Of_Z at H
  refine Wp_seq ?_
  refine Wp_region_lit ?_
  refine W_v (.int .u8 0) (x_assign rfl) rfl ?_
  refine W_v (.int .i64 0) (x_assign rfl) rfl ?_
  refine Wl_nil ?_
  refine tn ?_
  refine Wp_seq ?_
  refine Wp_seq ?_
  refine Wp_region_lit ?_
  refine W_v (.pointer none) (x_move rfl) rfl ?_
  refine W_v (.bool true) (x_eq_of (r := true) rfl rfl (run_eq_ptrnn Tryd.underlying24)) rfl ?_
  refine W_v (.bool true) (x_move rfl) rfl ?_
  refine W_no (rfl) rfl ?_
  refine W_no (rfl) rfl ?_
  refine W_v (.bool true) (x_pick (k := true) rfl rfl) rfl ?_
  refine W_v (.bool true) (x_move rfl) rfl ?_
  refine W_no (rfl) rfl ?_
  refine W_no (rfl) rfl ?_
  refine W_no (rfl) rfl ?_
  refine W_no (rfl) rfl ?_
  refine W_no (rfl) rfl ?_
  refine W_no (rfl) rfl ?_
  refine W_no (rfl) rfl ?_
  refine W_v (.bool true) (x_pick (k := true) rfl rfl) rfl ?_
  refine Wl_nil ?_
  refine tn ?_
  refine Wp_cond_true rfl ?_
  refine Wp_seq ?_
  refine Wp_region_lit ?_
  refine W_v (.int .u8 0) (x_assign rfl) rfl ?_
  refine W_v (.int .i64 0) (x_assign rfl) rfl ?_
  refine Wl_nil ?_
  refine tn ?_
  refine Wp_ret ?_
  refine tr (?_)
  obtain rfl := Option.some.inj H
  exact ⟨_, _, _, fun w1 e1 => run_resR (vs := [.int .u8 0, .int .i64 0]) (FA.cons (rfl) (FA.cons (rfl) (FA.nil))), HM, E, S.pick [] (by decide), ⟨rfl, rfl⟩⟩
/-! ### ferryman/ferrymanlaw08.is: function 20 -/
def ferrymanlaw08_is_Z (k : Nat) (a1 : Int) (a2 : Int) (a3 : Int) : Option (Bool) :=
  (Option.bind (status_Writers_Of_Z k a1) (fun t1 => some (((IntKind.i64.wrap t1.1) == a2) && (t1.2 == a3))))
set_option maxHeartbeats 2000000 in
theorem ferrymanlaw08_is_Z.mono {k : Nat} {a1 : Int} {a2 : Int} {a3 : Int} : OLe (ferrymanlaw08_is_Z k a1 a2 a3) (ferrymanlaw08_is_Z (k + 1) a1 a2 a3) := by
  unfold ferrymanlaw08_is_Z
  repeat' (first | with_reducible exact OLe.none | with_reducible exact OLe.some | with_reducible refine OLe.ite ?_ ?_ | with_reducible refine OLe.bind ?_ (fun _ => ?_) | with_reducible exact status_Writers_Of_Z.mono | refine OLe.bind ?_ (fun _ => ?_) | refine OLe.ite ?_ ?_ | refine OLe.elim (fun _ => ?_) (fun _ => ?_) | split)
set_option maxHeartbeats 1000000 in
set_option maxRecDepth 100000 in
theorem ferrymanlaw08_is_Z.con (k : Nat) (M : Hp) (a1 : Int) (a2 : Int) (a3 : Int) (r : Bool)  (hg0 : ∃ gt fr, M 0 = some (.cells #[.int .u8 0, .int .u8 0, .int .u8 1, .int .u8 1, .int .u8 2] gt fr)) (h : ferrymanlaw08_is_Z k a1 a2 a3 = some r) : Con Tryd.prog 20 #[.pointer none, .int .i64 a1, .int .i64 a2, .int .i64 a3] M [] (fun v M' Γ' => v = .bool r ∧ Γ' = []) := by
  refine con_of_wp Tryd.func20 rfl Tryd.ntmps20 Tryd.results20 rfl ?_
  intro w F rn S hrn
  have E := Ext.refl w
  have HM := Hp.le_refl M
  have H := h
  unfold ferrymanlaw08_is_Z at H
  refine Wp_seq ?_
  refine Wp_region_lit ?_
  refine W_v (.bool false) (x_assign rfl) rfl ?_
  refine Wl_nil ?_
  refine tn ?_
  refine Wp_seq ?_
  refine Wp_region_lit ?_
  refine W_v (.pointer none) (x_move rfl) rfl ?_
  refine W_v (.int .i64 a1) (x_move rfl) rfl ?_
  obtain ⟨t1, ht2, H⟩ := bindS H
  refine W_callF2 fn12 (status_Writers_Of_Z.con k M a1 t1 hg0 ht2) (Γ1 := []) (Γ2 := []) S rfl rfl (by rintro _ _ _ ⟨rfl, rfl⟩; exact flat_nil) ?_
  rintro _ w3 _ Γ' E' S ⟨rfl, rfl⟩
  replace E := E.trans E'
  clear E'
  replace S : St w3 M F [] := S
  refine W_v (.tuple #[.int .u8 t1.1, .int .i64 t1.2]) (x_move rfl) rfl ?_
  refine W_v (.int .u8 t1.1) (x_extract rfl rfl) rfl ?_
  refine W_v (.int .i64 t1.2) (x_extract rfl rfl) rfl ?_
  refine W_v (.int .u8 t1.1) (x_assign rfl) rfl ?_
  refine W_v (.int .i64 t1.2) (x_assign rfl) rfl ?_
  refine Wl_nil ?_
  refine tn ?_
  refine Wp_seq ?_
  refine Wp_region_lit ?_
  refine W_v (.int .u8 t1.1) (x_move rfl) rfl ?_
  refine W_v (.int .i64 (IntKind.i64.wrap t1.1)) (x_conv_int Tryd.underlying5 Tryd.underlying3 rfl) rfl ?_
  refine W_v (.int .i64 a2) (x_move rfl) rfl ?_
  refine W_v (.bool ((IntKind.i64.wrap t1.1) == a2)) (x_ibin rfl rfl rfl rfl) rfl ?_
  refine W_v (.bool ((IntKind.i64.wrap t1.1) == a2)) (x_move rfl) rfl ?_
  refine Wl_cutN 4 (fun ρ w' => Agree ρ [(25, .bool (((IntKind.i64.wrap t1.1) == a2) && (t1.2 == a3)))] ∧ w3 = w') ?_ ?_
  · rcases boolCases ((IntKind.i64.wrap t1.1) == a2) with hb6 | hb6
    · skip
      refine W_no (skT hb6) rfl ?_
      refine W_no (skT hb6) rfl ?_
      refine W_no (skT hb6) rfl ?_
      refine W_v (.bool false) (x_pick (k := false) (congrArg Value.bool hb6) rfl) rfl ?_
      refine Wl_nil ?_
      exact ⟨⟨(by first | rfl | (rw [hb6]; rfl) | (simp only [hb6]; rfl)), trivial⟩, rfl⟩
    · skip
      refine W_yes (congrArg some hb6) ?_
      refine W_v (.int .i64 t1.2) (x_move rfl) rfl ?_
      refine W_yes (congrArg some hb6) ?_
      refine W_v (.int .i64 a3) (x_move rfl) rfl ?_
      refine W_yes (congrArg some hb6) ?_
      refine W_v (.bool (t1.2 == a3)) (x_ibin rfl rfl rfl rfl) rfl ?_
      refine W_v (.bool (t1.2 == a3)) (x_pick (k := true) (congrArg Value.bool hb6) rfl) rfl ?_
      refine Wl_nil ?_
      exact ⟨⟨(by first | rfl | (rw [hb6]; rfl) | (simp only [hb6]; rfl)), trivial⟩, rfl⟩
  rintro ρ _ ⟨hρ, rfl⟩
  rw [agree_eta hρ]
  clear hρ
  refine W_v (.bool (((IntKind.i64.wrap t1.1) == a2) && (t1.2 == a3))) (x_assign rfl) rfl ?_
  refine Wl_nil ?_
  refine tn ?_
  refine Wp_ret ?_
  obtain rfl := Option.some.inj H
  exact ⟨_, _, _, fun w1 e1 => run_resR (vs := [.bool (((IntKind.i64.wrap t1.1) == a2) && (t1.2 == a3))]) (FA.cons (rfl) (FA.nil)), HM, E, S.pick [] (by decide), ⟨rfl, rfl⟩⟩
/-! ### (*ferryman/status.Writers).those: function 32 -/
def status_Writers_those_Z (k : Nat) (a1 : (List Int)) : Option (Unit) :=
  some ()
set_option maxHeartbeats 2000000 in
theorem status_Writers_those_Z.mono {k : Nat} {a1 : (List Int)} : OLe (status_Writers_those_Z k a1) (status_Writers_those_Z (k + 1) a1) := by
  unfold status_Writers_those_Z
  repeat' (first | with_reducible exact OLe.none | with_reducible exact OLe.some | with_reducible refine OLe.ite ?_ ?_ | with_reducible refine OLe.bind ?_ (fun _ => ?_) | refine OLe.bind ?_ (fun _ => ?_) | refine OLe.ite ?_ ?_ | refine OLe.elim (fun _ => ?_) (fun _ => ?_) | split)
set_option maxHeartbeats 1000000 in
set_option maxRecDepth 100000 in
theorem status_Writers_those_Z.con (k : Nat) (M : Hp) (A1 : Option Addr) (c1 : Nat) (a1 : (List Int)) (r : Unit) (hr1 : SlR (rInt .u8) M (.slice A1 a1.length c1) a1) (hg0 : ∃ gt fr, M 0 = some (.cells #[.int .u8 0, .int .u8 0, .int .u8 1, .int .u8 1, .int .u8 2] gt fr)) (h : status_Writers_those_Z k a1 = some r) : Con Tryd.prog 32 #[.pointer none, .slice A1 a1.length c1] M [] (fun v M' Γ' => ∃ (bq1 : Nat) (bq3 : Nat), v = .func (.func 42) #[] #[.pointer (some ⟨bq1, 0, none⟩), .pointer (some ⟨bq3, 0, none⟩)] ∧ Γ' = [Blk bq1 (.cells #[.pointer none] 24 (0, 0)), Blk bq3 (.cells #[.slice A1 a1.length c1] 63 (0, 0))]) := by
  refine con_of_wp Tryd.func32 rfl Tryd.ntmps32 Tryd.results32 rfl ?_
  intro w F rn S hrn
  have E := Ext.refl w
  have HM := Hp.le_refl M
  have H := h
  unfold status_Writers_those_Z at H
  refine Wp_seq ?_
  refine Wp_region_lit ?_
  refine W_box S #[.pointer none] rfl rfl rfl ?_
  intro b1 w2 E' S
  replace E := E.trans E'
  clear E'
  refine W_box S #[.slice A1 a1.length c1] rfl rfl rfl ?_
  intro b4 w5 E' S
  replace E := E.trans E'
  clear E'
  refine W_v (.nilFunc) (x_assign rfl) rfl ?_
  refine Wl_nil ?_
  refine tn ?_
  refine Wp_seq ?_
  refine Wp_region_lit ?_
  refine W_v (.func (.func 42) #[] #[.pointer (some ⟨b1, 0, none⟩), .pointer (some ⟨b4, 0, none⟩)]) (x_makeFunc rfl) rfl ?_
  refine W_v (.func (.func 42) #[] #[.pointer (some ⟨b1, 0, none⟩), .pointer (some ⟨b4, 0, none⟩)]) (x_assign rfl) rfl ?_
  refine Wl_nil ?_
  refine tn ?_
  refine Wp_ret ?_
  obtain rfl := Option.some.inj H
  exact ⟨_, _, _, fun w1 e1 => run_resR (vs := [.func (.func 42) #[] #[.pointer (some ⟨b1, 0, none⟩), .pointer (some ⟨b4, 0, none⟩)]]) (FA.cons (rfl) (FA.nil)), HM, E, S.pick [1, 0] (by decide), ⟨b1, b4, rfl, rfl⟩⟩
/-! ### (*ferryman/status.Writers).those$1: function 42 -/
def status_Writers_those_1_Z {σ ε : Type} (k : Nat) (a_1 : (List Int)) (bd : Int → σ → Option (σ ⊕ ε)) (s0 : σ) : Option (σ ⊕ ε) :=
  some (.inl s0)
set_option maxHeartbeats 2000000 in
theorem status_Writers_those_1_Z.mono {σ ε : Type} {k : Nat} {a_1 : (List Int)} {bd bd' : Int → σ → Option (σ ⊕ ε)} (hbd : ∀ x s, OLe (bd x s) (bd' x s)) {s0 : σ} : OLe (status_Writers_those_1_Z k a_1 bd s0) (status_Writers_those_1_Z (k + 1) a_1 bd' s0) := by
  unfold status_Writers_those_1_Z
  repeat' (first | with_reducible exact OLe.none | with_reducible exact OLe.some | with_reducible refine OLe.ite ?_ ?_ | with_reducible refine OLe.bind ?_ (fun _ => ?_) | exact OLe.toL | exact hbd _ _ | refine OLe.bind ?_ (fun _ => ?_) | refine OLe.ite ?_ ?_ | refine OLe.elim (fun _ => ?_) (fun _ => ?_) | split)
set_option maxHeartbeats 2000000 in
set_option maxRecDepth 100000 in
theorem status_Writers_those_1_Z.con {σ ε : Type} (k : Nat) (M : Hp) (A_1 : Option Addr) (c_1 : Nat) (a_1 : (List Int)) (b_0 : Nat) (b_1 : Nat) (bd : Int → σ → Option (σ ⊕ ε)) (s0 : σ) (r : σ ⊕ ε) (hr_1 : SlR (rInt .u8) M (.slice A_1 a_1.length c_1) a_1) (hg0 : ∃ gt fr, M 0 = some (.cells #[.int .u8 0, .int .u8 0, .int .u8 1, .int .u8 1, .int .u8 2] gt fr)) (h : status_Writers_those_1_Z k a_1 bd s0 = some r) : Iter Tryd.prog 42 [.pointer (some ⟨b_0, 0, none⟩), .pointer (some ⟨b_1, 0, none⟩)] M (fun (M : Hp) (x : Int) (vs : List Value) => vs = [.int .i64 x]) bd s0 r [Blk b_0 (.cells #[.pointer none] 24 (0, 0)), Blk b_1 (.cells #[.slice A_1 a_1.length c_1] 63 (0, 0))] (fun M' Γ' => Γ' = [Blk b_0 (.cells #[.pointer none] 24 (0, 0)), Blk b_1 (.cells #[.slice A_1 a_1.length c_1] 63 (0, 0))]) := by
  intro lp B hY
  refine con_of_wp Tryd.func42 rfl Tryd.ntmps42 Tryd.results42 rfl ?_
  intro w F rn S hrn
  have E := Ext.refl w
  have HM := Hp.le_refl M
  have H := h
  unfold status_Writers_those_1_Z at H
  refine Wp_seq ?_
  refine Wp_seq ?_
  refine Wp_region_lit ?_
  refine W_v (.pointer none) (x_load (S.blk 1 rfl) ty24 rfl rfl) rfl ?_
  refine W_v (.bool true) (x_eq_of (r := true) rfl rfl (run_eq_ptrnn Tryd.underlying24)) rfl ?_
  refine Wl_nil ?_
  refine tn ?_
  refine Wp_cond_true rfl ?_
  refine Wp_ret ?_
  refine tr (?_)
  obtain rfl := Option.some.inj H
  exact ⟨_, _, _, fun w1 e1 => run_resR (vs := []) FA.nil, HM, E, S.pick [0, 1, 2] (by decide), ⟨_, rfl, rfl⟩⟩
/-! ### slices.AppendSeq[[]int,int]: function 41 -/
def slices_AppendSeq_int_int_N_Writers_those_1_Z_b0 (k : Nat) : Int → (List Int) → Option ((List Int) ⊕ (Unit))
  | y60, x39 => (if x39.length + ([y60] : List Int).length ≤ 17592186044416 then some (.inl (x39 ++ ([y60] : List Int))) else none)
set_option maxHeartbeats 2000000 in
theorem slices_AppendSeq_int_int_N_Writers_those_1_Z_b0.mono {k : Nat} : ∀ x s, OLe (slices_AppendSeq_int_int_N_Writers_those_1_Z_b0  k x s) (slices_AppendSeq_int_int_N_Writers_those_1_Z_b0  (k + 1) x s) := by
  intro x s
  unfold slices_AppendSeq_int_int_N_Writers_those_1_Z_b0
  repeat' (first | with_reducible exact OLe.none | with_reducible exact OLe.some | with_reducible refine OLe.ite ?_ ?_ | with_reducible refine OLe.bind ?_ (fun _ => ?_) | refine OLe.bind ?_ (fun _ => ?_) | refine OLe.ite ?_ ?_ | refine OLe.elim (fun _ => ?_) (fun _ => ?_) | split)
def slices_AppendSeq_int_int_N_Writers_those_1_Z (k : Nat) (a1_1 : (List Int)) : Option ((List Int)) :=
  (Option.bind (status_Writers_those_1_Z k a1_1 (slices_AppendSeq_int_int_N_Writers_those_1_Z_b0 k) ([] : List Int)) (fun o56o => Sum.elim (fun x39 => some x39) (fun _ => none) o56o))
set_option maxHeartbeats 2000000 in
theorem slices_AppendSeq_int_int_N_Writers_those_1_Z.mono {k : Nat} {a1_1 : (List Int)} : OLe (slices_AppendSeq_int_int_N_Writers_those_1_Z k a1_1) (slices_AppendSeq_int_int_N_Writers_those_1_Z (k + 1) a1_1) := by
  unfold slices_AppendSeq_int_int_N_Writers_those_1_Z
  repeat' (first | with_reducible exact OLe.none | with_reducible exact OLe.some | with_reducible refine OLe.ite ?_ ?_ | with_reducible refine OLe.bind ?_ (fun _ => ?_) | with_reducible exact slices_AppendSeq_int_int_N_Writers_those_1_Z_b0.mono | exact status_Writers_those_1_Z.mono (fun _ _ => by first | exact slices_AppendSeq_int_int_N_Writers_those_1_Z_b0.mono _ _) | refine OLe.bind ?_ (fun _ => ?_) | refine OLe.ite ?_ ?_ | refine OLe.elim (fun _ => ?_) (fun _ => ?_) | split)
set_option maxHeartbeats 1000000 in
set_option maxRecDepth 100000 in
theorem slices_AppendSeq_int_int_N_Writers_those_1_Z.con (k : Nat) (M : Hp) (A1_1 : Option Addr) (c1_1 : Nat) (a1_1 : (List Int)) (b1_0 : Nat) (b1_1 : Nat) (r : (List Int)) (hr1_1 : SlR (rInt .u8) M (.slice A1_1 a1_1.length c1_1) a1_1) (hg0 : ∃ gt fr, M 0 = some (.cells #[.int .u8 0, .int .u8 0, .int .u8 1, .int .u8 1, .int .u8 2] gt fr)) (h : slices_AppendSeq_int_int_N_Writers_those_1_Z k a1_1 = some r) : Con Tryd.prog 41 #[.slice none 0 0, .func (.func 42) #[] #[.pointer (some ⟨b1_0, 0, none⟩), .pointer (some ⟨b1_1, 0, none⟩)]] M [Blk b1_0 (.cells #[.pointer none] 24 (0, 0)), Blk b1_1 (.cells #[.slice A1_1 a1_1.length c1_1] 63 (0, 0))] (fun v M' Γ' => ∃ (Aq1 : Option Addr) (cq2 : Nat), v = .slice Aq1 r.length cq2 ∧ Γ' = [Row (rInt .i64) 3 (.slice Aq1 r.length cq2) r, Blk b1_0 (.cells #[.pointer none] 24 (0, 0)), Blk b1_1 (.cells #[.slice A1_1 a1_1.length c1_1] 63 (0, 0))]) := by
  refine con_of_wp Tryd.func41 rfl Tryd.ntmps41 Tryd.results41 rfl ?_
  intro w F rn S hrn
  have E := Ext.refl w
  have HM := Hp.le_refl M
  have H := h
  unfold slices_AppendSeq_int_int_N_Writers_those_1_Z at H
  refine Wp_seq ?_
  refine Wp_region_lit ?_
  refine W_box S #[.slice none 0 0] rfl rfl rfl ?_
  intro b1 w2 E' S
  replace E := E.trans E'
  clear E'
  refine W_v (.slice none 0 0) (x_assign rfl) rfl ?_
  refine Wl_nil ?_
  refine tn ?_
  refine Wp_seq ?_
  refine Wp_seq ?_
  refine Wp_region_lit ?_
  refine W_v (.func (.func 42) #[] #[.pointer (some ⟨b1_0, 0, none⟩), .pointer (some ⟨b1_1, 0, none⟩)]) (x_move rfl) rfl ?_
  refine Wl_nil ?_
  refine tn ?_
  refine Wp_block ?_
  obtain ⟨o56, o56h, o56H⟩ := bindS H
  clear H
  replace S := S.row_nil (rInt .i64) 3
  refine Wp_rangeFunc (σ := List Int) (ε := Unit) (Γi := [Blk b1_0 (.cells #[.pointer none] 24 (0, 0)), Blk b1_1 (.cells #[.slice A1_1 a1_1.length c1_1] 63 (0, 0))]) (Γr := []) (Sum.elim (fun x39 => AE (ι := Option Addr × Nat) (fun ⟨A40, c41⟩ => [Row (rInt .i64) 3 (.slice A40 x39.length c41) x39, Blk b1 (.cells #[.slice A40 x39.length c41] 32 (0, 0))]) (fun _ _ => True) (fun _ _ _ _ _ => trivial)) (fun _ => Star [])) (fun _ => Code.ret) fn42 rfl (St.close_ex (φ := (fun _ _ => True)) (hφ := (fun _ _ _ _ _ => trivial)) (none, 0) trivial (S.pick [0, 1, 2, 3] (by decide))) (by rintro _ _ _ rfl; rfl) (by decide) (status_Writers_those_1_Z.con k M A1_1 c1_1 a1_1 b1_0 b1_1 (slices_AppendSeq_int_int_N_Writers_those_1_Z_b0 k) ([] : List Int) o56 hr1_1 hg0 o56h) ?_ ?_
  · intro nn lp M58 F y60 vs x39 tt w hM59 henc hbd S
    obtain rfl := henc
    replace hg0 : ∃ gt fr, _ := (let ⟨gt, fr, h8⟩ := hg0; ⟨gt, fr, hM59 _ _ h8⟩)
    replace HM := Hp.le_trans HM hM59
    replace hr1_1 := SlR.mono hr1_1 hM59
    replace S : St w M58 F (AE (ι := Option Addr × Nat) (fun ⟨A40, c41⟩ => [Row (rInt .i64) 3 (.slice A40 x39.length c41) x39, Blk b1 (.cells #[.slice A40 x39.length c41] 32 (0, 0))]) (fun _ _ => True) (fun _ _ _ _ _ => trivial) :: []) := S
    obtain ⟨⟨A40, c41⟩, _, S⟩ := S.open_ex
    replace S : St w M58 F [Row (rInt .i64) 3 (.slice A40 x39.length c41) x39, Blk b1 (.cells #[.slice A40 x39.length c41] 32 (0, 0))] := S
    have E := Ext.refl w
    have LE61 := Hp.le_refl M58
    have H := hbd
    rw [slices_AppendSeq_int_int_N_Writers_those_1_Z_b0.eq_1] at H
    refine Wp_region_lit ?_
    refine W_v (.int .i64 y60) (x_assign rfl) rfl ?_
    refine Wl_nil ?_
    refine on_n ⟨_, _, LE61, E, S, ?_⟩
    intro w F E3 S
    have E := Ext.refl w
    have LE62 := Hp.le_refl M58
    refine Wp_block ?_
    refine Wp_region_lit ?_
    refine W_v (.slice A40 x39.length c41) (x_load (S.blk 1 rfl) ty32 rfl rfl) rfl ?_
    refine W_v (.int .i64 y60) (x_move rfl) rfl ?_
    refine W_bslice S #[.int .i64 y60] Tryd.underlying32 ty3 rfl rfl #[.int .i64 0] (by kernel_rfl) (by kernel_rfl) rfl ?_
    intro b63 w64 E' S
    replace E := E.trans E'
    clear E'
    replace S := S.blk_row (r := (rInt .i64)) (l := ([y60] : List Int)) 0 rfl 1 (Nat.le_refl 1) rfl (Cells.cons (vs := [.int .i64 y60]) (rfl) Cells.nil)
    obtain ⟨p66, H⟩ := chkS H
    obtain ⟨src67, hs68, hC69⟩ := src_of_read (P := Tryd.prog) (ρ := (rInt .i64)) (l := ([y60] : List Int)) (S.row_read 0 rfl) (by decide)
    refine W_append S 1 rfl rfl rfl Tryd.underlying32 (.inl Tryd.underlying32) ty3 rfl (by decide) (by decide) hs68 hC69 rfl (by omega) rfl ?_
    intro v70 w71 E' S
    replace E := E.trans E'
    clear E'
    obtain ⟨A72, c73, rfl, _⟩ := (S.row_read 1 rfl).form
    refine W_store S 2 rfl ty32 rfl rfl [.slice A72 (x39 ++ ([y60] : List Int)).length c73] rfl rfl rfl #[.slice A72 (x39 ++ ([y60] : List Int)).length c73] rfl rfl ?_
    intro w74 E' S
    replace E := E.trans E'
    clear E'
    refine Wl_nil ?_
    refine bn ?_
    obtain rfl := Option.some.inj H
    exact endB_mk trivial LE62 E (St.close_ex (φ := (fun _ _ => True)) (hφ := (fun _ _ _ _ _ => trivial)) (A72, c73) trivial (S.pick [1, 2] (by decide)))
  intro w75 M76 Γ' hM77 E' hΨ S
  obtain rfl : Γ' = _ := hΨ
  replace E := E.trans E'
  clear E'
  replace hg0 : ∃ gt fr, _ := (let ⟨gt, fr, h8⟩ := hg0; ⟨gt, fr, hM77 _ _ h8⟩)
  replace HM := Hp.le_trans HM hM77
  replace hr1_1 := SlR.mono hr1_1 hM77
  have H := o56H
  clear o56H
  rcases o56 with x39 | _
  · replace H := elimL H
    refine afterR_l ?_
    replace S : St w75 M76 F (AE (ι := Option Addr × Nat) (fun ⟨A40, c41⟩ => [Row (rInt .i64) 3 (.slice A40 x39.length c41) x39, Blk b1 (.cells #[.slice A40 x39.length c41] 32 (0, 0))]) (fun _ _ => True) (fun _ _ _ _ _ => trivial) :: [Blk b1_0 (.cells #[.pointer none] 24 (0, 0)), Blk b1_1 (.cells #[.slice A1_1 a1_1.length c1_1] 63 (0, 0))]) := S
    obtain ⟨⟨A40, c41⟩, _, S⟩ := S.open_ex
    replace S : St w75 M76 F [Row (rInt .i64) 3 (.slice A40 x39.length c41) x39, Blk b1 (.cells #[.slice A40 x39.length c41] 32 (0, 0)), Blk b1_0 (.cells #[.pointer none] 24 (0, 0)), Blk b1_1 (.cells #[.slice A1_1 a1_1.length c1_1] 63 (0, 0))] := S
    refine bn ?_
    refine tn ?_
    refine Wp_seq ?_
    refine Wp_region_lit ?_
    refine W_v (.slice A40 x39.length c41) (x_load (S.blk 1 rfl) ty32 rfl rfl) rfl ?_
    refine W_v (.slice A40 x39.length c41) (x_assign rfl) rfl ?_
    refine Wl_nil ?_
    refine tn ?_
    refine Wp_ret ?_
    obtain rfl := Option.some.inj H
    exact ⟨_, _, _, fun w1 e1 => run_resR (vs := [.slice A40 x39.length c41]) (FA.cons (rfl) (FA.nil)), HM, E, S.pick [0, 2, 3] (by decide), ⟨A40, c41, rfl, rfl⟩⟩
  · cases H
/-! ### slices.Collect[int]: function 31 -/
def slices_Collect_int_Writers_those_1_Z (k : Nat) (a0_1 : (List Int)) : Option ((List Int)) :=
  (Option.bind (slices_AppendSeq_int_int_N_Writers_those_1_Z k a0_1) (fun t1 => some t1))
set_option maxHeartbeats 2000000 in
theorem slices_Collect_int_Writers_those_1_Z.mono {k : Nat} {a0_1 : (List Int)} : OLe (slices_Collect_int_Writers_those_1_Z k a0_1) (slices_Collect_int_Writers_those_1_Z (k + 1) a0_1) := by
  unfold slices_Collect_int_Writers_those_1_Z
  repeat' (first | with_reducible exact OLe.none | with_reducible exact OLe.some | with_reducible refine OLe.ite ?_ ?_ | with_reducible refine OLe.bind ?_ (fun _ => ?_) | with_reducible exact slices_AppendSeq_int_int_N_Writers_those_1_Z.mono | refine OLe.bind ?_ (fun _ => ?_) | refine OLe.ite ?_ ?_ | refine OLe.elim (fun _ => ?_) (fun _ => ?_) | split)
set_option maxHeartbeats 1000000 in
set_option maxRecDepth 100000 in
theorem slices_Collect_int_Writers_those_1_Z.con (k : Nat) (M : Hp) (A0_1 : Option Addr) (c0_1 : Nat) (a0_1 : (List Int)) (b0_0 : Nat) (b0_1 : Nat) (r : (List Int)) (hr0_1 : SlR (rInt .u8) M (.slice A0_1 a0_1.length c0_1) a0_1) (hg0 : ∃ gt fr, M 0 = some (.cells #[.int .u8 0, .int .u8 0, .int .u8 1, .int .u8 1, .int .u8 2] gt fr)) (h : slices_Collect_int_Writers_those_1_Z k a0_1 = some r) : Con Tryd.prog 31 #[.func (.func 42) #[] #[.pointer (some ⟨b0_0, 0, none⟩), .pointer (some ⟨b0_1, 0, none⟩)]] M [Blk b0_0 (.cells #[.pointer none] 24 (0, 0)), Blk b0_1 (.cells #[.slice A0_1 a0_1.length c0_1] 63 (0, 0))] (fun v M' Γ' => ∃ (Aq1 : Option Addr) (cq2 : Nat), v = .slice Aq1 r.length cq2 ∧ Γ' = [Row (rInt .i64) 3 (.slice Aq1 r.length cq2) r, Blk b0_0 (.cells #[.pointer none] 24 (0, 0)), Blk b0_1 (.cells #[.slice A0_1 a0_1.length c0_1] 63 (0, 0))]) := by
  refine con_of_wp Tryd.func31 rfl Tryd.ntmps31 Tryd.results31 rfl ?_
  intro w F rn S hrn
  have E := Ext.refl w
  have HM := Hp.le_refl M
  have H := h
  unfold slices_Collect_int_Writers_those_1_Z at H
  refine Wp_seq ?_
  refine Wp_region_lit ?_
  refine W_v (.slice none 0 0) (x_assign rfl) rfl ?_
  refine Wl_nil ?_
  refine tn ?_
  refine Wp_seq ?_
  refine Wp_region_lit ?_
  refine W_v (.func (.func 42) #[] #[.pointer (some ⟨b0_0, 0, none⟩), .pointer (some ⟨b0_1, 0, none⟩)]) (x_move rfl) rfl ?_
  obtain ⟨t1, ht2, H⟩ := bindS H
  refine W_callF2 fn41 (slices_AppendSeq_int_int_N_Writers_those_1_Z.con k M A0_1 c0_1 a0_1 b0_0 b0_1 t1 hr0_1 hg0 ht2) (Γ1 := [Blk b0_0 (.cells #[.pointer none] 24 (0, 0)), Blk b0_1 (.cells #[.slice A0_1 a0_1.length c0_1] 63 (0, 0))]) (Γ2 := []) S rfl rfl (by rintro _ _ _ ⟨_, _, rfl, rfl⟩; exact (flat_cons (flat_row (fun _ _ _ _ h => h)) (flat_cons flat_blk (flat_cons flat_blk flat_nil)))) ?_
  rintro _ w6 _ Γ' E' S ⟨A3, c4, rfl, rfl⟩
  replace E := E.trans E'
  clear E'
  replace S : St w6 M F [Row (rInt .i64) 3 (.slice A3 t1.length c4) t1, Blk b0_0 (.cells #[.pointer none] 24 (0, 0)), Blk b0_1 (.cells #[.slice A0_1 a0_1.length c0_1] 63 (0, 0))] := S
  refine W_v (.slice A3 t1.length c4) (x_assign rfl) rfl ?_
  refine Wl_nil ?_
  refine tn ?_
  refine Wp_ret ?_
  obtain rfl := Option.some.inj H
  exact ⟨_, _, _, fun w1 e1 => run_resR (vs := [.slice A3 t1.length c4]) (FA.cons (rfl) (FA.nil)), HM, E, S.pick [0, 1, 2] (by decide), ⟨A3, c4, rfl, rfl⟩⟩
/-! ### (*ferryman/status.Writers).Busy: function 14 -/
def status_Writers_Busy_Z (k : Nat)  : Option ((List Int)) :=
  (Option.bind (status_Writers_those_Z k ([(1 : Int), (2 : Int)] : List Int)) (fun t7 => (Option.bind (slices_Collect_int_Writers_those_1_Z k ([(1 : Int), (2 : Int)] : List Int)) (fun t16 => some t16))))
set_option maxHeartbeats 2000000 in
theorem status_Writers_Busy_Z.mono {k : Nat}  : OLe (status_Writers_Busy_Z k ) (status_Writers_Busy_Z (k + 1) ) := by
  unfold status_Writers_Busy_Z
  repeat' (first | with_reducible exact OLe.none | with_reducible exact OLe.some | with_reducible refine OLe.ite ?_ ?_ | with_reducible refine OLe.bind ?_ (fun _ => ?_) | with_reducible exact slices_Collect_int_Writers_those_1_Z.mono | with_reducible exact status_Writers_those_Z.mono | refine OLe.bind ?_ (fun _ => ?_) | refine OLe.ite ?_ ?_ | refine OLe.elim (fun _ => ?_) (fun _ => ?_) | split)
set_option maxHeartbeats 1000000 in
set_option maxRecDepth 100000 in
theorem status_Writers_Busy_Z.con (k : Nat) (M : Hp)  (r : (List Int))  (hg0 : ∃ gt fr, M 0 = some (.cells #[.int .u8 0, .int .u8 0, .int .u8 1, .int .u8 1, .int .u8 2] gt fr)) (h : status_Writers_Busy_Z k  = some r) : Con Tryd.prog 14 #[.pointer none] M [] (fun v M' Γ' => ∃ (Aq1 : Option Addr) (cq2 : Nat), v = .slice Aq1 r.length cq2 ∧ Γ' = [Row (rInt .i64) 3 (.slice Aq1 r.length cq2) r]) := by
  refine con_of_wp Tryd.func14 rfl Tryd.ntmps14 Tryd.results14 rfl ?_
  intro w F rn S hrn
  have E := Ext.refl w
  have HM := Hp.le_refl M
  have H := h
  unfold status_Writers_Busy_Z at H
  refine Wp_seq ?_
  refine Wp_region_lit ?_
  refine W_v (.slice none 0 0) (x_assign rfl) rfl ?_
  refine Wl_nil ?_
  refine tn ?_
  refine Wp_seq ?_
  refine Wp_region_lit ?_
  refine W_v (.pointer none) (x_move rfl) rfl ?_
  refine W_bslice S #[.int .u8 1, .int .u8 2] Tryd.underlying63 ty5 rfl rfl #[.int .u8 0, .int .u8 0] (by kernel_rfl) (by kernel_rfl) rfl ?_
  intro b1 w2 E' S
  replace E := E.trans E'
  clear E'
  replace S := S.blk_row (r := (rInt .u8)) (l := ([(1 : Int), (2 : Int)] : List Int)) 0 rfl 2 (Nat.le_refl 2) rfl (Cells.cons (vs := [.int .u8 1]) (rfl) (Cells.cons (vs := [.int .u8 2]) (rfl) Cells.nil))
  obtain ⟨M4, hM5, hf6, S⟩ := S.row_freeze 0 rfl
  replace hg0 : ∃ gt fr, _ := (let ⟨gt, fr, h8⟩ := hg0; ⟨gt, fr, hM5 _ _ h8⟩)
  replace HM := Hp.le_trans HM hM5
  obtain ⟨t7, ht8, H⟩ := bindS H
  refine W_callF2 fn32 (status_Writers_those_Z.con k M4 (some ⟨b1, 0, none⟩) 2 ([(1 : Int), (2 : Int)] : List Int) t7 hf6 hg0 ht8) (Γ1 := []) (Γ2 := []) S rfl rfl (by rintro _ _ _ ⟨_, _, rfl, rfl⟩; exact (flat_cons flat_blk (flat_cons flat_blk flat_nil))) ?_
  rintro _ w13 _ Γ' E' S ⟨b9, b11, rfl, rfl⟩
  replace E := E.trans E'
  clear E'
  replace S : St w13 M4 F [Blk b9 (.cells #[.pointer none] 24 (0, 0)), Blk b11 (.cells #[.slice (some ⟨b1, 0, none⟩) ([(1 : Int), (2 : Int)] : List Int).length 2] 63 (0, 0))] := S
  obtain ⟨t16, ht17, H⟩ := bindS H
  refine W_callF2 fn31 (slices_Collect_int_Writers_those_1_Z.con k M4 (some ⟨b1, 0, none⟩) 2 ([(1 : Int), (2 : Int)] : List Int) b9 b11 t16 hf6 hg0 ht17) (Γ1 := [Blk b9 (.cells #[.pointer none] 24 (0, 0)), Blk b11 (.cells #[.slice (some ⟨b1, 0, none⟩) ([(1 : Int), (2 : Int)] : List Int).length 2] 63 (0, 0))]) (Γ2 := []) S rfl rfl (by rintro _ _ _ ⟨_, _, rfl, rfl⟩; exact (flat_cons (flat_row (fun _ _ _ _ h => h)) (flat_cons flat_blk (flat_cons flat_blk flat_nil)))) ?_
  rintro _ w21 _ Γ' E' S ⟨A18, c19, rfl, rfl⟩
  replace E := E.trans E'
  clear E'
  replace S : St w21 M4 F [Row (rInt .i64) 3 (.slice A18 t16.length c19) t16, Blk b9 (.cells #[.pointer none] 24 (0, 0)), Blk b11 (.cells #[.slice (some ⟨b1, 0, none⟩) ([(1 : Int), (2 : Int)] : List Int).length 2] 63 (0, 0))] := S
  refine W_v (.slice A18 t16.length c19) (x_assign rfl) rfl ?_
  refine Wl_nil ?_
  refine tn ?_
  refine Wp_ret ?_
  obtain rfl := Option.some.inj H
  exact ⟨_, _, _, fun w1 e1 => run_resR (vs := [.slice A18 t16.length c19]) (FA.cons (rfl) (FA.nil)), HM, E, S.pick [0] (by decide), ⟨A18, c19, rfl, rfl⟩⟩
/-! ### (*ferryman/status.Writers).Active: function 15 -/
def status_Writers_Active_Z_b0 (k : Nat) : Int → Int → Option ((Int) ⊕ (Unit))
  | y32, x26 => some (.inl (IntKind.i64.wrap (x26 + (1 : Int))))
set_option maxHeartbeats 2000000 in
theorem status_Writers_Active_Z_b0.mono {k : Nat} : ∀ x s, OLe (status_Writers_Active_Z_b0  k x s) (status_Writers_Active_Z_b0  (k + 1) x s) := by
  intro x s
  unfold status_Writers_Active_Z_b0
  repeat' (first | with_reducible exact OLe.none | with_reducible exact OLe.some | with_reducible refine OLe.ite ?_ ?_ | with_reducible refine OLe.bind ?_ (fun _ => ?_) | refine OLe.bind ?_ (fun _ => ?_) | refine OLe.ite ?_ ?_ | refine OLe.elim (fun _ => ?_) (fun _ => ?_) | split)
def status_Writers_Active_Z (k : Nat)  : Option (Int) :=
  (Option.bind (status_Writers_those_Z k ([(1 : Int)] : List Int)) (fun t11 => (Option.bind (status_Writers_those_1_Z k ([(1 : Int)] : List Int) (status_Writers_Active_Z_b0 k) (0 : Int)) (fun o29o => Sum.elim (fun x26 => some x26) (fun _ => none) o29o))))
set_option maxHeartbeats 2000000 in
theorem status_Writers_Active_Z.mono {k : Nat}  : OLe (status_Writers_Active_Z k ) (status_Writers_Active_Z (k + 1) ) := by
  unfold status_Writers_Active_Z
  repeat' (first | with_reducible exact OLe.none | with_reducible exact OLe.some | with_reducible refine OLe.ite ?_ ?_ | with_reducible refine OLe.bind ?_ (fun _ => ?_) | with_reducible exact status_Writers_Active_Z_b0.mono | exact status_Writers_those_1_Z.mono (fun _ _ => by first | exact status_Writers_Active_Z_b0.mono _ _) | with_reducible exact status_Writers_those_Z.mono | refine OLe.bind ?_ (fun _ => ?_) | refine OLe.ite ?_ ?_ | refine OLe.elim (fun _ => ?_) (fun _ => ?_) | split)
set_option maxHeartbeats 1000000 in
set_option maxRecDepth 100000 in
theorem status_Writers_Active_Z.con (k : Nat) (M : Hp)  (r : Int)  (hg0 : ∃ gt fr, M 0 = some (.cells #[.int .u8 0, .int .u8 0, .int .u8 1, .int .u8 1, .int .u8 2] gt fr)) (h : status_Writers_Active_Z k  = some r) : Con Tryd.prog 15 #[.pointer none] M [] (fun v M' Γ' => v = .int .i64 r ∧ Γ' = []) := by
  refine con_of_wp Tryd.func15 rfl Tryd.ntmps15 Tryd.results15 rfl ?_
  intro w F rn S hrn
  have E := Ext.refl w
  have HM := Hp.le_refl M
  have H := h
  unfold status_Writers_Active_Z at H
  refine Wp_seq ?_
  refine Wp_region_lit ?_
  refine W_v (.int .i64 0) (x_assign rfl) rfl ?_
  refine Wl_nil ?_
  refine tn ?_
  refine Wp_seq ?_
  refine Wp_region_lit ?_
  refine W_alloc S #[.int .i64 0] ty3 rfl rfl ?_
  intro b1 w2 E' S
  replace E := E.trans E'
  clear E'
  refine W_store S 0 rfl ty3 rfl rfl [.int .i64 0] rfl rfl rfl #[.int .i64 0] rfl rfl ?_
  intro w4 E' S
  replace E := E.trans E'
  clear E'
  refine Wl_nil ?_
  refine tn ?_
  refine Wp_seq ?_
  refine Wp_seq ?_
  refine Wp_region_lit ?_
  refine W_v (.pointer none) (x_move rfl) rfl ?_
  refine W_bslice S #[.int .u8 1] Tryd.underlying63 ty5 rfl rfl #[.int .u8 0] (by kernel_rfl) (by kernel_rfl) rfl ?_
  intro b5 w6 E' S
  replace E := E.trans E'
  clear E'
  replace S := S.blk_row (r := (rInt .u8)) (l := ([(1 : Int)] : List Int)) 0 rfl 1 (Nat.le_refl 1) rfl (Cells.cons (vs := [.int .u8 1]) (rfl) Cells.nil)
  obtain ⟨M8, hM9, hf10, S⟩ := S.row_freeze 0 rfl
  replace hg0 : ∃ gt fr, _ := (let ⟨gt, fr, h8⟩ := hg0; ⟨gt, fr, hM9 _ _ h8⟩)
  replace HM := Hp.le_trans HM hM9
  obtain ⟨t11, ht12, H⟩ := bindS H
  refine W_callF2 fn32 (status_Writers_those_Z.con k M8 (some ⟨b5, 0, none⟩) 1 ([(1 : Int)] : List Int) t11 hf10 hg0 ht12) (Γ1 := []) (Γ2 := [Blk b1 (.cells #[.int .i64 0] 3 (0, 0))]) S rfl rfl (by rintro _ _ _ ⟨_, _, rfl, rfl⟩; exact (flat_cons flat_blk (flat_cons flat_blk flat_nil))) ?_
  rintro _ w17 _ Γ' E' S ⟨b13, b15, rfl, rfl⟩
  replace E := E.trans E'
  clear E'
  replace S : St w17 M8 F [Blk b13 (.cells #[.pointer none] 24 (0, 0)), Blk b15 (.cells #[.slice (some ⟨b5, 0, none⟩) ([(1 : Int)] : List Int).length 1] 63 (0, 0)), Blk b1 (.cells #[.int .i64 0] 3 (0, 0))] := S
  refine Wl_nil ?_
  refine tn ?_
  refine Wp_block ?_
  obtain ⟨o29, o29h, o29H⟩ := bindS H
  clear H
  refine Wp_rangeFunc (σ := Int) (ε := Unit) (Γi := [Blk b13 (.cells #[.pointer none] 24 (0, 0)), Blk b15 (.cells #[.slice (some ⟨b5, 0, none⟩) ([(1 : Int)] : List Int).length 1] 63 (0, 0))]) (Γr := []) (Sum.elim (fun x26 => AE (ι := Unit) (fun (i : Unit) => [Blk b1 (.cells #[.int .i64 x26] 3 (0, 0))]) (fun _ _ => True) (fun _ _ _ _ _ => trivial)) (fun _ => Star [])) (fun _ => Code.ret) fn42 rfl (St.close_ex (φ := (fun _ _ => True)) (hφ := (fun _ _ _ _ _ => trivial)) () trivial (S.pick [2, 0, 1] (by decide))) (by rintro _ _ _ rfl; rfl) (by decide) (status_Writers_those_1_Z.con k M8 (some ⟨b5, 0, none⟩) 1 ([(1 : Int)] : List Int) b13 b15 (status_Writers_Active_Z_b0 k) (0 : Int) o29 hf10 hg0 o29h) ?_ ?_
  · intro nn lp M30 F y32 vs x26 tt w hM31 henc hbd S
    obtain rfl := henc
    replace hg0 : ∃ gt fr, _ := (let ⟨gt, fr, h8⟩ := hg0; ⟨gt, fr, hM31 _ _ h8⟩)
    replace HM := Hp.le_trans HM hM31
    replace hf10 := SlR.mono hf10 hM31
    replace S : St w M30 F (AE (ι := Unit) (fun (i : Unit) => [Blk b1 (.cells #[.int .i64 x26] 3 (0, 0))]) (fun _ _ => True) (fun _ _ _ _ _ => trivial) :: []) := S
    obtain ⟨_, _, S⟩ := S.open_ex
    replace S : St w M30 F [Blk b1 (.cells #[.int .i64 x26] 3 (0, 0))] := S
    have E := Ext.refl w
    have LE33 := Hp.le_refl M30
    have H := hbd
    rw [status_Writers_Active_Z_b0.eq_1] at H
    refine Wp_skip ?_
    refine on_n ⟨_, _, LE33, E, S, ?_⟩
    intro w F E3 S
    have E := Ext.refl w
    have LE34 := Hp.le_refl M30
    refine Wp_block ?_
    refine Wp_region_lit ?_
    refine W_v (.int .i64 x26) (x_load (S.blk 0 rfl) ty3 rfl rfl) rfl ?_
    refine W_v (.int .i64 (IntKind.i64.wrap (x26 + (1 : Int)))) (x_ibin rfl rfl rfl rfl) rfl ?_
    refine W_store S 0 rfl ty3 rfl rfl [.int .i64 (IntKind.i64.wrap (x26 + (1 : Int)))] rfl rfl rfl #[.int .i64 (IntKind.i64.wrap (x26 + (1 : Int)))] rfl rfl ?_
    intro w35 E' S
    replace E := E.trans E'
    clear E'
    refine Wl_nil ?_
    refine bn ?_
    obtain rfl := Option.some.inj H
    exact endB_mk trivial LE34 E (St.close_ex (φ := (fun _ _ => True)) (hφ := (fun _ _ _ _ _ => trivial)) () trivial (S.pick [0] (by decide)))
  intro w36 M37 Γ' hM38 E' hΨ S
  obtain rfl : Γ' = _ := hΨ
  replace E := E.trans E'
  clear E'
  replace hg0 : ∃ gt fr, _ := (let ⟨gt, fr, h8⟩ := hg0; ⟨gt, fr, hM38 _ _ h8⟩)
  replace HM := Hp.le_trans HM hM38
  replace hf10 := SlR.mono hf10 hM38
  have H := o29H
  clear o29H
  rcases o29 with x26 | _
  · replace H := elimL H
    refine afterR_l ?_
    replace S : St w36 M37 F (AE (ι := Unit) (fun (i : Unit) => [Blk b1 (.cells #[.int .i64 x26] 3 (0, 0))]) (fun _ _ => True) (fun _ _ _ _ _ => trivial) :: [Blk b13 (.cells #[.pointer none] 24 (0, 0)), Blk b15 (.cells #[.slice (some ⟨b5, 0, none⟩) ([(1 : Int)] : List Int).length 1] 63 (0, 0))]) := S
    obtain ⟨_, _, S⟩ := S.open_ex
    replace S : St w36 M37 F [Blk b1 (.cells #[.int .i64 x26] 3 (0, 0)), Blk b13 (.cells #[.pointer none] 24 (0, 0)), Blk b15 (.cells #[.slice (some ⟨b5, 0, none⟩) ([(1 : Int)] : List Int).length 1] 63 (0, 0))] := S
    refine bn ?_
    refine tn ?_
    refine Wp_seq ?_
    refine Wp_region_lit ?_
    refine W_v (.int .i64 x26) (x_load (S.blk 0 rfl) ty3 rfl rfl) rfl ?_
    refine W_v (.int .i64 x26) (x_assign rfl) rfl ?_
    refine Wl_nil ?_
    refine tn ?_
    refine Wp_ret ?_
    obtain rfl := Option.some.inj H
    exact ⟨_, _, _, fun w1 e1 => run_resR (vs := [.int .i64 x26]) (FA.cons (rfl) (FA.nil)), HM, E, S.pick [] (by decide), ⟨rfl, rfl⟩⟩
  · cases H
/-! ### (*ferryman/status.Writers).High: function 10 -/
def status_Writers_High_Z (k : Nat)  : Option (Int) :=
  some (0 : Int)
set_option maxHeartbeats 2000000 in
theorem status_Writers_High_Z.mono {k : Nat}  : OLe (status_Writers_High_Z k ) (status_Writers_High_Z (k + 1) ) := by
  unfold status_Writers_High_Z
  repeat' (first | with_reducible exact OLe.none | with_reducible exact OLe.some | with_reducible refine OLe.ite ?_ ?_ | with_reducible refine OLe.bind ?_ (fun _ => ?_) | refine OLe.bind ?_ (fun _ => ?_) | refine OLe.ite ?_ ?_ | refine OLe.elim (fun _ => ?_) (fun _ => ?_) | split)
set_option maxHeartbeats 1000000 in
set_option maxRecDepth 100000 in
theorem status_Writers_High_Z.con (k : Nat) (M : Hp)  (r : Int)  (hg0 : ∃ gt fr, M 0 = some (.cells #[.int .u8 0, .int .u8 0, .int .u8 1, .int .u8 1, .int .u8 2] gt fr)) (h : status_Writers_High_Z k  = some r) : Con Tryd.prog 10 #[.pointer none] M [] (fun v M' Γ' => v = .int .i64 r ∧ Γ' = []) := by
  refine con_of_wp Tryd.func10 rfl Tryd.ntmps10 Tryd.results10 rfl ?_
  intro w F rn S hrn
  have E := Ext.refl w
  have HM := Hp.le_refl M
  have H := h
  unfold status_Writers_High_Z at H
  refine Wp_seq ?_
  refine Wp_region_lit ?_
  refine W_v (.int .i64 0) (x_assign rfl) rfl ?_
  refine Wl_nil ?_
  refine tn ?_
  refine Wp_seq ?_
  refine Wp_seq ?_
  refine Wp_region_lit ?_
  refine W_v (.pointer none) (x_move rfl) rfl ?_
  refine W_v (.bool true) (x_eq_of (r := true) rfl rfl (run_eq_ptrnn Tryd.underlying24)) rfl ?_
  refine Wl_nil ?_
  refine tn ?_
  refine Wp_cond_true rfl ?_
  refine Wp_seq ?_
  refine Wp_region_lit ?_
  refine W_v (.int .i64 0) (x_assign rfl) rfl ?_
  refine Wl_nil ?_
  refine tn ?_
  refine Wp_ret ?_
  refine tr (?_)
  obtain rfl := Option.some.inj H
  exact ⟨_, _, _, fun w1 e1 => run_resR (vs := [.int .i64 0]) (FA.cons (rfl) (FA.nil)), HM, E, S.pick [] (by decide), ⟨rfl, rfl⟩⟩
/-! ### (*ferryman/status.Writers).Last: function 21 -/
def status_Writers_Last_Z (k : Nat)  : Option (Int) :=
  some (0 : Int)
set_option maxHeartbeats 2000000 in
theorem status_Writers_Last_Z.mono {k : Nat}  : OLe (status_Writers_Last_Z k ) (status_Writers_Last_Z (k + 1) ) := by
  unfold status_Writers_Last_Z
  repeat' (first | with_reducible exact OLe.none | with_reducible exact OLe.some | with_reducible refine OLe.ite ?_ ?_ | with_reducible refine OLe.bind ?_ (fun _ => ?_) | refine OLe.bind ?_ (fun _ => ?_) | refine OLe.ite ?_ ?_ | refine OLe.elim (fun _ => ?_) (fun _ => ?_) | split)
set_option maxHeartbeats 1000000 in
set_option maxRecDepth 100000 in
theorem status_Writers_Last_Z.con (k : Nat) (M : Hp)  (r : Int)  (hg0 : ∃ gt fr, M 0 = some (.cells #[.int .u8 0, .int .u8 0, .int .u8 1, .int .u8 1, .int .u8 2] gt fr)) (h : status_Writers_Last_Z k  = some r) : Con Tryd.prog 21 #[.pointer none] M [] (fun v M' Γ' => v = .int .i64 r ∧ Γ' = []) := by
  refine con_of_wp Tryd.func21 rfl Tryd.ntmps21 Tryd.results21 rfl ?_
  intro w F rn S hrn
  have E := Ext.refl w
  have HM := Hp.le_refl M
  have H := h
  unfold status_Writers_Last_Z at H
  refine Wp_seq ?_
  refine Wp_region_lit ?_
  refine W_v (.int .i64 0) (x_assign rfl) rfl ?_
  refine Wl_nil ?_
  refine tn ?_
  refine Wp_seq ?_
  refine Wp_seq ?_
  refine Wp_region_lit ?_
  refine W_v (.pointer none) (x_move rfl) rfl ?_
  refine W_v (.bool true) (x_eq_of (r := true) rfl rfl (run_eq_ptrnn Tryd.underlying24)) rfl ?_
  refine Wl_nil ?_
  refine tn ?_
  refine Wp_cond_true rfl ?_
  refine Wp_seq ?_
  refine Wp_region_lit ?_
  refine W_v (.int .i64 0) (x_assign rfl) rfl ?_
  refine Wl_nil ?_
  refine tn ?_
  refine Wp_ret ?_
  refine tr (?_)
  obtain rfl := Option.some.inj H
  exact ⟨_, _, _, fun w1 e1 => run_resR (vs := [.int .i64 0]) (FA.cons (rfl) (FA.nil)), HM, E, S.pick [] (by decide), ⟨rfl, rfl⟩⟩
/-! ### (*ferryman/status.Writers).Copy: function 22 -/
def status_Writers_Copy_Z (k : Nat)  : Option (Unit) :=
  some ()
set_option maxHeartbeats 2000000 in
theorem status_Writers_Copy_Z.mono {k : Nat}  : OLe (status_Writers_Copy_Z k ) (status_Writers_Copy_Z (k + 1) ) := by
  unfold status_Writers_Copy_Z
  repeat' (first | with_reducible exact OLe.none | with_reducible exact OLe.some | with_reducible refine OLe.ite ?_ ?_ | with_reducible refine OLe.bind ?_ (fun _ => ?_) | refine OLe.bind ?_ (fun _ => ?_) | refine OLe.ite ?_ ?_ | refine OLe.elim (fun _ => ?_) (fun _ => ?_) | split)
set_option maxHeartbeats 1000000 in
set_option maxRecDepth 100000 in
theorem status_Writers_Copy_Z.con (k : Nat) (M : Hp)  (r : Unit)  (hg0 : ∃ gt fr, M 0 = some (.cells #[.int .u8 0, .int .u8 0, .int .u8 1, .int .u8 1, .int .u8 2] gt fr)) (h : status_Writers_Copy_Z k  = some r) : Con Tryd.prog 22 #[.pointer none] M [] (fun v M' Γ' => v = .pointer none ∧ Γ' = []) := by
  refine con_of_wp Tryd.func22 rfl Tryd.ntmps22 Tryd.results22 rfl ?_
  intro w F rn S hrn
  have E := Ext.refl w
  have HM := Hp.le_refl M
  have H := h
  unfold status_Writers_Copy_Z at H
  refine Wp_seq ?_
  refine Wp_region_lit ?_
  refine W_v (.pointer none) (x_assign rfl) rfl ?_
  refine Wl_nil ?_
  refine tn ?_
  refine Wp_seq ?_
  refine Wp_seq ?_
  refine Wp_region_lit ?_
  refine W_v (.pointer none) (x_move rfl) rfl ?_
  refine W_v (.bool true) (x_eq_of (r := true) rfl rfl (run_eq_ptrnn Tryd.underlying24)) rfl ?_
  refine Wl_nil ?_
  refine tn ?_
  refine Wp_cond_true rfl ?_
  refine Wp_seq ?_
  refine Wp_region_lit ?_
  refine W_v (.pointer none) (x_assign rfl) rfl ?_
  refine Wl_nil ?_
  refine tn ?_
  refine Wp_ret ?_
  refine tr (?_)
  obtain rfl := Option.some.inj H
  exact ⟨_, _, _, fun w1 e1 => run_resR (vs := [.pointer none]) (FA.cons (rfl) (FA.nil)), HM, E, S.pick [] (by decide), ⟨rfl, rfl⟩⟩
end Go.Proofs.YtbdelepfpnneoaaDoor
