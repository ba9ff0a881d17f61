import Derived.Test.YtmoackfjfklfaaaGt7
namespace Go.Proofs.Ytmoackfjfklfaaa
open Go
set_option linter.unusedVariables false
set_option linter.unusedSimpArgs false
/-! ### ferryman/ferrymanlaw11.KeepLeft: function 4 -/
def ferrymanlaw11_KeepLeft_l5 (a0 : (List api_Version)) (a1 : Int) (x2782 : Int) : Nat → Int → Option ((Bool) ⊕ (Unit))
  | 0, _ => none
  | k + 1, x3299 => (if (decide (x3299 ≤ (a0.length : Int))) = true then (Option.bind (α := Int) (if (decide (x3299 < (a0.length : Int))) = true then (if 0 ≤ x3299 ∧ x3299 < (a0.length : Int) then some ((imax a1 ((rd a0 x3299).TS))) else none) else some (a1)) (fun x3398 => (Option.bind (keep_Seen k a0 x3398) (fun t3412 => (Option.bind (α := Bool) (if t3412.2 = true then (if 0 ≤ x2782 ∧ x2782 < (a0.length : Int) then some ((t3412.1.TS == (rd a0 x2782).TS)) else none) else some (false)) (fun x3456 => (if x3456 = true then some (.inl false) else ferrymanlaw11_KeepLeft_l5 a0 a1 x2782 k (IntKind.i64.wrap (x3299 + (1 : Int)))))))))) else some (.inr ()))
set_option maxHeartbeats 2000000 in
theorem ferrymanlaw11_KeepLeft_l5.mono {a0 : (List api_Version)} {a1 : Int} {x2782 : Int} : ∀ {k : Nat} {x0}, OLe (ferrymanlaw11_KeepLeft_l5 a0 a1 x2782 k x0) (ferrymanlaw11_KeepLeft_l5 a0 a1 x2782 (k + 1) x0) := by
  intro k
  induction k with
  | zero => intros; exact OLe.none
  | succ k ih =>
    intros
    rw [ferrymanlaw11_KeepLeft_l5.eq_2, ferrymanlaw11_KeepLeft_l5.eq_2]
    repeat' (first | exact OLe.none | exact OLe.some | exact keep_Seen.mono | exact ih | refine OLe.bind ?_ (fun _ => ?_) | refine OLe.ite ?_ ?_ | refine OLe.elim (fun _ => ?_) (fun _ => ?_) | split)
def ferrymanlaw11_KeepLeft_l3 (a0 : (List api_Version)) (a1 : Int) : Nat → Int → Option ((Bool) ⊕ (Unit))
  | 0, _ => none
  | k + 1, x2782 => (if (decide (x2782 < (a0.length : Int))) = true then (Option.bind (ferrymanlaw11_KeepLeft_l5 a0 a1 x2782 k (0 : Int)) (fun o3384o => Sum.elim (fun r' => some (.inl r')) (fun _ => ferrymanlaw11_KeepLeft_l3 a0 a1 k (IntKind.i64.wrap (x2782 + (1 : Int)))) o3384o)) else some (.inr ()))
set_option maxHeartbeats 2000000 in
theorem ferrymanlaw11_KeepLeft_l3.mono {a0 : (List api_Version)} {a1 : Int} : ∀ {k : Nat} {x0}, OLe (ferrymanlaw11_KeepLeft_l3 a0 a1 k x0) (ferrymanlaw11_KeepLeft_l3 a0 a1 (k + 1) x0) := by
  intro k
  induction k with
  | zero => intros; exact OLe.none
  | succ k ih =>
    intros
    rw [ferrymanlaw11_KeepLeft_l3.eq_2, ferrymanlaw11_KeepLeft_l3.eq_2]
    repeat' (first | exact OLe.none | exact OLe.some | exact ferrymanlaw11_KeepLeft_l5.mono | exact ih | refine OLe.bind ?_ (fun _ => ?_) | refine OLe.ite ?_ ?_ | refine OLe.elim (fun _ => ?_) (fun _ => ?_) | split)
def ferrymanlaw11_KeepLeft_l0 (a0 : (List api_Version)) (a1 : Int) (t31 : (List api_Version)) : Nat → Int → Option ((Bool) ⊕ (Unit))
  | 0, _ => none
  | k + 1, x1518 => (if (decide (x1518 < (t31.length : Int))) = true then (Option.bind (α := Bool) (if (decide (x1518 < (a0.length : Int))) = true then (if 0 ≤ x1518 ∧ x1518 < (t31.length : Int) then (if 0 ≤ x1518 ∧ x1518 < (a0.length : Int) then some ((!(((rd t31 x1518).Writer == (rd a0 x1518).Writer) && (((rd t31 x1518).TS == (rd a0 x1518).TS) && (((rd t31 x1518).Tomb == (rd a0 x1518).Tomb) && ((rd t31 x1518).Value == (rd a0 x1518).Value)))))) else none) else none) else some (false)) (fun x1876 => (if (x1876 || (decide (x1518 ≥ (a0.length : Int)))) = true then some (.inl false) else (if 0 ≤ x1518 ∧ x1518 < (t31.length : Int) then (Option.bind (keep_Seen k a0 (imax a1 ((rd t31 x1518).TS))) (fun t1891 => (if 0 ≤ x1518 ∧ x1518 < (t31.length : Int) then (Option.bind (α := Bool) (if (t1891.2 == (rd t31 x1518).Tomb) = true then some (true) else (Option.bind (α := Bool) (if t1891.2 = true then (if 0 ≤ x1518 ∧ x1518 < (t31.length : Int) then some ((!((t1891.1.Writer == (rd t31 x1518).Writer) && ((t1891.1.TS == (rd t31 x1518).TS) && ((t1891.1.Tomb == (rd t31 x1518).Tomb) && (t1891.1.Value == (rd t31 x1518).Value)))))) else none) else some (false)) (fun x2060 => some (x2060)))) (fun x1997 => (if x1997 = true then some (.inl false) else (if 0 ≤ x1518 ∧ x1518 < (t31.length : Int) then (Option.bind (α := Bool) (if (decide ((rd t31 x1518).TS ≤ a1)) = true then (if 0 ≤ x1518 ∧ x1518 < (t31.length : Int) then some (((rd t31 x1518).Tomb || (x1518 != (IntKind.i64.wrap ((t31.length : Int) - (1 : Int)))))) else none) else some (false)) (fun x2034 => (if x2034 = true then some (.inl false) else ferrymanlaw11_KeepLeft_l0 a0 a1 t31 k (IntKind.i64.wrap (x1518 + (1 : Int)))))) else none)))) else none))) else none)))) else some (.inr ()))
set_option maxHeartbeats 2000000 in
theorem ferrymanlaw11_KeepLeft_l0.mono {a0 : (List api_Version)} {a1 : Int} {t31 : (List api_Version)} : ∀ {k : Nat} {x0}, OLe (ferrymanlaw11_KeepLeft_l0 a0 a1 t31 k x0) (ferrymanlaw11_KeepLeft_l0 a0 a1 t31 (k + 1) x0) := by
  intro k
  induction k with
  | zero => intros; exact OLe.none
  | succ k ih =>
    intros
    rw [ferrymanlaw11_KeepLeft_l0.eq_2, ferrymanlaw11_KeepLeft_l0.eq_2]
    repeat' (first | exact OLe.none | exact OLe.some | exact keep_Seen.mono | exact ih | refine OLe.bind ?_ (fun _ => ?_) | refine OLe.ite ?_ ?_ | refine OLe.elim (fun _ => ?_) (fun _ => ?_) | split)
def ferrymanlaw11_KeepLeft (k : Nat) (a0 : (List api_Version)) (a1 : Int) : Option (Bool) :=
  (Option.bind (α := Bool) (if (decide ((a0.length : Int) > (300 : Int))) = true then some (true) else (Option.bind (ferrymanref11_Legal k a0) (fun t10 => some ((!t10))))) (fun x8 => (Option.bind (α := Bool) (if x8 = true then some (true) else (Option.bind (ferrymanlaw11_awake k ) (fun t23 => some ((!t23))))) (fun x21 => (if x21 = true then (Option.bind (ferrymanlaw11_awake k ) (fun t28 => some t28)) else (Option.bind (keep_Kept k a0 a1) (fun t31 => (Option.bind (ferrymanlaw11_KeepLeft_l0 a0 a1 t31 k (0 : Int)) (fun o1805o => Sum.elim (fun r' => some r') (fun _ => (Option.bind (ferrymanlaw11_KeepLeft_l3 a0 a1 k (t31.length : Int)) (fun o3126o => Sum.elim (fun r' => some r') (fun _ => some true) o3126o))) o1805o)))))))))
set_option maxHeartbeats 2000000 in
theorem ferrymanlaw11_KeepLeft.mono {k : Nat} {a0 : (List api_Version)} {a1 : Int} : OLe (ferrymanlaw11_KeepLeft k a0 a1) (ferrymanlaw11_KeepLeft (k + 1) a0 a1) := by
  unfold ferrymanlaw11_KeepLeft
  repeat' (first | exact OLe.none | exact OLe.some | exact ferrymanlaw11_KeepLeft_l0.mono | exact ferrymanlaw11_KeepLeft_l3.mono | exact ferrymanlaw11_awake.mono | exact ferrymanref11_Legal.mono | exact keep_Kept.mono | refine OLe.bind ?_ (fun _ => ?_) | refine OLe.ite ?_ ?_ | refine OLe.elim (fun _ => ?_) (fun _ => ?_) | split)
set_option maxHeartbeats 4000000 in
set_option maxRecDepth 100000 in
theorem ferrymanlaw11_KeepLeft.con (k : Nat) (M : Hp) (A0 : Option Addr) (c0 : Nat) (a0 : (List api_Version)) (a1 : Int) (r : Bool) (hr0 : SlR r_api_Version M (.slice A0 a0.length c0) a0) (h : ferrymanlaw11_KeepLeft k a0 a1 = some r) : Con Try.prog 4 #[.slice A0 a0.length c0, .int .i64 a1] M [] (fun v M' Γ' => v = .bool r ∧ Γ' = []) := by
  refine con_of_wp Try.func4 rfl Try.ntmps4 Try.results4 rfl ?_
  intro w F rn S hrn
  have E := Ext.refl w
  have HM := Hp.le_refl M
  have H := h
  unfold ferrymanlaw11_KeepLeft at H
  refine Wp_seq ?_
  refine Wp_region_lit ?_
  refine W_v (.bool false) (x_assign rfl) rfl ?_
  refine Wl_nil ?_
  refine tn ?_
  refine Wp_seq ?_
  refine Wp_seq ?_
  refine Wp_region_lit ?_
  refine W_v (.slice A0 a0.length c0) (x_move rfl) rfl ?_
  refine W_v (.int .i64 (a0.length : Int)) (x_len_slice (n := a0.length) Try.underlying22 rfl) rfl ?_
  refine W_v (.bool (decide ((a0.length : Int) > (300 : Int)))) (x_ibin rfl rfl rfl rfl) rfl ?_
  refine W_v (.bool (decide ((a0.length : Int) > (300 : Int)))) (x_move rfl) rfl ?_
  obtain ⟨o9, o9h, o9H⟩ := bindS H
  clear H
  refine Wl_cutN 4 (fun ρ w' => ∃ (x8 : Bool), (x8) = o9 ∧ Agree ρ [(0, .slice A0 a0.length c0), (1, .int .i64 a1), (22, .bool x8)] ∧ Ext w w' ∧ St w' M F []) ?_ ?_
  · have H := o9h
    rcases iteS H with ⟨hb7, H⟩ | ⟨hb7, H⟩
    · skip
      refine W_no (skF hb7) rfl ?_
      refine W_no (skF hb7) rfl ?_
      refine W_no (skF hb7) rfl ?_
      refine W_v (.bool true) (x_pick (k := true) (congrArg Value.bool hb7) rfl) rfl ?_
      refine Wl_nil ?_
      exact ⟨true, Option.some.inj H, ⟨rfl, rfl, rfl, trivial⟩, E, S.pick [] (by decide)⟩
    · skip
      refine W_yes (congrArg some hb7) ?_
      refine W_v (.slice A0 a0.length c0) (x_move rfl) rfl ?_
      refine W_yes (congrArg some hb7) ?_
      obtain ⟨t10, ht11, H⟩ := bindS H
      refine W_callF fn9 (ferrymanref11_Legal.con k M A0 c0 a0 t10 hr0 ht11) S rfl rfl (by rintro _ _ _ ⟨_, rfl⟩; exact flat_nil) ?_
      rintro _ w12 _ Γ' E' S ⟨rfl, rfl⟩
      replace E := E.trans E'
      clear E'
      refine W_yes (congrArg some hb7) ?_
      refine W_v (.bool (!t10)) (x_not rfl) rfl ?_
      refine W_v (.bool (!t10)) (x_pick (k := false) (congrArg Value.bool hb7) rfl) rfl ?_
      refine Wl_nil ?_
      exact ⟨(!t10), Option.some.inj H, ⟨rfl, rfl, rfl, trivial⟩, E, S.pick [] (by decide)⟩
  · clear o9h
    rintro ρ w13 ⟨x8, rfl, hρ, E, S⟩
    rw [agree_eta hρ]
    clear hρ
    have H := o9H
    clear o9H
    refine W_v (.bool x8) (x_move rfl) rfl ?_
    obtain ⟨o22, o22h, o22H⟩ := bindS H
    clear H
    refine Wl_cutN 3 (fun ρ w' => ∃ (x21 : Bool), (x21) = o22 ∧ Agree ρ [(0, .slice A0 a0.length c0), (1, .int .i64 a1), (26, .bool x21)] ∧ Ext w w' ∧ St w' M F []) ?_ ?_
    · have H := o22h
      rcases iteS H with ⟨hb20, H⟩ | ⟨hb20, H⟩
      · skip
        refine W_no (skF hb20) rfl ?_
        refine W_no (skF hb20) rfl ?_
        refine W_v (.bool true) (x_pick (k := true) (congrArg Value.bool hb20) rfl) rfl ?_
        refine Wl_nil ?_
        exact ⟨true, Option.some.inj H, ⟨rfl, rfl, rfl, trivial⟩, E, S.pick [] (by decide)⟩
      · skip
        refine W_yes (congrArg some hb20) ?_
        obtain ⟨t23, ht24, H⟩ := bindS H
        refine W_callF fn10 (ferrymanlaw11_awake.con k M  t23  ht24) S rfl rfl (by rintro _ _ _ ⟨_, rfl⟩; exact flat_nil) ?_
        rintro _ w25 _ Γ' E' S ⟨rfl, rfl⟩
        replace E := E.trans E'
        clear E'
        refine W_yes (congrArg some hb20) ?_
        refine W_v (.bool (!t23)) (x_not rfl) rfl ?_
        refine W_v (.bool (!t23)) (x_pick (k := false) (congrArg Value.bool hb20) rfl) rfl ?_
        refine Wl_nil ?_
        exact ⟨(!t23), Option.some.inj H, ⟨rfl, rfl, rfl, trivial⟩, E, S.pick [] (by decide)⟩
    · clear o22h
      rintro ρ w26 ⟨x21, rfl, hρ, E, S⟩
      rw [agree_eta hρ]
      clear hρ
      have H := o22H
      clear o22H
      refine Wl_nil ?_
      refine tn ?_
      rcases iteS H with ⟨hb27, H⟩ | ⟨hb27, H⟩
      · refine Wp_cond_true (congrArg Value.bool hb27) ?_
        refine Wp_seq ?_
        refine Wp_region_lit ?_
        obtain ⟨t28, ht29, H⟩ := bindS H
        refine W_callF fn10 (ferrymanlaw11_awake.con k M  t28  ht29) S rfl rfl (by rintro _ _ _ ⟨_, rfl⟩; exact flat_nil) ?_
        rintro _ w30 _ Γ' E' S ⟨rfl, rfl⟩
        replace E := E.trans E'
        clear E'
        refine W_v (.bool t28) (x_assign rfl) rfl ?_
        refine Wl_nil ?_
        refine tn ?_
        refine Wp_ret ?_
        refine tr (?_)
        obtain rfl := Option.some.inj H
        exact ⟨_, _, _, fun w1 e1 => run_resR (vs := [.bool t28]) (FA.cons (rfl) (FA.nil)), HM, E, S.pick [] (by decide), ⟨rfl, rfl⟩⟩
      · refine Wp_cond_false (congrArg Value.bool hb27) ?_
        refine Wp_skip ?_
        refine tn ?_
        refine Wp_seq ?_
        refine Wp_region_lit ?_
        refine W_v (.slice A0 a0.length c0) (x_move rfl) rfl ?_
        refine W_v (.int .i64 a1) (x_move rfl) rfl ?_
        obtain ⟨t31, ht32, H⟩ := bindS H
        refine W_callF fn11 (keep_Kept.con k M A0 c0 a0 a1 t31 hr0 ht32) S rfl rfl (by rintro _ _ _ ⟨_, _, _, rfl⟩; exact (flat_cons (flat_row (fun _ _ _ _ h => h)) flat_nil)) ?_
        rintro _ w36 _ Γ' E' S ⟨A33, c34, rfl, rfl⟩
        replace E := E.trans E'
        clear E'
        refine W_v (.slice A33 t31.length c34) (x_assign rfl) rfl ?_
        refine Wl_nil ?_
        refine tn ?_
        refine Wp_seq ?_
        refine Wp_seq ?_
        refine Wp_region_lit ?_
        refine W_v (.int .i64 0) (x_assign rfl) rfl ?_
        refine Wl_nil ?_
        refine tn ?_
        obtain ⟨M941, hM942, hf943, S⟩ := S.row_freeze 0 rfl
        replace HM := Hp.le_trans HM hM942
        replace hr0 := SlR.mono hr0 hM942
        obtain ⟨o1805, o1805h, o1805H⟩ := bindS H
        clear H
        refine Wp_blockJ (fun ρ w' => .inr () = o1805 ∧ Agree ρ [(0, .slice A0 a0.length c0), (1, .int .i64 a1), (5, .slice A33 t31.length c34)] ∧ Ext w w' ∧ St w' M941 F []) ?_ ?_
        · skip
          refine Wp_loop (fun n ρ w' => ∃ (x1518 : Int), ferrymanlaw11_KeepLeft_l0 a0 a1 t31 n x1518 = some o1805 ∧ Agree ρ [(0, .slice A0 a0.length c0), (1, .int .i64 a1), (5, .slice A33 t31.length c34), (6, .int .i64 x1518)] ∧ Ext w w' ∧ St w' M941 F []) k ?_ ?_
          · skip
            exact ⟨(0 : Int), o1805h, ⟨rfl, rfl, rfl, rfl, trivial⟩, E, S.pick [] (by decide)⟩
          · intro n
            rintro ρ w1806 ⟨x1518, H, hρ, E, S⟩
            rw [agree_eta hρ]
            clear hρ
            cases n with
            | zero => cases H
            | succ k =>
              rw [ferrymanlaw11_KeepLeft_l0.eq_2] at H
              refine Wp_seq ?_
              refine Wp_seq ?_
              refine Wp_region_lit ?_
              refine W_v (.int .i64 x1518) (x_move rfl) rfl ?_
              refine W_v (.slice A33 t31.length c34) (x_move rfl) rfl ?_
              refine W_v (.int .i64 (t31.length : Int)) (x_len_slice (n := t31.length) Try.underlying22 rfl) rfl ?_
              refine W_v (.bool (decide (x1518 < (t31.length : Int)))) (x_ibin rfl rfl rfl rfl) rfl ?_
              refine Wl_nil ?_
              refine tn ?_
              rcases iteS H with ⟨hb1807, H⟩ | ⟨hb1807, H⟩
              · refine Wp_cond_true (congrArg Value.bool hb1807) ?_
                refine Wp_skip ?_
                refine tn ?_
                refine Wp_seq ?_
                refine Wp_block ?_
                refine Wp_seq ?_
                refine Wp_seq ?_
                refine Wp_region_any (S := fun w' => ∃ Mx, M941.le Mx ∧ St w' Mx F []) mixed ?_
                intro w1853 hw1854 E'
                replace S := S.heap hw1854
                replace E := E.trans E'
                clear E'
                refine Wa_take (i := 0) rfl (by kernel_rfl) rfl rfl (.int .i64 x1518) rfl (fun w' h' => x_move rfl) (⟨M941, Hp.le_refl M941, S.pick [] (by decide)⟩) ?_
                refine Wa_take (i := 1) rfl (by kernel_rfl) rfl rfl (.slice A0 a0.length c0) rfl (fun w' h' => x_move rfl) (⟨M941, Hp.le_refl M941, S.pick [] (by decide)⟩) ?_
                refine Wa_take (i := 2) rfl (by kernel_rfl) rfl rfl (.int .i64 (a0.length : Int)) rfl (fun w' h' => x_len_slice (n := a0.length) Try.underlying22 rfl) (⟨M941, Hp.le_refl M941, S.pick [] (by decide)⟩) ?_
                refine Wa_take (i := 3) rfl (by kernel_rfl) rfl rfl (.bool (decide (x1518 < (a0.length : Int)))) rfl (fun w' h' => x_ibin rfl rfl rfl rfl) (⟨M941, Hp.le_refl M941, S.pick [] (by decide)⟩) ?_
                refine Wa_take (i := 4) rfl (by kernel_rfl) rfl rfl (.bool (decide (x1518 < (a0.length : Int)))) rfl (fun w' h' => x_move rfl) (⟨M941, Hp.le_refl M941, S.pick [] (by decide)⟩) ?_
                obtain ⟨o1877, o1877h, o1877H⟩ := bindS H
                clear H
                refine Wa_join (fun ρ w' => ∃ (x1876 : Bool), (x1876) = o1877 ∧ Agree ρ [(0, .slice A0 a0.length c0), (1, .int .i64 a1), (5, .slice A33 t31.length c34), (6, .int .i64 x1518), (51, .bool x1876)] ∧ Ext w w' ∧ St w' M941 F []) 6 (Ls 21 [0, 1, 2, 3, 4, 5, 6, 7, 8, 9, 10, 11, 12, 13, 14]) ?_ ?_
                · clear o1877h
                  rintro ρ w1878 ⟨x1876, rfl, hρ, E, S⟩
                  rw [agree_eta hρ]
                  clear hρ
                  have H := o1877H
                  clear o1877H
                  refine Wa_take (i := 15) rfl (by kernel_rfl) rfl rfl (.bool x1876) rfl (fun w' h' => x_move rfl) (⟨M941, Hp.le_refl M941, S.pick [] (by decide)⟩) ?_
                  refine Wa_join (fun ρ w' => Agree ρ [(0, .slice A0 a0.length c0), (1, .int .i64 a1), (5, .slice A33 t31.length c34), (6, .int .i64 x1518), (57, .bool (x1876 || (decide (x1518 ≥ (a0.length : Int)))))] ∧ w1878 = w') 0 (Ls 21 [0, 1, 2, 3, 4, 5, 6, 7, 8, 9, 10, 11, 12, 13, 14, 15, 16, 17, 18, 19, 20]) ?_ ?_
                  · rintro ρ _ ⟨hρ, rfl⟩
                    rw [agree_eta hρ]
                    clear hρ
                    refine Wa_done (by kernel_rfl) ?_
                    refine tn ?_
                    rcases iteS H with ⟨hb1880, H⟩ | ⟨hb1880, H⟩
                    · refine Wp_cond_true (congrArg Value.bool hb1880) ?_
                      refine Wp_seq ?_
                      refine Wp_region_lit ?_
                      refine W_v (.bool false) (x_assign rfl) rfl ?_
                      refine Wl_nil ?_
                      refine tn ?_
                      refine Wp_ret ?_
                      refine tr (br (tr (tr (br (tr (tr (?_)))))))
                      obtain rfl := Option.some.inj H
                      have H := o1805H
                      replace H := elimL H
                      obtain rfl := Option.some.inj H
                      exact ⟨_, _, _, fun w1 e1 => run_resR (vs := [.bool false]) (FA.cons (rfl) (FA.nil)), HM, E, S.pick [] (by decide), ⟨rfl, rfl⟩⟩
                    · refine Wp_cond_false (congrArg Value.bool hb1880) ?_
                      refine Wp_skip ?_
                      refine tn ?_
                      refine Wp_seq ?_
                      refine Wp_region_lit ?_
                      refine W_v (.int .i64 a1) (x_move rfl) rfl ?_
                      refine W_v (.slice A33 t31.length c34) (x_move rfl) rfl ?_
                      refine W_v (.int .i64 x1518) (x_move rfl) rfl ?_
                      obtain ⟨⟨p1881, p1882⟩, H⟩ := chkS H
                      obtain ⟨b1883, o1884, cs1885, _, _, ee1890, hb1886, vs1887, hR1888, hc1889⟩ := SlW.at' hf943 p1881 p1882
                      obtain rfl : vs1887 = _ := hR1888
                      refine W_v (.pointer (some ⟨b1883, o1884 + x1518.toNat * 4, none⟩)) (x_indexAddr Try.underlying22 ty27 (slA ee1890) rfl p1881 p1882) rfl ?_
                      refine W_v (.pointer (some ⟨b1883, o1884 + x1518.toNat * 4 + 1, none⟩)) (x_fieldAddr (o := o1884 + x1518.toNat * 4) (off := 1) Try.underlying27 rfl ty3 rfl rfl) rfl ?_
                      refine W_v (.int .i64 ((rd t31 x1518).TS)) (x_load (S.frz hb1886) ty3 rfl (hc1889 1 _ rfl)) rfl ?_
                      refine W_v (.int .i64 (imax a1 ((rd t31 x1518).TS))) (x_max2 rfl rfl) rfl ?_
                      refine W_v (.int .i64 (imax a1 ((rd t31 x1518).TS))) (x_assign rfl) rfl ?_
                      refine Wl_nil ?_
                      refine tn ?_
                      refine Wp_seq ?_
                      refine Wp_region_lit ?_
                      refine W_v (.slice A0 a0.length c0) (x_move rfl) rfl ?_
                      refine W_v (.int .i64 (imax a1 ((rd t31 x1518).TS))) (x_move rfl) rfl ?_
                      obtain ⟨t1891, ht1892, H⟩ := bindS H
                      refine W_callF fn12 (keep_Seen.con k M941 A0 c0 a0 (imax a1 ((rd t31 x1518).TS)) t1891 hr0 ht1892) S rfl rfl (by rintro _ _ _ ⟨_, rfl⟩; exact flat_nil) ?_
                      rintro _ w1893 _ Γ' E' S ⟨rfl, rfl⟩
                      replace E := E.trans E'
                      clear E'
                      refine W_v (.tuple #[.agg #[.int .i64 t1891.1.Writer, .int .i64 t1891.1.TS, .bool t1891.1.Tomb, .string (bs t1891.1.Value)], .bool t1891.2]) (x_move rfl) rfl ?_
                      refine W_v (.agg #[.int .i64 t1891.1.Writer, .int .i64 t1891.1.TS, .bool t1891.1.Tomb, .string (bs t1891.1.Value)]) (x_extract rfl rfl) rfl ?_
                      refine W_v (.bool t1891.2) (x_extract rfl rfl) rfl ?_
                      refine W_alloc S #[.int .i64 0, .int .i64 0, .bool false, .string (bs ([] : Str))] ty27 rfl rfl ?_
                      intro b1894 w1895 E' S
                      replace E := E.trans E'
                      clear E'
                      refine W_store S 0 rfl ty27 rfl rfl [.int .i64 t1891.1.Writer, .int .i64 t1891.1.TS, .bool t1891.1.Tomb, .string (bs t1891.1.Value)] rfl rfl rfl #[.int .i64 t1891.1.Writer, .int .i64 t1891.1.TS, .bool t1891.1.Tomb, .string (bs t1891.1.Value)] rfl rfl ?_
                      intro w1897 E' S
                      replace E := E.trans E'
                      clear E'
                      refine W_v (.bool t1891.2) (x_assign rfl) rfl ?_
                      refine Wl_nil ?_
                      refine tn ?_
                      refine Wp_seq ?_
                      refine Wp_seq ?_
                      refine Wp_region_any (S := fun w' => ∃ Mx, M941.le Mx ∧ St w' Mx F [Blk b1894 (.cells #[.int .i64 t1891.1.Writer, .int .i64 t1891.1.TS, .bool t1891.1.Tomb, .string (bs t1891.1.Value)] 27 (0, 0))]) mixed ?_
                      intro w1960 hw1961 E'
                      replace S := S.heap hw1961
                      replace E := E.trans E'
                      clear E'
                      refine Wa_take (i := 0) rfl (by kernel_rfl) rfl rfl (.bool t1891.2) rfl (fun w' h' => x_move rfl) (⟨M941, Hp.le_refl M941, S.pick [0] (by decide)⟩) ?_
                      refine Wa_take (i := 1) rfl (by kernel_rfl) rfl rfl (.slice A33 t31.length c34) rfl (fun w' h' => x_move rfl) (⟨M941, Hp.le_refl M941, S.pick [0] (by decide)⟩) ?_
                      refine Wa_take (i := 2) rfl (by kernel_rfl) rfl rfl (.int .i64 x1518) rfl (fun w' h' => x_move rfl) (⟨M941, Hp.le_refl M941, S.pick [0] (by decide)⟩) ?_
                      obtain ⟨⟨p1962, p1963⟩, H⟩ := chkS H
                      obtain ⟨b1964, o1965, cs1966, _, _, ee1971, hb1967, vs1968, hR1969, hc1970⟩ := SlW.at' hf943 p1962 p1963
                      obtain rfl : vs1968 = _ := hR1969
                      refine Wa_take (i := 3) rfl (by kernel_rfl) rfl rfl (.pointer (some ⟨b1964, o1965 + x1518.toNat * 4, none⟩)) rfl (fun w' h' => x_indexAddr Try.underlying22 ty27 (slA ee1971) rfl p1962 p1963) (⟨M941, Hp.le_refl M941, S.pick [0] (by decide)⟩) ?_
                      refine Wa_take (i := 4) rfl (by kernel_rfl) rfl rfl (.pointer (some ⟨b1964, o1965 + x1518.toNat * 4 + 2, none⟩)) rfl (fun w' h' => x_fieldAddr (o := o1965 + x1518.toNat * 4) (off := 2) Try.underlying27 rfl ty4 rfl rfl) (⟨M941, Hp.le_refl M941, S.pick [0] (by decide)⟩) ?_
                      refine Wa_take (i := 5) rfl (by kernel_rfl) rfl rfl (.bool ((rd t31 x1518).Tomb)) rfl (fun w' h' => x_load (cls_frz h' hb1967) ty4 rfl (hc1970 2 _ rfl)) (⟨M941, Hp.le_refl M941, S.pick [0] (by decide)⟩) ?_
                      refine Wa_take (i := 6) rfl (by kernel_rfl) rfl rfl (.bool (t1891.2 == (rd t31 x1518).Tomb)) rfl (fun w' h' => x_beq Try.underlying4 rfl rfl) (⟨M941, Hp.le_refl M941, S.pick [0] (by decide)⟩) ?_
                      refine Wa_take (i := 7) rfl (by kernel_rfl) rfl rfl (.bool (t1891.2 == (rd t31 x1518).Tomb)) rfl (fun w' h' => x_move rfl) (⟨M941, Hp.le_refl M941, S.pick [0] (by decide)⟩) ?_
                      obtain ⟨o1998, o1998h, o1998H⟩ := bindS H
                      clear H
                      refine Wa_join (fun ρ w' => ∃ (x1997 : Bool), (x1997) = o1998 ∧ Agree ρ [(0, .slice A0 a0.length c0), (1, .int .i64 a1), (5, .slice A33 t31.length c34), (6, .int .i64 x1518), (88, .bool x1997)] ∧ Ext w w' ∧ St w' M941 F [Blk b1894 (.cells #[.int .i64 t1891.1.Writer, .int .i64 t1891.1.TS, .bool t1891.1.Tomb, .string (bs t1891.1.Value)] 27 (0, 0))]) 0 (Ls 18 [0, 1, 2, 3, 4, 5, 6, 7, 8, 9, 10, 11, 12, 13, 14, 15, 16, 17]) ?_ ?_
                      · clear o1998h
                        rintro ρ w1999 ⟨x1997, rfl, hρ, E, S⟩
                        rw [agree_eta hρ]
                        clear hρ
                        have H := o1998H
                        clear o1998H
                        refine Wa_done (by kernel_rfl) ?_
                        refine tn ?_
                        rcases iteS H with ⟨hb2000, H⟩ | ⟨hb2000, H⟩
                        · refine Wp_cond_true (congrArg Value.bool hb2000) ?_
                          refine Wp_seq ?_
                          refine Wp_region_lit ?_
                          refine W_v (.bool false) (x_assign rfl) rfl ?_
                          refine Wl_nil ?_
                          refine tn ?_
                          refine Wp_ret ?_
                          refine tr (br (tr (tr (br (tr (tr (?_)))))))
                          obtain rfl := Option.some.inj H
                          have H := o1805H
                          replace H := elimL H
                          obtain rfl := Option.some.inj H
                          exact ⟨_, _, _, fun w1 e1 => run_resR (vs := [.bool false]) (FA.cons (rfl) (FA.nil)), HM, E, S.pick [] (by decide), ⟨rfl, rfl⟩⟩
                        · refine Wp_cond_false (congrArg Value.bool hb2000) ?_
                          refine Wp_skip ?_
                          refine tn ?_
                          refine Wp_seq ?_
                          refine Wp_region_lit ?_
                          refine W_v (.slice A33 t31.length c34) (x_move rfl) rfl ?_
                          refine W_v (.int .i64 x1518) (x_move rfl) rfl ?_
                          obtain ⟨⟨p2001, p2002⟩, H⟩ := chkS H
                          obtain ⟨b2003, o2004, cs2005, _, _, ee2010, hb2006, vs2007, hR2008, hc2009⟩ := SlW.at' hf943 p2001 p2002
                          obtain rfl : vs2007 = _ := hR2008
                          refine W_v (.pointer (some ⟨b2003, o2004 + x1518.toNat * 4, none⟩)) (x_indexAddr Try.underlying22 ty27 (slA ee2010) rfl p2001 p2002) rfl ?_
                          refine W_v (.pointer (some ⟨b2003, o2004 + x1518.toNat * 4 + 1, none⟩)) (x_fieldAddr (o := o2004 + x1518.toNat * 4) (off := 1) Try.underlying27 rfl ty3 rfl rfl) rfl ?_
                          refine W_v (.int .i64 ((rd t31 x1518).TS)) (x_load (S.frz hb2006) ty3 rfl (hc2009 1 _ rfl)) rfl ?_
                          refine W_v (.int .i64 a1) (x_move rfl) rfl ?_
                          refine W_v (.bool (decide ((rd t31 x1518).TS ≤ a1))) (x_ibin rfl rfl rfl rfl) rfl ?_
                          refine W_v (.bool (decide ((rd t31 x1518).TS ≤ a1))) (x_move rfl) rfl ?_
                          obtain ⟨o2035, o2035h, o2035H⟩ := bindS H
                          clear H
                          refine Wl_cutN 13 (fun ρ w' => ∃ (x2034 : Bool), (x2034) = o2035 ∧ Agree ρ [(0, .slice A0 a0.length c0), (1, .int .i64 a1), (5, .slice A33 t31.length c34), (6, .int .i64 x1518), (109, .bool x2034)] ∧ Ext w w' ∧ St w' M941 F []) ?_ ?_
                          · have H := o2035h
                            rcases iteS H with ⟨hb2033, H⟩ | ⟨hb2033, H⟩
                            · skip
                              refine W_yes (congrArg some hb2033) ?_
                              refine W_v (.slice A33 t31.length c34) (x_move rfl) rfl ?_
                              refine W_yes (congrArg some hb2033) ?_
                              refine W_v (.int .i64 x1518) (x_move rfl) rfl ?_
                              refine W_yes (congrArg some hb2033) ?_
                              obtain ⟨⟨p2036, p2037⟩, H⟩ := chkS H
                              obtain ⟨b2038, o2039, cs2040, _, _, ee2045, hb2041, vs2042, hR2043, hc2044⟩ := SlW.at' hf943 p2036 p2037
                              obtain rfl : vs2042 = _ := hR2043
                              refine W_v (.pointer (some ⟨b2038, o2039 + x1518.toNat * 4, none⟩)) (x_indexAddr Try.underlying22 ty27 (slA ee2045) rfl p2036 p2037) rfl ?_
                              refine W_yes (congrArg some hb2033) ?_
                              refine W_v (.pointer (some ⟨b2038, o2039 + x1518.toNat * 4 + 2, none⟩)) (x_fieldAddr (o := o2039 + x1518.toNat * 4) (off := 2) Try.underlying27 rfl ty4 rfl rfl) rfl ?_
                              refine W_yes (congrArg some hb2033) ?_
                              refine W_v (.bool ((rd t31 x1518).Tomb)) (x_load (S.frz hb2041) ty4 rfl (hc2044 2 _ rfl)) rfl ?_
                              refine W_yes (congrArg some hb2033) ?_
                              refine W_v (.bool ((rd t31 x1518).Tomb)) (x_move rfl) rfl ?_
                              refine Wl_cutN 6 (fun ρ w' => Agree ρ [(0, .slice A0 a0.length c0), (1, .int .i64 a1), (5, .slice A33 t31.length c34), (6, .int .i64 x1518), (96, .bool (decide ((rd t31 x1518).TS ≤ a1))), (97, .slice A33 t31.length c34), (98, .int .i64 x1518), (99, .pointer (some ⟨b2038, o2039 + x1518.toNat * 4, none⟩)), (100, .pointer (some ⟨b2038, o2039 + x1518.toNat * 4 + 2, none⟩)), (101, .bool ((rd t31 x1518).Tomb)), (102, .bool ((rd t31 x1518).Tomb)), (108, .bool ((rd t31 x1518).Tomb || (x1518 != (IntKind.i64.wrap ((t31.length : Int) - (1 : Int))))))] ∧ w1999 = w') ?_ ?_
                              · rcases boolCases ((rd t31 x1518).Tomb) with hb2046 | hb2046
                                · skip
                                  refine W_yes (congrArg some hb2046) ?_
                                  refine W_v (.int .i64 x1518) (x_move rfl) rfl ?_
                                  refine W_yes (congrArg some hb2046) ?_
                                  refine W_v (.slice A33 t31.length c34) (x_move rfl) rfl ?_
                                  refine W_yes (congrArg some hb2046) ?_
                                  refine W_v (.int .i64 (t31.length : Int)) (x_len_slice (n := t31.length) Try.underlying22 rfl) rfl ?_
                                  refine W_yes (congrArg some hb2046) ?_
                                  refine W_v (.int .i64 (IntKind.i64.wrap ((t31.length : Int) - (1 : Int)))) (x_ibin rfl rfl rfl rfl) rfl ?_
                                  refine W_yes (congrArg some hb2046) ?_
                                  refine W_v (.bool (x1518 != (IntKind.i64.wrap ((t31.length : Int) - (1 : Int))))) (x_ibin rfl rfl rfl rfl) rfl ?_
                                  refine W_yes (congrArg some hb2033) ?_
                                  refine W_v (.bool (x1518 != (IntKind.i64.wrap ((t31.length : Int) - (1 : Int))))) (x_pick (k := false) (congrArg Value.bool hb2046) rfl) rfl ?_
                                  refine Wl_nil ?_
                                  exact ⟨⟨rfl, rfl, rfl, rfl, rfl, rfl, rfl, rfl, rfl, rfl, rfl, (by first | rfl | (rw [hb2046]; rfl) | (simp only [hb2046]; rfl)), trivial⟩, rfl⟩
                                · skip
                                  refine W_no (skF hb2046) rfl ?_
                                  refine W_no (skF hb2046) rfl ?_
                                  refine W_no (skF hb2046) rfl ?_
                                  refine W_no (skF hb2046) rfl ?_
                                  refine W_no (skF hb2046) rfl ?_
                                  refine W_yes (congrArg some hb2033) ?_
                                  refine W_v (.bool true) (x_pick (k := true) (congrArg Value.bool hb2046) rfl) rfl ?_
                                  refine Wl_nil ?_
                                  exact ⟨⟨rfl, rfl, rfl, rfl, rfl, rfl, rfl, rfl, rfl, rfl, rfl, (by first | rfl | (rw [hb2046]; rfl) | (simp only [hb2046]; rfl)), trivial⟩, rfl⟩
                              · rintro ρ _ ⟨hρ, rfl⟩
                                rw [agree_eta hρ]
                                clear hρ
                                skip
                                refine W_v (.bool ((rd t31 x1518).Tomb || (x1518 != (IntKind.i64.wrap ((t31.length : Int) - (1 : Int)))))) (x_pick (k := true) (congrArg Value.bool hb2033) rfl) rfl ?_
                                refine Wl_nil ?_
                                exact ⟨((rd t31 x1518).Tomb || (x1518 != (IntKind.i64.wrap ((t31.length : Int) - (1 : Int))))), Option.some.inj H, ⟨rfl, rfl, rfl, rfl, rfl, trivial⟩, E, S.pick [] (by decide)⟩
                            · skip
                              refine W_no (skT hb2033) rfl ?_
                              refine W_no (skT hb2033) rfl ?_
                              refine W_no (skT hb2033) rfl ?_
                              refine W_no (skT hb2033) rfl ?_
                              refine W_no (skT hb2033) rfl ?_
                              refine W_no (skT hb2033) rfl ?_
                              refine W_no (rfl) rfl ?_
                              refine W_no (rfl) rfl ?_
                              refine W_no (rfl) rfl ?_
                              refine W_no (rfl) rfl ?_
                              refine W_no (rfl) rfl ?_
                              refine W_no (skT hb2033) rfl ?_
                              refine W_v (.bool false) (x_pick (k := false) (congrArg Value.bool hb2033) rfl) rfl ?_
                              refine Wl_nil ?_
                              exact ⟨false, Option.some.inj H, ⟨rfl, rfl, rfl, rfl, rfl, trivial⟩, E, S.pick [] (by decide)⟩
                          · clear o2035h
                            rintro ρ w2047 ⟨x2034, rfl, hρ, E, S⟩
                            rw [agree_eta hρ]
                            clear hρ
                            have H := o2035H
                            clear o2035H
                            refine Wl_nil ?_
                            refine tn ?_
                            rcases iteS H with ⟨hb2048, H⟩ | ⟨hb2048, H⟩
                            · refine Wp_cond_true (congrArg Value.bool hb2048) ?_
                              refine Wp_seq ?_
                              refine Wp_region_lit ?_
                              refine W_v (.bool false) (x_assign rfl) rfl ?_
                              refine Wl_nil ?_
                              refine tn ?_
                              refine Wp_ret ?_
                              refine br (tr (tr (br (tr (tr (?_))))))
                              obtain rfl := Option.some.inj H
                              have H := o1805H
                              replace H := elimL H
                              obtain rfl := Option.some.inj H
                              exact ⟨_, _, _, fun w1 e1 => run_resR (vs := [.bool false]) (FA.cons (rfl) (FA.nil)), HM, E, S.pick [] (by decide), ⟨rfl, rfl⟩⟩
                            · refine Wp_cond_false (congrArg Value.bool hb2048) ?_
                              refine Wp_skip ?_
                              refine bn ?_
                              refine tn ?_
                              refine Wp_region_lit ?_
                              refine W_v (.int .i64 x1518) (x_move rfl) rfl ?_
                              refine W_v (.int .i64 (IntKind.i64.wrap (x1518 + (1 : Int)))) (x_ibin rfl rfl rfl rfl) rfl ?_
                              refine W_v (.int .i64 (IntKind.i64.wrap (x1518 + (1 : Int)))) (x_assign rfl) rfl ?_
                              refine Wl_nil ?_
                              refine tn ?_
                              exact ⟨k, Nat.lt_succ_self k, ⟨(IntKind.i64.wrap (x1518 + (1 : Int))), H, ⟨rfl, rfl, rfl, rfl, trivial⟩, E, S.pick [] (by decide)⟩⟩
                      · intro hrest
                        have H := o1998h
                        clear o1998h o1998H
                        rcases iteS H with ⟨hb1996, H⟩ | ⟨hb1996, H⟩
                        · skip
                          refine Wa_takeN (i := 8) rfl (by kernel_rfl) rfl rfl rfl (skF hb1996) (⟨M941, Hp.le_refl M941, S.pick [0] (by decide)⟩) ?_
                          refine Wa_takeN (i := 9) rfl (by kernel_rfl) rfl rfl rfl (skF hb1996) (⟨M941, Hp.le_refl M941, S.pick [0] (by decide)⟩) ?_
                          refine Wa_takeN (i := 10) rfl (by kernel_rfl) rfl rfl rfl (rfl) (⟨M941, Hp.le_refl M941, S.pick [0] (by decide)⟩) ?_
                          refine Wa_takeN (i := 11) rfl (by kernel_rfl) rfl rfl rfl (rfl) (⟨M941, Hp.le_refl M941, S.pick [0] (by decide)⟩) ?_
                          refine Wa_takeN (i := 12) rfl (by kernel_rfl) rfl rfl rfl (rfl) (⟨M941, Hp.le_refl M941, S.pick [0] (by decide)⟩) ?_
                          refine Wa_takeN (i := 13) rfl (by kernel_rfl) rfl rfl rfl (rfl) (⟨M941, Hp.le_refl M941, S.pick [0] (by decide)⟩) ?_
                          refine Wa_takeN (i := 14) rfl (by kernel_rfl) rfl rfl rfl (rfl) (⟨M941, Hp.le_refl M941, S.pick [0] (by decide)⟩) ?_
                          refine Wa_takeN (i := 15) rfl (by kernel_rfl) rfl rfl rfl (rfl) (⟨M941, Hp.le_refl M941, S.pick [0] (by decide)⟩) ?_
                          refine Wa_takeN (i := 16) rfl (by kernel_rfl) rfl rfl rfl (skF hb1996) (⟨M941, Hp.le_refl M941, S.pick [0] (by decide)⟩) ?_
                          refine Wa_take (i := 17) rfl (by kernel_rfl) rfl rfl (.bool true) rfl (fun w' h' => x_pick (k := true) (congrArg Value.bool hb1996) rfl) (⟨M941, Hp.le_refl M941, S.pick [0] (by decide)⟩) ?_
                          exact hrest _ _ ⟨true, Option.some.inj H, ⟨rfl, rfl, rfl, rfl, rfl, trivial⟩, E, S.pick [0] (by decide)⟩
                        · skip
                          refine Wa_takeY (i := 8) rfl (by kernel_rfl) rfl rfl (.bool t1891.2) rfl (congrArg some hb1996) (fun w' h' => x_move rfl) (⟨M941, Hp.le_refl M941, S.pick [0] (by decide)⟩) ?_
                          refine Wa_takeY (i := 9) rfl (by kernel_rfl) rfl rfl (.bool t1891.2) rfl (congrArg some hb1996) (fun w' h' => x_move rfl) (⟨M941, Hp.le_refl M941, S.pick [0] (by decide)⟩) ?_
                          obtain ⟨o2061, o2061h, o2061H⟩ := bindS H
                          clear H
                          refine Wa_join (fun ρ w' => ∃ (x2060 : Bool), (x2060) = o2061 ∧ Agree ρ [(0, .slice A0 a0.length c0), (1, .int .i64 a1), (5, .slice A33 t31.length c34), (6, .int .i64 x1518), (78, .bool (t1891.2 == (rd t31 x1518).Tomb)), (79, .bool t1891.2), (80, .bool t1891.2), (87, .bool x2060)] ∧ Ext w w' ∧ St w' M941 F [Blk b1894 (.cells #[.int .i64 t1891.1.Writer, .int .i64 t1891.1.TS, .bool t1891.1.Tomb, .string (bs t1891.1.Value)] 27 (0, 0))]) 1 (Ls 18 [0, 1, 2, 3, 4, 5, 6, 7, 8, 9, 10, 11, 12, 13, 14, 15, 16]) ?_ ?_
                          · clear o2061h
                            rintro ρ w2062 ⟨x2060, rfl, hρ, E, S⟩
                            rw [agree_eta hρ]
                            clear hρ
                            have H := o2061H
                            clear o2061H
                            refine Wa_take (i := 17) rfl (by kernel_rfl) rfl rfl (.bool x2060) rfl (fun w' h' => x_pick (k := false) (congrArg Value.bool hb1996) rfl) (⟨M941, Hp.le_refl M941, S.pick [0] (by decide)⟩) ?_
                            exact hrest _ _ ⟨x2060, Option.some.inj H, ⟨rfl, rfl, rfl, rfl, rfl, trivial⟩, E, S.pick [0] (by decide)⟩
                          · intro hrest
                            have H := o2061h
                            clear o2061h o2061H
                            rcases iteS H with ⟨hb2059, H⟩ | ⟨hb2059, H⟩
                            · skip
                              refine Wa_takeY (i := 10) rfl (by kernel_rfl) rfl rfl (.agg #[.int .i64 t1891.1.Writer, .int .i64 t1891.1.TS, .bool t1891.1.Tomb, .string (bs t1891.1.Value)]) rfl (congrArg some hb2059) (fun w' h' => x_loadA (cls_blk h' 0 rfl) ty27 rfl (sub_of_extract rfl) rfl rfl) (⟨M941, Hp.le_refl M941, S.pick [0] (by decide)⟩) ?_
                              refine Wa_takeY (i := 11) rfl (by kernel_rfl) rfl rfl (.slice A33 t31.length c34) rfl (congrArg some hb2059) (fun w' h' => x_move rfl) (⟨M941, Hp.le_refl M941, S.pick [0] (by decide)⟩) ?_
                              refine Wa_takeY (i := 12) rfl (by kernel_rfl) rfl rfl (.int .i64 x1518) rfl (congrArg some hb2059) (fun w' h' => x_move rfl) (⟨M941, Hp.le_refl M941, S.pick [0] (by decide)⟩) ?_
                              obtain ⟨⟨p2063, p2064⟩, H⟩ := chkS H
                              obtain ⟨b2065, o2066, cs2067, _, _, ee2072, hb2068, vs2069, hR2070, hc2071⟩ := SlW.at' hf943 p2063 p2064
                              obtain rfl : vs2069 = _ := hR2070
                              refine Wa_takeY (i := 13) rfl (by kernel_rfl) rfl rfl (.pointer (some ⟨b2065, o2066 + x1518.toNat * 4, none⟩)) rfl (congrArg some hb2059) (fun w' h' => x_indexAddr Try.underlying22 ty27 (slA ee2072) rfl p2063 p2064) (⟨M941, Hp.le_refl M941, S.pick [0] (by decide)⟩) ?_
                              refine Wa_takeY (i := 14) rfl (by kernel_rfl) rfl rfl (.agg #[.int .i64 ((rd t31 x1518).Writer), .int .i64 ((rd t31 x1518).TS), .bool ((rd t31 x1518).Tomb), .string (bs ((rd t31 x1518).Value))]) rfl (congrArg some hb2059) (fun w' h' => x_loadA (cls_frz h' hb2068) ty27 rfl (sub_el hc2071 0 rfl) rfl rfl) (⟨M941, Hp.le_refl M941, S.pick [0] (by decide)⟩) ?_
                              refine Wa_takeY (i := 15) rfl (by kernel_rfl) rfl rfl (.bool (!((t1891.1.Writer == (rd t31 x1518).Writer) && ((t1891.1.TS == (rd t31 x1518).TS) && ((t1891.1.Tomb == (rd t31 x1518).Tomb) && (t1891.1.Value == (rd t31 x1518).Value)))))) rfl (congrArg some hb2059) (fun w' h' => x_ne_of (en27 _ _ _ _) rfl (eq27 _ t1891.1.Writer t1891.1.TS t1891.1.Tomb t1891.1.Value ((rd t31 x1518).Writer) ((rd t31 x1518).TS) ((rd t31 x1518).Tomb) ((rd t31 x1518).Value))) (⟨M941, Hp.le_refl M941, S.pick [0] (by decide)⟩) ?_
                              refine Wa_takeY (i := 16) rfl (by kernel_rfl) rfl rfl (.bool (!((t1891.1.Writer == (rd t31 x1518).Writer) && ((t1891.1.TS == (rd t31 x1518).TS) && ((t1891.1.Tomb == (rd t31 x1518).Tomb) && (t1891.1.Value == (rd t31 x1518).Value)))))) rfl (congrArg some hb1996) (fun w' h' => x_pick (k := true) (congrArg Value.bool hb2059) rfl) (⟨M941, Hp.le_refl M941, S.pick [0] (by decide)⟩) ?_
                              exact hrest _ _ ⟨(!((t1891.1.Writer == (rd t31 x1518).Writer) && ((t1891.1.TS == (rd t31 x1518).TS) && ((t1891.1.Tomb == (rd t31 x1518).Tomb) && (t1891.1.Value == (rd t31 x1518).Value))))), Option.some.inj H, ⟨rfl, rfl, rfl, rfl, rfl, rfl, rfl, rfl, trivial⟩, E, S.pick [0] (by decide)⟩
                            · skip
                              refine Wa_takeN (i := 10) rfl (by kernel_rfl) rfl rfl rfl (skT hb2059) (⟨M941, Hp.le_refl M941, S.pick [0] (by decide)⟩) ?_
                              refine Wa_takeN (i := 11) rfl (by kernel_rfl) rfl rfl rfl (skT hb2059) (⟨M941, Hp.le_refl M941, S.pick [0] (by decide)⟩) ?_
                              refine Wa_takeN (i := 12) rfl (by kernel_rfl) rfl rfl rfl (skT hb2059) (⟨M941, Hp.le_refl M941, S.pick [0] (by decide)⟩) ?_
                              refine Wa_takeN (i := 13) rfl (by kernel_rfl) rfl rfl rfl (skT hb2059) (⟨M941, Hp.le_refl M941, S.pick [0] (by decide)⟩) ?_
                              refine Wa_takeN (i := 14) rfl (by kernel_rfl) rfl rfl rfl (skT hb2059) (⟨M941, Hp.le_refl M941, S.pick [0] (by decide)⟩) ?_
                              refine Wa_takeN (i := 15) rfl (by kernel_rfl) rfl rfl rfl (skT hb2059) (⟨M941, Hp.le_refl M941, S.pick [0] (by decide)⟩) ?_
                              refine Wa_takeY (i := 16) rfl (by kernel_rfl) rfl rfl (.bool false) rfl (congrArg some hb1996) (fun w' h' => x_pick (k := false) (congrArg Value.bool hb2059) rfl) (⟨M941, Hp.le_refl M941, S.pick [0] (by decide)⟩) ?_
                              exact hrest _ _ ⟨false, Option.some.inj H, ⟨rfl, rfl, rfl, rfl, rfl, rfl, rfl, rfl, trivial⟩, E, S.pick [0] (by decide)⟩
                  · intro hrest
                    rcases boolCases x1876 with hb1879 | hb1879
                    · skip
                      refine Wa_takeY (i := 16) rfl (by kernel_rfl) rfl rfl (.int .i64 x1518) rfl (congrArg some hb1879) (fun w' h' => x_move rfl) (⟨M941, Hp.le_refl M941, S.pick [] (by decide)⟩) ?_
                      refine Wa_takeY (i := 17) rfl (by kernel_rfl) rfl rfl (.slice A0 a0.length c0) rfl (congrArg some hb1879) (fun w' h' => x_move rfl) (⟨M941, Hp.le_refl M941, S.pick [] (by decide)⟩) ?_
                      refine Wa_takeY (i := 18) rfl (by kernel_rfl) rfl rfl (.int .i64 (a0.length : Int)) rfl (congrArg some hb1879) (fun w' h' => x_len_slice (n := a0.length) Try.underlying22 rfl) (⟨M941, Hp.le_refl M941, S.pick [] (by decide)⟩) ?_
                      refine Wa_takeY (i := 19) rfl (by kernel_rfl) rfl rfl (.bool (decide (x1518 ≥ (a0.length : Int)))) rfl (congrArg some hb1879) (fun w' h' => x_ibin rfl rfl rfl rfl) (⟨M941, Hp.le_refl M941, S.pick [] (by decide)⟩) ?_
                      refine Wa_take (i := 20) rfl (by kernel_rfl) rfl rfl (.bool (decide (x1518 ≥ (a0.length : Int)))) rfl (fun w' h' => x_pick (k := false) (congrArg Value.bool hb1879) rfl) (⟨M941, Hp.le_refl M941, S.pick [] (by decide)⟩) ?_
                      exact hrest _ _ ⟨⟨rfl, rfl, rfl, rfl, (by first | rfl | (rw [hb1879]; rfl) | (simp only [hb1879]; rfl)), trivial⟩, rfl⟩
                    · skip
                      refine Wa_takeN (i := 16) rfl (by kernel_rfl) rfl rfl rfl (skF hb1879) (⟨M941, Hp.le_refl M941, S.pick [] (by decide)⟩) ?_
                      refine Wa_takeN (i := 17) rfl (by kernel_rfl) rfl rfl rfl (skF hb1879) (⟨M941, Hp.le_refl M941, S.pick [] (by decide)⟩) ?_
                      refine Wa_takeN (i := 18) rfl (by kernel_rfl) rfl rfl rfl (skF hb1879) (⟨M941, Hp.le_refl M941, S.pick [] (by decide)⟩) ?_
                      refine Wa_takeN (i := 19) rfl (by kernel_rfl) rfl rfl rfl (skF hb1879) (⟨M941, Hp.le_refl M941, S.pick [] (by decide)⟩) ?_
                      refine Wa_take (i := 20) rfl (by kernel_rfl) rfl rfl (.bool true) rfl (fun w' h' => x_pick (k := true) (congrArg Value.bool hb1879) rfl) (⟨M941, Hp.le_refl M941, S.pick [] (by decide)⟩) ?_
                      exact hrest _ _ ⟨⟨rfl, rfl, rfl, rfl, (by first | rfl | (rw [hb1879]; rfl) | (simp only [hb1879]; rfl)), trivial⟩, rfl⟩
                · intro hrest
                  have H := o1877h
                  clear o1877h o1877H
                  rcases iteS H with ⟨hb1875, H⟩ | ⟨hb1875, H⟩
                  · skip
                    refine Wa_takeY (i := 5) rfl (by kernel_rfl) rfl rfl (.slice A33 t31.length c34) rfl (congrArg some hb1875) (fun w' h' => x_move rfl) (⟨M941, Hp.le_refl M941, S.pick [] (by decide)⟩) ?_
                    refine Wa_takeY (i := 6) rfl (by kernel_rfl) rfl rfl (.int .i64 x1518) rfl (congrArg some hb1875) (fun w' h' => x_move rfl) (⟨M941, Hp.le_refl M941, S.pick [] (by decide)⟩) ?_
                    obtain ⟨⟨p2073, p2074⟩, H⟩ := chkS H
                    obtain ⟨b2075, o2076, cs2077, _, _, ee2082, hb2078, vs2079, hR2080, hc2081⟩ := SlW.at' hf943 p2073 p2074
                    obtain rfl : vs2079 = _ := hR2080
                    refine Wa_takeY (i := 7) rfl (by kernel_rfl) rfl rfl (.pointer (some ⟨b2075, o2076 + x1518.toNat * 4, none⟩)) rfl (congrArg some hb1875) (fun w' h' => x_indexAddr Try.underlying22 ty27 (slA ee2082) rfl p2073 p2074) (⟨M941, Hp.le_refl M941, S.pick [] (by decide)⟩) ?_
                    refine Wa_takeY (i := 8) rfl (by kernel_rfl) rfl rfl (.agg #[.int .i64 ((rd t31 x1518).Writer), .int .i64 ((rd t31 x1518).TS), .bool ((rd t31 x1518).Tomb), .string (bs ((rd t31 x1518).Value))]) rfl (congrArg some hb1875) (fun w' h' => x_loadA (cls_frz h' hb2078) ty27 rfl (sub_el hc2081 0 rfl) rfl rfl) (⟨M941, Hp.le_refl M941, S.pick [] (by decide)⟩) ?_
                    refine Wa_takeY (i := 9) rfl (by kernel_rfl) rfl rfl (.slice A0 a0.length c0) rfl (congrArg some hb1875) (fun w' h' => x_move rfl) (⟨M941, Hp.le_refl M941, S.pick [] (by decide)⟩) ?_
                    refine Wa_takeY (i := 10) rfl (by kernel_rfl) rfl rfl (.int .i64 x1518) rfl (congrArg some hb1875) (fun w' h' => x_move rfl) (⟨M941, Hp.le_refl M941, S.pick [] (by decide)⟩) ?_
                    obtain ⟨⟨p2083, p2084⟩, H⟩ := chkS H
                    obtain ⟨b2085, o2086, cs2087, _, _, ee2092, hb2088, vs2089, hR2090, hc2091⟩ := SlW.at' hr0 p2083 p2084
                    obtain rfl : vs2089 = _ := hR2090
                    refine Wa_takeY (i := 11) rfl (by kernel_rfl) rfl rfl (.pointer (some ⟨b2085, o2086 + x1518.toNat * 4, none⟩)) rfl (congrArg some hb1875) (fun w' h' => x_indexAddr Try.underlying22 ty27 (slA ee2092) rfl p2083 p2084) (⟨M941, Hp.le_refl M941, S.pick [] (by decide)⟩) ?_
                    refine Wa_takeY (i := 12) rfl (by kernel_rfl) rfl rfl (.agg #[.int .i64 ((rd a0 x1518).Writer), .int .i64 ((rd a0 x1518).TS), .bool ((rd a0 x1518).Tomb), .string (bs ((rd a0 x1518).Value))]) rfl (congrArg some hb1875) (fun w' h' => x_loadA (cls_frz h' hb2088) ty27 rfl (sub_el hc2091 0 rfl) rfl rfl) (⟨M941, Hp.le_refl M941, S.pick [] (by decide)⟩) ?_
                    refine Wa_takeY (i := 13) rfl (by kernel_rfl) rfl rfl (.bool (!(((rd t31 x1518).Writer == (rd a0 x1518).Writer) && (((rd t31 x1518).TS == (rd a0 x1518).TS) && (((rd t31 x1518).Tomb == (rd a0 x1518).Tomb) && ((rd t31 x1518).Value == (rd a0 x1518).Value)))))) rfl (congrArg some hb1875) (fun w' h' => x_ne_of (en27 _ _ _ _) rfl (eq27 _ ((rd t31 x1518).Writer) ((rd t31 x1518).TS) ((rd t31 x1518).Tomb) ((rd t31 x1518).Value) ((rd a0 x1518).Writer) ((rd a0 x1518).TS) ((rd a0 x1518).Tomb) ((rd a0 x1518).Value))) (⟨M941, Hp.le_refl M941, S.pick [] (by decide)⟩) ?_
                    refine Wa_take (i := 14) rfl (by kernel_rfl) rfl rfl (.bool (!(((rd t31 x1518).Writer == (rd a0 x1518).Writer) && (((rd t31 x1518).TS == (rd a0 x1518).TS) && (((rd t31 x1518).Tomb == (rd a0 x1518).Tomb) && ((rd t31 x1518).Value == (rd a0 x1518).Value)))))) rfl (fun w' h' => x_pick (k := true) (congrArg Value.bool hb1875) rfl) (⟨M941, Hp.le_refl M941, S.pick [] (by decide)⟩) ?_
                    exact hrest _ _ ⟨(!(((rd t31 x1518).Writer == (rd a0 x1518).Writer) && (((rd t31 x1518).TS == (rd a0 x1518).TS) && (((rd t31 x1518).Tomb == (rd a0 x1518).Tomb) && ((rd t31 x1518).Value == (rd a0 x1518).Value))))), Option.some.inj H, ⟨rfl, rfl, rfl, rfl, rfl, trivial⟩, E, S.pick [] (by decide)⟩
                  · skip
                    refine Wa_takeN (i := 5) rfl (by kernel_rfl) rfl rfl rfl (skT hb1875) (⟨M941, Hp.le_refl M941, S.pick [] (by decide)⟩) ?_
                    refine Wa_takeN (i := 6) rfl (by kernel_rfl) rfl rfl rfl (skT hb1875) (⟨M941, Hp.le_refl M941, S.pick [] (by decide)⟩) ?_
                    refine Wa_takeN (i := 7) rfl (by kernel_rfl) rfl rfl rfl (skT hb1875) (⟨M941, Hp.le_refl M941, S.pick [] (by decide)⟩) ?_
                    refine Wa_takeN (i := 8) rfl (by kernel_rfl) rfl rfl rfl (skT hb1875) (⟨M941, Hp.le_refl M941, S.pick [] (by decide)⟩) ?_
                    refine Wa_takeN (i := 9) rfl (by kernel_rfl) rfl rfl rfl (skT hb1875) (⟨M941, Hp.le_refl M941, S.pick [] (by decide)⟩) ?_
                    refine Wa_takeN (i := 10) rfl (by kernel_rfl) rfl rfl rfl (skT hb1875) (⟨M941, Hp.le_refl M941, S.pick [] (by decide)⟩) ?_
                    refine Wa_takeN (i := 11) rfl (by kernel_rfl) rfl rfl rfl (skT hb1875) (⟨M941, Hp.le_refl M941, S.pick [] (by decide)⟩) ?_
                    refine Wa_takeN (i := 12) rfl (by kernel_rfl) rfl rfl rfl (skT hb1875) (⟨M941, Hp.le_refl M941, S.pick [] (by decide)⟩) ?_
                    refine Wa_takeN (i := 13) rfl (by kernel_rfl) rfl rfl rfl (skT hb1875) (⟨M941, Hp.le_refl M941, S.pick [] (by decide)⟩) ?_
                    refine Wa_take (i := 14) rfl (by kernel_rfl) rfl rfl (.bool false) rfl (fun w' h' => x_pick (k := false) (congrArg Value.bool hb1875) rfl) (⟨M941, Hp.le_refl M941, S.pick [] (by decide)⟩) ?_
                    exact hrest _ _ ⟨false, Option.some.inj H, ⟨rfl, rfl, rfl, rfl, rfl, trivial⟩, E, S.pick [] (by decide)⟩
              · refine Wp_cond_false (congrArg Value.bool hb1807) ?_
                refine Wp_exit ?_
                refine tx (tx (bsm (?_)))
                refine tn ?_
                exact ⟨Option.some.inj H, ⟨rfl, rfl, rfl, trivial⟩, E, S.pick [] (by decide)⟩
        · clear o1805h
          rintro ρ w2093 ⟨rfl, hρ, E, S⟩
          rw [agree_eta hρ]
          clear hρ
          have H := o1805H
          clear o1805H
          replace H := elimR H
          refine tn ?_
          refine Wp_seq ?_
          refine Wp_seq ?_
          refine Wp_region_lit ?_
          refine W_v (.slice A33 t31.length c34) (x_move rfl) rfl ?_
          refine W_v (.int .i64 (t31.length : Int)) (x_len_slice (n := t31.length) Try.underlying22 rfl) rfl ?_
          refine W_v (.int .i64 (t31.length : Int)) (x_assign rfl) rfl ?_
          refine Wl_nil ?_
          refine tn ?_
          obtain ⟨o3126, o3126h, o3126H⟩ := bindS H
          clear H
          refine Wp_blockJ (fun ρ w' => .inr () = o3126 ∧ Agree ρ [] ∧ Ext w w' ∧ St w' M941 F []) ?_ ?_
          · skip
            refine Wp_loop (fun n ρ w' => ∃ (x2782 : Int), ferrymanlaw11_KeepLeft_l3 a0 a1 n x2782 = some o3126 ∧ Agree ρ [(0, .slice A0 a0.length c0), (1, .int .i64 a1), (10, .int .i64 x2782)] ∧ Ext w w' ∧ St w' M941 F []) k ?_ ?_
            · skip
              exact ⟨(t31.length : Int), o3126h, ⟨rfl, rfl, rfl, trivial⟩, E, S.pick [] (by decide)⟩
            · intro n
              rintro ρ w3127 ⟨x2782, H, hρ, E, S⟩
              rw [agree_eta hρ]
              clear hρ
              cases n with
              | zero => cases H
              | succ k =>
                rw [ferrymanlaw11_KeepLeft_l3.eq_2] at H
                refine Wp_seq ?_
                refine Wp_seq ?_
                refine Wp_region_lit ?_
                refine W_v (.int .i64 x2782) (x_move rfl) rfl ?_
                refine W_v (.slice A0 a0.length c0) (x_move rfl) rfl ?_
                refine W_v (.int .i64 (a0.length : Int)) (x_len_slice (n := a0.length) Try.underlying22 rfl) rfl ?_
                refine W_v (.bool (decide (x2782 < (a0.length : Int)))) (x_ibin rfl rfl rfl rfl) rfl ?_
                refine Wl_nil ?_
                refine tn ?_
                rcases iteS H with ⟨hb3128, H⟩ | ⟨hb3128, H⟩
                · refine Wp_cond_true (congrArg Value.bool hb3128) ?_
                  refine Wp_skip ?_
                  refine tn ?_
                  refine Wp_seq ?_
                  refine Wp_block ?_
                  refine Wp_seq ?_
                  refine Wp_region_lit ?_
                  refine W_v (.int .i64 0) (x_assign rfl) rfl ?_
                  refine Wl_nil ?_
                  refine tn ?_
                  obtain ⟨o3384, o3384h, o3384H⟩ := bindS H
                  clear H
                  refine Wp_blockJ (fun ρ w' => .inr () = o3384 ∧ Agree ρ [(0, .slice A0 a0.length c0), (1, .int .i64 a1), (10, .int .i64 x2782)] ∧ Ext w w' ∧ St w' M941 F []) ?_ ?_
                  · skip
                    refine Wp_loop (fun n ρ w' => ∃ (x3299 : Int), ferrymanlaw11_KeepLeft_l5 a0 a1 x2782 n x3299 = some o3384 ∧ Agree ρ [(0, .slice A0 a0.length c0), (1, .int .i64 a1), (10, .int .i64 x2782), (11, .int .i64 x3299)] ∧ Ext w w' ∧ St w' M941 F []) k ?_ ?_
                    · skip
                      exact ⟨(0 : Int), o3384h, ⟨rfl, rfl, rfl, rfl, trivial⟩, E, S.pick [] (by decide)⟩
                    · intro n
                      rintro ρ w3385 ⟨x3299, H, hρ, E, S⟩
                      rw [agree_eta hρ]
                      clear hρ
                      cases n with
                      | zero => cases H
                      | succ k =>
                        rw [ferrymanlaw11_KeepLeft_l5.eq_2] at H
                        refine Wp_seq ?_
                        refine Wp_seq ?_
                        refine Wp_region_lit ?_
                        refine W_v (.int .i64 x3299) (x_move rfl) rfl ?_
                        refine W_v (.slice A0 a0.length c0) (x_move rfl) rfl ?_
                        refine W_v (.int .i64 (a0.length : Int)) (x_len_slice (n := a0.length) Try.underlying22 rfl) rfl ?_
                        refine W_v (.bool (decide (x3299 ≤ (a0.length : Int)))) (x_ibin rfl rfl rfl rfl) rfl ?_
                        refine Wl_nil ?_
                        refine tn ?_
                        rcases iteS H with ⟨hb3386, H⟩ | ⟨hb3386, H⟩
                        · refine Wp_cond_true (congrArg Value.bool hb3386) ?_
                          refine Wp_skip ?_
                          refine tn ?_
                          refine Wp_seq ?_
                          refine Wp_block ?_
                          refine Wp_seq ?_
                          refine Wp_region_lit ?_
                          refine W_v (.int .i64 a1) (x_move rfl) rfl ?_
                          refine W_v (.int .i64 a1) (x_assign rfl) rfl ?_
                          refine Wl_nil ?_
                          refine tn ?_
                          refine Wp_seq ?_
                          refine Wp_seq ?_
                          refine Wp_region_lit ?_
                          refine W_v (.int .i64 x3299) (x_move rfl) rfl ?_
                          refine W_v (.slice A0 a0.length c0) (x_move rfl) rfl ?_
                          refine W_v (.int .i64 (a0.length : Int)) (x_len_slice (n := a0.length) Try.underlying22 rfl) rfl ?_
                          refine W_v (.bool (decide (x3299 < (a0.length : Int)))) (x_ibin rfl rfl rfl rfl) rfl ?_
                          refine Wl_nil ?_
                          refine tn ?_
                          obtain ⟨o3399, o3399h, o3399H⟩ := bindS H
                          refine Wp_cut (fun ρ w' => ∃ (x3398 : Int), (x3398) = o3399 ∧ Agree ρ [(0, .slice A0 a0.length c0), (1, .int .i64 a1), (10, .int .i64 x2782), (11, .int .i64 x3299), (12, .int .i64 x3398)] ∧ Ext w w' ∧ St w' M941 F []) ?_ ?_
                          · clear o3399H
                            have H := o3399h
                            clear o3399h
                            rcases iteS H with ⟨hb3400, H⟩ | ⟨hb3400, H⟩
                            · refine Wp_cond_true (congrArg Value.bool hb3400) ?_
                              refine Wp_region_lit ?_
                              refine W_v (.int .i64 a1) (x_move rfl) rfl ?_
                              refine W_v (.slice A0 a0.length c0) (x_move rfl) rfl ?_
                              refine W_v (.int .i64 x3299) (x_move rfl) rfl ?_
                              obtain ⟨⟨p3401, p3402⟩, H⟩ := chkS H
                              obtain ⟨b3403, o3404, cs3405, _, _, ee3410, hb3406, vs3407, hR3408, hc3409⟩ := SlW.at' hr0 p3401 p3402
                              obtain rfl : vs3407 = _ := hR3408
                              refine W_v (.pointer (some ⟨b3403, o3404 + x3299.toNat * 4, none⟩)) (x_indexAddr Try.underlying22 ty27 (slA ee3410) rfl p3401 p3402) rfl ?_
                              refine W_v (.pointer (some ⟨b3403, o3404 + x3299.toNat * 4 + 1, none⟩)) (x_fieldAddr (o := o3404 + x3299.toNat * 4) (off := 1) Try.underlying27 rfl ty3 rfl rfl) rfl ?_
                              refine W_v (.int .i64 ((rd a0 x3299).TS)) (x_load (S.frz hb3406) ty3 rfl (hc3409 1 _ rfl)) rfl ?_
                              refine W_v (.int .i64 (imax a1 ((rd a0 x3299).TS))) (x_max2 rfl rfl) rfl ?_
                              refine W_v (.int .i64 (imax a1 ((rd a0 x3299).TS))) (x_assign rfl) rfl ?_
                              refine Wl_nil ?_
                              refine tn ?_
                              exact ⟨(imax a1 ((rd a0 x3299).TS)), Option.some.inj H, ⟨rfl, rfl, rfl, rfl, rfl, trivial⟩, E, S.pick [] (by decide)⟩
                            · refine Wp_cond_false (congrArg Value.bool hb3400) ?_
                              refine Wp_skip ?_
                              refine tn ?_
                              exact ⟨a1, Option.some.inj H, ⟨rfl, rfl, rfl, rfl, rfl, trivial⟩, E, S.pick [] (by decide)⟩
                          · clear o3399h
                            rintro ρ w3411 ⟨x3398, rfl, hρ, E, S⟩
                            rw [agree_eta hρ]
                            clear hρ
                            have H := o3399H
                            clear o3399H
                            refine tn ?_
                            refine Wp_seq ?_
                            refine Wp_region_lit ?_
                            refine W_v (.slice A0 a0.length c0) (x_move rfl) rfl ?_
                            refine W_v (.int .i64 x3398) (x_move rfl) rfl ?_
                            obtain ⟨t3412, ht3413, H⟩ := bindS H
                            refine W_callF fn12 (keep_Seen.con k M941 A0 c0 a0 x3398 t3412 hr0 ht3413) S rfl rfl (by rintro _ _ _ ⟨_, rfl⟩; exact flat_nil) ?_
                            rintro _ w3414 _ Γ' E' S ⟨rfl, rfl⟩
                            replace E := E.trans E'
                            clear E'
                            refine W_v (.tuple #[.agg #[.int .i64 t3412.1.Writer, .int .i64 t3412.1.TS, .bool t3412.1.Tomb, .string (bs t3412.1.Value)], .bool t3412.2]) (x_move rfl) rfl ?_
                            refine W_v (.agg #[.int .i64 t3412.1.Writer, .int .i64 t3412.1.TS, .bool t3412.1.Tomb, .string (bs t3412.1.Value)]) (x_extract rfl rfl) rfl ?_
                            refine W_v (.bool t3412.2) (x_extract rfl rfl) rfl ?_
                            refine W_alloc S #[.int .i64 0, .int .i64 0, .bool false, .string (bs ([] : Str))] ty27 rfl rfl ?_
                            intro b3415 w3416 E' S
                            replace E := E.trans E'
                            clear E'
                            refine W_store S 0 rfl ty27 rfl rfl [.int .i64 t3412.1.Writer, .int .i64 t3412.1.TS, .bool t3412.1.Tomb, .string (bs t3412.1.Value)] rfl rfl rfl #[.int .i64 t3412.1.Writer, .int .i64 t3412.1.TS, .bool t3412.1.Tomb, .string (bs t3412.1.Value)] rfl rfl ?_
                            intro w3418 E' S
                            replace E := E.trans E'
                            clear E'
                            refine W_v (.bool t3412.2) (x_assign rfl) rfl ?_
                            refine Wl_nil ?_
                            refine tn ?_
                            refine Wp_seq ?_
                            refine Wp_region_any (S := fun w' => ∃ Mx, M941.le Mx ∧ St w' Mx F [Blk b3415 (.cells #[.int .i64 t3412.1.Writer, .int .i64 t3412.1.TS, .bool t3412.1.Tomb, .string (bs t3412.1.Value)] 27 (0, 0))]) mixed ?_
                            intro w3443 hw3444 E'
                            replace S := S.heap hw3444
                            replace E := E.trans E'
                            clear E'
                            refine Wa_take (i := 0) rfl (by kernel_rfl) rfl rfl (.bool t3412.2) rfl (fun w' h' => x_move rfl) (⟨M941, Hp.le_refl M941, S.pick [0] (by decide)⟩) ?_
                            refine Wa_take (i := 1) rfl (by kernel_rfl) rfl rfl (.bool t3412.2) rfl (fun w' h' => x_move rfl) (⟨M941, Hp.le_refl M941, S.pick [0] (by decide)⟩) ?_
                            obtain ⟨o3457, o3457h, o3457H⟩ := bindS H
                            clear H
                            refine Wa_join (fun ρ w' => ∃ (x3456 : Bool), (x3456) = o3457 ∧ Agree ρ [(0, .slice A0 a0.length c0), (1, .int .i64 a1), (10, .int .i64 x2782), (11, .int .i64 x3299), (152, .bool x3456)] ∧ Ext w w' ∧ St w' M941 F [Blk b3415 (.cells #[.int .i64 t3412.1.Writer, .int .i64 t3412.1.TS, .bool t3412.1.Tomb, .string (bs t3412.1.Value)] 27 (0, 0))]) 0 (Ls 11 [0, 1, 2, 3, 4, 5, 6, 7, 8, 9, 10]) ?_ ?_
                            · clear o3457h
                              rintro ρ w3458 ⟨x3456, rfl, hρ, E, S⟩
                              rw [agree_eta hρ]
                              clear hρ
                              have H := o3457H
                              clear o3457H
                              refine Wa_done (by kernel_rfl) ?_
                              refine tn ?_
                              rcases iteS H with ⟨hb3459, H⟩ | ⟨hb3459, H⟩
                              · refine Wp_cond_true (congrArg Value.bool hb3459) ?_
                                refine Wp_seq ?_
                                refine Wp_region_lit ?_
                                refine W_v (.bool false) (x_assign rfl) rfl ?_
                                refine Wl_nil ?_
                                refine tn ?_
                                refine Wp_ret ?_
                                refine br (tr (tr (br (tr (br (tr (tr (br (tr (tr (?_)))))))))))
                                obtain rfl := Option.some.inj H
                                have H := o3384H
                                replace H := elimL H
                                obtain rfl := Option.some.inj H
                                have H := o3126H
                                replace H := elimL H
                                obtain rfl := Option.some.inj H
                                exact ⟨_, _, _, fun w1 e1 => run_resR (vs := [.bool false]) (FA.cons (rfl) (FA.nil)), HM, E, S.pick [] (by decide), ⟨rfl, rfl⟩⟩
                              · refine Wp_cond_false (congrArg Value.bool hb3459) ?_
                                refine Wp_skip ?_
                                refine bn ?_
                                refine tn ?_
                                refine Wp_region_lit ?_
                                refine W_v (.int .i64 x3299) (x_move rfl) rfl ?_
                                refine W_v (.int .i64 (IntKind.i64.wrap (x3299 + (1 : Int)))) (x_ibin rfl rfl rfl rfl) rfl ?_
                                refine W_v (.int .i64 (IntKind.i64.wrap (x3299 + (1 : Int)))) (x_assign rfl) rfl ?_
                                refine Wl_nil ?_
                                refine tn ?_
                                exact ⟨k, Nat.lt_succ_self k, ⟨(IntKind.i64.wrap (x3299 + (1 : Int))), H, ⟨rfl, rfl, rfl, rfl, trivial⟩, E, S.pick [] (by decide)⟩⟩
                            · intro hrest
                              have H := o3457h
                              clear o3457h o3457H
                              rcases iteS H with ⟨hb3455, H⟩ | ⟨hb3455, H⟩
                              · skip
                                refine Wa_takeY (i := 2) rfl (by kernel_rfl) rfl rfl (.pointer (some ⟨b3415, 1, none⟩)) rfl (congrArg some hb3455) (fun w' h' => x_fieldAddr (o := 0) (off := 1) Try.underlying27 rfl ty3 rfl rfl) (⟨M941, Hp.le_refl M941, S.pick [0] (by decide)⟩) ?_
                                refine Wa_takeY (i := 3) rfl (by kernel_rfl) rfl rfl (.int .i64 t3412.1.TS) rfl (congrArg some hb3455) (fun w' h' => x_load (cls_blk h' 0 rfl) ty3 rfl rfl) (⟨M941, Hp.le_refl M941, S.pick [0] (by decide)⟩) ?_
                                refine Wa_takeY (i := 4) rfl (by kernel_rfl) rfl rfl (.slice A0 a0.length c0) rfl (congrArg some hb3455) (fun w' h' => x_move rfl) (⟨M941, Hp.le_refl M941, S.pick [0] (by decide)⟩) ?_
                                refine Wa_takeY (i := 5) rfl (by kernel_rfl) rfl rfl (.int .i64 x2782) rfl (congrArg some hb3455) (fun w' h' => x_move rfl) (⟨M941, Hp.le_refl M941, S.pick [0] (by decide)⟩) ?_
                                obtain ⟨⟨p3460, p3461⟩, H⟩ := chkS H
                                obtain ⟨b3462, o3463, cs3464, _, _, ee3469, hb3465, vs3466, hR3467, hc3468⟩ := SlW.at' hr0 p3460 p3461
                                obtain rfl : vs3466 = _ := hR3467
                                refine Wa_takeY (i := 6) rfl (by kernel_rfl) rfl rfl (.pointer (some ⟨b3462, o3463 + x2782.toNat * 4, none⟩)) rfl (congrArg some hb3455) (fun w' h' => x_indexAddr Try.underlying22 ty27 (slA ee3469) rfl p3460 p3461) (⟨M941, Hp.le_refl M941, S.pick [0] (by decide)⟩) ?_
                                refine Wa_takeY (i := 7) rfl (by kernel_rfl) rfl rfl (.pointer (some ⟨b3462, o3463 + x2782.toNat * 4 + 1, none⟩)) rfl (congrArg some hb3455) (fun w' h' => x_fieldAddr (o := o3463 + x2782.toNat * 4) (off := 1) Try.underlying27 rfl ty3 rfl rfl) (⟨M941, Hp.le_refl M941, S.pick [0] (by decide)⟩) ?_
                                refine Wa_takeY (i := 8) rfl (by kernel_rfl) rfl rfl (.int .i64 ((rd a0 x2782).TS)) rfl (congrArg some hb3455) (fun w' h' => x_load (cls_frz h' hb3465) ty3 rfl (hc3468 1 _ rfl)) (⟨M941, Hp.le_refl M941, S.pick [0] (by decide)⟩) ?_
                                refine Wa_takeY (i := 9) rfl (by kernel_rfl) rfl rfl (.bool (t3412.1.TS == (rd a0 x2782).TS)) rfl (congrArg some hb3455) (fun w' h' => x_ibin rfl rfl rfl rfl) (⟨M941, Hp.le_refl M941, S.pick [0] (by decide)⟩) ?_
                                refine Wa_take (i := 10) rfl (by kernel_rfl) rfl rfl (.bool (t3412.1.TS == (rd a0 x2782).TS)) rfl (fun w' h' => x_pick (k := true) (congrArg Value.bool hb3455) rfl) (⟨M941, Hp.le_refl M941, S.pick [0] (by decide)⟩) ?_
                                exact hrest _ _ ⟨(t3412.1.TS == (rd a0 x2782).TS), Option.some.inj H, ⟨rfl, rfl, rfl, rfl, rfl, trivial⟩, E, S.pick [0] (by decide)⟩
                              · skip
                                refine Wa_takeN (i := 2) rfl (by kernel_rfl) rfl rfl rfl (skT hb3455) (⟨M941, Hp.le_refl M941, S.pick [0] (by decide)⟩) ?_
                                refine Wa_takeN (i := 3) rfl (by kernel_rfl) rfl rfl rfl (skT hb3455) (⟨M941, Hp.le_refl M941, S.pick [0] (by decide)⟩) ?_
                                refine Wa_takeN (i := 4) rfl (by kernel_rfl) rfl rfl rfl (skT hb3455) (⟨M941, Hp.le_refl M941, S.pick [0] (by decide)⟩) ?_
                                refine Wa_takeN (i := 5) rfl (by kernel_rfl) rfl rfl rfl (skT hb3455) (⟨M941, Hp.le_refl M941, S.pick [0] (by decide)⟩) ?_
                                refine Wa_takeN (i := 6) rfl (by kernel_rfl) rfl rfl rfl (skT hb3455) (⟨M941, Hp.le_refl M941, S.pick [0] (by decide)⟩) ?_
                                refine Wa_takeN (i := 7) rfl (by kernel_rfl) rfl rfl rfl (skT hb3455) (⟨M941, Hp.le_refl M941, S.pick [0] (by decide)⟩) ?_
                                refine Wa_takeN (i := 8) rfl (by kernel_rfl) rfl rfl rfl (skT hb3455) (⟨M941, Hp.le_refl M941, S.pick [0] (by decide)⟩) ?_
                                refine Wa_takeN (i := 9) rfl (by kernel_rfl) rfl rfl rfl (skT hb3455) (⟨M941, Hp.le_refl M941, S.pick [0] (by decide)⟩) ?_
                                refine Wa_take (i := 10) rfl (by kernel_rfl) rfl rfl (.bool false) rfl (fun w' h' => x_pick (k := false) (congrArg Value.bool hb3455) rfl) (⟨M941, Hp.le_refl M941, S.pick [0] (by decide)⟩) ?_
                                exact hrest _ _ ⟨false, Option.some.inj H, ⟨rfl, rfl, rfl, rfl, rfl, trivial⟩, E, S.pick [0] (by decide)⟩
                        · refine Wp_cond_false (congrArg Value.bool hb3386) ?_
                          refine Wp_exit ?_
                          refine tx (tx (bsm (?_)))
                          refine tn ?_
                          exact ⟨Option.some.inj H, ⟨rfl, rfl, rfl, trivial⟩, E, S.pick [] (by decide)⟩
                  · clear o3384h
                    rintro ρ w3470 ⟨rfl, hρ, E, S⟩
                    rw [agree_eta hρ]
                    clear hρ
                    have H := o3384H
                    clear o3384H
                    replace H := elimR H
                    refine bn ?_
                    refine tn ?_
                    refine Wp_region_lit ?_
                    refine W_v (.int .i64 x2782) (x_move rfl) rfl ?_
                    refine W_v (.int .i64 (IntKind.i64.wrap (x2782 + (1 : Int)))) (x_ibin rfl rfl rfl rfl) rfl ?_
                    refine W_v (.int .i64 (IntKind.i64.wrap (x2782 + (1 : Int)))) (x_assign rfl) rfl ?_
                    refine Wl_nil ?_
                    refine tn ?_
                    exact ⟨k, Nat.lt_succ_self k, ⟨(IntKind.i64.wrap (x2782 + (1 : Int))), H, ⟨rfl, rfl, rfl, trivial⟩, E, S.pick [] (by decide)⟩⟩
                · refine Wp_cond_false (congrArg Value.bool hb3128) ?_
                  refine Wp_exit ?_
                  refine tx (tx (bsm (?_)))
                  refine tn ?_
                  exact ⟨Option.some.inj H, trivial, E, S.pick [] (by decide)⟩
          · clear o3126h
            rintro ρ w3471 ⟨rfl, hρ, E, S⟩
            rw [agree_eta hρ]
            clear hρ
            have H := o3126H
            clear o3126H
            replace H := elimR H
            refine tn ?_
            refine Wp_seq ?_
            refine Wp_region_lit ?_
            refine W_v (.bool true) (x_assign rfl) rfl ?_
            refine Wl_nil ?_
            refine tn ?_
            refine Wp_ret ?_
            obtain rfl := Option.some.inj H
            exact ⟨_, _, _, fun w1 e1 => run_resR (vs := [.bool true]) (FA.cons (rfl) (FA.nil)), HM, E, S.pick [] (by decide), ⟨rfl, rfl⟩⟩
end Go.Proofs.Ytmoackfjfklfaaa
