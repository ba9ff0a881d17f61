import Derived.Test.YtninegjnkkcepaaGe1
namespace Go.Proofs.Ytninegjnkkcepaa
open Go
set_option linter.unusedVariables false
set_option linter.unusedSimpArgs false
/-! ### ferryman/ferrymanlaw06.EventLess: function 7 -/
def ferrymanlaw06_EventLess_l100 (x63314 : Int) : Nat → List event_Place → Int → Option ((List event_Place))
  | 0, _, _ => none
  | k + 1, x71974, x71978 => (if (decide (x71978 < (x71974.length : Int))) = true then (Option.bind (α := List event_Place) (if 0 ≤ x71978 ∧ x71978 < (x71974.length : Int) then (if 0 ≤ x63314 ∧ x63314 < (x71974.length : Int) then (Option.bind (α := List event_Place) (if (((rd x71974 x71978).Task == (rd x71974 x63314).Task) && ((rd x71974 x71978).Call == (rd x71974 x63314).Call)) = true then (if 0 ≤ x71978 ∧ x71978 < (x71974.length : Int) then (Option.bind (α := List event_Place) (some (List.set x71974 x71978.toNat (⟨(rd x71974 x71978).Task, (-1 : Int)⟩ : event_Place))) (fun x72319 => some (x72319))) else none) else some (x71974)) (fun x72302 => some (x72302))) else none) else none) (fun x72239 => ferrymanlaw06_EventLess_l100 x63314 k x72239 (IntKind.i64.wrap (x71978 + (1 : Int))))) else some (x71974))
set_option maxHeartbeats 2000000 in
theorem ferrymanlaw06_EventLess_l100.mono {x63314 : Int} : ∀ {k : Nat} {x0 x1}, OLe (ferrymanlaw06_EventLess_l100 x63314 k x0 x1) (ferrymanlaw06_EventLess_l100 x63314 (k + 1) x0 x1) := by
  intro k
  induction k with
  | zero => intros; exact OLe.none
  | succ k ih =>
    intros
    rw [ferrymanlaw06_EventLess_l100.eq_2, ferrymanlaw06_EventLess_l100.eq_2]
    repeat' (first | with_reducible exact OLe.none | with_reducible exact OLe.some | with_reducible refine OLe.ite ?_ ?_ | with_reducible refine OLe.bind ?_ (fun _ => ?_) | exact ih | refine OLe.bind ?_ (fun _ => ?_) | refine OLe.ite ?_ ?_ | refine OLe.elim (fun _ => ?_) (fun _ => ?_) | split)
def ferrymanlaw06_EventLess_l88 (x36205 : Int) : Nat → List event_Place → List api_Event → Int → Option ((List event_Place × List api_Event))
  | 0, _, _, _ => none
  | k + 1, x63306, x63310, x63314 => (if (decide (x63314 < (x63306.length : Int))) = true then (Option.bind (α := List event_Place × List api_Event) (if 0 ≤ x63314 ∧ x63314 < (x63306.length : Int) then (Option.bind (α := List event_Place × List api_Event) (if ((rd x63306 x63314).Call == x36205) = true then (if 0 ≤ x63314 ∧ x63314 < (x63306.length : Int) then (Option.bind (event_Without_AO k x63310 ([(rd x63306 x63314)] : List event_Place)) (fun t71602 => (Option.bind (ferrymanlaw06_EventLess_l100 x63314 k x63306 (IntKind.i64.wrap (x63314 + (1 : Int)))) (fun x72150 => some (x72150, t71602))))) else none) else some (x63306, x63310)) (fun ⟨x71579, x71583⟩ => some (x71579, x71583))) else none) (fun ⟨x70079, x70083⟩ => ferrymanlaw06_EventLess_l88 x36205 k x70079 x70083 (IntKind.i64.wrap (x63314 + (1 : Int))))) else some (x63306, x63310))
set_option maxHeartbeats 2000000 in
theorem ferrymanlaw06_EventLess_l88.mono {x36205 : Int} : ∀ {k : Nat} {x0 x1 x2}, OLe (ferrymanlaw06_EventLess_l88 x36205 k x0 x1 x2) (ferrymanlaw06_EventLess_l88 x36205 (k + 1) x0 x1 x2) := by
  intro k
  induction k with
  | zero => intros; exact OLe.none
  | succ k ih =>
    intros
    rw [ferrymanlaw06_EventLess_l88.eq_2, ferrymanlaw06_EventLess_l88.eq_2]
    repeat' (first | with_reducible exact OLe.none | with_reducible exact OLe.some | with_reducible refine OLe.ite ?_ ?_ | with_reducible refine OLe.bind ?_ (fun _ => ?_) | with_reducible exact event_Without_AO.mono | with_reducible exact ferrymanlaw06_EventLess_l100.mono | exact ih | refine OLe.bind ?_ (fun _ => ?_) | refine OLe.ite ?_ ?_ | refine OLe.elim (fun _ => ?_) (fun _ => ?_) | split)
def ferrymanlaw06_EventLess_l101 (a1 : (List api_Event)) : Nat → Int → Int → Option ((Int))
  | 0, _, _ => none
  | k + 1, x72435, x72436 => (if (decide (x72436 < (a1.length : Int))) = true then (Option.bind (α := Int) (if 0 ≤ x72436 ∧ x72436 < (a1.length : Int) then (Option.bind (α := Int) (if ((rd a1 x72436).What == (2 : Int)) = true then some ((IntKind.i64.wrap (x72435 + (1 : Int)))) else some (x72435)) (fun x72523 => some (x72523))) else none) (fun x72505 => ferrymanlaw06_EventLess_l101 a1 k x72505 (IntKind.i64.wrap (x72436 + (1 : Int))))) else some (x72435))
set_option maxHeartbeats 2000000 in
theorem ferrymanlaw06_EventLess_l101.mono {a1 : (List api_Event)} : ∀ {k : Nat} {x0 x1}, OLe (ferrymanlaw06_EventLess_l101 a1 k x0 x1) (ferrymanlaw06_EventLess_l101 a1 (k + 1) x0 x1) := by
  intro k
  induction k with
  | zero => intros; exact OLe.none
  | succ k ih =>
    intros
    rw [ferrymanlaw06_EventLess_l101.eq_2, ferrymanlaw06_EventLess_l101.eq_2]
    repeat' (first | with_reducible exact OLe.none | with_reducible exact OLe.some | with_reducible refine OLe.ite ?_ ?_ | with_reducible refine OLe.bind ?_ (fun _ => ?_) | exact ih | refine OLe.bind ?_ (fun _ => ?_) | refine OLe.ite ?_ ?_ | refine OLe.elim (fun _ => ?_) (fun _ => ?_) | split)
def ferrymanlaw06_EventLess_l50 : Nat → List event_Place → List api_Event → Int → Option ((List api_Event))
  | 0, _, _, _ => none
  | k + 1, x36197, x36201, x36205 => (if (decide (x36205 ≥ (0 : Int))) = true then (Option.bind (ferrymanlaw06_EventLess_l88 x36205 k x36197 x36201 (0 : Int)) (fun ⟨x67820, x67824⟩ => ferrymanlaw06_EventLess_l50 k x67820 x67824 (IntKind.i64.wrap (x36205 - (1 : Int))))) else some (x36201))
set_option maxHeartbeats 2000000 in
theorem ferrymanlaw06_EventLess_l50.mono  : ∀ {k : Nat} {x0 x1 x2}, OLe (ferrymanlaw06_EventLess_l50  k x0 x1 x2) (ferrymanlaw06_EventLess_l50  (k + 1) x0 x1 x2) := by
  intro k
  induction k with
  | zero => intros; exact OLe.none
  | succ k ih =>
    intros
    rw [ferrymanlaw06_EventLess_l50.eq_2, ferrymanlaw06_EventLess_l50.eq_2]
    repeat' (first | with_reducible exact OLe.none | with_reducible exact OLe.some | with_reducible refine OLe.ite ?_ ?_ | with_reducible refine OLe.bind ?_ (fun _ => ?_) | with_reducible exact ferrymanlaw06_EventLess_l88.mono | exact ih | refine OLe.bind ?_ (fun _ => ?_) | refine OLe.ite ?_ ?_ | refine OLe.elim (fun _ => ?_) (fun _ => ?_) | split)
def ferrymanlaw06_EventLess (k : Nat) (a0 : Int) (a1 : (List api_Event)) (a2 : (List ferrymanref06_Place)) : Option (Bool) :=
  (Option.bind (ferrymanlaw06_works k ) (fun t1 => (Option.bind (α := Bool) (if (!t1) = true then some (true) else (Option.bind (ferrymanlaw06_wide k a1) (fun t13 => some (t13)))) (fun x11 => (Option.bind (α := Bool) (if (x11 || (decide ((a2.length : Int) > (60 : Int)))) = true then some (true) else (Option.bind (event_Legal k a0 a1) (fun t27 => some ((!t27))))) (fun x25 => (if x25 = true then (Option.bind (ferrymanlaw06_works k ) (fun t32 => some t32)) else (Option.bind (ferrymanlaw06_given k a2) (fun t35 => (Option.bind (event_Without_AO k a1 t35) (fun t41 => (Option.bind (event_Legal k a0 t41) (fun t49 => (if (!t49) = true then some false else (Option.bind (ferrymanlaw06_EventLess_l50 k t35 a1 (a1.length : Int)) (fun x54269 => (Option.bind (ferrymanlaw06_EventLess_l101 a1 k (0 : Int) (0 : Int)) (fun x72481 => (Option.bind (ferrymanlaw06_given k a2) (fun t72529 => (Option.bind (event_Without_AO k a1 t72529) (fun t72535 => (Option.bind (event_Same k x54269 t72535) (fun t72543 => (Option.bind (α := Bool) (if t72543 = true then (Option.bind (event_Bare k a1) (fun t72566 => some (((t72566.length : Int) == (IntKind.i64.wrap ((a1.length : Int) - x72481)))))) else some (false)) (fun x72563 => some x72563))))))))))))))))))))))))))
set_option maxHeartbeats 2000000 in
theorem ferrymanlaw06_EventLess.mono {k : Nat} {a0 : Int} {a1 : (List api_Event)} {a2 : (List ferrymanref06_Place)} : OLe (ferrymanlaw06_EventLess k a0 a1 a2) (ferrymanlaw06_EventLess (k + 1) a0 a1 a2) := by
  unfold ferrymanlaw06_EventLess
  repeat' (first | with_reducible exact OLe.none | with_reducible exact OLe.some | with_reducible refine OLe.ite ?_ ?_ | with_reducible refine OLe.bind ?_ (fun _ => ?_) | with_reducible exact event_Bare.mono | with_reducible exact event_Legal.mono | with_reducible exact event_Same.mono | with_reducible exact event_Without_AO.mono | with_reducible exact ferrymanlaw06_EventLess_l101.mono | with_reducible exact ferrymanlaw06_EventLess_l50.mono | with_reducible exact ferrymanlaw06_given.mono | with_reducible exact ferrymanlaw06_wide.mono | with_reducible exact ferrymanlaw06_works.mono | refine OLe.bind ?_ (fun _ => ?_) | refine OLe.ite ?_ ?_ | refine OLe.elim (fun _ => ?_) (fun _ => ?_) | split)
set_option maxHeartbeats 8000000 in
set_option maxRecDepth 100000 in
theorem ferrymanlaw06_EventLess.con (k : Nat) (M : Hp) (a0 : Int) (A1 : Option Addr) (c1 : Nat) (a1 : (List api_Event)) (A2 : Option Addr) (c2 : Nat) (a2 : (List ferrymanref06_Place)) (r : Bool) (hr1 : SlR r_api_Event M (.slice A1 a1.length c1) a1) (hr2 : SlR r_ferrymanref06_Place M (.slice A2 a2.length c2) a2) (h : ferrymanlaw06_EventLess k a0 a1 a2 = some r) : Con Try.prog 7 #[.int .i64 a0, .slice A1 a1.length c1, .slice A2 a2.length c2] M [] (fun v M' Γ' => v = .bool r ∧ Γ' = []) := by
  refine con_of_wp Try.func7 rfl Try.ntmps7 Try.results7 rfl ?_
  intro w F rn S hrn
  have E := Ext.refl w
  have HM := Hp.le_refl M
  have H := h
  unfold ferrymanlaw06_EventLess at H
  refine Wp_seq ?_
  refine Wp_region_lit ?_
  refine W_v (.bool false) (x_assign rfl) rfl ?_
  refine Wl_nil ?_
  refine tn ?_
  refine Wp_seq ?_
  refine Wp_seq ?_
  refine Wp_region_lit ?_
  obtain ⟨t1, ht2, H⟩ := bindS H
  refine W_callF fn10 (ferrymanlaw06_works.con k M  t1  ht2) S rfl rfl (by rintro _ _ _ ⟨_, rfl⟩; exact flat_nil) ?_
  rintro _ w3 _ Γ' E' S ⟨rfl, rfl⟩
  replace E := E.trans E'
  clear E'
  refine W_v (.bool (!t1)) (x_not rfl) rfl ?_
  refine W_v (.bool (!t1)) (x_move rfl) rfl ?_
  obtain ⟨o12, o12h, o12H⟩ := bindS H
  clear H
  refine Wl_cutN 3 (fun ρ w' => ∃ (x11 : Bool), (x11) = o12 ∧ Agree ρ [(0, .int .i64 a0), (1, .slice A1 a1.length c1), (2, .slice A2 a2.length c2), (19, .bool x11)] ∧ Ext w w' ∧ St w' M F []) ?_ ?_
  · have H := o12h
    rcases iteS H with ⟨hb10, H⟩ | ⟨hb10, H⟩
    · skip
      refine W_no (skF hb10) rfl ?_
      refine W_no (skF hb10) rfl ?_
      refine W_v (.bool true) (x_pick (k := true) (congrArg Value.bool hb10) rfl) rfl ?_
      refine Wl_nil ?_
      exact ⟨true, Option.some.inj H, ⟨rfl, rfl, rfl, rfl, trivial⟩, E, S.pick [] (by decide)⟩
    · skip
      refine W_yes (congrArg some hb10) ?_
      refine W_v (.slice A1 a1.length c1) (x_move rfl) rfl ?_
      refine W_yes (congrArg some hb10) ?_
      obtain ⟨t13, ht14, H⟩ := bindS H
      refine W_callF fn11 (ferrymanlaw06_wide.con k M A1 c1 a1 t13 hr1 ht14) S rfl rfl (by rintro _ _ _ ⟨_, rfl⟩; exact flat_nil) ?_
      rintro _ w15 _ Γ' E' S ⟨rfl, rfl⟩
      replace E := E.trans E'
      clear E'
      refine W_v (.bool t13) (x_pick (k := false) (congrArg Value.bool hb10) rfl) rfl ?_
      refine Wl_nil ?_
      exact ⟨t13, Option.some.inj H, ⟨rfl, rfl, rfl, rfl, trivial⟩, E, S.pick [] (by decide)⟩
  clear o12h
  rintro ρ w16 ⟨x11, rfl, hρ, E, S⟩
  rw [agree_eta hρ]
  clear hρ
  have H := o12H
  clear o12H
  refine W_v (.bool x11) (x_move rfl) rfl ?_
  refine Wl_cutN 4 (fun ρ w' => Agree ρ [(0, .int .i64 a0), (1, .slice A1 a1.length c1), (2, .slice A2 a2.length c2), (24, .bool (x11 || (decide ((a2.length : Int) > (60 : Int)))))] ∧ w16 = w') ?_ ?_
  · rcases boolCases x11 with hb17 | hb17
    · skip
      refine W_yes (congrArg some hb17) ?_
      refine W_v (.slice A2 a2.length c2) (x_move rfl) rfl ?_
      refine W_yes (congrArg some hb17) ?_
      refine W_v (.int .i64 (a2.length : Int)) (x_len_slice (n := a2.length) Try.underlying52 rfl) rfl ?_
      refine W_yes (congrArg some hb17) ?_
      refine W_v (.bool (decide ((a2.length : Int) > (60 : Int)))) (x_ibin rfl rfl rfl rfl) rfl ?_
      refine W_v (.bool (decide ((a2.length : Int) > (60 : Int)))) (x_pick (k := false) (congrArg Value.bool hb17) rfl) rfl ?_
      refine Wl_nil ?_
      exact ⟨⟨rfl, rfl, rfl, (by first | rfl | (rw [hb17]; rfl) | (simp only [hb17]; rfl)), trivial⟩, rfl⟩
    · skip
      refine W_no (skF hb17) rfl ?_
      refine W_no (skF hb17) rfl ?_
      refine W_no (skF hb17) rfl ?_
      refine W_v (.bool true) (x_pick (k := true) (congrArg Value.bool hb17) rfl) rfl ?_
      refine Wl_nil ?_
      exact ⟨⟨rfl, rfl, rfl, (by first | rfl | (rw [hb17]; rfl) | (simp only [hb17]; rfl)), trivial⟩, rfl⟩
  rintro ρ _ ⟨hρ, rfl⟩
  rw [agree_eta hρ]
  clear hρ
  refine W_v (.bool (x11 || (decide ((a2.length : Int) > (60 : Int))))) (x_move rfl) rfl ?_
  obtain ⟨o26, o26h, o26H⟩ := bindS H
  clear H
  refine Wl_cutN 5 (fun ρ w' => ∃ (x25 : Bool), (x25) = o26 ∧ Agree ρ [(0, .int .i64 a0), (1, .slice A1 a1.length c1), (2, .slice A2 a2.length c2), (30, .bool x25)] ∧ Ext w w' ∧ St w' M F []) ?_ ?_
  · have H := o26h
    rcases iteS H with ⟨hb24, H⟩ | ⟨hb24, H⟩
    · skip
      refine W_no (skF hb24) rfl ?_
      refine W_no (skF hb24) rfl ?_
      refine W_no (skF hb24) rfl ?_
      refine W_no (skF hb24) rfl ?_
      refine W_v (.bool true) (x_pick (k := true) (congrArg Value.bool hb24) rfl) rfl ?_
      refine Wl_nil ?_
      exact ⟨true, Option.some.inj H, ⟨rfl, rfl, rfl, rfl, trivial⟩, E, S.pick [] (by decide)⟩
    · skip
      refine W_yes (congrArg some hb24) ?_
      refine W_v (.int .i64 a0) (x_move rfl) rfl ?_
      refine W_yes (congrArg some hb24) ?_
      refine W_v (.slice A1 a1.length c1) (x_move rfl) rfl ?_
      refine W_yes (congrArg some hb24) ?_
      obtain ⟨t27, ht28, H⟩ := bindS H
      refine W_callF fn12 (event_Legal.con k M a0 A1 c1 a1 t27 hr1 ht28) S rfl rfl (by rintro _ _ _ ⟨_, rfl⟩; exact flat_nil) ?_
      rintro _ w29 _ Γ' E' S ⟨rfl, rfl⟩
      replace E := E.trans E'
      clear E'
      refine W_yes (congrArg some hb24) ?_
      refine W_v (.bool (!t27)) (x_not rfl) rfl ?_
      refine W_v (.bool (!t27)) (x_pick (k := false) (congrArg Value.bool hb24) rfl) rfl ?_
      refine Wl_nil ?_
      exact ⟨(!t27), Option.some.inj H, ⟨rfl, rfl, rfl, rfl, trivial⟩, E, S.pick [] (by decide)⟩
  clear o26h
  rintro ρ w30 ⟨x25, rfl, hρ, E, S⟩
  rw [agree_eta hρ]
  clear hρ
  have H := o26H
  clear o26H
  refine Wl_nil ?_
  refine tn ?_
  rcases iteS H with ⟨hb31, H⟩ | ⟨hb31, H⟩
  · refine Wp_cond_true (congrArg Value.bool hb31) ?_
    refine Wp_seq ?_
    refine Wp_region_lit ?_
    obtain ⟨t32, ht33, H⟩ := bindS H
    refine W_callF fn10 (ferrymanlaw06_works.con k M  t32  ht33) S rfl rfl (by rintro _ _ _ ⟨_, rfl⟩; exact flat_nil) ?_
    rintro _ w34 _ Γ' E' S ⟨rfl, rfl⟩
    replace E := E.trans E'
    clear E'
    refine W_v (.bool t32) (x_assign rfl) rfl ?_
    refine Wl_nil ?_
    refine tn ?_
    refine Wp_ret ?_
    refine tr (?_)
    obtain rfl := Option.some.inj H
    exact ⟨_, _, _, fun w1 e1 => run_resR (vs := [.bool t32]) (FA.cons (rfl) (FA.nil)), HM, E, S.pick [] (by decide), ⟨rfl, rfl⟩⟩
  refine Wp_cond_false (congrArg Value.bool hb31) ?_
  refine Wp_skip ?_
  refine tn ?_
  refine Wp_seq ?_
  refine Wp_region_lit ?_
  refine W_v (.slice A2 a2.length c2) (x_move rfl) rfl ?_
  obtain ⟨t35, ht36, H⟩ := bindS H
  refine W_callF fn25 (ferrymanlaw06_given.con k M A2 c2 a2 t35 hr2 ht36) S rfl rfl (by rintro _ _ _ ⟨_, _, _, rfl⟩; exact (flat_cons (flat_row (fun _ _ _ _ h => h)) flat_nil)) ?_
  rintro _ w40 _ Γ' E' S ⟨A37, c38, rfl, rfl⟩
  replace E := E.trans E'
  clear E'
  refine W_v (.slice A37 t35.length c38) (x_assign rfl) rfl ?_
  refine Wl_nil ?_
  refine tn ?_
  refine Wp_seq ?_
  refine Wp_seq ?_
  refine Wp_region_lit ?_
  refine W_v (.int .i64 a0) (x_move rfl) rfl ?_
  refine W_v (.slice A1 a1.length c1) (x_move rfl) rfl ?_
  refine W_v (.slice A37 t35.length c38) (x_move rfl) rfl ?_
  obtain ⟨t41, ht42, H⟩ := bindS H
  refine W_call fn24 (event_Without_AO.con k M A1 c1 a1 A37 c38 t35 t41 hr1 ht42) (Γ1 := [Row r_event_Place 62 (.slice A37 t35.length c38) t35]) (Γ2 := []) S rfl rfl ?_
  rintro _ w46 M47 Γ' hM48 E' S ⟨A43, c44, rfl, rfl⟩
  replace HM := Hp.le_trans HM hM48
  replace hr1 := SlR.mono hr1 hM48
  replace hr2 := SlR.mono hr2 hM48
  replace E := E.trans E'
  clear E'
  replace S : St w46 M47 F [Row r_api_Event 32 (.slice A43 t41.length c44) t41, Row r_event_Place 62 (.slice A37 t35.length c38) t35] := S
  obtain ⟨t49, ht50, H⟩ := bindS H
  refine W_callN 1 fn12 (fun h9 hs9 hd9 => event_Legal.con k _ a0 A43 c44 t41 t49 (Sats.row hs9 hd9 0 rfl) ht50) S rfl rfl (by rintro _ _ _ ⟨_, rfl⟩; exact flat_nil) ?_
  rintro _ w51 _ Γ' E' S ⟨rfl, rfl⟩
  replace E := E.trans E'
  clear E'
  refine W_v (.bool (!t49)) (x_not rfl) rfl ?_
  refine Wl_nil ?_
  refine tn ?_
  rcases iteS H with ⟨hb52, H⟩ | ⟨hb52, H⟩
  · refine Wp_cond_true (congrArg Value.bool hb52) ?_
    refine Wp_seq ?_
    refine Wp_region_lit ?_
    refine W_v (.bool false) (x_assign rfl) rfl ?_
    refine Wl_nil ?_
    refine tn ?_
    refine Wp_ret ?_
    refine tr (?_)
    obtain rfl := Option.some.inj H
    exact ⟨_, _, _, fun w1 e1 => run_resR (vs := [.bool false]) (FA.cons (rfl) (FA.nil)), HM, E, S.pick [] (by decide), ⟨rfl, rfl⟩⟩
  refine Wp_cond_false (congrArg Value.bool hb52) ?_
  refine Wp_skip ?_
  refine tn ?_
  refine Wp_seq ?_
  refine Wp_region_lit ?_
  refine W_v (.slice A1 a1.length c1) (x_move rfl) rfl ?_
  refine W_v (.slice A1 a1.length c1) (x_assign rfl) rfl ?_
  refine Wl_nil ?_
  refine tn ?_
  refine Wp_seq ?_
  refine Wp_seq ?_
  refine Wp_region_lit ?_
  refine W_v (.slice A1 a1.length c1) (x_move rfl) rfl ?_
  refine W_v (.int .i64 (a1.length : Int)) (x_len_slice (n := a1.length) Try.underlying22 rfl) rfl ?_
  refine W_v (.int .i64 (a1.length : Int)) (x_assign rfl) rfl ?_
  refine Wl_nil ?_
  refine tn ?_
  obtain ⟨o54273, o54273h, o54273H⟩ := bindS H
  clear H
  refine Wp_blockJ (fun ρ w' => ∃ (x54269 : List api_Event) (A54270 : Option Addr) (c54271 : Nat) (Mj : Hp), (x54269) = o54273 ∧ Agree ρ [(1, .slice A1 a1.length c1), (2, .slice A2 a2.length c2), (8, .slice A54270 x54269.length c54271)] ∧ M47.le Mj ∧ Ext w w' ∧ St w' Mj F [] ∧ SlR r_api_Event Mj (.slice A54270 x54269.length c54271) x54269) ?_ ?_
  · skip
    refine Wp_loop (fun n ρ w' => ∃ (x36197 : List event_Place) (x36201 : List api_Event) (x36205 : Int) (A36198 : Option Addr) (c36199 : Nat) (A36202 : Option Addr) (c36203 : Nat) (Mj : Hp), ferrymanlaw06_EventLess_l50 n x36197 x36201 x36205 = some o54273 ∧ Agree ρ [(1, .slice A1 a1.length c1), (2, .slice A2 a2.length c2), (7, .slice A36198 x36197.length c36199), (8, .slice A36202 x36201.length c36203), (9, .int .i64 x36205)] ∧ M47.le Mj ∧ Ext w w' ∧ St w' Mj F [Row r_event_Place 62 (.slice A36198 x36197.length c36199) x36197] ∧ SlR r_api_Event Mj (.slice A36202 x36201.length c36203) x36201) k ?_ ?_
    · skip
      exact ⟨t35, a1, (a1.length : Int), A37, c38, A1, c1, M47, o54273h, ⟨rfl, rfl, rfl, rfl, rfl, trivial⟩, (Hp.le_refl M47), E, S.pick [1] (by decide), hr1⟩
    · intro n
      rintro ρ w54274 ⟨x36197, x36201, x36205, A36198, c36199, A36202, c36203, M54275, H, hρ, hM54276, E, S, hs36204⟩
      rw [agree_eta hρ]
      clear hρ
      replace HM := Hp.le_trans HM hM54276
      replace hr1 := SlR.mono hr1 hM54276
      replace hr2 := SlR.mono hr2 hM54276
      cases n with
      | zero => cases H
      | succ k =>
        rw [ferrymanlaw06_EventLess_l50.eq_2] at H
        refine Wp_seq ?_
        refine Wp_seq ?_
        refine Wp_region_lit ?_
        refine W_v (.int .i64 x36205) (x_move rfl) rfl ?_
        refine W_v (.bool (decide (x36205 ≥ (0 : Int)))) (x_ibin rfl rfl rfl rfl) rfl ?_
        refine Wl_nil ?_
        refine tn ?_
        rcases iteS H with ⟨hb54277, H⟩ | ⟨hb54277, H⟩
        · refine Wp_cond_true (congrArg Value.bool hb54277) ?_
          refine Wp_skip ?_
          refine tn ?_
          refine Wp_seq ?_
          refine Wp_block ?_
          refine Wp_seq ?_
          refine Wp_region_lit ?_
          refine W_v (.int .i64 0) (x_assign rfl) rfl ?_
          refine Wl_nil ?_
          refine tn ?_
          obtain ⟨o67828, o67828h, o67828H⟩ := bindS H
          clear H
          refine Wp_blockJ (fun ρ w' => ∃ (x67820 : List event_Place) (x67824 : List api_Event) (A67821 : Option Addr) (c67822 : Nat) (A67825 : Option Addr) (c67826 : Nat) (Mj : Hp), (x67820, x67824) = o67828 ∧ Agree ρ [(1, .slice A1 a1.length c1), (2, .slice A2 a2.length c2), (7, .slice A67821 x67820.length c67822), (8, .slice A67825 x67824.length c67826), (9, .int .i64 x36205)] ∧ M54275.le Mj ∧ Ext w w' ∧ St w' Mj F [Row r_event_Place 62 (.slice A67821 x67820.length c67822) x67820] ∧ SlR r_api_Event Mj (.slice A67825 x67824.length c67826) x67824) ?_ ?_
          · skip
            refine Wp_loop (fun n ρ w' => ∃ (x63306 : List event_Place) (x63310 : List api_Event) (x63314 : Int) (A63307 : Option Addr) (c63308 : Nat) (A63311 : Option Addr) (c63312 : Nat) (Mj : Hp), ferrymanlaw06_EventLess_l88 x36205 n x63306 x63310 x63314 = some o67828 ∧ Agree ρ [(1, .slice A1 a1.length c1), (2, .slice A2 a2.length c2), (7, .slice A63307 x63306.length c63308), (8, .slice A63311 x63310.length c63312), (9, .int .i64 x36205), (10, .int .i64 x63314)] ∧ M54275.le Mj ∧ Ext w w' ∧ St w' Mj F [Row r_event_Place 62 (.slice A63307 x63306.length c63308) x63306] ∧ SlR r_api_Event Mj (.slice A63311 x63310.length c63312) x63310) k ?_ ?_
            · skip
              exact ⟨x36197, x36201, (0 : Int), A36198, c36199, A36202, c36203, M54275, o67828h, ⟨rfl, rfl, rfl, rfl, rfl, rfl, trivial⟩, (Hp.le_refl M54275), E, S.pick [0] (by decide), hs36204⟩
            · intro n
              rintro ρ w67829 ⟨x63306, x63310, x63314, A63307, c63308, A63311, c63312, M67830, H, hρ, hM67831, E, S, hs63313⟩
              rw [agree_eta hρ]
              clear hρ
              replace HM := Hp.le_trans HM hM67831
              replace hM54276 := Hp.le_trans hM54276 hM67831
              replace hr1 := SlR.mono hr1 hM67831
              replace hr2 := SlR.mono hr2 hM67831
              replace hs36204 := SlR.mono hs36204 hM67831
              cases n with
              | zero => cases H
              | succ k =>
                rw [ferrymanlaw06_EventLess_l88.eq_2] at H
                refine Wp_seq ?_
                refine Wp_seq ?_
                refine Wp_region_lit ?_
                refine W_v (.int .i64 x63314) (x_move rfl) rfl ?_
                refine W_v (.slice A63307 x63306.length c63308) (x_move rfl) rfl ?_
                refine W_v (.int .i64 (x63306.length : Int)) (x_len_slice (n := x63306.length) Try.underlying55 rfl) rfl ?_
                refine W_v (.bool (decide (x63314 < (x63306.length : Int)))) (x_ibin rfl rfl rfl rfl) rfl ?_
                refine Wl_nil ?_
                refine tn ?_
                rcases iteS H with ⟨hb67832, H⟩ | ⟨hb67832, H⟩
                · refine Wp_cond_true (congrArg Value.bool hb67832) ?_
                  refine Wp_skip ?_
                  refine tn ?_
                  refine Wp_seq ?_
                  obtain ⟨o70087, o70087h, o70087H⟩ := bindS H
                  refine Wp_cut (fun ρ w' => ∃ (x70079 : List event_Place) (x70083 : List api_Event) (A70080 : Option Addr) (c70081 : Nat) (A70084 : Option Addr) (c70085 : Nat) (Mj : Hp), (x70079, x70083) = o70087 ∧ Agree ρ [(1, .slice A1 a1.length c1), (2, .slice A2 a2.length c2), (7, .slice A70080 x70079.length c70081), (8, .slice A70084 x70083.length c70085), (9, .int .i64 x36205), (10, .int .i64 x63314)] ∧ M67830.le Mj ∧ Ext w w' ∧ St w' Mj F [Row r_event_Place 62 (.slice A70080 x70079.length c70081) x70079] ∧ SlR r_api_Event Mj (.slice A70084 x70083.length c70085) x70083) ?_ ?_
                  · clear o70087H
                    have H := o70087h
                    clear o70087h
                    have LE70088 := Hp.le_refl M67830
                    refine Wp_block ?_
                    refine Wp_seq ?_
                    refine Wp_region_lit ?_
                    refine W_v (.slice A63307 x63306.length c63308) (x_move rfl) rfl ?_
                    refine W_v (.int .i64 x63314) (x_move rfl) rfl ?_
                    obtain ⟨⟨p70089, p70090⟩, H⟩ := chkS H
                    obtain ⟨b70091, o70092, cs70093, _, _, ee70098, hb70094, vs70095, hR70096, hc70097⟩ := SlW.at' (S.row_read 0 rfl) p70089 p70090
                    obtain rfl : vs70095 = _ := hR70096
                    refine W_v (.pointer (some ⟨b70091, o70092 + x63314.toNat * 2, none⟩)) (x_indexAddr Try.underlying55 ty62 (slA ee70098) rfl p70089 p70090) rfl ?_
                    refine W_v (.pointer (some ⟨b70091, o70092 + x63314.toNat * 2 + 1, none⟩)) (x_fieldAddr (o := o70092 + x63314.toNat * 2) (off := 1) Try.underlying62 rfl ty3 rfl rfl) rfl ?_
                    refine W_v (.int .i64 ((rd x63306 x63314).Call)) (x_load (Hp.of_get hb70094) ty3 rfl (hc70097 1 _ rfl)) rfl ?_
                    refine W_v (.int .i64 x36205) (x_move rfl) rfl ?_
                    refine W_v (.bool ((rd x63306 x63314).Call == x36205)) (x_ibin rfl rfl rfl rfl) rfl ?_
                    refine Wl_nil ?_
                    refine tn ?_
                    obtain ⟨o71587, o71587h, o71587H⟩ := bindS H
                    refine Wp_cut (fun ρ w' => ∃ (x71579 : List event_Place) (x71583 : List api_Event) (A71580 : Option Addr) (c71581 : Nat) (A71584 : Option Addr) (c71585 : Nat) (Mj : Hp), (x71579, x71583) = o71587 ∧ Agree ρ [(1, .slice A1 a1.length c1), (2, .slice A2 a2.length c2), (7, .slice A71580 x71579.length c71581), (8, .slice A71584 x71583.length c71585), (9, .int .i64 x36205), (10, .int .i64 x63314)] ∧ M67830.le Mj ∧ Ext w w' ∧ St w' Mj F [Row r_event_Place 62 (.slice A71580 x71579.length c71581) x71579] ∧ SlR r_api_Event Mj (.slice A71584 x71583.length c71585) x71583) ?_ ?_
                    · clear o71587H
                      have H := o71587h
                      clear o71587h
                      rcases iteS H with ⟨hb71588, H⟩ | ⟨hb71588, H⟩
                      · refine Wp_cond_true (congrArg Value.bool hb71588) ?_
                        refine Wp_seq ?_
                        refine Wp_region_lit ?_
                        refine W_v (.slice A63311 x63310.length c63312) (x_move rfl) rfl ?_
                        refine W_v (.slice A63307 x63306.length c63308) (x_move rfl) rfl ?_
                        refine W_v (.int .i64 x63314) (x_move rfl) rfl ?_
                        obtain ⟨⟨p71589, p71590⟩, H⟩ := chkS H
                        obtain ⟨b71591, o71592, cs71593, _, _, ee71598, hb71594, vs71595, hR71596, hc71597⟩ := SlW.at' (S.row_read 0 rfl) p71589 p71590
                        obtain rfl : vs71595 = _ := hR71596
                        refine W_v (.pointer (some ⟨b71591, o71592 + x63314.toNat * 2, none⟩)) (x_indexAddr Try.underlying55 ty62 (slA ee71598) rfl p71589 p71590) rfl ?_
                        refine W_v (.agg #[.int .i64 ((rd x63306 x63314).Task), .int .i64 ((rd x63306 x63314).Call)]) (x_loadA (Hp.of_get hb71594) ty62 rfl (sub_el hc71597 0 rfl) rfl rfl) rfl ?_
                        refine W_bslice S #[.int .i64 ((rd x63306 x63314).Task), .int .i64 ((rd x63306 x63314).Call)] Try.underlying55 ty62 rfl rfl #[.int .i64 0, .int .i64 0] (by kernel_rfl) (by kernel_rfl) rfl ?_
                        intro b71599 w71600 E' S
                        replace E := E.trans E'
                        clear E'
                        replace S := S.blk_row (r := r_event_Place) (l := ([(rd x63306 x63314)] : List event_Place)) 0 rfl 1 (Nat.le_refl 1) rfl (Cells.cons (vs := [.int .i64 ((rd x63306 x63314).Task), .int .i64 ((rd x63306 x63314).Call)]) (rfl) Cells.nil)
                        obtain ⟨t71602, ht71603, H⟩ := bindS H
                        refine W_call fn24 (event_Without_AO.con k M67830 A63311 c63312 x63310 (some ⟨b71599, 0, none⟩) 1 ([(rd x63306 x63314)] : List event_Place) t71602 hs63313 ht71603) (Γ1 := [Row r_event_Place 62 (.slice (some ⟨b71599, 0, none⟩) ([(rd x63306 x63314)] : List event_Place).length 1) ([(rd x63306 x63314)] : List event_Place)]) (Γ2 := [Row r_event_Place 62 (.slice A63307 x63306.length c63308) x63306]) S rfl rfl ?_
                        rintro _ w71607 M71608 Γ' hM71609 E' S ⟨A71604, c71605, rfl, rfl⟩
                        replace HM := Hp.le_trans HM hM71609
                        replace hM54276 := Hp.le_trans hM54276 hM71609
                        replace hM67831 := Hp.le_trans hM67831 hM71609
                        replace LE70088 := Hp.le_trans LE70088 hM71609
                        replace hr1 := SlR.mono hr1 hM71609
                        replace hr2 := SlR.mono hr2 hM71609
                        replace hs36204 := SlR.mono hs36204 hM71609
                        replace hs63313 := SlR.mono hs63313 hM71609
                        replace E := E.trans E'
                        clear E'
                        replace S : St w71607 M71608 F [Row r_api_Event 32 (.slice A71604 t71602.length c71605) t71602, Row r_event_Place 62 (.slice (some ⟨b71599, 0, none⟩) ([(rd x63306 x63314)] : List event_Place).length 1) ([(rd x63306 x63314)] : List event_Place), Row r_event_Place 62 (.slice A63307 x63306.length c63308) x63306] := S
                        refine W_v (.slice A71604 t71602.length c71605) (x_assign rfl) rfl ?_
                        refine Wl_nil ?_
                        refine tn ?_
                        refine Wp_seq ?_
                        refine Wp_region_lit ?_
                        refine W_v (.int .i64 x63314) (x_move rfl) rfl ?_
                        refine W_v (.int .i64 (IntKind.i64.wrap (x63314 + (1 : Int)))) (x_ibin rfl rfl rfl rfl) rfl ?_
                        refine W_v (.int .i64 (IntKind.i64.wrap (x63314 + (1 : Int)))) (x_assign rfl) rfl ?_
                        refine Wl_nil ?_
                        refine tn ?_
                        obtain ⟨o72154, o72154h, o72154H⟩ := bindS H
                        clear H
                        refine Wp_blockJ (fun ρ w' => ∃ (x72150 : List event_Place) (A72151 : Option Addr) (c72152 : Nat), (x72150) = o72154 ∧ Agree ρ [(1, .slice A1 a1.length c1), (2, .slice A2 a2.length c2), (7, .slice A72151 x72150.length c72152), (8, .slice A71604 t71602.length c71605), (9, .int .i64 x36205), (10, .int .i64 x63314)] ∧ Ext w w' ∧ St w' M71608 F [Row r_event_Place 62 (.slice A72151 x72150.length c72152) x72150, Row r_api_Event 32 (.slice A71604 t71602.length c71605) t71602]) ?_ ?_
                        · skip
                          refine Wp_loop (fun n ρ w' => ∃ (x71974 : List event_Place) (x71978 : Int) (A71975 : Option Addr) (c71976 : Nat), ferrymanlaw06_EventLess_l100 x63314 n x71974 x71978 = some o72154 ∧ Agree ρ [(1, .slice A1 a1.length c1), (2, .slice A2 a2.length c2), (7, .slice A71975 x71974.length c71976), (8, .slice A71604 t71602.length c71605), (9, .int .i64 x36205), (10, .int .i64 x63314), (11, .int .i64 x71978)] ∧ Ext w w' ∧ St w' M71608 F [Row r_event_Place 62 (.slice A71975 x71974.length c71976) x71974, Row r_api_Event 32 (.slice A71604 t71602.length c71605) t71602]) k ?_ ?_
                          · skip
                            exact ⟨x63306, (IntKind.i64.wrap (x63314 + (1 : Int))), A63307, c63308, o72154h, ⟨rfl, rfl, rfl, rfl, rfl, rfl, rfl, trivial⟩, E, S.pick [2, 0] (by decide)⟩
                          · intro n
                            rintro ρ w72155 ⟨x71974, x71978, A71975, c71976, H, hρ, E, S⟩
                            rw [agree_eta hρ]
                            clear hρ
                            cases n with
                            | zero => cases H
                            | succ k =>
                              rw [ferrymanlaw06_EventLess_l100.eq_2] at H
                              refine Wp_seq ?_
                              refine Wp_seq ?_
                              refine Wp_region_lit ?_
                              refine W_v (.int .i64 x71978) (x_move rfl) rfl ?_
                              refine W_v (.slice A71975 x71974.length c71976) (x_move rfl) rfl ?_
                              refine W_v (.int .i64 (x71974.length : Int)) (x_len_slice (n := x71974.length) Try.underlying55 rfl) rfl ?_
                              refine W_v (.bool (decide (x71978 < (x71974.length : Int)))) (x_ibin rfl rfl rfl rfl) rfl ?_
                              refine Wl_nil ?_
                              refine tn ?_
                              rcases iteS H with ⟨hb72156, H⟩ | ⟨hb72156, H⟩
                              · refine Wp_cond_true (congrArg Value.bool hb72156) ?_
                                refine Wp_skip ?_
                                refine tn ?_
                                refine Wp_seq ?_
                                obtain ⟨o72243, o72243h, o72243H⟩ := bindS H
                                refine Wp_cut (fun ρ w' => ∃ (x72239 : List event_Place) (A72240 : Option Addr) (c72241 : Nat), (x72239) = o72243 ∧ Agree ρ [(1, .slice A1 a1.length c1), (2, .slice A2 a2.length c2), (7, .slice A72240 x72239.length c72241), (8, .slice A71604 t71602.length c71605), (9, .int .i64 x36205), (10, .int .i64 x63314), (11, .int .i64 x71978)] ∧ Ext w w' ∧ St w' M71608 F [Row r_event_Place 62 (.slice A72240 x72239.length c72241) x72239, Row r_api_Event 32 (.slice A71604 t71602.length c71605) t71602]) ?_ ?_
                                · clear o72243H
                                  have H := o72243h
                                  clear o72243h
                                  refine Wp_block ?_
                                  refine Wp_seq ?_
                                  refine Wp_region_any (S := fun w' => ∃ Mx, M71608.le Mx ∧ St w' Mx F [Row r_event_Place 62 (.slice A71975 x71974.length c71976) x71974, Row r_api_Event 32 (.slice A71604 t71602.length c71605) t71602]) (L := 9) mixed ?_
                                  intro w72254 hw72255 E'
                                  replace S := S.heap hw72255
                                  replace E := E.trans E'
                                  clear E'
                                  refine Wa_take (i := 0) rfl (by kernel_rfl) rfl rfl (.slice A71975 x71974.length c71976) rfl (fun w' h' => x_move rfl) (⟨M71608, Hp.le_refl M71608, (S.pick [0, 1] (by decide))⟩) ?_
                                  refine Wa_take (i := 1) rfl (by kernel_rfl) rfl rfl (.int .i64 x71978) rfl (fun w' h' => x_move rfl) (⟨M71608, Hp.le_refl M71608, (S.pick [0, 1] (by decide))⟩) ?_
                                  obtain ⟨⟨p72256, p72257⟩, H⟩ := chkS H
                                  obtain ⟨b72258, o72259, _, _, _, ee72260, _⟩ := SlW.at' (S.row_read 0 rfl) p72256 p72257
                                  refine Wa_take (i := 2) rfl (by kernel_rfl) rfl rfl (.pointer (some ⟨b72258, o72259 + x71978.toNat * 2, none⟩)) rfl (fun w' h' => x_indexAddr Try.underlying55 ty62 (slA ee72260) rfl p72256 p72257) (⟨M71608, Hp.le_refl M71608, (S.pick [0, 1] (by decide))⟩) ?_
                                  refine Wa_take (i := 3) rfl (by kernel_rfl) rfl rfl (.agg #[.int .i64 ((rd x71974 x71978).Task), .int .i64 ((rd x71974 x71978).Call)]) rfl (fun w' h' => x_loadA_cls h' 0 rfl ee72260 p72256 p72257 0 (by rintro _ _ rfl; rfl) ty62 rfl rfl rfl) (⟨M71608, Hp.le_refl M71608, (S.pick [0, 1] (by decide))⟩) ?_
                                  refine Wa_take (i := 4) rfl (by kernel_rfl) rfl rfl (.slice A71975 x71974.length c71976) rfl (fun w' h' => x_move rfl) (⟨M71608, Hp.le_refl M71608, (S.pick [0, 1] (by decide))⟩) ?_
                                  refine Wa_take (i := 5) rfl (by kernel_rfl) rfl rfl (.int .i64 x63314) rfl (fun w' h' => x_move rfl) (⟨M71608, Hp.le_refl M71608, (S.pick [0, 1] (by decide))⟩) ?_
                                  obtain ⟨⟨p72261, p72262⟩, H⟩ := chkS H
                                  obtain ⟨b72263, o72264, _, _, _, ee72265, _⟩ := SlW.at' (S.row_read 0 rfl) p72261 p72262
                                  refine Wa_take (i := 6) rfl (by kernel_rfl) rfl rfl (.pointer (some ⟨b72263, o72264 + x63314.toNat * 2, none⟩)) rfl (fun w' h' => x_indexAddr Try.underlying55 ty62 (slA ee72265) rfl p72261 p72262) (⟨M71608, Hp.le_refl M71608, (S.pick [0, 1] (by decide))⟩) ?_
                                  refine Wa_take (i := 7) rfl (by kernel_rfl) rfl rfl (.agg #[.int .i64 ((rd x71974 x63314).Task), .int .i64 ((rd x71974 x63314).Call)]) rfl (fun w' h' => x_loadA_cls h' 0 rfl ee72265 p72261 p72262 0 (by rintro _ _ rfl; rfl) ty62 rfl rfl rfl) (⟨M71608, Hp.le_refl M71608, (S.pick [0, 1] (by decide))⟩) ?_
                                  refine Wa_take (i := 8) rfl (by kernel_rfl) rfl rfl (.bool (((rd x71974 x71978).Task == (rd x71974 x63314).Task) && ((rd x71974 x71978).Call == (rd x71974 x63314).Call))) rfl (fun w' h' => x_eq_of (eg62 _ _ _ _) rfl (eq62 _ ((rd x71974 x71978).Task) ((rd x71974 x71978).Call) ((rd x71974 x63314).Task) ((rd x71974 x63314).Call))) (⟨M71608, Hp.le_refl M71608, (S.pick [0, 1] (by decide))⟩) ?_
                                  refine Wa_done (by kernel_rfl) ?_
                                  refine tn ?_
                                  obtain ⟨o72306, o72306h, o72306H⟩ := bindS H
                                  refine Wp_cut (fun ρ w' => ∃ (x72302 : List event_Place) (A72303 : Option Addr) (c72304 : Nat), (x72302) = o72306 ∧ Agree ρ [(1, .slice A1 a1.length c1), (2, .slice A2 a2.length c2), (7, .slice A72303 x72302.length c72304), (8, .slice A71604 t71602.length c71605), (9, .int .i64 x36205), (10, .int .i64 x63314), (11, .int .i64 x71978)] ∧ Ext w w' ∧ St w' M71608 F [Row r_event_Place 62 (.slice A72303 x72302.length c72304) x72302, Row r_api_Event 32 (.slice A71604 t71602.length c71605) t71602]) ?_ ?_
                                  · clear o72306H
                                    have H := o72306h
                                    clear o72306h
                                    rcases iteS H with ⟨hb72307, H⟩ | ⟨hb72307, H⟩
                                    · refine Wp_cond_true (congrArg Value.bool hb72307) ?_
                                      refine Wp_region_lit ?_
                                      refine W_v (.slice A71975 x71974.length c71976) (x_move rfl) rfl ?_
                                      refine W_v (.int .i64 x71978) (x_move rfl) rfl ?_
                                      obtain ⟨⟨p72308, p72309⟩, H⟩ := chkS H
                                      obtain ⟨b72310, o72311, cs72312, _, _, ee72317, hb72313, vs72314, hR72315, hc72316⟩ := SlW.at' (S.row_read 0 rfl) p72308 p72309
                                      obtain rfl : vs72314 = _ := hR72315
                                      refine W_v (.pointer (some ⟨b72310, o72311 + x71978.toNat * 2, none⟩)) (x_indexAddr Try.underlying55 ty62 (slA ee72317) rfl p72308 p72309) rfl ?_
                                      refine W_v (.pointer (some ⟨b72310, o72311 + x71978.toNat * 2 + 1, none⟩)) (x_fieldAddr (o := o72311 + x71978.toNat * 2) (off := 1) Try.underlying62 rfl ty3 rfl rfl) rfl ?_
                                      obtain ⟨x72319, he72320, H⟩ := bindS H
                                      replace he72320 := Option.some.inj he72320
                                      refine W_rowstore S 0 rfl rfl ee72317 (by first | exact p72308 | simpa using p72308) (by first | exact p72309 | simpa using p72309) 1 ty3 rfl rfl [.int .i64 (-1)] rfl rfl rfl rfl (⟨(rd x71974 x71978).Task, (-1 : Int)⟩ : event_Place) (by rintro _ rfl; rfl) he72320 ?_
                                      intro w72318 E' S
                                      replace E := E.trans E'
                                      clear E'
                                      have hs72321 : Value.slice A71975 x71974.length c71976 = Value.slice A71975 x72319.length c71976 := by rw [← he72320, List.length_set]
                                      try rw [hs72321] at S
                                      try rw [hs72321]
                                      clear hs72321
                                      have p72322 : x71978 < (x72319.length : Int) := by rw [← he72320, List.length_set]; exact p72257
                                      have p72323 : x63314 < (x72319.length : Int) := by rw [← he72320, List.length_set]; exact p72262
                                      have p72324 : x71978 < (x72319.length : Int) := by rw [← he72320, List.length_set]; exact p72309
                                      refine Wl_nil ?_
                                      refine tn ?_
                                      exact ⟨x72319, A71975, c71976, Option.some.inj H, ⟨rfl, rfl, rfl, rfl, rfl, rfl, rfl, trivial⟩, E, S.pick [0, 1] (by decide)⟩
                                    refine Wp_cond_false (congrArg Value.bool hb72307) ?_
                                    refine Wp_skip ?_
                                    refine tn ?_
                                    exact ⟨x71974, A71975, c71976, Option.some.inj H, ⟨rfl, rfl, rfl, rfl, rfl, rfl, rfl, trivial⟩, E, S.pick [0, 1] (by decide)⟩
                                  clear o72306h
                                  rintro ρ w72325 ⟨x72302, A72303, c72304, rfl, hρ, E, S⟩
                                  rw [agree_eta hρ]
                                  clear hρ
                                  have H := o72306H
                                  clear o72306H
                                  refine bn ?_
                                  refine tn ?_
                                  exact ⟨x72302, A72303, c72304, Option.some.inj H, ⟨rfl, rfl, rfl, rfl, rfl, rfl, rfl, trivial⟩, E, S.pick [0, 1] (by decide)⟩
                                clear o72243h
                                rintro ρ w72326 ⟨x72239, A72240, c72241, rfl, hρ, E, S⟩
                                rw [agree_eta hρ]
                                clear hρ
                                have H := o72243H
                                clear o72243H
                                refine tn ?_
                                refine Wp_region_lit ?_
                                refine W_v (.int .i64 x71978) (x_move rfl) rfl ?_
                                refine W_v (.int .i64 (IntKind.i64.wrap (x71978 + (1 : Int)))) (x_ibin rfl rfl rfl rfl) rfl ?_
                                refine W_v (.int .i64 (IntKind.i64.wrap (x71978 + (1 : Int)))) (x_assign rfl) rfl ?_
                                refine Wl_nil ?_
                                refine tn ?_
                                exact ⟨k, Nat.lt_succ_self k, ⟨x72239, (IntKind.i64.wrap (x71978 + (1 : Int))), A72240, c72241, H, ⟨rfl, rfl, rfl, rfl, rfl, rfl, rfl, trivial⟩, E, S.pick [0, 1] (by decide)⟩⟩
                              refine Wp_cond_false (congrArg Value.bool hb72156) ?_
                              refine Wp_exit ?_
                              refine tx (tx (bsm (?_)))
                              refine tn ?_
                              exact ⟨x71974, A71975, c71976, Option.some.inj H, ⟨rfl, rfl, rfl, rfl, rfl, rfl, trivial⟩, E, S.pick [0, 1] (by decide)⟩
                        clear o72154h
                        rintro ρ w72327 ⟨x72150, A72151, c72152, rfl, hρ, E, S⟩
                        rw [agree_eta hρ]
                        clear hρ
                        have H := o72154H
                        clear o72154H
                        refine tn ?_
                        obtain ⟨M72328, hM72329, hf72330, S⟩ := S.row_freeze 1 rfl
                        replace HM := Hp.le_trans HM hM72329
                        replace hM54276 := Hp.le_trans hM54276 hM72329
                        replace hM67831 := Hp.le_trans hM67831 hM72329
                        replace LE70088 := Hp.le_trans LE70088 hM72329
                        replace hr1 := SlR.mono hr1 hM72329
                        replace hr2 := SlR.mono hr2 hM72329
                        replace hs36204 := SlR.mono hs36204 hM72329
                        replace hs63313 := SlR.mono hs63313 hM72329
                        exact ⟨x72150, t71602, A72151, c72152, A71604, c71605, M72328, Option.some.inj H, ⟨rfl, rfl, rfl, rfl, rfl, rfl, trivial⟩, LE70088, E, S.pick [0] (by decide), hf72330⟩
                      refine Wp_cond_false (congrArg Value.bool hb71588) ?_
                      refine Wp_skip ?_
                      refine tn ?_
                      exact ⟨x63306, x63310, A63307, c63308, A63311, c63312, M67830, Option.some.inj H, ⟨rfl, rfl, rfl, rfl, rfl, rfl, trivial⟩, (Hp.le_refl M67830), E, S.pick [0] (by decide), hs63313⟩
                    clear o71587h
                    rintro ρ w72331 ⟨x71579, x71583, A71580, c71581, A71584, c71585, M72332, rfl, hρ, hM72333, E, S, hs71586⟩
                    rw [agree_eta hρ]
                    clear hρ
                    replace HM := Hp.le_trans HM hM72333
                    replace hM54276 := Hp.le_trans hM54276 hM72333
                    replace hM67831 := Hp.le_trans hM67831 hM72333
                    replace LE70088 := Hp.le_trans LE70088 hM72333
                    replace hr1 := SlR.mono hr1 hM72333
                    replace hr2 := SlR.mono hr2 hM72333
                    replace hs36204 := SlR.mono hs36204 hM72333
                    replace hs63313 := SlR.mono hs63313 hM72333
                    have H := o71587H
                    clear o71587H
                    refine bn ?_
                    refine tn ?_
                    exact ⟨x71579, x71583, A71580, c71581, A71584, c71585, M72332, Option.some.inj H, ⟨rfl, rfl, rfl, rfl, rfl, rfl, trivial⟩, hM72333, E, S.pick [0] (by decide), hs71586⟩
                  clear o70087h
                  rintro ρ w72334 ⟨x70079, x70083, A70080, c70081, A70084, c70085, M72335, rfl, hρ, hM72336, E, S, hs70086⟩
                  rw [agree_eta hρ]
                  clear hρ
                  replace HM := Hp.le_trans HM hM72336
                  replace hM54276 := Hp.le_trans hM54276 hM72336
                  replace hM67831 := Hp.le_trans hM67831 hM72336
                  replace hr1 := SlR.mono hr1 hM72336
                  replace hr2 := SlR.mono hr2 hM72336
                  replace hs36204 := SlR.mono hs36204 hM72336
                  replace hs63313 := SlR.mono hs63313 hM72336
                  have H := o70087H
                  clear o70087H
                  refine tn ?_
                  refine Wp_region_lit ?_
                  refine W_v (.int .i64 x63314) (x_move rfl) rfl ?_
                  refine W_v (.int .i64 (IntKind.i64.wrap (x63314 + (1 : Int)))) (x_ibin rfl rfl rfl rfl) rfl ?_
                  refine W_v (.int .i64 (IntKind.i64.wrap (x63314 + (1 : Int)))) (x_assign rfl) rfl ?_
                  refine Wl_nil ?_
                  refine tn ?_
                  exact ⟨k, Nat.lt_succ_self k, ⟨x70079, x70083, (IntKind.i64.wrap (x63314 + (1 : Int))), A70080, c70081, A70084, c70085, M72335, H, ⟨rfl, rfl, rfl, rfl, rfl, rfl, trivial⟩, hM67831, E, S.pick [0] (by decide), hs70086⟩⟩
                refine Wp_cond_false (congrArg Value.bool hb67832) ?_
                refine Wp_exit ?_
                refine tx (tx (bsm (?_)))
                refine tn ?_
                exact ⟨x63306, x63310, A63307, c63308, A63311, c63312, M67830, Option.some.inj H, ⟨rfl, rfl, rfl, rfl, rfl, trivial⟩, hM67831, E, S.pick [0] (by decide), hs63313⟩
          clear o67828h
          rintro ρ w72337 ⟨x67820, x67824, A67821, c67822, A67825, c67826, M72338, rfl, hρ, hM72339, E, S, hs67827⟩
          rw [agree_eta hρ]
          clear hρ
          replace HM := Hp.le_trans HM hM72339
          replace hM54276 := Hp.le_trans hM54276 hM72339
          replace hr1 := SlR.mono hr1 hM72339
          replace hr2 := SlR.mono hr2 hM72339
          replace hs36204 := SlR.mono hs36204 hM72339
          have H := o67828H
          clear o67828H
          refine bn ?_
          refine tn ?_
          refine Wp_region_lit ?_
          refine W_v (.int .i64 x36205) (x_move rfl) rfl ?_
          refine W_v (.int .i64 (IntKind.i64.wrap (x36205 - (1 : Int)))) (x_ibin rfl rfl rfl rfl) rfl ?_
          refine W_v (.int .i64 (IntKind.i64.wrap (x36205 - (1 : Int)))) (x_assign rfl) rfl ?_
          refine Wl_nil ?_
          refine tn ?_
          exact ⟨k, Nat.lt_succ_self k, ⟨x67820, x67824, (IntKind.i64.wrap (x36205 - (1 : Int))), A67821, c67822, A67825, c67826, M72338, H, ⟨rfl, rfl, rfl, rfl, rfl, trivial⟩, hM54276, E, S.pick [0] (by decide), hs67827⟩⟩
        refine Wp_cond_false (congrArg Value.bool hb54277) ?_
        refine Wp_exit ?_
        refine tx (tx (bsm (?_)))
        refine tn ?_
        exact ⟨x36201, A36202, c36203, M54275, Option.some.inj H, ⟨rfl, rfl, rfl, trivial⟩, hM54276, E, S.pick [] (by decide), hs36204⟩
  clear o54273h
  rintro ρ w72340 ⟨x54269, A54270, c54271, M72341, rfl, hρ, hM72342, E, S, hs54272⟩
  rw [agree_eta hρ]
  clear hρ
  replace HM := Hp.le_trans HM hM72342
  replace hr1 := SlR.mono hr1 hM72342
  replace hr2 := SlR.mono hr2 hM72342
  have H := o54273H
  clear o54273H
  refine tn ?_
  refine Wp_seq ?_
  refine Wp_region_lit ?_
  refine W_v (.int .i64 0) (x_assign rfl) rfl ?_
  refine Wl_nil ?_
  refine tn ?_
  refine Wp_seq ?_
  refine Wp_seq ?_
  refine Wp_region_lit ?_
  refine W_v (.int .i64 0) (x_assign rfl) rfl ?_
  refine Wl_nil ?_
  refine tn ?_
  obtain ⟨o72482, o72482h, o72482H⟩ := bindS H
  clear H
  refine Wp_blockJ (fun ρ w' => ∃ (x72481 : Int), (x72481) = o72482 ∧ Agree ρ [(1, .slice A1 a1.length c1), (2, .slice A2 a2.length c2), (8, .slice A54270 x54269.length c54271), (12, .int .i64 x72481)] ∧ Ext w w' ∧ St w' M72341 F []) ?_ ?_
  · skip
    refine Wp_loop (fun n ρ w' => ∃ (x72435 : Int) (x72436 : Int), ferrymanlaw06_EventLess_l101 a1 n x72435 x72436 = some o72482 ∧ Agree ρ [(1, .slice A1 a1.length c1), (2, .slice A2 a2.length c2), (8, .slice A54270 x54269.length c54271), (12, .int .i64 x72435), (13, .int .i64 x72436)] ∧ Ext w w' ∧ St w' M72341 F []) k ?_ ?_
    · skip
      exact ⟨(0 : Int), (0 : Int), o72482h, ⟨rfl, rfl, rfl, rfl, rfl, trivial⟩, E, S.pick [] (by decide)⟩
    · intro n
      rintro ρ w72483 ⟨x72435, x72436, H, hρ, E, S⟩
      rw [agree_eta hρ]
      clear hρ
      cases n with
      | zero => cases H
      | succ k =>
        rw [ferrymanlaw06_EventLess_l101.eq_2] at H
        refine Wp_seq ?_
        refine Wp_seq ?_
        refine Wp_region_lit ?_
        refine W_v (.int .i64 x72436) (x_move rfl) rfl ?_
        refine W_v (.slice A1 a1.length c1) (x_move rfl) rfl ?_
        refine W_v (.int .i64 (a1.length : Int)) (x_len_slice (n := a1.length) Try.underlying22 rfl) rfl ?_
        refine W_v (.bool (decide (x72436 < (a1.length : Int)))) (x_ibin rfl rfl rfl rfl) rfl ?_
        refine Wl_nil ?_
        refine tn ?_
        rcases iteS H with ⟨hb72484, H⟩ | ⟨hb72484, H⟩
        · refine Wp_cond_true (congrArg Value.bool hb72484) ?_
          refine Wp_skip ?_
          refine tn ?_
          refine Wp_seq ?_
          obtain ⟨o72506, o72506h, o72506H⟩ := bindS H
          refine Wp_cut (fun ρ w' => ∃ (x72505 : Int), (x72505) = o72506 ∧ Agree ρ [(1, .slice A1 a1.length c1), (2, .slice A2 a2.length c2), (8, .slice A54270 x54269.length c54271), (12, .int .i64 x72505), (13, .int .i64 x72436)] ∧ Ext w w' ∧ St w' M72341 F []) ?_ ?_
          · clear o72506H
            have H := o72506h
            clear o72506h
            refine Wp_block ?_
            refine Wp_seq ?_
            refine Wp_region_lit ?_
            refine W_v (.slice A1 a1.length c1) (x_move rfl) rfl ?_
            refine W_v (.int .i64 x72436) (x_move rfl) rfl ?_
            obtain ⟨⟨p72507, p72508⟩, H⟩ := chkS H
            obtain ⟨b72509, o72510, cs72511, _, _, ee72516, hb72512, vs72513, hR72514, hc72515⟩ := SlW.at' hr1 p72507 p72508
            obtain ⟨v72520, hs72519, rfl⟩ := hR72514
            obtain ⟨A72517, c72518, rfl, _⟩ := hs72519.form
            refine W_v (.pointer (some ⟨b72509, o72510 + x72436.toNat * 7, none⟩)) (x_indexAddr Try.underlying22 ty32 (slA ee72516) rfl p72507 p72508) rfl ?_
            refine W_v (.pointer (some ⟨b72509, o72510 + x72436.toNat * 7, none⟩)) (x_fieldAddr (o := o72510 + x72436.toNat * 7) (off := 0) Try.underlying32 rfl ty5 rfl rfl) rfl ?_
            refine W_v (.int .u8 ((rd a1 x72436).What)) (x_load (S.frz hb72512) ty5 rfl (hc72515 0 _ rfl)) rfl ?_
            refine W_v (.bool ((rd a1 x72436).What == (2 : Int))) (x_ibin rfl rfl rfl rfl) rfl ?_
            refine Wl_nil ?_
            refine tn ?_
            obtain ⟨o72524, o72524h, o72524H⟩ := bindS H
            refine Wp_cut (fun ρ w' => ∃ (x72523 : Int), (x72523) = o72524 ∧ Agree ρ [(1, .slice A1 a1.length c1), (2, .slice A2 a2.length c2), (8, .slice A54270 x54269.length c54271), (12, .int .i64 x72523), (13, .int .i64 x72436)] ∧ Ext w w' ∧ St w' M72341 F []) ?_ ?_
            · clear o72524H
              have H := o72524h
              clear o72524h
              rcases iteS H with ⟨hb72525, H⟩ | ⟨hb72525, H⟩
              · refine Wp_cond_true (congrArg Value.bool hb72525) ?_
                refine Wp_region_lit ?_
                refine W_v (.int .i64 x72435) (x_move rfl) rfl ?_
                refine W_v (.int .i64 (IntKind.i64.wrap (x72435 + (1 : Int)))) (x_ibin rfl rfl rfl rfl) rfl ?_
                refine W_v (.int .i64 (IntKind.i64.wrap (x72435 + (1 : Int)))) (x_assign rfl) rfl ?_
                refine Wl_nil ?_
                refine tn ?_
                exact ⟨(IntKind.i64.wrap (x72435 + (1 : Int))), Option.some.inj H, ⟨rfl, rfl, rfl, rfl, rfl, trivial⟩, E, S.pick [] (by decide)⟩
              refine Wp_cond_false (congrArg Value.bool hb72525) ?_
              refine Wp_skip ?_
              refine tn ?_
              exact ⟨x72435, Option.some.inj H, ⟨rfl, rfl, rfl, rfl, rfl, trivial⟩, E, S.pick [] (by decide)⟩
            clear o72524h
            rintro ρ w72526 ⟨x72523, rfl, hρ, E, S⟩
            rw [agree_eta hρ]
            clear hρ
            have H := o72524H
            clear o72524H
            refine bn ?_
            refine tn ?_
            exact ⟨x72523, Option.some.inj H, ⟨rfl, rfl, rfl, rfl, rfl, trivial⟩, E, S.pick [] (by decide)⟩
          clear o72506h
          rintro ρ w72527 ⟨x72505, rfl, hρ, E, S⟩
          rw [agree_eta hρ]
          clear hρ
          have H := o72506H
          clear o72506H
          refine tn ?_
          refine Wp_region_lit ?_
          refine W_v (.int .i64 x72436) (x_move rfl) rfl ?_
          refine W_v (.int .i64 (IntKind.i64.wrap (x72436 + (1 : Int)))) (x_ibin rfl rfl rfl rfl) rfl ?_
          refine W_v (.int .i64 (IntKind.i64.wrap (x72436 + (1 : Int)))) (x_assign rfl) rfl ?_
          refine Wl_nil ?_
          refine tn ?_
          exact ⟨k, Nat.lt_succ_self k, ⟨x72505, (IntKind.i64.wrap (x72436 + (1 : Int))), H, ⟨rfl, rfl, rfl, rfl, rfl, trivial⟩, E, S.pick [] (by decide)⟩⟩
        refine Wp_cond_false (congrArg Value.bool hb72484) ?_
        refine Wp_exit ?_
        refine tx (tx (bsm (?_)))
        refine tn ?_
        exact ⟨x72435, Option.some.inj H, ⟨rfl, rfl, rfl, rfl, trivial⟩, E, S.pick [] (by decide)⟩
  clear o72482h
  rintro ρ w72528 ⟨x72481, rfl, hρ, E, S⟩
  rw [agree_eta hρ]
  clear hρ
  have H := o72482H
  clear o72482H
  refine tn ?_
  refine Wp_seq ?_
  refine Wp_region_lit ?_
  refine W_v (.slice A54270 x54269.length c54271) (x_move rfl) rfl ?_
  refine W_v (.slice A1 a1.length c1) (x_move rfl) rfl ?_
  refine W_v (.slice A2 a2.length c2) (x_move rfl) rfl ?_
  obtain ⟨t72529, ht72530, H⟩ := bindS H
  refine W_callF fn25 (ferrymanlaw06_given.con k M72341 A2 c2 a2 t72529 hr2 ht72530) S rfl rfl (by rintro _ _ _ ⟨_, _, _, rfl⟩; exact (flat_cons (flat_row (fun _ _ _ _ h => h)) flat_nil)) ?_
  rintro _ w72534 _ Γ' E' S ⟨A72531, c72532, rfl, rfl⟩
  replace E := E.trans E'
  clear E'
  obtain ⟨t72535, ht72536, H⟩ := bindS H
  refine W_call fn24 (event_Without_AO.con k M72341 A1 c1 a1 A72531 c72532 t72529 t72535 hr1 ht72536) (Γ1 := [Row r_event_Place 62 (.slice A72531 t72529.length c72532) t72529]) (Γ2 := []) S rfl rfl ?_
  rintro _ w72540 M72541 Γ' hM72542 E' S ⟨A72537, c72538, rfl, rfl⟩
  replace HM := Hp.le_trans HM hM72542
  replace hM72342 := Hp.le_trans hM72342 hM72542
  replace hr1 := SlR.mono hr1 hM72542
  replace hr2 := SlR.mono hr2 hM72542
  replace hs54272 := SlR.mono hs54272 hM72542
  replace E := E.trans E'
  clear E'
  replace S : St w72540 M72541 F [Row r_api_Event 32 (.slice A72537 t72535.length c72538) t72535, Row r_event_Place 62 (.slice A72531 t72529.length c72532) t72529] := S
  obtain ⟨t72543, ht72544, H⟩ := bindS H
  refine W_callN 1 fn28 (fun h9 hs9 hd9 => event_Same.con k _ A54270 c54271 x54269 A72537 c72538 t72535 t72543 (SlR.mono hs54272 (Hp.le_union_left _ _)) (Sats.row hs9 hd9 0 rfl) ht72544) S rfl rfl (by rintro _ _ _ ⟨_, rfl⟩; exact flat_nil) ?_
  rintro _ w72545 _ Γ' E' S ⟨rfl, rfl⟩
  replace E := E.trans E'
  clear E'
  refine W_v (.bool t72543) (x_move rfl) rfl ?_
  obtain ⟨o72564, o72564h, o72564H⟩ := bindS H
  clear H
  refine Wl_cutN 9 (fun ρ w' => ∃ (x72563 : Bool) (Mj : Hp), (x72563) = o72564 ∧ Agree ρ [(117, .bool x72563)] ∧ M72541.le Mj ∧ Ext w w' ∧ St w' Mj F []) ?_ ?_
  · have H := o72564h
    have LE72565 := Hp.le_refl M72541
    rcases iteS H with ⟨hb72562, H⟩ | ⟨hb72562, H⟩
    · skip
      refine W_yes (congrArg some hb72562) ?_
      refine W_v (.slice A1 a1.length c1) (x_move rfl) rfl ?_
      refine W_yes (congrArg some hb72562) ?_
      obtain ⟨t72566, ht72567, H⟩ := bindS H
      refine W_call fn23 (event_Bare.con k M72541 A1 c1 a1 t72566 hr1 ht72567) (Γ1 := []) (Γ2 := [Row r_api_Event 32 (.slice A72537 t72535.length c72538) t72535, Row r_event_Place 62 (.slice A72531 t72529.length c72532) t72529]) S rfl rfl ?_
      rintro _ w72571 M72572 Γ' hM72573 E' S ⟨A72568, c72569, rfl, rfl⟩
      replace HM := Hp.le_trans HM hM72573
      replace hM72342 := Hp.le_trans hM72342 hM72573
      replace LE72565 := Hp.le_trans LE72565 hM72573
      replace hr1 := SlR.mono hr1 hM72573
      replace hr2 := SlR.mono hr2 hM72573
      replace hs54272 := SlR.mono hs54272 hM72573
      replace E := E.trans E'
      clear E'
      refine W_yes (congrArg some hb72562) ?_
      refine W_v (.int .i64 (t72566.length : Int)) (x_len_slice (n := t72566.length) Try.underlying22 rfl) rfl ?_
      refine W_yes (congrArg some hb72562) ?_
      refine W_v (.slice A1 a1.length c1) (x_move rfl) rfl ?_
      refine W_yes (congrArg some hb72562) ?_
      refine W_v (.int .i64 (a1.length : Int)) (x_len_slice (n := a1.length) Try.underlying22 rfl) rfl ?_
      refine W_yes (congrArg some hb72562) ?_
      refine W_v (.int .i64 x72481) (x_move rfl) rfl ?_
      refine W_yes (congrArg some hb72562) ?_
      refine W_v (.int .i64 (IntKind.i64.wrap ((a1.length : Int) - x72481))) (x_ibin rfl rfl rfl rfl) rfl ?_
      refine W_yes (congrArg some hb72562) ?_
      refine W_v (.bool ((t72566.length : Int) == (IntKind.i64.wrap ((a1.length : Int) - x72481)))) (x_ibin rfl rfl rfl rfl) rfl ?_
      refine W_v (.bool ((t72566.length : Int) == (IntKind.i64.wrap ((a1.length : Int) - x72481)))) (x_pick (k := true) (congrArg Value.bool hb72562) rfl) rfl ?_
      refine Wl_nil ?_
      exact ⟨((t72566.length : Int) == (IntKind.i64.wrap ((a1.length : Int) - x72481))), M72572, Option.some.inj H, ⟨rfl, trivial⟩, LE72565, E, S.pick [] (by decide)⟩
    · skip
      refine W_no (skT hb72562) rfl ?_
      refine W_no (skT hb72562) rfl ?_
      refine W_no (skT hb72562) rfl ?_
      refine W_no (skT hb72562) rfl ?_
      refine W_no (skT hb72562) rfl ?_
      refine W_no (skT hb72562) rfl ?_
      refine W_no (skT hb72562) rfl ?_
      refine W_no (skT hb72562) rfl ?_
      refine W_v (.bool false) (x_pick (k := false) (congrArg Value.bool hb72562) rfl) rfl ?_
      refine Wl_nil ?_
      exact ⟨false, M72541, Option.some.inj H, ⟨rfl, trivial⟩, (Hp.le_refl M72541), E, S.pick [] (by decide)⟩
  clear o72564h
  rintro ρ w72574 ⟨x72563, M72575, rfl, hρ, hM72576, E, S⟩
  rw [agree_eta hρ]
  clear hρ
  replace HM := Hp.le_trans HM hM72576
  replace hM72342 := Hp.le_trans hM72342 hM72576
  replace hr1 := SlR.mono hr1 hM72576
  replace hr2 := SlR.mono hr2 hM72576
  replace hs54272 := SlR.mono hs54272 hM72576
  have H := o72564H
  clear o72564H
  refine W_v (.bool x72563) (x_assign rfl) rfl ?_
  refine Wl_nil ?_
  refine tn ?_
  refine Wp_ret ?_
  obtain rfl := Option.some.inj H
  exact ⟨_, _, _, fun w1 e1 => run_resR (vs := [.bool x72563]) (FA.cons (rfl) (FA.nil)), HM, E, S.pick [] (by decide), ⟨rfl, rfl⟩⟩
end Go.Proofs.Ytninegjnkkcepaa
