import Derived.Test.YtninegjnkkcepaaGe1
namespace Go.Proofs.Ytninegjnkkcepaa
open Go
set_option linter.unusedVariables false
set_option linter.unusedSimpArgs false
/-! ### ferryman/ferrymanlaw06.EventLegal: function 6 -/
def ferrymanlaw06_EventLegal_l1 (a2 : (List api_Event)) : Nat → Bool → Int → List event_task → List api_Event → Option ((Bool × List event_task × List api_Event))
  | 0, _, _, _, _ => none
  | k + 1, x435, x436, x437, x441 => (if ((decide (x436 < (a2.length : Int))) && x435) = true then (if 0 ≤ x436 ∧ x436 < (a2.length : Int) then (Option.bind (α := Bool × List event_task × List api_Event) (if ((decide ((rd a2 x436).What ≥ (1 : Int))) && (decide ((rd a2 x436).What ≤ (3 : Int)))) = true then (Option.bind (ferrymanlaw06_Step_do_POO k (⟨((rd a2 x436).What), ((rd a2 x436).Task), ⟨(rd a2 x436).Answer.Err, (rd a2 x436).Answer.Found, (rd a2 x436).Answer.Value, (rd a2 x436).Answer.Pairs⟩⟩ : ferrymanlaw06_Step) (⟨x437, x441⟩ : event_Recorder)) (fun t582 => some ((t582.1 == (0 : Int)), t582.2.tasks, t582.2.l))) else some (false, x437, x441)) (fun ⟨x571, x572, x576⟩ => ferrymanlaw06_EventLegal_l1 a2 k x571 (IntKind.i64.wrap (x436 + (1 : Int))) x572 x576)) else none) else some (x435, x437, x441))
set_option maxHeartbeats 2000000 in
theorem ferrymanlaw06_EventLegal_l1.mono {a2 : (List api_Event)} : ∀ {k : Nat} {x0 x1 x2 x3}, OLe (ferrymanlaw06_EventLegal_l1 a2 k x0 x1 x2 x3) (ferrymanlaw06_EventLegal_l1 a2 (k + 1) x0 x1 x2 x3) := by
  intro k
  induction k with
  | zero => intros; exact OLe.none
  | succ k ih =>
    intros
    rw [ferrymanlaw06_EventLegal_l1.eq_2, ferrymanlaw06_EventLegal_l1.eq_2]
    repeat' (first | with_reducible exact OLe.none | with_reducible exact OLe.some | with_reducible refine OLe.ite ?_ ?_ | with_reducible refine OLe.bind ?_ (fun _ => ?_) | with_reducible exact ferrymanlaw06_Step_do_POO.mono | exact ih | refine OLe.bind ?_ (fun _ => ?_) | refine OLe.ite ?_ ?_ | refine OLe.elim (fun _ => ?_) (fun _ => ?_) | split)
def ferrymanlaw06_EventLegal_l0 (a0 : Int) (a1 : (List ferrymanlaw06_Step)) : Nat → Int → List event_task → List api_Event → Option ((Bool) ⊕ (Unit))
  | 0, _, _, _ => none
  | k + 1, x185, x186, x190 => (if (decide (x185 < (a1.length : Int))) = true then (if 0 ≤ x185 ∧ x185 < (a1.length : Int) then (Option.bind (ferrymanlaw06_Step_do_POO k (rd a1 x185) (⟨x186, x190⟩ : event_Recorder)) (fun t251 => (Option.bind (event_Recorder_Events_POO k t251.2) (fun t262 => (Option.bind (event_Legal k a0 t262) (fun t270 => (if (!t270) = true then some (.inl false) else ferrymanlaw06_EventLegal_l0 a0 a1 k (IntKind.i64.wrap (x185 + (1 : Int))) t251.2.tasks t251.2.l))))))) else none) else some (.inr ()))
set_option maxHeartbeats 2000000 in
theorem ferrymanlaw06_EventLegal_l0.mono {a0 : Int} {a1 : (List ferrymanlaw06_Step)} : ∀ {k : Nat} {x0 x1 x2}, OLe (ferrymanlaw06_EventLegal_l0 a0 a1 k x0 x1 x2) (ferrymanlaw06_EventLegal_l0 a0 a1 (k + 1) x0 x1 x2) := by
  intro k
  induction k with
  | zero => intros; exact OLe.none
  | succ k ih =>
    intros
    rw [ferrymanlaw06_EventLegal_l0.eq_2, ferrymanlaw06_EventLegal_l0.eq_2]
    repeat' (first | with_reducible exact OLe.none | with_reducible exact OLe.some | with_reducible refine OLe.ite ?_ ?_ | with_reducible refine OLe.bind ?_ (fun _ => ?_) | with_reducible exact event_Legal.mono | with_reducible exact event_Recorder_Events_POO.mono | with_reducible exact ferrymanlaw06_Step_do_POO.mono | exact ih | refine OLe.bind ?_ (fun _ => ?_) | refine OLe.ite ?_ ?_ | refine OLe.elim (fun _ => ?_) (fun _ => ?_) | split)
def ferrymanlaw06_EventLegal (k : Nat) (a0 : Int) (a1 : (List ferrymanlaw06_Step)) (a2 : (List api_Event)) : Option (Bool) :=
  (Option.bind (ferrymanlaw06_works k ) (fun t1 => (Option.bind (α := Bool) (if (!t1) = true then some (true) else (Option.bind (ferrymanlaw06_large k a1) (fun t13 => some (t13)))) (fun x11 => (Option.bind (α := Bool) (if x11 = true then some (true) else (Option.bind (ferrymanlaw06_wide k a2) (fun t26 => some (t26)))) (fun x24 => (if x24 = true then (Option.bind (ferrymanlaw06_works k ) (fun t31 => some t31)) else (Option.bind (event_New_v k a0) (fun t34 => (Sum.elim (fun t36 => (Option.bind (event_New_v k a0) (fun t41 => (Sum.elim (fun t43 => (Option.bind (event_Legal k a0 a2) (fun t48 => some (!t48)))) (fun t44 => some false)) t41))) (fun t37 => (Option.bind (event_New_v k a0) (fun t73 => (Sum.elim (fun t75 => some false) (fun t76 => (Option.bind (ferrymanlaw06_EventLegal_l0 a0 a1 k (0 : Int) t37.tasks t37.l) (fun o232o => Sum.elim (fun r' => some r') (fun _ => (Option.bind (ferrymanlaw06_EventLegal_l1 a2 k true (0 : Int) t76.tasks t76.l) (fun ⟨x514, x515, x519⟩ => (Option.bind (event_Legal k a0 a2) (fun t599 => (Option.bind (α := Bool) (if x514 = true then (Option.bind (event_Recorder_Events_POO k (⟨x515, x519⟩ : event_Recorder)) (fun t628 => (Option.bind (event_Same k t628 a2) (fun t636 => some (t636))))) else some (false)) (fun x625 => some (t599 == x625)))))))) o232o)))) t73)))) t34)))))))))
set_option maxHeartbeats 2000000 in
theorem ferrymanlaw06_EventLegal.mono {k : Nat} {a0 : Int} {a1 : (List ferrymanlaw06_Step)} {a2 : (List api_Event)} : OLe (ferrymanlaw06_EventLegal k a0 a1 a2) (ferrymanlaw06_EventLegal (k + 1) a0 a1 a2) := by
  unfold ferrymanlaw06_EventLegal
  repeat' (first | with_reducible exact OLe.none | with_reducible exact OLe.some | with_reducible refine OLe.ite ?_ ?_ | with_reducible refine OLe.bind ?_ (fun _ => ?_) | with_reducible exact event_Legal.mono | with_reducible exact event_New_v.mono | with_reducible exact event_Recorder_Events_POO.mono | with_reducible exact event_Same.mono | with_reducible exact ferrymanlaw06_EventLegal_l0.mono | with_reducible exact ferrymanlaw06_EventLegal_l1.mono | with_reducible exact ferrymanlaw06_large.mono | with_reducible exact ferrymanlaw06_wide.mono | with_reducible exact ferrymanlaw06_works.mono | refine OLe.bind ?_ (fun _ => ?_) | refine OLe.ite ?_ ?_ | refine OLe.elim (fun _ => ?_) (fun _ => ?_) | split)
set_option maxHeartbeats 8000000 in
set_option maxRecDepth 100000 in
theorem ferrymanlaw06_EventLegal.con (k : Nat) (M : Hp) (a0 : Int) (A1 : Option Addr) (c1 : Nat) (a1 : (List ferrymanlaw06_Step)) (A2 : Option Addr) (c2 : Nat) (a2 : (List api_Event)) (r : Bool) (hr1 : SlR r_ferrymanlaw06_Step M (.slice A1 a1.length c1) a1) (hr2 : SlR r_api_Event M (.slice A2 a2.length c2) a2) (h : ferrymanlaw06_EventLegal k a0 a1 a2 = some r) : Con Try.prog 6 #[.int .i64 a0, .slice A1 a1.length c1, .slice A2 a2.length c2] M [] (fun v M' Γ' => v = .bool r ∧ Γ' = []) := by
  refine con_of_wp Try.func6 rfl Try.ntmps6 Try.results6 rfl ?_
  intro w F rn S hrn
  have E := Ext.refl w
  have HM := Hp.le_refl M
  have H := h
  unfold ferrymanlaw06_EventLegal at H
  refine Wp_seq ?_
  refine Wp_region_lit ?_
  refine W_v (.bool false) (x_assign rfl) rfl ?_
  refine Wl_nil ?_
  refine tn ?_
  refine Wp_seq ?_
  refine Wp_seq ?_
  refine Wp_region_lit ?_
  obtain ⟨t1, ht2, H⟩ := bindS H
  refine W_callF fn10 (ferrymanlaw06_works.con k M  t1  ht2) S rfl rfl (by rintro _ _ _ ⟨_, rfl⟩; exact flat_nil) ?_
  rintro _ w3 _ Γ' E' S ⟨rfl, rfl⟩
  replace E := E.trans E'
  clear E'
  refine W_v (.bool (!t1)) (x_not rfl) rfl ?_
  refine W_v (.bool (!t1)) (x_move rfl) rfl ?_
  obtain ⟨o12, o12h, o12H⟩ := bindS H
  clear H
  refine Wl_cutN 3 (fun ρ w' => ∃ (x11 : Bool), (x11) = o12 ∧ Agree ρ [(0, .int .i64 a0), (1, .slice A1 a1.length c1), (2, .slice A2 a2.length c2), (20, .bool x11)] ∧ Ext w w' ∧ St w' M F []) ?_ ?_
  · have H := o12h
    rcases iteS H with ⟨hb10, H⟩ | ⟨hb10, H⟩
    · skip
      refine W_no (skF hb10) rfl ?_
      refine W_no (skF hb10) rfl ?_
      refine W_v (.bool true) (x_pick (k := true) (congrArg Value.bool hb10) rfl) rfl ?_
      refine Wl_nil ?_
      exact ⟨true, Option.some.inj H, ⟨rfl, rfl, rfl, rfl, trivial⟩, E, S.pick [] (by decide)⟩
    · skip
      refine W_yes (congrArg some hb10) ?_
      refine W_v (.slice A1 a1.length c1) (x_move rfl) rfl ?_
      refine W_yes (congrArg some hb10) ?_
      obtain ⟨t13, ht14, H⟩ := bindS H
      refine W_callF fn13 (ferrymanlaw06_large.con k M A1 c1 a1 t13 hr1 ht14) S rfl rfl (by rintro _ _ _ ⟨_, rfl⟩; exact flat_nil) ?_
      rintro _ w15 _ Γ' E' S ⟨rfl, rfl⟩
      replace E := E.trans E'
      clear E'
      refine W_v (.bool t13) (x_pick (k := false) (congrArg Value.bool hb10) rfl) rfl ?_
      refine Wl_nil ?_
      exact ⟨t13, Option.some.inj H, ⟨rfl, rfl, rfl, rfl, trivial⟩, E, S.pick [] (by decide)⟩
  clear o12h
  rintro ρ w16 ⟨x11, rfl, hρ, E, S⟩
  rw [agree_eta hρ]
  clear hρ
  have H := o12H
  clear o12H
  refine W_v (.bool x11) (x_move rfl) rfl ?_
  obtain ⟨o25, o25h, o25H⟩ := bindS H
  clear H
  refine Wl_cutN 3 (fun ρ w' => ∃ (x24 : Bool), (x24) = o25 ∧ Agree ρ [(0, .int .i64 a0), (1, .slice A1 a1.length c1), (2, .slice A2 a2.length c2), (24, .bool x24)] ∧ Ext w w' ∧ St w' M F []) ?_ ?_
  · have H := o25h
    rcases iteS H with ⟨hb23, H⟩ | ⟨hb23, H⟩
    · skip
      refine W_no (skF hb23) rfl ?_
      refine W_no (skF hb23) rfl ?_
      refine W_v (.bool true) (x_pick (k := true) (congrArg Value.bool hb23) rfl) rfl ?_
      refine Wl_nil ?_
      exact ⟨true, Option.some.inj H, ⟨rfl, rfl, rfl, rfl, trivial⟩, E, S.pick [] (by decide)⟩
    · skip
      refine W_yes (congrArg some hb23) ?_
      refine W_v (.slice A2 a2.length c2) (x_move rfl) rfl ?_
      refine W_yes (congrArg some hb23) ?_
      obtain ⟨t26, ht27, H⟩ := bindS H
      refine W_callF fn11 (ferrymanlaw06_wide.con k M A2 c2 a2 t26 hr2 ht27) S rfl rfl (by rintro _ _ _ ⟨_, rfl⟩; exact flat_nil) ?_
      rintro _ w28 _ Γ' E' S ⟨rfl, rfl⟩
      replace E := E.trans E'
      clear E'
      refine W_v (.bool t26) (x_pick (k := false) (congrArg Value.bool hb23) rfl) rfl ?_
      refine Wl_nil ?_
      exact ⟨t26, Option.some.inj H, ⟨rfl, rfl, rfl, rfl, trivial⟩, E, S.pick [] (by decide)⟩
  clear o25h
  rintro ρ w29 ⟨x24, rfl, hρ, E, S⟩
  rw [agree_eta hρ]
  clear hρ
  have H := o25H
  clear o25H
  refine Wl_nil ?_
  refine tn ?_
  rcases iteS H with ⟨hb30, H⟩ | ⟨hb30, H⟩
  · refine Wp_cond_true (congrArg Value.bool hb30) ?_
    refine Wp_seq ?_
    refine Wp_region_lit ?_
    obtain ⟨t31, ht32, H⟩ := bindS H
    refine W_callF fn10 (ferrymanlaw06_works.con k M  t31  ht32) S rfl rfl (by rintro _ _ _ ⟨_, rfl⟩; exact flat_nil) ?_
    rintro _ w33 _ Γ' E' S ⟨rfl, rfl⟩
    replace E := E.trans E'
    clear E'
    refine W_v (.bool t31) (x_assign rfl) rfl ?_
    refine Wl_nil ?_
    refine tn ?_
    refine Wp_ret ?_
    refine tr (?_)
    obtain rfl := Option.some.inj H
    exact ⟨_, _, _, fun w1 e1 => run_resR (vs := [.bool t31]) (FA.cons (rfl) (FA.nil)), HM, E, S.pick [] (by decide), ⟨rfl, rfl⟩⟩
  refine Wp_cond_false (congrArg Value.bool hb30) ?_
  refine Wp_skip ?_
  refine tn ?_
  refine Wp_seq ?_
  refine Wp_region_lit ?_
  refine W_v (.int .i64 a0) (x_move rfl) rfl ?_
  obtain ⟨t34, ht35, H⟩ := bindS H
  rcases t34 with t36 | t37
  · skip
    replace H := elimL H
    refine W_callF2 fn14 (event_New_v.con k M a0 (Sum.inl t36)  ht35) (Γ1 := []) (Γ2 := []) S rfl rfl (by rintro _ _ _ ⟨rfl, rfl⟩; exact flat_nil) ?_
    rintro _ w38 _ Γ' E' S ⟨rfl, rfl⟩
    replace E := E.trans E'
    clear E'
    replace S : St w38 M F [] := S
    refine W_v (.tuple #[.pointer none, .int .i64 1]) (x_move rfl) rfl ?_
    refine W_v (.pointer none) (x_extract rfl rfl) rfl ?_
    refine W_v (.int .i64 1) (x_extract rfl rfl) rfl ?_
    refine W_v (.pointer none) (x_assign rfl) rfl ?_
    refine W_v (.int .i64 1) (x_assign rfl) rfl ?_
    refine Wl_nil ?_
    refine tn ?_
    refine Wp_seq ?_
    refine Wp_region_lit ?_
    refine W_v (.int .i64 a0) (x_move rfl) rfl ?_
    obtain ⟨t41, ht42, H⟩ := bindS H
    rcases t41 with t43 | t44
    · skip
      replace H := elimL H
      refine W_callF2 fn14 (event_New_v.con k M a0 (Sum.inl t43)  ht42) (Γ1 := []) (Γ2 := []) S rfl rfl (by rintro _ _ _ ⟨rfl, rfl⟩; exact flat_nil) ?_
      rintro _ w45 _ Γ' E' S ⟨rfl, rfl⟩
      replace E := E.trans E'
      clear E'
      replace S : St w45 M F [] := S
      refine W_v (.tuple #[.pointer none, .int .i64 1]) (x_move rfl) rfl ?_
      refine W_v (.pointer none) (x_extract rfl rfl) rfl ?_
      refine W_v (.int .i64 1) (x_extract rfl rfl) rfl ?_
      refine W_v (.pointer none) (x_assign rfl) rfl ?_
      refine W_v (.int .i64 1) (x_assign rfl) rfl ?_
      refine Wl_nil ?_
      refine tn ?_
      refine Wp_seq ?_
      refine Wp_seq ?_
      refine Wp_region_lit ?_
      refine W_v (.int .i64 1) (x_move rfl) rfl ?_
      refine W_v (.bool true) (x_ibin rfl rfl rfl rfl) rfl ?_
      refine W_v (.bool true) (x_move rfl) rfl ?_
      refine W_no (rfl) rfl ?_
      refine W_no (rfl) rfl ?_
      refine W_v (.bool true) (x_pick (k := true) rfl rfl) rfl ?_
      refine Wl_nil ?_
      refine tn ?_
      refine Wp_cond_true rfl ?_
      refine Wp_seq ?_
      refine Wp_region_lit ?_
      refine W_v (.int .i64 1) (x_move rfl) rfl ?_
      refine W_v (.int .i64 1) (x_move rfl) rfl ?_
      refine W_v (.bool true) (x_ibin rfl rfl rfl rfl) rfl ?_
      refine W_v (.bool true) (x_move rfl) rfl ?_
      refine W_yes (rfl) ?_
      refine W_v (.int .i64 a0) (x_move rfl) rfl ?_
      refine W_yes (rfl) ?_
      refine W_v (.slice A2 a2.length c2) (x_move rfl) rfl ?_
      refine W_yes (rfl) ?_
      obtain ⟨t48, ht49, H⟩ := bindS H
      refine W_callF fn12 (event_Legal.con k M a0 A2 c2 a2 t48 hr2 ht49) S rfl rfl (by rintro _ _ _ ⟨_, rfl⟩; exact flat_nil) ?_
      rintro _ w50 _ Γ' E' S ⟨rfl, rfl⟩
      replace E := E.trans E'
      clear E'
      refine W_yes (rfl) ?_
      refine W_v (.bool (!t48)) (x_not rfl) rfl ?_
      refine W_v (.bool (!t48)) (x_pick (k := true) rfl rfl) rfl ?_
      refine W_v (.bool (!t48)) (x_assign rfl) rfl ?_
      refine Wl_nil ?_
      refine tn ?_
      refine Wp_ret ?_
      refine tr (?_)
      obtain rfl := Option.some.inj H
      exact ⟨_, _, _, fun w1 e1 => run_resR (vs := [.bool (!t48)]) (FA.cons (rfl) (FA.nil)), HM, E, S.pick [] (by decide), ⟨rfl, rfl⟩⟩
    · skip
      replace H := elimR H
      refine W_call fn14 (event_New_v.con k M a0 (Sum.inr t44)  ht42) (Γ1 := []) (Γ2 := []) S rfl rfl ?_
      rintro _ w59 M60 Γ' hM61 E' S ⟨b51, A53, c54, A56, c57, rfl, rfl⟩
      replace HM := Hp.le_trans HM hM61
      replace hr1 := SlR.mono hr1 hM61
      replace hr2 := SlR.mono hr2 hM61
      replace E := E.trans E'
      clear E'
      replace S : St w59 M60 F [Blk b51 (.cells #[.slice A53 t44.tasks.length c54, .slice A56 t44.l.length c57] 73 (0, 0)), Row r_event_task 70 (.slice A53 t44.tasks.length c54) t44.tasks, Row r_api_Event 32 (.slice A56 t44.l.length c57) t44.l] := S
      refine W_v (.tuple #[.pointer (some ⟨b51, 0, none⟩), .int .i64 0]) (x_move rfl) rfl ?_
      refine W_v (.pointer (some ⟨b51, 0, none⟩)) (x_extract rfl rfl) rfl ?_
      refine W_v (.int .i64 0) (x_extract rfl rfl) rfl ?_
      refine W_v (.pointer (some ⟨b51, 0, none⟩)) (x_assign rfl) rfl ?_
      refine W_v (.int .i64 0) (x_assign rfl) rfl ?_
      refine Wl_nil ?_
      refine tn ?_
      refine Wp_seq ?_
      refine Wp_seq ?_
      refine Wp_region_lit ?_
      refine W_v (.int .i64 1) (x_move rfl) rfl ?_
      refine W_v (.bool true) (x_ibin rfl rfl rfl rfl) rfl ?_
      refine W_v (.bool true) (x_move rfl) rfl ?_
      refine W_no (rfl) rfl ?_
      refine W_no (rfl) rfl ?_
      refine W_v (.bool true) (x_pick (k := true) rfl rfl) rfl ?_
      refine Wl_nil ?_
      refine tn ?_
      refine Wp_cond_true rfl ?_
      refine Wp_seq ?_
      refine Wp_region_lit ?_
      refine W_v (.int .i64 1) (x_move rfl) rfl ?_
      refine W_v (.int .i64 0) (x_move rfl) rfl ?_
      refine W_v (.bool false) (x_ibin rfl rfl rfl rfl) rfl ?_
      refine W_v (.bool false) (x_move rfl) rfl ?_
      refine W_no (rfl) rfl ?_
      refine W_no (rfl) rfl ?_
      refine W_no (rfl) rfl ?_
      refine W_no (rfl) rfl ?_
      refine W_v (.bool false) (x_pick (k := false) rfl rfl) rfl ?_
      refine W_v (.bool false) (x_assign rfl) rfl ?_
      refine Wl_nil ?_
      refine tn ?_
      refine Wp_ret ?_
      refine tr (?_)
      obtain rfl := Option.some.inj H
      exact ⟨_, _, _, fun w1 e1 => run_resR (vs := [.bool false]) (FA.cons (rfl) (FA.nil)), HM, E, S.pick [] (by decide), ⟨rfl, rfl⟩⟩
  · skip
    replace H := elimR H
    refine W_call fn14 (event_New_v.con k M a0 (Sum.inr t37)  ht35) (Γ1 := []) (Γ2 := []) S rfl rfl ?_
    rintro _ w70 M71 Γ' hM72 E' S ⟨b62, A64, c65, A67, c68, rfl, rfl⟩
    replace HM := Hp.le_trans HM hM72
    replace hr1 := SlR.mono hr1 hM72
    replace hr2 := SlR.mono hr2 hM72
    replace E := E.trans E'
    clear E'
    replace S : St w70 M71 F [Blk b62 (.cells #[.slice A64 t37.tasks.length c65, .slice A67 t37.l.length c68] 73 (0, 0)), Row r_event_task 70 (.slice A64 t37.tasks.length c65) t37.tasks, Row r_api_Event 32 (.slice A67 t37.l.length c68) t37.l] := S
    refine W_v (.tuple #[.pointer (some ⟨b62, 0, none⟩), .int .i64 0]) (x_move rfl) rfl ?_
    refine W_v (.pointer (some ⟨b62, 0, none⟩)) (x_extract rfl rfl) rfl ?_
    refine W_v (.int .i64 0) (x_extract rfl rfl) rfl ?_
    refine W_v (.pointer (some ⟨b62, 0, none⟩)) (x_assign rfl) rfl ?_
    refine W_v (.int .i64 0) (x_assign rfl) rfl ?_
    refine Wl_nil ?_
    refine tn ?_
    refine Wp_seq ?_
    refine Wp_region_lit ?_
    refine W_v (.int .i64 a0) (x_move rfl) rfl ?_
    obtain ⟨t73, ht74, H⟩ := bindS H
    rcases t73 with t75 | t76
    · skip
      replace H := elimL H
      refine W_callF2 fn14 (event_New_v.con k M71 a0 (Sum.inl t75)  ht74) (Γ1 := []) (Γ2 := [Blk b62 (.cells #[.slice A64 t37.tasks.length c65, .slice A67 t37.l.length c68] 73 (0, 0)), Row r_event_task 70 (.slice A64 t37.tasks.length c65) t37.tasks, Row r_api_Event 32 (.slice A67 t37.l.length c68) t37.l]) S rfl rfl (by rintro _ _ _ ⟨rfl, rfl⟩; exact flat_nil) ?_
      rintro _ w77 _ Γ' E' S ⟨rfl, rfl⟩
      replace E := E.trans E'
      clear E'
      replace S : St w77 M71 F [Blk b62 (.cells #[.slice A64 t37.tasks.length c65, .slice A67 t37.l.length c68] 73 (0, 0)), Row r_event_task 70 (.slice A64 t37.tasks.length c65) t37.tasks, Row r_api_Event 32 (.slice A67 t37.l.length c68) t37.l] := S
      refine W_v (.tuple #[.pointer none, .int .i64 1]) (x_move rfl) rfl ?_
      refine W_v (.pointer none) (x_extract rfl rfl) rfl ?_
      refine W_v (.int .i64 1) (x_extract rfl rfl) rfl ?_
      refine W_v (.pointer none) (x_assign rfl) rfl ?_
      refine W_v (.int .i64 1) (x_assign rfl) rfl ?_
      refine Wl_nil ?_
      refine tn ?_
      refine Wp_seq ?_
      refine Wp_seq ?_
      refine Wp_region_lit ?_
      refine W_v (.int .i64 0) (x_move rfl) rfl ?_
      refine W_v (.bool false) (x_ibin rfl rfl rfl rfl) rfl ?_
      refine W_v (.bool false) (x_move rfl) rfl ?_
      refine W_yes (rfl) ?_
      refine W_v (.int .i64 1) (x_move rfl) rfl ?_
      refine W_yes (rfl) ?_
      refine W_v (.bool true) (x_ibin rfl rfl rfl rfl) rfl ?_
      refine W_v (.bool true) (x_pick (k := false) rfl rfl) rfl ?_
      refine Wl_nil ?_
      refine tn ?_
      refine Wp_cond_true rfl ?_
      refine Wp_seq ?_
      refine Wp_region_lit ?_
      refine W_v (.int .i64 0) (x_move rfl) rfl ?_
      refine W_v (.int .i64 1) (x_move rfl) rfl ?_
      refine W_v (.bool false) (x_ibin rfl rfl rfl rfl) rfl ?_
      refine W_v (.bool false) (x_move rfl) rfl ?_
      refine W_no (rfl) rfl ?_
      refine W_no (rfl) rfl ?_
      refine W_no (rfl) rfl ?_
      refine W_no (rfl) rfl ?_
      refine W_v (.bool false) (x_pick (k := false) rfl rfl) rfl ?_
      refine W_v (.bool false) (x_assign rfl) rfl ?_
      refine Wl_nil ?_
      refine tn ?_
      refine Wp_ret ?_
      refine tr (?_)
      obtain rfl := Option.some.inj H
      exact ⟨_, _, _, fun w1 e1 => run_resR (vs := [.bool false]) (FA.cons (rfl) (FA.nil)), HM, E, S.pick [] (by decide), ⟨rfl, rfl⟩⟩
    · skip
      replace H := elimR H
      refine W_call fn14 (event_New_v.con k M71 a0 (Sum.inr t76)  ht74) (Γ1 := []) (Γ2 := [Blk b62 (.cells #[.slice A64 t37.tasks.length c65, .slice A67 t37.l.length c68] 73 (0, 0)), Row r_event_task 70 (.slice A64 t37.tasks.length c65) t37.tasks, Row r_api_Event 32 (.slice A67 t37.l.length c68) t37.l]) S rfl rfl ?_
      rintro _ w88 M89 Γ' hM90 E' S ⟨b80, A82, c83, A85, c86, rfl, rfl⟩
      replace HM := Hp.le_trans HM hM90
      replace hr1 := SlR.mono hr1 hM90
      replace hr2 := SlR.mono hr2 hM90
      replace E := E.trans E'
      clear E'
      replace S : St w88 M89 F [Blk b80 (.cells #[.slice A82 t76.tasks.length c83, .slice A85 t76.l.length c86] 73 (0, 0)), Row r_event_task 70 (.slice A82 t76.tasks.length c83) t76.tasks, Row r_api_Event 32 (.slice A85 t76.l.length c86) t76.l, Blk b62 (.cells #[.slice A64 t37.tasks.length c65, .slice A67 t37.l.length c68] 73 (0, 0)), Row r_event_task 70 (.slice A64 t37.tasks.length c65) t37.tasks, Row r_api_Event 32 (.slice A67 t37.l.length c68) t37.l] := S
      refine W_v (.tuple #[.pointer (some ⟨b80, 0, none⟩), .int .i64 0]) (x_move rfl) rfl ?_
      refine W_v (.pointer (some ⟨b80, 0, none⟩)) (x_extract rfl rfl) rfl ?_
      refine W_v (.int .i64 0) (x_extract rfl rfl) rfl ?_
      refine W_v (.pointer (some ⟨b80, 0, none⟩)) (x_assign rfl) rfl ?_
      refine W_v (.int .i64 0) (x_assign rfl) rfl ?_
      refine Wl_nil ?_
      refine tn ?_
      refine Wp_seq ?_
      refine Wp_seq ?_
      refine Wp_region_lit ?_
      refine W_v (.int .i64 0) (x_move rfl) rfl ?_
      refine W_v (.bool false) (x_ibin rfl rfl rfl rfl) rfl ?_
      refine W_v (.bool false) (x_move rfl) rfl ?_
      refine W_yes (rfl) ?_
      refine W_v (.int .i64 0) (x_move rfl) rfl ?_
      refine W_yes (rfl) ?_
      refine W_v (.bool false) (x_ibin rfl rfl rfl rfl) rfl ?_
      refine W_v (.bool false) (x_pick (k := false) rfl rfl) rfl ?_
      refine Wl_nil ?_
      refine tn ?_
      refine Wp_cond_false rfl ?_
      refine Wp_skip ?_
      refine tn ?_
      refine Wp_seq ?_
      refine Wp_seq ?_
      refine Wp_region_lit ?_
      refine W_v (.int .i64 0) (x_assign rfl) rfl ?_
      refine Wl_nil ?_
      refine tn ?_
      obtain ⟨o232, o232h, o232H⟩ := bindS H
      clear H
      refine Wp_blockJ (fun ρ w' => ∃ (Mj : Hp), .inr () = o232 ∧ Agree ρ [(0, .int .i64 a0), (2, .slice A2 a2.length c2), (9, .pointer (some ⟨b80, 0, none⟩))] ∧ M89.le Mj ∧ Ext w w' ∧ St w' Mj F [Blk b80 (.cells #[.slice A82 t76.tasks.length c83, .slice A85 t76.l.length c86] 73 (0, 0)), Row r_event_task 70 (.slice A82 t76.tasks.length c83) t76.tasks, Row r_api_Event 32 (.slice A85 t76.l.length c86) t76.l]) ?_ ?_
      · skip
        refine Wp_loop (fun n ρ w' => ∃ (x185 : Int) (x186 : List event_task) (x190 : List api_Event) (A187 : Option Addr) (c188 : Nat) (A191 : Option Addr) (c192 : Nat) (Mj : Hp), ferrymanlaw06_EventLegal_l0 a0 a1 n x185 x186 x190 = some o232 ∧ Agree ρ [(0, .int .i64 a0), (1, .slice A1 a1.length c1), (2, .slice A2 a2.length c2), (7, .pointer (some ⟨b62, 0, none⟩)), (9, .pointer (some ⟨b80, 0, none⟩)), (11, .int .i64 x185)] ∧ M89.le Mj ∧ Ext w w' ∧ St w' Mj F [Row r_api_Event 32 (.slice A191 x190.length c192) x190, Row r_event_task 70 (.slice A187 x186.length c188) x186, Blk b80 (.cells #[.slice A82 t76.tasks.length c83, .slice A85 t76.l.length c86] 73 (0, 0)), Row r_event_task 70 (.slice A82 t76.tasks.length c83) t76.tasks, Row r_api_Event 32 (.slice A85 t76.l.length c86) t76.l, Blk b62 (.cells #[.slice A187 x186.length c188, .slice A191 x190.length c192] 73 (0, 0))]) k ?_ ?_
        · skip
          exact ⟨(0 : Int), t37.tasks, t37.l, A64, c65, A67, c68, M89, o232h, ⟨rfl, rfl, rfl, rfl, rfl, rfl, trivial⟩, (Hp.le_refl M89), E, S.pick [5, 4, 0, 1, 2, 3] (by decide)⟩
        · intro n
          rintro ρ w233 ⟨x185, x186, x190, A187, c188, A191, c192, M234, H, hρ, hM235, E, S⟩
          rw [agree_eta hρ]
          clear hρ
          replace HM := Hp.le_trans HM hM235
          replace hr1 := SlR.mono hr1 hM235
          replace hr2 := SlR.mono hr2 hM235
          cases n with
          | zero => cases H
          | succ k =>
            rw [ferrymanlaw06_EventLegal_l0.eq_2] at H
            refine Wp_seq ?_
            refine Wp_seq ?_
            refine Wp_region_lit ?_
            refine W_v (.int .i64 x185) (x_move rfl) rfl ?_
            refine W_v (.slice A1 a1.length c1) (x_move rfl) rfl ?_
            refine W_v (.int .i64 (a1.length : Int)) (x_len_slice (n := a1.length) Try.underlying34 rfl) rfl ?_
            refine W_v (.bool (decide (x185 < (a1.length : Int)))) (x_ibin rfl rfl rfl rfl) rfl ?_
            refine Wl_nil ?_
            refine tn ?_
            rcases iteS H with ⟨hb236, H⟩ | ⟨hb236, H⟩
            · refine Wp_cond_true (congrArg Value.bool hb236) ?_
              refine Wp_skip ?_
              refine tn ?_
              refine Wp_seq ?_
              refine Wp_block ?_
              refine Wp_seq ?_
              refine Wp_region_lit ?_
              refine W_v (.slice A1 a1.length c1) (x_move rfl) rfl ?_
              refine W_v (.int .i64 x185) (x_move rfl) rfl ?_
              obtain ⟨⟨p237, p238⟩, H⟩ := chkS H
              obtain ⟨b239, o240, cs241, _, _, ee246, hb242, vs243, hR244, hc245⟩ := SlW.at' hr1 p237 p238
              obtain ⟨v250, hs249, rfl⟩ := hR244
              obtain ⟨A247, c248, rfl, _⟩ := hs249.form
              refine W_v (.pointer (some ⟨b239, o240 + x185.toNat * 6, none⟩)) (x_indexAddr Try.underlying34 ty40 (slA ee246) rfl p237 p238) rfl ?_
              refine W_v (.agg #[.int .u8 ((rd a1 x185).What), .int .i64 ((rd a1 x185).Task), .int .i64 ((rd a1 x185).Answer.Err), .bool ((rd a1 x185).Answer.Found), .string (bs ((rd a1 x185).Answer.Value)), .slice A247 ((rd a1 x185).Answer.Pairs).length c248]) (x_loadA (S.frz hb242) ty40 rfl (sub_el hc245 0 rfl) rfl rfl) rfl ?_
              refine W_v (.pointer (some ⟨b62, 0, none⟩)) (x_move rfl) rfl ?_
              obtain ⟨t251, ht252, H⟩ := bindS H
              replace S : St w233 M234 F [Blk b62 (.cells #[.slice A187 x186.length c188, .slice A191 x190.length c192] 73 (0, 0)), Row r_event_task 70 (.slice A187 x186.length c188) x186, Row r_api_Event 32 (.slice A191 x190.length c192) x190, Blk b80 (.cells #[.slice A82 t76.tasks.length c83, .slice A85 t76.l.length c86] 73 (0, 0)), Row r_event_task 70 (.slice A82 t76.tasks.length c83) t76.tasks, Row r_api_Event 32 (.slice A85 t76.l.length c86) t76.l] := S.pick [5, 1, 0, 2, 3, 4] (by decide)
              refine W_call fn16 (ferrymanlaw06_Step_do_POO.con k M234 A247 c248 (rd a1 x185) A187 c188 A191 c192 (⟨x186, x190⟩ : event_Recorder) b62 t251 hs249 ht252) (Γ1 := [Blk b62 (.cells #[.slice A187 x186.length c188, .slice A191 x190.length c192] 73 (0, 0)), Row r_event_task 70 (.slice A187 x186.length c188) x186, Row r_api_Event 32 (.slice A191 x190.length c192) x190]) (Γ2 := [Blk b80 (.cells #[.slice A82 t76.tasks.length c83, .slice A85 t76.l.length c86] 73 (0, 0)), Row r_event_task 70 (.slice A82 t76.tasks.length c83) t76.tasks, Row r_api_Event 32 (.slice A85 t76.l.length c86) t76.l]) S rfl rfl ?_
              rintro _ w259 M260 Γ' hM261 E' S ⟨A253, c254, A256, c257, rfl, rfl⟩
              replace HM := Hp.le_trans HM hM261
              replace hM235 := Hp.le_trans hM235 hM261
              replace hr1 := SlR.mono hr1 hM261
              replace hr2 := SlR.mono hr2 hM261
              replace hb242 := hM261 _ _ hb242
              replace hs249 := SlR.mono hs249 hM261
              replace E := E.trans E'
              clear E'
              replace S : St w259 M260 F [Blk b62 (.cells #[.slice A253 t251.2.tasks.length c254, .slice A256 t251.2.l.length c257] 73 (0, 0)), Row r_event_task 70 (.slice A253 t251.2.tasks.length c254) t251.2.tasks, Row r_api_Event 32 (.slice A256 t251.2.l.length c257) t251.2.l, Blk b80 (.cells #[.slice A82 t76.tasks.length c83, .slice A85 t76.l.length c86] 73 (0, 0)), Row r_event_task 70 (.slice A82 t76.tasks.length c83) t76.tasks, Row r_api_Event 32 (.slice A85 t76.l.length c86) t76.l] := S
              refine Wl_nil ?_
              refine tn ?_
              refine Wp_seq ?_
              refine Wp_region_lit ?_
              refine W_v (.int .i64 a0) (x_move rfl) rfl ?_
              refine W_v (.pointer (some ⟨b62, 0, none⟩)) (x_move rfl) rfl ?_
              obtain ⟨t262, ht263, H⟩ := bindS H
              refine W_call fn19 (event_Recorder_Events_POO.con k M260 A253 c254 A256 c257 t251.2 b62 t262  ht263) (Γ1 := [Blk b62 (.cells #[.slice A253 t251.2.tasks.length c254, .slice A256 t251.2.l.length c257] 73 (0, 0)), Row r_event_task 70 (.slice A253 t251.2.tasks.length c254) t251.2.tasks, Row r_api_Event 32 (.slice A256 t251.2.l.length c257) t251.2.l]) (Γ2 := [Blk b80 (.cells #[.slice A82 t76.tasks.length c83, .slice A85 t76.l.length c86] 73 (0, 0)), Row r_event_task 70 (.slice A82 t76.tasks.length c83) t76.tasks, Row r_api_Event 32 (.slice A85 t76.l.length c86) t76.l]) S rfl rfl ?_
              rintro _ w267 M268 Γ' hM269 E' S ⟨A264, c265, rfl, rfl⟩
              replace HM := Hp.le_trans HM hM269
              replace hM235 := Hp.le_trans hM235 hM269
              replace hr1 := SlR.mono hr1 hM269
              replace hr2 := SlR.mono hr2 hM269
              replace hb242 := hM269 _ _ hb242
              replace hs249 := SlR.mono hs249 hM269
              replace E := E.trans E'
              clear E'
              replace S : St w267 M268 F [Row r_api_Event 32 (.slice A264 t262.length c265) t262, Blk b62 (.cells #[.slice A253 t251.2.tasks.length c254, .slice A256 t251.2.l.length c257] 73 (0, 0)), Row r_event_task 70 (.slice A253 t251.2.tasks.length c254) t251.2.tasks, Row r_api_Event 32 (.slice A256 t251.2.l.length c257) t251.2.l, Blk b80 (.cells #[.slice A82 t76.tasks.length c83, .slice A85 t76.l.length c86] 73 (0, 0)), Row r_event_task 70 (.slice A82 t76.tasks.length c83) t76.tasks, Row r_api_Event 32 (.slice A85 t76.l.length c86) t76.l] := S
              obtain ⟨t270, ht271, H⟩ := bindS H
              refine W_callN 1 fn12 (fun h9 hs9 hd9 => event_Legal.con k _ a0 A264 c265 t262 t270 (Sats.row hs9 hd9 0 rfl) ht271) S rfl rfl (by rintro _ _ _ ⟨_, rfl⟩; exact flat_nil) ?_
              rintro _ w272 _ Γ' E' S ⟨rfl, rfl⟩
              replace E := E.trans E'
              clear E'
              refine W_v (.bool (!t270)) (x_not rfl) rfl ?_
              refine Wl_nil ?_
              refine tn ?_
              rcases iteS H with ⟨hb273, H⟩ | ⟨hb273, H⟩
              · refine Wp_cond_true (congrArg Value.bool hb273) ?_
                refine Wp_seq ?_
                refine Wp_region_lit ?_
                refine W_v (.bool false) (x_assign rfl) rfl ?_
                refine Wl_nil ?_
                refine tn ?_
                refine Wp_ret ?_
                refine br (tr (tr (br (tr (tr (?_))))))
                obtain rfl := Option.some.inj H
                have H := o232H
                replace H := elimL H
                obtain rfl := Option.some.inj H
                exact ⟨_, _, _, fun w1 e1 => run_resR (vs := [.bool false]) (FA.cons (rfl) (FA.nil)), HM, E, S.pick [] (by decide), ⟨rfl, rfl⟩⟩
              refine Wp_cond_false (congrArg Value.bool hb273) ?_
              refine Wp_skip ?_
              refine bn ?_
              refine tn ?_
              refine Wp_region_lit ?_
              refine W_v (.int .i64 x185) (x_move rfl) rfl ?_
              refine W_v (.int .i64 (IntKind.i64.wrap (x185 + (1 : Int)))) (x_ibin rfl rfl rfl rfl) rfl ?_
              refine W_v (.int .i64 (IntKind.i64.wrap (x185 + (1 : Int)))) (x_assign rfl) rfl ?_
              refine Wl_nil ?_
              refine tn ?_
              exact ⟨k, Nat.lt_succ_self k, ⟨(IntKind.i64.wrap (x185 + (1 : Int))), t251.2.tasks, t251.2.l, A253, c254, A256, c257, M268, H, ⟨rfl, rfl, rfl, rfl, rfl, rfl, trivial⟩, hM235, E, S.pick [3, 2, 4, 5, 6, 1] (by decide)⟩⟩
            refine Wp_cond_false (congrArg Value.bool hb236) ?_
            refine Wp_exit ?_
            refine tx (tx (bsm (?_)))
            refine tn ?_
            exact ⟨M234, Option.some.inj H, ⟨rfl, rfl, rfl, trivial⟩, hM235, E, S.pick [2, 3, 4] (by decide)⟩
      clear o232h
      rintro ρ w274 ⟨M275, rfl, hρ, hM276, E, S⟩
      rw [agree_eta hρ]
      clear hρ
      replace HM := Hp.le_trans HM hM276
      replace hr1 := SlR.mono hr1 hM276
      replace hr2 := SlR.mono hr2 hM276
      have H := o232H
      clear o232H
      replace H := elimR H
      refine tn ?_
      refine Wp_seq ?_
      refine Wp_region_lit ?_
      refine W_v (.bool true) (x_assign rfl) rfl ?_
      refine Wl_nil ?_
      refine tn ?_
      refine Wp_seq ?_
      refine Wp_seq ?_
      refine Wp_region_lit ?_
      refine W_v (.int .i64 0) (x_assign rfl) rfl ?_
      refine Wl_nil ?_
      refine tn ?_
      obtain ⟨o523, o523h, o523H⟩ := bindS H
      clear H
      refine Wp_blockJ (fun ρ w' => ∃ (x514 : Bool) (x515 : List event_task) (x519 : List api_Event) (A516 : Option Addr) (c517 : Nat) (A520 : Option Addr) (c521 : Nat) (Mj : Hp), (x514, x515, x519) = o523 ∧ Agree ρ [(0, .int .i64 a0), (2, .slice A2 a2.length c2), (9, .pointer (some ⟨b80, 0, none⟩)), (12, .bool x514)] ∧ M275.le Mj ∧ Ext w w' ∧ St w' Mj F [Row r_api_Event 32 (.slice A520 x519.length c521) x519, Row r_event_task 70 (.slice A516 x515.length c517) x515, Blk b80 (.cells #[.slice A516 x515.length c517, .slice A520 x519.length c521] 73 (0, 0))]) ?_ ?_
      · skip
        refine Wp_loop (fun n ρ w' => ∃ (x435 : Bool) (x436 : Int) (x437 : List event_task) (x441 : List api_Event) (A438 : Option Addr) (c439 : Nat) (A442 : Option Addr) (c443 : Nat) (Mj : Hp), ferrymanlaw06_EventLegal_l1 a2 n x435 x436 x437 x441 = some o523 ∧ Agree ρ [(0, .int .i64 a0), (2, .slice A2 a2.length c2), (9, .pointer (some ⟨b80, 0, none⟩)), (12, .bool x435), (13, .int .i64 x436)] ∧ M275.le Mj ∧ Ext w w' ∧ St w' Mj F [Row r_api_Event 32 (.slice A442 x441.length c443) x441, Row r_event_task 70 (.slice A438 x437.length c439) x437, Blk b80 (.cells #[.slice A438 x437.length c439, .slice A442 x441.length c443] 73 (0, 0))]) k ?_ ?_
        · skip
          exact ⟨true, (0 : Int), t76.tasks, t76.l, A82, c83, A85, c86, M275, o523h, ⟨rfl, rfl, rfl, rfl, rfl, trivial⟩, (Hp.le_refl M275), E, S.pick [2, 1, 0] (by decide)⟩
        · intro n
          rintro ρ w524 ⟨x435, x436, x437, x441, A438, c439, A442, c443, M525, H, hρ, hM526, E, S⟩
          rw [agree_eta hρ]
          clear hρ
          replace HM := Hp.le_trans HM hM526
          replace hM276 := Hp.le_trans hM276 hM526
          replace hr1 := SlR.mono hr1 hM526
          replace hr2 := SlR.mono hr2 hM526
          cases n with
          | zero => cases H
          | succ k =>
            rw [ferrymanlaw06_EventLegal_l1.eq_2] at H
            refine Wp_seq ?_
            refine Wp_seq ?_
            refine Wp_region_lit ?_
            refine W_v (.int .i64 x436) (x_move rfl) rfl ?_
            refine W_v (.slice A2 a2.length c2) (x_move rfl) rfl ?_
            refine W_v (.int .i64 (a2.length : Int)) (x_len_slice (n := a2.length) Try.underlying22 rfl) rfl ?_
            refine W_v (.bool (decide (x436 < (a2.length : Int)))) (x_ibin rfl rfl rfl rfl) rfl ?_
            refine W_v (.bool (decide (x436 < (a2.length : Int)))) (x_move rfl) rfl ?_
            refine Wl_cutN 2 (fun ρ w' => Agree ρ [(0, .int .i64 a0), (2, .slice A2 a2.length c2), (9, .pointer (some ⟨b80, 0, none⟩)), (12, .bool x435), (13, .int .i64 x436), (74, .bool ((decide (x436 < (a2.length : Int))) && x435))] ∧ w524 = w') ?_ ?_
            · rcases boolCases (decide (x436 < (a2.length : Int))) with hb527 | hb527
              · skip
                refine W_no (skT hb527) rfl ?_
                refine W_v (.bool false) (x_pick (k := false) (congrArg Value.bool hb527) rfl) rfl ?_
                refine Wl_nil ?_
                exact ⟨⟨rfl, rfl, rfl, rfl, rfl, (by first | rfl | (rw [hb527]; rfl) | (simp only [hb527]; rfl)), trivial⟩, rfl⟩
              · skip
                refine W_yes (congrArg some hb527) ?_
                refine W_v (.bool x435) (x_move rfl) rfl ?_
                refine W_v (.bool x435) (x_pick (k := true) (congrArg Value.bool hb527) rfl) rfl ?_
                refine Wl_nil ?_
                exact ⟨⟨rfl, rfl, rfl, rfl, rfl, (by first | rfl | (rw [hb527]; rfl) | (simp only [hb527]; rfl)), trivial⟩, rfl⟩
            rintro ρ _ ⟨hρ, rfl⟩
            rw [agree_eta hρ]
            clear hρ
            refine Wl_nil ?_
            refine tn ?_
            rcases iteS H with ⟨hb528, H⟩ | ⟨hb528, H⟩
            · refine Wp_cond_true (congrArg Value.bool hb528) ?_
              refine Wp_skip ?_
              refine tn ?_
              refine Wp_seq ?_
              refine Wp_block ?_
              refine Wp_seq ?_
              refine Wp_region_lit ?_
              refine W_v (.slice A2 a2.length c2) (x_move rfl) rfl ?_
              refine W_v (.int .i64 x436) (x_move rfl) rfl ?_
              obtain ⟨⟨p529, p530⟩, H⟩ := chkS H
              obtain ⟨b531, o532, cs533, _, _, ee538, hb534, vs535, hR536, hc537⟩ := SlW.at' hr2 p529 p530
              obtain ⟨v542, hs541, rfl⟩ := hR536
              obtain ⟨A539, c540, rfl, _⟩ := hs541.form
              refine W_v (.pointer (some ⟨b531, o532 + x436.toNat * 7, none⟩)) (x_indexAddr Try.underlying22 ty32 (slA ee538) rfl p529 p530) rfl ?_
              refine W_v (.agg #[.int .u8 ((rd a2 x436).What), .int .i64 ((rd a2 x436).Task), .int .i64 ((rd a2 x436).Call), .int .i64 ((rd a2 x436).Answer.Err), .bool ((rd a2 x436).Answer.Found), .string (bs ((rd a2 x436).Answer.Value)), .slice A539 ((rd a2 x436).Answer.Pairs).length c540]) (x_loadA (S.frz hb534) ty32 rfl (sub_el hc537 0 rfl) rfl rfl) rfl ?_
              refine W_alloc S #[.int .u8 0, .int .i64 0, .int .i64 0, .int .i64 0, .bool false, .string (bs ([] : Str)), .slice none 0 0] ty32 rfl rfl ?_
              intro b543 w544 E' S
              replace E := E.trans E'
              clear E'
              refine W_store S 0 rfl ty32 rfl rfl [.int .u8 ((rd a2 x436).What), .int .i64 ((rd a2 x436).Task), .int .i64 ((rd a2 x436).Call), .int .i64 ((rd a2 x436).Answer.Err), .bool ((rd a2 x436).Answer.Found), .string (bs ((rd a2 x436).Answer.Value)), .slice A539 ((rd a2 x436).Answer.Pairs).length c540] rfl rfl rfl #[.int .u8 ((rd a2 x436).What), .int .i64 ((rd a2 x436).Task), .int .i64 ((rd a2 x436).Call), .int .i64 ((rd a2 x436).Answer.Err), .bool ((rd a2 x436).Answer.Found), .string (bs ((rd a2 x436).Answer.Value)), .slice A539 ((rd a2 x436).Answer.Pairs).length c540] rfl rfl ?_
              intro w546 E' S
              replace E := E.trans E'
              clear E'
              refine Wl_nil ?_
              refine tn ?_
              refine Wp_region_lit ?_
              refine W_v (.pointer (some ⟨b543, 0, none⟩)) (x_fieldAddr (o := 0) (off := 0) Try.underlying32 rfl ty5 rfl rfl) rfl ?_
              refine W_v (.int .u8 ((rd a2 x436).What)) (x_load (S.blk 0 rfl) ty5 rfl rfl) rfl ?_
              refine W_v (.bool (decide ((rd a2 x436).What ≥ (1 : Int)))) (x_ibin rfl rfl rfl rfl) rfl ?_
              refine W_v (.bool (decide ((rd a2 x436).What ≥ (1 : Int)))) (x_move rfl) rfl ?_
              refine Wl_cutN 4 (fun ρ w' => Agree ρ [(0, .int .i64 a0), (2, .slice A2 a2.length c2), (9, .pointer (some ⟨b80, 0, none⟩)), (13, .int .i64 x436), (14, .pointer (some ⟨b543, 0, none⟩)), (88, .bool ((decide ((rd a2 x436).What ≥ (1 : Int))) && (decide ((rd a2 x436).What ≤ (3 : Int)))))] ∧ w546 = w') ?_ ?_
              · rcases boolCases (decide ((rd a2 x436).What ≥ (1 : Int))) with hb547 | hb547
                · skip
                  refine W_no (skT hb547) rfl ?_
                  refine W_no (skT hb547) rfl ?_
                  refine W_no (skT hb547) rfl ?_
                  refine W_v (.bool false) (x_pick (k := false) (congrArg Value.bool hb547) rfl) rfl ?_
                  refine Wl_nil ?_
                  exact ⟨⟨rfl, rfl, rfl, rfl, rfl, (by first | rfl | (rw [hb547]; rfl) | (simp only [hb547]; rfl)), trivial⟩, rfl⟩
                · skip
                  refine W_yes (congrArg some hb547) ?_
                  refine W_v (.pointer (some ⟨b543, 0, none⟩)) (x_fieldAddr (o := 0) (off := 0) Try.underlying32 rfl ty5 rfl rfl) rfl ?_
                  refine W_yes (congrArg some hb547) ?_
                  refine W_v (.int .u8 ((rd a2 x436).What)) (x_load (S.blk 0 rfl) ty5 rfl rfl) rfl ?_
                  refine W_yes (congrArg some hb547) ?_
                  refine W_v (.bool (decide ((rd a2 x436).What ≤ (3 : Int)))) (x_ibin rfl rfl rfl rfl) rfl ?_
                  refine W_v (.bool (decide ((rd a2 x436).What ≤ (3 : Int)))) (x_pick (k := true) (congrArg Value.bool hb547) rfl) rfl ?_
                  refine Wl_nil ?_
                  exact ⟨⟨rfl, rfl, rfl, rfl, rfl, (by first | rfl | (rw [hb547]; rfl) | (simp only [hb547]; rfl)), trivial⟩, rfl⟩
              rintro ρ _ ⟨hρ, rfl⟩
              rw [agree_eta hρ]
              clear hρ
              refine W_v (.bool ((decide ((rd a2 x436).What ≥ (1 : Int))) && (decide ((rd a2 x436).What ≤ (3 : Int))))) (x_move rfl) rfl ?_
              obtain ⟨o580, o580h, o580H⟩ := bindS H
              clear H
              refine Wl_cutN 11 (fun ρ w' => ∃ (x571 : Bool) (x572 : List event_task) (x576 : List api_Event) (A573 : Option Addr) (c574 : Nat) (A577 : Option Addr) (c578 : Nat) (Mj : Hp), (x571, x572, x576) = o580 ∧ Agree ρ [(0, .int .i64 a0), (2, .slice A2 a2.length c2), (9, .pointer (some ⟨b80, 0, none⟩)), (13, .int .i64 x436), (100, .bool x571)] ∧ M525.le Mj ∧ Ext w w' ∧ St w' Mj F [Row r_api_Event 32 (.slice A577 x576.length c578) x576, Row r_event_task 70 (.slice A573 x572.length c574) x572, Blk b80 (.cells #[.slice A573 x572.length c574, .slice A577 x576.length c578] 73 (0, 0))]) ?_ ?_
              · have H := o580h
                have LE581 := Hp.le_refl M525
                rcases iteS H with ⟨hb570, H⟩ | ⟨hb570, H⟩
                · skip
                  refine W_yes (congrArg some hb570) ?_
                  refine W_v (.pointer (some ⟨b543, 0, none⟩)) (x_fieldAddr (o := 0) (off := 0) Try.underlying32 rfl ty5 rfl rfl) rfl ?_
                  refine W_yes (congrArg some hb570) ?_
                  refine W_v (.int .u8 ((rd a2 x436).What)) (x_load (S.blk 0 rfl) ty5 rfl rfl) rfl ?_
                  refine W_yes (congrArg some hb570) ?_
                  refine W_v (.pointer (some ⟨b543, 1, none⟩)) (x_fieldAddr (o := 0) (off := 1) Try.underlying32 rfl ty3 rfl rfl) rfl ?_
                  refine W_yes (congrArg some hb570) ?_
                  refine W_v (.int .i64 ((rd a2 x436).Task)) (x_load (S.blk 0 rfl) ty3 rfl rfl) rfl ?_
                  refine W_yes (congrArg some hb570) ?_
                  refine W_v (.pointer (some ⟨b543, 3, none⟩)) (x_fieldAddr (o := 0) (off := 3) Try.underlying32 rfl ty30 rfl rfl) rfl ?_
                  refine W_yes (congrArg some hb570) ?_
                  refine W_v (.agg #[.int .i64 ((rd a2 x436).Answer.Err), .bool ((rd a2 x436).Answer.Found), .string (bs ((rd a2 x436).Answer.Value)), .slice A539 ((rd a2 x436).Answer.Pairs).length c540]) (x_loadA (S.blk 0 rfl) ty30 rfl (sub_of_extract rfl) rfl rfl) rfl ?_
                  refine W_yes (congrArg some hb570) ?_
                  refine W_v (.agg #[.int .u8 ((rd a2 x436).What), .int .i64 ((rd a2 x436).Task), .int .i64 ((rd a2 x436).Answer.Err), .bool ((rd a2 x436).Answer.Found), .string (bs ((rd a2 x436).Answer.Value)), .slice A539 ((rd a2 x436).Answer.Pairs).length c540]) (x_build2 (pl := [(0, 1), (1, 1), (2, 4)]) #[.int .u8 ((rd a2 x436).What), .int .i64 ((rd a2 x436).Task), .int .i64 ((rd a2 x436).Answer.Err), .bool ((rd a2 x436).Answer.Found), .string (bs ((rd a2 x436).Answer.Value)), .slice A539 ((rd a2 x436).Answer.Pairs).length c540] Try.underlying40 ty40 (by kernel_rfl) rfl (by kernel_rfl)) rfl ?_
                  refine W_yes (congrArg some hb570) ?_
                  refine W_v (.pointer (some ⟨b80, 0, none⟩)) (x_move rfl) rfl ?_
                  refine W_yes (congrArg some hb570) ?_
                  obtain ⟨t582, ht583, H⟩ := bindS H
                  replace S : St w546 M525 F [Blk b80 (.cells #[.slice A438 x437.length c439, .slice A442 x441.length c443] 73 (0, 0)), Row r_event_task 70 (.slice A438 x437.length c439) x437, Row r_api_Event 32 (.slice A442 x441.length c443) x441, Blk b543 (.cells #[.int .u8 ((rd a2 x436).What), .int .i64 ((rd a2 x436).Task), .int .i64 ((rd a2 x436).Call), .int .i64 ((rd a2 x436).Answer.Err), .bool ((rd a2 x436).Answer.Found), .string (bs ((rd a2 x436).Answer.Value)), .slice A539 ((rd a2 x436).Answer.Pairs).length c540] 32 (0, 0))] := S.pick [3, 2, 1, 0] (by decide)
                  refine W_call fn16 (ferrymanlaw06_Step_do_POO.con k M525 A539 c540 (⟨((rd a2 x436).What), ((rd a2 x436).Task), ⟨(rd a2 x436).Answer.Err, (rd a2 x436).Answer.Found, (rd a2 x436).Answer.Value, (rd a2 x436).Answer.Pairs⟩⟩ : ferrymanlaw06_Step) A438 c439 A442 c443 (⟨x437, x441⟩ : event_Recorder) b80 t582 hs541 ht583) (Γ1 := [Blk b80 (.cells #[.slice A438 x437.length c439, .slice A442 x441.length c443] 73 (0, 0)), Row r_event_task 70 (.slice A438 x437.length c439) x437, Row r_api_Event 32 (.slice A442 x441.length c443) x441]) (Γ2 := [Blk b543 (.cells #[.int .u8 ((rd a2 x436).What), .int .i64 ((rd a2 x436).Task), .int .i64 ((rd a2 x436).Call), .int .i64 ((rd a2 x436).Answer.Err), .bool ((rd a2 x436).Answer.Found), .string (bs ((rd a2 x436).Answer.Value)), .slice A539 ((rd a2 x436).Answer.Pairs).length c540] 32 (0, 0))]) S rfl rfl ?_
                  rintro _ w590 M591 Γ' hM592 E' S ⟨A584, c585, A587, c588, rfl, rfl⟩
                  replace HM := Hp.le_trans HM hM592
                  replace hM276 := Hp.le_trans hM276 hM592
                  replace hM526 := Hp.le_trans hM526 hM592
                  replace LE581 := Hp.le_trans LE581 hM592
                  replace hr1 := SlR.mono hr1 hM592
                  replace hr2 := SlR.mono hr2 hM592
                  replace hb534 := hM592 _ _ hb534
                  replace hs541 := SlR.mono hs541 hM592
                  replace E := E.trans E'
                  clear E'
                  replace S : St w590 M591 F [Blk b80 (.cells #[.slice A584 t582.2.tasks.length c585, .slice A587 t582.2.l.length c588] 73 (0, 0)), Row r_event_task 70 (.slice A584 t582.2.tasks.length c585) t582.2.tasks, Row r_api_Event 32 (.slice A587 t582.2.l.length c588) t582.2.l, Blk b543 (.cells #[.int .u8 ((rd a2 x436).What), .int .i64 ((rd a2 x436).Task), .int .i64 ((rd a2 x436).Call), .int .i64 ((rd a2 x436).Answer.Err), .bool ((rd a2 x436).Answer.Found), .string (bs ((rd a2 x436).Answer.Value)), .slice A539 ((rd a2 x436).Answer.Pairs).length c540] 32 (0, 0))] := S
                  refine W_yes (congrArg some hb570) ?_
                  refine W_v (.bool (t582.1 == (0 : Int))) (x_ibin rfl rfl rfl rfl) rfl ?_
                  refine W_v (.bool (t582.1 == (0 : Int))) (x_pick (k := true) (congrArg Value.bool hb570) rfl) rfl ?_
                  refine Wl_nil ?_
                  exact ⟨(t582.1 == (0 : Int)), t582.2.tasks, t582.2.l, A584, c585, A587, c588, M591, Option.some.inj H, ⟨rfl, rfl, rfl, rfl, rfl, trivial⟩, LE581, E, S.pick [2, 1, 0] (by decide)⟩
                · skip
                  refine W_no (skT hb570) rfl ?_
                  refine W_no (skT hb570) rfl ?_
                  refine W_no (skT hb570) rfl ?_
                  refine W_no (skT hb570) rfl ?_
                  refine W_no (skT hb570) rfl ?_
                  refine W_no (skT hb570) rfl ?_
                  refine W_no (skT hb570) rfl ?_
                  refine W_no (skT hb570) rfl ?_
                  refine W_no (skT hb570) rfl ?_
                  refine W_no (skT hb570) rfl ?_
                  refine W_v (.bool false) (x_pick (k := false) (congrArg Value.bool hb570) rfl) rfl ?_
                  refine Wl_nil ?_
                  exact ⟨false, x437, x441, A438, c439, A442, c443, M525, Option.some.inj H, ⟨rfl, rfl, rfl, rfl, rfl, trivial⟩, (Hp.le_refl M525), E, S.pick [1, 2, 3] (by decide)⟩
              clear o580h
              rintro ρ w593 ⟨x571, x572, x576, A573, c574, A577, c578, M594, rfl, hρ, hM595, E, S⟩
              rw [agree_eta hρ]
              clear hρ
              replace HM := Hp.le_trans HM hM595
              replace hM276 := Hp.le_trans hM276 hM595
              replace hM526 := Hp.le_trans hM526 hM595
              replace hr1 := SlR.mono hr1 hM595
              replace hr2 := SlR.mono hr2 hM595
              replace hb534 := hM595 _ _ hb534
              replace hs541 := SlR.mono hs541 hM595
              have H := o580H
              clear o580H
              refine W_v (.bool x571) (x_assign rfl) rfl ?_
              refine Wl_nil ?_
              refine bn ?_
              refine tn ?_
              refine Wp_region_lit ?_
              refine W_v (.int .i64 x436) (x_move rfl) rfl ?_
              refine W_v (.int .i64 (IntKind.i64.wrap (x436 + (1 : Int)))) (x_ibin rfl rfl rfl rfl) rfl ?_
              refine W_v (.int .i64 (IntKind.i64.wrap (x436 + (1 : Int)))) (x_assign rfl) rfl ?_
              refine Wl_nil ?_
              refine tn ?_
              exact ⟨k, Nat.lt_succ_self k, ⟨x571, (IntKind.i64.wrap (x436 + (1 : Int))), x572, x576, A573, c574, A577, c578, M594, H, ⟨rfl, rfl, rfl, rfl, rfl, trivial⟩, hM526, E, S.pick [0, 1, 2] (by decide)⟩⟩
            refine Wp_cond_false (congrArg Value.bool hb528) ?_
            refine Wp_exit ?_
            refine tx (tx (bsm (?_)))
            refine tn ?_
            exact ⟨x435, x437, x441, A438, c439, A442, c443, M525, Option.some.inj H, ⟨rfl, rfl, rfl, rfl, trivial⟩, hM526, E, S.pick [0, 1, 2] (by decide)⟩
      clear o523h
      rintro ρ w596 ⟨x514, x515, x519, A516, c517, A520, c521, M597, rfl, hρ, hM598, E, S⟩
      rw [agree_eta hρ]
      clear hρ
      replace HM := Hp.le_trans HM hM598
      replace hM276 := Hp.le_trans hM276 hM598
      replace hr1 := SlR.mono hr1 hM598
      replace hr2 := SlR.mono hr2 hM598
      have H := o523H
      clear o523H
      refine tn ?_
      refine Wp_seq ?_
      refine Wp_region_lit ?_
      refine W_v (.int .i64 a0) (x_move rfl) rfl ?_
      refine W_v (.slice A2 a2.length c2) (x_move rfl) rfl ?_
      obtain ⟨t599, ht600, H⟩ := bindS H
      refine W_callF fn12 (event_Legal.con k M597 a0 A2 c2 a2 t599 hr2 ht600) S rfl rfl (by rintro _ _ _ ⟨_, rfl⟩; exact flat_nil) ?_
      rintro _ w601 _ Γ' E' S ⟨rfl, rfl⟩
      replace E := E.trans E'
      clear E'
      refine W_v (.bool x514) (x_move rfl) rfl ?_
      refine W_v (.bool x514) (x_move rfl) rfl ?_
      obtain ⟨o626, o626h, o626H⟩ := bindS H
      clear H
      refine Wl_cutN 5 (fun ρ w' => ∃ (x625 : Bool) (Mj : Hp), (x625) = o626 ∧ Agree ρ [(103, .bool t599), (110, .bool x625)] ∧ M597.le Mj ∧ Ext w w' ∧ St w' Mj F []) ?_ ?_
      · have H := o626h
        have LE627 := Hp.le_refl M597
        rcases iteS H with ⟨hb624, H⟩ | ⟨hb624, H⟩
        · skip
          refine W_yes (congrArg some hb624) ?_
          refine W_v (.pointer (some ⟨b80, 0, none⟩)) (x_move rfl) rfl ?_
          refine W_yes (congrArg some hb624) ?_
          obtain ⟨t628, ht629, H⟩ := bindS H
          replace S : St w601 M597 F [Blk b80 (.cells #[.slice A516 x515.length c517, .slice A520 x519.length c521] 73 (0, 0)), Row r_event_task 70 (.slice A516 x515.length c517) x515, Row r_api_Event 32 (.slice A520 x519.length c521) x519] := S.pick [2, 1, 0] (by decide)
          refine W_call fn19 (event_Recorder_Events_POO.con k M597 A516 c517 A520 c521 (⟨x515, x519⟩ : event_Recorder) b80 t628  ht629) (Γ1 := [Blk b80 (.cells #[.slice A516 x515.length c517, .slice A520 x519.length c521] 73 (0, 0)), Row r_event_task 70 (.slice A516 x515.length c517) x515, Row r_api_Event 32 (.slice A520 x519.length c521) x519]) (Γ2 := []) S rfl rfl ?_
          rintro _ w633 M634 Γ' hM635 E' S ⟨A630, c631, rfl, rfl⟩
          replace HM := Hp.le_trans HM hM635
          replace hM276 := Hp.le_trans hM276 hM635
          replace hM598 := Hp.le_trans hM598 hM635
          replace LE627 := Hp.le_trans LE627 hM635
          replace hr1 := SlR.mono hr1 hM635
          replace hr2 := SlR.mono hr2 hM635
          replace E := E.trans E'
          clear E'
          replace S : St w633 M634 F [Row r_api_Event 32 (.slice A630 t628.length c631) t628, Blk b80 (.cells #[.slice A516 x515.length c517, .slice A520 x519.length c521] 73 (0, 0)), Row r_event_task 70 (.slice A516 x515.length c517) x515, Row r_api_Event 32 (.slice A520 x519.length c521) x519] := S
          refine W_yes (congrArg some hb624) ?_
          refine W_v (.slice A2 a2.length c2) (x_move rfl) rfl ?_
          refine W_yes (congrArg some hb624) ?_
          obtain ⟨t636, ht637, H⟩ := bindS H
          refine W_callN 1 fn28 (fun h9 hs9 hd9 => event_Same.con k _ A630 c631 t628 A2 c2 a2 t636 (Sats.row hs9 hd9 0 rfl) (SlR.mono hr2 (Hp.le_union_left _ _)) ht637) S rfl rfl (by rintro _ _ _ ⟨_, rfl⟩; exact flat_nil) ?_
          rintro _ w638 _ Γ' E' S ⟨rfl, rfl⟩
          replace E := E.trans E'
          clear E'
          refine W_v (.bool t636) (x_pick (k := true) (congrArg Value.bool hb624) rfl) rfl ?_
          refine Wl_nil ?_
          exact ⟨t636, M634, Option.some.inj H, ⟨rfl, rfl, trivial⟩, LE627, E, S.pick [] (by decide)⟩
        · skip
          refine W_no (skT hb624) rfl ?_
          refine W_no (skT hb624) rfl ?_
          refine W_no (skT hb624) rfl ?_
          refine W_no (skT hb624) rfl ?_
          refine W_v (.bool false) (x_pick (k := false) (congrArg Value.bool hb624) rfl) rfl ?_
          refine Wl_nil ?_
          exact ⟨false, M597, Option.some.inj H, ⟨rfl, rfl, trivial⟩, (Hp.le_refl M597), E, S.pick [] (by decide)⟩
      clear o626h
      rintro ρ w639 ⟨x625, M640, rfl, hρ, hM641, E, S⟩
      rw [agree_eta hρ]
      clear hρ
      replace HM := Hp.le_trans HM hM641
      replace hM276 := Hp.le_trans hM276 hM641
      replace hM598 := Hp.le_trans hM598 hM641
      replace hr1 := SlR.mono hr1 hM641
      replace hr2 := SlR.mono hr2 hM641
      have H := o626H
      clear o626H
      refine W_v (.bool (t599 == x625)) (x_beq Try.underlying4 rfl rfl) rfl ?_
      refine W_v (.bool (t599 == x625)) (x_assign rfl) rfl ?_
      refine Wl_nil ?_
      refine tn ?_
      refine Wp_ret ?_
      obtain rfl := Option.some.inj H
      exact ⟨_, _, _, fun w1 e1 => run_resR (vs := [.bool (t599 == x625)]) (FA.cons (rfl) (FA.nil)), HM, E, S.pick [] (by decide), ⟨rfl, rfl⟩⟩
end Go.Proofs.Ytninegjnkkcepaa
