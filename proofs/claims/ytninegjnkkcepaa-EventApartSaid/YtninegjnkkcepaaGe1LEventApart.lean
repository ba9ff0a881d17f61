import Derived.Test.YtninegjnkkcepaaGe1
namespace Go.Proofs.Ytninegjnkkcepaa
open Go
set_option linter.unusedVariables false
set_option linter.unusedSimpArgs false
/-! ### ferryman/ferrymanlaw06.EventApart: function 8 -/
def ferrymanlaw06_EventApart_l2 (a2 : (List ferrymanlaw06_Step)) : Nat → Int → List event_task → List api_Event → Option ((List event_task × List api_Event))
  | 0, _, _, _ => none
  | k + 1, x447, x448, x452 => (if (decide (x447 < (a2.length : Int))) = true then (if 0 ≤ x447 ∧ x447 < (a2.length : Int) then (Option.bind (ferrymanlaw06_Step_do_POO k (rd a2 x447) (⟨x448, x452⟩ : event_Recorder)) (fun t509 => ferrymanlaw06_EventApart_l2 a2 k (IntKind.i64.wrap (x447 + (1 : Int))) t509.2.tasks t509.2.l)) else none) else some (x448, x452))
set_option maxHeartbeats 2000000 in
theorem ferrymanlaw06_EventApart_l2.mono {a2 : (List ferrymanlaw06_Step)} : ∀ {k : Nat} {x0 x1 x2}, OLe (ferrymanlaw06_EventApart_l2 a2 k x0 x1 x2) (ferrymanlaw06_EventApart_l2 a2 (k + 1) x0 x1 x2) := by
  intro k
  induction k with
  | zero => intros; exact OLe.none
  | succ k ih =>
    intros
    rw [ferrymanlaw06_EventApart_l2.eq_2, ferrymanlaw06_EventApart_l2.eq_2]
    repeat' (first | with_reducible exact OLe.none | with_reducible exact OLe.some | with_reducible refine OLe.ite ?_ ?_ | with_reducible refine OLe.bind ?_ (fun _ => ?_) | with_reducible exact ferrymanlaw06_Step_do_POO.mono | exact ih | refine OLe.bind ?_ (fun _ => ?_) | refine OLe.ite ?_ ?_ | refine OLe.elim (fun _ => ?_) (fun _ => ?_) | split)
def ferrymanlaw06_EventApart_l1 (a2 : (List ferrymanlaw06_Step)) : Nat → Int → List event_task → List api_Event → Option ((List event_task × List api_Event))
  | 0, _, _, _ => none
  | k + 1, x289, x290, x294 => (if (decide (x289 < (a2.length : Int))) = true then (if 0 ≤ x289 ∧ x289 < (a2.length : Int) then (Option.bind (ferrymanlaw06_Step_do_POO k (rd a2 x289) (⟨x290, x294⟩ : event_Recorder)) (fun t351 => ferrymanlaw06_EventApart_l1 a2 k (IntKind.i64.wrap (x289 + (1 : Int))) t351.2.tasks t351.2.l)) else none) else some (x290, x294))
set_option maxHeartbeats 2000000 in
theorem ferrymanlaw06_EventApart_l1.mono {a2 : (List ferrymanlaw06_Step)} : ∀ {k : Nat} {x0 x1 x2}, OLe (ferrymanlaw06_EventApart_l1 a2 k x0 x1 x2) (ferrymanlaw06_EventApart_l1 a2 (k + 1) x0 x1 x2) := by
  intro k
  induction k with
  | zero => intros; exact OLe.none
  | succ k ih =>
    intros
    rw [ferrymanlaw06_EventApart_l1.eq_2, ferrymanlaw06_EventApart_l1.eq_2]
    repeat' (first | with_reducible exact OLe.none | with_reducible exact OLe.some | with_reducible refine OLe.ite ?_ ?_ | with_reducible refine OLe.bind ?_ (fun _ => ?_) | with_reducible exact ferrymanlaw06_Step_do_POO.mono | exact ih | refine OLe.bind ?_ (fun _ => ?_) | refine OLe.ite ?_ ?_ | refine OLe.elim (fun _ => ?_) (fun _ => ?_) | split)
def ferrymanlaw06_EventApart_l0 (a1 : (List ferrymanlaw06_Step)) : Nat → Int → List event_task → List api_Event → Option ((List event_task × List api_Event))
  | 0, _, _, _ => none
  | k + 1, x122, x123, x127 => (if (decide (x122 < (a1.length : Int))) = true then (if 0 ≤ x122 ∧ x122 < (a1.length : Int) then (Option.bind (ferrymanlaw06_Step_do_POO k (rd a1 x122) (⟨x123, x127⟩ : event_Recorder)) (fun t184 => ferrymanlaw06_EventApart_l0 a1 k (IntKind.i64.wrap (x122 + (1 : Int))) t184.2.tasks t184.2.l)) else none) else some (x123, x127))
set_option maxHeartbeats 2000000 in
theorem ferrymanlaw06_EventApart_l0.mono {a1 : (List ferrymanlaw06_Step)} : ∀ {k : Nat} {x0 x1 x2}, OLe (ferrymanlaw06_EventApart_l0 a1 k x0 x1 x2) (ferrymanlaw06_EventApart_l0 a1 (k + 1) x0 x1 x2) := by
  intro k
  induction k with
  | zero => intros; exact OLe.none
  | succ k ih =>
    intros
    rw [ferrymanlaw06_EventApart_l0.eq_2, ferrymanlaw06_EventApart_l0.eq_2]
    repeat' (first | with_reducible exact OLe.none | with_reducible exact OLe.some | with_reducible refine OLe.ite ?_ ?_ | with_reducible refine OLe.bind ?_ (fun _ => ?_) | with_reducible exact ferrymanlaw06_Step_do_POO.mono | exact ih | refine OLe.bind ?_ (fun _ => ?_) | refine OLe.ite ?_ ?_ | refine OLe.elim (fun _ => ?_) (fun _ => ?_) | split)
def ferrymanlaw06_EventApart (k : Nat) (a0 : Int) (a1 : (List ferrymanlaw06_Step)) (a2 : (List ferrymanlaw06_Step)) : Option (Bool) :=
  (Option.bind (ferrymanlaw06_works k ) (fun t1 => (Option.bind (α := Bool) (if (!t1) = true then some (true) else (Option.bind (ferrymanlaw06_large k a1) (fun t13 => some (t13)))) (fun x11 => (Option.bind (α := Bool) (if x11 = true then some (true) else (Option.bind (ferrymanlaw06_large k a2) (fun t26 => some (t26)))) (fun x24 => (if x24 = true then (Option.bind (ferrymanlaw06_works k ) (fun t31 => some t31)) else (Option.bind (event_New_v k a0) (fun t34 => (Sum.elim (fun t36 => some true) (fun t37 => (Option.bind (ferrymanlaw06_EventApart_l0 a1 k (0 : Int) t37.tasks t37.l) (fun ⟨x157, x161⟩ => (Option.bind (event_Recorder_Copy_POO k (⟨x157, x161⟩ : event_Recorder)) (fun t198 => (Option.bind (event_Recorder_Events_POO k (⟨x157, x161⟩ : event_Recorder)) (fun t211 => (Option.bind (ferrymanlaw06_EventApart_l1 a2 k (0 : Int) t198.tasks t198.l) (fun ⟨x324, x328⟩ => (Option.bind (event_Recorder_Events_POO k (⟨x157, x161⟩ : event_Recorder)) (fun t365 => (Option.bind (event_Same k t365 t211) (fun t373 => (if (!t373) = true then some false else (Option.bind (ferrymanlaw06_EventApart_l2 a2 k (0 : Int) x157 x161) (fun ⟨x482, x486⟩ => (Option.bind (event_Recorder_Events_POO k (⟨x482, x486⟩ : event_Recorder)) (fun t523 => (Option.bind (event_Recorder_Events_POO k (⟨x324, x328⟩ : event_Recorder)) (fun t531 => (Option.bind (event_Same k t523 t531) (fun t539 => (Option.bind (α := Bool) (if t539 = true then (Option.bind (event_Recorder_Events_POO k (⟨x482, x486⟩ : event_Recorder)) (fun t584 => (if 0 ≤ (t211.length : Int) ∧ (t211.length : Int) ≤ (t584.length : Int) then (Option.bind (event_Same k t211 (List.take (t211.length : Int).toNat t584)) (fun t600 => some (t600))) else none))) else some (false)) (fun x581 => some x581))))))))))))))))))))))))) t34)))))))))
set_option maxHeartbeats 2000000 in
theorem ferrymanlaw06_EventApart.mono {k : Nat} {a0 : Int} {a1 : (List ferrymanlaw06_Step)} {a2 : (List ferrymanlaw06_Step)} : OLe (ferrymanlaw06_EventApart k a0 a1 a2) (ferrymanlaw06_EventApart (k + 1) a0 a1 a2) := by
  unfold ferrymanlaw06_EventApart
  repeat' (first | with_reducible exact OLe.none | with_reducible exact OLe.some | with_reducible refine OLe.ite ?_ ?_ | with_reducible refine OLe.bind ?_ (fun _ => ?_) | with_reducible exact event_New_v.mono | with_reducible exact event_Recorder_Copy_POO.mono | with_reducible exact event_Recorder_Events_POO.mono | with_reducible exact event_Same.mono | with_reducible exact ferrymanlaw06_EventApart_l0.mono | with_reducible exact ferrymanlaw06_EventApart_l1.mono | with_reducible exact ferrymanlaw06_EventApart_l2.mono | with_reducible exact ferrymanlaw06_large.mono | with_reducible exact ferrymanlaw06_works.mono | refine OLe.bind ?_ (fun _ => ?_) | refine OLe.ite ?_ ?_ | refine OLe.elim (fun _ => ?_) (fun _ => ?_) | split)
set_option maxHeartbeats 8000000 in
set_option maxRecDepth 100000 in
theorem ferrymanlaw06_EventApart.con (k : Nat) (M : Hp) (a0 : Int) (A1 : Option Addr) (c1 : Nat) (a1 : (List ferrymanlaw06_Step)) (A2 : Option Addr) (c2 : Nat) (a2 : (List ferrymanlaw06_Step)) (r : Bool) (hr1 : SlR r_ferrymanlaw06_Step M (.slice A1 a1.length c1) a1) (hr2 : SlR r_ferrymanlaw06_Step M (.slice A2 a2.length c2) a2) (h : ferrymanlaw06_EventApart k a0 a1 a2 = some r) : Con Try.prog 8 #[.int .i64 a0, .slice A1 a1.length c1, .slice A2 a2.length c2] M [] (fun v M' Γ' => v = .bool r ∧ Γ' = []) := by
  refine con_of_wp Try.func8 rfl Try.ntmps8 Try.results8 rfl ?_
  intro w F rn S hrn
  have E := Ext.refl w
  have HM := Hp.le_refl M
  have H := h
  unfold ferrymanlaw06_EventApart at H
  refine Wp_seq ?_
  refine Wp_region_lit ?_
  refine W_v (.bool false) (x_assign rfl) rfl ?_
  refine Wl_nil ?_
  refine tn ?_
  refine Wp_seq ?_
  refine Wp_seq ?_
  refine Wp_region_lit ?_
  obtain ⟨t1, ht2, H⟩ := bindS H
  refine W_callF fn10 (ferrymanlaw06_works.con k M  t1  ht2) S rfl rfl (by rintro _ _ _ ⟨_, rfl⟩; exact flat_nil) ?_
  rintro _ w3 _ Γ' E' S ⟨rfl, rfl⟩
  replace E := E.trans E'
  clear E'
  refine W_v (.bool (!t1)) (x_not rfl) rfl ?_
  refine W_v (.bool (!t1)) (x_move rfl) rfl ?_
  obtain ⟨o12, o12h, o12H⟩ := bindS H
  clear H
  refine Wl_cutN 3 (fun ρ w' => ∃ (x11 : Bool), (x11) = o12 ∧ Agree ρ [(0, .int .i64 a0), (1, .slice A1 a1.length c1), (2, .slice A2 a2.length c2), (19, .bool x11)] ∧ Ext w w' ∧ St w' M F []) ?_ ?_
  · have H := o12h
    rcases iteS H with ⟨hb10, H⟩ | ⟨hb10, H⟩
    · skip
      refine W_no (skF hb10) rfl ?_
      refine W_no (skF hb10) rfl ?_
      refine W_v (.bool true) (x_pick (k := true) (congrArg Value.bool hb10) rfl) rfl ?_
      refine Wl_nil ?_
      exact ⟨true, Option.some.inj H, ⟨rfl, rfl, rfl, rfl, trivial⟩, E, S.pick [] (by decide)⟩
    · skip
      refine W_yes (congrArg some hb10) ?_
      refine W_v (.slice A1 a1.length c1) (x_move rfl) rfl ?_
      refine W_yes (congrArg some hb10) ?_
      obtain ⟨t13, ht14, H⟩ := bindS H
      refine W_callF fn13 (ferrymanlaw06_large.con k M A1 c1 a1 t13 hr1 ht14) S rfl rfl (by rintro _ _ _ ⟨_, rfl⟩; exact flat_nil) ?_
      rintro _ w15 _ Γ' E' S ⟨rfl, rfl⟩
      replace E := E.trans E'
      clear E'
      refine W_v (.bool t13) (x_pick (k := false) (congrArg Value.bool hb10) rfl) rfl ?_
      refine Wl_nil ?_
      exact ⟨t13, Option.some.inj H, ⟨rfl, rfl, rfl, rfl, trivial⟩, E, S.pick [] (by decide)⟩
  clear o12h
  rintro ρ w16 ⟨x11, rfl, hρ, E, S⟩
  rw [agree_eta hρ]
  clear hρ
  have H := o12H
  clear o12H
  refine W_v (.bool x11) (x_move rfl) rfl ?_
  obtain ⟨o25, o25h, o25H⟩ := bindS H
  clear H
  refine Wl_cutN 3 (fun ρ w' => ∃ (x24 : Bool), (x24) = o25 ∧ Agree ρ [(0, .int .i64 a0), (1, .slice A1 a1.length c1), (2, .slice A2 a2.length c2), (23, .bool x24)] ∧ Ext w w' ∧ St w' M F []) ?_ ?_
  · have H := o25h
    rcases iteS H with ⟨hb23, H⟩ | ⟨hb23, H⟩
    · skip
      refine W_no (skF hb23) rfl ?_
      refine W_no (skF hb23) rfl ?_
      refine W_v (.bool true) (x_pick (k := true) (congrArg Value.bool hb23) rfl) rfl ?_
      refine Wl_nil ?_
      exact ⟨true, Option.some.inj H, ⟨rfl, rfl, rfl, rfl, trivial⟩, E, S.pick [] (by decide)⟩
    · skip
      refine W_yes (congrArg some hb23) ?_
      refine W_v (.slice A2 a2.length c2) (x_move rfl) rfl ?_
      refine W_yes (congrArg some hb23) ?_
      obtain ⟨t26, ht27, H⟩ := bindS H
      refine W_callF fn13 (ferrymanlaw06_large.con k M A2 c2 a2 t26 hr2 ht27) S rfl rfl (by rintro _ _ _ ⟨_, rfl⟩; exact flat_nil) ?_
      rintro _ w28 _ Γ' E' S ⟨rfl, rfl⟩
      replace E := E.trans E'
      clear E'
      refine W_v (.bool t26) (x_pick (k := false) (congrArg Value.bool hb23) rfl) rfl ?_
      refine Wl_nil ?_
      exact ⟨t26, Option.some.inj H, ⟨rfl, rfl, rfl, rfl, trivial⟩, E, S.pick [] (by decide)⟩
  clear o25h
  rintro ρ w29 ⟨x24, rfl, hρ, E, S⟩
  rw [agree_eta hρ]
  clear hρ
  have H := o25H
  clear o25H
  refine Wl_nil ?_
  refine tn ?_
  rcases iteS H with ⟨hb30, H⟩ | ⟨hb30, H⟩
  · refine Wp_cond_true (congrArg Value.bool hb30) ?_
    refine Wp_seq ?_
    refine Wp_region_lit ?_
    obtain ⟨t31, ht32, H⟩ := bindS H
    refine W_callF fn10 (ferrymanlaw06_works.con k M  t31  ht32) S rfl rfl (by rintro _ _ _ ⟨_, rfl⟩; exact flat_nil) ?_
    rintro _ w33 _ Γ' E' S ⟨rfl, rfl⟩
    replace E := E.trans E'
    clear E'
    refine W_v (.bool t31) (x_assign rfl) rfl ?_
    refine Wl_nil ?_
    refine tn ?_
    refine Wp_ret ?_
    refine tr (?_)
    obtain rfl := Option.some.inj H
    exact ⟨_, _, _, fun w1 e1 => run_resR (vs := [.bool t31]) (FA.cons (rfl) (FA.nil)), HM, E, S.pick [] (by decide), ⟨rfl, rfl⟩⟩
  refine Wp_cond_false (congrArg Value.bool hb30) ?_
  refine Wp_skip ?_
  refine tn ?_
  refine Wp_seq ?_
  refine Wp_region_lit ?_
  refine W_v (.int .i64 a0) (x_move rfl) rfl ?_
  obtain ⟨t34, ht35, H⟩ := bindS H
  rcases t34 with t36 | t37
  · skip
    replace H := elimL H
    refine W_callF2 fn14 (event_New_v.con k M a0 (Sum.inl t36)  ht35) (Γ1 := []) (Γ2 := []) S rfl rfl (by rintro _ _ _ ⟨rfl, rfl⟩; exact flat_nil) ?_
    rintro _ w38 _ Γ' E' S ⟨rfl, rfl⟩
    replace E := E.trans E'
    clear E'
    replace S : St w38 M F [] := S
    refine W_v (.tuple #[.pointer none, .int .i64 1]) (x_move rfl) rfl ?_
    refine W_v (.pointer none) (x_extract rfl rfl) rfl ?_
    refine W_v (.int .i64 1) (x_extract rfl rfl) rfl ?_
    refine W_v (.pointer none) (x_assign rfl) rfl ?_
    refine W_v (.int .i64 1) (x_assign rfl) rfl ?_
    refine Wl_nil ?_
    refine tn ?_
    refine Wp_seq ?_
    refine Wp_seq ?_
    refine Wp_region_lit ?_
    refine W_v (.int .i64 1) (x_move rfl) rfl ?_
    refine W_v (.bool true) (x_ibin rfl rfl rfl rfl) rfl ?_
    refine Wl_nil ?_
    refine tn ?_
    refine Wp_cond_true rfl ?_
    refine Wp_seq ?_
    refine Wp_region_lit ?_
    refine W_v (.bool true) (x_assign rfl) rfl ?_
    refine Wl_nil ?_
    refine tn ?_
    refine Wp_ret ?_
    refine tr (?_)
    obtain rfl := Option.some.inj H
    exact ⟨_, _, _, fun w1 e1 => run_resR (vs := [.bool true]) (FA.cons (rfl) (FA.nil)), HM, E, S.pick [] (by decide), ⟨rfl, rfl⟩⟩
  · skip
    replace H := elimR H
    refine W_call fn14 (event_New_v.con k M a0 (Sum.inr t37)  ht35) (Γ1 := []) (Γ2 := []) S rfl rfl ?_
    rintro _ w49 M50 Γ' hM51 E' S ⟨b41, A43, c44, A46, c47, rfl, rfl⟩
    replace HM := Hp.le_trans HM hM51
    replace hr1 := SlR.mono hr1 hM51
    replace hr2 := SlR.mono hr2 hM51
    replace E := E.trans E'
    clear E'
    replace S : St w49 M50 F [Blk b41 (.cells #[.slice A43 t37.tasks.length c44, .slice A46 t37.l.length c47] 73 (0, 0)), Row r_event_task 70 (.slice A43 t37.tasks.length c44) t37.tasks, Row r_api_Event 32 (.slice A46 t37.l.length c47) t37.l] := S
    refine W_v (.tuple #[.pointer (some ⟨b41, 0, none⟩), .int .i64 0]) (x_move rfl) rfl ?_
    refine W_v (.pointer (some ⟨b41, 0, none⟩)) (x_extract rfl rfl) rfl ?_
    refine W_v (.int .i64 0) (x_extract rfl rfl) rfl ?_
    refine W_v (.pointer (some ⟨b41, 0, none⟩)) (x_assign rfl) rfl ?_
    refine W_v (.int .i64 0) (x_assign rfl) rfl ?_
    refine Wl_nil ?_
    refine tn ?_
    refine Wp_seq ?_
    refine Wp_seq ?_
    refine Wp_region_lit ?_
    refine W_v (.int .i64 0) (x_move rfl) rfl ?_
    refine W_v (.bool false) (x_ibin rfl rfl rfl rfl) rfl ?_
    refine Wl_nil ?_
    refine tn ?_
    refine Wp_cond_false rfl ?_
    refine Wp_skip ?_
    refine tn ?_
    refine Wp_seq ?_
    refine Wp_seq ?_
    refine Wp_region_lit ?_
    refine W_v (.int .i64 0) (x_assign rfl) rfl ?_
    refine Wl_nil ?_
    refine tn ?_
    obtain ⟨o165, o165h, o165H⟩ := bindS H
    clear H
    refine Wp_blockJ (fun ρ w' => ∃ (x157 : List event_task) (x161 : List api_Event) (A158 : Option Addr) (c159 : Nat) (A162 : Option Addr) (c163 : Nat) (Mj : Hp), (x157, x161) = o165 ∧ Agree ρ [(2, .slice A2 a2.length c2), (7, .pointer (some ⟨b41, 0, none⟩))] ∧ M50.le Mj ∧ Ext w w' ∧ St w' Mj F [Row r_api_Event 32 (.slice A162 x161.length c163) x161, Row r_event_task 70 (.slice A158 x157.length c159) x157, Blk b41 (.cells #[.slice A158 x157.length c159, .slice A162 x161.length c163] 73 (0, 0))]) ?_ ?_
    · skip
      refine Wp_loop (fun n ρ w' => ∃ (x122 : Int) (x123 : List event_task) (x127 : List api_Event) (A124 : Option Addr) (c125 : Nat) (A128 : Option Addr) (c129 : Nat) (Mj : Hp), ferrymanlaw06_EventApart_l0 a1 n x122 x123 x127 = some o165 ∧ Agree ρ [(1, .slice A1 a1.length c1), (2, .slice A2 a2.length c2), (7, .pointer (some ⟨b41, 0, none⟩)), (9, .int .i64 x122)] ∧ M50.le Mj ∧ Ext w w' ∧ St w' Mj F [Row r_api_Event 32 (.slice A128 x127.length c129) x127, Row r_event_task 70 (.slice A124 x123.length c125) x123, Blk b41 (.cells #[.slice A124 x123.length c125, .slice A128 x127.length c129] 73 (0, 0))]) k ?_ ?_
      · skip
        exact ⟨(0 : Int), t37.tasks, t37.l, A43, c44, A46, c47, M50, o165h, ⟨rfl, rfl, rfl, rfl, trivial⟩, (Hp.le_refl M50), E, S.pick [2, 1, 0] (by decide)⟩
      · intro n
        rintro ρ w166 ⟨x122, x123, x127, A124, c125, A128, c129, M167, H, hρ, hM168, E, S⟩
        rw [agree_eta hρ]
        clear hρ
        replace HM := Hp.le_trans HM hM168
        replace hr1 := SlR.mono hr1 hM168
        replace hr2 := SlR.mono hr2 hM168
        cases n with
        | zero => cases H
        | succ k =>
          rw [ferrymanlaw06_EventApart_l0.eq_2] at H
          refine Wp_seq ?_
          refine Wp_seq ?_
          refine Wp_region_lit ?_
          refine W_v (.int .i64 x122) (x_move rfl) rfl ?_
          refine W_v (.slice A1 a1.length c1) (x_move rfl) rfl ?_
          refine W_v (.int .i64 (a1.length : Int)) (x_len_slice (n := a1.length) Try.underlying34 rfl) rfl ?_
          refine W_v (.bool (decide (x122 < (a1.length : Int)))) (x_ibin rfl rfl rfl rfl) rfl ?_
          refine Wl_nil ?_
          refine tn ?_
          rcases iteS H with ⟨hb169, H⟩ | ⟨hb169, H⟩
          · refine Wp_cond_true (congrArg Value.bool hb169) ?_
            refine Wp_skip ?_
            refine tn ?_
            refine Wp_seq ?_
            refine Wp_block ?_
            refine Wp_region_lit ?_
            refine W_v (.slice A1 a1.length c1) (x_move rfl) rfl ?_
            refine W_v (.int .i64 x122) (x_move rfl) rfl ?_
            obtain ⟨⟨p170, p171⟩, H⟩ := chkS H
            obtain ⟨b172, o173, cs174, _, _, ee179, hb175, vs176, hR177, hc178⟩ := SlW.at' hr1 p170 p171
            obtain ⟨v183, hs182, rfl⟩ := hR177
            obtain ⟨A180, c181, rfl, _⟩ := hs182.form
            refine W_v (.pointer (some ⟨b172, o173 + x122.toNat * 6, none⟩)) (x_indexAddr Try.underlying34 ty40 (slA ee179) rfl p170 p171) rfl ?_
            refine W_v (.agg #[.int .u8 ((rd a1 x122).What), .int .i64 ((rd a1 x122).Task), .int .i64 ((rd a1 x122).Answer.Err), .bool ((rd a1 x122).Answer.Found), .string (bs ((rd a1 x122).Answer.Value)), .slice A180 ((rd a1 x122).Answer.Pairs).length c181]) (x_loadA (S.frz hb175) ty40 rfl (sub_el hc178 0 rfl) rfl rfl) rfl ?_
            refine W_v (.pointer (some ⟨b41, 0, none⟩)) (x_move rfl) rfl ?_
            obtain ⟨t184, ht185, H⟩ := bindS H
            replace S : St w166 M167 F [Blk b41 (.cells #[.slice A124 x123.length c125, .slice A128 x127.length c129] 73 (0, 0)), Row r_event_task 70 (.slice A124 x123.length c125) x123, Row r_api_Event 32 (.slice A128 x127.length c129) x127] := S.pick [2, 1, 0] (by decide)
            refine W_call fn16 (ferrymanlaw06_Step_do_POO.con k M167 A180 c181 (rd a1 x122) A124 c125 A128 c129 (⟨x123, x127⟩ : event_Recorder) b41 t184 hs182 ht185) (Γ1 := [Blk b41 (.cells #[.slice A124 x123.length c125, .slice A128 x127.length c129] 73 (0, 0)), Row r_event_task 70 (.slice A124 x123.length c125) x123, Row r_api_Event 32 (.slice A128 x127.length c129) x127]) (Γ2 := []) S rfl rfl ?_
            rintro _ w192 M193 Γ' hM194 E' S ⟨A186, c187, A189, c190, rfl, rfl⟩
            replace HM := Hp.le_trans HM hM194
            replace hM168 := Hp.le_trans hM168 hM194
            replace hr1 := SlR.mono hr1 hM194
            replace hr2 := SlR.mono hr2 hM194
            replace hb175 := hM194 _ _ hb175
            replace hs182 := SlR.mono hs182 hM194
            replace E := E.trans E'
            clear E'
            replace S : St w192 M193 F [Blk b41 (.cells #[.slice A186 t184.2.tasks.length c187, .slice A189 t184.2.l.length c190] 73 (0, 0)), Row r_event_task 70 (.slice A186 t184.2.tasks.length c187) t184.2.tasks, Row r_api_Event 32 (.slice A189 t184.2.l.length c190) t184.2.l] := S
            refine Wl_nil ?_
            refine bn ?_
            refine tn ?_
            refine Wp_region_lit ?_
            refine W_v (.int .i64 x122) (x_move rfl) rfl ?_
            refine W_v (.int .i64 (IntKind.i64.wrap (x122 + (1 : Int)))) (x_ibin rfl rfl rfl rfl) rfl ?_
            refine W_v (.int .i64 (IntKind.i64.wrap (x122 + (1 : Int)))) (x_assign rfl) rfl ?_
            refine Wl_nil ?_
            refine tn ?_
            exact ⟨k, Nat.lt_succ_self k, ⟨(IntKind.i64.wrap (x122 + (1 : Int))), t184.2.tasks, t184.2.l, A186, c187, A189, c190, M193, H, ⟨rfl, rfl, rfl, rfl, trivial⟩, hM168, E, S.pick [2, 1, 0] (by decide)⟩⟩
          refine Wp_cond_false (congrArg Value.bool hb169) ?_
          refine Wp_exit ?_
          refine tx (tx (bsm (?_)))
          refine tn ?_
          exact ⟨x123, x127, A124, c125, A128, c129, M167, Option.some.inj H, ⟨rfl, rfl, trivial⟩, hM168, E, S.pick [0, 1, 2] (by decide)⟩
    clear o165h
    rintro ρ w195 ⟨x157, x161, A158, c159, A162, c163, M196, rfl, hρ, hM197, E, S⟩
    rw [agree_eta hρ]
    clear hρ
    replace HM := Hp.le_trans HM hM197
    replace hr1 := SlR.mono hr1 hM197
    replace hr2 := SlR.mono hr2 hM197
    have H := o165H
    clear o165H
    refine tn ?_
    refine Wp_seq ?_
    refine Wp_region_lit ?_
    refine W_v (.pointer (some ⟨b41, 0, none⟩)) (x_move rfl) rfl ?_
    obtain ⟨t198, ht199, H⟩ := bindS H
    replace S : St w195 M196 F [Blk b41 (.cells #[.slice A158 x157.length c159, .slice A162 x161.length c163] 73 (0, 0)), Row r_event_task 70 (.slice A158 x157.length c159) x157, Row r_api_Event 32 (.slice A162 x161.length c163) x161] := S.pick [2, 1, 0] (by decide)
    refine W_call fn29 (event_Recorder_Copy_POO.con k M196 A158 c159 A162 c163 (⟨x157, x161⟩ : event_Recorder) b41 t198  ht199) (Γ1 := [Blk b41 (.cells #[.slice A158 x157.length c159, .slice A162 x161.length c163] 73 (0, 0)), Row r_event_task 70 (.slice A158 x157.length c159) x157, Row r_api_Event 32 (.slice A162 x161.length c163) x161]) (Γ2 := []) S rfl rfl ?_
    rintro _ w208 M209 Γ' hM210 E' S ⟨b200, A202, c203, A205, c206, rfl, rfl⟩
    replace HM := Hp.le_trans HM hM210
    replace hM197 := Hp.le_trans hM197 hM210
    replace hr1 := SlR.mono hr1 hM210
    replace hr2 := SlR.mono hr2 hM210
    replace E := E.trans E'
    clear E'
    replace S : St w208 M209 F [Blk b200 (.cells #[.slice A202 t198.tasks.length c203, .slice A205 t198.l.length c206] 73 (0, 0)), Row r_event_task 70 (.slice A202 t198.tasks.length c203) t198.tasks, Row r_api_Event 32 (.slice A205 t198.l.length c206) t198.l, Blk b41 (.cells #[.slice A158 x157.length c159, .slice A162 x161.length c163] 73 (0, 0)), Row r_event_task 70 (.slice A158 x157.length c159) x157, Row r_api_Event 32 (.slice A162 x161.length c163) x161] := S
    refine W_v (.pointer (some ⟨b200, 0, none⟩)) (x_assign rfl) rfl ?_
    refine Wl_nil ?_
    refine tn ?_
    refine Wp_seq ?_
    refine Wp_region_lit ?_
    refine W_v (.pointer (some ⟨b41, 0, none⟩)) (x_move rfl) rfl ?_
    obtain ⟨t211, ht212, H⟩ := bindS H
    replace S : St w208 M209 F [Blk b41 (.cells #[.slice A158 x157.length c159, .slice A162 x161.length c163] 73 (0, 0)), Row r_event_task 70 (.slice A158 x157.length c159) x157, Row r_api_Event 32 (.slice A162 x161.length c163) x161, Blk b200 (.cells #[.slice A202 t198.tasks.length c203, .slice A205 t198.l.length c206] 73 (0, 0)), Row r_event_task 70 (.slice A202 t198.tasks.length c203) t198.tasks, Row r_api_Event 32 (.slice A205 t198.l.length c206) t198.l] := S.pick [3, 4, 5, 0, 1, 2] (by decide)
    refine W_call fn19 (event_Recorder_Events_POO.con k M209 A158 c159 A162 c163 (⟨x157, x161⟩ : event_Recorder) b41 t211  ht212) (Γ1 := [Blk b41 (.cells #[.slice A158 x157.length c159, .slice A162 x161.length c163] 73 (0, 0)), Row r_event_task 70 (.slice A158 x157.length c159) x157, Row r_api_Event 32 (.slice A162 x161.length c163) x161]) (Γ2 := [Blk b200 (.cells #[.slice A202 t198.tasks.length c203, .slice A205 t198.l.length c206] 73 (0, 0)), Row r_event_task 70 (.slice A202 t198.tasks.length c203) t198.tasks, Row r_api_Event 32 (.slice A205 t198.l.length c206) t198.l]) S rfl rfl ?_
    rintro _ w216 M217 Γ' hM218 E' S ⟨A213, c214, rfl, rfl⟩
    replace HM := Hp.le_trans HM hM218
    replace hM197 := Hp.le_trans hM197 hM218
    replace hr1 := SlR.mono hr1 hM218
    replace hr2 := SlR.mono hr2 hM218
    replace E := E.trans E'
    clear E'
    replace S : St w216 M217 F [Row r_api_Event 32 (.slice A213 t211.length c214) t211, Blk b41 (.cells #[.slice A158 x157.length c159, .slice A162 x161.length c163] 73 (0, 0)), Row r_event_task 70 (.slice A158 x157.length c159) x157, Row r_api_Event 32 (.slice A162 x161.length c163) x161, Blk b200 (.cells #[.slice A202 t198.tasks.length c203, .slice A205 t198.l.length c206] 73 (0, 0)), Row r_event_task 70 (.slice A202 t198.tasks.length c203) t198.tasks, Row r_api_Event 32 (.slice A205 t198.l.length c206) t198.l] := S
    refine W_v (.slice A213 t211.length c214) (x_assign rfl) rfl ?_
    refine Wl_nil ?_
    refine tn ?_
    refine Wp_seq ?_
    refine Wp_seq ?_
    refine Wp_region_lit ?_
    refine W_v (.int .i64 0) (x_assign rfl) rfl ?_
    refine Wl_nil ?_
    refine tn ?_
    obtain ⟨o332, o332h, o332H⟩ := bindS H
    clear H
    refine Wp_blockJ (fun ρ w' => ∃ (x324 : List event_task) (x328 : List api_Event) (A325 : Option Addr) (c326 : Nat) (A329 : Option Addr) (c330 : Nat) (Mj : Hp), (x324, x328) = o332 ∧ Agree ρ [(2, .slice A2 a2.length c2), (7, .pointer (some ⟨b41, 0, none⟩)), (10, .pointer (some ⟨b200, 0, none⟩)), (11, .slice A213 t211.length c214)] ∧ M217.le Mj ∧ Ext w w' ∧ St w' Mj F [Row r_api_Event 32 (.slice A329 x328.length c330) x328, Row r_event_task 70 (.slice A325 x324.length c326) x324, Row r_api_Event 32 (.slice A213 t211.length c214) t211, Blk b41 (.cells #[.slice A158 x157.length c159, .slice A162 x161.length c163] 73 (0, 0)), Row r_event_task 70 (.slice A158 x157.length c159) x157, Row r_api_Event 32 (.slice A162 x161.length c163) x161, Blk b200 (.cells #[.slice A325 x324.length c326, .slice A329 x328.length c330] 73 (0, 0))]) ?_ ?_
    · skip
      refine Wp_loop (fun n ρ w' => ∃ (x289 : Int) (x290 : List event_task) (x294 : List api_Event) (A291 : Option Addr) (c292 : Nat) (A295 : Option Addr) (c296 : Nat) (Mj : Hp), ferrymanlaw06_EventApart_l1 a2 n x289 x290 x294 = some o332 ∧ Agree ρ [(2, .slice A2 a2.length c2), (7, .pointer (some ⟨b41, 0, none⟩)), (10, .pointer (some ⟨b200, 0, none⟩)), (11, .slice A213 t211.length c214), (12, .int .i64 x289)] ∧ M217.le Mj ∧ Ext w w' ∧ St w' Mj F [Row r_api_Event 32 (.slice A295 x294.length c296) x294, Row r_event_task 70 (.slice A291 x290.length c292) x290, Row r_api_Event 32 (.slice A213 t211.length c214) t211, Blk b41 (.cells #[.slice A158 x157.length c159, .slice A162 x161.length c163] 73 (0, 0)), Row r_event_task 70 (.slice A158 x157.length c159) x157, Row r_api_Event 32 (.slice A162 x161.length c163) x161, Blk b200 (.cells #[.slice A291 x290.length c292, .slice A295 x294.length c296] 73 (0, 0))]) k ?_ ?_
      · skip
        exact ⟨(0 : Int), t198.tasks, t198.l, A202, c203, A205, c206, M217, o332h, ⟨rfl, rfl, rfl, rfl, rfl, trivial⟩, (Hp.le_refl M217), E, S.pick [6, 5, 0, 1, 2, 3, 4] (by decide)⟩
      · intro n
        rintro ρ w333 ⟨x289, x290, x294, A291, c292, A295, c296, M334, H, hρ, hM335, E, S⟩
        rw [agree_eta hρ]
        clear hρ
        replace HM := Hp.le_trans HM hM335
        replace hM197 := Hp.le_trans hM197 hM335
        replace hr1 := SlR.mono hr1 hM335
        replace hr2 := SlR.mono hr2 hM335
        cases n with
        | zero => cases H
        | succ k =>
          rw [ferrymanlaw06_EventApart_l1.eq_2] at H
          refine Wp_seq ?_
          refine Wp_seq ?_
          refine Wp_region_lit ?_
          refine W_v (.int .i64 x289) (x_move rfl) rfl ?_
          refine W_v (.slice A2 a2.length c2) (x_move rfl) rfl ?_
          refine W_v (.int .i64 (a2.length : Int)) (x_len_slice (n := a2.length) Try.underlying34 rfl) rfl ?_
          refine W_v (.bool (decide (x289 < (a2.length : Int)))) (x_ibin rfl rfl rfl rfl) rfl ?_
          refine Wl_nil ?_
          refine tn ?_
          rcases iteS H with ⟨hb336, H⟩ | ⟨hb336, H⟩
          · refine Wp_cond_true (congrArg Value.bool hb336) ?_
            refine Wp_skip ?_
            refine tn ?_
            refine Wp_seq ?_
            refine Wp_block ?_
            refine Wp_region_lit ?_
            refine W_v (.slice A2 a2.length c2) (x_move rfl) rfl ?_
            refine W_v (.int .i64 x289) (x_move rfl) rfl ?_
            obtain ⟨⟨p337, p338⟩, H⟩ := chkS H
            obtain ⟨b339, o340, cs341, _, _, ee346, hb342, vs343, hR344, hc345⟩ := SlW.at' hr2 p337 p338
            obtain ⟨v350, hs349, rfl⟩ := hR344
            obtain ⟨A347, c348, rfl, _⟩ := hs349.form
            refine W_v (.pointer (some ⟨b339, o340 + x289.toNat * 6, none⟩)) (x_indexAddr Try.underlying34 ty40 (slA ee346) rfl p337 p338) rfl ?_
            refine W_v (.agg #[.int .u8 ((rd a2 x289).What), .int .i64 ((rd a2 x289).Task), .int .i64 ((rd a2 x289).Answer.Err), .bool ((rd a2 x289).Answer.Found), .string (bs ((rd a2 x289).Answer.Value)), .slice A347 ((rd a2 x289).Answer.Pairs).length c348]) (x_loadA (S.frz hb342) ty40 rfl (sub_el hc345 0 rfl) rfl rfl) rfl ?_
            refine W_v (.pointer (some ⟨b200, 0, none⟩)) (x_move rfl) rfl ?_
            obtain ⟨t351, ht352, H⟩ := bindS H
            replace S : St w333 M334 F [Blk b200 (.cells #[.slice A291 x290.length c292, .slice A295 x294.length c296] 73 (0, 0)), Row r_event_task 70 (.slice A291 x290.length c292) x290, Row r_api_Event 32 (.slice A295 x294.length c296) x294, Row r_api_Event 32 (.slice A213 t211.length c214) t211, Blk b41 (.cells #[.slice A158 x157.length c159, .slice A162 x161.length c163] 73 (0, 0)), Row r_event_task 70 (.slice A158 x157.length c159) x157, Row r_api_Event 32 (.slice A162 x161.length c163) x161] := S.pick [6, 1, 0, 2, 3, 4, 5] (by decide)
            refine W_call fn16 (ferrymanlaw06_Step_do_POO.con k M334 A347 c348 (rd a2 x289) A291 c292 A295 c296 (⟨x290, x294⟩ : event_Recorder) b200 t351 hs349 ht352) (Γ1 := [Blk b200 (.cells #[.slice A291 x290.length c292, .slice A295 x294.length c296] 73 (0, 0)), Row r_event_task 70 (.slice A291 x290.length c292) x290, Row r_api_Event 32 (.slice A295 x294.length c296) x294]) (Γ2 := [Row r_api_Event 32 (.slice A213 t211.length c214) t211, Blk b41 (.cells #[.slice A158 x157.length c159, .slice A162 x161.length c163] 73 (0, 0)), Row r_event_task 70 (.slice A158 x157.length c159) x157, Row r_api_Event 32 (.slice A162 x161.length c163) x161]) S rfl rfl ?_
            rintro _ w359 M360 Γ' hM361 E' S ⟨A353, c354, A356, c357, rfl, rfl⟩
            replace HM := Hp.le_trans HM hM361
            replace hM197 := Hp.le_trans hM197 hM361
            replace hM335 := Hp.le_trans hM335 hM361
            replace hr1 := SlR.mono hr1 hM361
            replace hr2 := SlR.mono hr2 hM361
            replace hb342 := hM361 _ _ hb342
            replace hs349 := SlR.mono hs349 hM361
            replace E := E.trans E'
            clear E'
            replace S : St w359 M360 F [Blk b200 (.cells #[.slice A353 t351.2.tasks.length c354, .slice A356 t351.2.l.length c357] 73 (0, 0)), Row r_event_task 70 (.slice A353 t351.2.tasks.length c354) t351.2.tasks, Row r_api_Event 32 (.slice A356 t351.2.l.length c357) t351.2.l, Row r_api_Event 32 (.slice A213 t211.length c214) t211, Blk b41 (.cells #[.slice A158 x157.length c159, .slice A162 x161.length c163] 73 (0, 0)), Row r_event_task 70 (.slice A158 x157.length c159) x157, Row r_api_Event 32 (.slice A162 x161.length c163) x161] := S
            refine Wl_nil ?_
            refine bn ?_
            refine tn ?_
            refine Wp_region_lit ?_
            refine W_v (.int .i64 x289) (x_move rfl) rfl ?_
            refine W_v (.int .i64 (IntKind.i64.wrap (x289 + (1 : Int)))) (x_ibin rfl rfl rfl rfl) rfl ?_
            refine W_v (.int .i64 (IntKind.i64.wrap (x289 + (1 : Int)))) (x_assign rfl) rfl ?_
            refine Wl_nil ?_
            refine tn ?_
            exact ⟨k, Nat.lt_succ_self k, ⟨(IntKind.i64.wrap (x289 + (1 : Int))), t351.2.tasks, t351.2.l, A353, c354, A356, c357, M360, H, ⟨rfl, rfl, rfl, rfl, rfl, trivial⟩, hM335, E, S.pick [2, 1, 3, 4, 5, 6, 0] (by decide)⟩⟩
          refine Wp_cond_false (congrArg Value.bool hb336) ?_
          refine Wp_exit ?_
          refine tx (tx (bsm (?_)))
          refine tn ?_
          exact ⟨x290, x294, A291, c292, A295, c296, M334, Option.some.inj H, ⟨rfl, rfl, rfl, rfl, trivial⟩, hM335, E, S.pick [0, 1, 2, 3, 4, 5, 6] (by decide)⟩
    clear o332h
    rintro ρ w362 ⟨x324, x328, A325, c326, A329, c330, M363, rfl, hρ, hM364, E, S⟩
    rw [agree_eta hρ]
    clear hρ
    replace HM := Hp.le_trans HM hM364
    replace hM197 := Hp.le_trans hM197 hM364
    replace hr1 := SlR.mono hr1 hM364
    replace hr2 := SlR.mono hr2 hM364
    have H := o332H
    clear o332H
    refine tn ?_
    refine Wp_seq ?_
    refine Wp_seq ?_
    refine Wp_region_lit ?_
    refine W_v (.pointer (some ⟨b41, 0, none⟩)) (x_move rfl) rfl ?_
    obtain ⟨t365, ht366, H⟩ := bindS H
    replace S : St w362 M363 F [Blk b41 (.cells #[.slice A158 x157.length c159, .slice A162 x161.length c163] 73 (0, 0)), Row r_event_task 70 (.slice A158 x157.length c159) x157, Row r_api_Event 32 (.slice A162 x161.length c163) x161, Row r_api_Event 32 (.slice A329 x328.length c330) x328, Row r_event_task 70 (.slice A325 x324.length c326) x324, Row r_api_Event 32 (.slice A213 t211.length c214) t211, Blk b200 (.cells #[.slice A325 x324.length c326, .slice A329 x328.length c330] 73 (0, 0))] := S.pick [3, 4, 5, 0, 1, 2, 6] (by decide)
    refine W_call fn19 (event_Recorder_Events_POO.con k M363 A158 c159 A162 c163 (⟨x157, x161⟩ : event_Recorder) b41 t365  ht366) (Γ1 := [Blk b41 (.cells #[.slice A158 x157.length c159, .slice A162 x161.length c163] 73 (0, 0)), Row r_event_task 70 (.slice A158 x157.length c159) x157, Row r_api_Event 32 (.slice A162 x161.length c163) x161]) (Γ2 := [Row r_api_Event 32 (.slice A329 x328.length c330) x328, Row r_event_task 70 (.slice A325 x324.length c326) x324, Row r_api_Event 32 (.slice A213 t211.length c214) t211, Blk b200 (.cells #[.slice A325 x324.length c326, .slice A329 x328.length c330] 73 (0, 0))]) S rfl rfl ?_
    rintro _ w370 M371 Γ' hM372 E' S ⟨A367, c368, rfl, rfl⟩
    replace HM := Hp.le_trans HM hM372
    replace hM197 := Hp.le_trans hM197 hM372
    replace hM364 := Hp.le_trans hM364 hM372
    replace hr1 := SlR.mono hr1 hM372
    replace hr2 := SlR.mono hr2 hM372
    replace E := E.trans E'
    clear E'
    replace S : St w370 M371 F [Row r_api_Event 32 (.slice A367 t365.length c368) t365, Blk b41 (.cells #[.slice A158 x157.length c159, .slice A162 x161.length c163] 73 (0, 0)), Row r_event_task 70 (.slice A158 x157.length c159) x157, Row r_api_Event 32 (.slice A162 x161.length c163) x161, Row r_api_Event 32 (.slice A329 x328.length c330) x328, Row r_event_task 70 (.slice A325 x324.length c326) x324, Row r_api_Event 32 (.slice A213 t211.length c214) t211, Blk b200 (.cells #[.slice A325 x324.length c326, .slice A329 x328.length c330] 73 (0, 0))] := S
    refine W_v (.slice A213 t211.length c214) (x_move rfl) rfl ?_
    replace S : St w370 M371 F [Row r_api_Event 32 (.slice A367 t365.length c368) t365, Row r_api_Event 32 (.slice A213 t211.length c214) t211, Blk b41 (.cells #[.slice A158 x157.length c159, .slice A162 x161.length c163] 73 (0, 0)), Row r_event_task 70 (.slice A158 x157.length c159) x157, Row r_api_Event 32 (.slice A162 x161.length c163) x161, Row r_api_Event 32 (.slice A329 x328.length c330) x328, Row r_event_task 70 (.slice A325 x324.length c326) x324, Blk b200 (.cells #[.slice A325 x324.length c326, .slice A329 x328.length c330] 73 (0, 0))] := S.pick [0, 6, 1, 2, 3, 4, 5, 7] (by decide)
    obtain ⟨t373, ht374, H⟩ := bindS H
    refine W_callN 2 fn28 (fun h9 hs9 hd9 => event_Same.con k _ A367 c368 t365 A213 c214 t211 t373 (Sats.row hs9 hd9 0 rfl) (Sats.row hs9 hd9 1 rfl) ht374) S rfl rfl (by rintro _ _ _ ⟨_, rfl⟩; exact flat_nil) ?_
    rintro _ w375 _ Γ' E' S ⟨rfl, rfl⟩
    replace E := E.trans E'
    clear E'
    refine W_v (.bool (!t373)) (x_not rfl) rfl ?_
    refine Wl_nil ?_
    refine tn ?_
    rcases iteS H with ⟨hb376, H⟩ | ⟨hb376, H⟩
    · refine Wp_cond_true (congrArg Value.bool hb376) ?_
      refine Wp_seq ?_
      refine Wp_region_lit ?_
      refine W_v (.bool false) (x_assign rfl) rfl ?_
      refine Wl_nil ?_
      refine tn ?_
      refine Wp_ret ?_
      refine tr (?_)
      obtain rfl := Option.some.inj H
      exact ⟨_, _, _, fun w1 e1 => run_resR (vs := [.bool false]) (FA.cons (rfl) (FA.nil)), HM, E, S.pick [] (by decide), ⟨rfl, rfl⟩⟩
    refine Wp_cond_false (congrArg Value.bool hb376) ?_
    refine Wp_skip ?_
    refine tn ?_
    refine Wp_seq ?_
    refine Wp_seq ?_
    refine Wp_region_lit ?_
    refine W_v (.int .i64 0) (x_assign rfl) rfl ?_
    refine Wl_nil ?_
    refine tn ?_
    obtain ⟨o490, o490h, o490H⟩ := bindS H
    clear H
    refine Wp_blockJ (fun ρ w' => ∃ (x482 : List event_task) (x486 : List api_Event) (A483 : Option Addr) (c484 : Nat) (A487 : Option Addr) (c488 : Nat) (Mj : Hp), (x482, x486) = o490 ∧ Agree ρ [(7, .pointer (some ⟨b41, 0, none⟩)), (10, .pointer (some ⟨b200, 0, none⟩)), (11, .slice A213 t211.length c214)] ∧ M371.le Mj ∧ Ext w w' ∧ St w' Mj F [Row r_api_Event 32 (.slice A487 x486.length c488) x486, Row r_event_task 70 (.slice A483 x482.length c484) x482, Row r_api_Event 32 (.slice A213 t211.length c214) t211, Blk b41 (.cells #[.slice A483 x482.length c484, .slice A487 x486.length c488] 73 (0, 0)), Row r_api_Event 32 (.slice A329 x328.length c330) x328, Row r_event_task 70 (.slice A325 x324.length c326) x324, Blk b200 (.cells #[.slice A325 x324.length c326, .slice A329 x328.length c330] 73 (0, 0))]) ?_ ?_
    · skip
      refine Wp_loop (fun n ρ w' => ∃ (x447 : Int) (x448 : List event_task) (x452 : List api_Event) (A449 : Option Addr) (c450 : Nat) (A453 : Option Addr) (c454 : Nat) (Mj : Hp), ferrymanlaw06_EventApart_l2 a2 n x447 x448 x452 = some o490 ∧ Agree ρ [(2, .slice A2 a2.length c2), (7, .pointer (some ⟨b41, 0, none⟩)), (10, .pointer (some ⟨b200, 0, none⟩)), (11, .slice A213 t211.length c214), (13, .int .i64 x447)] ∧ M371.le Mj ∧ Ext w w' ∧ St w' Mj F [Row r_api_Event 32 (.slice A453 x452.length c454) x452, Row r_event_task 70 (.slice A449 x448.length c450) x448, Row r_api_Event 32 (.slice A213 t211.length c214) t211, Blk b41 (.cells #[.slice A449 x448.length c450, .slice A453 x452.length c454] 73 (0, 0)), Row r_api_Event 32 (.slice A329 x328.length c330) x328, Row r_event_task 70 (.slice A325 x324.length c326) x324, Blk b200 (.cells #[.slice A325 x324.length c326, .slice A329 x328.length c330] 73 (0, 0))]) k ?_ ?_
      · skip
        exact ⟨(0 : Int), x157, x161, A158, c159, A162, c163, M371, o490h, ⟨rfl, rfl, rfl, rfl, rfl, trivial⟩, (Hp.le_refl M371), E, S.pick [4, 3, 1, 2, 5, 6, 7] (by decide)⟩
      · intro n
        rintro ρ w491 ⟨x447, x448, x452, A449, c450, A453, c454, M492, H, hρ, hM493, E, S⟩
        rw [agree_eta hρ]
        clear hρ
        replace HM := Hp.le_trans HM hM493
        replace hM197 := Hp.le_trans hM197 hM493
        replace hM364 := Hp.le_trans hM364 hM493
        replace hr1 := SlR.mono hr1 hM493
        replace hr2 := SlR.mono hr2 hM493
        cases n with
        | zero => cases H
        | succ k =>
          rw [ferrymanlaw06_EventApart_l2.eq_2] at H
          refine Wp_seq ?_
          refine Wp_seq ?_
          refine Wp_region_lit ?_
          refine W_v (.int .i64 x447) (x_move rfl) rfl ?_
          refine W_v (.slice A2 a2.length c2) (x_move rfl) rfl ?_
          refine W_v (.int .i64 (a2.length : Int)) (x_len_slice (n := a2.length) Try.underlying34 rfl) rfl ?_
          refine W_v (.bool (decide (x447 < (a2.length : Int)))) (x_ibin rfl rfl rfl rfl) rfl ?_
          refine Wl_nil ?_
          refine tn ?_
          rcases iteS H with ⟨hb494, H⟩ | ⟨hb494, H⟩
          · refine Wp_cond_true (congrArg Value.bool hb494) ?_
            refine Wp_skip ?_
            refine tn ?_
            refine Wp_seq ?_
            refine Wp_block ?_
            refine Wp_region_lit ?_
            refine W_v (.slice A2 a2.length c2) (x_move rfl) rfl ?_
            refine W_v (.int .i64 x447) (x_move rfl) rfl ?_
            obtain ⟨⟨p495, p496⟩, H⟩ := chkS H
            obtain ⟨b497, o498, cs499, _, _, ee504, hb500, vs501, hR502, hc503⟩ := SlW.at' hr2 p495 p496
            obtain ⟨v508, hs507, rfl⟩ := hR502
            obtain ⟨A505, c506, rfl, _⟩ := hs507.form
            refine W_v (.pointer (some ⟨b497, o498 + x447.toNat * 6, none⟩)) (x_indexAddr Try.underlying34 ty40 (slA ee504) rfl p495 p496) rfl ?_
            refine W_v (.agg #[.int .u8 ((rd a2 x447).What), .int .i64 ((rd a2 x447).Task), .int .i64 ((rd a2 x447).Answer.Err), .bool ((rd a2 x447).Answer.Found), .string (bs ((rd a2 x447).Answer.Value)), .slice A505 ((rd a2 x447).Answer.Pairs).length c506]) (x_loadA (S.frz hb500) ty40 rfl (sub_el hc503 0 rfl) rfl rfl) rfl ?_
            refine W_v (.pointer (some ⟨b41, 0, none⟩)) (x_move rfl) rfl ?_
            obtain ⟨t509, ht510, H⟩ := bindS H
            replace S : St w491 M492 F [Blk b41 (.cells #[.slice A449 x448.length c450, .slice A453 x452.length c454] 73 (0, 0)), Row r_event_task 70 (.slice A449 x448.length c450) x448, Row r_api_Event 32 (.slice A453 x452.length c454) x452, Row r_api_Event 32 (.slice A213 t211.length c214) t211, Row r_api_Event 32 (.slice A329 x328.length c330) x328, Row r_event_task 70 (.slice A325 x324.length c326) x324, Blk b200 (.cells #[.slice A325 x324.length c326, .slice A329 x328.length c330] 73 (0, 0))] := S.pick [3, 1, 0, 2, 4, 5, 6] (by decide)
            refine W_call fn16 (ferrymanlaw06_Step_do_POO.con k M492 A505 c506 (rd a2 x447) A449 c450 A453 c454 (⟨x448, x452⟩ : event_Recorder) b41 t509 hs507 ht510) (Γ1 := [Blk b41 (.cells #[.slice A449 x448.length c450, .slice A453 x452.length c454] 73 (0, 0)), Row r_event_task 70 (.slice A449 x448.length c450) x448, Row r_api_Event 32 (.slice A453 x452.length c454) x452]) (Γ2 := [Row r_api_Event 32 (.slice A213 t211.length c214) t211, Row r_api_Event 32 (.slice A329 x328.length c330) x328, Row r_event_task 70 (.slice A325 x324.length c326) x324, Blk b200 (.cells #[.slice A325 x324.length c326, .slice A329 x328.length c330] 73 (0, 0))]) S rfl rfl ?_
            rintro _ w517 M518 Γ' hM519 E' S ⟨A511, c512, A514, c515, rfl, rfl⟩
            replace HM := Hp.le_trans HM hM519
            replace hM197 := Hp.le_trans hM197 hM519
            replace hM364 := Hp.le_trans hM364 hM519
            replace hM493 := Hp.le_trans hM493 hM519
            replace hr1 := SlR.mono hr1 hM519
            replace hr2 := SlR.mono hr2 hM519
            replace hb500 := hM519 _ _ hb500
            replace hs507 := SlR.mono hs507 hM519
            replace E := E.trans E'
            clear E'
            replace S : St w517 M518 F [Blk b41 (.cells #[.slice A511 t509.2.tasks.length c512, .slice A514 t509.2.l.length c515] 73 (0, 0)), Row r_event_task 70 (.slice A511 t509.2.tasks.length c512) t509.2.tasks, Row r_api_Event 32 (.slice A514 t509.2.l.length c515) t509.2.l, Row r_api_Event 32 (.slice A213 t211.length c214) t211, Row r_api_Event 32 (.slice A329 x328.length c330) x328, Row r_event_task 70 (.slice A325 x324.length c326) x324, Blk b200 (.cells #[.slice A325 x324.length c326, .slice A329 x328.length c330] 73 (0, 0))] := S
            refine Wl_nil ?_
            refine bn ?_
            refine tn ?_
            refine Wp_region_lit ?_
            refine W_v (.int .i64 x447) (x_move rfl) rfl ?_
            refine W_v (.int .i64 (IntKind.i64.wrap (x447 + (1 : Int)))) (x_ibin rfl rfl rfl rfl) rfl ?_
            refine W_v (.int .i64 (IntKind.i64.wrap (x447 + (1 : Int)))) (x_assign rfl) rfl ?_
            refine Wl_nil ?_
            refine tn ?_
            exact ⟨k, Nat.lt_succ_self k, ⟨(IntKind.i64.wrap (x447 + (1 : Int))), t509.2.tasks, t509.2.l, A511, c512, A514, c515, M518, H, ⟨rfl, rfl, rfl, rfl, rfl, trivial⟩, hM493, E, S.pick [2, 1, 3, 0, 4, 5, 6] (by decide)⟩⟩
          refine Wp_cond_false (congrArg Value.bool hb494) ?_
          refine Wp_exit ?_
          refine tx (tx (bsm (?_)))
          refine tn ?_
          exact ⟨x448, x452, A449, c450, A453, c454, M492, Option.some.inj H, ⟨rfl, rfl, rfl, trivial⟩, hM493, E, S.pick [0, 1, 2, 3, 4, 5, 6] (by decide)⟩
    clear o490h
    rintro ρ w520 ⟨x482, x486, A483, c484, A487, c488, M521, rfl, hρ, hM522, E, S⟩
    rw [agree_eta hρ]
    clear hρ
    replace HM := Hp.le_trans HM hM522
    replace hM197 := Hp.le_trans hM197 hM522
    replace hM364 := Hp.le_trans hM364 hM522
    replace hr1 := SlR.mono hr1 hM522
    replace hr2 := SlR.mono hr2 hM522
    have H := o490H
    clear o490H
    refine tn ?_
    refine Wp_seq ?_
    refine Wp_region_lit ?_
    refine W_v (.pointer (some ⟨b41, 0, none⟩)) (x_move rfl) rfl ?_
    obtain ⟨t523, ht524, H⟩ := bindS H
    replace S : St w520 M521 F [Blk b41 (.cells #[.slice A483 x482.length c484, .slice A487 x486.length c488] 73 (0, 0)), Row r_event_task 70 (.slice A483 x482.length c484) x482, Row r_api_Event 32 (.slice A487 x486.length c488) x486, Row r_api_Event 32 (.slice A213 t211.length c214) t211, Row r_api_Event 32 (.slice A329 x328.length c330) x328, Row r_event_task 70 (.slice A325 x324.length c326) x324, Blk b200 (.cells #[.slice A325 x324.length c326, .slice A329 x328.length c330] 73 (0, 0))] := S.pick [3, 1, 0, 2, 4, 5, 6] (by decide)
    refine W_call fn19 (event_Recorder_Events_POO.con k M521 A483 c484 A487 c488 (⟨x482, x486⟩ : event_Recorder) b41 t523  ht524) (Γ1 := [Blk b41 (.cells #[.slice A483 x482.length c484, .slice A487 x486.length c488] 73 (0, 0)), Row r_event_task 70 (.slice A483 x482.length c484) x482, Row r_api_Event 32 (.slice A487 x486.length c488) x486]) (Γ2 := [Row r_api_Event 32 (.slice A213 t211.length c214) t211, Row r_api_Event 32 (.slice A329 x328.length c330) x328, Row r_event_task 70 (.slice A325 x324.length c326) x324, Blk b200 (.cells #[.slice A325 x324.length c326, .slice A329 x328.length c330] 73 (0, 0))]) S rfl rfl ?_
    rintro _ w528 M529 Γ' hM530 E' S ⟨A525, c526, rfl, rfl⟩
    replace HM := Hp.le_trans HM hM530
    replace hM197 := Hp.le_trans hM197 hM530
    replace hM364 := Hp.le_trans hM364 hM530
    replace hM522 := Hp.le_trans hM522 hM530
    replace hr1 := SlR.mono hr1 hM530
    replace hr2 := SlR.mono hr2 hM530
    replace E := E.trans E'
    clear E'
    replace S : St w528 M529 F [Row r_api_Event 32 (.slice A525 t523.length c526) t523, Blk b41 (.cells #[.slice A483 x482.length c484, .slice A487 x486.length c488] 73 (0, 0)), Row r_event_task 70 (.slice A483 x482.length c484) x482, Row r_api_Event 32 (.slice A487 x486.length c488) x486, Row r_api_Event 32 (.slice A213 t211.length c214) t211, Row r_api_Event 32 (.slice A329 x328.length c330) x328, Row r_event_task 70 (.slice A325 x324.length c326) x324, Blk b200 (.cells #[.slice A325 x324.length c326, .slice A329 x328.length c330] 73 (0, 0))] := S
    refine W_v (.pointer (some ⟨b200, 0, none⟩)) (x_move rfl) rfl ?_
    obtain ⟨t531, ht532, H⟩ := bindS H
    replace S : St w528 M529 F [Blk b200 (.cells #[.slice A325 x324.length c326, .slice A329 x328.length c330] 73 (0, 0)), Row r_event_task 70 (.slice A325 x324.length c326) x324, Row r_api_Event 32 (.slice A329 x328.length c330) x328, Row r_api_Event 32 (.slice A525 t523.length c526) t523, Blk b41 (.cells #[.slice A483 x482.length c484, .slice A487 x486.length c488] 73 (0, 0)), Row r_event_task 70 (.slice A483 x482.length c484) x482, Row r_api_Event 32 (.slice A487 x486.length c488) x486, Row r_api_Event 32 (.slice A213 t211.length c214) t211] := S.pick [7, 6, 5, 0, 1, 2, 3, 4] (by decide)
    refine W_call fn19 (event_Recorder_Events_POO.con k M529 A325 c326 A329 c330 (⟨x324, x328⟩ : event_Recorder) b200 t531  ht532) (Γ1 := [Blk b200 (.cells #[.slice A325 x324.length c326, .slice A329 x328.length c330] 73 (0, 0)), Row r_event_task 70 (.slice A325 x324.length c326) x324, Row r_api_Event 32 (.slice A329 x328.length c330) x328]) (Γ2 := [Row r_api_Event 32 (.slice A525 t523.length c526) t523, Blk b41 (.cells #[.slice A483 x482.length c484, .slice A487 x486.length c488] 73 (0, 0)), Row r_event_task 70 (.slice A483 x482.length c484) x482, Row r_api_Event 32 (.slice A487 x486.length c488) x486, Row r_api_Event 32 (.slice A213 t211.length c214) t211]) S rfl rfl ?_
    rintro _ w536 M537 Γ' hM538 E' S ⟨A533, c534, rfl, rfl⟩
    replace HM := Hp.le_trans HM hM538
    replace hM197 := Hp.le_trans hM197 hM538
    replace hM364 := Hp.le_trans hM364 hM538
    replace hM522 := Hp.le_trans hM522 hM538
    replace hr1 := SlR.mono hr1 hM538
    replace hr2 := SlR.mono hr2 hM538
    replace E := E.trans E'
    clear E'
    replace S : St w536 M537 F [Row r_api_Event 32 (.slice A533 t531.length c534) t531, Blk b200 (.cells #[.slice A325 x324.length c326, .slice A329 x328.length c330] 73 (0, 0)), Row r_event_task 70 (.slice A325 x324.length c326) x324, Row r_api_Event 32 (.slice A329 x328.length c330) x328, Row r_api_Event 32 (.slice A525 t523.length c526) t523, Blk b41 (.cells #[.slice A483 x482.length c484, .slice A487 x486.length c488] 73 (0, 0)), Row r_event_task 70 (.slice A483 x482.length c484) x482, Row r_api_Event 32 (.slice A487 x486.length c488) x486, Row r_api_Event 32 (.slice A213 t211.length c214) t211] := S
    replace S : St w536 M537 F [Row r_api_Event 32 (.slice A525 t523.length c526) t523, Row r_api_Event 32 (.slice A533 t531.length c534) t531, Blk b200 (.cells #[.slice A325 x324.length c326, .slice A329 x328.length c330] 73 (0, 0)), Row r_event_task 70 (.slice A325 x324.length c326) x324, Row r_api_Event 32 (.slice A329 x328.length c330) x328, Blk b41 (.cells #[.slice A483 x482.length c484, .slice A487 x486.length c488] 73 (0, 0)), Row r_event_task 70 (.slice A483 x482.length c484) x482, Row r_api_Event 32 (.slice A487 x486.length c488) x486, Row r_api_Event 32 (.slice A213 t211.length c214) t211] := S.pick [4, 0, 1, 2, 3, 5, 6, 7, 8] (by decide)
    obtain ⟨t539, ht540, H⟩ := bindS H
    refine W_callN 2 fn28 (fun h9 hs9 hd9 => event_Same.con k _ A525 c526 t523 A533 c534 t531 t539 (Sats.row hs9 hd9 0 rfl) (Sats.row hs9 hd9 1 rfl) ht540) S rfl rfl (by rintro _ _ _ ⟨_, rfl⟩; exact flat_nil) ?_
    rintro _ w541 _ Γ' E' S ⟨rfl, rfl⟩
    replace E := E.trans E'
    clear E'
    refine W_v (.bool t539) (x_move rfl) rfl ?_
    obtain ⟨o582, o582h, o582H⟩ := bindS H
    clear H
    refine Wl_cutN 8 (fun ρ w' => ∃ (x581 : Bool) (Mj : Hp), (x581) = o582 ∧ Agree ρ [(90, .bool x581)] ∧ M537.le Mj ∧ Ext w w' ∧ St w' Mj F []) ?_ ?_
    · have H := o582h
      have LE583 := Hp.le_refl M537
      rcases iteS H with ⟨hb580, H⟩ | ⟨hb580, H⟩
      · skip
        refine W_yes (congrArg some hb580) ?_
        refine W_v (.slice A213 t211.length c214) (x_move rfl) rfl ?_
        refine W_yes (congrArg some hb580) ?_
        refine W_v (.pointer (some ⟨b41, 0, none⟩)) (x_move rfl) rfl ?_
        refine W_yes (congrArg some hb580) ?_
        obtain ⟨t584, ht585, H⟩ := bindS H
        replace S : St w541 M537 F [Blk b41 (.cells #[.slice A483 x482.length c484, .slice A487 x486.length c488] 73 (0, 0)), Row r_event_task 70 (.slice A483 x482.length c484) x482, Row r_api_Event 32 (.slice A487 x486.length c488) x486, Row r_api_Event 32 (.slice A525 t523.length c526) t523, Row r_api_Event 32 (.slice A533 t531.length c534) t531, Blk b200 (.cells #[.slice A325 x324.length c326, .slice A329 x328.length c330] 73 (0, 0)), Row r_event_task 70 (.slice A325 x324.length c326) x324, Row r_api_Event 32 (.slice A329 x328.length c330) x328, Row r_api_Event 32 (.slice A213 t211.length c214) t211] := S.pick [5, 6, 7, 0, 1, 2, 3, 4, 8] (by decide)
        refine W_call fn19 (event_Recorder_Events_POO.con k M537 A483 c484 A487 c488 (⟨x482, x486⟩ : event_Recorder) b41 t584  ht585) (Γ1 := [Blk b41 (.cells #[.slice A483 x482.length c484, .slice A487 x486.length c488] 73 (0, 0)), Row r_event_task 70 (.slice A483 x482.length c484) x482, Row r_api_Event 32 (.slice A487 x486.length c488) x486]) (Γ2 := [Row r_api_Event 32 (.slice A525 t523.length c526) t523, Row r_api_Event 32 (.slice A533 t531.length c534) t531, Blk b200 (.cells #[.slice A325 x324.length c326, .slice A329 x328.length c330] 73 (0, 0)), Row r_event_task 70 (.slice A325 x324.length c326) x324, Row r_api_Event 32 (.slice A329 x328.length c330) x328, Row r_api_Event 32 (.slice A213 t211.length c214) t211]) S rfl rfl ?_
        rintro _ w589 M590 Γ' hM591 E' S ⟨A586, c587, rfl, rfl⟩
        replace HM := Hp.le_trans HM hM591
        replace hM197 := Hp.le_trans hM197 hM591
        replace hM364 := Hp.le_trans hM364 hM591
        replace hM522 := Hp.le_trans hM522 hM591
        replace LE583 := Hp.le_trans LE583 hM591
        replace hr1 := SlR.mono hr1 hM591
        replace hr2 := SlR.mono hr2 hM591
        replace E := E.trans E'
        clear E'
        replace S : St w589 M590 F [Row r_api_Event 32 (.slice A586 t584.length c587) t584, Blk b41 (.cells #[.slice A483 x482.length c484, .slice A487 x486.length c488] 73 (0, 0)), Row r_event_task 70 (.slice A483 x482.length c484) x482, Row r_api_Event 32 (.slice A487 x486.length c488) x486, Row r_api_Event 32 (.slice A525 t523.length c526) t523, Row r_api_Event 32 (.slice A533 t531.length c534) t531, Blk b200 (.cells #[.slice A325 x324.length c326, .slice A329 x328.length c330] 73 (0, 0)), Row r_event_task 70 (.slice A325 x324.length c326) x324, Row r_api_Event 32 (.slice A329 x328.length c330) x328, Row r_api_Event 32 (.slice A213 t211.length c214) t211] := S
        refine W_yes (congrArg some hb580) ?_
        refine W_v (.slice A213 t211.length c214) (x_move rfl) rfl ?_
        refine W_yes (congrArg some hb580) ?_
        refine W_v (.int .i64 (t211.length : Int)) (x_len_slice (n := t211.length) Try.underlying22 rfl) rfl ?_
        refine W_yes (congrArg some hb580) ?_
        obtain ⟨M592, hM593, hf594, S⟩ := S.row_freeze 0 rfl
        replace HM := Hp.le_trans HM hM593
        replace hM197 := Hp.le_trans hM197 hM593
        replace hM364 := Hp.le_trans hM364 hM593
        replace hM522 := Hp.le_trans hM522 hM593
        replace LE583 := Hp.le_trans LE583 hM593
        replace hr1 := SlR.mono hr1 hM593
        replace hr2 := SlR.mono hr2 hM593
        obtain ⟨⟨p595, p596⟩, H⟩ := chkS H
        obtain ⟨hs598, hx599⟩ := sl_hi hf594 p595 p596
        refine W_v (.slice A586 (List.take (t211.length : Int).toNat t584).length c587) (hx599 Try.underlying22 ty32 rfl rfl) rfl ?_
        refine W_yes (congrArg some hb580) ?_
        replace S : St w589 M592 F [Row r_api_Event 32 (.slice A213 t211.length c214) t211, Blk b41 (.cells #[.slice A483 x482.length c484, .slice A487 x486.length c488] 73 (0, 0)), Row r_event_task 70 (.slice A483 x482.length c484) x482, Row r_api_Event 32 (.slice A487 x486.length c488) x486, Row r_api_Event 32 (.slice A525 t523.length c526) t523, Row r_api_Event 32 (.slice A533 t531.length c534) t531, Blk b200 (.cells #[.slice A325 x324.length c326, .slice A329 x328.length c330] 73 (0, 0)), Row r_event_task 70 (.slice A325 x324.length c326) x324, Row r_api_Event 32 (.slice A329 x328.length c330) x328] := S.pick [8, 0, 1, 2, 3, 4, 5, 6, 7] (by decide)
        obtain ⟨t600, ht601, H⟩ := bindS H
        refine W_callN 1 fn28 (fun h9 hs9 hd9 => event_Same.con k _ A213 c214 t211 A586 c587 (List.take (t211.length : Int).toNat t584) t600 (Sats.row hs9 hd9 0 rfl) (SlR.mono hs598 (Hp.le_union_left _ _)) ht601) S rfl rfl (by rintro _ _ _ ⟨_, rfl⟩; exact flat_nil) ?_
        rintro _ w602 _ Γ' E' S ⟨rfl, rfl⟩
        replace E := E.trans E'
        clear E'
        refine W_v (.bool t600) (x_pick (k := true) (congrArg Value.bool hb580) rfl) rfl ?_
        refine Wl_nil ?_
        exact ⟨t600, M592, Option.some.inj H, ⟨rfl, trivial⟩, LE583, E, S.pick [] (by decide)⟩
      · skip
        refine W_no (skT hb580) rfl ?_
        refine W_no (skT hb580) rfl ?_
        refine W_no (skT hb580) rfl ?_
        refine W_no (skT hb580) rfl ?_
        refine W_no (skT hb580) rfl ?_
        refine W_no (skT hb580) rfl ?_
        refine W_no (skT hb580) rfl ?_
        refine W_v (.bool false) (x_pick (k := false) (congrArg Value.bool hb580) rfl) rfl ?_
        refine Wl_nil ?_
        exact ⟨false, M537, Option.some.inj H, ⟨rfl, trivial⟩, (Hp.le_refl M537), E, S.pick [] (by decide)⟩
    clear o582h
    rintro ρ w603 ⟨x581, M604, rfl, hρ, hM605, E, S⟩
    rw [agree_eta hρ]
    clear hρ
    replace HM := Hp.le_trans HM hM605
    replace hM197 := Hp.le_trans hM197 hM605
    replace hM364 := Hp.le_trans hM364 hM605
    replace hM522 := Hp.le_trans hM522 hM605
    replace hr1 := SlR.mono hr1 hM605
    replace hr2 := SlR.mono hr2 hM605
    have H := o582H
    clear o582H
    refine W_v (.bool x581) (x_assign rfl) rfl ?_
    refine Wl_nil ?_
    refine tn ?_
    refine Wp_ret ?_
    obtain rfl := Option.some.inj H
    exact ⟨_, _, _, fun w1 e1 => run_resR (vs := [.bool x581]) (FA.cons (rfl) (FA.nil)), HM, E, S.pick [] (by decide), ⟨rfl, rfl⟩⟩
end Go.Proofs.Ytninegjnkkcepaa
