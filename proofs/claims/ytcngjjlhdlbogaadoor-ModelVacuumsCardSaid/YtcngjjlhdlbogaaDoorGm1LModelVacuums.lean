import Derived.Test.YtcngjjlhdlbogaaDoorGm1B
import Derived.Test.YtcngjjlhdlbogaaDoorGm1P0
import Derived.Test.YtcngjjlhdlbogaaDoorGm1P2
import Derived.Test.YtcngjjlhdlbogaaDoorGm1P3
namespace Go.Proofs.YtcngjjlhdlbogaaDoor
open Go
set_option linter.unusedVariables false
set_option linter.unusedSimpArgs false
def ferrymanlaw16_ModelVacuums_l0 (a1 : (List ferrymanlaw16_Turn)) (a2 : (List Int)) : Nat → Int → model_Model → model_Model → Option ((Bool) ⊕ (Unit))
  | 0, _, _, _ => none
  | k + 1, x6414, x6415, x6430 => (if (decide (x6414 < (a1.length : Int))) = true then (if 0 ≤ x6414 ∧ x6414 < (a1.length : Int) then (if ((rd a1 x6414).Call.Kind == (8 : Int)) = true then ferrymanlaw16_ModelVacuums_l0 a1 a2 k (IntKind.i64.wrap (x6414 + (1 : Int))) x6415 x6430 else (Option.bind (α := Bool) (if (decide (x6414 < (a2.length : Int))) = true then (if 0 ≤ x6414 ∧ x6414 < (a2.length : Int) then some (((Int.tmod (rd a2 x6414) (2 : Int)) == (1 : Int))) else none) else some (false)) (fun x9607 => (Option.bind (α := model_Model) (if x9607 = true then (Option.bind (model_Model_Do_POOOO k x6415 (0 : Int) (⟨(8 : Int), (0 : Int), ([] : Str), ([] : Str), ([] : Str), (0 : Int), (0 : Int)⟩ : api_Call)) (fun t9684 => some (t9684.2))) else some (x6415)) (fun x9666 => (if 0 ≤ x6414 ∧ x6414 < (a1.length : Int) then (if 0 ≤ x6414 ∧ x6414 < (a1.length : Int) then (if 0 ≤ x6414 ∧ x6414 < (a1.length : Int) then (if 0 ≤ x6414 ∧ x6414 < (a1.length : Int) then (Option.bind (α := Int × Bool × Str × List api_Pair × Int × Bool × Str × List api_Pair × model_Model × model_Model) (Option.bind (model_Model_Do_POOOO k x6430 ((rd a1 x6414).Task) ((rd a1 x6414).Call)) (fun t11699 => (Option.bind (model_Model_Do_POOOO k x9666 ((rd a1 x6414).Task) ((rd a1 x6414).Call)) (fun t11721 => some (t11699.1.Err, t11699.1.Found, t11699.1.Value, t11699.1.Pairs, t11721.1.Err, t11721.1.Found, t11721.1.Value, t11721.1.Pairs, t11721.2, t11699.2))))) (fun ⟨x11655, x11656, x11657, x11658, x11662, x11663, x11664, x11665, x11669, x11684⟩ => (if (x11655 == (34 : Int)) = true then some (.inl true) else (Option.bind (ferrymanref06_Answers k (⟨x11655, x11656, x11657, x11658⟩ : api_Answer) (⟨x11662, x11663, x11664, x11665⟩ : api_Answer)) (fun t12593 => (Option.bind (α := Bool) (if (!t12593) = true then some (true) else (Option.bind (model_Model_Clock_POOOO k x11684) (fun t12619 => (Option.bind (model_Model_Clock_POOOO k x11669) (fun t12624 => some ((t12619 != t12624))))))) (fun x12617 => (Option.bind (α := Bool) (if x12617 = true then some (true) else (Option.bind (model_Model_Active_POOOO k x11684) (fun t12653 => (Option.bind (model_Model_Active_POOOO k x11669) (fun t12658 => some ((t12653 != t12658))))))) (fun x12651 => (Option.bind (α := Bool) (if x12651 = true then some (true) else (Option.bind (model_Model_Retained_POOOO k x11669) (fun t12687 => (Option.bind (model_Model_Retained_POOOO k x11684) (fun t12692 => some ((decide (t12687 > t12692)))))))) (fun x12685 => (if x12685 = true then some (.inl false) else ferrymanlaw16_ModelVacuums_l0 a1 a2 k (IntKind.i64.wrap (x6414 + (1 : Int))) x11669 x11684)))))))))))) else none) else none) else none) else none)))))) else none) else some (.inr ()))
set_option maxHeartbeats 2000000 in
theorem ferrymanlaw16_ModelVacuums_l0.mono {a1 : (List ferrymanlaw16_Turn)} {a2 : (List Int)} : ∀ {kl : Nat} {x0 x1 x2}, OLe (ferrymanlaw16_ModelVacuums_l0 a1 a2 kl x0 x1 x2) (ferrymanlaw16_ModelVacuums_l0 a1 a2 (kl + 1) x0 x1 x2) := by
  intro kl
  induction kl with
  | zero => intros; exact OLe.none
  | succ kl ih =>
    intros
    rw [ferrymanlaw16_ModelVacuums_l0.eq_2, ferrymanlaw16_ModelVacuums_l0.eq_2]
    repeat' (first | with_reducible exact OLe.none | with_reducible exact OLe.some | with_reducible refine OLe.ite ?_ ?_ | with_reducible refine OLe.bind ?_ (fun _ => ?_) | with_reducible exact ferrymanref06_Answers.mono | with_reducible exact model_Model_Active_POOOO.mono | with_reducible exact model_Model_Clock_POOOO.mono | with_reducible exact model_Model_Do_POOOO.mono | with_reducible exact model_Model_Retained_POOOO.mono | exact ih | refine OLe.bind ?_ (fun _ => ?_) | refine OLe.ite ?_ ?_ | refine OLe.elim (fun _ => ?_) (fun _ => ?_) | split)
def ferrymanlaw16_ModelVacuums (k : Nat) (a0 : api_Config) (a1 : (List ferrymanlaw16_Turn)) (a2 : (List Int)) : Option (Bool) :=
  (Option.bind (ferrymanlaw16_works k ) (fun t4 => (Option.bind (α := Bool) (if (!t4) = true then some (true) else (Option.bind (ferrymanlaw16_large k a1) (fun t16 => some (t16)))) (fun x14 => (if x14 = true then (Option.bind (ferrymanlaw16_works k ) (fun t21 => some t21)) else (Option.bind (model_New_v k a0) (fun t24 => (Sum.elim (fun t26 => (Option.bind (model_New_v k a0) (fun t31 => (Sum.elim (fun t33 => some true) (fun t34 => some false)) t31))) (fun t27 => (Option.bind (model_New_v k a0) (fun t76 => (Sum.elim (fun t78 => some false) (fun t79 => (Option.bind (ferrymanlaw16_ModelVacuums_l0 a1 a2 k (0 : Int) t79 t27) (fun o9570o => Sum.elim (fun r' => some r') (fun _ => some true) o9570o)))) t76)))) t24)))))))
set_option maxHeartbeats 2000000 in
theorem ferrymanlaw16_ModelVacuums.mono {k : Nat} {a0 : api_Config} {a1 : (List ferrymanlaw16_Turn)} {a2 : (List Int)} : OLe (ferrymanlaw16_ModelVacuums k a0 a1 a2) (ferrymanlaw16_ModelVacuums (k + 1) a0 a1 a2) := by
  unfold ferrymanlaw16_ModelVacuums
  repeat' (first | with_reducible exact OLe.none | with_reducible exact OLe.some | with_reducible refine OLe.ite ?_ ?_ | with_reducible refine OLe.bind ?_ (fun _ => ?_) | with_reducible exact ferrymanlaw16_ModelVacuums_l0.mono | with_reducible exact ferrymanlaw16_large.mono | with_reducible exact ferrymanlaw16_works.mono | with_reducible exact model_New_v.mono | refine OLe.bind ?_ (fun _ => ?_) | refine OLe.ite ?_ ?_ | refine OLe.elim (fun _ => ?_) (fun _ => ?_) | split)
set_option maxHeartbeats 8000000 in
set_option maxRecDepth 100000 in
theorem ferrymanlaw16_ModelVacuums.con (k : Nat) (M : Hp) (a0 : api_Config) (A1 : Option Addr) (c1 : Nat) (a1 : (List ferrymanlaw16_Turn)) (A2 : Option Addr) (c2 : Nat) (a2 : (List Int)) (r : Bool) (hr1 : SlR r_ferrymanlaw16_Turn M (.slice A1 a1.length c1) a1) (hr2 : SlR (rInt .u8) M (.slice A2 a2.length c2) a2) (hg0 : ∃ gt fr, M 0 = some (.cells #[.nilFunc, .func (.func 124) #[] #[], .func (.func 125) #[] #[], .func (.func 126) #[] #[], .func (.func 127) #[] #[], .func (.func 128) #[] #[], .func (.func 129) #[] #[], .func (.func 130) #[] #[], .func (.func 131) #[] #[], .func (.func 132) #[] #[]] gt fr)) (h : ferrymanlaw16_ModelVacuums k a0 a1 a2 = some r) : Con Tryd.prog 5 #[.agg #[.int .i64 a0.Tasks, .int .i64 a0.Active, .int .i64 a0.Keys, .int .i64 a0.Depth, .int .i64 a0.TS, .int .i64 a0.KeyLen, .int .i64 a0.ValLen, .int .i64 a0.Fan], .slice A1 a1.length c1, .slice A2 a2.length c2] M [] (fun v M' Γ' => v = .bool r ∧ Γ' = []) := by
  refine con_of_wp Tryd.func5 rfl Tryd.ntmps5 Tryd.results5 rfl ?_
  intro w F rn S hrn
  have E := Ext.refl w
  have HM := Hp.le_refl M
  have H := h
  unfold ferrymanlaw16_ModelVacuums at H
  refine Wp_seq (Wp_region_lit ?_)
  refine W_box S #[.int .i64 a0.Tasks, .int .i64 a0.Active, .int .i64 a0.Keys, .int .i64 a0.Depth, .int .i64 a0.TS, .int .i64 a0.KeyLen, .int .i64 a0.ValLen, .int .i64 a0.Fan] rfl rfl rfl ?_
  intro b1 w2 E' S
  replace E := E.trans E'
  refine W_v (.bool false) (x_assign rfl) rfl (Wl_nil (tn (Wp_seq (Wp_seq (Wp_region_lit ?_)))))
  obtain ⟨t4, ht5, H⟩ := bindS H
  refine W_callF fn11 (ferrymanlaw16_works.con k M  t4 hg0 ht5) S rfl rfl (by rintro _ _ _ ⟨_, rfl⟩; exact flat_nil) ?_
  rintro _ w6 _ Γ' E' S ⟨rfl, rfl⟩
  replace E := E.trans E'
  refine W_v (.bool (!t4)) (x_not (b := t4) rfl) rfl (W_v (.bool (!t4)) (x_move rfl) rfl ?_)
  obtain ⟨o15, o15h, o15H⟩ := bindS H
  refine Wl_cutN 3 (fun ρ w' => ∃ (x14 : Bool), (x14) = o15 ∧ Agree ρ [(1, .slice A1 a1.length c1), (2, .slice A2 a2.length c2), (3, pt b1 0), (19, .bool x14)] ∧ Ext w w' ∧ St w' M F [B23 b1 a0]) ?_ ?_
  · have H := o15h
    rcases iteS H with ⟨hb13, H⟩ | ⟨hb13, H⟩
    · skip
      refine W_no (skF hb13) rfl (W_no (skF hb13) rfl (W_v (.bool true) (x_pick (k := true) (congrArg Value.bool hb13) rfl) rfl (Wl_nil ?_)))
      exact ⟨true, Option.some.inj H, ⟨rfl, rfl, rfl, rfl, trivial⟩, E, S.pick [0] (by decide)⟩
    · skip
      refine W_yes (congrArg some hb13) (W_v (.slice A1 a1.length c1) (x_move rfl) rfl (W_yes (congrArg some hb13) ?_))
      obtain ⟨t16, ht17, H⟩ := bindS H
      refine W_callF fn12 (ferrymanlaw16_large.con k M A1 c1 a1 t16 hr1 ht17) S rfl rfl (by rintro _ _ _ ⟨_, rfl⟩; exact flat_nil) ?_
      rintro _ w18 _ Γ' E' S ⟨rfl, rfl⟩
      replace E := E.trans E'
      refine W_v (.bool t16) (x_pick (k := false) (congrArg Value.bool hb13) rfl) rfl (Wl_nil ?_)
      exact ⟨t16, Option.some.inj H, ⟨rfl, rfl, rfl, rfl, trivial⟩, E, S.pick [0] (by decide)⟩
  as_aux_lemma =>
  rintro ρ w19 ⟨x14, rfl, hρ, E, S⟩
  rw [agree_eta hρ]
  have H := o15H
  refine Wl_nil (tn ?_)
  rcases iteS H with ⟨hb20, H⟩ | ⟨hb20, H⟩
  · refine Wp_cond_true (congrArg Value.bool hb20) ?_
    refine Wp_seq (Wp_region_lit ?_)
    obtain ⟨t21, ht22, H⟩ := bindS H
    refine W_callF fn11 (ferrymanlaw16_works.con k M  t21 hg0 ht22) S rfl rfl (by rintro _ _ _ ⟨_, rfl⟩; exact flat_nil) ?_
    rintro _ w23 _ Γ' E' S ⟨rfl, rfl⟩
    replace E := E.trans E'
    refine W_v (.bool t21) (x_assign rfl) rfl (Wl_nil (tn ?_))
    refine Wp_ret ?_
    refine tr (?_)
    obtain rfl := Option.some.inj H
    exact ⟨_, _, _, fun w1 e1 => run_resR (vs := [.bool t21]) (FA.cons (rfl) (FA.nil)), HM, E, S.pick [] (by decide), ⟨rfl, rfl⟩⟩
  refine Wp_cond_false (congrArg Value.bool hb20) (Wp_skip (tn (Wp_seq (Wp_region_lit (W_v (.agg #[.int .i64 a0.Tasks, .int .i64 a0.Active, .int .i64 a0.Keys, .int .i64 a0.Depth, .int .i64 a0.TS, .int .i64 a0.KeyLen, .int .i64 a0.ValLen, .int .i64 a0.Fan]) (x_loadA (S.blk 0 rfl) ty23 rfl (sub_of_extract rfl) rfl rfl) rfl ?_)))))
  obtain ⟨t24, ht25, H⟩ := bindS H
  rcases t24 with t26 | t27
  · skip
    replace H := elimL H
    refine W_callF2 fn13 (model_New_v.con k M a0 (Sum.inl t26)  ht25) (Γ1 := []) (Γ2 := [_]) S rfl rfl (by rintro _ _ _ ⟨rfl, rfl⟩; exact flat_nil) ?_
    rintro _ w28 _ Γ' E' S ⟨rfl, rfl⟩
    replace E := E.trans E'
    replace S : St w28 M F [_] := S
    refine W_v (.tuple #[.pointer none, .int .i64 1]) (x_move rfl) rfl (W_v (.pointer none) (x_extract rfl rfl) rfl (W_v (.int .i64 1) (x_extract rfl rfl) rfl (W_v (.pointer none) (x_assign rfl) rfl (W_v (.int .i64 1) (x_assign rfl) rfl (Wl_nil (tn (Wp_seq (Wp_region_lit (W_v (.agg #[.int .i64 a0.Tasks, .int .i64 a0.Active, .int .i64 a0.Keys, .int .i64 a0.Depth, .int .i64 a0.TS, .int .i64 a0.KeyLen, .int .i64 a0.ValLen, .int .i64 a0.Fan]) (x_loadA (S.blk 0 rfl) ty23 rfl (sub_of_extract rfl) rfl rfl) rfl ?_)))))))))
    obtain ⟨t31, ht32, H⟩ := bindS H
    rcases t31 with t33 | t34
    · skip
      replace H := elimL H
      refine W_callF2 fn13 (model_New_v.con k M a0 (Sum.inl t33)  ht32) (Γ1 := []) (Γ2 := [_]) S rfl rfl (by rintro _ _ _ ⟨rfl, rfl⟩; exact flat_nil) ?_
      rintro _ w35 _ Γ' E' S ⟨rfl, rfl⟩
      replace E := E.trans E'
      replace S : St w35 M F [_] := S
      refine W_v (.tuple #[.pointer none, .int .i64 1]) (x_move rfl) rfl (W_v (.pointer none) (x_extract rfl rfl) rfl (W_v (.int .i64 1) (x_extract rfl rfl) rfl (W_v (.pointer none) (x_assign rfl) rfl (W_v (.int .i64 1) (x_assign rfl) rfl (Wl_nil (tn (Wp_seq (Wp_seq (Wp_region_lit (W_v (.int .i64 1) (x_move rfl) rfl (W_v (.bool true) (x_ibin rfl rfl rfl rfl) rfl (W_v (.bool true) (x_move rfl) rfl (W_no (rfl) rfl (W_no (rfl) rfl (W_v (.bool true) (x_pick (k := true) rfl rfl) rfl ?_)))))))))))))))
      refine Wl_nil (tn (Wp_cond_true rfl (Wp_seq (Wp_region_lit (W_v (.int .i64 1) (x_move rfl) rfl (W_v (.int .i64 1) (x_move rfl) rfl (W_v (.bool true) (x_ibin rfl rfl rfl rfl) rfl (W_v (.bool true) (x_assign rfl) rfl (Wl_nil (tn ?_))))))))))
      refine Wp_ret ?_
      refine tr (?_)
      obtain rfl := Option.some.inj H
      exact ⟨_, _, _, fun w1 e1 => run_resR (vs := [.bool true]) (FA.cons (rfl) (FA.nil)), HM, E, S.pick [] (by decide), ⟨rfl, rfl⟩⟩
    · skip
      replace H := elimR H
      refine W_call fn13 (model_New_v.con k M a0 (Sum.inr t34)  ht32) (Γ1 := []) (Γ2 := [_]) S rfl rfl ?_
      rintro _ w54 M55 Γ' hM56 E' S ⟨b38, A40, c41, A43, c44, A46, c47, A49, c50, vs52, rfl, hm53, rfl⟩
      replace hg0 : ∃ gt fr, _ := (let ⟨gt, fr, h8⟩ := hg0; ⟨gt, fr, hM56 _ _ h8⟩)
      replace HM := Hp.le_trans HM hM56
      replace hr1 := SlR.mono hr1 hM56
      replace hr2 := SlR.mono hr2 hM56
      replace E := E.trans E'
      replace S : St w54 M55 F [_, _, _, _, _, _] := S
      refine W_v (.tuple #[pt b38 0, .int .i64 0]) (x_move rfl) rfl (W_v (pt b38 0) (x_extract rfl rfl) rfl (W_v (.int .i64 0) (x_extract rfl rfl) rfl (W_v (pt b38 0) (x_assign rfl) rfl (W_v (.int .i64 0) (x_assign rfl) rfl (Wl_nil (tn (Wp_seq (Wp_seq (Wp_region_lit (W_v (.int .i64 1) (x_move rfl) rfl (W_v (.bool true) (x_ibin rfl rfl rfl rfl) rfl (W_v (.bool true) (x_move rfl) rfl (W_no (rfl) rfl (W_no (rfl) rfl (W_v (.bool true) (x_pick (k := true) rfl rfl) rfl ?_)))))))))))))))
      refine Wl_nil (tn (Wp_cond_true rfl (Wp_seq (Wp_region_lit (W_v (.int .i64 1) (x_move rfl) rfl (W_v (.int .i64 0) (x_move rfl) rfl (W_v (.bool false) (x_ibin rfl rfl rfl rfl) rfl (W_v (.bool false) (x_assign rfl) rfl (Wl_nil (tn ?_))))))))))
      refine Wp_ret ?_
      refine tr (?_)
      obtain rfl := Option.some.inj H
      exact ⟨_, _, _, fun w1 e1 => run_resR (vs := [.bool false]) (FA.cons (rfl) (FA.nil)), HM, E, S.pick [] (by decide), ⟨rfl, rfl⟩⟩
  · skip
    replace H := elimR H
    refine W_call fn13 (model_New_v.con k M a0 (Sum.inr t27)  ht25) (Γ1 := []) (Γ2 := [_]) S rfl rfl ?_
    rintro _ w73 M74 Γ' hM75 E' S ⟨b57, A59, c60, A62, c63, A65, c66, A68, c69, vs71, rfl, hm72, rfl⟩
    replace hg0 : ∃ gt fr, _ := (let ⟨gt, fr, h8⟩ := hg0; ⟨gt, fr, hM75 _ _ h8⟩)
    replace HM := Hp.le_trans HM hM75
    replace hr1 := SlR.mono hr1 hM75
    replace hr2 := SlR.mono hr2 hM75
    replace E := E.trans E'
    replace S : St w73 M74 F [_, _, _, _, _, _] := S
    refine W_v (.tuple #[pt b57 0, .int .i64 0]) (x_move rfl) rfl (W_v (pt b57 0) (x_extract rfl rfl) rfl (W_v (.int .i64 0) (x_extract rfl rfl) rfl (W_v (pt b57 0) (x_assign rfl) rfl (W_v (.int .i64 0) (x_assign rfl) rfl (Wl_nil (tn (Wp_seq (Wp_region_lit (W_v (.agg #[.int .i64 a0.Tasks, .int .i64 a0.Active, .int .i64 a0.Keys, .int .i64 a0.Depth, .int .i64 a0.TS, .int .i64 a0.KeyLen, .int .i64 a0.ValLen, .int .i64 a0.Fan]) (x_loadA (S.blk 5 rfl) ty23 rfl (sub_of_extract rfl) rfl rfl) rfl ?_)))))))))
    obtain ⟨t76, ht77, H⟩ := bindS H
    rcases t76 with t78 | t79
    · skip
      replace H := elimL H
      refine W_callF2 fn13 (model_New_v.con k M74 a0 (Sum.inl t78)  ht77) (Γ1 := []) (Γ2 := [_, _, _, _, _, _]) S rfl rfl (by rintro _ _ _ ⟨rfl, rfl⟩; exact flat_nil) ?_
      rintro _ w80 _ Γ' E' S ⟨rfl, rfl⟩
      replace E := E.trans E'
      replace S : St w80 M74 F [_, _, _, _, _, _] := S
      refine W_v (.tuple #[.pointer none, .int .i64 1]) (x_move rfl) rfl (W_v (.pointer none) (x_extract rfl rfl) rfl (W_v (.int .i64 1) (x_extract rfl rfl) rfl (W_v (.pointer none) (x_assign rfl) rfl (W_v (.int .i64 1) (x_assign rfl) rfl (Wl_nil (tn (Wp_seq (Wp_seq (Wp_region_lit (W_v (.int .i64 0) (x_move rfl) rfl (W_v (.bool false) (x_ibin rfl rfl rfl rfl) rfl (W_v (.bool false) (x_move rfl) rfl (W_yes (rfl) (W_v (.int .i64 1) (x_move rfl) rfl (W_yes (rfl) ?_)))))))))))))))
      refine W_v (.bool true) (x_ibin rfl rfl rfl rfl) rfl (W_v (.bool true) (x_pick (k := false) rfl rfl) rfl (Wl_nil (tn (Wp_cond_true rfl (Wp_seq (Wp_region_lit (W_v (.int .i64 0) (x_move rfl) rfl (W_v (.int .i64 1) (x_move rfl) rfl (W_v (.bool false) (x_ibin rfl rfl rfl rfl) rfl (W_v (.bool false) (x_assign rfl) rfl (Wl_nil (tn ?_))))))))))))
      refine Wp_ret ?_
      refine tr (?_)
      obtain rfl := Option.some.inj H
      exact ⟨_, _, _, fun w1 e1 => run_resR (vs := [.bool false]) (FA.cons (rfl) (FA.nil)), HM, E, S.pick [] (by decide), ⟨rfl, rfl⟩⟩
    · skip
      replace H := elimR H
      refine W_call fn13 (model_New_v.con k M74 a0 (Sum.inr t79)  ht77) (Γ1 := []) (Γ2 := [_, _, _, _, _, _]) S rfl rfl ?_
      rintro _ w99 M100 Γ' hM101 E' S ⟨b83, A85, c86, A88, c89, A91, c92, A94, c95, vs97, rfl, hm98, rfl⟩
      replace hg0 : ∃ gt fr, _ := (let ⟨gt, fr, h8⟩ := hg0; ⟨gt, fr, hM101 _ _ h8⟩)
      replace HM := Hp.le_trans HM hM101
      replace hr1 := SlR.mono hr1 hM101
      replace hr2 := SlR.mono hr2 hM101
      replace hm72 := MRel.mono hm72 hM101
      replace E := E.trans E'
      replace S : St w99 M100 F [_, _, _, _, _, _, _, _, _, _, _] := S
      refine W_v (.tuple #[pt b83 0, .int .i64 0]) (x_move rfl) rfl (W_v (pt b83 0) (x_extract rfl rfl) rfl (W_v (.int .i64 0) (x_extract rfl rfl) rfl (W_v (pt b83 0) (x_assign rfl) rfl (W_v (.int .i64 0) (x_assign rfl) rfl (Wl_nil (tn (Wp_seq (Wp_seq (Wp_region_lit (W_v (.int .i64 0) (x_move rfl) rfl (W_v (.bool false) (x_ibin rfl rfl rfl rfl) rfl (W_v (.bool false) (x_move rfl) rfl (W_yes (rfl) (W_v (.int .i64 0) (x_move rfl) rfl (W_yes (rfl) ?_)))))))))))))))
      refine W_v (.bool false) (x_ibin rfl rfl rfl rfl) rfl (W_v (.bool false) (x_pick (k := false) rfl rfl) rfl (Wl_nil (tn (Wp_cond_false rfl (Wp_skip (tn (Wp_seq (Wp_seq (Wp_region_lit (W_v (.int .i64 0) (x_assign rfl) rfl (Wl_nil (tn ?_))))))))))))
      obtain ⟨o9570, o9570h, o9570H⟩ := bindS H
      refine Wp_blockJ (fun ρ w' => ∃ (Mj : Hp), .inr () = o9570 ∧ Agree ρ [] ∧ M100.le Mj ∧ Ext w w' ∧ St w' Mj F []) ?_ ?_
      · skip
        refine Wp_loop (fun n ρ w' => ∃ (x6414 : Int) (x6415 : model_Model) (x6430 : model_Model) (A6416 : Option Addr) (c6417 : Nat) (A6419 : Option Addr) (c6420 : Nat) (A6422 : Option Addr) (c6423 : Nat) (A6425 : Option Addr) (c6426 : Nat) (vs6428 : List (Str × Value)) (A6431 : Option Addr) (c6432 : Nat) (A6434 : Option Addr) (c6435 : Nat) (A6437 : Option Addr) (c6438 : Nat) (A6440 : Option Addr) (c6441 : Nat) (vs6443 : List (Str × Value)) (Mj : Hp), ferrymanlaw16_ModelVacuums_l0 a1 a2 n x6414 x6415 x6430 = some o9570 ∧ Agree ρ [(1, .slice A1 a1.length c1), (2, .slice A2 a2.length c2), (7, pt b57 0), (9, pt b83 0), (11, .int .i64 x6414)] ∧ M100.le Mj ∧ Ext w w' ∧ St w' Mj F [MapC encS (fun v : Value => v) A6440 vs6443, Row r_model_tx 99 (.slice A6437 x6430.txs.length c6438) x6430.txs, MapC (Value.int .i64) (Value.int .i64) A6434 x6430.many, MapC enc_model_name (Value.int .i64) A6431 x6430.names, MapC encS (fun v : Value => v) A6425 vs6428, Row r_model_tx 99 (.slice A6422 x6415.txs.length c6423) x6415.txs, MapC (Value.int .i64) (Value.int .i64) A6419 x6415.many, MapC enc_model_name (Value.int .i64) A6416 x6415.names, B94 b83 x6415 A6416 A6419 A6422 c6423 A6425, B94 b57 x6430 A6431 A6434 A6437 c6438 A6440] ∧ MRel r_model_row Mj x6415.rows vs6428 ∧ MRel r_model_row Mj x6430.rows vs6443) k ?_ ?_
        · skip
          exact ⟨(0 : Int), t79, t27, A85, c86, A88, c89, A91, c92, A94, c95, vs97, A59, c60, A62, c63, A65, c66, A68, c69, vs71, M100, o9570h, ⟨rfl, rfl, rfl, rfl, rfl, trivial⟩, (Hp.le_refl M100), E, S.pick [9, 8, 7, 6, 4, 3, 2, 1, 0, 5] (by decide), hm98, hm72⟩
        · intro n
          rintro ρ w9571 ⟨x6414, x6415, x6430, A6416, c6417, A6419, c6420, A6422, c6423, A6425, c6426, vs6428, A6431, c6432, A6434, c6435, A6437, c6438, A6440, c6441, vs6443, M9572, H, hρ, hM9573, E, S, hm6429, hm6444⟩
          rw [agree_eta hρ]
          replace hg0 : ∃ gt fr, _ := (let ⟨gt, fr, h8⟩ := hg0; ⟨gt, fr, hM9573 _ _ h8⟩)
          replace HM := Hp.le_trans HM hM9573
          replace hr1 := SlR.mono hr1 hM9573
          replace hr2 := SlR.mono hr2 hM9573
          replace hm72 := MRel.mono hm72 hM9573
          replace hm98 := MRel.mono hm98 hM9573
          cases n with
          | zero => cases H
          | succ k =>
            rw [ferrymanlaw16_ModelVacuums_l0.eq_2] at H
            refine Wp_seq (Wp_seq (Wp_region_lit (W_v (.int .i64 x6414) (x_move rfl) rfl (W_v (.slice A1 a1.length c1) (x_move rfl) rfl (W_v (.int .i64 (a1.length : Int)) (x_len_slice (n := a1.length) Tryd.underlying24 rfl) rfl (W_v (.bool (decide (x6414 < (a1.length : Int)))) (x_ibin rfl rfl rfl rfl) rfl (Wl_nil (tn ?_))))))))
            rcases iteS H with ⟨hb9574, H⟩ | ⟨hb9574, H⟩
            · refine Wp_cond_true (congrArg Value.bool hb9574) ?_
              refine Wp_skip (tn (Wp_seq ?_))
              refine Wp_block ?_
              refine Wp_seq (Wp_seq (Wp_region_lit (W_v (.slice A1 a1.length c1) (x_move rfl) rfl (W_v (.int .i64 x6414) (x_move rfl) rfl ?_))))
              obtain ⟨⟨p9575, p9576⟩, H⟩ := chkS H
              obtain ⟨b9577, o9578, cs9579, _, _, ee9584, hb9580, vs9581, hR9582, hc9583⟩ := SlW.at' hr1 p9575 p9576
              obtain rfl : vs9581 = _ := hR9582
              refine W_v (.pointer (some ⟨b9577, o9578 + x6414.toNat * 8, none⟩)) (x_indexAddr Tryd.underlying24 ty39 (slA ee9584) rfl p9575 p9576) rfl (W_v (.pointer (some ⟨b9577, o9578 + x6414.toNat * 8 + 1, none⟩)) (x_fieldAddr (o := o9578 + x6414.toNat * 8) (off := 1) Tryd.underlying39 rfl ty37 rfl rfl) rfl (W_v (.pointer (some ⟨b9577, o9578 + x6414.toNat * 8 + 1, none⟩)) (x_fieldAddr (o := o9578 + x6414.toNat * 8 + 1) (off := 0) Tryd.underlying37 rfl ty5 rfl rfl) rfl (W_v (.int .u8 ((rd a1 x6414).Call.Kind)) (x_load (S.frz hb9580) ty5 rfl (hc9583 1 _ rfl)) rfl (W_v (.bool ((rd a1 x6414).Call.Kind == (8 : Int))) (x_ibin rfl rfl rfl rfl) rfl (Wl_nil (tn ?_))))))
              rcases iteS H with ⟨hb9585, H⟩ | ⟨hb9585, H⟩
              · refine Wp_cond_true (congrArg Value.bool hb9585) ?_
                refine Wp_exit ?_
                refine tx (bsm (?_))
                refine tn (Wp_region_lit (W_v (.int .i64 x6414) (x_move rfl) rfl (W_v (.int .i64 (IntKind.i64.wrap (x6414 + (1 : Int)))) (x_ibin rfl rfl rfl rfl) rfl (W_v (.int .i64 (IntKind.i64.wrap (x6414 + (1 : Int)))) (x_assign rfl) rfl (Wl_nil (tn ?_))))))
                exact ⟨k, Nat.lt_succ_self k, ⟨(IntKind.i64.wrap (x6414 + (1 : Int))), x6415, x6430, A6416, c6417, A6419, c6420, A6422, c6423, A6425, c6426, vs6428, A6431, c6432, A6434, c6435, A6437, c6438, A6440, c6441, vs6443, M9572, H, ⟨rfl, rfl, rfl, rfl, rfl, trivial⟩, hM9573, E, S.pick [0, 1, 2, 3, 4, 5, 6, 7, 8, 9] (by decide), hm6429, hm6444⟩⟩
              refine Wp_cond_false (congrArg Value.bool hb9585) (Wp_skip (tn (Wp_seq (Wp_seq (Wp_region_lit (W_v (.int .i64 x6414) (x_move rfl) rfl (W_v (.slice A2 a2.length c2) (x_move rfl) rfl (W_v (.int .i64 (a2.length : Int)) (x_len_slice (n := a2.length) Tryd.underlying55 rfl) rfl (W_v (.bool (decide (x6414 < (a2.length : Int)))) (x_ibin rfl rfl rfl rfl) rfl (W_v (.bool (decide (x6414 < (a2.length : Int)))) (x_move rfl) rfl ?_))))))))))
              obtain ⟨o9608, o9608h, o9608H⟩ := bindS H
              refine Wl_cutN 7 (fun ρ w' => ∃ (x9607 : Bool), (x9607) = o9608 ∧ Agree ρ [(1, .slice A1 a1.length c1), (2, .slice A2 a2.length c2), (7, pt b57 0), (9, pt b83 0), (11, .int .i64 x6414), (64, .bool x9607)] ∧ Ext w w' ∧ St w' M9572 F [MapC encS (fun v : Value => v) A6440 vs6443, Row r_model_tx 99 (.slice A6437 x6430.txs.length c6438) x6430.txs, MapC (Value.int .i64) (Value.int .i64) A6434 x6430.many, MapC enc_model_name (Value.int .i64) A6431 x6430.names, MapC encS (fun v : Value => v) A6425 vs6428, Row r_model_tx 99 (.slice A6422 x6415.txs.length c6423) x6415.txs, MapC (Value.int .i64) (Value.int .i64) A6419 x6415.many, MapC enc_model_name (Value.int .i64) A6416 x6415.names, B94 b83 x6415 A6416 A6419 A6422 c6423 A6425, B94 b57 x6430 A6431 A6434 A6437 c6438 A6440]) ?_ ?_
              · have H := o9608h
                rcases iteS H with ⟨hb9606, H⟩ | ⟨hb9606, H⟩
                · skip
                  refine W_yes (congrArg some hb9606) (W_v (.slice A2 a2.length c2) (x_move rfl) rfl (W_yes (congrArg some hb9606) (W_v (.int .i64 x6414) (x_move rfl) rfl (W_yes (congrArg some hb9606) ?_))))
                  obtain ⟨⟨p9609, p9610⟩, H⟩ := chkS H
                  obtain ⟨b9611, o9612, cs9613, _, _, ee9618, hb9614, vs9615, hR9616, hc9617⟩ := SlW.at' hr2 p9609 p9610
                  obtain rfl : vs9615 = _ := hR9616
                  refine W_v (.pointer (some ⟨b9611, o9612 + x6414.toNat * 1, none⟩)) (x_indexAddr Tryd.underlying55 ty5 (slA ee9618) rfl p9609 p9610) rfl (W_yes (congrArg some hb9606) (W_v (.int .u8 (rd a2 x6414)) (x_load (S.frz hb9614) ty5 rfl (hc9617 0 _ rfl)) rfl (W_yes (congrArg some hb9606) (W_v (.int .u8 (Int.tmod (rd a2 x6414) (2 : Int))) (x_rem rfl rfl (by decide)) rfl (W_yes (congrArg some hb9606) (W_v (.bool ((Int.tmod (rd a2 x6414) (2 : Int)) == (1 : Int))) (x_ibin rfl rfl rfl rfl) rfl (W_v (.bool ((Int.tmod (rd a2 x6414) (2 : Int)) == (1 : Int))) (x_pick (k := true) (congrArg Value.bool hb9606) rfl) rfl (Wl_nil ?_))))))))
                  exact ⟨((Int.tmod (rd a2 x6414) (2 : Int)) == (1 : Int)), Option.some.inj H, ⟨rfl, rfl, rfl, rfl, rfl, rfl, trivial⟩, E, S.pick [0, 1, 2, 3, 4, 5, 6, 7, 8, 9] (by decide)⟩
                · skip
                  refine W_no (skT hb9606) rfl (W_no (skT hb9606) rfl (W_no (skT hb9606) rfl (W_no (skT hb9606) rfl (W_no (skT hb9606) rfl (W_no (skT hb9606) rfl (W_v (.bool false) (x_pick (k := false) (congrArg Value.bool hb9606) rfl) rfl (Wl_nil ?_)))))))
                  exact ⟨false, Option.some.inj H, ⟨rfl, rfl, rfl, rfl, rfl, rfl, trivial⟩, E, S.pick [0, 1, 2, 3, 4, 5, 6, 7, 8, 9] (by decide)⟩
              as_aux_lemma =>
              rintro ρ w9619 ⟨x9607, rfl, hρ, E, S⟩
              rw [agree_eta hρ]
              have H := o9608H
              refine Wl_nil (tn ?_)
              obtain ⟨o9681, o9681h, o9681H⟩ := bindS H
              refine Wp_cut (fun ρ w' => ∃ (x9666 : model_Model) (A9667 : Option Addr) (c9668 : Nat) (A9670 : Option Addr) (c9671 : Nat) (A9673 : Option Addr) (c9674 : Nat) (A9676 : Option Addr) (c9677 : Nat) (vs9679 : List (Str × Value)) (Mj : Hp), (x9666) = o9681 ∧ Agree ρ [(1, .slice A1 a1.length c1), (2, .slice A2 a2.length c2), (7, pt b57 0), (9, pt b83 0), (11, .int .i64 x6414)] ∧ M9572.le Mj ∧ Ext w w' ∧ St w' Mj F [MapC encS (fun v : Value => v) A9676 vs9679, Row r_model_tx 99 (.slice A9673 x9666.txs.length c9674) x9666.txs, MapC (Value.int .i64) (Value.int .i64) A9670 x9666.many, MapC enc_model_name (Value.int .i64) A9667 x9666.names, B94 b83 x9666 A9667 A9670 A9673 c9674 A9676, MapC encS (fun v : Value => v) A6440 vs6443, Row r_model_tx 99 (.slice A6437 x6430.txs.length c6438) x6430.txs, MapC (Value.int .i64) (Value.int .i64) A6434 x6430.many, MapC enc_model_name (Value.int .i64) A6431 x6430.names, B94 b57 x6430 A6431 A6434 A6437 c6438 A6440] ∧ MRel r_model_row Mj x9666.rows vs9679) ?_ ?_
              · clear o9681H
                have H := o9681h
                have LE9682 := Hp.le_refl M9572
                rcases iteS H with ⟨hb9683, H⟩ | ⟨hb9683, H⟩
                · refine Wp_cond_true (congrArg Value.bool hb9683) ?_
                  refine Wp_region_lit (W_v (pt b83 0) (x_move rfl) rfl (W_v (.agg #[.int .u8 8, .int .i64 0, .string (bs ([] : Str)), .string (bs ([] : Str)), .string (bs ([] : Str)), .int .i64 0, .int .u8 0]) (x_build2 (pl := [(0, 1), (1, 1), (2, 1), (3, 1), (4, 1), (5, 1), (6, 1)]) #[.int .u8 8, .int .i64 0, .string (bs ([] : Str)), .string (bs ([] : Str)), .string (bs ([] : Str)), .int .i64 0, .int .u8 0] Tryd.underlying37 ty37 (by as_aux_lemma => kernel_rfl) rfl (by as_aux_lemma => kernel_rfl)) rfl ?_))
                  obtain ⟨t9684, ht9685, H⟩ := bindS H
                  replace S : St w9619 M9572 F [_, _, _, _, _, _, _, _, _, _] := S.pick [8, 7, 6, 5, 4, 0, 1, 2, 3, 9] (by decide)
                  refine W_call fn15 (model_Model_Do_POOOO.con k M9572 A6416 c6417 A6419 c6420 A6422 c6423 A6425 c6426 vs6428 x6415 (0 : Int) (⟨(8 : Int), (0 : Int), ([] : Str), ([] : Str), ([] : Str), (0 : Int), (0 : Int)⟩ : api_Call) b83 t9684 hm6429 hg0 ht9685) (Γ1 := [_, _, _, _, _]) (Γ2 := [_, _, _, _, _]) S rfl rfl ?_
                  rintro _ w9703 M9704 Γ' hM9705 E' S ⟨A9686, c9687, A9689, c9690, A9692, c9693, A9695, c9696, A9698, c9699, vs9701, rfl, hm9702, rfl⟩
                  replace hg0 : ∃ gt fr, _ := (let ⟨gt, fr, h8⟩ := hg0; ⟨gt, fr, hM9705 _ _ h8⟩)
                  replace HM := Hp.le_trans HM hM9705
                  replace hM9573 := Hp.le_trans hM9573 hM9705
                  replace LE9682 := Hp.le_trans LE9682 hM9705
                  replace hr1 := SlR.mono hr1 hM9705
                  replace hr2 := SlR.mono hr2 hM9705
                  replace hm72 := MRel.mono hm72 hM9705
                  replace hm98 := MRel.mono hm98 hM9705
                  replace hm6429 := MRel.mono hm6429 hM9705
                  replace hm6444 := MRel.mono hm6444 hM9705
                  replace hb9580 := hM9705 _ _ hb9580
                  replace E := E.trans E'
                  replace S : St w9703 M9704 F [_, _, _, _, _, _, _, _, _, _, _] := S
                  refine Wl_nil (tn ?_)
                  exact ⟨t9684.2, A9689, c9690, A9692, c9693, A9695, c9696, A9698, c9699, vs9701, M9704, Option.some.inj H, ⟨rfl, rfl, rfl, rfl, rfl, trivial⟩, LE9682, E, S.pick [5, 4, 3, 2, 1, 6, 7, 8, 9, 10] (by decide), hm9702⟩
                refine Wp_cond_false (congrArg Value.bool hb9683) (Wp_skip (tn ?_))
                exact ⟨x6415, A6416, c6417, A6419, c6420, A6422, c6423, A6425, c6426, vs6428, M9572, Option.some.inj H, ⟨rfl, rfl, rfl, rfl, rfl, trivial⟩, (Hp.le_refl M9572), E, S.pick [4, 5, 6, 7, 8, 0, 1, 2, 3, 9] (by decide), hm6429⟩
              as_aux_lemma =>
              rintro ρ w9706 ⟨x9666, A9667, c9668, A9670, c9671, A9673, c9674, A9676, c9677, vs9679, M9707, rfl, hρ, hM9708, E, S, hm9680⟩
              rw [agree_eta hρ]
              replace hg0 : ∃ gt fr, _ := (let ⟨gt, fr, h8⟩ := hg0; ⟨gt, fr, hM9708 _ _ h8⟩)
              replace HM := Hp.le_trans HM hM9708
              replace hM9573 := Hp.le_trans hM9573 hM9708
              replace hr1 := SlR.mono hr1 hM9708
              replace hr2 := SlR.mono hr2 hM9708
              replace hm72 := MRel.mono hm72 hM9708
              replace hm98 := MRel.mono hm98 hM9708
              replace hm6429 := MRel.mono hm6429 hM9708
              replace hm6444 := MRel.mono hm6444 hM9708
              replace hb9580 := hM9708 _ _ hb9580
              have H := o9681H
              refine tn (Wp_seq ?_)
              have LE11149 := Hp.le_refl M9707
              refine Wp_region_any (S := fun w' => ∃ Mx, M9707.le Mx ∧ St w' Mx F []) (L := 26) mixed ?_
              intro w11150 hw11151 E'
              replace S := S.heap hw11151
              replace E := E.trans E'
              have hr1z := hr1
              have hr2z := hr2
              have D1 : ∃ Mx, Hp.le M9707 Mx ∧ St _ Mx F [] := ⟨_, Hp.le_refl _, S.pick [] (by decide)⟩
              refine Wa_take (i := 0) rfl (by kernel_rfl) rfl rfl (pt b57 0) rfl (fun w' h' => x_move rfl) D1 (Wa_take (i := 1) rfl (by kernel_rfl) rfl rfl (.slice A1 a1.length c1) rfl (fun w' h' => x_move rfl) D1 (Wa_take (i := 2) rfl (by kernel_rfl) rfl rfl (.int .i64 x6414) rfl (fun w' h' => x_move rfl) D1 ?_))
              obtain ⟨⟨p11152, p11153⟩, H⟩ := chkS H
              obtain ⟨b11154, o11155, cs11156, _, _, ee11161, hb11157, vs11158, hR11159, hc11160⟩ := SlW.at' hr1z p11152 p11153
              obtain rfl : vs11158 = _ := hR11159
              refine Wa_take (i := 3) rfl (by kernel_rfl) rfl rfl (.pointer (some ⟨b11154, o11155 + x6414.toNat * 8, none⟩)) rfl (fun w' h' => x_indexAddr Tryd.underlying24 ty39 (slA ee11161) rfl p11152 p11153) D1 (Wa_take (i := 4) rfl (by kernel_rfl) rfl rfl (.pointer (some ⟨b11154, o11155 + x6414.toNat * 8, none⟩)) rfl (fun w' h' => x_fieldAddr (o := o11155 + x6414.toNat * 8) (off := 0) Tryd.underlying39 rfl ty3 rfl rfl) D1 (Wa_take (i := 5) rfl (by kernel_rfl) rfl rfl (.int .i64 ((rd a1 x6414).Task)) rfl (fun w' h' => x_load (cls_frz h' hb11157) ty3 rfl (hc11160 0 _ rfl)) D1 (Wa_take (i := 6) rfl (by kernel_rfl) rfl rfl (.slice A1 a1.length c1) rfl (fun w' h' => x_move rfl) D1 (Wa_take (i := 7) rfl (by kernel_rfl) rfl rfl (.int .i64 x6414) rfl (fun w' h' => x_move rfl) D1 ?_))))
              obtain ⟨⟨p11162, p11163⟩, H⟩ := chkS H
              obtain ⟨b11164, o11165, cs11166, _, _, ee11171, hb11167, vs11168, hR11169, hc11170⟩ := SlW.at' hr1z p11162 p11163
              obtain rfl : vs11168 = _ := hR11169
              refine Wa_take (i := 8) rfl (by kernel_rfl) rfl rfl (.pointer (some ⟨b11164, o11165 + x6414.toNat * 8, none⟩)) rfl (fun w' h' => x_indexAddr Tryd.underlying24 ty39 (slA ee11171) rfl p11162 p11163) D1 (Wa_take (i := 9) rfl (by kernel_rfl) rfl rfl (.pointer (some ⟨b11164, o11165 + x6414.toNat * 8 + 1, none⟩)) rfl (fun w' h' => x_fieldAddr (o := o11165 + x6414.toNat * 8) (off := 1) Tryd.underlying39 rfl ty37 rfl rfl) D1 (Wa_take (i := 10) rfl (by kernel_rfl) rfl rfl (.agg #[.int .u8 ((rd a1 x6414).Call.Kind), .int .i64 ((rd a1 x6414).Call.Tx), .string (bs ((rd a1 x6414).Call.Key)), .string (bs ((rd a1 x6414).Call.End)), .string (bs ((rd a1 x6414).Call.Value)), .int .i64 ((rd a1 x6414).Call.Limit), .int .u8 ((rd a1 x6414).Call.Engine)]) rfl (fun w' h' => x_loadA (cls_frz h' hb11167) ty37 rfl (sub_el hc11170 1 rfl) rfl rfl) D1 (Wa_take (i := 12) rfl (by kernel_rfl) rfl rfl (pt b83 0) rfl (fun w' h' => x_move rfl) D1 (Wa_take (i := 13) rfl (by kernel_rfl) rfl rfl (.slice A1 a1.length c1) rfl (fun w' h' => x_move rfl) D1 (Wa_take (i := 14) rfl (by kernel_rfl) rfl rfl (.int .i64 x6414) rfl (fun w' h' => x_move rfl) D1 ?_)))))
              obtain ⟨⟨p11172, p11173⟩, H⟩ := chkS H
              obtain ⟨b11174, o11175, cs11176, _, _, ee11181, hb11177, vs11178, hR11179, hc11180⟩ := SlW.at' hr1z p11172 p11173
              obtain rfl : vs11178 = _ := hR11179
              refine Wa_take (i := 15) rfl (by kernel_rfl) rfl rfl (.pointer (some ⟨b11174, o11175 + x6414.toNat * 8, none⟩)) rfl (fun w' h' => x_indexAddr Tryd.underlying24 ty39 (slA ee11181) rfl p11172 p11173) D1 (Wa_take (i := 16) rfl (by kernel_rfl) rfl rfl (.pointer (some ⟨b11174, o11175 + x6414.toNat * 8, none⟩)) rfl (fun w' h' => x_fieldAddr (o := o11175 + x6414.toNat * 8) (off := 0) Tryd.underlying39 rfl ty3 rfl rfl) D1 (Wa_take (i := 17) rfl (by kernel_rfl) rfl rfl (.int .i64 ((rd a1 x6414).Task)) rfl (fun w' h' => x_load (cls_frz h' hb11177) ty3 rfl (hc11180 0 _ rfl)) D1 (Wa_take (i := 18) rfl (by kernel_rfl) rfl rfl (.slice A1 a1.length c1) rfl (fun w' h' => x_move rfl) D1 (Wa_take (i := 19) rfl (by kernel_rfl) rfl rfl (.int .i64 x6414) rfl (fun w' h' => x_move rfl) D1 ?_))))
              obtain ⟨⟨p11182, p11183⟩, H⟩ := chkS H
              obtain ⟨b11184, o11185, cs11186, _, _, ee11191, hb11187, vs11188, hR11189, hc11190⟩ := SlW.at' hr1z p11182 p11183
              obtain rfl : vs11188 = _ := hR11189
              refine Wa_take (i := 20) rfl (by kernel_rfl) rfl rfl (.pointer (some ⟨b11184, o11185 + x6414.toNat * 8, none⟩)) rfl (fun w' h' => x_indexAddr Tryd.underlying24 ty39 (slA ee11191) rfl p11182 p11183) D1 (Wa_take (i := 21) rfl (by kernel_rfl) rfl rfl (.pointer (some ⟨b11184, o11185 + x6414.toNat * 8 + 1, none⟩)) rfl (fun w' h' => x_fieldAddr (o := o11185 + x6414.toNat * 8) (off := 1) Tryd.underlying39 rfl ty37 rfl rfl) D1 (Wa_take (i := 22) rfl (by kernel_rfl) rfl rfl (.agg #[.int .u8 ((rd a1 x6414).Call.Kind), .int .i64 ((rd a1 x6414).Call.Tx), .string (bs ((rd a1 x6414).Call.Key)), .string (bs ((rd a1 x6414).Call.End)), .string (bs ((rd a1 x6414).Call.Value)), .int .i64 ((rd a1 x6414).Call.Limit), .int .u8 ((rd a1 x6414).Call.Engine)]) rfl (fun w' h' => x_loadA (cls_frz h' hb11187) ty37 rfl (sub_el hc11190 1 rfl) rfl rfl) D1 ?_))
              obtain ⟨o12322, o12322h, o12322H⟩ := bindS H
              refine Wa_join (fun ρ w' => ∃ (x11655 : Int) (x11656 : Bool) (x11657 : Str) (x11658 : List api_Pair) (x11662 : Int) (x11663 : Bool) (x11664 : Str) (x11665 : List api_Pair) (x11669 : model_Model) (x11684 : model_Model) (A11659 : Option Addr) (c11660 : Nat) (A11666 : Option Addr) (c11667 : Nat) (A11670 : Option Addr) (c11671 : Nat) (A11673 : Option Addr) (c11674 : Nat) (A11676 : Option Addr) (c11677 : Nat) (A11679 : Option Addr) (c11680 : Nat) (vs11682 : List (Str × Value)) (A11685 : Option Addr) (c11686 : Nat) (A11688 : Option Addr) (c11689 : Nat) (A11691 : Option Addr) (c11692 : Nat) (A11694 : Option Addr) (c11695 : Nat) (vs11697 : List (Str × Value)) (b11651 : Nat) (b11653 : Nat) (Mj : Hp), (x11655, x11656, x11657, x11658, x11662, x11663, x11664, x11665, x11669, x11684) = o12322 ∧ Agree ρ [(1, .slice A1 a1.length c1), (2, .slice A2 a2.length c2), (7, pt b57 0), (9, pt b83 0), (11, .int .i64 x6414), (12, pt b11651 0), (13, pt b11653 0), (79, .agg #[.int .i64 x11655, .bool x11656, .string (bs x11657), .slice A11659 x11658.length c11660]), (91, .agg #[.int .i64 x11662, .bool x11663, .string (bs x11664), .slice A11666 x11665.length c11667])] ∧ M9707.le Mj ∧ Ext w w' ∧ St w' Mj F [Blk b11653 (.cells #[.int .i64 0, .bool false, .string (bs ([] : Str)), .slice none 0 0] 43 (0, 0)), Blk b11651 (.cells #[.int .i64 0, .bool false, .string (bs ([] : Str)), .slice none 0 0] 43 (0, 0)), MapC encS (fun v : Value => v) A11694 vs11697, Row r_model_tx 99 (.slice A11691 x11684.txs.length c11692) x11684.txs, MapC (Value.int .i64) (Value.int .i64) A11688 x11684.many, MapC enc_model_name (Value.int .i64) A11685 x11684.names, MapC encS (fun v : Value => v) A11679 vs11682, Row r_model_tx 99 (.slice A11676 x11669.txs.length c11677) x11669.txs, MapC (Value.int .i64) (Value.int .i64) A11673 x11669.many, MapC enc_model_name (Value.int .i64) A11670 x11669.names, Row r_api_Pair 87 (.slice A11666 x11665.length c11667) x11665, Row r_api_Pair 87 (.slice A11659 x11658.length c11660) x11658, B94 b83 x11669 A11670 A11673 A11676 c11677 A11679, B94 b57 x11684 A11685 A11688 A11691 c11692 A11694] ∧ MRel r_model_row Mj x11669.rows vs11682 ∧ MRel r_model_row Mj x11684.rows vs11697) 2 (Ls 28 [0, 1, 2, 3, 4, 5, 6, 7, 8, 9, 10, 11, 12, 13, 14, 15, 16, 17, 18, 19, 20, 21, 22, 23, 24, 25]) ?_ ?_
              rotate_left
              · intro hq12334
                refine Wa_join (fun ρ w' => ∃ (x11606 : Int) (x11607 : Bool) (x11608 : Str) (x11609 : List api_Pair) (x11613 : model_Model) (A11610 : Option Addr) (c11611 : Nat) (A11614 : Option Addr) (c11615 : Nat) (A11617 : Option Addr) (c11618 : Nat) (A11620 : Option Addr) (c11621 : Nat) (A11623 : Option Addr) (c11624 : Nat) (vs11626 : List (Str × Value)) (b11602 : Nat) (b11604 : Nat) (Mj : Hp), (Option.bind (model_Model_Do_POOOO k x9666 ((rd a1 x6414).Task) ((rd a1 x6414).Call)) (fun t12300 => some (x11606, x11607, x11608, x11609, t12300.1.Err, t12300.1.Found, t12300.1.Value, t12300.1.Pairs, t12300.2, x11613))) = some o12322 ∧ Agree ρ [(1, .slice A1 a1.length c1), (2, .slice A2 a2.length c2), (7, pt b57 0), (9, pt b83 0), (11, .int .i64 x6414), (12, pt b11602 0), (13, pt b11604 0), (79, .agg #[.int .i64 x11606, .bool x11607, .string (bs x11608), .slice A11610 x11609.length c11611]), (80, pt b83 0), (85, .int .i64 ((rd a1 x6414).Task)), (90, .agg #[.int .u8 ((rd a1 x6414).Call.Kind), .int .i64 ((rd a1 x6414).Call.Tx), .string (bs ((rd a1 x6414).Call.Key)), .string (bs ((rd a1 x6414).Call.End)), .string (bs ((rd a1 x6414).Call.Value)), .int .i64 ((rd a1 x6414).Call.Limit), .int .u8 ((rd a1 x6414).Call.Engine)])] ∧ M9707.le Mj ∧ Ext w w' ∧ St w' Mj F [Blk b11604 (.cells #[.int .i64 0, .bool false, .string (bs ([] : Str)), .slice none 0 0] 43 (0, 0)), Blk b11602 (.cells #[.int .i64 0, .bool false, .string (bs ([] : Str)), .slice none 0 0] 43 (0, 0)), MapC encS (fun v : Value => v) A11623 vs11626, Row r_model_tx 99 (.slice A11620 x11613.txs.length c11621) x11613.txs, MapC (Value.int .i64) (Value.int .i64) A11617 x11613.many, MapC enc_model_name (Value.int .i64) A11614 x11613.names, Row r_api_Pair 87 (.slice A11610 x11609.length c11611) x11609, B94 b57 x11613 A11614 A11617 A11620 c11621 A11623, MapC encS (fun v : Value => v) A9676 vs9679, Row r_model_tx 99 (.slice A9673 x9666.txs.length c9674) x9666.txs, MapC (Value.int .i64) (Value.int .i64) A9670 x9666.many, MapC enc_model_name (Value.int .i64) A9667 x9666.names, B94 b83 x9666 A9667 A9670 A9673 c9674 A9676] ∧ MRel r_model_row Mj x11613.rows vs11626) 3 (Ls 28 [0, 1, 2, 3, 4, 5, 6, 7, 8, 9, 10, 11, 12, 13, 14, 15, 16, 17, 18, 19, 20, 21, 22, 24, 25]) ?_ ?_
                · clear o12322h
                  rintro ρ w12335 ⟨x11606, x11607, x11608, x11609, x11613, A11610, c11611, A11614, c11615, A11617, c11618, A11620, c11621, A11623, c11624, vs11626, b11602, b11604, M12336, H, hρ, hM12337, E, S, hm11627⟩
                  rw [agree_eta hρ]
                  replace hg0 : ∃ gt fr, _ := (let ⟨gt, fr, h8⟩ := hg0; ⟨gt, fr, hM12337 _ _ h8⟩)
                  replace HM := Hp.le_trans HM hM12337
                  replace hM9573 := Hp.le_trans hM9573 hM12337
                  replace hM9708 := Hp.le_trans hM9708 hM12337
                  replace LE11149 := Hp.le_trans LE11149 hM12337
                  replace hr1 := SlR.mono hr1 hM12337
                  replace hr2 := SlR.mono hr2 hM12337
                  replace hm72 := MRel.mono hm72 hM12337
                  replace hm98 := MRel.mono hm98 hM12337
                  replace hm6429 := MRel.mono hm6429 hM12337
                  replace hm6444 := MRel.mono hm6444 hM12337
                  replace hb9580 := hM12337 _ _ hb9580
                  replace hm9680 := MRel.mono hm9680 hM12337
                  have LE12338 := Hp.le_refl M12336
                  refine Wa_solo (i := 23) rfl (by kernel_rfl) ?_
                  obtain ⟨t12339, ht12340, H⟩ := bindS H
                  replace S : St w12335 M12336 F [_, _, _, _, _, _, _, _, _, _, _, _, _] := S.pick [12, 11, 10, 9, 8, 0, 1, 2, 3, 4, 5, 6, 7] (by decide)
                  refine W_call fn15 (model_Model_Do_POOOO.con k M12336 A9667 c9668 A9670 c9671 A9673 c9674 A9676 c9677 vs9679 x9666 ((rd a1 x6414).Task) ((rd a1 x6414).Call) b83 t12339 hm9680 hg0 ht12340) (Γ1 := [_, _, _, _, _]) (Γ2 := [_, _, _, _, _, _, _, _]) S rfl rfl ?_
                  rintro _ w12358 M12359 Γ' hM12360 E' S ⟨A12341, c12342, A12344, c12345, A12347, c12348, A12350, c12351, A12353, c12354, vs12356, rfl, hm12357, rfl⟩
                  replace hg0 : ∃ gt fr, _ := (let ⟨gt, fr, h8⟩ := hg0; ⟨gt, fr, hM12360 _ _ h8⟩)
                  replace HM := Hp.le_trans HM hM12360
                  replace hM9573 := Hp.le_trans hM9573 hM12360
                  replace hM9708 := Hp.le_trans hM9708 hM12360
                  replace hM12337 := Hp.le_trans hM12337 hM12360
                  replace LE12338 := Hp.le_trans LE12338 hM12360
                  replace hr1 := SlR.mono hr1 hM12360
                  replace hr2 := SlR.mono hr2 hM12360
                  replace hm72 := MRel.mono hm72 hM12360
                  replace hm98 := MRel.mono hm98 hM12360
                  replace hm6429 := MRel.mono hm6429 hM12360
                  replace hm6444 := MRel.mono hm6444 hM12360
                  replace hb9580 := hM12360 _ _ hb9580
                  replace hm9680 := MRel.mono hm9680 hM12360
                  replace hm11627 := MRel.mono hm11627 hM12360
                  replace E := E.trans E'
                  replace S : St w12358 M12359 F [_, _, _, _, _, _, _, _, _, _, _, _, _, _] := S
                  refine Wl_nil (on_n ⟨.inr ⟨M12359, hM12337, (S.pick [] (by decide))⟩, ?_⟩)
                  exact hq12334 _ _ ⟨x11606, x11607, x11608, x11609, t12339.1.Err, t12339.1.Found, t12339.1.Value, t12339.1.Pairs, t12339.2, x11613, A11610, c11611, A12341, c12342, A12344, c12345, A12347, c12348, A12350, c12351, A12353, c12354, vs12356, A11614, c11615, A11617, c11618, A11620, c11621, A11623, c11624, vs11626, b11602, b11604, M12359, Option.some.inj H, ⟨rfl, rfl, rfl, rfl, rfl, rfl, rfl, rfl, rfl, trivial⟩, hM12337, E, S.pick [6, 7, 8, 9, 10, 11, 5, 4, 3, 2, 0, 12, 1, 13] (by decide), hm12357, hm11627⟩
                intro hq12333
                refine Wa_join (fun ρ w' => ∃ (x11554 : Int) (x11555 : Bool) (x11556 : Str) (x11557 : List api_Pair) (x11561 : Int) (x11562 : Bool) (x11563 : Str) (x11564 : List api_Pair) (x11568 : model_Model) (x11583 : model_Model) (A11558 : Option Addr) (c11559 : Nat) (A11565 : Option Addr) (c11566 : Nat) (A11569 : Option Addr) (c11570 : Nat) (A11572 : Option Addr) (c11573 : Nat) (A11575 : Option Addr) (c11576 : Nat) (A11578 : Option Addr) (c11579 : Nat) (vs11581 : List (Str × Value)) (A11584 : Option Addr) (c11585 : Nat) (A11587 : Option Addr) (c11588 : Nat) (A11590 : Option Addr) (c11591 : Nat) (A11593 : Option Addr) (c11594 : Nat) (vs11596 : List (Str × Value)) (b11552 : Nat) (Mj : Hp), some (x11554, x11555, x11556, x11557, x11561, x11562, x11563, x11564, x11568, x11583) = some o12322 ∧ Agree ρ [(1, .slice A1 a1.length c1), (2, .slice A2 a2.length c2), (7, pt b57 0), (9, pt b83 0), (11, .int .i64 x6414), (13, pt b11552 0), (79, .agg #[.int .i64 x11554, .bool x11555, .string (bs x11556), .slice A11558 x11557.length c11559]), (91, .agg #[.int .i64 x11561, .bool x11562, .string (bs x11563), .slice A11565 x11564.length c11566])] ∧ M9707.le Mj ∧ Ext w w' ∧ St w' Mj F [Blk b11552 (.cells #[.int .i64 0, .bool false, .string (bs ([] : Str)), .slice none 0 0] 43 (0, 0)), MapC encS (fun v : Value => v) A11593 vs11596, Row r_model_tx 99 (.slice A11590 x11583.txs.length c11591) x11583.txs, MapC (Value.int .i64) (Value.int .i64) A11587 x11583.many, MapC enc_model_name (Value.int .i64) A11584 x11583.names, MapC encS (fun v : Value => v) A11578 vs11581, Row r_model_tx 99 (.slice A11575 x11568.txs.length c11576) x11568.txs, MapC (Value.int .i64) (Value.int .i64) A11572 x11568.many, MapC enc_model_name (Value.int .i64) A11569 x11568.names, Row r_api_Pair 87 (.slice A11565 x11564.length c11566) x11564, Row r_api_Pair 87 (.slice A11558 x11557.length c11559) x11557, B94 b83 x11568 A11569 A11572 A11575 c11576 A11578, B94 b57 x11583 A11584 A11587 A11590 c11591 A11593] ∧ MRel r_model_row Mj x11568.rows vs11581 ∧ MRel r_model_row Mj x11583.rows vs11596) 3 (Ls 28 [0, 1, 2, 3, 4, 5, 6, 7, 8, 9, 10, 11, 12, 13, 14, 15, 16, 17, 18, 19, 20, 21, 22, 23, 25]) ?_ ?_
                · clear o12322h
                  rintro ρ w12361 ⟨x11554, x11555, x11556, x11557, x11561, x11562, x11563, x11564, x11568, x11583, A11558, c11559, A11565, c11566, A11569, c11570, A11572, c11573, A11575, c11576, A11578, c11579, vs11581, A11584, c11585, A11587, c11588, A11590, c11591, A11593, c11594, vs11596, b11552, M12362, H, hρ, hM12363, E, S, hm11582, hm11597⟩
                  rw [agree_eta hρ]
                  replace hg0 : ∃ gt fr, _ := (let ⟨gt, fr, h8⟩ := hg0; ⟨gt, fr, hM12363 _ _ h8⟩)
                  replace HM := Hp.le_trans HM hM12363
                  replace hM9573 := Hp.le_trans hM9573 hM12363
                  replace hM9708 := Hp.le_trans hM9708 hM12363
                  replace LE11149 := Hp.le_trans LE11149 hM12363
                  replace hr1 := SlR.mono hr1 hM12363
                  replace hr2 := SlR.mono hr2 hM12363
                  replace hm72 := MRel.mono hm72 hM12363
                  replace hm98 := MRel.mono hm98 hM12363
                  replace hm6429 := MRel.mono hm6429 hM12363
                  replace hm6444 := MRel.mono hm6444 hM12363
                  replace hb9580 := hM12363 _ _ hb9580
                  replace hm9680 := MRel.mono hm9680 hM12363
                  have LE12364 := Hp.le_refl M12362
                  refine Wa_solo (i := 24) rfl (by kernel_rfl) ?_
                  refine W_alloc S #[.int .i64 0, .bool false, .string (bs ([] : Str)), .slice none 0 0] ty43 rfl rfl ?_
                  intro b12365 w12366 E' S
                  replace E := E.trans E'
                  refine Wl_nil (on_n ⟨.inr ⟨M12362, hM12363, (S.pick [] (by decide))⟩, ?_⟩)
                  exact hq12334 _ _ ⟨x11554, x11555, x11556, x11557, x11561, x11562, x11563, x11564, x11568, x11583, A11558, c11559, A11565, c11566, A11569, c11570, A11572, c11573, A11575, c11576, A11578, c11579, vs11581, A11584, c11585, A11587, c11588, A11590, c11591, A11593, c11594, vs11596, b12365, b11552, M12362, Option.some.inj H, ⟨rfl, rfl, rfl, rfl, rfl, rfl, rfl, rfl, rfl, trivial⟩, hM12363, E, S.pick [1, 0, 2, 3, 4, 5, 6, 7, 8, 9, 10, 11, 12, 13] (by decide), hm11582, hm11597⟩
                intro hq12332
                refine Wa_join (fun ρ w' => ∃ (x11504 : Int) (x11505 : Bool) (x11506 : Str) (x11507 : List api_Pair) (x11511 : Int) (x11512 : Bool) (x11513 : Str) (x11514 : List api_Pair) (x11518 : model_Model) (x11533 : model_Model) (A11508 : Option Addr) (c11509 : Nat) (A11515 : Option Addr) (c11516 : Nat) (A11519 : Option Addr) (c11520 : Nat) (A11522 : Option Addr) (c11523 : Nat) (A11525 : Option Addr) (c11526 : Nat) (A11528 : Option Addr) (c11529 : Nat) (vs11531 : List (Str × Value)) (A11534 : Option Addr) (c11535 : Nat) (A11537 : Option Addr) (c11538 : Nat) (A11540 : Option Addr) (c11541 : Nat) (A11543 : Option Addr) (c11544 : Nat) (vs11546 : List (Str × Value)) (b11502 : Nat) (Mj : Hp), some (x11504, x11505, x11506, x11507, x11511, x11512, x11513, x11514, x11518, x11533) = some o12322 ∧ Agree ρ [(1, .slice A1 a1.length c1), (2, .slice A2 a2.length c2), (7, pt b57 0), (9, pt b83 0), (11, .int .i64 x6414), (12, pt b11502 0), (79, .agg #[.int .i64 x11504, .bool x11505, .string (bs x11506), .slice A11508 x11507.length c11509]), (91, .agg #[.int .i64 x11511, .bool x11512, .string (bs x11513), .slice A11515 x11514.length c11516])] ∧ M9707.le Mj ∧ Ext w w' ∧ St w' Mj F [Blk b11502 (.cells #[.int .i64 0, .bool false, .string (bs ([] : Str)), .slice none 0 0] 43 (0, 0)), MapC encS (fun v : Value => v) A11543 vs11546, Row r_model_tx 99 (.slice A11540 x11533.txs.length c11541) x11533.txs, MapC (Value.int .i64) (Value.int .i64) A11537 x11533.many, MapC enc_model_name (Value.int .i64) A11534 x11533.names, MapC encS (fun v : Value => v) A11528 vs11531, Row r_model_tx 99 (.slice A11525 x11518.txs.length c11526) x11518.txs, MapC (Value.int .i64) (Value.int .i64) A11522 x11518.many, MapC enc_model_name (Value.int .i64) A11519 x11518.names, Row r_api_Pair 87 (.slice A11515 x11514.length c11516) x11514, Row r_api_Pair 87 (.slice A11508 x11507.length c11509) x11507, B94 b83 x11518 A11519 A11522 A11525 c11526 A11528, B94 b57 x11533 A11534 A11537 A11540 c11541 A11543] ∧ MRel r_model_row Mj x11518.rows vs11531 ∧ MRel r_model_row Mj x11533.rows vs11546) 3 (Ls 28 [0, 1, 2, 3, 4, 5, 6, 7, 8, 9, 10, 11, 12, 13, 14, 15, 16, 17, 18, 19, 20, 21, 22, 23, 24]) ?_ ?_
                · clear o12322h
                  rintro ρ w12368 ⟨x11504, x11505, x11506, x11507, x11511, x11512, x11513, x11514, x11518, x11533, A11508, c11509, A11515, c11516, A11519, c11520, A11522, c11523, A11525, c11526, A11528, c11529, vs11531, A11534, c11535, A11537, c11538, A11540, c11541, A11543, c11544, vs11546, b11502, M12369, H, hρ, hM12370, E, S, hm11532, hm11547⟩
                  rw [agree_eta hρ]
                  replace hg0 : ∃ gt fr, _ := (let ⟨gt, fr, h8⟩ := hg0; ⟨gt, fr, hM12370 _ _ h8⟩)
                  replace HM := Hp.le_trans HM hM12370
                  replace hM9573 := Hp.le_trans hM9573 hM12370
                  replace hM9708 := Hp.le_trans hM9708 hM12370
                  replace LE11149 := Hp.le_trans LE11149 hM12370
                  replace hr1 := SlR.mono hr1 hM12370
                  replace hr2 := SlR.mono hr2 hM12370
                  replace hm72 := MRel.mono hm72 hM12370
                  replace hm98 := MRel.mono hm98 hM12370
                  replace hm6429 := MRel.mono hm6429 hM12370
                  replace hm6444 := MRel.mono hm6444 hM12370
                  replace hb9580 := hM12370 _ _ hb9580
                  replace hm9680 := MRel.mono hm9680 hM12370
                  have LE12371 := Hp.le_refl M12369
                  refine Wa_solo (i := 25) rfl (by kernel_rfl) ?_
                  refine W_alloc S #[.int .i64 0, .bool false, .string (bs ([] : Str)), .slice none 0 0] ty43 rfl rfl ?_
                  intro b12372 w12373 E' S
                  replace E := E.trans E'
                  refine Wl_nil (on_n ⟨.inr ⟨M12369, hM12370, (S.pick [] (by decide))⟩, ?_⟩)
                  exact hq12334 _ _ ⟨x11504, x11505, x11506, x11507, x11511, x11512, x11513, x11514, x11518, x11533, A11508, c11509, A11515, c11516, A11519, c11520, A11522, c11523, A11525, c11526, A11528, c11529, vs11531, A11534, c11535, A11537, c11538, A11540, c11541, A11543, c11544, vs11546, b11502, b12372, M12369, Option.some.inj H, ⟨rfl, rfl, rfl, rfl, rfl, rfl, rfl, rfl, rfl, trivial⟩, hM12370, E, S.pick [0, 1, 2, 3, 4, 5, 6, 7, 8, 9, 10, 11, 12, 13] (by decide), hm11532, hm11547⟩
                intro hq12331
                refine Wa_join (fun ρ w' => ∃ (b11476 : Nat) (b11478 : Nat) (Mj : Hp), (Option.bind (model_Model_Do_POOOO k x6430 ((rd a1 x6414).Task) ((rd a1 x6414).Call)) (fun t12247 => (Option.bind (model_Model_Do_POOOO k x9666 ((rd a1 x6414).Task) ((rd a1 x6414).Call)) (fun t12269 => some (t12247.1.Err, t12247.1.Found, t12247.1.Value, t12247.1.Pairs, t12269.1.Err, t12269.1.Found, t12269.1.Value, t12269.1.Pairs, t12269.2, t12247.2))))) = some o12322 ∧ Agree ρ [(1, .slice A1 a1.length c1), (2, .slice A2 a2.length c2), (7, pt b57 0), (9, pt b83 0), (11, .int .i64 x6414), (12, pt b11476 0), (13, pt b11478 0), (68, pt b57 0), (73, .int .i64 ((rd a1 x6414).Task)), (78, .agg #[.int .u8 ((rd a1 x6414).Call.Kind), .int .i64 ((rd a1 x6414).Call.Tx), .string (bs ((rd a1 x6414).Call.Key)), .string (bs ((rd a1 x6414).Call.End)), .string (bs ((rd a1 x6414).Call.Value)), .int .i64 ((rd a1 x6414).Call.Limit), .int .u8 ((rd a1 x6414).Call.Engine)]), (80, pt b83 0), (85, .int .i64 ((rd a1 x6414).Task)), (90, .agg #[.int .u8 ((rd a1 x6414).Call.Kind), .int .i64 ((rd a1 x6414).Call.Tx), .string (bs ((rd a1 x6414).Call.Key)), .string (bs ((rd a1 x6414).Call.End)), .string (bs ((rd a1 x6414).Call.Value)), .int .i64 ((rd a1 x6414).Call.Limit), .int .u8 ((rd a1 x6414).Call.Engine)])] ∧ M9707.le Mj ∧ Ext w w' ∧ St w' Mj F [Blk b11478 (.cells #[.int .i64 0, .bool false, .string (bs ([] : Str)), .slice none 0 0] 43 (0, 0)), Blk b11476 (.cells #[.int .i64 0, .bool false, .string (bs ([] : Str)), .slice none 0 0] 43 (0, 0)), MapC encS (fun v : Value => v) A9676 vs9679, Row r_model_tx 99 (.slice A9673 x9666.txs.length c9674) x9666.txs, MapC (Value.int .i64) (Value.int .i64) A9670 x9666.many, MapC enc_model_name (Value.int .i64) A9667 x9666.names, B94 b83 x9666 A9667 A9670 A9673 c9674 A9676, MapC encS (fun v : Value => v) A6440 vs6443, Row r_model_tx 99 (.slice A6437 x6430.txs.length c6438) x6430.txs, MapC (Value.int .i64) (Value.int .i64) A6434 x6430.many, MapC enc_model_name (Value.int .i64) A6431 x6430.names, B94 b57 x6430 A6431 A6434 A6437 c6438 A6440]) 4 (Ls 28 [0, 1, 2, 3, 4, 5, 6, 7, 8, 9, 10, 12, 13, 14, 15, 16, 17, 18, 19, 20, 21, 22, 24, 25]) ?_ ?_
                · clear o12322h
                  rintro ρ w12375 ⟨b11476, b11478, M12376, H, hρ, hM12377, E, S⟩
                  rw [agree_eta hρ]
                  replace hg0 : ∃ gt fr, _ := (let ⟨gt, fr, h8⟩ := hg0; ⟨gt, fr, hM12377 _ _ h8⟩)
                  replace HM := Hp.le_trans HM hM12377
                  replace hM9573 := Hp.le_trans hM9573 hM12377
                  replace hM9708 := Hp.le_trans hM9708 hM12377
                  replace LE11149 := Hp.le_trans LE11149 hM12377
                  replace hr1 := SlR.mono hr1 hM12377
                  replace hr2 := SlR.mono hr2 hM12377
                  replace hm72 := MRel.mono hm72 hM12377
                  replace hm98 := MRel.mono hm98 hM12377
                  replace hm6429 := MRel.mono hm6429 hM12377
                  replace hm6444 := MRel.mono hm6444 hM12377
                  replace hb9580 := hM12377 _ _ hb9580
                  replace hm9680 := MRel.mono hm9680 hM12377
                  have LE12378 := Hp.le_refl M12376
                  refine Wa_solo (i := 11) rfl (by kernel_rfl) ?_
                  obtain ⟨t12379, ht12380, H⟩ := bindS H
                  replace S : St w12375 M12376 F [_, _, _, _, _, _, _, _, _, _, _, _] := S.pick [11, 10, 9, 8, 7, 0, 1, 2, 3, 4, 5, 6] (by decide)
                  refine W_call fn15 (model_Model_Do_POOOO.con k M12376 A6431 c6432 A6434 c6435 A6437 c6438 A6440 c6441 vs6443 x6430 ((rd a1 x6414).Task) ((rd a1 x6414).Call) b57 t12379 hm6444 hg0 ht12380) (Γ1 := [_, _, _, _, _]) (Γ2 := [_, _, _, _, _, _, _]) S rfl rfl ?_
                  rintro _ w12398 M12399 Γ' hM12400 E' S ⟨A12381, c12382, A12384, c12385, A12387, c12388, A12390, c12391, A12393, c12394, vs12396, rfl, hm12397, rfl⟩
                  replace hg0 : ∃ gt fr, _ := (let ⟨gt, fr, h8⟩ := hg0; ⟨gt, fr, hM12400 _ _ h8⟩)
                  replace HM := Hp.le_trans HM hM12400
                  replace hM9573 := Hp.le_trans hM9573 hM12400
                  replace hM9708 := Hp.le_trans hM9708 hM12400
                  replace hM12377 := Hp.le_trans hM12377 hM12400
                  replace LE12378 := Hp.le_trans LE12378 hM12400
                  replace hr1 := SlR.mono hr1 hM12400
                  replace hr2 := SlR.mono hr2 hM12400
                  replace hm72 := MRel.mono hm72 hM12400
                  replace hm98 := MRel.mono hm98 hM12400
                  replace hm6429 := MRel.mono hm6429 hM12400
                  replace hm6444 := MRel.mono hm6444 hM12400
                  replace hb9580 := hM12400 _ _ hb9580
                  replace hm9680 := MRel.mono hm9680 hM12400
                  replace E := E.trans E'
                  replace S : St w12398 M12399 F [_, _, _, _, _, _, _, _, _, _, _, _, _] := S
                  refine Wl_nil (on_n ⟨.inr ⟨M12399, hM12377, (S.pick [] (by decide))⟩, ?_⟩)
                  exact hq12333 _ _ ⟨t12379.1.Err, t12379.1.Found, t12379.1.Value, t12379.1.Pairs, t12379.2, A12381, c12382, A12384, c12385, A12387, c12388, A12390, c12391, A12393, c12394, vs12396, b11476, b11478, M12399, H, ⟨rfl, rfl, rfl, rfl, rfl, rfl, rfl, rfl, rfl, rfl, rfl, trivial⟩, hM12377, E, S.pick [6, 7, 5, 4, 3, 2, 0, 1, 8, 9, 10, 11, 12] (by decide), hm12397⟩
                intro hq12330
                refine Wa_join (fun ρ w' => ∃ (x11428 : Int) (x11429 : Bool) (x11430 : Str) (x11431 : List api_Pair) (x11435 : model_Model) (A11432 : Option Addr) (c11433 : Nat) (A11436 : Option Addr) (c11437 : Nat) (A11439 : Option Addr) (c11440 : Nat) (A11442 : Option Addr) (c11443 : Nat) (A11445 : Option Addr) (c11446 : Nat) (vs11448 : List (Str × Value)) (b11426 : Nat) (Mj : Hp), (Option.bind (model_Model_Do_POOOO k x9666 ((rd a1 x6414).Task) ((rd a1 x6414).Call)) (fun t12195 => some (x11428, x11429, x11430, x11431, t12195.1.Err, t12195.1.Found, t12195.1.Value, t12195.1.Pairs, t12195.2, x11435))) = some o12322 ∧ Agree ρ [(1, .slice A1 a1.length c1), (2, .slice A2 a2.length c2), (7, pt b57 0), (9, pt b83 0), (11, .int .i64 x6414), (13, pt b11426 0), (79, .agg #[.int .i64 x11428, .bool x11429, .string (bs x11430), .slice A11432 x11431.length c11433]), (80, pt b83 0), (85, .int .i64 ((rd a1 x6414).Task)), (90, .agg #[.int .u8 ((rd a1 x6414).Call.Kind), .int .i64 ((rd a1 x6414).Call.Tx), .string (bs ((rd a1 x6414).Call.Key)), .string (bs ((rd a1 x6414).Call.End)), .string (bs ((rd a1 x6414).Call.Value)), .int .i64 ((rd a1 x6414).Call.Limit), .int .u8 ((rd a1 x6414).Call.Engine)])] ∧ M9707.le Mj ∧ Ext w w' ∧ St w' Mj F [Blk b11426 (.cells #[.int .i64 0, .bool false, .string (bs ([] : Str)), .slice none 0 0] 43 (0, 0)), MapC encS (fun v : Value => v) A11445 vs11448, Row r_model_tx 99 (.slice A11442 x11435.txs.length c11443) x11435.txs, MapC (Value.int .i64) (Value.int .i64) A11439 x11435.many, MapC enc_model_name (Value.int .i64) A11436 x11435.names, Row r_api_Pair 87 (.slice A11432 x11431.length c11433) x11431, B94 b57 x11435 A11436 A11439 A11442 c11443 A11445, MapC encS (fun v : Value => v) A9676 vs9679, Row r_model_tx 99 (.slice A9673 x9666.txs.length c9674) x9666.txs, MapC (Value.int .i64) (Value.int .i64) A9670 x9666.many, MapC enc_model_name (Value.int .i64) A9667 x9666.names, B94 b83 x9666 A9667 A9670 A9673 c9674 A9676] ∧ MRel r_model_row Mj x11435.rows vs11448) 4 (Ls 28 [0, 1, 2, 3, 4, 5, 6, 7, 8, 9, 10, 11, 12, 13, 14, 15, 16, 17, 18, 19, 20, 21, 22, 25]) ?_ ?_
                · clear o12322h
                  rintro ρ w12401 ⟨x11428, x11429, x11430, x11431, x11435, A11432, c11433, A11436, c11437, A11439, c11440, A11442, c11443, A11445, c11446, vs11448, b11426, M12402, H, hρ, hM12403, E, S, hm11449⟩
                  rw [agree_eta hρ]
                  replace hg0 : ∃ gt fr, _ := (let ⟨gt, fr, h8⟩ := hg0; ⟨gt, fr, hM12403 _ _ h8⟩)
                  replace HM := Hp.le_trans HM hM12403
                  replace hM9573 := Hp.le_trans hM9573 hM12403
                  replace hM9708 := Hp.le_trans hM9708 hM12403
                  replace LE11149 := Hp.le_trans LE11149 hM12403
                  replace hr1 := SlR.mono hr1 hM12403
                  replace hr2 := SlR.mono hr2 hM12403
                  replace hm72 := MRel.mono hm72 hM12403
                  replace hm98 := MRel.mono hm98 hM12403
                  replace hm6429 := MRel.mono hm6429 hM12403
                  replace hm6444 := MRel.mono hm6444 hM12403
                  replace hb9580 := hM12403 _ _ hb9580
                  replace hm9680 := MRel.mono hm9680 hM12403
                  have LE12404 := Hp.le_refl M12402
                  refine Wa_oneOf (rs := [23, 24]) (by kernel_rfl) (by decide) ?_
                  simp only [List.forall_mem_cons, List.not_mem_nil, false_implies, implies_true, and_true]
                  refine ⟨?_, ?_⟩
                  · refine ⟨_, rfl, ?_⟩
                    obtain ⟨t12405, ht12406, H⟩ := bindS H
                    replace S : St w12401 M12402 F [_, _, _, _, _, _, _, _, _, _, _, _] := S.pick [11, 10, 9, 8, 7, 0, 1, 2, 3, 4, 5, 6] (by decide)
                    refine W_call fn15 (model_Model_Do_POOOO.con k M12402 A9667 c9668 A9670 c9671 A9673 c9674 A9676 c9677 vs9679 x9666 ((rd a1 x6414).Task) ((rd a1 x6414).Call) b83 t12405 hm9680 hg0 ht12406) (Γ1 := [_, _, _, _, _]) (Γ2 := [_, _, _, _, _, _, _]) S rfl rfl ?_
                    rintro _ w12424 M12425 Γ' hM12426 E' S ⟨A12407, c12408, A12410, c12411, A12413, c12414, A12416, c12417, A12419, c12420, vs12422, rfl, hm12423, rfl⟩
                    replace hg0 : ∃ gt fr, _ := (let ⟨gt, fr, h8⟩ := hg0; ⟨gt, fr, hM12426 _ _ h8⟩)
                    replace HM := Hp.le_trans HM hM12426
                    replace hM9573 := Hp.le_trans hM9573 hM12426
                    replace hM9708 := Hp.le_trans hM9708 hM12426
                    replace hM12403 := Hp.le_trans hM12403 hM12426
                    replace LE12404 := Hp.le_trans LE12404 hM12426
                    replace hr1 := SlR.mono hr1 hM12426
                    replace hr2 := SlR.mono hr2 hM12426
                    replace hm72 := MRel.mono hm72 hM12426
                    replace hm98 := MRel.mono hm98 hM12426
                    replace hm6429 := MRel.mono hm6429 hM12426
                    replace hm6444 := MRel.mono hm6444 hM12426
                    replace hb9580 := hM12426 _ _ hb9580
                    replace hm9680 := MRel.mono hm9680 hM12426
                    replace hm11449 := MRel.mono hm11449 hM12426
                    replace E := E.trans E'
                    replace S : St w12424 M12425 F [_, _, _, _, _, _, _, _, _, _, _, _, _] := S
                    refine Wl_nil (on_n ⟨.inr ⟨M12425, hM12403, (S.pick [] (by decide))⟩, ?_⟩)
                    exact hq12332 _ _ ⟨x11428, x11429, x11430, x11431, t12405.1.Err, t12405.1.Found, t12405.1.Value, t12405.1.Pairs, t12405.2, x11435, A11432, c11433, A12407, c12408, A12410, c12411, A12413, c12414, A12416, c12417, A12419, c12420, vs12422, A11436, c11437, A11439, c11440, A11442, c11443, A11445, c11446, vs11448, b11426, M12425, H, ⟨rfl, rfl, rfl, rfl, rfl, rfl, rfl, rfl, trivial⟩, hM12403, E, S.pick [6, 7, 8, 9, 10, 5, 4, 3, 2, 0, 11, 1, 12] (by decide), hm12423, hm11449⟩
                  · refine ⟨_, rfl, ?_⟩
                    refine W_alloc S #[.int .i64 0, .bool false, .string (bs ([] : Str)), .slice none 0 0] ty43 rfl rfl ?_
                    intro b12427 w12428 E' S
                    replace E := E.trans E'
                    refine Wl_nil (on_n ⟨.inr ⟨M12402, hM12403, (S.pick [] (by decide))⟩, ?_⟩)
                    exact hq12333 _ _ ⟨x11428, x11429, x11430, x11431, x11435, A11432, c11433, A11436, c11437, A11439, c11440, A11442, c11443, A11445, c11446, vs11448, b12427, b11426, M12402, H, ⟨rfl, rfl, rfl, rfl, rfl, rfl, rfl, rfl, rfl, rfl, rfl, trivial⟩, hM12403, E, S.pick [1, 0, 2, 3, 4, 5, 6, 7, 8, 9, 10, 11, 12] (by decide), hm11449⟩
                intro hq12329
                refine Wa_join (fun ρ w' => ∃ (x11378 : Int) (x11379 : Bool) (x11380 : Str) (x11381 : List api_Pair) (x11385 : model_Model) (A11382 : Option Addr) (c11383 : Nat) (A11386 : Option Addr) (c11387 : Nat) (A11389 : Option Addr) (c11390 : Nat) (A11392 : Option Addr) (c11393 : Nat) (A11395 : Option Addr) (c11396 : Nat) (vs11398 : List (Str × Value)) (b11376 : Nat) (Mj : Hp), (Option.bind (model_Model_Do_POOOO k x9666 ((rd a1 x6414).Task) ((rd a1 x6414).Call)) (fun t12143 => some (x11378, x11379, x11380, x11381, t12143.1.Err, t12143.1.Found, t12143.1.Value, t12143.1.Pairs, t12143.2, x11385))) = some o12322 ∧ Agree ρ [(1, .slice A1 a1.length c1), (2, .slice A2 a2.length c2), (7, pt b57 0), (9, pt b83 0), (11, .int .i64 x6414), (12, pt b11376 0), (79, .agg #[.int .i64 x11378, .bool x11379, .string (bs x11380), .slice A11382 x11381.length c11383]), (80, pt b83 0), (85, .int .i64 ((rd a1 x6414).Task)), (90, .agg #[.int .u8 ((rd a1 x6414).Call.Kind), .int .i64 ((rd a1 x6414).Call.Tx), .string (bs ((rd a1 x6414).Call.Key)), .string (bs ((rd a1 x6414).Call.End)), .string (bs ((rd a1 x6414).Call.Value)), .int .i64 ((rd a1 x6414).Call.Limit), .int .u8 ((rd a1 x6414).Call.Engine)])] ∧ M9707.le Mj ∧ Ext w w' ∧ St w' Mj F [Blk b11376 (.cells #[.int .i64 0, .bool false, .string (bs ([] : Str)), .slice none 0 0] 43 (0, 0)), MapC encS (fun v : Value => v) A11395 vs11398, Row r_model_tx 99 (.slice A11392 x11385.txs.length c11393) x11385.txs, MapC (Value.int .i64) (Value.int .i64) A11389 x11385.many, MapC enc_model_name (Value.int .i64) A11386 x11385.names, Row r_api_Pair 87 (.slice A11382 x11381.length c11383) x11381, B94 b57 x11385 A11386 A11389 A11392 c11393 A11395, MapC encS (fun v : Value => v) A9676 vs9679, Row r_model_tx 99 (.slice A9673 x9666.txs.length c9674) x9666.txs, MapC (Value.int .i64) (Value.int .i64) A9670 x9666.many, MapC enc_model_name (Value.int .i64) A9667 x9666.names, B94 b83 x9666 A9667 A9670 A9673 c9674 A9676] ∧ MRel r_model_row Mj x11385.rows vs11398) 4 (Ls 28 [0, 1, 2, 3, 4, 5, 6, 7, 8, 9, 10, 11, 12, 13, 14, 15, 16, 17, 18, 19, 20, 21, 22, 24]) ?_ ?_
                · clear o12322h
                  rintro ρ w12430 ⟨x11378, x11379, x11380, x11381, x11385, A11382, c11383, A11386, c11387, A11389, c11390, A11392, c11393, A11395, c11396, vs11398, b11376, M12431, H, hρ, hM12432, E, S, hm11399⟩
                  rw [agree_eta hρ]
                  replace hg0 : ∃ gt fr, _ := (let ⟨gt, fr, h8⟩ := hg0; ⟨gt, fr, hM12432 _ _ h8⟩)
                  replace HM := Hp.le_trans HM hM12432
                  replace hM9573 := Hp.le_trans hM9573 hM12432
                  replace hM9708 := Hp.le_trans hM9708 hM12432
                  replace LE11149 := Hp.le_trans LE11149 hM12432
                  replace hr1 := SlR.mono hr1 hM12432
                  replace hr2 := SlR.mono hr2 hM12432
                  replace hm72 := MRel.mono hm72 hM12432
                  replace hm98 := MRel.mono hm98 hM12432
                  replace hm6429 := MRel.mono hm6429 hM12432
                  replace hm6444 := MRel.mono hm6444 hM12432
                  replace hb9580 := hM12432 _ _ hb9580
                  replace hm9680 := MRel.mono hm9680 hM12432
                  have LE12433 := Hp.le_refl M12431
                  refine Wa_oneOf (rs := [23, 25]) (by kernel_rfl) (by decide) ?_
                  simp only [List.forall_mem_cons, List.not_mem_nil, false_implies, implies_true, and_true]
                  refine ⟨?_, ?_⟩
                  · refine ⟨_, rfl, ?_⟩
                    obtain ⟨t12434, ht12435, H⟩ := bindS H
                    replace S : St w12430 M12431 F [_, _, _, _, _, _, _, _, _, _, _, _] := S.pick [11, 10, 9, 8, 7, 0, 1, 2, 3, 4, 5, 6] (by decide)
                    refine W_call fn15 (model_Model_Do_POOOO.con k M12431 A9667 c9668 A9670 c9671 A9673 c9674 A9676 c9677 vs9679 x9666 ((rd a1 x6414).Task) ((rd a1 x6414).Call) b83 t12434 hm9680 hg0 ht12435) (Γ1 := [_, _, _, _, _]) (Γ2 := [_, _, _, _, _, _, _]) S rfl rfl ?_
                    rintro _ w12453 M12454 Γ' hM12455 E' S ⟨A12436, c12437, A12439, c12440, A12442, c12443, A12445, c12446, A12448, c12449, vs12451, rfl, hm12452, rfl⟩
                    replace hg0 : ∃ gt fr, _ := (let ⟨gt, fr, h8⟩ := hg0; ⟨gt, fr, hM12455 _ _ h8⟩)
                    replace HM := Hp.le_trans HM hM12455
                    replace hM9573 := Hp.le_trans hM9573 hM12455
                    replace hM9708 := Hp.le_trans hM9708 hM12455
                    replace hM12432 := Hp.le_trans hM12432 hM12455
                    replace LE12433 := Hp.le_trans LE12433 hM12455
                    replace hr1 := SlR.mono hr1 hM12455
                    replace hr2 := SlR.mono hr2 hM12455
                    replace hm72 := MRel.mono hm72 hM12455
                    replace hm98 := MRel.mono hm98 hM12455
                    replace hm6429 := MRel.mono hm6429 hM12455
                    replace hm6444 := MRel.mono hm6444 hM12455
                    replace hb9580 := hM12455 _ _ hb9580
                    replace hm9680 := MRel.mono hm9680 hM12455
                    replace hm11399 := MRel.mono hm11399 hM12455
                    replace E := E.trans E'
                    replace S : St w12453 M12454 F [_, _, _, _, _, _, _, _, _, _, _, _, _] := S
                    refine Wl_nil (on_n ⟨.inr ⟨M12454, hM12432, (S.pick [] (by decide))⟩, ?_⟩)
                    exact hq12331 _ _ ⟨x11378, x11379, x11380, x11381, t12434.1.Err, t12434.1.Found, t12434.1.Value, t12434.1.Pairs, t12434.2, x11385, A11382, c11383, A12436, c12437, A12439, c12440, A12442, c12443, A12445, c12446, A12448, c12449, vs12451, A11386, c11387, A11389, c11390, A11392, c11393, A11395, c11396, vs11398, b11376, M12454, H, ⟨rfl, rfl, rfl, rfl, rfl, rfl, rfl, rfl, trivial⟩, hM12432, E, S.pick [6, 7, 8, 9, 10, 5, 4, 3, 2, 0, 11, 1, 12] (by decide), hm12452, hm11399⟩
                  · refine ⟨_, rfl, ?_⟩
                    refine W_alloc S #[.int .i64 0, .bool false, .string (bs ([] : Str)), .slice none 0 0] ty43 rfl rfl ?_
                    intro b12456 w12457 E' S
                    replace E := E.trans E'
                    refine Wl_nil (on_n ⟨.inr ⟨M12431, hM12432, (S.pick [] (by decide))⟩, ?_⟩)
                    exact hq12333 _ _ ⟨x11378, x11379, x11380, x11381, x11385, A11382, c11383, A11386, c11387, A11389, c11390, A11392, c11393, A11395, c11396, vs11398, b11376, b12456, M12431, H, ⟨rfl, rfl, rfl, rfl, rfl, rfl, rfl, rfl, rfl, rfl, rfl, trivial⟩, hM12432, E, S.pick [0, 1, 2, 3, 4, 5, 6, 7, 8, 9, 10, 11, 12] (by decide), hm11399⟩
                intro hq12328
                refine Wa_join (fun ρ w' => ∃ (x11325 : Int) (x11326 : Bool) (x11327 : Str) (x11328 : List api_Pair) (x11332 : Int) (x11333 : Bool) (x11334 : Str) (x11335 : List api_Pair) (x11339 : model_Model) (x11354 : model_Model) (A11329 : Option Addr) (c11330 : Nat) (A11336 : Option Addr) (c11337 : Nat) (A11340 : Option Addr) (c11341 : Nat) (A11343 : Option Addr) (c11344 : Nat) (A11346 : Option Addr) (c11347 : Nat) (A11349 : Option Addr) (c11350 : Nat) (vs11352 : List (Str × Value)) (A11355 : Option Addr) (c11356 : Nat) (A11358 : Option Addr) (c11359 : Nat) (A11361 : Option Addr) (c11362 : Nat) (A11364 : Option Addr) (c11365 : Nat) (vs11367 : List (Str × Value)) (Mj : Hp), some (x11325, x11326, x11327, x11328, x11332, x11333, x11334, x11335, x11339, x11354) = some o12322 ∧ Agree ρ [(1, .slice A1 a1.length c1), (2, .slice A2 a2.length c2), (7, pt b57 0), (9, pt b83 0), (11, .int .i64 x6414), (79, .agg #[.int .i64 x11325, .bool x11326, .string (bs x11327), .slice A11329 x11328.length c11330]), (91, .agg #[.int .i64 x11332, .bool x11333, .string (bs x11334), .slice A11336 x11335.length c11337])] ∧ M9707.le Mj ∧ Ext w w' ∧ St w' Mj F [MapC encS (fun v : Value => v) A11364 vs11367, Row r_model_tx 99 (.slice A11361 x11354.txs.length c11362) x11354.txs, MapC (Value.int .i64) (Value.int .i64) A11358 x11354.many, MapC enc_model_name (Value.int .i64) A11355 x11354.names, MapC encS (fun v : Value => v) A11349 vs11352, Row r_model_tx 99 (.slice A11346 x11339.txs.length c11347) x11339.txs, MapC (Value.int .i64) (Value.int .i64) A11343 x11339.many, MapC enc_model_name (Value.int .i64) A11340 x11339.names, Row r_api_Pair 87 (.slice A11336 x11335.length c11337) x11335, Row r_api_Pair 87 (.slice A11329 x11328.length c11330) x11328, B94 b83 x11339 A11340 A11343 A11346 c11347 A11349, B94 b57 x11354 A11355 A11358 A11361 c11362 A11364] ∧ MRel r_model_row Mj x11339.rows vs11352 ∧ MRel r_model_row Mj x11354.rows vs11367) 4 (Ls 28 [0, 1, 2, 3, 4, 5, 6, 7, 8, 9, 10, 11, 12, 13, 14, 15, 16, 17, 18, 19, 20, 21, 22, 23]) ?_ ?_
                · clear o12322h
                  rintro ρ w12459 ⟨x11325, x11326, x11327, x11328, x11332, x11333, x11334, x11335, x11339, x11354, A11329, c11330, A11336, c11337, A11340, c11341, A11343, c11344, A11346, c11347, A11349, c11350, vs11352, A11355, c11356, A11358, c11359, A11361, c11362, A11364, c11365, vs11367, M12460, H, hρ, hM12461, E, S, hm11353, hm11368⟩
                  rw [agree_eta hρ]
                  replace hg0 : ∃ gt fr, _ := (let ⟨gt, fr, h8⟩ := hg0; ⟨gt, fr, hM12461 _ _ h8⟩)
                  replace HM := Hp.le_trans HM hM12461
                  replace hM9573 := Hp.le_trans hM9573 hM12461
                  replace hM9708 := Hp.le_trans hM9708 hM12461
                  replace LE11149 := Hp.le_trans LE11149 hM12461
                  replace hr1 := SlR.mono hr1 hM12461
                  replace hr2 := SlR.mono hr2 hM12461
                  replace hm72 := MRel.mono hm72 hM12461
                  replace hm98 := MRel.mono hm98 hM12461
                  replace hm6429 := MRel.mono hm6429 hM12461
                  replace hm6444 := MRel.mono hm6444 hM12461
                  replace hb9580 := hM12461 _ _ hb9580
                  replace hm9680 := MRel.mono hm9680 hM12461
                  have LE12462 := Hp.le_refl M12460
                  refine Wa_oneOf (rs := [24, 25]) (by kernel_rfl) (by decide) ?_
                  simp only [List.forall_mem_cons, List.not_mem_nil, false_implies, implies_true, and_true]
                  refine ⟨?_, ?_⟩
                  · refine ⟨_, rfl, ?_⟩
                    refine W_alloc S #[.int .i64 0, .bool false, .string (bs ([] : Str)), .slice none 0 0] ty43 rfl rfl ?_
                    intro b12463 w12464 E' S
                    replace E := E.trans E'
                    refine Wl_nil (on_n ⟨.inr ⟨M12460, hM12461, (S.pick [] (by decide))⟩, ?_⟩)
                    exact hq12331 _ _ ⟨x11325, x11326, x11327, x11328, x11332, x11333, x11334, x11335, x11339, x11354, A11329, c11330, A11336, c11337, A11340, c11341, A11343, c11344, A11346, c11347, A11349, c11350, vs11352, A11355, c11356, A11358, c11359, A11361, c11362, A11364, c11365, vs11367, b12463, M12460, H, ⟨rfl, rfl, rfl, rfl, rfl, rfl, rfl, rfl, trivial⟩, hM12461, E, S.pick [0, 1, 2, 3, 4, 5, 6, 7, 8, 9, 10, 11, 12] (by decide), hm11353, hm11368⟩
                  · refine ⟨_, rfl, ?_⟩
                    refine W_alloc S #[.int .i64 0, .bool false, .string (bs ([] : Str)), .slice none 0 0] ty43 rfl rfl ?_
                    intro b12466 w12467 E' S
                    replace E := E.trans E'
                    refine Wl_nil (on_n ⟨.inr ⟨M12460, hM12461, (S.pick [] (by decide))⟩, ?_⟩)
                    exact hq12332 _ _ ⟨x11325, x11326, x11327, x11328, x11332, x11333, x11334, x11335, x11339, x11354, A11329, c11330, A11336, c11337, A11340, c11341, A11343, c11344, A11346, c11347, A11349, c11350, vs11352, A11355, c11356, A11358, c11359, A11361, c11362, A11364, c11365, vs11367, b12466, M12460, H, ⟨rfl, rfl, rfl, rfl, rfl, rfl, rfl, rfl, trivial⟩, hM12461, E, S.pick [0, 1, 2, 3, 4, 5, 6, 7, 8, 9, 10, 11, 12] (by decide), hm11353, hm11368⟩
                intro hq12327
                refine Wa_join (fun ρ w' => ∃ (b11298 : Nat) (Mj : Hp), (Option.bind (model_Model_Do_POOOO k x6430 ((rd a1 x6414).Task) ((rd a1 x6414).Call)) (fun t12033 => (Option.bind (model_Model_Do_POOOO k x9666 ((rd a1 x6414).Task) ((rd a1 x6414).Call)) (fun t12055 => some (t12033.1.Err, t12033.1.Found, t12033.1.Value, t12033.1.Pairs, t12055.1.Err, t12055.1.Found, t12055.1.Value, t12055.1.Pairs, t12055.2, t12033.2))))) = some o12322 ∧ Agree ρ [(1, .slice A1 a1.length c1), (2, .slice A2 a2.length c2), (7, pt b57 0), (9, pt b83 0), (11, .int .i64 x6414), (13, pt b11298 0), (68, pt b57 0), (73, .int .i64 ((rd a1 x6414).Task)), (78, .agg #[.int .u8 ((rd a1 x6414).Call.Kind), .int .i64 ((rd a1 x6414).Call.Tx), .string (bs ((rd a1 x6414).Call.Key)), .string (bs ((rd a1 x6414).Call.End)), .string (bs ((rd a1 x6414).Call.Value)), .int .i64 ((rd a1 x6414).Call.Limit), .int .u8 ((rd a1 x6414).Call.Engine)]), (80, pt b83 0), (85, .int .i64 ((rd a1 x6414).Task)), (90, .agg #[.int .u8 ((rd a1 x6414).Call.Kind), .int .i64 ((rd a1 x6414).Call.Tx), .string (bs ((rd a1 x6414).Call.Key)), .string (bs ((rd a1 x6414).Call.End)), .string (bs ((rd a1 x6414).Call.Value)), .int .i64 ((rd a1 x6414).Call.Limit), .int .u8 ((rd a1 x6414).Call.Engine)])] ∧ M9707.le Mj ∧ Ext w w' ∧ St w' Mj F [Blk b11298 (.cells #[.int .i64 0, .bool false, .string (bs ([] : Str)), .slice none 0 0] 43 (0, 0)), MapC encS (fun v : Value => v) A9676 vs9679, Row r_model_tx 99 (.slice A9673 x9666.txs.length c9674) x9666.txs, MapC (Value.int .i64) (Value.int .i64) A9670 x9666.many, MapC enc_model_name (Value.int .i64) A9667 x9666.names, B94 b83 x9666 A9667 A9670 A9673 c9674 A9676, MapC encS (fun v : Value => v) A6440 vs6443, Row r_model_tx 99 (.slice A6437 x6430.txs.length c6438) x6430.txs, MapC (Value.int .i64) (Value.int .i64) A6434 x6430.many, MapC enc_model_name (Value.int .i64) A6431 x6430.names, B94 b57 x6430 A6431 A6434 A6437 c6438 A6440]) 5 (Ls 28 [0, 1, 2, 3, 4, 5, 6, 7, 8, 9, 10, 12, 13, 14, 15, 16, 17, 18, 19, 20, 21, 22, 25]) ?_ ?_
                · clear o12322h
                  rintro ρ w12469 ⟨b11298, M12470, H, hρ, hM12471, E, S⟩
                  rw [agree_eta hρ]
                  replace hg0 : ∃ gt fr, _ := (let ⟨gt, fr, h8⟩ := hg0; ⟨gt, fr, hM12471 _ _ h8⟩)
                  replace HM := Hp.le_trans HM hM12471
                  replace hM9573 := Hp.le_trans hM9573 hM12471
                  replace hM9708 := Hp.le_trans hM9708 hM12471
                  replace LE11149 := Hp.le_trans LE11149 hM12471
                  replace hr1 := SlR.mono hr1 hM12471
                  replace hr2 := SlR.mono hr2 hM12471
                  replace hm72 := MRel.mono hm72 hM12471
                  replace hm98 := MRel.mono hm98 hM12471
                  replace hm6429 := MRel.mono hm6429 hM12471
                  replace hm6444 := MRel.mono hm6444 hM12471
                  replace hb9580 := hM12471 _ _ hb9580
                  replace hm9680 := MRel.mono hm9680 hM12471
                  have LE12472 := Hp.le_refl M12470
                  refine Wa_oneOf (rs := [11, 24]) (by kernel_rfl) (by decide) ?_
                  simp only [List.forall_mem_cons, List.not_mem_nil, false_implies, implies_true, and_true]
                  refine ⟨?_, ?_⟩
                  · refine ⟨_, rfl, ?_⟩
                    obtain ⟨t12473, ht12474, H⟩ := bindS H
                    replace S : St w12469 M12470 F [_, _, _, _, _, _, _, _, _, _, _] := S.pick [10, 9, 8, 7, 6, 0, 1, 2, 3, 4, 5] (by decide)
                    refine W_call fn15 (model_Model_Do_POOOO.con k M12470 A6431 c6432 A6434 c6435 A6437 c6438 A6440 c6441 vs6443 x6430 ((rd a1 x6414).Task) ((rd a1 x6414).Call) b57 t12473 hm6444 hg0 ht12474) (Γ1 := [_, _, _, _, _]) (Γ2 := [_, _, _, _, _, _]) S rfl rfl ?_
                    rintro _ w12492 M12493 Γ' hM12494 E' S ⟨A12475, c12476, A12478, c12479, A12481, c12482, A12484, c12485, A12487, c12488, vs12490, rfl, hm12491, rfl⟩
                    replace hg0 : ∃ gt fr, _ := (let ⟨gt, fr, h8⟩ := hg0; ⟨gt, fr, hM12494 _ _ h8⟩)
                    replace HM := Hp.le_trans HM hM12494
                    replace hM9573 := Hp.le_trans hM9573 hM12494
                    replace hM9708 := Hp.le_trans hM9708 hM12494
                    replace hM12471 := Hp.le_trans hM12471 hM12494
                    replace LE12472 := Hp.le_trans LE12472 hM12494
                    replace hr1 := SlR.mono hr1 hM12494
                    replace hr2 := SlR.mono hr2 hM12494
                    replace hm72 := MRel.mono hm72 hM12494
                    replace hm98 := MRel.mono hm98 hM12494
                    replace hm6429 := MRel.mono hm6429 hM12494
                    replace hm6444 := MRel.mono hm6444 hM12494
                    replace hb9580 := hM12494 _ _ hb9580
                    replace hm9680 := MRel.mono hm9680 hM12494
                    replace E := E.trans E'
                    replace S : St w12492 M12493 F [_, _, _, _, _, _, _, _, _, _, _, _] := S
                    refine Wl_nil (on_n ⟨.inr ⟨M12493, hM12471, (S.pick [] (by decide))⟩, ?_⟩)
                    exact hq12329 _ _ ⟨t12473.1.Err, t12473.1.Found, t12473.1.Value, t12473.1.Pairs, t12473.2, A12475, c12476, A12478, c12479, A12481, c12482, A12484, c12485, A12487, c12488, vs12490, b11298, M12493, H, ⟨rfl, rfl, rfl, rfl, rfl, rfl, rfl, rfl, rfl, rfl, trivial⟩, hM12471, E, S.pick [6, 5, 4, 3, 2, 0, 1, 7, 8, 9, 10, 11] (by decide), hm12491⟩
                  · refine ⟨_, rfl, ?_⟩
                    refine W_alloc S #[.int .i64 0, .bool false, .string (bs ([] : Str)), .slice none 0 0] ty43 rfl rfl ?_
                    intro b12495 w12496 E' S
                    replace E := E.trans E'
                    refine Wl_nil (on_n ⟨.inr ⟨M12470, hM12471, (S.pick [] (by decide))⟩, ?_⟩)
                    exact hq12330 _ _ ⟨b12495, b11298, M12470, H, ⟨rfl, rfl, rfl, rfl, rfl, rfl, rfl, rfl, rfl, rfl, rfl, rfl, rfl, trivial⟩, hM12471, E, S.pick [1, 0, 2, 3, 4, 5, 6, 7, 8, 9, 10, 11] (by decide)⟩
                intro hq12326
                refine Wa_join (fun ρ w' => ∃ (b11271 : Nat) (Mj : Hp), (Option.bind (model_Model_Do_POOOO k x6430 ((rd a1 x6414).Task) ((rd a1 x6414).Call)) (fun t11937 => (Option.bind (model_Model_Do_POOOO k x9666 ((rd a1 x6414).Task) ((rd a1 x6414).Call)) (fun t11959 => some (t11937.1.Err, t11937.1.Found, t11937.1.Value, t11937.1.Pairs, t11959.1.Err, t11959.1.Found, t11959.1.Value, t11959.1.Pairs, t11959.2, t11937.2))))) = some o12322 ∧ Agree ρ [(1, .slice A1 a1.length c1), (2, .slice A2 a2.length c2), (7, pt b57 0), (9, pt b83 0), (11, .int .i64 x6414), (12, pt b11271 0), (68, pt b57 0), (73, .int .i64 ((rd a1 x6414).Task)), (78, .agg #[.int .u8 ((rd a1 x6414).Call.Kind), .int .i64 ((rd a1 x6414).Call.Tx), .string (bs ((rd a1 x6414).Call.Key)), .string (bs ((rd a1 x6414).Call.End)), .string (bs ((rd a1 x6414).Call.Value)), .int .i64 ((rd a1 x6414).Call.Limit), .int .u8 ((rd a1 x6414).Call.Engine)]), (80, pt b83 0), (85, .int .i64 ((rd a1 x6414).Task)), (90, .agg #[.int .u8 ((rd a1 x6414).Call.Kind), .int .i64 ((rd a1 x6414).Call.Tx), .string (bs ((rd a1 x6414).Call.Key)), .string (bs ((rd a1 x6414).Call.End)), .string (bs ((rd a1 x6414).Call.Value)), .int .i64 ((rd a1 x6414).Call.Limit), .int .u8 ((rd a1 x6414).Call.Engine)])] ∧ M9707.le Mj ∧ Ext w w' ∧ St w' Mj F [Blk b11271 (.cells #[.int .i64 0, .bool false, .string (bs ([] : Str)), .slice none 0 0] 43 (0, 0)), MapC encS (fun v : Value => v) A9676 vs9679, Row r_model_tx 99 (.slice A9673 x9666.txs.length c9674) x9666.txs, MapC (Value.int .i64) (Value.int .i64) A9670 x9666.many, MapC enc_model_name (Value.int .i64) A9667 x9666.names, B94 b83 x9666 A9667 A9670 A9673 c9674 A9676, MapC encS (fun v : Value => v) A6440 vs6443, Row r_model_tx 99 (.slice A6437 x6430.txs.length c6438) x6430.txs, MapC (Value.int .i64) (Value.int .i64) A6434 x6430.many, MapC enc_model_name (Value.int .i64) A6431 x6430.names, B94 b57 x6430 A6431 A6434 A6437 c6438 A6440]) 5 (Ls 28 [0, 1, 2, 3, 4, 5, 6, 7, 8, 9, 10, 12, 13, 14, 15, 16, 17, 18, 19, 20, 21, 22, 24]) ?_ ?_
                · clear o12322h
                  rintro ρ w12498 ⟨b11271, M12499, H, hρ, hM12500, E, S⟩
                  rw [agree_eta hρ]
                  replace hg0 : ∃ gt fr, _ := (let ⟨gt, fr, h8⟩ := hg0; ⟨gt, fr, hM12500 _ _ h8⟩)
                  replace HM := Hp.le_trans HM hM12500
                  replace hM9573 := Hp.le_trans hM9573 hM12500
                  replace hM9708 := Hp.le_trans hM9708 hM12500
                  replace LE11149 := Hp.le_trans LE11149 hM12500
                  replace hr1 := SlR.mono hr1 hM12500
                  replace hr2 := SlR.mono hr2 hM12500
                  replace hm72 := MRel.mono hm72 hM12500
                  replace hm98 := MRel.mono hm98 hM12500
                  replace hm6429 := MRel.mono hm6429 hM12500
                  replace hm6444 := MRel.mono hm6444 hM12500
                  replace hb9580 := hM12500 _ _ hb9580
                  replace hm9680 := MRel.mono hm9680 hM12500
                  have LE12501 := Hp.le_refl M12499
                  refine Wa_oneOf (rs := [11, 25]) (by kernel_rfl) (by decide) ?_
                  simp only [List.forall_mem_cons, List.not_mem_nil, false_implies, implies_true, and_true]
                  refine ⟨?_, ?_⟩
                  · refine ⟨_, rfl, ?_⟩
                    obtain ⟨t12502, ht12503, H⟩ := bindS H
                    replace S : St w12498 M12499 F [_, _, _, _, _, _, _, _, _, _, _] := S.pick [10, 9, 8, 7, 6, 0, 1, 2, 3, 4, 5] (by decide)
                    refine W_call fn15 (model_Model_Do_POOOO.con k M12499 A6431 c6432 A6434 c6435 A6437 c6438 A6440 c6441 vs6443 x6430 ((rd a1 x6414).Task) ((rd a1 x6414).Call) b57 t12502 hm6444 hg0 ht12503) (Γ1 := [_, _, _, _, _]) (Γ2 := [_, _, _, _, _, _]) S rfl rfl ?_
                    rintro _ w12521 M12522 Γ' hM12523 E' S ⟨A12504, c12505, A12507, c12508, A12510, c12511, A12513, c12514, A12516, c12517, vs12519, rfl, hm12520, rfl⟩
                    replace hg0 : ∃ gt fr, _ := (let ⟨gt, fr, h8⟩ := hg0; ⟨gt, fr, hM12523 _ _ h8⟩)
                    replace HM := Hp.le_trans HM hM12523
                    replace hM9573 := Hp.le_trans hM9573 hM12523
                    replace hM9708 := Hp.le_trans hM9708 hM12523
                    replace hM12500 := Hp.le_trans hM12500 hM12523
                    replace LE12501 := Hp.le_trans LE12501 hM12523
                    replace hr1 := SlR.mono hr1 hM12523
                    replace hr2 := SlR.mono hr2 hM12523
                    replace hm72 := MRel.mono hm72 hM12523
                    replace hm98 := MRel.mono hm98 hM12523
                    replace hm6429 := MRel.mono hm6429 hM12523
                    replace hm6444 := MRel.mono hm6444 hM12523
                    replace hb9580 := hM12523 _ _ hb9580
                    replace hm9680 := MRel.mono hm9680 hM12523
                    replace E := E.trans E'
                    replace S : St w12521 M12522 F [_, _, _, _, _, _, _, _, _, _, _, _] := S
                    refine Wl_nil (on_n ⟨.inr ⟨M12522, hM12500, (S.pick [] (by decide))⟩, ?_⟩)
                    exact hq12328 _ _ ⟨t12502.1.Err, t12502.1.Found, t12502.1.Value, t12502.1.Pairs, t12502.2, A12504, c12505, A12507, c12508, A12510, c12511, A12513, c12514, A12516, c12517, vs12519, b11271, M12522, H, ⟨rfl, rfl, rfl, rfl, rfl, rfl, rfl, rfl, rfl, rfl, trivial⟩, hM12500, E, S.pick [6, 5, 4, 3, 2, 0, 1, 7, 8, 9, 10, 11] (by decide), hm12520⟩
                  · refine ⟨_, rfl, ?_⟩
                    refine W_alloc S #[.int .i64 0, .bool false, .string (bs ([] : Str)), .slice none 0 0] ty43 rfl rfl ?_
                    intro b12524 w12525 E' S
                    replace E := E.trans E'
                    refine Wl_nil (on_n ⟨.inr ⟨M12499, hM12500, (S.pick [] (by decide))⟩, ?_⟩)
                    exact hq12330 _ _ ⟨b11271, b12524, M12499, H, ⟨rfl, rfl, rfl, rfl, rfl, rfl, rfl, rfl, rfl, rfl, rfl, rfl, rfl, trivial⟩, hM12500, E, S.pick [0, 1, 2, 3, 4, 5, 6, 7, 8, 9, 10, 11] (by decide)⟩
                intro hq12325
                refine Wa_join (fun ρ w' => ∃ (x11220 : Int) (x11221 : Bool) (x11222 : Str) (x11223 : List api_Pair) (x11227 : model_Model) (A11224 : Option Addr) (c11225 : Nat) (A11228 : Option Addr) (c11229 : Nat) (A11231 : Option Addr) (c11232 : Nat) (A11234 : Option Addr) (c11235 : Nat) (A11237 : Option Addr) (c11238 : Nat) (vs11240 : List (Str × Value)) (Mj : Hp), (Option.bind (model_Model_Do_POOOO k x9666 ((rd a1 x6414).Task) ((rd a1 x6414).Call)) (fun t11850 => some (x11220, x11221, x11222, x11223, t11850.1.Err, t11850.1.Found, t11850.1.Value, t11850.1.Pairs, t11850.2, x11227))) = some o12322 ∧ Agree ρ [(1, .slice A1 a1.length c1), (2, .slice A2 a2.length c2), (7, pt b57 0), (9, pt b83 0), (11, .int .i64 x6414), (79, .agg #[.int .i64 x11220, .bool x11221, .string (bs x11222), .slice A11224 x11223.length c11225]), (80, pt b83 0), (85, .int .i64 ((rd a1 x6414).Task)), (90, .agg #[.int .u8 ((rd a1 x6414).Call.Kind), .int .i64 ((rd a1 x6414).Call.Tx), .string (bs ((rd a1 x6414).Call.Key)), .string (bs ((rd a1 x6414).Call.End)), .string (bs ((rd a1 x6414).Call.Value)), .int .i64 ((rd a1 x6414).Call.Limit), .int .u8 ((rd a1 x6414).Call.Engine)])] ∧ M9707.le Mj ∧ Ext w w' ∧ St w' Mj F [MapC encS (fun v : Value => v) A11237 vs11240, Row r_model_tx 99 (.slice A11234 x11227.txs.length c11235) x11227.txs, MapC (Value.int .i64) (Value.int .i64) A11231 x11227.many, MapC enc_model_name (Value.int .i64) A11228 x11227.names, Row r_api_Pair 87 (.slice A11224 x11223.length c11225) x11223, B94 b57 x11227 A11228 A11231 A11234 c11235 A11237, MapC encS (fun v : Value => v) A9676 vs9679, Row r_model_tx 99 (.slice A9673 x9666.txs.length c9674) x9666.txs, MapC (Value.int .i64) (Value.int .i64) A9670 x9666.many, MapC enc_model_name (Value.int .i64) A9667 x9666.names, B94 b83 x9666 A9667 A9670 A9673 c9674 A9676] ∧ MRel r_model_row Mj x11227.rows vs11240) 5 (Ls 28 [0, 1, 2, 3, 4, 5, 6, 7, 8, 9, 10, 11, 12, 13, 14, 15, 16, 17, 18, 19, 20, 21, 22]) ?_ ?_
                · clear o12322h
                  rintro ρ w12527 ⟨x11220, x11221, x11222, x11223, x11227, A11224, c11225, A11228, c11229, A11231, c11232, A11234, c11235, A11237, c11238, vs11240, M12528, H, hρ, hM12529, E, S, hm11241⟩
                  rw [agree_eta hρ]
                  replace hg0 : ∃ gt fr, _ := (let ⟨gt, fr, h8⟩ := hg0; ⟨gt, fr, hM12529 _ _ h8⟩)
                  replace HM := Hp.le_trans HM hM12529
                  replace hM9573 := Hp.le_trans hM9573 hM12529
                  replace hM9708 := Hp.le_trans hM9708 hM12529
                  replace LE11149 := Hp.le_trans LE11149 hM12529
                  replace hr1 := SlR.mono hr1 hM12529
                  replace hr2 := SlR.mono hr2 hM12529
                  replace hm72 := MRel.mono hm72 hM12529
                  replace hm98 := MRel.mono hm98 hM12529
                  replace hm6429 := MRel.mono hm6429 hM12529
                  replace hm6444 := MRel.mono hm6444 hM12529
                  replace hb9580 := hM12529 _ _ hb9580
                  replace hm9680 := MRel.mono hm9680 hM12529
                  have LE12530 := Hp.le_refl M12528
                  refine Wa_oneOf (rs := [23, 24, 25]) (by kernel_rfl) (by decide) ?_
                  simp only [List.forall_mem_cons, List.not_mem_nil, false_implies, implies_true, and_true]
                  refine ⟨?_, ?_, ?_⟩
                  · refine ⟨_, rfl, ?_⟩
                    obtain ⟨t12531, ht12532, H⟩ := bindS H
                    replace S : St w12527 M12528 F [_, _, _, _, _, _, _, _, _, _, _] := S.pick [10, 9, 8, 7, 6, 0, 1, 2, 3, 4, 5] (by decide)
                    refine W_call fn15 (model_Model_Do_POOOO.con k M12528 A9667 c9668 A9670 c9671 A9673 c9674 A9676 c9677 vs9679 x9666 ((rd a1 x6414).Task) ((rd a1 x6414).Call) b83 t12531 hm9680 hg0 ht12532) (Γ1 := [_, _, _, _, _]) (Γ2 := [_, _, _, _, _, _]) S rfl rfl ?_
                    rintro _ w12550 M12551 Γ' hM12552 E' S ⟨A12533, c12534, A12536, c12537, A12539, c12540, A12542, c12543, A12545, c12546, vs12548, rfl, hm12549, rfl⟩
                    replace hg0 : ∃ gt fr, _ := (let ⟨gt, fr, h8⟩ := hg0; ⟨gt, fr, hM12552 _ _ h8⟩)
                    replace HM := Hp.le_trans HM hM12552
                    replace hM9573 := Hp.le_trans hM9573 hM12552
                    replace hM9708 := Hp.le_trans hM9708 hM12552
                    replace hM12529 := Hp.le_trans hM12529 hM12552
                    replace LE12530 := Hp.le_trans LE12530 hM12552
                    replace hr1 := SlR.mono hr1 hM12552
                    replace hr2 := SlR.mono hr2 hM12552
                    replace hm72 := MRel.mono hm72 hM12552
                    replace hm98 := MRel.mono hm98 hM12552
                    replace hm6429 := MRel.mono hm6429 hM12552
                    replace hm6444 := MRel.mono hm6444 hM12552
                    replace hb9580 := hM12552 _ _ hb9580
                    replace hm9680 := MRel.mono hm9680 hM12552
                    replace hm11241 := MRel.mono hm11241 hM12552
                    replace E := E.trans E'
                    replace S : St w12550 M12551 F [_, _, _, _, _, _, _, _, _, _, _, _] := S
                    refine Wl_nil (on_n ⟨.inr ⟨M12551, hM12529, (S.pick [] (by decide))⟩, ?_⟩)
                    exact hq12327 _ _ ⟨x11220, x11221, x11222, x11223, t12531.1.Err, t12531.1.Found, t12531.1.Value, t12531.1.Pairs, t12531.2, x11227, A11224, c11225, A12533, c12534, A12536, c12537, A12539, c12540, A12542, c12543, A12545, c12546, vs12548, A11228, c11229, A11231, c11232, A11234, c11235, A11237, c11238, vs11240, M12551, H, ⟨rfl, rfl, rfl, rfl, rfl, rfl, rfl, trivial⟩, hM12529, E, S.pick [6, 7, 8, 9, 5, 4, 3, 2, 0, 10, 1, 11] (by decide), hm12549, hm11241⟩
                  · refine ⟨_, rfl, ?_⟩
                    refine W_alloc S #[.int .i64 0, .bool false, .string (bs ([] : Str)), .slice none 0 0] ty43 rfl rfl ?_
                    intro b12553 w12554 E' S
                    replace E := E.trans E'
                    refine Wl_nil (on_n ⟨.inr ⟨M12528, hM12529, (S.pick [] (by decide))⟩, ?_⟩)
                    exact hq12328 _ _ ⟨x11220, x11221, x11222, x11223, x11227, A11224, c11225, A11228, c11229, A11231, c11232, A11234, c11235, A11237, c11238, vs11240, b12553, M12528, H, ⟨rfl, rfl, rfl, rfl, rfl, rfl, rfl, rfl, rfl, rfl, trivial⟩, hM12529, E, S.pick [0, 1, 2, 3, 4, 5, 6, 7, 8, 9, 10, 11] (by decide), hm11241⟩
                  · refine ⟨_, rfl, ?_⟩
                    refine W_alloc S #[.int .i64 0, .bool false, .string (bs ([] : Str)), .slice none 0 0] ty43 rfl rfl ?_
                    intro b12556 w12557 E' S
                    replace E := E.trans E'
                    refine Wl_nil (on_n ⟨.inr ⟨M12528, hM12529, (S.pick [] (by decide))⟩, ?_⟩)
                    exact hq12329 _ _ ⟨x11220, x11221, x11222, x11223, x11227, A11224, c11225, A11228, c11229, A11231, c11232, A11234, c11235, A11237, c11238, vs11240, b12556, M12528, H, ⟨rfl, rfl, rfl, rfl, rfl, rfl, rfl, rfl, rfl, rfl, trivial⟩, hM12529, E, S.pick [0, 1, 2, 3, 4, 5, 6, 7, 8, 9, 10, 11] (by decide), hm11241⟩
                intro hq12324
                have H := o12322h
                refine Wa_oneOf (rs := [11, 24, 25]) (by kernel_rfl) (by decide) ?_
                simp only [List.forall_mem_cons, List.not_mem_nil, false_implies, implies_true, and_true]
                refine ⟨?_, ?_, ?_⟩
                · refine ⟨_, rfl, ?_⟩
                  obtain ⟨t12559, ht12560, H⟩ := bindS H
                  replace S : St w11150 M9707 F [_, _, _, _, _, _, _, _, _, _] := S.pick [9, 8, 7, 6, 5, 0, 1, 2, 3, 4] (by decide)
                  refine W_call fn15 (model_Model_Do_POOOO.con k M9707 A6431 c6432 A6434 c6435 A6437 c6438 A6440 c6441 vs6443 x6430 ((rd a1 x6414).Task) ((rd a1 x6414).Call) b57 t12559 hm6444 hg0 ht12560) (Γ1 := [_, _, _, _, _]) (Γ2 := [_, _, _, _, _]) S rfl rfl ?_
                  rintro _ w12578 M12579 Γ' hM12580 E' S ⟨A12561, c12562, A12564, c12565, A12567, c12568, A12570, c12571, A12573, c12574, vs12576, rfl, hm12577, rfl⟩
                  replace hg0 : ∃ gt fr, _ := (let ⟨gt, fr, h8⟩ := hg0; ⟨gt, fr, hM12580 _ _ h8⟩)
                  replace HM := Hp.le_trans HM hM12580
                  replace hM9573 := Hp.le_trans hM9573 hM12580
                  replace hM9708 := Hp.le_trans hM9708 hM12580
                  replace LE11149 := Hp.le_trans LE11149 hM12580
                  replace hr1 := SlR.mono hr1 hM12580
                  replace hr2 := SlR.mono hr2 hM12580
                  replace hm72 := MRel.mono hm72 hM12580
                  replace hm98 := MRel.mono hm98 hM12580
                  replace hm6429 := MRel.mono hm6429 hM12580
                  replace hm6444 := MRel.mono hm6444 hM12580
                  replace hb9580 := hM12580 _ _ hb9580
                  replace hm9680 := MRel.mono hm9680 hM12580
                  replace E := E.trans E'
                  replace S : St w12578 M12579 F [_, _, _, _, _, _, _, _, _, _, _] := S
                  refine Wl_nil (on_n ⟨.inr ⟨M12579, LE11149, (S.pick [] (by decide))⟩, ?_⟩)
                  exact hq12324 _ _ ⟨t12559.1.Err, t12559.1.Found, t12559.1.Value, t12559.1.Pairs, t12559.2, A12561, c12562, A12564, c12565, A12567, c12568, A12570, c12571, A12573, c12574, vs12576, M12579, H, ⟨rfl, rfl, rfl, rfl, rfl, rfl, rfl, rfl, rfl, trivial⟩, LE11149, E, S.pick [5, 4, 3, 2, 0, 1, 6, 7, 8, 9, 10] (by decide), hm12577⟩
                · refine ⟨_, rfl, ?_⟩
                  refine W_alloc S #[.int .i64 0, .bool false, .string (bs ([] : Str)), .slice none 0 0] ty43 rfl rfl ?_
                  intro b12581 w12582 E' S
                  replace E := E.trans E'
                  refine Wl_nil (on_n ⟨.inr ⟨M9707, Hp.le_refl M9707, (S.pick [] (by decide))⟩, ?_⟩)
                  exact hq12325 _ _ ⟨b12581, M9707, H, ⟨rfl, rfl, rfl, rfl, rfl, rfl, rfl, rfl, rfl, rfl, rfl, rfl, trivial⟩, (Hp.le_refl M9707), E, S.pick [0, 1, 2, 3, 4, 5, 6, 7, 8, 9, 10] (by decide)⟩
                · refine ⟨_, rfl, ?_⟩
                  refine W_alloc S #[.int .i64 0, .bool false, .string (bs ([] : Str)), .slice none 0 0] ty43 rfl rfl ?_
                  intro b12584 w12585 E' S
                  replace E := E.trans E'
                  refine Wl_nil (on_n ⟨.inr ⟨M9707, Hp.le_refl M9707, (S.pick [] (by decide))⟩, ?_⟩)
                  exact hq12326 _ _ ⟨b12584, M9707, H, ⟨rfl, rfl, rfl, rfl, rfl, rfl, rfl, rfl, rfl, rfl, rfl, rfl, trivial⟩, (Hp.le_refl M9707), E, S.pick [0, 1, 2, 3, 4, 5, 6, 7, 8, 9, 10] (by decide)⟩
              rintro ρ w12587 ⟨x11655, x11656, x11657, x11658, x11662, x11663, x11664, x11665, x11669, x11684, A11659, c11660, A11666, c11667, A11670, c11671, A11673, c11674, A11676, c11677, A11679, c11680, vs11682, A11685, c11686, A11688, c11689, A11691, c11692, A11694, c11695, vs11697, b11651, b11653, M12588, rfl, hρ, hM12589, E, S, hm11683, hm11698⟩
              rw [agree_eta hρ]
              replace hg0 : ∃ gt fr, _ := (let ⟨gt, fr, h8⟩ := hg0; ⟨gt, fr, hM12589 _ _ h8⟩)
              replace HM := Hp.le_trans HM hM12589
              replace hM9573 := Hp.le_trans hM9573 hM12589
              replace hM9708 := Hp.le_trans hM9708 hM12589
              replace LE11149 := Hp.le_trans LE11149 hM12589
              replace hr1 := SlR.mono hr1 hM12589
              replace hr2 := SlR.mono hr2 hM12589
              replace hm72 := MRel.mono hm72 hM12589
              replace hm98 := MRel.mono hm98 hM12589
              replace hm6429 := MRel.mono hm6429 hM12589
              replace hm6444 := MRel.mono hm6444 hM12589
              replace hb9580 := hM12589 _ _ hb9580
              replace hm9680 := MRel.mono hm9680 hM12589
              have H := o12322H
              refine Wa_solo (i := 26) rfl (by kernel_rfl) ?_
              refine W_store S 1 rfl ty43 rfl rfl [.int .i64 x11655, .bool x11656, .string (bs x11657), .slice A11659 x11658.length c11660] rfl rfl rfl #[.int .i64 x11655, .bool x11656, .string (bs x11657), .slice A11659 x11658.length c11660] rfl rfl ?_
              intro w12590 E' S
              replace E := E.trans E'
              refine Wl_nil (on_n ⟨.inl (by decide), ?_⟩)
              refine Wa_solo (i := 27) rfl (by kernel_rfl) ?_
              refine W_store S 0 rfl ty43 rfl rfl [.int .i64 x11662, .bool x11663, .string (bs x11664), .slice A11666 x11665.length c11667] rfl rfl rfl #[.int .i64 x11662, .bool x11663, .string (bs x11664), .slice A11666 x11665.length c11667] rfl rfl ?_
              intro w12591 E' S
              replace E := E.trans E'
              refine Wl_nil (on_n ⟨.inl (by decide), ?_⟩)
              refine Wa_done (by kernel_rfl) ?_
              refine tn ?_
              as_aux_lemma =>
              refine Wp_seq (Wp_seq (Wp_region_lit (W_v (pt b11651 0) (x_fieldAddr (o := 0) (off := 0) Tryd.underlying43 rfl ty28 rfl rfl) rfl (W_v (.int .i64 x11655) (x_load (S.blk 1 rfl) ty28 rfl rfl) rfl (W_v (.bool (x11655 == (34 : Int))) (x_ibin rfl rfl rfl rfl) rfl (Wl_nil (tn ?_)))))))
              rcases iteS H with ⟨hb12592, H⟩ | ⟨hb12592, H⟩
              · refine Wp_cond_true (congrArg Value.bool hb12592) ?_
                refine Wp_seq (Wp_region_lit (W_v (.bool true) (x_assign rfl) rfl (Wl_nil (tn ?_))))
                refine Wp_ret ?_
                refine tr (br (tr (tr (br (tr (tr (?_)))))))
                obtain rfl := Option.some.inj H
                have H := o9570H
                replace H := elimL H
                obtain rfl := Option.some.inj H
                exact ⟨_, _, _, fun w1 e1 => run_resR (vs := [.bool true]) (FA.cons (rfl) (FA.nil)), HM, E, S.pick [] (by decide), ⟨rfl, rfl⟩⟩
              refine Wp_cond_false (congrArg Value.bool hb12592) (Wp_skip (tn (Wp_seq (Wp_region_lit (W_v (.agg #[.int .i64 x11655, .bool x11656, .string (bs x11657), .slice A11659 x11658.length c11660]) (x_loadA (S.blk 1 rfl) ty43 rfl (sub_of_extract rfl) rfl rfl) rfl (W_v (.agg #[.int .i64 x11662, .bool x11663, .string (bs x11664), .slice A11666 x11665.length c11667]) (x_loadA (S.blk 0 rfl) ty43 rfl (sub_of_extract rfl) rfl rfl) rfl ?_))))))
              replace S : St w12591 M12588 F [_, _, _, _, _, _, _, _, _, _, _, _, _, _] := S.pick [11, 10, 0, 1, 2, 3, 4, 5, 6, 7, 8, 9, 12, 13] (by decide)
              obtain ⟨t12593, ht12594, H⟩ := bindS H
              refine W_callN 2 fn20 (fun h9 hs9 hd9 => ferrymanref06_Answers.con k _ A11659 c11660 (⟨x11655, x11656, x11657, x11658⟩ : api_Answer) A11666 c11667 (⟨x11662, x11663, x11664, x11665⟩ : api_Answer) t12593 (Sats.row hs9 hd9 0 rfl) (Sats.row hs9 hd9 1 rfl) ht12594) S rfl rfl (by rintro _ _ _ ⟨_, rfl⟩; exact flat_nil) ?_
              rintro _ w12595 _ Γ' E' S ⟨rfl, rfl⟩
              replace E := E.trans E'
              refine W_v (.bool (!t12593)) (x_not (b := t12593) rfl) rfl (W_v (.bool (!t12593)) (x_move rfl) rfl ?_)
              obtain ⟨o12618, o12618h, o12618H⟩ := bindS H
              refine Wl_cutN 6 (fun ρ w' => ∃ (x12617 : Bool), (x12617) = o12618 ∧ Agree ρ [(1, .slice A1 a1.length c1), (2, .slice A2 a2.length c2), (7, pt b57 0), (9, pt b83 0), (11, .int .i64 x6414), (105, .bool x12617)] ∧ Ext w w' ∧ St w' M12588 F [MapC encS (fun v : Value => v) A11694 vs11697, Row r_model_tx 99 (.slice A11691 x11684.txs.length c11692) x11684.txs, MapC (Value.int .i64) (Value.int .i64) A11688 x11684.many, MapC enc_model_name (Value.int .i64) A11685 x11684.names, MapC encS (fun v : Value => v) A11679 vs11682, Row r_model_tx 99 (.slice A11676 x11669.txs.length c11677) x11669.txs, MapC (Value.int .i64) (Value.int .i64) A11673 x11669.many, MapC enc_model_name (Value.int .i64) A11670 x11669.names, B94 b83 x11669 A11670 A11673 A11676 c11677 A11679, B94 b57 x11684 A11685 A11688 A11691 c11692 A11694]) ?_ ?_
              · have H := o12618h
                rcases iteS H with ⟨hb12616, H⟩ | ⟨hb12616, H⟩
                · skip
                  refine W_no (skF hb12616) rfl (W_no (skF hb12616) rfl (W_no (skF hb12616) rfl (W_no (skF hb12616) rfl (W_no (skF hb12616) rfl (W_v (.bool true) (x_pick (k := true) (congrArg Value.bool hb12616) rfl) rfl (Wl_nil ?_))))))
                  exact ⟨true, Option.some.inj H, ⟨rfl, rfl, rfl, rfl, rfl, rfl, trivial⟩, E, S.pick [4, 5, 6, 7, 8, 9, 10, 11, 12, 13] (by decide)⟩
                · skip
                  refine W_yes (congrArg some hb12616) (W_v (pt b57 0) (x_move rfl) rfl (W_yes (congrArg some hb12616) ?_))
                  obtain ⟨t12619, ht12620, H⟩ := bindS H
                  replace S : St w12595 M12588 F [_, _, _, _, _, _, _, _, _, _, _, _, _, _] := S.pick [13, 7, 6, 5, 4, 0, 1, 2, 3, 8, 9, 10, 11, 12] (by decide)
                  refine W_callF2 fn19 (model_Model_Clock_POOOO.con k M12588 A11685 c11686 A11688 c11689 A11691 c11692 A11694 c11695 vs11697 x11684 b57 t12619 hm11698 ht12620) (Γ1 := [_, _, _, _, _]) (Γ2 := [_, _, _, _, _, _, _, _, _]) S rfl rfl (by rintro _ _ _ ⟨rfl, rfl⟩; exact (flat_cons flat_blk (flat_cons flat_map (flat_cons flat_map (flat_cons (flat_row (fun _ _ _ _ h => h)) (flat_cons flat_map flat_nil)))))) ?_
                  rintro _ w12621 _ Γ' E' S ⟨rfl, rfl⟩
                  replace E := E.trans E'
                  replace S : St w12621 M12588 F [_, _, _, _, _, _, _, _, _, _, _, _, _, _] := S
                  refine W_yes (congrArg some hb12616) (W_v (pt b83 0) (x_move rfl) rfl (W_yes (congrArg some hb12616) ?_))
                  obtain ⟨t12624, ht12625, H⟩ := bindS H
                  replace S : St w12621 M12588 F [_, _, _, _, _, _, _, _, _, _, _, _, _, _] := S.pick [13, 12, 11, 10, 9, 0, 1, 2, 3, 4, 5, 6, 7, 8] (by decide)
                  refine W_callF2 fn19 (model_Model_Clock_POOOO.con k M12588 A11670 c11671 A11673 c11674 A11676 c11677 A11679 c11680 vs11682 x11669 b83 t12624 hm11683 ht12625) (Γ1 := [_, _, _, _, _]) (Γ2 := [_, _, _, _, _, _, _, _, _]) S rfl rfl (by rintro _ _ _ ⟨rfl, rfl⟩; exact (flat_cons flat_blk (flat_cons flat_map (flat_cons flat_map (flat_cons (flat_row (fun _ _ _ _ h => h)) (flat_cons flat_map flat_nil)))))) ?_
                  rintro _ w12626 _ Γ' E' S ⟨rfl, rfl⟩
                  replace E := E.trans E'
                  replace S : St w12626 M12588 F [_, _, _, _, _, _, _, _, _, _, _, _, _, _] := S
                  refine W_yes (congrArg some hb12616) (W_v (.bool (t12619 != t12624)) (x_ibin rfl rfl rfl rfl) rfl (W_v (.bool (t12619 != t12624)) (x_pick (k := false) (congrArg Value.bool hb12616) rfl) rfl (Wl_nil ?_)))
                  exact ⟨(t12619 != t12624), Option.some.inj H, ⟨rfl, rfl, rfl, rfl, rfl, rfl, trivial⟩, E, S.pick [9, 8, 7, 6, 4, 3, 2, 1, 0, 5] (by decide)⟩
              as_aux_lemma =>
              rintro ρ w12629 ⟨x12617, rfl, hρ, E, S⟩
              rw [agree_eta hρ]
              have H := o12618H
              refine W_v (.bool x12617) (x_move rfl) rfl ?_
              obtain ⟨o12652, o12652h, o12652H⟩ := bindS H
              refine Wl_cutN 6 (fun ρ w' => ∃ (x12651 : Bool), (x12651) = o12652 ∧ Agree ρ [(1, .slice A1 a1.length c1), (2, .slice A2 a2.length c2), (7, pt b57 0), (9, pt b83 0), (11, .int .i64 x6414), (112, .bool x12651)] ∧ Ext w w' ∧ St w' M12588 F [MapC encS (fun v : Value => v) A11694 vs11697, Row r_model_tx 99 (.slice A11691 x11684.txs.length c11692) x11684.txs, MapC (Value.int .i64) (Value.int .i64) A11688 x11684.many, MapC enc_model_name (Value.int .i64) A11685 x11684.names, MapC encS (fun v : Value => v) A11679 vs11682, Row r_model_tx 99 (.slice A11676 x11669.txs.length c11677) x11669.txs, MapC (Value.int .i64) (Value.int .i64) A11673 x11669.many, MapC enc_model_name (Value.int .i64) A11670 x11669.names, B94 b83 x11669 A11670 A11673 A11676 c11677 A11679, B94 b57 x11684 A11685 A11688 A11691 c11692 A11694]) ?_ ?_
              · have H := o12652h
                rcases iteS H with ⟨hb12650, H⟩ | ⟨hb12650, H⟩
                · skip
                  refine W_no (skF hb12650) rfl (W_no (skF hb12650) rfl (W_no (skF hb12650) rfl (W_no (skF hb12650) rfl (W_no (skF hb12650) rfl (W_v (.bool true) (x_pick (k := true) (congrArg Value.bool hb12650) rfl) rfl (Wl_nil ?_))))))
                  exact ⟨true, Option.some.inj H, ⟨rfl, rfl, rfl, rfl, rfl, rfl, trivial⟩, E, S.pick [0, 1, 2, 3, 4, 5, 6, 7, 8, 9] (by decide)⟩
                · skip
                  refine W_yes (congrArg some hb12650) (W_v (pt b57 0) (x_move rfl) rfl (W_yes (congrArg some hb12650) ?_))
                  obtain ⟨t12653, ht12654, H⟩ := bindS H
                  replace S : St w12629 M12588 F [_, _, _, _, _, _, _, _, _, _] := S.pick [9, 3, 2, 1, 0, 4, 5, 6, 7, 8] (by decide)
                  refine W_callF2 fn21 (model_Model_Active_POOOO.con k M12588 A11685 c11686 A11688 c11689 A11691 c11692 A11694 c11695 vs11697 x11684 b57 t12653 hm11698 ht12654) (Γ1 := [_, _, _, _, _]) (Γ2 := [_, _, _, _, _]) S rfl rfl (by rintro _ _ _ ⟨rfl, rfl⟩; exact (flat_cons flat_blk (flat_cons flat_map (flat_cons flat_map (flat_cons (flat_row (fun _ _ _ _ h => h)) (flat_cons flat_map flat_nil)))))) ?_
                  rintro _ w12655 _ Γ' E' S ⟨rfl, rfl⟩
                  replace E := E.trans E'
                  replace S : St w12655 M12588 F [_, _, _, _, _, _, _, _, _, _] := S
                  refine W_yes (congrArg some hb12650) (W_v (pt b83 0) (x_move rfl) rfl (W_yes (congrArg some hb12650) ?_))
                  obtain ⟨t12658, ht12659, H⟩ := bindS H
                  replace S : St w12655 M12588 F [_, _, _, _, _, _, _, _, _, _] := S.pick [9, 8, 7, 6, 5, 0, 1, 2, 3, 4] (by decide)
                  refine W_callF2 fn21 (model_Model_Active_POOOO.con k M12588 A11670 c11671 A11673 c11674 A11676 c11677 A11679 c11680 vs11682 x11669 b83 t12658 hm11683 ht12659) (Γ1 := [_, _, _, _, _]) (Γ2 := [_, _, _, _, _]) S rfl rfl (by rintro _ _ _ ⟨rfl, rfl⟩; exact (flat_cons flat_blk (flat_cons flat_map (flat_cons flat_map (flat_cons (flat_row (fun _ _ _ _ h => h)) (flat_cons flat_map flat_nil)))))) ?_
                  rintro _ w12660 _ Γ' E' S ⟨rfl, rfl⟩
                  replace E := E.trans E'
                  replace S : St w12660 M12588 F [_, _, _, _, _, _, _, _, _, _] := S
                  refine W_yes (congrArg some hb12650) (W_v (.bool (t12653 != t12658)) (x_ibin rfl rfl rfl rfl) rfl (W_v (.bool (t12653 != t12658)) (x_pick (k := false) (congrArg Value.bool hb12650) rfl) rfl (Wl_nil ?_)))
                  exact ⟨(t12653 != t12658), Option.some.inj H, ⟨rfl, rfl, rfl, rfl, rfl, rfl, trivial⟩, E, S.pick [9, 8, 7, 6, 4, 3, 2, 1, 0, 5] (by decide)⟩
              as_aux_lemma =>
              rintro ρ w12663 ⟨x12651, rfl, hρ, E, S⟩
              rw [agree_eta hρ]
              have H := o12652H
              refine W_v (.bool x12651) (x_move rfl) rfl ?_
              obtain ⟨o12686, o12686h, o12686H⟩ := bindS H
              refine Wl_cutN 6 (fun ρ w' => ∃ (x12685 : Bool), (x12685) = o12686 ∧ Agree ρ [(1, .slice A1 a1.length c1), (2, .slice A2 a2.length c2), (7, pt b57 0), (9, pt b83 0), (11, .int .i64 x6414), (119, .bool x12685)] ∧ Ext w w' ∧ St w' M12588 F [MapC encS (fun v : Value => v) A11694 vs11697, Row r_model_tx 99 (.slice A11691 x11684.txs.length c11692) x11684.txs, MapC (Value.int .i64) (Value.int .i64) A11688 x11684.many, MapC enc_model_name (Value.int .i64) A11685 x11684.names, MapC encS (fun v : Value => v) A11679 vs11682, Row r_model_tx 99 (.slice A11676 x11669.txs.length c11677) x11669.txs, MapC (Value.int .i64) (Value.int .i64) A11673 x11669.many, MapC enc_model_name (Value.int .i64) A11670 x11669.names, B94 b83 x11669 A11670 A11673 A11676 c11677 A11679, B94 b57 x11684 A11685 A11688 A11691 c11692 A11694]) ?_ ?_
              · have H := o12686h
                rcases iteS H with ⟨hb12684, H⟩ | ⟨hb12684, H⟩
                · skip
                  refine W_no (skF hb12684) rfl (W_no (skF hb12684) rfl (W_no (skF hb12684) rfl (W_no (skF hb12684) rfl (W_no (skF hb12684) rfl (W_v (.bool true) (x_pick (k := true) (congrArg Value.bool hb12684) rfl) rfl (Wl_nil ?_))))))
                  exact ⟨true, Option.some.inj H, ⟨rfl, rfl, rfl, rfl, rfl, rfl, trivial⟩, E, S.pick [0, 1, 2, 3, 4, 5, 6, 7, 8, 9] (by decide)⟩
                · skip
                  refine W_yes (congrArg some hb12684) (W_v (pt b83 0) (x_move rfl) rfl (W_yes (congrArg some hb12684) ?_))
                  obtain ⟨t12687, ht12688, H⟩ := bindS H
                  replace S : St w12663 M12588 F [_, _, _, _, _, _, _, _, _, _] := S.pick [8, 7, 6, 5, 4, 0, 1, 2, 3, 9] (by decide)
                  refine W_callF2 fn22 (model_Model_Retained_POOOO.con k M12588 A11670 c11671 A11673 c11674 A11676 c11677 A11679 c11680 vs11682 x11669 b83 t12687 hm11683 ht12688) (Γ1 := [_, _, _, _, _]) (Γ2 := [_, _, _, _, _]) S rfl rfl (by rintro _ _ _ ⟨rfl, rfl⟩; exact (flat_cons flat_blk (flat_cons flat_map (flat_cons flat_map (flat_cons (flat_row (fun _ _ _ _ h => h)) (flat_cons flat_map flat_nil)))))) ?_
                  rintro _ w12689 _ Γ' E' S ⟨rfl, rfl⟩
                  replace E := E.trans E'
                  replace S : St w12689 M12588 F [_, _, _, _, _, _, _, _, _, _] := S
                  refine W_yes (congrArg some hb12684) (W_v (pt b57 0) (x_move rfl) rfl (W_yes (congrArg some hb12684) ?_))
                  obtain ⟨t12692, ht12693, H⟩ := bindS H
                  replace S : St w12689 M12588 F [_, _, _, _, _, _, _, _, _, _] := S.pick [9, 8, 7, 6, 5, 0, 1, 2, 3, 4] (by decide)
                  refine W_callF2 fn22 (model_Model_Retained_POOOO.con k M12588 A11685 c11686 A11688 c11689 A11691 c11692 A11694 c11695 vs11697 x11684 b57 t12692 hm11698 ht12693) (Γ1 := [_, _, _, _, _]) (Γ2 := [_, _, _, _, _]) S rfl rfl (by rintro _ _ _ ⟨rfl, rfl⟩; exact (flat_cons flat_blk (flat_cons flat_map (flat_cons flat_map (flat_cons (flat_row (fun _ _ _ _ h => h)) (flat_cons flat_map flat_nil)))))) ?_
                  rintro _ w12694 _ Γ' E' S ⟨rfl, rfl⟩
                  replace E := E.trans E'
                  replace S : St w12694 M12588 F [_, _, _, _, _, _, _, _, _, _] := S
                  refine W_yes (congrArg some hb12684) (W_v (.bool (decide (t12687 > t12692))) (x_ibin rfl rfl rfl rfl) rfl (W_v (.bool (decide (t12687 > t12692))) (x_pick (k := false) (congrArg Value.bool hb12684) rfl) rfl (Wl_nil ?_)))
                  exact ⟨(decide (t12687 > t12692)), Option.some.inj H, ⟨rfl, rfl, rfl, rfl, rfl, rfl, trivial⟩, E, S.pick [4, 3, 2, 1, 9, 8, 7, 6, 5, 0] (by decide)⟩
              rintro ρ w12697 ⟨x12685, rfl, hρ, E, S⟩
              rw [agree_eta hρ]
              have H := o12686H
              refine Wl_nil (tn ?_)
              rcases iteS H with ⟨hb12698, H⟩ | ⟨hb12698, H⟩
              · refine Wp_cond_true (congrArg Value.bool hb12698) ?_
                refine Wp_seq (Wp_region_lit (W_v (.bool false) (x_assign rfl) rfl (Wl_nil (tn ?_))))
                refine Wp_ret ?_
                refine br (tr (tr (br (tr (tr (?_))))))
                obtain rfl := Option.some.inj H
                have H := o9570H
                replace H := elimL H
                obtain rfl := Option.some.inj H
                exact ⟨_, _, _, fun w1 e1 => run_resR (vs := [.bool false]) (FA.cons (rfl) (FA.nil)), HM, E, S.pick [] (by decide), ⟨rfl, rfl⟩⟩
              refine Wp_cond_false (congrArg Value.bool hb12698) (Wp_skip (bn (tn (Wp_region_lit (W_v (.int .i64 x6414) (x_move rfl) rfl (W_v (.int .i64 (IntKind.i64.wrap (x6414 + (1 : Int)))) (x_ibin rfl rfl rfl rfl) rfl (W_v (.int .i64 (IntKind.i64.wrap (x6414 + (1 : Int)))) (x_assign rfl) rfl (Wl_nil (tn ?_)))))))))
              exact ⟨k, Nat.lt_succ_self k, ⟨(IntKind.i64.wrap (x6414 + (1 : Int))), x11669, x11684, A11670, c11671, A11673, c11674, A11676, c11677, A11679, c11680, vs11682, A11685, c11686, A11688, c11689, A11691, c11692, A11694, c11695, vs11697, M12588, H, ⟨rfl, rfl, rfl, rfl, rfl, trivial⟩, hM9573, E, S.pick [0, 1, 2, 3, 4, 5, 6, 7, 8, 9] (by decide), hm11683, hm11698⟩⟩
            refine Wp_cond_false (congrArg Value.bool hb9574) ?_
            refine Wp_exit ?_
            refine tx (tx (bsm (?_)))
            refine tn ?_
            exact ⟨M9572, Option.some.inj H, trivial, hM9573, E, S.pick [] (by decide)⟩
      rintro ρ w12699 ⟨M12700, rfl, hρ, hM12701, E, S⟩
      rw [agree_eta hρ]
      replace hg0 : ∃ gt fr, _ := (let ⟨gt, fr, h8⟩ := hg0; ⟨gt, fr, hM12701 _ _ h8⟩)
      replace HM := Hp.le_trans HM hM12701
      replace hr1 := SlR.mono hr1 hM12701
      replace hr2 := SlR.mono hr2 hM12701
      replace hm72 := MRel.mono hm72 hM12701
      replace hm98 := MRel.mono hm98 hM12701
      have H := o9570H
      replace H := elimR H
      refine tn ?_
      as_aux_lemma =>
      refine Wp_seq (Wp_region_lit (W_v (.bool true) (x_assign rfl) rfl (Wl_nil (tn ?_))))
      refine Wp_ret ?_
      obtain rfl := Option.some.inj H
      exact ⟨_, _, _, fun w1 e1 => run_resR (vs := [.bool true]) (FA.cons (rfl) (FA.nil)), HM, E, S.pick [] (by decide), ⟨rfl, rfl⟩⟩
end Go.Proofs.YtcngjjlhdlbogaaDoor
