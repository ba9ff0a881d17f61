import Derived.Test.YtcngjjlhdlbogaaDoorGm1B
import Derived.Test.YtcngjjlhdlbogaaDoorGm1P0
import Derived.Test.YtcngjjlhdlbogaaDoorGm1P2
import Derived.Test.YtcngjjlhdlbogaaDoorGm1P3
import Derived.Test.YtcngjjlhdlbogaaDoorGm1P4
namespace Go.Proofs.YtcngjjlhdlbogaaDoor
open Go
set_option linter.unusedVariables false
set_option linter.unusedSimpArgs false
/-! ### ferryman/ferrymanlaw16.ModelTasks: function 7 -/
def ferrymanlaw16_ModelTasks_l0 (a0 : api_Config) (a1 : (List ferrymanlaw16_Turn)) (a2 : Int) : Nat → Int → model_Model → model_Model → Option ((Bool) ⊕ (model_Model × model_Model))
  | 0, _, _, _ => none
  | k + 1, x6022, x6023, x6038 => (if (decide (x6022 < (a1.length : Int))) = true then (if 0 ≤ x6022 ∧ x6022 < (a1.length : Int) then (Option.bind (α := Int) (if ((decide ((rd a1 x6022).Task ≥ (0 : Int))) && (decide ((rd a1 x6022).Task < a0.Tasks))) = true then (if (IntKind.u64.wrap a0.Tasks) ≠ 0 then (if a0.Tasks ≠ 0 then some ((Int.tmod (IntKind.i64.wrap ((rd a1 x6022).Task + (IntKind.i64.wrap (Int.tmod (IntKind.u64.wrap a2) (IntKind.u64.wrap a0.Tasks))))) a0.Tasks)) else none) else none) else some ((rd a1 x6022).Task)) (fun x9046 => (Option.bind (model_Model_Copy_POOOO k x6038) (fun t9056 => (Option.bind (α := Int × Bool × Str × List api_Pair × Int × Bool × Str × List api_Pair × model_Model × model_Model) (Option.bind (model_Model_Do_POOOO k x6038 ((rd a1 x6022).Task) ((rd a1 x6022).Call)) (fun t10987 => (Option.bind (model_Model_Do_POOOO k x6023 x9046 ((rd a1 x6022).Call)) (fun t11009 => some (t10987.1.Err, t10987.1.Found, t10987.1.Value, t10987.1.Pairs, t11009.1.Err, t11009.1.Found, t11009.1.Value, t11009.1.Pairs, t11009.2, t10987.2))))) (fun ⟨x10943, x10944, x10945, x10946, x10950, x10951, x10952, x10953, x10957, x10972⟩ => (Option.bind (ferrymanref06_Answers k (⟨x10943, x10944, x10945, x10946⟩ : api_Answer) (⟨x10950, x10951, x10952, x10953⟩ : api_Answer)) (fun t11880 => (Option.bind (α := Bool) (if (!t11880) = true then some (true) else (Option.bind (α := Bool) (if ((rd a1 x6022).Call.Kind == (9 : Int)) = true then (Option.bind (ferrymanlaw16_same_POOOO_POOOO k t9056 x10972) (fun t11937 => some ((!t11937)))) else some (false)) (fun x11935 => some (x11935)))) (fun x11922 => (if x11922 = true then some (.inl false) else ferrymanlaw16_ModelTasks_l0 a0 a1 a2 k (IntKind.i64.wrap (x6022 + (1 : Int))) x10957 x10972))))))))))) else none) else some (.inr (x6023, x6038)))
set_option maxHeartbeats 2000000 in
theorem ferrymanlaw16_ModelTasks_l0.mono {a0 : api_Config} {a1 : (List ferrymanlaw16_Turn)} {a2 : Int} : ∀ {kl : Nat} {x0 x1 x2}, OLe (ferrymanlaw16_ModelTasks_l0 a0 a1 a2 kl x0 x1 x2) (ferrymanlaw16_ModelTasks_l0 a0 a1 a2 (kl + 1) x0 x1 x2) := by
  intro kl
  induction kl with
  | zero => intros; exact OLe.none
  | succ kl ih =>
    intros
    rw [ferrymanlaw16_ModelTasks_l0.eq_2, ferrymanlaw16_ModelTasks_l0.eq_2]
    repeat' (first | with_reducible exact OLe.none | with_reducible exact OLe.some | with_reducible refine OLe.ite ?_ ?_ | with_reducible refine OLe.bind ?_ (fun _ => ?_) | with_reducible exact ferrymanlaw16_same_POOOO_POOOO.mono | with_reducible exact ferrymanref06_Answers.mono | with_reducible exact model_Model_Copy_POOOO.mono | with_reducible exact model_Model_Do_POOOO.mono | exact ih | refine OLe.bind ?_ (fun _ => ?_) | refine OLe.ite ?_ ?_ | refine OLe.elim (fun _ => ?_) (fun _ => ?_) | split)
def ferrymanlaw16_ModelTasks (k : Nat) (a0 : api_Config) (a1 : (List ferrymanlaw16_Turn)) (a2 : Int) : Option (Bool) :=
  (Option.bind (ferrymanlaw16_works k ) (fun t4 => (Option.bind (α := Bool) (if (!t4) = true then some (true) else (Option.bind (ferrymanlaw16_large k a1) (fun t16 => some (t16)))) (fun x14 => (if x14 = true then (Option.bind (ferrymanlaw16_works k ) (fun t21 => some t21)) else (Option.bind (model_New_v k a0) (fun t24 => (Sum.elim (fun t26 => (Option.bind (model_New_v k a0) (fun t31 => (Sum.elim (fun t33 => some true) (fun t34 => some false)) t31))) (fun t27 => (Option.bind (model_New_v k a0) (fun t76 => (Sum.elim (fun t78 => some false) (fun t79 => (Option.bind (ferrymanlaw16_ModelTasks_l0 a0 a1 a2 k (0 : Int) t79 t27) (fun o9012o => Sum.elim (fun r' => some r') (fun ⟨x8982, x8997⟩ => (Option.bind (ferrymanlaw16_same_POOOO_POOOO k x8997 x8982) (fun t11948 => some t11948))) o9012o)))) t76)))) t24)))))))
set_option maxHeartbeats 2000000 in
theorem ferrymanlaw16_ModelTasks.mono {k : Nat} {a0 : api_Config} {a1 : (List ferrymanlaw16_Turn)} {a2 : Int} : OLe (ferrymanlaw16_ModelTasks k a0 a1 a2) (ferrymanlaw16_ModelTasks (k + 1) a0 a1 a2) := by
  unfold ferrymanlaw16_ModelTasks
  repeat' (first | with_reducible exact OLe.none | with_reducible exact OLe.some | with_reducible refine OLe.ite ?_ ?_ | with_reducible refine OLe.bind ?_ (fun _ => ?_) | with_reducible exact ferrymanlaw16_ModelTasks_l0.mono | with_reducible exact ferrymanlaw16_large.mono | with_reducible exact ferrymanlaw16_same_POOOO_POOOO.mono | with_reducible exact ferrymanlaw16_works.mono | with_reducible exact model_New_v.mono | refine OLe.bind ?_ (fun _ => ?_) | refine OLe.ite ?_ ?_ | refine OLe.elim (fun _ => ?_) (fun _ => ?_) | split)
set_option maxHeartbeats 8000000 in
set_option maxRecDepth 100000 in
theorem ferrymanlaw16_ModelTasks.con (k : Nat) (M : Hp) (a0 : api_Config) (A1 : Option Addr) (c1 : Nat) (a1 : (List ferrymanlaw16_Turn)) (a2 : Int) (r : Bool) (hr1 : SlR r_ferrymanlaw16_Turn M (.slice A1 a1.length c1) a1) (hg0 : ∃ gt fr, M 0 = some (.cells #[.nilFunc, .func (.func 124) #[] #[], .func (.func 125) #[] #[], .func (.func 126) #[] #[], .func (.func 127) #[] #[], .func (.func 128) #[] #[], .func (.func 129) #[] #[], .func (.func 130) #[] #[], .func (.func 131) #[] #[], .func (.func 132) #[] #[]] gt fr)) (h : ferrymanlaw16_ModelTasks k a0 a1 a2 = some r) : Con Tryd.prog 7 #[.agg #[.int .i64 a0.Tasks, .int .i64 a0.Active, .int .i64 a0.Keys, .int .i64 a0.Depth, .int .i64 a0.TS, .int .i64 a0.KeyLen, .int .i64 a0.ValLen, .int .i64 a0.Fan], .slice A1 a1.length c1, .int .i64 a2] M [] (fun v M' Γ' => v = .bool r ∧ Γ' = []) := by
  refine con_of_wp Tryd.func7 rfl Tryd.ntmps7 Tryd.results7 rfl ?_
  intro w F rn S hrn
  have E := Ext.refl w
  have HM := Hp.le_refl M
  have H := h
  unfold ferrymanlaw16_ModelTasks at H
  refine Wp_seq ?_
  refine Wp_region_lit ?_
  refine W_box S #[.int .i64 a0.Tasks, .int .i64 a0.Active, .int .i64 a0.Keys, .int .i64 a0.Depth, .int .i64 a0.TS, .int .i64 a0.KeyLen, .int .i64 a0.ValLen, .int .i64 a0.Fan] rfl rfl rfl ?_
  intro b1 w2 E' S
  replace E := E.trans E'
  clear E'
  refine W_v (.bool false) (x_assign rfl) rfl ?_
  refine Wl_nil ?_
  refine tn ?_
  refine Wp_seq ?_
  refine Wp_seq ?_
  refine Wp_region_lit ?_
  obtain ⟨t4, ht5, H⟩ := bindS H
  refine W_callF fn11 (ferrymanlaw16_works.con k M  t4 hg0 ht5) S rfl rfl (by rintro _ _ _ ⟨_, rfl⟩; exact flat_nil) ?_
  rintro _ w6 _ Γ' E' S ⟨rfl, rfl⟩
  replace E := E.trans E'
  clear E'
  refine W_v (.bool (!t4)) (x_not rfl) rfl ?_
  refine W_v _ (x_move rfl) rfl ?_
  obtain ⟨o15, o15h, o15H⟩ := bindS H
  clear H
  refine Wl_cutN 3 (fun ρ w' => ∃ (x14 : Bool), (x14) = o15 ∧ Agree ρ [(1, .slice A1 a1.length c1), (2, .int .i64 a2), (3, .pointer (some ⟨b1, 0, none⟩)), (22, .bool x14)] ∧ Ext w w' ∧ St w' M F [B23 b1 a0]) ?_ ?_
  · have H := o15h
    rcases iteS H with ⟨hb13, H⟩ | ⟨hb13, H⟩
    · skip
      refine W_no (skF hb13) rfl ?_
      refine W_no (skF hb13) rfl ?_
      refine W_v _ (x_pick (k := true) (congrArg Value.bool hb13) rfl) rfl ?_
      refine Wl_nil ?_
      exact ⟨true, Option.some.inj H, ⟨rfl, rfl, rfl, rfl, trivial⟩, E, S.pick [0] (by decide)⟩
    · skip
      refine W_yes (congrArg some hb13) ?_
      refine W_v _ (x_move rfl) rfl ?_
      refine W_yes (congrArg some hb13) ?_
      obtain ⟨t16, ht17, H⟩ := bindS H
      refine W_callF fn12 (ferrymanlaw16_large.con k M A1 c1 a1 t16 hr1 ht17) S rfl rfl (by rintro _ _ _ ⟨_, rfl⟩; exact flat_nil) ?_
      rintro _ w18 _ Γ' E' S ⟨rfl, rfl⟩
      replace E := E.trans E'
      clear E'
      refine W_v _ (x_pick (k := false) (congrArg Value.bool hb13) rfl) rfl ?_
      refine Wl_nil ?_
      exact ⟨t16, Option.some.inj H, ⟨rfl, rfl, rfl, rfl, trivial⟩, E, S.pick [0] (by decide)⟩
  as_aux_lemma =>
  clear o15h
  rintro ρ w19 ⟨x14, rfl, hρ, E, S⟩
  rw [agree_eta hρ]
  clear hρ
  have H := o15H
  clear o15H
  refine Wl_nil ?_
  refine tn ?_
  rcases iteS H with ⟨hb20, H⟩ | ⟨hb20, H⟩
  · refine Wp_cond_true (congrArg Value.bool hb20) ?_
    refine Wp_seq ?_
    refine Wp_region_lit ?_
    obtain ⟨t21, ht22, H⟩ := bindS H
    refine W_callF fn11 (ferrymanlaw16_works.con k M  t21 hg0 ht22) S rfl rfl (by rintro _ _ _ ⟨_, rfl⟩; exact flat_nil) ?_
    rintro _ w23 _ Γ' E' S ⟨rfl, rfl⟩
    replace E := E.trans E'
    clear E'
    refine W_v (.bool t21) (x_assign rfl) rfl ?_
    refine Wl_nil ?_
    refine tn ?_
    refine Wp_ret ?_
    refine tr (?_)
    obtain rfl := Option.some.inj H
    exact ⟨_, _, _, fun w1 e1 => run_resR (vs := [.bool t21]) (FA.cons (rfl) (FA.nil)), HM, E, S.pick [] (by decide), ⟨rfl, rfl⟩⟩
  refine Wp_cond_false (congrArg Value.bool hb20) ?_
  refine Wp_skip ?_
  refine tn ?_
  refine Wp_seq ?_
  refine Wp_region_lit ?_
  refine W_v (.agg #[.int .i64 a0.Tasks, .int .i64 a0.Active, .int .i64 a0.Keys, .int .i64 a0.Depth, .int .i64 a0.TS, .int .i64 a0.KeyLen, .int .i64 a0.ValLen, .int .i64 a0.Fan]) (x_loadA (S.blk 0 rfl) ty23 rfl (sub_of_extract rfl) rfl rfl) rfl ?_
  obtain ⟨t24, ht25, H⟩ := bindS H
  rcases t24 with t26 | t27
  · skip
    replace H := elimL H
    refine W_callF2 fn13 (model_New_v.con k M a0 (Sum.inl t26)  ht25) (Γ1 := []) (Γ2 := [_]) S rfl rfl (by rintro _ _ _ ⟨rfl, rfl⟩; exact flat_nil) ?_
    rintro _ w28 _ Γ' E' S ⟨rfl, rfl⟩
    replace E := E.trans E'
    clear E'
    replace S : St w28 M F [_] := S
    refine W_v _ (x_move rfl) rfl ?_
    refine W_v (.pointer none) (x_extract rfl rfl) rfl ?_
    refine W_v (.int .i64 1) (x_extract rfl rfl) rfl ?_
    refine W_v (.pointer none) (x_assign rfl) rfl ?_
    refine W_v (.int .i64 1) (x_assign rfl) rfl ?_
    refine Wl_nil ?_
    refine tn ?_
    refine Wp_seq ?_
    refine Wp_region_lit ?_
    refine W_v (.agg #[.int .i64 a0.Tasks, .int .i64 a0.Active, .int .i64 a0.Keys, .int .i64 a0.Depth, .int .i64 a0.TS, .int .i64 a0.KeyLen, .int .i64 a0.ValLen, .int .i64 a0.Fan]) (x_loadA (S.blk 0 rfl) ty23 rfl (sub_of_extract rfl) rfl rfl) rfl ?_
    obtain ⟨t31, ht32, H⟩ := bindS H
    rcases t31 with t33 | t34
    · skip
      replace H := elimL H
      refine W_callF2 fn13 (model_New_v.con k M a0 (Sum.inl t33)  ht32) (Γ1 := []) (Γ2 := [_]) S rfl rfl (by rintro _ _ _ ⟨rfl, rfl⟩; exact flat_nil) ?_
      rintro _ w35 _ Γ' E' S ⟨rfl, rfl⟩
      replace E := E.trans E'
      clear E'
      replace S : St w35 M F [_] := S
      refine W_v _ (x_move rfl) rfl ?_
      refine W_v (.pointer none) (x_extract rfl rfl) rfl ?_
      refine W_v (.int .i64 1) (x_extract rfl rfl) rfl ?_
      refine W_v (.pointer none) (x_assign rfl) rfl ?_
      refine W_v (.int .i64 1) (x_assign rfl) rfl ?_
      refine Wl_nil ?_
      refine tn ?_
      refine Wp_seq ?_
      refine Wp_seq ?_
      refine Wp_region_lit ?_
      refine W_v _ (x_move rfl) rfl ?_
      refine W_v (.bool true) (x_ibin rfl rfl rfl rfl) rfl ?_
      refine W_v _ (x_move rfl) rfl ?_
      refine W_no (rfl) rfl ?_
      refine W_no (rfl) rfl ?_
      refine W_v _ (x_pick (k := true) rfl rfl) rfl ?_
      refine Wl_nil ?_
      refine tn ?_
      refine Wp_cond_true rfl ?_
      refine Wp_seq ?_
      refine Wp_region_lit ?_
      refine W_v _ (x_move rfl) rfl ?_
      refine W_v _ (x_move rfl) rfl ?_
      refine W_v (.bool true) (x_ibin rfl rfl rfl rfl) rfl ?_
      refine W_v (.bool true) (x_assign rfl) rfl ?_
      refine Wl_nil ?_
      refine tn ?_
      refine Wp_ret ?_
      refine tr (?_)
      obtain rfl := Option.some.inj H
      exact ⟨_, _, _, fun w1 e1 => run_resR (vs := [.bool true]) (FA.cons (rfl) (FA.nil)), HM, E, S.pick [] (by decide), ⟨rfl, rfl⟩⟩
    · skip
      replace H := elimR H
      refine W_call fn13 (model_New_v.con k M a0 (Sum.inr t34)  ht32) (Γ1 := []) (Γ2 := [_]) S rfl rfl ?_
      rintro _ w54 M55 Γ' hM56 E' S ⟨b38, A40, c41, A43, c44, A46, c47, A49, c50, vs52, rfl, hm53, rfl⟩
      replace hg0 : ∃ gt fr, _ := (let ⟨gt, fr, h8⟩ := hg0; ⟨gt, fr, hM56 _ _ h8⟩)
      replace HM := Hp.le_trans HM hM56
      replace hr1 := SlR.mono hr1 hM56
      replace E := E.trans E'
      clear E'
      replace S : St w54 M55 F [_, _, _, _, _, _] := S
      refine W_v _ (x_move rfl) rfl ?_
      refine W_v (.pointer (some ⟨b38, 0, none⟩)) (x_extract rfl rfl) rfl ?_
      refine W_v (.int .i64 0) (x_extract rfl rfl) rfl ?_
      refine W_v (.pointer (some ⟨b38, 0, none⟩)) (x_assign rfl) rfl ?_
      refine W_v (.int .i64 0) (x_assign rfl) rfl ?_
      refine Wl_nil ?_
      refine tn ?_
      refine Wp_seq ?_
      refine Wp_seq ?_
      refine Wp_region_lit ?_
      refine W_v _ (x_move rfl) rfl ?_
      refine W_v (.bool true) (x_ibin rfl rfl rfl rfl) rfl ?_
      refine W_v _ (x_move rfl) rfl ?_
      refine W_no (rfl) rfl ?_
      refine W_no (rfl) rfl ?_
      refine W_v _ (x_pick (k := true) rfl rfl) rfl ?_
      refine Wl_nil ?_
      refine tn ?_
      refine Wp_cond_true rfl ?_
      refine Wp_seq ?_
      refine Wp_region_lit ?_
      refine W_v _ (x_move rfl) rfl ?_
      refine W_v _ (x_move rfl) rfl ?_
      refine W_v (.bool false) (x_ibin rfl rfl rfl rfl) rfl ?_
      refine W_v (.bool false) (x_assign rfl) rfl ?_
      refine Wl_nil ?_
      refine tn ?_
      refine Wp_ret ?_
      refine tr (?_)
      obtain rfl := Option.some.inj H
      exact ⟨_, _, _, fun w1 e1 => run_resR (vs := [.bool false]) (FA.cons (rfl) (FA.nil)), HM, E, S.pick [] (by decide), ⟨rfl, rfl⟩⟩
  · skip
    replace H := elimR H
    refine W_call fn13 (model_New_v.con k M a0 (Sum.inr t27)  ht25) (Γ1 := []) (Γ2 := [_]) S rfl rfl ?_
    rintro _ w73 M74 Γ' hM75 E' S ⟨b57, A59, c60, A62, c63, A65, c66, A68, c69, vs71, rfl, hm72, rfl⟩
    replace hg0 : ∃ gt fr, _ := (let ⟨gt, fr, h8⟩ := hg0; ⟨gt, fr, hM75 _ _ h8⟩)
    replace HM := Hp.le_trans HM hM75
    replace hr1 := SlR.mono hr1 hM75
    replace E := E.trans E'
    clear E'
    replace S : St w73 M74 F [_, _, _, _, _, _] := S
    refine W_v _ (x_move rfl) rfl ?_
    refine W_v (.pointer (some ⟨b57, 0, none⟩)) (x_extract rfl rfl) rfl ?_
    refine W_v (.int .i64 0) (x_extract rfl rfl) rfl ?_
    refine W_v (.pointer (some ⟨b57, 0, none⟩)) (x_assign rfl) rfl ?_
    refine W_v (.int .i64 0) (x_assign rfl) rfl ?_
    refine Wl_nil ?_
    refine tn ?_
    refine Wp_seq ?_
    refine Wp_region_lit ?_
    refine W_v (.agg #[.int .i64 a0.Tasks, .int .i64 a0.Active, .int .i64 a0.Keys, .int .i64 a0.Depth, .int .i64 a0.TS, .int .i64 a0.KeyLen, .int .i64 a0.ValLen, .int .i64 a0.Fan]) (x_loadA (S.blk 5 rfl) ty23 rfl (sub_of_extract rfl) rfl rfl) rfl ?_
    obtain ⟨t76, ht77, H⟩ := bindS H
    rcases t76 with t78 | t79
    · skip
      replace H := elimL H
      refine W_callF2 fn13 (model_New_v.con k M74 a0 (Sum.inl t78)  ht77) (Γ1 := []) (Γ2 := [_, _, _, _, _, _]) S rfl rfl (by rintro _ _ _ ⟨rfl, rfl⟩; exact flat_nil) ?_
      rintro _ w80 _ Γ' E' S ⟨rfl, rfl⟩
      replace E := E.trans E'
      clear E'
      replace S : St w80 M74 F [_, _, _, _, _, _] := S
      refine W_v _ (x_move rfl) rfl ?_
      refine W_v (.pointer none) (x_extract rfl rfl) rfl ?_
      refine W_v (.int .i64 1) (x_extract rfl rfl) rfl ?_
      refine W_v (.pointer none) (x_assign rfl) rfl ?_
      refine W_v (.int .i64 1) (x_assign rfl) rfl ?_
      refine Wl_nil ?_
      refine tn ?_
      refine Wp_seq ?_
      refine Wp_seq ?_
      refine Wp_region_lit ?_
      refine W_v _ (x_move rfl) rfl ?_
      refine W_v (.bool false) (x_ibin rfl rfl rfl rfl) rfl ?_
      refine W_v _ (x_move rfl) rfl ?_
      refine W_yes (rfl) ?_
      refine W_v _ (x_move rfl) rfl ?_
      refine W_yes (rfl) ?_
      refine W_v (.bool true) (x_ibin rfl rfl rfl rfl) rfl ?_
      refine W_v _ (x_pick (k := false) rfl rfl) rfl ?_
      refine Wl_nil ?_
      refine tn ?_
      refine Wp_cond_true rfl ?_
      refine Wp_seq ?_
      refine Wp_region_lit ?_
      refine W_v _ (x_move rfl) rfl ?_
      refine W_v _ (x_move rfl) rfl ?_
      refine W_v (.bool false) (x_ibin rfl rfl rfl rfl) rfl ?_
      refine W_v (.bool false) (x_assign rfl) rfl ?_
      refine Wl_nil ?_
      refine tn ?_
      refine Wp_ret ?_
      refine tr (?_)
      obtain rfl := Option.some.inj H
      exact ⟨_, _, _, fun w1 e1 => run_resR (vs := [.bool false]) (FA.cons (rfl) (FA.nil)), HM, E, S.pick [] (by decide), ⟨rfl, rfl⟩⟩
    · skip
      replace H := elimR H
      refine W_call fn13 (model_New_v.con k M74 a0 (Sum.inr t79)  ht77) (Γ1 := []) (Γ2 := [_, _, _, _, _, _]) S rfl rfl ?_
      rintro _ w99 M100 Γ' hM101 E' S ⟨b83, A85, c86, A88, c89, A91, c92, A94, c95, vs97, rfl, hm98, rfl⟩
      replace hg0 : ∃ gt fr, _ := (let ⟨gt, fr, h8⟩ := hg0; ⟨gt, fr, hM101 _ _ h8⟩)
      replace HM := Hp.le_trans HM hM101
      replace hr1 := SlR.mono hr1 hM101
      replace hm72 := MRel.mono hm72 hM101
      replace E := E.trans E'
      clear E'
      replace S : St w99 M100 F [_, _, _, _, _, _, _, _, _, _, _] := S
      refine W_v _ (x_move rfl) rfl ?_
      refine W_v (.pointer (some ⟨b83, 0, none⟩)) (x_extract rfl rfl) rfl ?_
      refine W_v (.int .i64 0) (x_extract rfl rfl) rfl ?_
      refine W_v (.pointer (some ⟨b83, 0, none⟩)) (x_assign rfl) rfl ?_
      refine W_v (.int .i64 0) (x_assign rfl) rfl ?_
      refine Wl_nil ?_
      refine tn ?_
      refine Wp_seq ?_
      refine Wp_seq ?_
      refine Wp_region_lit ?_
      refine W_v _ (x_move rfl) rfl ?_
      refine W_v (.bool false) (x_ibin rfl rfl rfl rfl) rfl ?_
      refine W_v _ (x_move rfl) rfl ?_
      refine W_yes (rfl) ?_
      refine W_v _ (x_move rfl) rfl ?_
      refine W_yes (rfl) ?_
      refine W_v (.bool false) (x_ibin rfl rfl rfl rfl) rfl ?_
      refine W_v _ (x_pick (k := false) rfl rfl) rfl ?_
      refine Wl_nil ?_
      refine tn ?_
      refine Wp_cond_false rfl ?_
      refine Wp_skip ?_
      refine tn ?_
      refine Wp_seq ?_
      refine Wp_seq ?_
      refine Wp_region_lit ?_
      refine W_v (.int .i64 0) (x_assign rfl) rfl ?_
      refine Wl_nil ?_
      refine tn ?_
      obtain ⟨o9012, o9012h, o9012H⟩ := bindS H
      clear H
      refine Wp_blockJ (fun ρ w' => ∃ (x8982 : model_Model) (x8997 : model_Model) (A8983 : Option Addr) (c8984 : Nat) (A8986 : Option Addr) (c8987 : Nat) (A8989 : Option Addr) (c8990 : Nat) (A8992 : Option Addr) (c8993 : Nat) (vs8995 : List (Str × Value)) (A8998 : Option Addr) (c8999 : Nat) (A9001 : Option Addr) (c9002 : Nat) (A9004 : Option Addr) (c9005 : Nat) (A9007 : Option Addr) (c9008 : Nat) (vs9010 : List (Str × Value)) (Mj : Hp), .inr (x8982, x8997) = o9012 ∧ Agree ρ [(7, .pointer (some ⟨b57, 0, none⟩)), (9, .pointer (some ⟨b83, 0, none⟩))] ∧ M100.le Mj ∧ Ext w w' ∧ St w' Mj F [MapC encS (fun v : Value => v) A9007 vs9010, Row r_model_tx 99 (.slice A9004 x8997.txs.length c9005) x8997.txs, MapC (Value.int .i64) (Value.int .i64) A9001 x8997.many, MapC enc_model_name (Value.int .i64) A8998 x8997.names, MapC encS (fun v : Value => v) A8992 vs8995, Row r_model_tx 99 (.slice A8989 x8982.txs.length c8990) x8982.txs, MapC (Value.int .i64) (Value.int .i64) A8986 x8982.many, MapC enc_model_name (Value.int .i64) A8983 x8982.names, B94 b83 x8982 A8983 A8986 A8989 c8990 A8992, B94 b57 x8997 A8998 A9001 A9004 c9005 A9007] ∧ MRel r_model_row Mj x8982.rows vs8995 ∧ MRel r_model_row Mj x8997.rows vs9010) ?_ ?_
      · skip
        refine Wp_loop (fun n ρ w' => ∃ (x6022 : Int) (x6023 : model_Model) (x6038 : model_Model) (A6024 : Option Addr) (c6025 : Nat) (A6027 : Option Addr) (c6028 : Nat) (A6030 : Option Addr) (c6031 : Nat) (A6033 : Option Addr) (c6034 : Nat) (vs6036 : List (Str × Value)) (A6039 : Option Addr) (c6040 : Nat) (A6042 : Option Addr) (c6043 : Nat) (A6045 : Option Addr) (c6046 : Nat) (A6048 : Option Addr) (c6049 : Nat) (vs6051 : List (Str × Value)) (Mj : Hp), ferrymanlaw16_ModelTasks_l0 a0 a1 a2 n x6022 x6023 x6038 = some o9012 ∧ Agree ρ [(1, .slice A1 a1.length c1), (2, .int .i64 a2), (3, .pointer (some ⟨b1, 0, none⟩)), (7, .pointer (some ⟨b57, 0, none⟩)), (9, .pointer (some ⟨b83, 0, none⟩)), (11, .int .i64 x6022)] ∧ M100.le Mj ∧ Ext w w' ∧ St w' Mj F [MapC encS (fun v : Value => v) A6048 vs6051, Row r_model_tx 99 (.slice A6045 x6038.txs.length c6046) x6038.txs, MapC (Value.int .i64) (Value.int .i64) A6042 x6038.many, MapC enc_model_name (Value.int .i64) A6039 x6038.names, MapC encS (fun v : Value => v) A6033 vs6036, Row r_model_tx 99 (.slice A6030 x6023.txs.length c6031) x6023.txs, MapC (Value.int .i64) (Value.int .i64) A6027 x6023.many, MapC enc_model_name (Value.int .i64) A6024 x6023.names, B94 b83 x6023 A6024 A6027 A6030 c6031 A6033, B94 b57 x6038 A6039 A6042 A6045 c6046 A6048, B23 b1 a0] ∧ MRel r_model_row Mj x6023.rows vs6036 ∧ MRel r_model_row Mj x6038.rows vs6051) k ?_ ?_
        · skip
          exact ⟨(0 : Int), t79, t27, A85, c86, A88, c89, A91, c92, A94, c95, vs97, A59, c60, A62, c63, A65, c66, A68, c69, vs71, M100, o9012h, ⟨rfl, rfl, rfl, rfl, rfl, rfl, trivial⟩, (Hp.le_refl M100), E, S.pick [9, 8, 7, 6, 4, 3, 2, 1, 0, 5, 10] (by decide), hm98, hm72⟩
        · intro n
          rintro ρ w9013 ⟨x6022, x6023, x6038, A6024, c6025, A6027, c6028, A6030, c6031, A6033, c6034, vs6036, A6039, c6040, A6042, c6043, A6045, c6046, A6048, c6049, vs6051, M9014, H, hρ, hM9015, E, S, hm6037, hm6052⟩
          rw [agree_eta hρ]
          clear hρ
          replace hg0 : ∃ gt fr, _ := (let ⟨gt, fr, h8⟩ := hg0; ⟨gt, fr, hM9015 _ _ h8⟩)
          replace HM := Hp.le_trans HM hM9015
          replace hr1 := SlR.mono hr1 hM9015
          replace hm72 := MRel.mono hm72 hM9015
          replace hm98 := MRel.mono hm98 hM9015
          cases n with
          | zero => cases H
          | succ k =>
            rw [ferrymanlaw16_ModelTasks_l0.eq_2] at H
            refine Wp_seq ?_
            refine Wp_seq ?_
            refine Wp_region_lit ?_
            refine W_v _ (x_move rfl) rfl ?_
            refine W_v _ (x_move rfl) rfl ?_
            refine W_v (.int .i64 (a1.length : Int)) (x_len_slice (n := a1.length) Tryd.underlying24 rfl) rfl ?_
            refine W_v (.bool (decide (x6022 < (a1.length : Int)))) (x_ibin rfl rfl rfl rfl) rfl ?_
            refine Wl_nil ?_
            refine tn ?_
            rcases iteS H with ⟨hb9016, H⟩ | ⟨hb9016, H⟩
            · refine Wp_cond_true (congrArg Value.bool hb9016) ?_
              refine Wp_skip ?_
              refine tn ?_
              refine Wp_seq ?_
              refine Wp_block ?_
              refine Wp_seq ?_
              refine Wp_region_lit ?_
              refine W_v _ (x_move rfl) rfl ?_
              refine W_v _ (x_move rfl) rfl ?_
              obtain ⟨⟨p9017, p9018⟩, H⟩ := chkS H
              obtain ⟨b9019, o9020, cs9021, _, _, ee9026, hb9022, vs9023, hR9024, hc9025⟩ := SlW.at' hr1 p9017 p9018
              obtain rfl : vs9023 = _ := hR9024
              refine W_v (.pointer (some ⟨b9019, o9020 + x6022.toNat * 8, none⟩)) (x_indexAddr Tryd.underlying24 ty39 (slA ee9026) rfl p9017 p9018) rfl ?_
              refine W_v (.agg #[.int .i64 ((rd a1 x6022).Task), .int .u8 ((rd a1 x6022).Call.Kind), .int .i64 ((rd a1 x6022).Call.Tx), .string (bs ((rd a1 x6022).Call.Key)), .string (bs ((rd a1 x6022).Call.End)), .string (bs ((rd a1 x6022).Call.Value)), .int .i64 ((rd a1 x6022).Call.Limit), .int .u8 ((rd a1 x6022).Call.Engine)]) (x_loadA (S.frz hb9022) ty39 rfl (sub_el hc9025 0 rfl) rfl rfl) rfl ?_
              refine W_alloc S #[.int .i64 0, .int .u8 0, .int .i64 0, .string (bs ([] : Str)), .string (bs ([] : Str)), .string (bs ([] : Str)), .int .i64 0, .int .u8 0] ty39 rfl rfl ?_
              intro b9027 w9028 E' S
              replace E := E.trans E'
              clear E'
              refine W_store S 0 rfl ty39 rfl rfl [.int .i64 ((rd a1 x6022).Task), .int .u8 ((rd a1 x6022).Call.Kind), .int .i64 ((rd a1 x6022).Call.Tx), .string (bs ((rd a1 x6022).Call.Key)), .string (bs ((rd a1 x6022).Call.End)), .string (bs ((rd a1 x6022).Call.Value)), .int .i64 ((rd a1 x6022).Call.Limit), .int .u8 ((rd a1 x6022).Call.Engine)] rfl rfl rfl #[.int .i64 ((rd a1 x6022).Task), .int .u8 ((rd a1 x6022).Call.Kind), .int .i64 ((rd a1 x6022).Call.Tx), .string (bs ((rd a1 x6022).Call.Key)), .string (bs ((rd a1 x6022).Call.End)), .string (bs ((rd a1 x6022).Call.Value)), .int .i64 ((rd a1 x6022).Call.Limit), .int .u8 ((rd a1 x6022).Call.Engine)] (by kernel_rfl) rfl ?_
              intro w9030 E' S
              replace E := E.trans E'
              clear E'
              refine Wl_nil ?_
              refine tn ?_
              refine Wp_seq ?_
              refine Wp_region_lit ?_
              refine W_v _ (x_fieldAddr (o := 0) (off := 0) Tryd.underlying39 rfl ty3 rfl rfl) rfl ?_
              refine W_v (.int .i64 ((rd a1 x6022).Task)) (x_load (S.blk 0 rfl) ty3 rfl rfl) rfl ?_
              refine W_v (.int .i64 ((rd a1 x6022).Task)) (x_assign rfl) rfl ?_
              refine Wl_nil ?_
              refine tn ?_
              refine Wp_seq ?_
              refine Wp_seq ?_
              refine Wp_region_lit ?_
              refine W_v _ (x_fieldAddr (o := 0) (off := 0) Tryd.underlying39 rfl ty3 rfl rfl) rfl ?_
              refine W_v (.int .i64 ((rd a1 x6022).Task)) (x_load (S.blk 0 rfl) ty3 rfl rfl) rfl ?_
              refine W_v (.bool (decide ((rd a1 x6022).Task ≥ (0 : Int)))) (x_ibin rfl rfl rfl rfl) rfl ?_
              refine W_v _ (x_move rfl) rfl ?_
              refine Wl_cutN 6 (fun ρ w' => Agree ρ [(1, .slice A1 a1.length c1), (2, .int .i64 a2), (3, .pointer (some ⟨b1, 0, none⟩)), (7, .pointer (some ⟨b57, 0, none⟩)), (9, .pointer (some ⟨b83, 0, none⟩)), (11, .int .i64 x6022), (12, .pointer (some ⟨b9027, 0, none⟩)), (13, .int .i64 ((rd a1 x6022).Task)), (64, .bool ((decide ((rd a1 x6022).Task ≥ (0 : Int))) && (decide ((rd a1 x6022).Task < a0.Tasks))))] ∧ w9030 = w') ?_ ?_
              · rcases boolCases (decide ((rd a1 x6022).Task ≥ (0 : Int))) with hb9031 | hb9031
                · skip
                  refine W_no (skT hb9031) rfl ?_
                  refine W_no (skT hb9031) rfl ?_
                  refine W_no (skT hb9031) rfl ?_
                  refine W_no (skT hb9031) rfl ?_
                  refine W_no (skT hb9031) rfl ?_
                  refine W_v _ (x_pick (k := false) (congrArg Value.bool hb9031) rfl) rfl ?_
                  refine Wl_nil ?_
                  exact ⟨⟨rfl, rfl, rfl, rfl, rfl, rfl, rfl, rfl, (by first | rfl | (rw [hb9031]; rfl) | (simp only [hb9031]; rfl)), trivial⟩, rfl⟩
                · skip
                  refine W_yes (congrArg some hb9031) ?_
                  refine W_v _ (x_fieldAddr (o := 0) (off := 0) Tryd.underlying39 rfl ty3 rfl rfl) rfl ?_
                  refine W_yes (congrArg some hb9031) ?_
                  refine W_v (.int .i64 ((rd a1 x6022).Task)) (x_load (S.blk 0 rfl) ty3 rfl rfl) rfl ?_
                  refine W_yes (congrArg some hb9031) ?_
                  refine W_v _ (x_fieldAddr (o := 0) (off := 0) Tryd.underlying23 rfl ty3 rfl rfl) rfl ?_
                  refine W_yes (congrArg some hb9031) ?_
                  refine W_v (.int .i64 a0.Tasks) (x_load (S.blk 11 rfl) ty3 rfl rfl) rfl ?_
                  refine W_yes (congrArg some hb9031) ?_
                  refine W_v (.bool (decide ((rd a1 x6022).Task < a0.Tasks))) (x_ibin rfl rfl rfl rfl) rfl ?_
                  refine W_v _ (x_pick (k := true) (congrArg Value.bool hb9031) rfl) rfl ?_
                  refine Wl_nil ?_
                  exact ⟨⟨rfl, rfl, rfl, rfl, rfl, rfl, rfl, rfl, (by first | rfl | (rw [hb9031]; rfl) | (simp only [hb9031]; rfl)), trivial⟩, rfl⟩
              as_aux_lemma =>
              rintro ρ _ ⟨hρ, rfl⟩
              rw [agree_eta hρ]
              clear hρ
              refine Wl_nil ?_
              refine tn ?_
              obtain ⟨o9047, o9047h, o9047H⟩ := bindS H
              refine Wp_cut (fun ρ w' => ∃ (x9046 : Int), (x9046) = o9047 ∧ Agree ρ [(1, .slice A1 a1.length c1), (2, .int .i64 a2), (3, .pointer (some ⟨b1, 0, none⟩)), (7, .pointer (some ⟨b57, 0, none⟩)), (9, .pointer (some ⟨b83, 0, none⟩)), (11, .int .i64 x6022), (12, .pointer (some ⟨b9027, 0, none⟩)), (13, .int .i64 x9046)] ∧ Ext w w' ∧ St w' M9014 F [B39 b9027 (rd a1 x6022), MapC encS (fun v : Value => v) A6048 vs6051, Row r_model_tx 99 (.slice A6045 x6038.txs.length c6046) x6038.txs, MapC (Value.int .i64) (Value.int .i64) A6042 x6038.many, MapC enc_model_name (Value.int .i64) A6039 x6038.names, MapC encS (fun v : Value => v) A6033 vs6036, Row r_model_tx 99 (.slice A6030 x6023.txs.length c6031) x6023.txs, MapC (Value.int .i64) (Value.int .i64) A6027 x6023.many, MapC enc_model_name (Value.int .i64) A6024 x6023.names, B94 b83 x6023 A6024 A6027 A6030 c6031 A6033, B94 b57 x6038 A6039 A6042 A6045 c6046 A6048, B23 b1 a0]) ?_ ?_
              · clear o9047H
                have H := o9047h
                clear o9047h
                rcases iteS H with ⟨hb9048, H⟩ | ⟨hb9048, H⟩
                · refine Wp_cond_true (congrArg Value.bool hb9048) ?_
                  refine Wp_region_any (S := fun w' => ∃ Mx, M9014.le Mx ∧ St w' Mx F [B39 b9027 (rd a1 x6022), MapC encS (fun v : Value => v) A6048 vs6051, Row r_model_tx 99 (.slice A6045 x6038.txs.length c6046) x6038.txs, MapC (Value.int .i64) (Value.int .i64) A6042 x6038.many, MapC enc_model_name (Value.int .i64) A6039 x6038.names, MapC encS (fun v : Value => v) A6033 vs6036, Row r_model_tx 99 (.slice A6030 x6023.txs.length c6031) x6023.txs, MapC (Value.int .i64) (Value.int .i64) A6027 x6023.many, MapC enc_model_name (Value.int .i64) A6024 x6023.names, B94 b83 x6023 A6024 A6027 A6030 c6031 A6033, B94 b57 x6038 A6039 A6042 A6045 c6046 A6048, B23 b1 a0]) (L := 14) mixed ?_
                  intro w9051 hw9052 E'
                  replace S := S.heap hw9052
                  replace E := E.trans E'
                  clear E'
                  have D1 : ∃ Mx, Hp.le M9014 Mx ∧ St _ Mx F [_, _, _, _, _, _, _, _, _, _, _, _] := ⟨_, Hp.le_refl _, S.pick [0, 1, 2, 3, 4, 5, 6, 7, 8, 9, 10, 11] (by decide)⟩
                  refine Wa_take (i := 0) rfl (by kernel_rfl) rfl rfl _ rfl (fun w' h' => x_fieldAddr (o := 0) (off := 0) Tryd.underlying39 rfl ty3 rfl rfl) D1 ?_
                  refine Wa_take (i := 1) rfl (by kernel_rfl) rfl rfl (.int .i64 ((rd a1 x6022).Task)) rfl (fun w' h' => x_load (cls_blk h' 0 rfl) ty3 rfl rfl) D1 ?_
                  refine Wa_take (i := 2) rfl (by kernel_rfl) rfl rfl _ rfl (fun w' h' => x_move rfl) D1 ?_
                  refine Wa_take (i := 3) rfl (by kernel_rfl) rfl rfl (.int .u64 (IntKind.u64.wrap a2)) rfl (fun w' h' => x_conv_int Tryd.underlying3 Tryd.underlying76 rfl) D1 ?_
                  refine Wa_take (i := 4) rfl (by kernel_rfl) rfl rfl _ rfl (fun w' h' => x_fieldAddr (o := 0) (off := 0) Tryd.underlying23 rfl ty3 rfl rfl) D1 ?_
                  refine Wa_take (i := 5) rfl (by kernel_rfl) rfl rfl (.int .i64 a0.Tasks) rfl (fun w' h' => x_load (cls_blk h' 11 rfl) ty3 rfl rfl) D1 ?_
                  refine Wa_take (i := 6) rfl (by kernel_rfl) rfl rfl (.int .u64 (IntKind.u64.wrap a0.Tasks)) rfl (fun w' h' => x_conv_int Tryd.underlying3 Tryd.underlying76 rfl) D1 ?_
                  obtain ⟨p9053, H⟩ := chkS H
                  refine Wa_take (i := 7) rfl (by kernel_rfl) rfl rfl (.int .u64 (Int.tmod (IntKind.u64.wrap a2) (IntKind.u64.wrap a0.Tasks))) rfl (fun w' h' => x_rem rfl rfl p9053) D1 ?_
                  refine Wa_take (i := 8) rfl (by kernel_rfl) rfl rfl (.int .i64 (IntKind.i64.wrap (Int.tmod (IntKind.u64.wrap a2) (IntKind.u64.wrap a0.Tasks)))) rfl (fun w' h' => x_conv_int Tryd.underlying76 Tryd.underlying3 rfl) D1 ?_
                  refine Wa_take (i := 9) rfl (by kernel_rfl) rfl rfl (.int .i64 (IntKind.i64.wrap ((rd a1 x6022).Task + (IntKind.i64.wrap (Int.tmod (IntKind.u64.wrap a2) (IntKind.u64.wrap a0.Tasks)))))) rfl (fun w' h' => x_ibin rfl rfl rfl rfl) D1 ?_
                  refine Wa_take (i := 10) rfl (by kernel_rfl) rfl rfl _ rfl (fun w' h' => x_fieldAddr (o := 0) (off := 0) Tryd.underlying23 rfl ty3 rfl rfl) D1 ?_
                  refine Wa_take (i := 11) rfl (by kernel_rfl) rfl rfl (.int .i64 a0.Tasks) rfl (fun w' h' => x_load (cls_blk h' 11 rfl) ty3 rfl rfl) D1 ?_
                  obtain ⟨p9054, H⟩ := chkS H
                  refine Wa_take (i := 12) rfl (by kernel_rfl) rfl rfl (.int .i64 (Int.tmod (IntKind.i64.wrap ((rd a1 x6022).Task + (IntKind.i64.wrap (Int.tmod (IntKind.u64.wrap a2) (IntKind.u64.wrap a0.Tasks))))) a0.Tasks)) rfl (fun w' h' => x_rem rfl rfl p9054) D1 ?_
                  refine Wa_take (i := 13) rfl (by kernel_rfl) rfl rfl (.int .i64 (Int.tmod (IntKind.i64.wrap ((rd a1 x6022).Task + (IntKind.i64.wrap (Int.tmod (IntKind.u64.wrap a2) (IntKind.u64.wrap a0.Tasks))))) a0.Tasks)) rfl (fun w' h' => x_assign rfl) D1 ?_
                  refine Wa_done (by kernel_rfl) ?_
                  refine tn ?_
                  exact ⟨(Int.tmod (IntKind.i64.wrap ((rd a1 x6022).Task + (IntKind.i64.wrap (Int.tmod (IntKind.u64.wrap a2) (IntKind.u64.wrap a0.Tasks))))) a0.Tasks), Option.some.inj H, ⟨rfl, rfl, rfl, rfl, rfl, rfl, rfl, rfl, trivial⟩, E, S.pick [0, 1, 2, 3, 4, 5, 6, 7, 8, 9, 10, 11] (by decide)⟩
                refine Wp_cond_false (congrArg Value.bool hb9048) ?_
                refine Wp_skip ?_
                refine tn ?_
                exact ⟨((rd a1 x6022).Task), Option.some.inj H, ⟨rfl, rfl, rfl, rfl, rfl, rfl, rfl, rfl, trivial⟩, E, S.pick [0, 1, 2, 3, 4, 5, 6, 7, 8, 9, 10, 11] (by decide)⟩
              as_aux_lemma =>
              clear o9047h
              rintro ρ w9055 ⟨x9046, rfl, hρ, E, S⟩
              rw [agree_eta hρ]
              clear hρ
              have H := o9047H
              clear o9047H
              refine tn ?_
              refine Wp_seq ?_
              refine Wp_region_lit ?_
              refine W_v _ (x_move rfl) rfl ?_
              obtain ⟨t9056, ht9057, H⟩ := bindS H
              replace S : St w9055 M9014 F [_, _, _, _, _, _, _, _, _, _, _, _] := S.pick [10, 4, 3, 2, 1, 0, 5, 6, 7, 8, 9, 11] (by decide)
              refine W_call fn29 (model_Model_Copy_POOOO.con k M9014 A6039 c6040 A6042 c6043 A6045 c6046 A6048 c6049 vs6051 x6038 b57 t9056 hm6052 ht9057) (Γ1 := [_, _, _, _, _]) (Γ2 := [_, _, _, _, _, _, _]) S rfl rfl ?_
              rintro _ w9074 M9075 Γ' hM9076 E' S ⟨b9058, A9060, c9061, A9063, c9064, A9066, c9067, A9069, c9070, vs9072, rfl, hm9073, rfl⟩
              replace hg0 : ∃ gt fr, _ := (let ⟨gt, fr, h8⟩ := hg0; ⟨gt, fr, hM9076 _ _ h8⟩)
              replace HM := Hp.le_trans HM hM9076
              replace hM9015 := Hp.le_trans hM9015 hM9076
              replace hr1 := SlR.mono hr1 hM9076
              replace hm72 := MRel.mono hm72 hM9076
              replace hm98 := MRel.mono hm98 hM9076
              replace hm6037 := MRel.mono hm6037 hM9076
              replace hm6052 := MRel.mono hm6052 hM9076
              replace hb9022 := hM9076 _ _ hb9022
              replace E := E.trans E'
              clear E'
              replace S : St w9074 M9075 F [_, _, _, _, _, _, _, _, _, _, _, _, _, _, _, _, _] := S
              refine W_v (.pointer (some ⟨b9058, 0, none⟩)) (x_assign rfl) rfl ?_
              refine Wl_nil ?_
              refine tn ?_
              refine Wp_seq ?_
              have LE10477 := Hp.le_refl M9075
              refine Wp_region_any (S := fun w' => ∃ Mx, M9075.le Mx ∧ St w' Mx F [B94 b9058 t9056 A9060 A9063 A9066 c9067 A9069, MapC enc_model_name (Value.int .i64) A9060 t9056.names, MapC (Value.int .i64) (Value.int .i64) A9063 t9056.many, Row r_model_tx 99 (.slice A9066 t9056.txs.length c9067) t9056.txs, MapC encS (fun v : Value => v) A9069 vs9072, B39 b9027 (rd a1 x6022), B23 b1 a0]) (L := 13) mixed ?_
              intro w10478 hw10479 E'
              replace S := S.heap hw10479
              replace E := E.trans E'
              clear E'
              have hr1z := hr1
              have D2 : ∃ Mx, Hp.le M9075 Mx ∧ St _ Mx F [_, _, _, _, _, _, _] := ⟨_, Hp.le_refl _, S.pick [0, 1, 2, 3, 4, 10, 16] (by decide)⟩
              refine Wa_take (i := 0) rfl (by kernel_rfl) rfl rfl _ rfl (fun w' h' => x_move rfl) D2 ?_
              refine Wa_take (i := 1) rfl (by kernel_rfl) rfl rfl _ rfl (fun w' h' => x_fieldAddr (o := 0) (off := 0) Tryd.underlying39 rfl ty3 rfl rfl) D2 ?_
              refine Wa_take (i := 2) rfl (by kernel_rfl) rfl rfl (.int .i64 ((rd a1 x6022).Task)) rfl (fun w' h' => x_load (cls_blk h' 5 rfl) ty3 rfl rfl) D2 ?_
              refine Wa_take (i := 3) rfl (by kernel_rfl) rfl rfl _ rfl (fun w' h' => x_fieldAddr (o := 0) (off := 1) Tryd.underlying39 rfl ty37 rfl rfl) D2 ?_
              refine Wa_take (i := 4) rfl (by kernel_rfl) rfl rfl (.agg #[.int .u8 ((rd a1 x6022).Call.Kind), .int .i64 ((rd a1 x6022).Call.Tx), .string (bs ((rd a1 x6022).Call.Key)), .string (bs ((rd a1 x6022).Call.End)), .string (bs ((rd a1 x6022).Call.Value)), .int .i64 ((rd a1 x6022).Call.Limit), .int .u8 ((rd a1 x6022).Call.Engine)]) rfl (fun w' h' => x_loadA (cls_blk h' 5 rfl) ty37 rfl (sub_of_extract rfl) rfl rfl) D2 ?_
              refine Wa_take (i := 6) rfl (by kernel_rfl) rfl rfl _ rfl (fun w' h' => x_move rfl) D2 ?_
              refine Wa_take (i := 7) rfl (by kernel_rfl) rfl rfl _ rfl (fun w' h' => x_move rfl) D2 ?_
              refine Wa_take (i := 8) rfl (by kernel_rfl) rfl rfl _ rfl (fun w' h' => x_fieldAddr (o := 0) (off := 1) Tryd.underlying39 rfl ty37 rfl rfl) D2 ?_
              refine Wa_take (i := 9) rfl (by kernel_rfl) rfl rfl (.agg #[.int .u8 ((rd a1 x6022).Call.Kind), .int .i64 ((rd a1 x6022).Call.Tx), .string (bs ((rd a1 x6022).Call.Key)), .string (bs ((rd a1 x6022).Call.End)), .string (bs ((rd a1 x6022).Call.Value)), .int .i64 ((rd a1 x6022).Call.Limit), .int .u8 ((rd a1 x6022).Call.Engine)]) rfl (fun w' h' => x_loadA (cls_blk h' 5 rfl) ty37 rfl (sub_of_extract rfl) rfl rfl) D2 ?_
              obtain ⟨o11610, o11610h, o11610H⟩ := bindS H
              clear H
              refine Wa_join (fun ρ w' => ∃ (x10943 : Int) (x10944 : Bool) (x10945 : Str) (x10946 : List api_Pair) (x10950 : Int) (x10951 : Bool) (x10952 : Str) (x10953 : List api_Pair) (x10957 : model_Model) (x10972 : model_Model) (A10947 : Option Addr) (c10948 : Nat) (A10954 : Option Addr) (c10955 : Nat) (A10958 : Option Addr) (c10959 : Nat) (A10961 : Option Addr) (c10962 : Nat) (A10964 : Option Addr) (c10965 : Nat) (A10967 : Option Addr) (c10968 : Nat) (vs10970 : List (Str × Value)) (A10973 : Option Addr) (c10974 : Nat) (A10976 : Option Addr) (c10977 : Nat) (A10979 : Option Addr) (c10980 : Nat) (A10982 : Option Addr) (c10983 : Nat) (vs10985 : List (Str × Value)) (b10939 : Nat) (b10941 : Nat) (Mj : Hp), (x10943, x10944, x10945, x10946, x10950, x10951, x10952, x10953, x10957, x10972) = o11610 ∧ Agree ρ [(1, .slice A1 a1.length c1), (2, .int .i64 a2), (3, .pointer (some ⟨b1, 0, none⟩)), (7, .pointer (some ⟨b57, 0, none⟩)), (9, .pointer (some ⟨b83, 0, none⟩)), (11, .int .i64 x6022), (12, .pointer (some ⟨b9027, 0, none⟩)), (14, .pointer (some ⟨b9058, 0, none⟩)), (15, .pointer (some ⟨b10939, 0, none⟩)), (16, .pointer (some ⟨b10941, 0, none⟩)), (85, .agg #[.int .i64 x10943, .bool x10944, .string (bs x10945), .slice A10947 x10946.length c10948]), (90, .agg #[.int .i64 x10950, .bool x10951, .string (bs x10952), .slice A10954 x10953.length c10955])] ∧ M9075.le Mj ∧ Ext w w' ∧ St w' Mj F [Blk b10941 (.cells #[.int .i64 0, .bool false, .string (bs ([] : Str)), .slice none 0 0] 43 (0, 0)), Blk b10939 (.cells #[.int .i64 0, .bool false, .string (bs ([] : Str)), .slice none 0 0] 43 (0, 0)), MapC encS (fun v : Value => v) A10982 vs10985, Row r_model_tx 99 (.slice A10979 x10972.txs.length c10980) x10972.txs, MapC (Value.int .i64) (Value.int .i64) A10976 x10972.many, MapC enc_model_name (Value.int .i64) A10973 x10972.names, MapC encS (fun v : Value => v) A10967 vs10970, Row r_model_tx 99 (.slice A10964 x10957.txs.length c10965) x10957.txs, MapC (Value.int .i64) (Value.int .i64) A10961 x10957.many, MapC enc_model_name (Value.int .i64) A10958 x10957.names, Row r_api_Pair 87 (.slice A10954 x10953.length c10955) x10953, Row r_api_Pair 87 (.slice A10947 x10946.length c10948) x10946, B94 b83 x10957 A10958 A10961 A10964 c10965 A10967, B94 b57 x10972 A10973 A10976 A10979 c10980 A10982, B94 b9058 t9056 A9060 A9063 A9066 c9067 A9069, MapC enc_model_name (Value.int .i64) A9060 t9056.names, MapC (Value.int .i64) (Value.int .i64) A9063 t9056.many, Row r_model_tx 99 (.slice A9066 t9056.txs.length c9067) t9056.txs, MapC encS (fun v : Value => v) A9069 vs9072, B39 b9027 (rd a1 x6022), B23 b1 a0] ∧ MRel r_model_row Mj x10957.rows vs10970 ∧ MRel r_model_row Mj x10972.rows vs10985) 2 (Ls 15 [0, 1, 2, 3, 4, 5, 6, 7, 8, 9, 10, 11, 12]) ?_ ?_
              rotate_left
              · intro hq11622
                clear o11610H
                refine Wa_join (fun ρ w' => ∃ (x10894 : Int) (x10895 : Bool) (x10896 : Str) (x10897 : List api_Pair) (x10901 : model_Model) (A10898 : Option Addr) (c10899 : Nat) (A10902 : Option Addr) (c10903 : Nat) (A10905 : Option Addr) (c10906 : Nat) (A10908 : Option Addr) (c10909 : Nat) (A10911 : Option Addr) (c10912 : Nat) (vs10914 : List (Str × Value)) (b10890 : Nat) (b10892 : Nat) (Mj : Hp), (Option.bind (model_Model_Do_POOOO k x6023 x9046 ((rd a1 x6022).Call)) (fun t11588 => some (x10894, x10895, x10896, x10897, t11588.1.Err, t11588.1.Found, t11588.1.Value, t11588.1.Pairs, t11588.2, x10901))) = some o11610 ∧ Agree ρ [(1, .slice A1 a1.length c1), (2, .int .i64 a2), (3, .pointer (some ⟨b1, 0, none⟩)), (7, .pointer (some ⟨b57, 0, none⟩)), (9, .pointer (some ⟨b83, 0, none⟩)), (11, .int .i64 x6022), (12, .pointer (some ⟨b9027, 0, none⟩)), (14, .pointer (some ⟨b9058, 0, none⟩)), (15, .pointer (some ⟨b10890, 0, none⟩)), (16, .pointer (some ⟨b10892, 0, none⟩)), (85, .agg #[.int .i64 x10894, .bool x10895, .string (bs x10896), .slice A10898 x10897.length c10899]), (86, .pointer (some ⟨b83, 0, none⟩)), (87, .int .i64 x9046), (89, .agg #[.int .u8 ((rd a1 x6022).Call.Kind), .int .i64 ((rd a1 x6022).Call.Tx), .string (bs ((rd a1 x6022).Call.Key)), .string (bs ((rd a1 x6022).Call.End)), .string (bs ((rd a1 x6022).Call.Value)), .int .i64 ((rd a1 x6022).Call.Limit), .int .u8 ((rd a1 x6022).Call.Engine)])] ∧ M9075.le Mj ∧ Ext w w' ∧ St w' Mj F [Blk b10892 (.cells #[.int .i64 0, .bool false, .string (bs ([] : Str)), .slice none 0 0] 43 (0, 0)), Blk b10890 (.cells #[.int .i64 0, .bool false, .string (bs ([] : Str)), .slice none 0 0] 43 (0, 0)), MapC encS (fun v : Value => v) A10911 vs10914, Row r_model_tx 99 (.slice A10908 x10901.txs.length c10909) x10901.txs, MapC (Value.int .i64) (Value.int .i64) A10905 x10901.many, MapC enc_model_name (Value.int .i64) A10902 x10901.names, Row r_api_Pair 87 (.slice A10898 x10897.length c10899) x10897, B94 b57 x10901 A10902 A10905 A10908 c10909 A10911, B94 b9058 t9056 A9060 A9063 A9066 c9067 A9069, MapC enc_model_name (Value.int .i64) A9060 t9056.names, MapC (Value.int .i64) (Value.int .i64) A9063 t9056.many, Row r_model_tx 99 (.slice A9066 t9056.txs.length c9067) t9056.txs, MapC encS (fun v : Value => v) A9069 vs9072, B39 b9027 (rd a1 x6022), MapC encS (fun v : Value => v) A6033 vs6036, Row r_model_tx 99 (.slice A6030 x6023.txs.length c6031) x6023.txs, MapC (Value.int .i64) (Value.int .i64) A6027 x6023.many, MapC enc_model_name (Value.int .i64) A6024 x6023.names, B94 b83 x6023 A6024 A6027 A6030 c6031 A6033, B23 b1 a0] ∧ MRel r_model_row Mj x10901.rows vs10914) 3 (Ls 15 [0, 1, 2, 3, 4, 5, 6, 7, 8, 9, 11, 12]) ?_ ?_
                · clear o11610h
                  rintro ρ w11623 ⟨x10894, x10895, x10896, x10897, x10901, A10898, c10899, A10902, c10903, A10905, c10906, A10908, c10909, A10911, c10912, vs10914, b10890, b10892, M11624, H, hρ, hM11625, E, S, hm10915⟩
                  rw [agree_eta hρ]
                  clear hρ
                  replace hg0 : ∃ gt fr, _ := (let ⟨gt, fr, h8⟩ := hg0; ⟨gt, fr, hM11625 _ _ h8⟩)
                  replace HM := Hp.le_trans HM hM11625
                  replace hM9015 := Hp.le_trans hM9015 hM11625
                  replace LE10477 := Hp.le_trans LE10477 hM11625
                  replace hr1 := SlR.mono hr1 hM11625
                  replace hm72 := MRel.mono hm72 hM11625
                  replace hm98 := MRel.mono hm98 hM11625
                  replace hm6037 := MRel.mono hm6037 hM11625
                  replace hm6052 := MRel.mono hm6052 hM11625
                  replace hb9022 := hM11625 _ _ hb9022
                  replace hm9073 := MRel.mono hm9073 hM11625
                  have LE11626 := Hp.le_refl M11624
                  refine Wa_solo (i := 10) rfl (by kernel_rfl) ?_
                  obtain ⟨t11627, ht11628, H⟩ := bindS H
                  replace S : St w11623 M11624 F [_, _, _, _, _, _, _, _, _, _, _, _, _, _, _, _, _, _, _, _] := S.pick [18, 17, 16, 15, 14, 0, 1, 2, 3, 4, 5, 6, 7, 8, 9, 10, 11, 12, 13, 19] (by decide)
                  refine W_call fn15 (model_Model_Do_POOOO.con k M11624 A6024 c6025 A6027 c6028 A6030 c6031 A6033 c6034 vs6036 x6023 x9046 ((rd a1 x6022).Call) b83 t11627 hm6037 hg0 ht11628) (Γ1 := [_, _, _, _, _]) (Γ2 := [_, _, _, _, _, _, _, _, _, _, _, _, _, _, _]) S rfl rfl ?_
                  rintro _ w11646 M11647 Γ' hM11648 E' S ⟨A11629, c11630, A11632, c11633, A11635, c11636, A11638, c11639, A11641, c11642, vs11644, rfl, hm11645, rfl⟩
                  replace hg0 : ∃ gt fr, _ := (let ⟨gt, fr, h8⟩ := hg0; ⟨gt, fr, hM11648 _ _ h8⟩)
                  replace HM := Hp.le_trans HM hM11648
                  replace hM9015 := Hp.le_trans hM9015 hM11648
                  replace hM11625 := Hp.le_trans hM11625 hM11648
                  replace LE11626 := Hp.le_trans LE11626 hM11648
                  replace hr1 := SlR.mono hr1 hM11648
                  replace hm72 := MRel.mono hm72 hM11648
                  replace hm98 := MRel.mono hm98 hM11648
                  replace hm6037 := MRel.mono hm6037 hM11648
                  replace hm6052 := MRel.mono hm6052 hM11648
                  replace hb9022 := hM11648 _ _ hb9022
                  replace hm9073 := MRel.mono hm9073 hM11648
                  replace hm10915 := MRel.mono hm10915 hM11648
                  replace E := E.trans E'
                  clear E'
                  replace S : St w11646 M11647 F [_, _, _, _, _, _, _, _, _, _, _, _, _, _, _, _, _, _, _, _, _] := S
                  refine Wl_nil (on_n ⟨.inr ⟨M11647, hM11625, (S.pick [14, 15, 16, 17, 18, 19, 20] (by decide))⟩, ?_⟩)
                  exact hq11622 _ _ ⟨x10894, x10895, x10896, x10897, t11627.1.Err, t11627.1.Found, t11627.1.Value, t11627.1.Pairs, t11627.2, x10901, A10898, c10899, A11629, c11630, A11632, c11633, A11635, c11636, A11638, c11639, A11641, c11642, vs11644, A10902, c10903, A10905, c10906, A10908, c10909, A10911, c10912, vs10914, b10890, b10892, M11647, Option.some.inj H, ⟨rfl, rfl, rfl, rfl, rfl, rfl, rfl, rfl, rfl, rfl, rfl, rfl, trivial⟩, hM11625, E, S.pick [6, 7, 8, 9, 10, 11, 5, 4, 3, 2, 0, 12, 1, 13, 14, 15, 16, 17, 18, 19, 20] (by decide), hm11645, hm10915⟩
                intro hq11621
                refine Wa_join (fun ρ w' => ∃ (x10842 : Int) (x10843 : Bool) (x10844 : Str) (x10845 : List api_Pair) (x10849 : Int) (x10850 : Bool) (x10851 : Str) (x10852 : List api_Pair) (x10856 : model_Model) (x10871 : model_Model) (A10846 : Option Addr) (c10847 : Nat) (A10853 : Option Addr) (c10854 : Nat) (A10857 : Option Addr) (c10858 : Nat) (A10860 : Option Addr) (c10861 : Nat) (A10863 : Option Addr) (c10864 : Nat) (A10866 : Option Addr) (c10867 : Nat) (vs10869 : List (Str × Value)) (A10872 : Option Addr) (c10873 : Nat) (A10875 : Option Addr) (c10876 : Nat) (A10878 : Option Addr) (c10879 : Nat) (A10881 : Option Addr) (c10882 : Nat) (vs10884 : List (Str × Value)) (b10840 : Nat) (Mj : Hp), some (x10842, x10843, x10844, x10845, x10849, x10850, x10851, x10852, x10856, x10871) = some o11610 ∧ Agree ρ [(1, .slice A1 a1.length c1), (2, .int .i64 a2), (3, .pointer (some ⟨b1, 0, none⟩)), (7, .pointer (some ⟨b57, 0, none⟩)), (9, .pointer (some ⟨b83, 0, none⟩)), (11, .int .i64 x6022), (12, .pointer (some ⟨b9027, 0, none⟩)), (14, .pointer (some ⟨b9058, 0, none⟩)), (16, .pointer (some ⟨b10840, 0, none⟩)), (85, .agg #[.int .i64 x10842, .bool x10843, .string (bs x10844), .slice A10846 x10845.length c10847]), (90, .agg #[.int .i64 x10849, .bool x10850, .string (bs x10851), .slice A10853 x10852.length c10854])] ∧ M9075.le Mj ∧ Ext w w' ∧ St w' Mj F [Blk b10840 (.cells #[.int .i64 0, .bool false, .string (bs ([] : Str)), .slice none 0 0] 43 (0, 0)), MapC encS (fun v : Value => v) A10881 vs10884, Row r_model_tx 99 (.slice A10878 x10871.txs.length c10879) x10871.txs, MapC (Value.int .i64) (Value.int .i64) A10875 x10871.many, MapC enc_model_name (Value.int .i64) A10872 x10871.names, MapC encS (fun v : Value => v) A10866 vs10869, Row r_model_tx 99 (.slice A10863 x10856.txs.length c10864) x10856.txs, MapC (Value.int .i64) (Value.int .i64) A10860 x10856.many, MapC enc_model_name (Value.int .i64) A10857 x10856.names, Row r_api_Pair 87 (.slice A10853 x10852.length c10854) x10852, Row r_api_Pair 87 (.slice A10846 x10845.length c10847) x10845, B94 b83 x10856 A10857 A10860 A10863 c10864 A10866, B94 b57 x10871 A10872 A10875 A10878 c10879 A10881, B94 b9058 t9056 A9060 A9063 A9066 c9067 A9069, MapC enc_model_name (Value.int .i64) A9060 t9056.names, MapC (Value.int .i64) (Value.int .i64) A9063 t9056.many, Row r_model_tx 99 (.slice A9066 t9056.txs.length c9067) t9056.txs, MapC encS (fun v : Value => v) A9069 vs9072, B39 b9027 (rd a1 x6022), B23 b1 a0] ∧ MRel r_model_row Mj x10856.rows vs10869 ∧ MRel r_model_row Mj x10871.rows vs10884) 3 (Ls 15 [0, 1, 2, 3, 4, 5, 6, 7, 8, 9, 10, 12]) ?_ ?_
                · clear o11610h
                  rintro ρ w11649 ⟨x10842, x10843, x10844, x10845, x10849, x10850, x10851, x10852, x10856, x10871, A10846, c10847, A10853, c10854, A10857, c10858, A10860, c10861, A10863, c10864, A10866, c10867, vs10869, A10872, c10873, A10875, c10876, A10878, c10879, A10881, c10882, vs10884, b10840, M11650, H, hρ, hM11651, E, S, hm10870, hm10885⟩
                  rw [agree_eta hρ]
                  clear hρ
                  replace hg0 : ∃ gt fr, _ := (let ⟨gt, fr, h8⟩ := hg0; ⟨gt, fr, hM11651 _ _ h8⟩)
                  replace HM := Hp.le_trans HM hM11651
                  replace hM9015 := Hp.le_trans hM9015 hM11651
                  replace LE10477 := Hp.le_trans LE10477 hM11651
                  replace hr1 := SlR.mono hr1 hM11651
                  replace hm72 := MRel.mono hm72 hM11651
                  replace hm98 := MRel.mono hm98 hM11651
                  replace hm6037 := MRel.mono hm6037 hM11651
                  replace hm6052 := MRel.mono hm6052 hM11651
                  replace hb9022 := hM11651 _ _ hb9022
                  replace hm9073 := MRel.mono hm9073 hM11651
                  have LE11652 := Hp.le_refl M11650
                  refine Wa_solo (i := 11) rfl (by kernel_rfl) ?_
                  refine W_alloc S #[.int .i64 0, .bool false, .string (bs ([] : Str)), .slice none 0 0] ty43 rfl rfl ?_
                  intro b11653 w11654 E' S
                  replace E := E.trans E'
                  clear E'
                  refine Wl_nil (on_n ⟨.inr ⟨M11650, hM11651, (S.pick [14, 15, 16, 17, 18, 19, 20] (by decide))⟩, ?_⟩)
                  exact hq11622 _ _ ⟨x10842, x10843, x10844, x10845, x10849, x10850, x10851, x10852, x10856, x10871, A10846, c10847, A10853, c10854, A10857, c10858, A10860, c10861, A10863, c10864, A10866, c10867, vs10869, A10872, c10873, A10875, c10876, A10878, c10879, A10881, c10882, vs10884, b11653, b10840, M11650, Option.some.inj H, ⟨rfl, rfl, rfl, rfl, rfl, rfl, rfl, rfl, rfl, rfl, rfl, rfl, trivial⟩, hM11651, E, S.pick [1, 0, 2, 3, 4, 5, 6, 7, 8, 9, 10, 11, 12, 13, 14, 15, 16, 17, 18, 19, 20] (by decide), hm10870, hm10885⟩
                intro hq11620
                refine Wa_join (fun ρ w' => ∃ (x10792 : Int) (x10793 : Bool) (x10794 : Str) (x10795 : List api_Pair) (x10799 : Int) (x10800 : Bool) (x10801 : Str) (x10802 : List api_Pair) (x10806 : model_Model) (x10821 : model_Model) (A10796 : Option Addr) (c10797 : Nat) (A10803 : Option Addr) (c10804 : Nat) (A10807 : Option Addr) (c10808 : Nat) (A10810 : Option Addr) (c10811 : Nat) (A10813 : Option Addr) (c10814 : Nat) (A10816 : Option Addr) (c10817 : Nat) (vs10819 : List (Str × Value)) (A10822 : Option Addr) (c10823 : Nat) (A10825 : Option Addr) (c10826 : Nat) (A10828 : Option Addr) (c10829 : Nat) (A10831 : Option Addr) (c10832 : Nat) (vs10834 : List (Str × Value)) (b10790 : Nat) (Mj : Hp), some (x10792, x10793, x10794, x10795, x10799, x10800, x10801, x10802, x10806, x10821) = some o11610 ∧ Agree ρ [(1, .slice A1 a1.length c1), (2, .int .i64 a2), (3, .pointer (some ⟨b1, 0, none⟩)), (7, .pointer (some ⟨b57, 0, none⟩)), (9, .pointer (some ⟨b83, 0, none⟩)), (11, .int .i64 x6022), (12, .pointer (some ⟨b9027, 0, none⟩)), (14, .pointer (some ⟨b9058, 0, none⟩)), (15, .pointer (some ⟨b10790, 0, none⟩)), (85, .agg #[.int .i64 x10792, .bool x10793, .string (bs x10794), .slice A10796 x10795.length c10797]), (90, .agg #[.int .i64 x10799, .bool x10800, .string (bs x10801), .slice A10803 x10802.length c10804])] ∧ M9075.le Mj ∧ Ext w w' ∧ St w' Mj F [Blk b10790 (.cells #[.int .i64 0, .bool false, .string (bs ([] : Str)), .slice none 0 0] 43 (0, 0)), MapC encS (fun v : Value => v) A10831 vs10834, Row r_model_tx 99 (.slice A10828 x10821.txs.length c10829) x10821.txs, MapC (Value.int .i64) (Value.int .i64) A10825 x10821.many, MapC enc_model_name (Value.int .i64) A10822 x10821.names, MapC encS (fun v : Value => v) A10816 vs10819, Row r_model_tx 99 (.slice A10813 x10806.txs.length c10814) x10806.txs, MapC (Value.int .i64) (Value.int .i64) A10810 x10806.many, MapC enc_model_name (Value.int .i64) A10807 x10806.names, Row r_api_Pair 87 (.slice A10803 x10802.length c10804) x10802, Row r_api_Pair 87 (.slice A10796 x10795.length c10797) x10795, B94 b83 x10806 A10807 A10810 A10813 c10814 A10816, B94 b57 x10821 A10822 A10825 A10828 c10829 A10831, B94 b9058 t9056 A9060 A9063 A9066 c9067 A9069, MapC enc_model_name (Value.int .i64) A9060 t9056.names, MapC (Value.int .i64) (Value.int .i64) A9063 t9056.many, Row r_model_tx 99 (.slice A9066 t9056.txs.length c9067) t9056.txs, MapC encS (fun v : Value => v) A9069 vs9072, B39 b9027 (rd a1 x6022), B23 b1 a0] ∧ MRel r_model_row Mj x10806.rows vs10819 ∧ MRel r_model_row Mj x10821.rows vs10834) 3 (Ls 15 [0, 1, 2, 3, 4, 5, 6, 7, 8, 9, 10, 11]) ?_ ?_
                · clear o11610h
                  rintro ρ w11656 ⟨x10792, x10793, x10794, x10795, x10799, x10800, x10801, x10802, x10806, x10821, A10796, c10797, A10803, c10804, A10807, c10808, A10810, c10811, A10813, c10814, A10816, c10817, vs10819, A10822, c10823, A10825, c10826, A10828, c10829, A10831, c10832, vs10834, b10790, M11657, H, hρ, hM11658, E, S, hm10820, hm10835⟩
                  rw [agree_eta hρ]
                  clear hρ
                  replace hg0 : ∃ gt fr, _ := (let ⟨gt, fr, h8⟩ := hg0; ⟨gt, fr, hM11658 _ _ h8⟩)
                  replace HM := Hp.le_trans HM hM11658
                  replace hM9015 := Hp.le_trans hM9015 hM11658
                  replace LE10477 := Hp.le_trans LE10477 hM11658
                  replace hr1 := SlR.mono hr1 hM11658
                  replace hm72 := MRel.mono hm72 hM11658
                  replace hm98 := MRel.mono hm98 hM11658
                  replace hm6037 := MRel.mono hm6037 hM11658
                  replace hm6052 := MRel.mono hm6052 hM11658
                  replace hb9022 := hM11658 _ _ hb9022
                  replace hm9073 := MRel.mono hm9073 hM11658
                  have LE11659 := Hp.le_refl M11657
                  refine Wa_solo (i := 12) rfl (by kernel_rfl) ?_
                  refine W_alloc S #[.int .i64 0, .bool false, .string (bs ([] : Str)), .slice none 0 0] ty43 rfl rfl ?_
                  intro b11660 w11661 E' S
                  replace E := E.trans E'
                  clear E'
                  refine Wl_nil (on_n ⟨.inr ⟨M11657, hM11658, (S.pick [14, 15, 16, 17, 18, 19, 20] (by decide))⟩, ?_⟩)
                  exact hq11622 _ _ ⟨x10792, x10793, x10794, x10795, x10799, x10800, x10801, x10802, x10806, x10821, A10796, c10797, A10803, c10804, A10807, c10808, A10810, c10811, A10813, c10814, A10816, c10817, vs10819, A10822, c10823, A10825, c10826, A10828, c10829, A10831, c10832, vs10834, b10790, b11660, M11657, Option.some.inj H, ⟨rfl, rfl, rfl, rfl, rfl, rfl, rfl, rfl, rfl, rfl, rfl, rfl, trivial⟩, hM11658, E, S.pick [0, 1, 2, 3, 4, 5, 6, 7, 8, 9, 10, 11, 12, 13, 14, 15, 16, 17, 18, 19, 20] (by decide), hm10820, hm10835⟩
                intro hq11619
                refine Wa_join (fun ρ w' => ∃ (b10764 : Nat) (b10766 : Nat) (Mj : Hp), (Option.bind (model_Model_Do_POOOO k x6038 ((rd a1 x6022).Task) ((rd a1 x6022).Call)) (fun t11535 => (Option.bind (model_Model_Do_POOOO k x6023 x9046 ((rd a1 x6022).Call)) (fun t11557 => some (t11535.1.Err, t11535.1.Found, t11535.1.Value, t11535.1.Pairs, t11557.1.Err, t11557.1.Found, t11557.1.Value, t11557.1.Pairs, t11557.2, t11535.2))))) = some o11610 ∧ Agree ρ [(1, .slice A1 a1.length c1), (2, .int .i64 a2), (3, .pointer (some ⟨b1, 0, none⟩)), (7, .pointer (some ⟨b57, 0, none⟩)), (9, .pointer (some ⟨b83, 0, none⟩)), (11, .int .i64 x6022), (12, .pointer (some ⟨b9027, 0, none⟩)), (14, .pointer (some ⟨b9058, 0, none⟩)), (15, .pointer (some ⟨b10764, 0, none⟩)), (16, .pointer (some ⟨b10766, 0, none⟩)), (80, .pointer (some ⟨b57, 0, none⟩)), (82, .int .i64 ((rd a1 x6022).Task)), (84, .agg #[.int .u8 ((rd a1 x6022).Call.Kind), .int .i64 ((rd a1 x6022).Call.Tx), .string (bs ((rd a1 x6022).Call.Key)), .string (bs ((rd a1 x6022).Call.End)), .string (bs ((rd a1 x6022).Call.Value)), .int .i64 ((rd a1 x6022).Call.Limit), .int .u8 ((rd a1 x6022).Call.Engine)]), (86, .pointer (some ⟨b83, 0, none⟩)), (87, .int .i64 x9046), (89, .agg #[.int .u8 ((rd a1 x6022).Call.Kind), .int .i64 ((rd a1 x6022).Call.Tx), .string (bs ((rd a1 x6022).Call.Key)), .string (bs ((rd a1 x6022).Call.End)), .string (bs ((rd a1 x6022).Call.Value)), .int .i64 ((rd a1 x6022).Call.Limit), .int .u8 ((rd a1 x6022).Call.Engine)])] ∧ M9075.le Mj ∧ Ext w w' ∧ St w' Mj F [Blk b10766 (.cells #[.int .i64 0, .bool false, .string (bs ([] : Str)), .slice none 0 0] 43 (0, 0)), Blk b10764 (.cells #[.int .i64 0, .bool false, .string (bs ([] : Str)), .slice none 0 0] 43 (0, 0)), B94 b9058 t9056 A9060 A9063 A9066 c9067 A9069, MapC enc_model_name (Value.int .i64) A9060 t9056.names, MapC (Value.int .i64) (Value.int .i64) A9063 t9056.many, Row r_model_tx 99 (.slice A9066 t9056.txs.length c9067) t9056.txs, MapC encS (fun v : Value => v) A9069 vs9072, B94 b57 x6038 A6039 A6042 A6045 c6046 A6048, MapC enc_model_name (Value.int .i64) A6039 x6038.names, MapC (Value.int .i64) (Value.int .i64) A6042 x6038.many, Row r_model_tx 99 (.slice A6045 x6038.txs.length c6046) x6038.txs, MapC encS (fun v : Value => v) A6048 vs6051, B39 b9027 (rd a1 x6022), MapC encS (fun v : Value => v) A6033 vs6036, Row r_model_tx 99 (.slice A6030 x6023.txs.length c6031) x6023.txs, MapC (Value.int .i64) (Value.int .i64) A6027 x6023.many, MapC enc_model_name (Value.int .i64) A6024 x6023.names, B94 b83 x6023 A6024 A6027 A6030 c6031 A6033, B23 b1 a0]) 4 (Ls 15 [0, 1, 2, 3, 4, 6, 7, 8, 9, 11, 12]) ?_ ?_
                · clear o11610h
                  rintro ρ w11663 ⟨b10764, b10766, M11664, H, hρ, hM11665, E, S⟩
                  rw [agree_eta hρ]
                  clear hρ
                  replace hg0 : ∃ gt fr, _ := (let ⟨gt, fr, h8⟩ := hg0; ⟨gt, fr, hM11665 _ _ h8⟩)
                  replace HM := Hp.le_trans HM hM11665
                  replace hM9015 := Hp.le_trans hM9015 hM11665
                  replace LE10477 := Hp.le_trans LE10477 hM11665
                  replace hr1 := SlR.mono hr1 hM11665
                  replace hm72 := MRel.mono hm72 hM11665
                  replace hm98 := MRel.mono hm98 hM11665
                  replace hm6037 := MRel.mono hm6037 hM11665
                  replace hm6052 := MRel.mono hm6052 hM11665
                  replace hb9022 := hM11665 _ _ hb9022
                  replace hm9073 := MRel.mono hm9073 hM11665
                  have LE11666 := Hp.le_refl M11664
                  refine Wa_solo (i := 5) rfl (by kernel_rfl) ?_
                  obtain ⟨t11667, ht11668, H⟩ := bindS H
                  replace S : St w11663 M11664 F [_, _, _, _, _, _, _, _, _, _, _, _, _, _, _, _, _, _, _] := S.pick [7, 8, 9, 10, 11, 0, 1, 2, 3, 4, 5, 6, 12, 13, 14, 15, 16, 17, 18] (by decide)
                  refine W_call fn15 (model_Model_Do_POOOO.con k M11664 A6039 c6040 A6042 c6043 A6045 c6046 A6048 c6049 vs6051 x6038 ((rd a1 x6022).Task) ((rd a1 x6022).Call) b57 t11667 hm6052 hg0 ht11668) (Γ1 := [_, _, _, _, _]) (Γ2 := [_, _, _, _, _, _, _, _, _, _, _, _, _, _]) S rfl rfl ?_
                  rintro _ w11686 M11687 Γ' hM11688 E' S ⟨A11669, c11670, A11672, c11673, A11675, c11676, A11678, c11679, A11681, c11682, vs11684, rfl, hm11685, rfl⟩
                  replace hg0 : ∃ gt fr, _ := (let ⟨gt, fr, h8⟩ := hg0; ⟨gt, fr, hM11688 _ _ h8⟩)
                  replace HM := Hp.le_trans HM hM11688
                  replace hM9015 := Hp.le_trans hM9015 hM11688
                  replace hM11665 := Hp.le_trans hM11665 hM11688
                  replace LE11666 := Hp.le_trans LE11666 hM11688
                  replace hr1 := SlR.mono hr1 hM11688
                  replace hm72 := MRel.mono hm72 hM11688
                  replace hm98 := MRel.mono hm98 hM11688
                  replace hm6037 := MRel.mono hm6037 hM11688
                  replace hm6052 := MRel.mono hm6052 hM11688
                  replace hb9022 := hM11688 _ _ hb9022
                  replace hm9073 := MRel.mono hm9073 hM11688
                  replace E := E.trans E'
                  clear E'
                  replace S : St w11686 M11687 F [_, _, _, _, _, _, _, _, _, _, _, _, _, _, _, _, _, _, _, _] := S
                  refine Wl_nil (on_n ⟨.inr ⟨M11687, hM11665, (S.pick [8, 9, 10, 11, 12, 13, 19] (by decide))⟩, ?_⟩)
                  exact hq11621 _ _ ⟨t11667.1.Err, t11667.1.Found, t11667.1.Value, t11667.1.Pairs, t11667.2, A11669, c11670, A11672, c11673, A11675, c11676, A11678, c11679, A11681, c11682, vs11684, b10764, b10766, M11687, H, ⟨rfl, rfl, rfl, rfl, rfl, rfl, rfl, rfl, rfl, rfl, rfl, rfl, rfl, rfl, trivial⟩, hM11665, E, S.pick [6, 7, 5, 4, 3, 2, 0, 1, 8, 9, 10, 11, 12, 13, 14, 15, 16, 17, 18, 19] (by decide), hm11685⟩
                intro hq11618
                refine Wa_join (fun ρ w' => ∃ (x10716 : Int) (x10717 : Bool) (x10718 : Str) (x10719 : List api_Pair) (x10723 : model_Model) (A10720 : Option Addr) (c10721 : Nat) (A10724 : Option Addr) (c10725 : Nat) (A10727 : Option Addr) (c10728 : Nat) (A10730 : Option Addr) (c10731 : Nat) (A10733 : Option Addr) (c10734 : Nat) (vs10736 : List (Str × Value)) (b10714 : Nat) (Mj : Hp), (Option.bind (model_Model_Do_POOOO k x6023 x9046 ((rd a1 x6022).Call)) (fun t11483 => some (x10716, x10717, x10718, x10719, t11483.1.Err, t11483.1.Found, t11483.1.Value, t11483.1.Pairs, t11483.2, x10723))) = some o11610 ∧ Agree ρ [(1, .slice A1 a1.length c1), (2, .int .i64 a2), (3, .pointer (some ⟨b1, 0, none⟩)), (7, .pointer (some ⟨b57, 0, none⟩)), (9, .pointer (some ⟨b83, 0, none⟩)), (11, .int .i64 x6022), (12, .pointer (some ⟨b9027, 0, none⟩)), (14, .pointer (some ⟨b9058, 0, none⟩)), (16, .pointer (some ⟨b10714, 0, none⟩)), (85, .agg #[.int .i64 x10716, .bool x10717, .string (bs x10718), .slice A10720 x10719.length c10721]), (86, .pointer (some ⟨b83, 0, none⟩)), (87, .int .i64 x9046), (89, .agg #[.int .u8 ((rd a1 x6022).Call.Kind), .int .i64 ((rd a1 x6022).Call.Tx), .string (bs ((rd a1 x6022).Call.Key)), .string (bs ((rd a1 x6022).Call.End)), .string (bs ((rd a1 x6022).Call.Value)), .int .i64 ((rd a1 x6022).Call.Limit), .int .u8 ((rd a1 x6022).Call.Engine)])] ∧ M9075.le Mj ∧ Ext w w' ∧ St w' Mj F [Blk b10714 (.cells #[.int .i64 0, .bool false, .string (bs ([] : Str)), .slice none 0 0] 43 (0, 0)), MapC encS (fun v : Value => v) A10733 vs10736, Row r_model_tx 99 (.slice A10730 x10723.txs.length c10731) x10723.txs, MapC (Value.int .i64) (Value.int .i64) A10727 x10723.many, MapC enc_model_name (Value.int .i64) A10724 x10723.names, Row r_api_Pair 87 (.slice A10720 x10719.length c10721) x10719, B94 b57 x10723 A10724 A10727 A10730 c10731 A10733, B94 b9058 t9056 A9060 A9063 A9066 c9067 A9069, MapC enc_model_name (Value.int .i64) A9060 t9056.names, MapC (Value.int .i64) (Value.int .i64) A9063 t9056.many, Row r_model_tx 99 (.slice A9066 t9056.txs.length c9067) t9056.txs, MapC encS (fun v : Value => v) A9069 vs9072, B39 b9027 (rd a1 x6022), MapC encS (fun v : Value => v) A6033 vs6036, Row r_model_tx 99 (.slice A6030 x6023.txs.length c6031) x6023.txs, MapC (Value.int .i64) (Value.int .i64) A6027 x6023.many, MapC enc_model_name (Value.int .i64) A6024 x6023.names, B94 b83 x6023 A6024 A6027 A6030 c6031 A6033, B23 b1 a0] ∧ MRel r_model_row Mj x10723.rows vs10736) 4 (Ls 15 [0, 1, 2, 3, 4, 5, 6, 7, 8, 9, 12]) ?_ ?_
                · clear o11610h
                  rintro ρ w11689 ⟨x10716, x10717, x10718, x10719, x10723, A10720, c10721, A10724, c10725, A10727, c10728, A10730, c10731, A10733, c10734, vs10736, b10714, M11690, H, hρ, hM11691, E, S, hm10737⟩
                  rw [agree_eta hρ]
                  clear hρ
                  replace hg0 : ∃ gt fr, _ := (let ⟨gt, fr, h8⟩ := hg0; ⟨gt, fr, hM11691 _ _ h8⟩)
                  replace HM := Hp.le_trans HM hM11691
                  replace hM9015 := Hp.le_trans hM9015 hM11691
                  replace LE10477 := Hp.le_trans LE10477 hM11691
                  replace hr1 := SlR.mono hr1 hM11691
                  replace hm72 := MRel.mono hm72 hM11691
                  replace hm98 := MRel.mono hm98 hM11691
                  replace hm6037 := MRel.mono hm6037 hM11691
                  replace hm6052 := MRel.mono hm6052 hM11691
                  replace hb9022 := hM11691 _ _ hb9022
                  replace hm9073 := MRel.mono hm9073 hM11691
                  have LE11692 := Hp.le_refl M11690
                  refine Wa_oneOf (rs := [10, 11]) (by kernel_rfl) (by decide) ?_
                  simp only [List.forall_mem_cons, List.not_mem_nil, false_implies, implies_true, and_true]
                  refine ⟨?_, ?_⟩
                  · refine ⟨_, rfl, ?_⟩
                    obtain ⟨t11693, ht11694, H⟩ := bindS H
                    replace S : St w11689 M11690 F [_, _, _, _, _, _, _, _, _, _, _, _, _, _, _, _, _, _, _] := S.pick [17, 16, 15, 14, 13, 0, 1, 2, 3, 4, 5, 6, 7, 8, 9, 10, 11, 12, 18] (by decide)
                    refine W_call fn15 (model_Model_Do_POOOO.con k M11690 A6024 c6025 A6027 c6028 A6030 c6031 A6033 c6034 vs6036 x6023 x9046 ((rd a1 x6022).Call) b83 t11693 hm6037 hg0 ht11694) (Γ1 := [_, _, _, _, _]) (Γ2 := [_, _, _, _, _, _, _, _, _, _, _, _, _, _]) S rfl rfl ?_
                    rintro _ w11712 M11713 Γ' hM11714 E' S ⟨A11695, c11696, A11698, c11699, A11701, c11702, A11704, c11705, A11707, c11708, vs11710, rfl, hm11711, rfl⟩
                    replace hg0 : ∃ gt fr, _ := (let ⟨gt, fr, h8⟩ := hg0; ⟨gt, fr, hM11714 _ _ h8⟩)
                    replace HM := Hp.le_trans HM hM11714
                    replace hM9015 := Hp.le_trans hM9015 hM11714
                    replace hM11691 := Hp.le_trans hM11691 hM11714
                    replace LE11692 := Hp.le_trans LE11692 hM11714
                    replace hr1 := SlR.mono hr1 hM11714
                    replace hm72 := MRel.mono hm72 hM11714
                    replace hm98 := MRel.mono hm98 hM11714
                    replace hm6037 := MRel.mono hm6037 hM11714
                    replace hm6052 := MRel.mono hm6052 hM11714
                    replace hb9022 := hM11714 _ _ hb9022
                    replace hm9073 := MRel.mono hm9073 hM11714
                    replace hm10737 := MRel.mono hm10737 hM11714
                    replace E := E.trans E'
                    clear E'
                    replace S : St w11712 M11713 F [_, _, _, _, _, _, _, _, _, _, _, _, _, _, _, _, _, _, _, _] := S
                    refine Wl_nil (on_n ⟨.inr ⟨M11713, hM11691, (S.pick [13, 14, 15, 16, 17, 18, 19] (by decide))⟩, ?_⟩)
                    exact hq11620 _ _ ⟨x10716, x10717, x10718, x10719, t11693.1.Err, t11693.1.Found, t11693.1.Value, t11693.1.Pairs, t11693.2, x10723, A10720, c10721, A11695, c11696, A11698, c11699, A11701, c11702, A11704, c11705, A11707, c11708, vs11710, A10724, c10725, A10727, c10728, A10730, c10731, A10733, c10734, vs10736, b10714, M11713, H, ⟨rfl, rfl, rfl, rfl, rfl, rfl, rfl, rfl, rfl, rfl, rfl, trivial⟩, hM11691, E, S.pick [6, 7, 8, 9, 10, 5, 4, 3, 2, 0, 11, 1, 12, 13, 14, 15, 16, 17, 18, 19] (by decide), hm11711, hm10737⟩
                  · refine ⟨_, rfl, ?_⟩
                    refine W_alloc S #[.int .i64 0, .bool false, .string (bs ([] : Str)), .slice none 0 0] ty43 rfl rfl ?_
                    intro b11715 w11716 E' S
                    replace E := E.trans E'
                    clear E'
                    refine Wl_nil (on_n ⟨.inr ⟨M11690, hM11691, (S.pick [8, 9, 10, 11, 12, 13, 19] (by decide))⟩, ?_⟩)
                    exact hq11621 _ _ ⟨x10716, x10717, x10718, x10719, x10723, A10720, c10721, A10724, c10725, A10727, c10728, A10730, c10731, A10733, c10734, vs10736, b11715, b10714, M11690, H, ⟨rfl, rfl, rfl, rfl, rfl, rfl, rfl, rfl, rfl, rfl, rfl, rfl, rfl, rfl, trivial⟩, hM11691, E, S.pick [1, 0, 2, 3, 4, 5, 6, 7, 8, 9, 10, 11, 12, 13, 14, 15, 16, 17, 18, 19] (by decide), hm10737⟩
                intro hq11617
                refine Wa_join (fun ρ w' => ∃ (x10666 : Int) (x10667 : Bool) (x10668 : Str) (x10669 : List api_Pair) (x10673 : model_Model) (A10670 : Option Addr) (c10671 : Nat) (A10674 : Option Addr) (c10675 : Nat) (A10677 : Option Addr) (c10678 : Nat) (A10680 : Option Addr) (c10681 : Nat) (A10683 : Option Addr) (c10684 : Nat) (vs10686 : List (Str × Value)) (b10664 : Nat) (Mj : Hp), (Option.bind (model_Model_Do_POOOO k x6023 x9046 ((rd a1 x6022).Call)) (fun t11431 => some (x10666, x10667, x10668, x10669, t11431.1.Err, t11431.1.Found, t11431.1.Value, t11431.1.Pairs, t11431.2, x10673))) = some o11610 ∧ Agree ρ [(1, .slice A1 a1.length c1), (2, .int .i64 a2), (3, .pointer (some ⟨b1, 0, none⟩)), (7, .pointer (some ⟨b57, 0, none⟩)), (9, .pointer (some ⟨b83, 0, none⟩)), (11, .int .i64 x6022), (12, .pointer (some ⟨b9027, 0, none⟩)), (14, .pointer (some ⟨b9058, 0, none⟩)), (15, .pointer (some ⟨b10664, 0, none⟩)), (85, .agg #[.int .i64 x10666, .bool x10667, .string (bs x10668), .slice A10670 x10669.length c10671]), (86, .pointer (some ⟨b83, 0, none⟩)), (87, .int .i64 x9046), (89, .agg #[.int .u8 ((rd a1 x6022).Call.Kind), .int .i64 ((rd a1 x6022).Call.Tx), .string (bs ((rd a1 x6022).Call.Key)), .string (bs ((rd a1 x6022).Call.End)), .string (bs ((rd a1 x6022).Call.Value)), .int .i64 ((rd a1 x6022).Call.Limit), .int .u8 ((rd a1 x6022).Call.Engine)])] ∧ M9075.le Mj ∧ Ext w w' ∧ St w' Mj F [Blk b10664 (.cells #[.int .i64 0, .bool false, .string (bs ([] : Str)), .slice none 0 0] 43 (0, 0)), MapC encS (fun v : Value => v) A10683 vs10686, Row r_model_tx 99 (.slice A10680 x10673.txs.length c10681) x10673.txs, MapC (Value.int .i64) (Value.int .i64) A10677 x10673.many, MapC enc_model_name (Value.int .i64) A10674 x10673.names, Row r_api_Pair 87 (.slice A10670 x10669.length c10671) x10669, B94 b57 x10673 A10674 A10677 A10680 c10681 A10683, B94 b9058 t9056 A9060 A9063 A9066 c9067 A9069, MapC enc_model_name (Value.int .i64) A9060 t9056.names, MapC (Value.int .i64) (Value.int .i64) A9063 t9056.many, Row r_model_tx 99 (.slice A9066 t9056.txs.length c9067) t9056.txs, MapC encS (fun v : Value => v) A9069 vs9072, B39 b9027 (rd a1 x6022), MapC encS (fun v : Value => v) A6033 vs6036, Row r_model_tx 99 (.slice A6030 x6023.txs.length c6031) x6023.txs, MapC (Value.int .i64) (Value.int .i64) A6027 x6023.many, MapC enc_model_name (Value.int .i64) A6024 x6023.names, B94 b83 x6023 A6024 A6027 A6030 c6031 A6033, B23 b1 a0] ∧ MRel r_model_row Mj x10673.rows vs10686) 4 (Ls 15 [0, 1, 2, 3, 4, 5, 6, 7, 8, 9, 11]) ?_ ?_
                · clear o11610h
                  rintro ρ w11718 ⟨x10666, x10667, x10668, x10669, x10673, A10670, c10671, A10674, c10675, A10677, c10678, A10680, c10681, A10683, c10684, vs10686, b10664, M11719, H, hρ, hM11720, E, S, hm10687⟩
                  rw [agree_eta hρ]
                  clear hρ
                  replace hg0 : ∃ gt fr, _ := (let ⟨gt, fr, h8⟩ := hg0; ⟨gt, fr, hM11720 _ _ h8⟩)
                  replace HM := Hp.le_trans HM hM11720
                  replace hM9015 := Hp.le_trans hM9015 hM11720
                  replace LE10477 := Hp.le_trans LE10477 hM11720
                  replace hr1 := SlR.mono hr1 hM11720
                  replace hm72 := MRel.mono hm72 hM11720
                  replace hm98 := MRel.mono hm98 hM11720
                  replace hm6037 := MRel.mono hm6037 hM11720
                  replace hm6052 := MRel.mono hm6052 hM11720
                  replace hb9022 := hM11720 _ _ hb9022
                  replace hm9073 := MRel.mono hm9073 hM11720
                  have LE11721 := Hp.le_refl M11719
                  refine Wa_oneOf (rs := [10, 12]) (by kernel_rfl) (by decide) ?_
                  simp only [List.forall_mem_cons, List.not_mem_nil, false_implies, implies_true, and_true]
                  refine ⟨?_, ?_⟩
                  · refine ⟨_, rfl, ?_⟩
                    obtain ⟨t11722, ht11723, H⟩ := bindS H
                    replace S : St w11718 M11719 F [_, _, _, _, _, _, _, _, _, _, _, _, _, _, _, _, _, _, _] := S.pick [17, 16, 15, 14, 13, 0, 1, 2, 3, 4, 5, 6, 7, 8, 9, 10, 11, 12, 18] (by decide)
                    refine W_call fn15 (model_Model_Do_POOOO.con k M11719 A6024 c6025 A6027 c6028 A6030 c6031 A6033 c6034 vs6036 x6023 x9046 ((rd a1 x6022).Call) b83 t11722 hm6037 hg0 ht11723) (Γ1 := [_, _, _, _, _]) (Γ2 := [_, _, _, _, _, _, _, _, _, _, _, _, _, _]) S rfl rfl ?_
                    rintro _ w11741 M11742 Γ' hM11743 E' S ⟨A11724, c11725, A11727, c11728, A11730, c11731, A11733, c11734, A11736, c11737, vs11739, rfl, hm11740, rfl⟩
                    replace hg0 : ∃ gt fr, _ := (let ⟨gt, fr, h8⟩ := hg0; ⟨gt, fr, hM11743 _ _ h8⟩)
                    replace HM := Hp.le_trans HM hM11743
                    replace hM9015 := Hp.le_trans hM9015 hM11743
                    replace hM11720 := Hp.le_trans hM11720 hM11743
                    replace LE11721 := Hp.le_trans LE11721 hM11743
                    replace hr1 := SlR.mono hr1 hM11743
                    replace hm72 := MRel.mono hm72 hM11743
                    replace hm98 := MRel.mono hm98 hM11743
                    replace hm6037 := MRel.mono hm6037 hM11743
                    replace hm6052 := MRel.mono hm6052 hM11743
                    replace hb9022 := hM11743 _ _ hb9022
                    replace hm9073 := MRel.mono hm9073 hM11743
                    replace hm10687 := MRel.mono hm10687 hM11743
                    replace E := E.trans E'
                    clear E'
                    replace S : St w11741 M11742 F [_, _, _, _, _, _, _, _, _, _, _, _, _, _, _, _, _, _, _, _] := S
                    refine Wl_nil (on_n ⟨.inr ⟨M11742, hM11720, (S.pick [13, 14, 15, 16, 17, 18, 19] (by decide))⟩, ?_⟩)
                    exact hq11619 _ _ ⟨x10666, x10667, x10668, x10669, t11722.1.Err, t11722.1.Found, t11722.1.Value, t11722.1.Pairs, t11722.2, x10673, A10670, c10671, A11724, c11725, A11727, c11728, A11730, c11731, A11733, c11734, A11736, c11737, vs11739, A10674, c10675, A10677, c10678, A10680, c10681, A10683, c10684, vs10686, b10664, M11742, H, ⟨rfl, rfl, rfl, rfl, rfl, rfl, rfl, rfl, rfl, rfl, rfl, trivial⟩, hM11720, E, S.pick [6, 7, 8, 9, 10, 5, 4, 3, 2, 0, 11, 1, 12, 13, 14, 15, 16, 17, 18, 19] (by decide), hm11740, hm10687⟩
                  · refine ⟨_, rfl, ?_⟩
                    refine W_alloc S #[.int .i64 0, .bool false, .string (bs ([] : Str)), .slice none 0 0] ty43 rfl rfl ?_
                    intro b11744 w11745 E' S
                    replace E := E.trans E'
                    clear E'
                    refine Wl_nil (on_n ⟨.inr ⟨M11719, hM11720, (S.pick [8, 9, 10, 11, 12, 13, 19] (by decide))⟩, ?_⟩)
                    exact hq11621 _ _ ⟨x10666, x10667, x10668, x10669, x10673, A10670, c10671, A10674, c10675, A10677, c10678, A10680, c10681, A10683, c10684, vs10686, b10664, b11744, M11719, H, ⟨rfl, rfl, rfl, rfl, rfl, rfl, rfl, rfl, rfl, rfl, rfl, rfl, rfl, rfl, trivial⟩, hM11720, E, S.pick [0, 1, 2, 3, 4, 5, 6, 7, 8, 9, 10, 11, 12, 13, 14, 15, 16, 17, 18, 19] (by decide), hm10687⟩
                intro hq11616
                refine Wa_join (fun ρ w' => ∃ (x10613 : Int) (x10614 : Bool) (x10615 : Str) (x10616 : List api_Pair) (x10620 : Int) (x10621 : Bool) (x10622 : Str) (x10623 : List api_Pair) (x10627 : model_Model) (x10642 : model_Model) (A10617 : Option Addr) (c10618 : Nat) (A10624 : Option Addr) (c10625 : Nat) (A10628 : Option Addr) (c10629 : Nat) (A10631 : Option Addr) (c10632 : Nat) (A10634 : Option Addr) (c10635 : Nat) (A10637 : Option Addr) (c10638 : Nat) (vs10640 : List (Str × Value)) (A10643 : Option Addr) (c10644 : Nat) (A10646 : Option Addr) (c10647 : Nat) (A10649 : Option Addr) (c10650 : Nat) (A10652 : Option Addr) (c10653 : Nat) (vs10655 : List (Str × Value)) (Mj : Hp), some (x10613, x10614, x10615, x10616, x10620, x10621, x10622, x10623, x10627, x10642) = some o11610 ∧ Agree ρ [(1, .slice A1 a1.length c1), (2, .int .i64 a2), (3, .pointer (some ⟨b1, 0, none⟩)), (7, .pointer (some ⟨b57, 0, none⟩)), (9, .pointer (some ⟨b83, 0, none⟩)), (11, .int .i64 x6022), (12, .pointer (some ⟨b9027, 0, none⟩)), (14, .pointer (some ⟨b9058, 0, none⟩)), (85, .agg #[.int .i64 x10613, .bool x10614, .string (bs x10615), .slice A10617 x10616.length c10618]), (90, .agg #[.int .i64 x10620, .bool x10621, .string (bs x10622), .slice A10624 x10623.length c10625])] ∧ M9075.le Mj ∧ Ext w w' ∧ St w' Mj F [MapC encS (fun v : Value => v) A10652 vs10655, Row r_model_tx 99 (.slice A10649 x10642.txs.length c10650) x10642.txs, MapC (Value.int .i64) (Value.int .i64) A10646 x10642.many, MapC enc_model_name (Value.int .i64) A10643 x10642.names, MapC encS (fun v : Value => v) A10637 vs10640, Row r_model_tx 99 (.slice A10634 x10627.txs.length c10635) x10627.txs, MapC (Value.int .i64) (Value.int .i64) A10631 x10627.many, MapC enc_model_name (Value.int .i64) A10628 x10627.names, Row r_api_Pair 87 (.slice A10624 x10623.length c10625) x10623, Row r_api_Pair 87 (.slice A10617 x10616.length c10618) x10616, B94 b83 x10627 A10628 A10631 A10634 c10635 A10637, B94 b57 x10642 A10643 A10646 A10649 c10650 A10652, B94 b9058 t9056 A9060 A9063 A9066 c9067 A9069, MapC enc_model_name (Value.int .i64) A9060 t9056.names, MapC (Value.int .i64) (Value.int .i64) A9063 t9056.many, Row r_model_tx 99 (.slice A9066 t9056.txs.length c9067) t9056.txs, MapC encS (fun v : Value => v) A9069 vs9072, B39 b9027 (rd a1 x6022), B23 b1 a0] ∧ MRel r_model_row Mj x10627.rows vs10640 ∧ MRel r_model_row Mj x10642.rows vs10655) 4 (Ls 15 [0, 1, 2, 3, 4, 5, 6, 7, 8, 9, 10]) ?_ ?_
                · clear o11610h
                  rintro ρ w11747 ⟨x10613, x10614, x10615, x10616, x10620, x10621, x10622, x10623, x10627, x10642, A10617, c10618, A10624, c10625, A10628, c10629, A10631, c10632, A10634, c10635, A10637, c10638, vs10640, A10643, c10644, A10646, c10647, A10649, c10650, A10652, c10653, vs10655, M11748, H, hρ, hM11749, E, S, hm10641, hm10656⟩
                  rw [agree_eta hρ]
                  clear hρ
                  replace hg0 : ∃ gt fr, _ := (let ⟨gt, fr, h8⟩ := hg0; ⟨gt, fr, hM11749 _ _ h8⟩)
                  replace HM := Hp.le_trans HM hM11749
                  replace hM9015 := Hp.le_trans hM9015 hM11749
                  replace LE10477 := Hp.le_trans LE10477 hM11749
                  replace hr1 := SlR.mono hr1 hM11749
                  replace hm72 := MRel.mono hm72 hM11749
                  replace hm98 := MRel.mono hm98 hM11749
                  replace hm6037 := MRel.mono hm6037 hM11749
                  replace hm6052 := MRel.mono hm6052 hM11749
                  replace hb9022 := hM11749 _ _ hb9022
                  replace hm9073 := MRel.mono hm9073 hM11749
                  have LE11750 := Hp.le_refl M11748
                  refine Wa_oneOf (rs := [11, 12]) (by kernel_rfl) (by decide) ?_
                  simp only [List.forall_mem_cons, List.not_mem_nil, false_implies, implies_true, and_true]
                  refine ⟨?_, ?_⟩
                  · refine ⟨_, rfl, ?_⟩
                    refine W_alloc S #[.int .i64 0, .bool false, .string (bs ([] : Str)), .slice none 0 0] ty43 rfl rfl ?_
                    intro b11751 w11752 E' S
                    replace E := E.trans E'
                    clear E'
                    refine Wl_nil (on_n ⟨.inr ⟨M11748, hM11749, (S.pick [13, 14, 15, 16, 17, 18, 19] (by decide))⟩, ?_⟩)
                    exact hq11619 _ _ ⟨x10613, x10614, x10615, x10616, x10620, x10621, x10622, x10623, x10627, x10642, A10617, c10618, A10624, c10625, A10628, c10629, A10631, c10632, A10634, c10635, A10637, c10638, vs10640, A10643, c10644, A10646, c10647, A10649, c10650, A10652, c10653, vs10655, b11751, M11748, H, ⟨rfl, rfl, rfl, rfl, rfl, rfl, rfl, rfl, rfl, rfl, rfl, trivial⟩, hM11749, E, S.pick [0, 1, 2, 3, 4, 5, 6, 7, 8, 9, 10, 11, 12, 13, 14, 15, 16, 17, 18, 19] (by decide), hm10641, hm10656⟩
                  · refine ⟨_, rfl, ?_⟩
                    refine W_alloc S #[.int .i64 0, .bool false, .string (bs ([] : Str)), .slice none 0 0] ty43 rfl rfl ?_
                    intro b11754 w11755 E' S
                    replace E := E.trans E'
                    clear E'
                    refine Wl_nil (on_n ⟨.inr ⟨M11748, hM11749, (S.pick [13, 14, 15, 16, 17, 18, 19] (by decide))⟩, ?_⟩)
                    exact hq11620 _ _ ⟨x10613, x10614, x10615, x10616, x10620, x10621, x10622, x10623, x10627, x10642, A10617, c10618, A10624, c10625, A10628, c10629, A10631, c10632, A10634, c10635, A10637, c10638, vs10640, A10643, c10644, A10646, c10647, A10649, c10650, A10652, c10653, vs10655, b11754, M11748, H, ⟨rfl, rfl, rfl, rfl, rfl, rfl, rfl, rfl, rfl, rfl, rfl, trivial⟩, hM11749, E, S.pick [0, 1, 2, 3, 4, 5, 6, 7, 8, 9, 10, 11, 12, 13, 14, 15, 16, 17, 18, 19] (by decide), hm10641, hm10656⟩
                intro hq11615
                refine Wa_join (fun ρ w' => ∃ (b10586 : Nat) (Mj : Hp), (Option.bind (model_Model_Do_POOOO k x6038 ((rd a1 x6022).Task) ((rd a1 x6022).Call)) (fun t11321 => (Option.bind (model_Model_Do_POOOO k x6023 x9046 ((rd a1 x6022).Call)) (fun t11343 => some (t11321.1.Err, t11321.1.Found, t11321.1.Value, t11321.1.Pairs, t11343.1.Err, t11343.1.Found, t11343.1.Value, t11343.1.Pairs, t11343.2, t11321.2))))) = some o11610 ∧ Agree ρ [(1, .slice A1 a1.length c1), (2, .int .i64 a2), (3, .pointer (some ⟨b1, 0, none⟩)), (7, .pointer (some ⟨b57, 0, none⟩)), (9, .pointer (some ⟨b83, 0, none⟩)), (11, .int .i64 x6022), (12, .pointer (some ⟨b9027, 0, none⟩)), (14, .pointer (some ⟨b9058, 0, none⟩)), (16, .pointer (some ⟨b10586, 0, none⟩)), (80, .pointer (some ⟨b57, 0, none⟩)), (82, .int .i64 ((rd a1 x6022).Task)), (84, .agg #[.int .u8 ((rd a1 x6022).Call.Kind), .int .i64 ((rd a1 x6022).Call.Tx), .string (bs ((rd a1 x6022).Call.Key)), .string (bs ((rd a1 x6022).Call.End)), .string (bs ((rd a1 x6022).Call.Value)), .int .i64 ((rd a1 x6022).Call.Limit), .int .u8 ((rd a1 x6022).Call.Engine)]), (86, .pointer (some ⟨b83, 0, none⟩)), (87, .int .i64 x9046), (89, .agg #[.int .u8 ((rd a1 x6022).Call.Kind), .int .i64 ((rd a1 x6022).Call.Tx), .string (bs ((rd a1 x6022).Call.Key)), .string (bs ((rd a1 x6022).Call.End)), .string (bs ((rd a1 x6022).Call.Value)), .int .i64 ((rd a1 x6022).Call.Limit), .int .u8 ((rd a1 x6022).Call.Engine)])] ∧ M9075.le Mj ∧ Ext w w' ∧ St w' Mj F [Blk b10586 (.cells #[.int .i64 0, .bool false, .string (bs ([] : Str)), .slice none 0 0] 43 (0, 0)), B94 b9058 t9056 A9060 A9063 A9066 c9067 A9069, MapC enc_model_name (Value.int .i64) A9060 t9056.names, MapC (Value.int .i64) (Value.int .i64) A9063 t9056.many, Row r_model_tx 99 (.slice A9066 t9056.txs.length c9067) t9056.txs, MapC encS (fun v : Value => v) A9069 vs9072, B94 b57 x6038 A6039 A6042 A6045 c6046 A6048, MapC enc_model_name (Value.int .i64) A6039 x6038.names, MapC (Value.int .i64) (Value.int .i64) A6042 x6038.many, Row r_model_tx 99 (.slice A6045 x6038.txs.length c6046) x6038.txs, MapC encS (fun v : Value => v) A6048 vs6051, B39 b9027 (rd a1 x6022), MapC encS (fun v : Value => v) A6033 vs6036, Row r_model_tx 99 (.slice A6030 x6023.txs.length c6031) x6023.txs, MapC (Value.int .i64) (Value.int .i64) A6027 x6023.many, MapC enc_model_name (Value.int .i64) A6024 x6023.names, B94 b83 x6023 A6024 A6027 A6030 c6031 A6033, B23 b1 a0]) 5 (Ls 15 [0, 1, 2, 3, 4, 6, 7, 8, 9, 12]) ?_ ?_
                · clear o11610h
                  rintro ρ w11757 ⟨b10586, M11758, H, hρ, hM11759, E, S⟩
                  rw [agree_eta hρ]
                  clear hρ
                  replace hg0 : ∃ gt fr, _ := (let ⟨gt, fr, h8⟩ := hg0; ⟨gt, fr, hM11759 _ _ h8⟩)
                  replace HM := Hp.le_trans HM hM11759
                  replace hM9015 := Hp.le_trans hM9015 hM11759
                  replace LE10477 := Hp.le_trans LE10477 hM11759
                  replace hr1 := SlR.mono hr1 hM11759
                  replace hm72 := MRel.mono hm72 hM11759
                  replace hm98 := MRel.mono hm98 hM11759
                  replace hm6037 := MRel.mono hm6037 hM11759
                  replace hm6052 := MRel.mono hm6052 hM11759
                  replace hb9022 := hM11759 _ _ hb9022
                  replace hm9073 := MRel.mono hm9073 hM11759
                  have LE11760 := Hp.le_refl M11758
                  refine Wa_oneOf (rs := [5, 11]) (by kernel_rfl) (by decide) ?_
                  simp only [List.forall_mem_cons, List.not_mem_nil, false_implies, implies_true, and_true]
                  refine ⟨?_, ?_⟩
                  · refine ⟨_, rfl, ?_⟩
                    obtain ⟨t11761, ht11762, H⟩ := bindS H
                    replace S : St w11757 M11758 F [_, _, _, _, _, _, _, _, _, _, _, _, _, _, _, _, _, _] := S.pick [6, 7, 8, 9, 10, 0, 1, 2, 3, 4, 5, 11, 12, 13, 14, 15, 16, 17] (by decide)
                    refine W_call fn15 (model_Model_Do_POOOO.con k M11758 A6039 c6040 A6042 c6043 A6045 c6046 A6048 c6049 vs6051 x6038 ((rd a1 x6022).Task) ((rd a1 x6022).Call) b57 t11761 hm6052 hg0 ht11762) (Γ1 := [_, _, _, _, _]) (Γ2 := [_, _, _, _, _, _, _, _, _, _, _, _, _]) S rfl rfl ?_
                    rintro _ w11780 M11781 Γ' hM11782 E' S ⟨A11763, c11764, A11766, c11767, A11769, c11770, A11772, c11773, A11775, c11776, vs11778, rfl, hm11779, rfl⟩
                    replace hg0 : ∃ gt fr, _ := (let ⟨gt, fr, h8⟩ := hg0; ⟨gt, fr, hM11782 _ _ h8⟩)
                    replace HM := Hp.le_trans HM hM11782
                    replace hM9015 := Hp.le_trans hM9015 hM11782
                    replace hM11759 := Hp.le_trans hM11759 hM11782
                    replace LE11760 := Hp.le_trans LE11760 hM11782
                    replace hr1 := SlR.mono hr1 hM11782
                    replace hm72 := MRel.mono hm72 hM11782
                    replace hm98 := MRel.mono hm98 hM11782
                    replace hm6037 := MRel.mono hm6037 hM11782
                    replace hm6052 := MRel.mono hm6052 hM11782
                    replace hb9022 := hM11782 _ _ hb9022
                    replace hm9073 := MRel.mono hm9073 hM11782
                    replace E := E.trans E'
                    clear E'
                    replace S : St w11780 M11781 F [_, _, _, _, _, _, _, _, _, _, _, _, _, _, _, _, _, _, _] := S
                    refine Wl_nil (on_n ⟨.inr ⟨M11781, hM11759, (S.pick [7, 8, 9, 10, 11, 12, 18] (by decide))⟩, ?_⟩)
                    exact hq11617 _ _ ⟨t11761.1.Err, t11761.1.Found, t11761.1.Value, t11761.1.Pairs, t11761.2, A11763, c11764, A11766, c11767, A11769, c11770, A11772, c11773, A11775, c11776, vs11778, b10586, M11781, H, ⟨rfl, rfl, rfl, rfl, rfl, rfl, rfl, rfl, rfl, rfl, rfl, rfl, rfl, trivial⟩, hM11759, E, S.pick [6, 5, 4, 3, 2, 0, 1, 7, 8, 9, 10, 11, 12, 13, 14, 15, 16, 17, 18] (by decide), hm11779⟩
                  · refine ⟨_, rfl, ?_⟩
                    refine W_alloc S #[.int .i64 0, .bool false, .string (bs ([] : Str)), .slice none 0 0] ty43 rfl rfl ?_
                    intro b11783 w11784 E' S
                    replace E := E.trans E'
                    clear E'
                    refine Wl_nil (on_n ⟨.inr ⟨M11758, hM11759, (S.pick [2, 3, 4, 5, 6, 12, 18] (by decide))⟩, ?_⟩)
                    exact hq11618 _ _ ⟨b11783, b10586, M11758, H, ⟨rfl, rfl, rfl, rfl, rfl, rfl, rfl, rfl, rfl, rfl, rfl, rfl, rfl, rfl, rfl, rfl, trivial⟩, hM11759, E, S.pick [1, 0, 2, 3, 4, 5, 6, 7, 8, 9, 10, 11, 12, 13, 14, 15, 16, 17, 18] (by decide)⟩
                intro hq11614
                refine Wa_join (fun ρ w' => ∃ (b10559 : Nat) (Mj : Hp), (Option.bind (model_Model_Do_POOOO k x6038 ((rd a1 x6022).Task) ((rd a1 x6022).Call)) (fun t11225 => (Option.bind (model_Model_Do_POOOO k x6023 x9046 ((rd a1 x6022).Call)) (fun t11247 => some (t11225.1.Err, t11225.1.Found, t11225.1.Value, t11225.1.Pairs, t11247.1.Err, t11247.1.Found, t11247.1.Value, t11247.1.Pairs, t11247.2, t11225.2))))) = some o11610 ∧ Agree ρ [(1, .slice A1 a1.length c1), (2, .int .i64 a2), (3, .pointer (some ⟨b1, 0, none⟩)), (7, .pointer (some ⟨b57, 0, none⟩)), (9, .pointer (some ⟨b83, 0, none⟩)), (11, .int .i64 x6022), (12, .pointer (some ⟨b9027, 0, none⟩)), (14, .pointer (some ⟨b9058, 0, none⟩)), (15, .pointer (some ⟨b10559, 0, none⟩)), (80, .pointer (some ⟨b57, 0, none⟩)), (82, .int .i64 ((rd a1 x6022).Task)), (84, .agg #[.int .u8 ((rd a1 x6022).Call.Kind), .int .i64 ((rd a1 x6022).Call.Tx), .string (bs ((rd a1 x6022).Call.Key)), .string (bs ((rd a1 x6022).Call.End)), .string (bs ((rd a1 x6022).Call.Value)), .int .i64 ((rd a1 x6022).Call.Limit), .int .u8 ((rd a1 x6022).Call.Engine)]), (86, .pointer (some ⟨b83, 0, none⟩)), (87, .int .i64 x9046), (89, .agg #[.int .u8 ((rd a1 x6022).Call.Kind), .int .i64 ((rd a1 x6022).Call.Tx), .string (bs ((rd a1 x6022).Call.Key)), .string (bs ((rd a1 x6022).Call.End)), .string (bs ((rd a1 x6022).Call.Value)), .int .i64 ((rd a1 x6022).Call.Limit), .int .u8 ((rd a1 x6022).Call.Engine)])] ∧ M9075.le Mj ∧ Ext w w' ∧ St w' Mj F [Blk b10559 (.cells #[.int .i64 0, .bool false, .string (bs ([] : Str)), .slice none 0 0] 43 (0, 0)), B94 b9058 t9056 A9060 A9063 A9066 c9067 A9069, MapC enc_model_name (Value.int .i64) A9060 t9056.names, MapC (Value.int .i64) (Value.int .i64) A9063 t9056.many, Row r_model_tx 99 (.slice A9066 t9056.txs.length c9067) t9056.txs, MapC encS (fun v : Value => v) A9069 vs9072, B94 b57 x6038 A6039 A6042 A6045 c6046 A6048, MapC enc_model_name (Value.int .i64) A6039 x6038.names, MapC (Value.int .i64) (Value.int .i64) A6042 x6038.many, Row r_model_tx 99 (.slice A6045 x6038.txs.length c6046) x6038.txs, MapC encS (fun v : Value => v) A6048 vs6051, B39 b9027 (rd a1 x6022), MapC encS (fun v : Value => v) A6033 vs6036, Row r_model_tx 99 (.slice A6030 x6023.txs.length c6031) x6023.txs, MapC (Value.int .i64) (Value.int .i64) A6027 x6023.many, MapC enc_model_name (Value.int .i64) A6024 x6023.names, B94 b83 x6023 A6024 A6027 A6030 c6031 A6033, B23 b1 a0]) 5 (Ls 15 [0, 1, 2, 3, 4, 6, 7, 8, 9, 11]) ?_ ?_
                · clear o11610h
                  rintro ρ w11786 ⟨b10559, M11787, H, hρ, hM11788, E, S⟩
                  rw [agree_eta hρ]
                  clear hρ
                  replace hg0 : ∃ gt fr, _ := (let ⟨gt, fr, h8⟩ := hg0; ⟨gt, fr, hM11788 _ _ h8⟩)
                  replace HM := Hp.le_trans HM hM11788
                  replace hM9015 := Hp.le_trans hM9015 hM11788
                  replace LE10477 := Hp.le_trans LE10477 hM11788
                  replace hr1 := SlR.mono hr1 hM11788
                  replace hm72 := MRel.mono hm72 hM11788
                  replace hm98 := MRel.mono hm98 hM11788
                  replace hm6037 := MRel.mono hm6037 hM11788
                  replace hm6052 := MRel.mono hm6052 hM11788
                  replace hb9022 := hM11788 _ _ hb9022
                  replace hm9073 := MRel.mono hm9073 hM11788
                  have LE11789 := Hp.le_refl M11787
                  refine Wa_oneOf (rs := [5, 12]) (by kernel_rfl) (by decide) ?_
                  simp only [List.forall_mem_cons, List.not_mem_nil, false_implies, implies_true, and_true]
                  refine ⟨?_, ?_⟩
                  · refine ⟨_, rfl, ?_⟩
                    obtain ⟨t11790, ht11791, H⟩ := bindS H
                    replace S : St w11786 M11787 F [_, _, _, _, _, _, _, _, _, _, _, _, _, _, _, _, _, _] := S.pick [6, 7, 8, 9, 10, 0, 1, 2, 3, 4, 5, 11, 12, 13, 14, 15, 16, 17] (by decide)
                    refine W_call fn15 (model_Model_Do_POOOO.con k M11787 A6039 c6040 A6042 c6043 A6045 c6046 A6048 c6049 vs6051 x6038 ((rd a1 x6022).Task) ((rd a1 x6022).Call) b57 t11790 hm6052 hg0 ht11791) (Γ1 := [_, _, _, _, _]) (Γ2 := [_, _, _, _, _, _, _, _, _, _, _, _, _]) S rfl rfl ?_
                    rintro _ w11809 M11810 Γ' hM11811 E' S ⟨A11792, c11793, A11795, c11796, A11798, c11799, A11801, c11802, A11804, c11805, vs11807, rfl, hm11808, rfl⟩
                    replace hg0 : ∃ gt fr, _ := (let ⟨gt, fr, h8⟩ := hg0; ⟨gt, fr, hM11811 _ _ h8⟩)
                    replace HM := Hp.le_trans HM hM11811
                    replace hM9015 := Hp.le_trans hM9015 hM11811
                    replace hM11788 := Hp.le_trans hM11788 hM11811
                    replace LE11789 := Hp.le_trans LE11789 hM11811
                    replace hr1 := SlR.mono hr1 hM11811
                    replace hm72 := MRel.mono hm72 hM11811
                    replace hm98 := MRel.mono hm98 hM11811
                    replace hm6037 := MRel.mono hm6037 hM11811
                    replace hm6052 := MRel.mono hm6052 hM11811
                    replace hb9022 := hM11811 _ _ hb9022
                    replace hm9073 := MRel.mono hm9073 hM11811
                    replace E := E.trans E'
                    clear E'
                    replace S : St w11809 M11810 F [_, _, _, _, _, _, _, _, _, _, _, _, _, _, _, _, _, _, _] := S
                    refine Wl_nil (on_n ⟨.inr ⟨M11810, hM11788, (S.pick [7, 8, 9, 10, 11, 12, 18] (by decide))⟩, ?_⟩)
                    exact hq11616 _ _ ⟨t11790.1.Err, t11790.1.Found, t11790.1.Value, t11790.1.Pairs, t11790.2, A11792, c11793, A11795, c11796, A11798, c11799, A11801, c11802, A11804, c11805, vs11807, b10559, M11810, H, ⟨rfl, rfl, rfl, rfl, rfl, rfl, rfl, rfl, rfl, rfl, rfl, rfl, rfl, trivial⟩, hM11788, E, S.pick [6, 5, 4, 3, 2, 0, 1, 7, 8, 9, 10, 11, 12, 13, 14, 15, 16, 17, 18] (by decide), hm11808⟩
                  · refine ⟨_, rfl, ?_⟩
                    refine W_alloc S #[.int .i64 0, .bool false, .string (bs ([] : Str)), .slice none 0 0] ty43 rfl rfl ?_
                    intro b11812 w11813 E' S
                    replace E := E.trans E'
                    clear E'
                    refine Wl_nil (on_n ⟨.inr ⟨M11787, hM11788, (S.pick [2, 3, 4, 5, 6, 12, 18] (by decide))⟩, ?_⟩)
                    exact hq11618 _ _ ⟨b10559, b11812, M11787, H, ⟨rfl, rfl, rfl, rfl, rfl, rfl, rfl, rfl, rfl, rfl, rfl, rfl, rfl, rfl, rfl, rfl, trivial⟩, hM11788, E, S.pick [0, 1, 2, 3, 4, 5, 6, 7, 8, 9, 10, 11, 12, 13, 14, 15, 16, 17, 18] (by decide)⟩
                intro hq11613
                refine Wa_join (fun ρ w' => ∃ (x10508 : Int) (x10509 : Bool) (x10510 : Str) (x10511 : List api_Pair) (x10515 : model_Model) (A10512 : Option Addr) (c10513 : Nat) (A10516 : Option Addr) (c10517 : Nat) (A10519 : Option Addr) (c10520 : Nat) (A10522 : Option Addr) (c10523 : Nat) (A10525 : Option Addr) (c10526 : Nat) (vs10528 : List (Str × Value)) (Mj : Hp), (Option.bind (model_Model_Do_POOOO k x6023 x9046 ((rd a1 x6022).Call)) (fun t11138 => some (x10508, x10509, x10510, x10511, t11138.1.Err, t11138.1.Found, t11138.1.Value, t11138.1.Pairs, t11138.2, x10515))) = some o11610 ∧ Agree ρ [(1, .slice A1 a1.length c1), (2, .int .i64 a2), (3, .pointer (some ⟨b1, 0, none⟩)), (7, .pointer (some ⟨b57, 0, none⟩)), (9, .pointer (some ⟨b83, 0, none⟩)), (11, .int .i64 x6022), (12, .pointer (some ⟨b9027, 0, none⟩)), (14, .pointer (some ⟨b9058, 0, none⟩)), (85, .agg #[.int .i64 x10508, .bool x10509, .string (bs x10510), .slice A10512 x10511.length c10513]), (86, .pointer (some ⟨b83, 0, none⟩)), (87, .int .i64 x9046), (89, .agg #[.int .u8 ((rd a1 x6022).Call.Kind), .int .i64 ((rd a1 x6022).Call.Tx), .string (bs ((rd a1 x6022).Call.Key)), .string (bs ((rd a1 x6022).Call.End)), .string (bs ((rd a1 x6022).Call.Value)), .int .i64 ((rd a1 x6022).Call.Limit), .int .u8 ((rd a1 x6022).Call.Engine)])] ∧ M9075.le Mj ∧ Ext w w' ∧ St w' Mj F [MapC encS (fun v : Value => v) A10525 vs10528, Row r_model_tx 99 (.slice A10522 x10515.txs.length c10523) x10515.txs, MapC (Value.int .i64) (Value.int .i64) A10519 x10515.many, MapC enc_model_name (Value.int .i64) A10516 x10515.names, Row r_api_Pair 87 (.slice A10512 x10511.length c10513) x10511, B94 b57 x10515 A10516 A10519 A10522 c10523 A10525, B94 b9058 t9056 A9060 A9063 A9066 c9067 A9069, MapC enc_model_name (Value.int .i64) A9060 t9056.names, MapC (Value.int .i64) (Value.int .i64) A9063 t9056.many, Row r_model_tx 99 (.slice A9066 t9056.txs.length c9067) t9056.txs, MapC encS (fun v : Value => v) A9069 vs9072, B39 b9027 (rd a1 x6022), MapC encS (fun v : Value => v) A6033 vs6036, Row r_model_tx 99 (.slice A6030 x6023.txs.length c6031) x6023.txs, MapC (Value.int .i64) (Value.int .i64) A6027 x6023.many, MapC enc_model_name (Value.int .i64) A6024 x6023.names, B94 b83 x6023 A6024 A6027 A6030 c6031 A6033, B23 b1 a0] ∧ MRel r_model_row Mj x10515.rows vs10528) 5 (Ls 15 [0, 1, 2, 3, 4, 5, 6, 7, 8, 9]) ?_ ?_
                · clear o11610h
                  rintro ρ w11815 ⟨x10508, x10509, x10510, x10511, x10515, A10512, c10513, A10516, c10517, A10519, c10520, A10522, c10523, A10525, c10526, vs10528, M11816, H, hρ, hM11817, E, S, hm10529⟩
                  rw [agree_eta hρ]
                  clear hρ
                  replace hg0 : ∃ gt fr, _ := (let ⟨gt, fr, h8⟩ := hg0; ⟨gt, fr, hM11817 _ _ h8⟩)
                  replace HM := Hp.le_trans HM hM11817
                  replace hM9015 := Hp.le_trans hM9015 hM11817
                  replace LE10477 := Hp.le_trans LE10477 hM11817
                  replace hr1 := SlR.mono hr1 hM11817
                  replace hm72 := MRel.mono hm72 hM11817
                  replace hm98 := MRel.mono hm98 hM11817
                  replace hm6037 := MRel.mono hm6037 hM11817
                  replace hm6052 := MRel.mono hm6052 hM11817
                  replace hb9022 := hM11817 _ _ hb9022
                  replace hm9073 := MRel.mono hm9073 hM11817
                  have LE11818 := Hp.le_refl M11816
                  refine Wa_oneOf (rs := [10, 11, 12]) (by kernel_rfl) (by decide) ?_
                  simp only [List.forall_mem_cons, List.not_mem_nil, false_implies, implies_true, and_true]
                  refine ⟨?_, ?_, ?_⟩
                  · refine ⟨_, rfl, ?_⟩
                    obtain ⟨t11819, ht11820, H⟩ := bindS H
                    replace S : St w11815 M11816 F [_, _, _, _, _, _, _, _, _, _, _, _, _, _, _, _, _, _] := S.pick [16, 15, 14, 13, 12, 0, 1, 2, 3, 4, 5, 6, 7, 8, 9, 10, 11, 17] (by decide)
                    refine W_call fn15 (model_Model_Do_POOOO.con k M11816 A6024 c6025 A6027 c6028 A6030 c6031 A6033 c6034 vs6036 x6023 x9046 ((rd a1 x6022).Call) b83 t11819 hm6037 hg0 ht11820) (Γ1 := [_, _, _, _, _]) (Γ2 := [_, _, _, _, _, _, _, _, _, _, _, _, _]) S rfl rfl ?_
                    rintro _ w11838 M11839 Γ' hM11840 E' S ⟨A11821, c11822, A11824, c11825, A11827, c11828, A11830, c11831, A11833, c11834, vs11836, rfl, hm11837, rfl⟩
                    replace hg0 : ∃ gt fr, _ := (let ⟨gt, fr, h8⟩ := hg0; ⟨gt, fr, hM11840 _ _ h8⟩)
                    replace HM := Hp.le_trans HM hM11840
                    replace hM9015 := Hp.le_trans hM9015 hM11840
                    replace hM11817 := Hp.le_trans hM11817 hM11840
                    replace LE11818 := Hp.le_trans LE11818 hM11840
                    replace hr1 := SlR.mono hr1 hM11840
                    replace hm72 := MRel.mono hm72 hM11840
                    replace hm98 := MRel.mono hm98 hM11840
                    replace hm6037 := MRel.mono hm6037 hM11840
                    replace hm6052 := MRel.mono hm6052 hM11840
                    replace hb9022 := hM11840 _ _ hb9022
                    replace hm9073 := MRel.mono hm9073 hM11840
                    replace hm10529 := MRel.mono hm10529 hM11840
                    replace E := E.trans E'
                    clear E'
                    replace S : St w11838 M11839 F [_, _, _, _, _, _, _, _, _, _, _, _, _, _, _, _, _, _, _] := S
                    refine Wl_nil (on_n ⟨.inr ⟨M11839, hM11817, (S.pick [12, 13, 14, 15, 16, 17, 18] (by decide))⟩, ?_⟩)
                    exact hq11615 _ _ ⟨x10508, x10509, x10510, x10511, t11819.1.Err, t11819.1.Found, t11819.1.Value, t11819.1.Pairs, t11819.2, x10515, A10512, c10513, A11821, c11822, A11824, c11825, A11827, c11828, A11830, c11831, A11833, c11834, vs11836, A10516, c10517, A10519, c10520, A10522, c10523, A10525, c10526, vs10528, M11839, H, ⟨rfl, rfl, rfl, rfl, rfl, rfl, rfl, rfl, rfl, rfl, trivial⟩, hM11817, E, S.pick [6, 7, 8, 9, 5, 4, 3, 2, 0, 10, 1, 11, 12, 13, 14, 15, 16, 17, 18] (by decide), hm11837, hm10529⟩
                  · refine ⟨_, rfl, ?_⟩
                    refine W_alloc S #[.int .i64 0, .bool false, .string (bs ([] : Str)), .slice none 0 0] ty43 rfl rfl ?_
                    intro b11841 w11842 E' S
                    replace E := E.trans E'
                    clear E'
                    refine Wl_nil (on_n ⟨.inr ⟨M11816, hM11817, (S.pick [7, 8, 9, 10, 11, 12, 18] (by decide))⟩, ?_⟩)
                    exact hq11616 _ _ ⟨x10508, x10509, x10510, x10511, x10515, A10512, c10513, A10516, c10517, A10519, c10520, A10522, c10523, A10525, c10526, vs10528, b11841, M11816, H, ⟨rfl, rfl, rfl, rfl, rfl, rfl, rfl, rfl, rfl, rfl, rfl, rfl, rfl, trivial⟩, hM11817, E, S.pick [0, 1, 2, 3, 4, 5, 6, 7, 8, 9, 10, 11, 12, 13, 14, 15, 16, 17, 18] (by decide), hm10529⟩
                  · refine ⟨_, rfl, ?_⟩
                    refine W_alloc S #[.int .i64 0, .bool false, .string (bs ([] : Str)), .slice none 0 0] ty43 rfl rfl ?_
                    intro b11844 w11845 E' S
                    replace E := E.trans E'
                    clear E'
                    refine Wl_nil (on_n ⟨.inr ⟨M11816, hM11817, (S.pick [7, 8, 9, 10, 11, 12, 18] (by decide))⟩, ?_⟩)
                    exact hq11617 _ _ ⟨x10508, x10509, x10510, x10511, x10515, A10512, c10513, A10516, c10517, A10519, c10520, A10522, c10523, A10525, c10526, vs10528, b11844, M11816, H, ⟨rfl, rfl, rfl, rfl, rfl, rfl, rfl, rfl, rfl, rfl, rfl, rfl, rfl, trivial⟩, hM11817, E, S.pick [0, 1, 2, 3, 4, 5, 6, 7, 8, 9, 10, 11, 12, 13, 14, 15, 16, 17, 18] (by decide), hm10529⟩
                intro hq11612
                have H := o11610h
                refine Wa_oneOf (rs := [5, 11, 12]) (by kernel_rfl) (by decide) ?_
                simp only [List.forall_mem_cons, List.not_mem_nil, false_implies, implies_true, and_true]
                refine ⟨?_, ?_, ?_⟩
                · refine ⟨_, rfl, ?_⟩
                  obtain ⟨t11847, ht11848, H⟩ := bindS H
                  replace S : St w10478 M9075 F [_, _, _, _, _, _, _, _, _, _, _, _, _, _, _, _, _] := S.pick [5, 6, 7, 8, 9, 0, 1, 2, 3, 4, 10, 11, 12, 13, 14, 15, 16] (by decide)
                  refine W_call fn15 (model_Model_Do_POOOO.con k M9075 A6039 c6040 A6042 c6043 A6045 c6046 A6048 c6049 vs6051 x6038 ((rd a1 x6022).Task) ((rd a1 x6022).Call) b57 t11847 hm6052 hg0 ht11848) (Γ1 := [_, _, _, _, _]) (Γ2 := [_, _, _, _, _, _, _, _, _, _, _, _]) S rfl rfl ?_
                  rintro _ w11866 M11867 Γ' hM11868 E' S ⟨A11849, c11850, A11852, c11853, A11855, c11856, A11858, c11859, A11861, c11862, vs11864, rfl, hm11865, rfl⟩
                  replace hg0 : ∃ gt fr, _ := (let ⟨gt, fr, h8⟩ := hg0; ⟨gt, fr, hM11868 _ _ h8⟩)
                  replace HM := Hp.le_trans HM hM11868
                  replace hM9015 := Hp.le_trans hM9015 hM11868
                  replace LE10477 := Hp.le_trans LE10477 hM11868
                  replace hr1 := SlR.mono hr1 hM11868
                  replace hm72 := MRel.mono hm72 hM11868
                  replace hm98 := MRel.mono hm98 hM11868
                  replace hm6037 := MRel.mono hm6037 hM11868
                  replace hm6052 := MRel.mono hm6052 hM11868
                  replace hb9022 := hM11868 _ _ hb9022
                  replace hm9073 := MRel.mono hm9073 hM11868
                  replace E := E.trans E'
                  clear E'
                  replace S : St w11866 M11867 F [_, _, _, _, _, _, _, _, _, _, _, _, _, _, _, _, _, _] := S
                  refine Wl_nil (on_n ⟨.inr ⟨M11867, LE10477, (S.pick [6, 7, 8, 9, 10, 11, 17] (by decide))⟩, ?_⟩)
                  exact hq11612 _ _ ⟨t11847.1.Err, t11847.1.Found, t11847.1.Value, t11847.1.Pairs, t11847.2, A11849, c11850, A11852, c11853, A11855, c11856, A11858, c11859, A11861, c11862, vs11864, M11867, H, ⟨rfl, rfl, rfl, rfl, rfl, rfl, rfl, rfl, rfl, rfl, rfl, rfl, trivial⟩, LE10477, E, S.pick [5, 4, 3, 2, 0, 1, 6, 7, 8, 9, 10, 11, 12, 13, 14, 15, 16, 17] (by decide), hm11865⟩
                · refine ⟨_, rfl, ?_⟩
                  refine W_alloc S #[.int .i64 0, .bool false, .string (bs ([] : Str)), .slice none 0 0] ty43 rfl rfl ?_
                  intro b11869 w11870 E' S
                  replace E := E.trans E'
                  clear E'
                  refine Wl_nil (on_n ⟨.inr ⟨M9075, Hp.le_refl M9075, (S.pick [1, 2, 3, 4, 5, 11, 17] (by decide))⟩, ?_⟩)
                  exact hq11613 _ _ ⟨b11869, M9075, H, ⟨rfl, rfl, rfl, rfl, rfl, rfl, rfl, rfl, rfl, rfl, rfl, rfl, rfl, rfl, rfl, trivial⟩, (Hp.le_refl M9075), E, S.pick [0, 1, 2, 3, 4, 5, 6, 7, 8, 9, 10, 11, 12, 13, 14, 15, 16, 17] (by decide)⟩
                · refine ⟨_, rfl, ?_⟩
                  refine W_alloc S #[.int .i64 0, .bool false, .string (bs ([] : Str)), .slice none 0 0] ty43 rfl rfl ?_
                  intro b11872 w11873 E' S
                  replace E := E.trans E'
                  clear E'
                  refine Wl_nil (on_n ⟨.inr ⟨M9075, Hp.le_refl M9075, (S.pick [1, 2, 3, 4, 5, 11, 17] (by decide))⟩, ?_⟩)
                  exact hq11614 _ _ ⟨b11872, M9075, H, ⟨rfl, rfl, rfl, rfl, rfl, rfl, rfl, rfl, rfl, rfl, rfl, rfl, rfl, rfl, rfl, trivial⟩, (Hp.le_refl M9075), E, S.pick [0, 1, 2, 3, 4, 5, 6, 7, 8, 9, 10, 11, 12, 13, 14, 15, 16, 17] (by decide)⟩
              clear o11610h
              rintro ρ w11875 ⟨x10943, x10944, x10945, x10946, x10950, x10951, x10952, x10953, x10957, x10972, A10947, c10948, A10954, c10955, A10958, c10959, A10961, c10962, A10964, c10965, A10967, c10968, vs10970, A10973, c10974, A10976, c10977, A10979, c10980, A10982, c10983, vs10985, b10939, b10941, M11876, rfl, hρ, hM11877, E, S, hm10971, hm10986⟩
              rw [agree_eta hρ]
              clear hρ
              replace hg0 : ∃ gt fr, _ := (let ⟨gt, fr, h8⟩ := hg0; ⟨gt, fr, hM11877 _ _ h8⟩)
              replace HM := Hp.le_trans HM hM11877
              replace hM9015 := Hp.le_trans hM9015 hM11877
              replace LE10477 := Hp.le_trans LE10477 hM11877
              replace hr1 := SlR.mono hr1 hM11877
              replace hm72 := MRel.mono hm72 hM11877
              replace hm98 := MRel.mono hm98 hM11877
              replace hm6037 := MRel.mono hm6037 hM11877
              replace hm6052 := MRel.mono hm6052 hM11877
              replace hb9022 := hM11877 _ _ hb9022
              replace hm9073 := MRel.mono hm9073 hM11877
              have H := o11610H
              clear o11610H
              refine Wa_solo (i := 13) rfl (by kernel_rfl) ?_
              refine W_store S 1 rfl ty43 rfl rfl [.int .i64 x10943, .bool x10944, .string (bs x10945), .slice A10947 x10946.length c10948] rfl rfl rfl #[.int .i64 x10943, .bool x10944, .string (bs x10945), .slice A10947 x10946.length c10948] rfl rfl ?_
              intro w11878 E' S
              replace E := E.trans E'
              clear E'
              refine Wl_nil (on_n ⟨.inl (by decide), ?_⟩)
              refine Wa_solo (i := 14) rfl (by kernel_rfl) ?_
              refine W_store S 0 rfl ty43 rfl rfl [.int .i64 x10950, .bool x10951, .string (bs x10952), .slice A10954 x10953.length c10955] rfl rfl rfl #[.int .i64 x10950, .bool x10951, .string (bs x10952), .slice A10954 x10953.length c10955] rfl rfl ?_
              intro w11879 E' S
              replace E := E.trans E'
              clear E'
              refine Wl_nil (on_n ⟨.inl (by decide), ?_⟩)
              refine Wa_done (by kernel_rfl) ?_
              refine tn ?_
              as_aux_lemma =>
              refine Wp_seq ?_
              refine Wp_region_lit ?_
              refine W_v (.agg #[.int .i64 x10943, .bool x10944, .string (bs x10945), .slice A10947 x10946.length c10948]) (x_loadA (S.blk 1 rfl) ty43 rfl (sub_of_extract rfl) rfl rfl) rfl ?_
              refine W_v (.agg #[.int .i64 x10950, .bool x10951, .string (bs x10952), .slice A10954 x10953.length c10955]) (x_loadA (S.blk 0 rfl) ty43 rfl (sub_of_extract rfl) rfl rfl) rfl ?_
              replace S : St w11879 M11876 F [_, _, _, _, _, _, _, _, _, _, _, _, _, _, _, _, _, _, _, _, _] := S.pick [11, 10, 0, 1, 2, 3, 4, 5, 6, 7, 8, 9, 12, 13, 14, 15, 16, 17, 18, 19, 20] (by decide)
              obtain ⟨t11880, ht11881, H⟩ := bindS H
              refine W_callN 2 fn20 (fun h9 hs9 hd9 => ferrymanref06_Answers.con k _ A10947 c10948 (⟨x10943, x10944, x10945, x10946⟩ : api_Answer) A10954 c10955 (⟨x10950, x10951, x10952, x10953⟩ : api_Answer) t11880 (Sats.row hs9 hd9 0 rfl) (Sats.row hs9 hd9 1 rfl) ht11881) S rfl rfl (by rintro _ _ _ ⟨_, rfl⟩; exact flat_nil) ?_
              rintro _ w11882 _ Γ' E' S ⟨rfl, rfl⟩
              replace E := E.trans E'
              clear E'
              refine W_v (.bool (!t11880)) (x_not rfl) rfl ?_
              refine W_v _ (x_move rfl) rfl ?_
              obtain ⟨o11923, o11923h, o11923H⟩ := bindS H
              clear H
              refine Wl_cutN 11 (fun ρ w' => ∃ (x11922 : Bool), (x11922) = o11923 ∧ Agree ρ [(1, .slice A1 a1.length c1), (2, .int .i64 a2), (3, .pointer (some ⟨b1, 0, none⟩)), (7, .pointer (some ⟨b57, 0, none⟩)), (9, .pointer (some ⟨b83, 0, none⟩)), (11, .int .i64 x6022), (106, .bool x11922)] ∧ Ext w w' ∧ St w' M11876 F [MapC encS (fun v : Value => v) A10982 vs10985, Row r_model_tx 99 (.slice A10979 x10972.txs.length c10980) x10972.txs, MapC (Value.int .i64) (Value.int .i64) A10976 x10972.many, MapC enc_model_name (Value.int .i64) A10973 x10972.names, MapC encS (fun v : Value => v) A10967 vs10970, Row r_model_tx 99 (.slice A10964 x10957.txs.length c10965) x10957.txs, MapC (Value.int .i64) (Value.int .i64) A10961 x10957.many, MapC enc_model_name (Value.int .i64) A10958 x10957.names, B94 b83 x10957 A10958 A10961 A10964 c10965 A10967, B94 b57 x10972 A10973 A10976 A10979 c10980 A10982, B23 b1 a0]) ?_ ?_
              · as_aux_lemma =>
                  have H := o11923h
                  rcases iteS H with ⟨hb11921, H⟩ | ⟨hb11921, H⟩
                  · skip
                    refine W_no (skF hb11921) rfl ?_
                    refine W_no (skF hb11921) rfl ?_
                    refine W_no (skF hb11921) rfl ?_
                    refine W_no (skF hb11921) rfl ?_
                    refine W_no (skF hb11921) rfl ?_
                    refine W_no (rfl) rfl ?_
                    refine W_no (rfl) rfl ?_
                    refine W_no (rfl) rfl ?_
                    refine W_no (rfl) rfl ?_
                    refine W_no (skF hb11921) rfl ?_
                    refine W_v _ (x_pick (k := true) (congrArg Value.bool hb11921) rfl) rfl ?_
                    refine Wl_nil ?_
                    exact ⟨true, Option.some.inj H, ⟨rfl, rfl, rfl, rfl, rfl, rfl, rfl, trivial⟩, E, S.pick [4, 5, 6, 7, 8, 9, 10, 11, 12, 13, 20] (by decide)⟩
                  · skip
                    refine W_yes (congrArg some hb11921) ?_
                    refine W_v _ (x_fieldAddr (o := 0) (off := 1) Tryd.underlying39 rfl ty37 rfl rfl) rfl ?_
                    refine W_yes (congrArg some hb11921) ?_
                    refine W_v _ (x_fieldAddr (o := 1) (off := 0) Tryd.underlying37 rfl ty5 rfl rfl) rfl ?_
                    refine W_yes (congrArg some hb11921) ?_
                    refine W_v (.int .u8 ((rd a1 x6022).Call.Kind)) (x_load (S.blk 19 rfl) ty5 rfl rfl) rfl ?_
                    refine W_yes (congrArg some hb11921) ?_
                    refine W_v (.bool ((rd a1 x6022).Call.Kind == (9 : Int))) (x_ibin rfl rfl rfl rfl) rfl ?_
                    refine W_yes (congrArg some hb11921) ?_
                    refine W_v _ (x_move rfl) rfl ?_
                    obtain ⟨o11936, o11936h, o11936H⟩ := bindS H
                    clear H
                    refine Wl_cutN 5 (fun ρ w' => ∃ (x11935 : Bool), (x11935) = o11936 ∧ Agree ρ [(1, .slice A1 a1.length c1), (2, .int .i64 a2), (3, .pointer (some ⟨b1, 0, none⟩)), (7, .pointer (some ⟨b57, 0, none⟩)), (9, .pointer (some ⟨b83, 0, none⟩)), (11, .int .i64 x6022), (95, .bool (!t11880)), (96, .pointer (some ⟨b9027, 1, none⟩)), (97, .pointer (some ⟨b9027, 1, none⟩)), (98, .int .u8 ((rd a1 x6022).Call.Kind)), (99, .bool ((rd a1 x6022).Call.Kind == (9 : Int))), (100, .bool ((rd a1 x6022).Call.Kind == (9 : Int))), (105, .bool x11935)] ∧ Ext w w' ∧ St w' M11876 F [B94 b57 x10972 A10973 A10976 A10979 c10980 A10982, MapC enc_model_name (Value.int .i64) A10973 x10972.names, MapC (Value.int .i64) (Value.int .i64) A10976 x10972.many, Row r_model_tx 99 (.slice A10979 x10972.txs.length c10980) x10972.txs, MapC encS (fun v : Value => v) A10982 vs10985, MapC encS (fun v : Value => v) A10967 vs10970, Row r_model_tx 99 (.slice A10964 x10957.txs.length c10965) x10957.txs, MapC (Value.int .i64) (Value.int .i64) A10961 x10957.many, MapC enc_model_name (Value.int .i64) A10958 x10957.names, B94 b83 x10957 A10958 A10961 A10964 c10965 A10967, B39 b9027 (rd a1 x6022), B23 b1 a0]) ?_ ?_
                    · have H := o11936h
                      rcases iteS H with ⟨hb11934, H⟩ | ⟨hb11934, H⟩
                      · skip
                        refine W_yes (congrArg some hb11934) ?_
                        refine W_v _ (x_move rfl) rfl ?_
                        refine W_yes (congrArg some hb11934) ?_
                        refine W_v _ (x_move rfl) rfl ?_
                        refine W_yes (congrArg some hb11934) ?_
                        obtain ⟨t11937, ht11938, H⟩ := bindS H
                        replace S : St w11882 M11876 F [_, _, _, _, _, _, _, _, _, _, _, _, _, _, _, _, _, _, _, _, _] := S.pick [14, 15, 16, 17, 18, 13, 7, 6, 5, 4, 0, 1, 2, 3, 8, 9, 10, 11, 12, 19, 20] (by decide)
                        refine W_callF2 fn34 (ferrymanlaw16_same_POOOO_POOOO.con k M11876 A9060 c9061 A9063 c9064 A9066 c9067 A9069 c9070 vs9072 t9056 A10973 c10974 A10976 c10977 A10979 c10980 A10982 c10983 vs10985 x10972 b9058 b57 t11937 hm9073 hm10986 ht11938) (Γ1 := [_, _, _, _, _, _, _, _, _, _]) (Γ2 := [_, _, _, _, _, _, _, _, _, _, _]) S rfl rfl (by rintro _ _ _ ⟨rfl, rfl⟩; exact (flat_cons flat_blk (flat_cons flat_map (flat_cons flat_map (flat_cons (flat_row (fun _ _ _ _ h => h)) (flat_cons flat_map (flat_cons flat_blk (flat_cons flat_map (flat_cons flat_map (flat_cons (flat_row (fun _ _ _ _ h => h)) (flat_cons flat_map flat_nil))))))))))) ?_
                        rintro _ w11939 _ Γ' E' S ⟨rfl, rfl⟩
                        replace E := E.trans E'
                        clear E'
                        replace S : St w11939 M11876 F [_, _, _, _, _, _, _, _, _, _, _, _, _, _, _, _, _, _, _, _, _] := S
                        refine W_yes (congrArg some hb11934) ?_
                        refine W_v (.bool (!t11937)) (x_not rfl) rfl ?_
                        refine W_yes (congrArg some hb11921) ?_
                        refine W_v _ (x_pick (k := true) (congrArg Value.bool hb11934) rfl) rfl ?_
                        refine Wl_nil ?_
                        exact ⟨(!t11937), Option.some.inj H, ⟨rfl, rfl, rfl, rfl, rfl, rfl, rfl, rfl, rfl, rfl, rfl, rfl, rfl, trivial⟩, E, S.pick [5, 6, 7, 8, 9, 14, 15, 16, 17, 18, 19, 20] (by decide)⟩
                      · skip
                        refine W_no (skT hb11934) rfl ?_
                        refine W_no (skT hb11934) rfl ?_
                        refine W_no (skT hb11934) rfl ?_
                        refine W_no (skT hb11934) rfl ?_
                        refine W_yes (congrArg some hb11921) ?_
                        refine W_v _ (x_pick (k := false) (congrArg Value.bool hb11934) rfl) rfl ?_
                        refine Wl_nil ?_
                        exact ⟨false, Option.some.inj H, ⟨rfl, rfl, rfl, rfl, rfl, rfl, rfl, rfl, rfl, rfl, rfl, rfl, rfl, trivial⟩, E, S.pick [13, 7, 6, 5, 4, 8, 9, 10, 11, 12, 19, 20] (by decide)⟩
                    clear o11936h
                    rintro ρ w11942 ⟨x11935, rfl, hρ, E, S⟩
                    rw [agree_eta hρ]
                    clear hρ
                    have H := o11936H
                    clear o11936H
                    refine W_v _ (x_pick (k := false) (congrArg Value.bool hb11921) rfl) rfl ?_
                    refine Wl_nil ?_
                    exact ⟨x11935, Option.some.inj H, ⟨rfl, rfl, rfl, rfl, rfl, rfl, rfl, trivial⟩, E, S.pick [4, 3, 2, 1, 5, 6, 7, 8, 9, 0, 11] (by decide)⟩
              clear o11923h
              rintro ρ w11943 ⟨x11922, rfl, hρ, E, S⟩
              rw [agree_eta hρ]
              clear hρ
              have H := o11923H
              clear o11923H
              refine Wl_nil ?_
              refine tn ?_
              rcases iteS H with ⟨hb11944, H⟩ | ⟨hb11944, H⟩
              · refine Wp_cond_true (congrArg Value.bool hb11944) ?_
                refine Wp_seq ?_
                refine Wp_region_lit ?_
                refine W_v (.bool false) (x_assign rfl) rfl ?_
                refine Wl_nil ?_
                refine tn ?_
                refine Wp_ret ?_
                refine br (tr (tr (br (tr (tr (?_))))))
                obtain rfl := Option.some.inj H
                have H := o9012H
                replace H := elimL H
                obtain rfl := Option.some.inj H
                exact ⟨_, _, _, fun w1 e1 => run_resR (vs := [.bool false]) (FA.cons (rfl) (FA.nil)), HM, E, S.pick [] (by decide), ⟨rfl, rfl⟩⟩
              refine Wp_cond_false (congrArg Value.bool hb11944) ?_
              refine Wp_skip ?_
              refine bn ?_
              refine tn ?_
              refine Wp_region_lit ?_
              refine W_v _ (x_move rfl) rfl ?_
              refine W_v (.int .i64 (IntKind.i64.wrap (x6022 + (1 : Int)))) (x_ibin rfl rfl rfl rfl) rfl ?_
              refine W_v (.int .i64 (IntKind.i64.wrap (x6022 + (1 : Int)))) (x_assign rfl) rfl ?_
              refine Wl_nil ?_
              refine tn ?_
              exact ⟨k, Nat.lt_succ_self k, ⟨(IntKind.i64.wrap (x6022 + (1 : Int))), x10957, x10972, A10958, c10959, A10961, c10962, A10964, c10965, A10967, c10968, vs10970, A10973, c10974, A10976, c10977, A10979, c10980, A10982, c10983, vs10985, M11876, H, ⟨rfl, rfl, rfl, rfl, rfl, rfl, trivial⟩, hM9015, E, S.pick [0, 1, 2, 3, 4, 5, 6, 7, 8, 9, 10] (by decide), hm10971, hm10986⟩⟩
            refine Wp_cond_false (congrArg Value.bool hb9016) ?_
            refine Wp_exit ?_
            refine tx (tx (bsm (?_)))
            refine tn ?_
            exact ⟨x6023, x6038, A6024, c6025, A6027, c6028, A6030, c6031, A6033, c6034, vs6036, A6039, c6040, A6042, c6043, A6045, c6046, A6048, c6049, vs6051, M9014, Option.some.inj H, ⟨rfl, rfl, trivial⟩, hM9015, E, S.pick [0, 1, 2, 3, 4, 5, 6, 7, 8, 9] (by decide), hm6037, hm6052⟩
      clear o9012h
      rintro ρ w11945 ⟨x8982, x8997, A8983, c8984, A8986, c8987, A8989, c8990, A8992, c8993, vs8995, A8998, c8999, A9001, c9002, A9004, c9005, A9007, c9008, vs9010, M11946, rfl, hρ, hM11947, E, S, hm8996, hm9011⟩
      rw [agree_eta hρ]
      clear hρ
      replace hg0 : ∃ gt fr, _ := (let ⟨gt, fr, h8⟩ := hg0; ⟨gt, fr, hM11947 _ _ h8⟩)
      replace HM := Hp.le_trans HM hM11947
      replace hr1 := SlR.mono hr1 hM11947
      replace hm72 := MRel.mono hm72 hM11947
      replace hm98 := MRel.mono hm98 hM11947
      have H := o9012H
      clear o9012H
      replace H := elimR H
      refine tn ?_
      as_aux_lemma =>
      refine Wp_seq ?_
      refine Wp_region_lit ?_
      refine W_v _ (x_move rfl) rfl ?_
      refine W_v _ (x_move rfl) rfl ?_
      obtain ⟨t11948, ht11949, H⟩ := bindS H
      replace S : St w11945 M11946 F [_, _, _, _, _, _, _, _, _, _] := S.pick [9, 3, 2, 1, 0, 8, 7, 6, 5, 4] (by decide)
      refine W_callF2 fn34 (ferrymanlaw16_same_POOOO_POOOO.con k M11946 A8998 c8999 A9001 c9002 A9004 c9005 A9007 c9008 vs9010 x8997 A8983 c8984 A8986 c8987 A8989 c8990 A8992 c8993 vs8995 x8982 b57 b83 t11948 hm9011 hm8996 ht11949) (Γ1 := [_, _, _, _, _, _, _, _, _, _]) (Γ2 := []) S rfl rfl (by rintro _ _ _ ⟨rfl, rfl⟩; exact (flat_cons flat_blk (flat_cons flat_map (flat_cons flat_map (flat_cons (flat_row (fun _ _ _ _ h => h)) (flat_cons flat_map (flat_cons flat_blk (flat_cons flat_map (flat_cons flat_map (flat_cons (flat_row (fun _ _ _ _ h => h)) (flat_cons flat_map flat_nil))))))))))) ?_
      rintro _ w11950 _ Γ' E' S ⟨rfl, rfl⟩
      replace E := E.trans E'
      clear E'
      replace S : St w11950 M11946 F [_, _, _, _, _, _, _, _, _, _] := S
      refine W_v (.bool t11948) (x_assign rfl) rfl ?_
      refine Wl_nil ?_
      refine tn ?_
      refine Wp_ret ?_
      obtain rfl := Option.some.inj H
      exact ⟨_, _, _, fun w1 e1 => run_resR (vs := [.bool t11948]) (FA.cons (rfl) (FA.nil)), HM, E, S.pick [] (by decide), ⟨rfl, rfl⟩⟩
end Go.Proofs.YtcngjjlhdlbogaaDoor
