import Derived.Test.YtcngjjlhdlbogaaDoorGm1B
import Derived.Test.YtcngjjlhdlbogaaDoorGm1P0
import Derived.Test.YtcngjjlhdlbogaaDoorGm1P2
import Derived.Test.YtcngjjlhdlbogaaDoorGm1P3
import Derived.Test.YtcngjjlhdlbogaaDoorGm1P4
namespace Go.Proofs.YtcngjjlhdlbogaaDoor
open Go
set_option linter.unusedVariables false
set_option linter.unusedSimpArgs false
/-! ### ferryman/ferrymanlaw16.ModelCopies: function 8 -/
def ferrymanlaw16_ModelCopies_l2 (a2 : (List ferrymanlaw16_Turn)) (x937 : List api_Answer) : Nat → Int → model_Model → Option ((Bool) ⊕ (model_Model))
  | 0, _, _ => none
  | k + 1, x1718, x1719 => (if (decide (x1718 < (a2.length : Int))) = true then (if 0 ≤ x1718 ∧ x1718 < (a2.length : Int) then (if 0 ≤ x1718 ∧ x1718 < (a2.length : Int) then (if 0 ≤ x1718 ∧ x1718 < (x937.length : Int) then (Option.bind (model_Model_Do_POOOO k x1719 ((rd a2 x1718).Task) ((rd a2 x1718).Call)) (fun t1973 => (Option.bind (ferrymanref06_Answers k t1973.1 (rd x937 x1718)) (fun t1995 => (if (!t1995) = true then some (.inl false) else ferrymanlaw16_ModelCopies_l2 a2 x937 k (IntKind.i64.wrap (x1718 + (1 : Int))) t1973.2))))) else none) else none) else none) else some (.inr (x1719)))
set_option maxHeartbeats 2000000 in
theorem ferrymanlaw16_ModelCopies_l2.mono {a2 : (List ferrymanlaw16_Turn)} {x937 : List api_Answer} : ∀ {kl : Nat} {x0 x1}, OLe (ferrymanlaw16_ModelCopies_l2 a2 x937 kl x0 x1) (ferrymanlaw16_ModelCopies_l2 a2 x937 (kl + 1) x0 x1) := by
  intro kl
  induction kl with
  | zero => intros; exact OLe.none
  | succ kl ih =>
    intros
    rw [ferrymanlaw16_ModelCopies_l2.eq_2, ferrymanlaw16_ModelCopies_l2.eq_2]
    repeat' (first | with_reducible exact OLe.none | with_reducible exact OLe.some | with_reducible refine OLe.ite ?_ ?_ | with_reducible refine OLe.bind ?_ (fun _ => ?_) | with_reducible exact ferrymanref06_Answers.mono | with_reducible exact model_Model_Do_POOOO.mono | exact ih | refine OLe.bind ?_ (fun _ => ?_) | refine OLe.ite ?_ ?_ | refine OLe.elim (fun _ => ?_) (fun _ => ?_) | split)
def ferrymanlaw16_ModelCopies_l1 (a2 : (List ferrymanlaw16_Turn)) : Nat → List api_Answer → Int → model_Model → Option ((List api_Answer × model_Model))
  | 0, _, _, _ => none
  | k + 1, x801, x805, x806 => (if (decide (x805 < (a2.length : Int))) = true then (if 0 ≤ x805 ∧ x805 < (a2.length : Int) then (if 0 ≤ x805 ∧ x805 < (a2.length : Int) then (Option.bind (model_Model_Do_POOOO k x806 ((rd a2 x805).Task) ((rd a2 x805).Call)) (fun t1041 => (if x801.length + ([t1041.1] : List api_Answer).length ≤ 2513169434916 then ferrymanlaw16_ModelCopies_l1 a2 k (x801 ++ ([t1041.1] : List api_Answer)) (IntKind.i64.wrap (x805 + (1 : Int))) t1041.2 else none))) else none) else none) else some (x801, x806))
set_option maxHeartbeats 2000000 in
theorem ferrymanlaw16_ModelCopies_l1.mono {a2 : (List ferrymanlaw16_Turn)} : ∀ {kl : Nat} {x0 x1 x2}, OLe (ferrymanlaw16_ModelCopies_l1 a2 kl x0 x1 x2) (ferrymanlaw16_ModelCopies_l1 a2 (kl + 1) x0 x1 x2) := by
  intro kl
  induction kl with
  | zero => intros; exact OLe.none
  | succ kl ih =>
    intros
    rw [ferrymanlaw16_ModelCopies_l1.eq_2, ferrymanlaw16_ModelCopies_l1.eq_2]
    repeat' (first | with_reducible exact OLe.none | with_reducible exact OLe.some | with_reducible refine OLe.ite ?_ ?_ | with_reducible refine OLe.bind ?_ (fun _ => ?_) | with_reducible exact model_Model_Do_POOOO.mono | exact ih | refine OLe.bind ?_ (fun _ => ?_) | refine OLe.ite ?_ ?_ | refine OLe.elim (fun _ => ?_) (fun _ => ?_) | split)
def ferrymanlaw16_ModelCopies_l0 (a1 : (List ferrymanlaw16_Turn)) : Nat → Int → model_Model → Option ((model_Model))
  | 0, _, _ => none
  | k + 1, x271, x272 => (if (decide (x271 < (a1.length : Int))) = true then (if 0 ≤ x271 ∧ x271 < (a1.length : Int) then (if 0 ≤ x271 ∧ x271 < (a1.length : Int) then (Option.bind (model_Model_Do_POOOO k x272 ((rd a1 x271).Task) ((rd a1 x271).Call)) (fun t460 => ferrymanlaw16_ModelCopies_l0 a1 k (IntKind.i64.wrap (x271 + (1 : Int))) t460.2)) else none) else none) else some (x272))
set_option maxHeartbeats 2000000 in
theorem ferrymanlaw16_ModelCopies_l0.mono {a1 : (List ferrymanlaw16_Turn)} : ∀ {kl : Nat} {x0 x1}, OLe (ferrymanlaw16_ModelCopies_l0 a1 kl x0 x1) (ferrymanlaw16_ModelCopies_l0 a1 (kl + 1) x0 x1) := by
  intro kl
  induction kl with
  | zero => intros; exact OLe.none
  | succ kl ih =>
    intros
    rw [ferrymanlaw16_ModelCopies_l0.eq_2, ferrymanlaw16_ModelCopies_l0.eq_2]
    repeat' (first | with_reducible exact OLe.none | with_reducible exact OLe.some | with_reducible refine OLe.ite ?_ ?_ | with_reducible refine OLe.bind ?_ (fun _ => ?_) | with_reducible exact model_Model_Do_POOOO.mono | exact ih | refine OLe.bind ?_ (fun _ => ?_) | refine OLe.ite ?_ ?_ | refine OLe.elim (fun _ => ?_) (fun _ => ?_) | split)
def ferrymanlaw16_ModelCopies (k : Nat) (a0 : api_Config) (a1 : (List ferrymanlaw16_Turn)) (a2 : (List ferrymanlaw16_Turn)) : Option (Bool) :=
  (Option.bind (ferrymanlaw16_works k ) (fun t4 => (Option.bind (α := Bool) (if (!t4) = true then some (true) else (Option.bind (ferrymanlaw16_large k a1) (fun t16 => some (t16)))) (fun x14 => (Option.bind (α := Bool) (if x14 = true then some (true) else (Option.bind (ferrymanlaw16_large k a2) (fun t29 => some (t29)))) (fun x27 => (if x27 = true then (Option.bind (ferrymanlaw16_works k ) (fun t34 => some t34)) else (Option.bind (model_New_v k a0) (fun t37 => (Sum.elim (fun t39 => some true) (fun t40 => (Option.bind (ferrymanlaw16_ModelCopies_l0 a1 k (0 : Int) t40) (fun x375 => (Option.bind (model_Model_Copy_POOOO k x375) (fun t485 => (Option.bind (model_Model_Copy_POOOO k x375) (fun t506 => (Option.bind (ferrymanlaw16_ModelCopies_l1 a2 k ([] : List api_Answer) (0 : Int) t485) (fun ⟨x937, x941⟩ => (Option.bind (ferrymanlaw16_same_POOOO_POOOO k x375 t506) (fun t1080 => (if (!t1080) = true then some false else (Option.bind (ferrymanlaw16_ModelCopies_l2 a2 x937 k (0 : Int) x375) (fun o1872o => Sum.elim (fun r' => some r') (fun x1857 => (Option.bind (ferrymanlaw16_same_POOOO_POOOO k x1857 x941) (fun t2002 => some t2002))) o1872o))))))))))))))) t37)))))))))
set_option maxHeartbeats 2000000 in
theorem ferrymanlaw16_ModelCopies.mono {k : Nat} {a0 : api_Config} {a1 : (List ferrymanlaw16_Turn)} {a2 : (List ferrymanlaw16_Turn)} : OLe (ferrymanlaw16_ModelCopies k a0 a1 a2) (ferrymanlaw16_ModelCopies (k + 1) a0 a1 a2) := by
  unfold ferrymanlaw16_ModelCopies
  repeat' (first | with_reducible exact OLe.none | with_reducible exact OLe.some | with_reducible refine OLe.ite ?_ ?_ | with_reducible refine OLe.bind ?_ (fun _ => ?_) | with_reducible exact ferrymanlaw16_ModelCopies_l0.mono | with_reducible exact ferrymanlaw16_ModelCopies_l1.mono | with_reducible exact ferrymanlaw16_ModelCopies_l2.mono | with_reducible exact ferrymanlaw16_large.mono | with_reducible exact ferrymanlaw16_same_POOOO_POOOO.mono | with_reducible exact ferrymanlaw16_works.mono | with_reducible exact model_Model_Copy_POOOO.mono | with_reducible exact model_New_v.mono | refine OLe.bind ?_ (fun _ => ?_) | refine OLe.ite ?_ ?_ | refine OLe.elim (fun _ => ?_) (fun _ => ?_) | split)
set_option maxHeartbeats 8000000 in
set_option maxRecDepth 100000 in
theorem ferrymanlaw16_ModelCopies.con (k : Nat) (M : Hp) (a0 : api_Config) (A1 : Option Addr) (c1 : Nat) (a1 : (List ferrymanlaw16_Turn)) (A2 : Option Addr) (c2 : Nat) (a2 : (List ferrymanlaw16_Turn)) (r : Bool) (hr1 : SlR r_ferrymanlaw16_Turn M (.slice A1 a1.length c1) a1) (hr2 : SlR r_ferrymanlaw16_Turn M (.slice A2 a2.length c2) a2) (hg0 : ∃ gt fr, M 0 = some (.cells #[.nilFunc, .func (.func 124) #[] #[], .func (.func 125) #[] #[], .func (.func 126) #[] #[], .func (.func 127) #[] #[], .func (.func 128) #[] #[], .func (.func 129) #[] #[], .func (.func 130) #[] #[], .func (.func 131) #[] #[], .func (.func 132) #[] #[]] gt fr)) (h : ferrymanlaw16_ModelCopies k a0 a1 a2 = some r) : Con Tryd.prog 8 #[.agg #[.int .i64 a0.Tasks, .int .i64 a0.Active, .int .i64 a0.Keys, .int .i64 a0.Depth, .int .i64 a0.TS, .int .i64 a0.KeyLen, .int .i64 a0.ValLen, .int .i64 a0.Fan], .slice A1 a1.length c1, .slice A2 a2.length c2] M [] (fun v M' Γ' => v = .bool r ∧ Γ' = []) := by
  refine con_of_wp Tryd.func8 rfl Tryd.ntmps8 Tryd.results8 rfl ?_
  intro w F rn S hrn
  have E := Ext.refl w
  have HM := Hp.le_refl M
  have H := h
  unfold ferrymanlaw16_ModelCopies at H
  refine Wp_seq ?_
  refine Wp_region_lit ?_
  refine W_box S #[.int .i64 a0.Tasks, .int .i64 a0.Active, .int .i64 a0.Keys, .int .i64 a0.Depth, .int .i64 a0.TS, .int .i64 a0.KeyLen, .int .i64 a0.ValLen, .int .i64 a0.Fan] rfl rfl rfl ?_
  intro b1 w2 E' S
  replace E := E.trans E'
  clear E'
  refine W_v (.bool false) (x_assign rfl) rfl ?_
  refine Wl_nil ?_
  refine tn ?_
  refine Wp_seq ?_
  refine Wp_seq ?_
  refine Wp_region_lit ?_
  obtain ⟨t4, ht5, H⟩ := bindS H
  refine W_callF fn11 (ferrymanlaw16_works.con k M  t4 hg0 ht5) S rfl rfl (by rintro _ _ _ ⟨_, rfl⟩; exact flat_nil) ?_
  rintro _ w6 _ Γ' E' S ⟨rfl, rfl⟩
  replace E := E.trans E'
  clear E'
  refine W_v (.bool (!t4)) (x_not rfl) rfl ?_
  refine W_v _ (x_move rfl) rfl ?_
  obtain ⟨o15, o15h, o15H⟩ := bindS H
  clear H
  refine Wl_cutN 3 (fun ρ w' => ∃ (x14 : Bool), (x14) = o15 ∧ Agree ρ [(1, .slice A1 a1.length c1), (2, .slice A2 a2.length c2), (3, .pointer (some ⟨b1, 0, none⟩)), (20, .bool x14)] ∧ Ext w w' ∧ St w' M F [B23 b1 a0]) ?_ ?_
  · have H := o15h
    rcases iteS H with ⟨hb13, H⟩ | ⟨hb13, H⟩
    · skip
      refine W_no (skF hb13) rfl ?_
      refine W_no (skF hb13) rfl ?_
      refine W_v _ (x_pick (k := true) (congrArg Value.bool hb13) rfl) rfl ?_
      refine Wl_nil ?_
      exact ⟨true, Option.some.inj H, ⟨rfl, rfl, rfl, rfl, trivial⟩, E, S.pick [0] (by decide)⟩
    · skip
      refine W_yes (congrArg some hb13) ?_
      refine W_v _ (x_move rfl) rfl ?_
      refine W_yes (congrArg some hb13) ?_
      obtain ⟨t16, ht17, H⟩ := bindS H
      refine W_callF fn12 (ferrymanlaw16_large.con k M A1 c1 a1 t16 hr1 ht17) S rfl rfl (by rintro _ _ _ ⟨_, rfl⟩; exact flat_nil) ?_
      rintro _ w18 _ Γ' E' S ⟨rfl, rfl⟩
      replace E := E.trans E'
      clear E'
      refine W_v _ (x_pick (k := false) (congrArg Value.bool hb13) rfl) rfl ?_
      refine Wl_nil ?_
      exact ⟨t16, Option.some.inj H, ⟨rfl, rfl, rfl, rfl, trivial⟩, E, S.pick [0] (by decide)⟩
  as_aux_lemma =>
  clear o15h
  rintro ρ w19 ⟨x14, rfl, hρ, E, S⟩
  rw [agree_eta hρ]
  clear hρ
  have H := o15H
  clear o15H
  refine W_v _ (x_move rfl) rfl ?_
  obtain ⟨o28, o28h, o28H⟩ := bindS H
  clear H
  refine Wl_cutN 3 (fun ρ w' => ∃ (x27 : Bool), (x27) = o28 ∧ Agree ρ [(1, .slice A1 a1.length c1), (2, .slice A2 a2.length c2), (3, .pointer (some ⟨b1, 0, none⟩)), (24, .bool x27)] ∧ Ext w w' ∧ St w' M F [B23 b1 a0]) ?_ ?_
  · have H := o28h
    rcases iteS H with ⟨hb26, H⟩ | ⟨hb26, H⟩
    · skip
      refine W_no (skF hb26) rfl ?_
      refine W_no (skF hb26) rfl ?_
      refine W_v _ (x_pick (k := true) (congrArg Value.bool hb26) rfl) rfl ?_
      refine Wl_nil ?_
      exact ⟨true, Option.some.inj H, ⟨rfl, rfl, rfl, rfl, trivial⟩, E, S.pick [0] (by decide)⟩
    · skip
      refine W_yes (congrArg some hb26) ?_
      refine W_v _ (x_move rfl) rfl ?_
      refine W_yes (congrArg some hb26) ?_
      obtain ⟨t29, ht30, H⟩ := bindS H
      refine W_callF fn12 (ferrymanlaw16_large.con k M A2 c2 a2 t29 hr2 ht30) S rfl rfl (by rintro _ _ _ ⟨_, rfl⟩; exact flat_nil) ?_
      rintro _ w31 _ Γ' E' S ⟨rfl, rfl⟩
      replace E := E.trans E'
      clear E'
      refine W_v _ (x_pick (k := false) (congrArg Value.bool hb26) rfl) rfl ?_
      refine Wl_nil ?_
      exact ⟨t29, Option.some.inj H, ⟨rfl, rfl, rfl, rfl, trivial⟩, E, S.pick [0] (by decide)⟩
  as_aux_lemma =>
  clear o28h
  rintro ρ w32 ⟨x27, rfl, hρ, E, S⟩
  rw [agree_eta hρ]
  clear hρ
  have H := o28H
  clear o28H
  refine Wl_nil ?_
  refine tn ?_
  rcases iteS H with ⟨hb33, H⟩ | ⟨hb33, H⟩
  · refine Wp_cond_true (congrArg Value.bool hb33) ?_
    refine Wp_seq ?_
    refine Wp_region_lit ?_
    obtain ⟨t34, ht35, H⟩ := bindS H
    refine W_callF fn11 (ferrymanlaw16_works.con k M  t34 hg0 ht35) S rfl rfl (by rintro _ _ _ ⟨_, rfl⟩; exact flat_nil) ?_
    rintro _ w36 _ Γ' E' S ⟨rfl, rfl⟩
    replace E := E.trans E'
    clear E'
    refine W_v (.bool t34) (x_assign rfl) rfl ?_
    refine Wl_nil ?_
    refine tn ?_
    refine Wp_ret ?_
    refine tr (?_)
    obtain rfl := Option.some.inj H
    exact ⟨_, _, _, fun w1 e1 => run_resR (vs := [.bool t34]) (FA.cons (rfl) (FA.nil)), HM, E, S.pick [] (by decide), ⟨rfl, rfl⟩⟩
  refine Wp_cond_false (congrArg Value.bool hb33) ?_
  refine Wp_skip ?_
  refine tn ?_
  refine Wp_seq ?_
  refine Wp_region_lit ?_
  refine W_v (.agg #[.int .i64 a0.Tasks, .int .i64 a0.Active, .int .i64 a0.Keys, .int .i64 a0.Depth, .int .i64 a0.TS, .int .i64 a0.KeyLen, .int .i64 a0.ValLen, .int .i64 a0.Fan]) (x_loadA (S.blk 0 rfl) ty23 rfl (sub_of_extract rfl) rfl rfl) rfl ?_
  obtain ⟨t37, ht38, H⟩ := bindS H
  rcases t37 with t39 | t40
  · skip
    replace H := elimL H
    refine W_callF2 fn13 (model_New_v.con k M a0 (Sum.inl t39)  ht38) (Γ1 := []) (Γ2 := [_]) S rfl rfl (by rintro _ _ _ ⟨rfl, rfl⟩; exact flat_nil) ?_
    rintro _ w41 _ Γ' E' S ⟨rfl, rfl⟩
    replace E := E.trans E'
    clear E'
    replace S : St w41 M F [_] := S
    refine W_v _ (x_move rfl) rfl ?_
    refine W_v (.pointer none) (x_extract rfl rfl) rfl ?_
    refine W_v (.int .i64 1) (x_extract rfl rfl) rfl ?_
    refine W_v (.pointer none) (x_assign rfl) rfl ?_
    refine W_v (.int .i64 1) (x_assign rfl) rfl ?_
    refine Wl_nil ?_
    refine tn ?_
    refine Wp_seq ?_
    refine Wp_seq ?_
    refine Wp_region_lit ?_
    refine W_v _ (x_move rfl) rfl ?_
    refine W_v (.bool true) (x_ibin rfl rfl rfl rfl) rfl ?_
    refine Wl_nil ?_
    refine tn ?_
    refine Wp_cond_true rfl ?_
    refine Wp_seq ?_
    refine Wp_region_lit ?_
    refine W_v (.bool true) (x_assign rfl) rfl ?_
    refine Wl_nil ?_
    refine tn ?_
    refine Wp_ret ?_
    refine tr (?_)
    obtain rfl := Option.some.inj H
    exact ⟨_, _, _, fun w1 e1 => run_resR (vs := [.bool true]) (FA.cons (rfl) (FA.nil)), HM, E, S.pick [] (by decide), ⟨rfl, rfl⟩⟩
  · skip
    replace H := elimR H
    refine W_call fn13 (model_New_v.con k M a0 (Sum.inr t40)  ht38) (Γ1 := []) (Γ2 := [_]) S rfl rfl ?_
    rintro _ w60 M61 Γ' hM62 E' S ⟨b44, A46, c47, A49, c50, A52, c53, A55, c56, vs58, rfl, hm59, rfl⟩
    replace hg0 : ∃ gt fr, _ := (let ⟨gt, fr, h8⟩ := hg0; ⟨gt, fr, hM62 _ _ h8⟩)
    replace HM := Hp.le_trans HM hM62
    replace hr1 := SlR.mono hr1 hM62
    replace hr2 := SlR.mono hr2 hM62
    replace E := E.trans E'
    clear E'
    replace S : St w60 M61 F [_, _, _, _, _, _] := S
    refine W_v _ (x_move rfl) rfl ?_
    refine W_v (.pointer (some ⟨b44, 0, none⟩)) (x_extract rfl rfl) rfl ?_
    refine W_v (.int .i64 0) (x_extract rfl rfl) rfl ?_
    refine W_v (.pointer (some ⟨b44, 0, none⟩)) (x_assign rfl) rfl ?_
    refine W_v (.int .i64 0) (x_assign rfl) rfl ?_
    refine Wl_nil ?_
    refine tn ?_
    refine Wp_seq ?_
    refine Wp_seq ?_
    refine Wp_region_lit ?_
    refine W_v _ (x_move rfl) rfl ?_
    refine W_v (.bool false) (x_ibin rfl rfl rfl rfl) rfl ?_
    refine Wl_nil ?_
    refine tn ?_
    refine Wp_cond_false rfl ?_
    refine Wp_skip ?_
    refine tn ?_
    refine Wp_seq ?_
    refine Wp_seq ?_
    refine Wp_region_lit ?_
    refine W_v (.int .i64 0) (x_assign rfl) rfl ?_
    refine Wl_nil ?_
    refine tn ?_
    obtain ⟨o390, o390h, o390H⟩ := bindS H
    clear H
    refine Wp_blockJ (fun ρ w' => ∃ (x375 : model_Model) (A376 : Option Addr) (c377 : Nat) (A379 : Option Addr) (c380 : Nat) (A382 : Option Addr) (c383 : Nat) (A385 : Option Addr) (c386 : Nat) (vs388 : List (Str × Value)) (Mj : Hp), (x375) = o390 ∧ Agree ρ [(2, .slice A2 a2.length c2), (7, .pointer (some ⟨b44, 0, none⟩))] ∧ M61.le Mj ∧ Ext w w' ∧ St w' Mj F [MapC encS (fun v : Value => v) A385 vs388, Row r_model_tx 99 (.slice A382 x375.txs.length c383) x375.txs, MapC (Value.int .i64) (Value.int .i64) A379 x375.many, MapC enc_model_name (Value.int .i64) A376 x375.names, B94 b44 x375 A376 A379 A382 c383 A385] ∧ MRel r_model_row Mj x375.rows vs388) ?_ ?_
    · skip
      refine Wp_loop (fun n ρ w' => ∃ (x271 : Int) (x272 : model_Model) (A273 : Option Addr) (c274 : Nat) (A276 : Option Addr) (c277 : Nat) (A279 : Option Addr) (c280 : Nat) (A282 : Option Addr) (c283 : Nat) (vs285 : List (Str × Value)) (Mj : Hp), ferrymanlaw16_ModelCopies_l0 a1 n x271 x272 = some o390 ∧ Agree ρ [(1, .slice A1 a1.length c1), (2, .slice A2 a2.length c2), (7, .pointer (some ⟨b44, 0, none⟩)), (9, .int .i64 x271)] ∧ M61.le Mj ∧ Ext w w' ∧ St w' Mj F [MapC encS (fun v : Value => v) A282 vs285, Row r_model_tx 99 (.slice A279 x272.txs.length c280) x272.txs, MapC (Value.int .i64) (Value.int .i64) A276 x272.many, MapC enc_model_name (Value.int .i64) A273 x272.names, B94 b44 x272 A273 A276 A279 c280 A282] ∧ MRel r_model_row Mj x272.rows vs285) k ?_ ?_
      · skip
        exact ⟨(0 : Int), t40, A46, c47, A49, c50, A52, c53, A55, c56, vs58, M61, o390h, ⟨rfl, rfl, rfl, rfl, trivial⟩, (Hp.le_refl M61), E, S.pick [4, 3, 2, 1, 0] (by decide), hm59⟩
      · intro n
        rintro ρ w391 ⟨x271, x272, A273, c274, A276, c277, A279, c280, A282, c283, vs285, M392, H, hρ, hM393, E, S, hm286⟩
        rw [agree_eta hρ]
        clear hρ
        replace hg0 : ∃ gt fr, _ := (let ⟨gt, fr, h8⟩ := hg0; ⟨gt, fr, hM393 _ _ h8⟩)
        replace HM := Hp.le_trans HM hM393
        replace hr1 := SlR.mono hr1 hM393
        replace hr2 := SlR.mono hr2 hM393
        replace hm59 := MRel.mono hm59 hM393
        cases n with
        | zero => cases H
        | succ k =>
          rw [ferrymanlaw16_ModelCopies_l0.eq_2] at H
          refine Wp_seq ?_
          refine Wp_seq ?_
          refine Wp_region_lit ?_
          refine W_v _ (x_move rfl) rfl ?_
          refine W_v _ (x_move rfl) rfl ?_
          refine W_v (.int .i64 (a1.length : Int)) (x_len_slice (n := a1.length) Tryd.underlying24 rfl) rfl ?_
          refine W_v (.bool (decide (x271 < (a1.length : Int)))) (x_ibin rfl rfl rfl rfl) rfl ?_
          refine Wl_nil ?_
          refine tn ?_
          rcases iteS H with ⟨hb394, H⟩ | ⟨hb394, H⟩
          · refine Wp_cond_true (congrArg Value.bool hb394) ?_
            refine Wp_skip ?_
            refine tn ?_
            refine Wp_seq ?_
            refine Wp_block ?_
            have LE437 := Hp.le_refl M392
            refine Wp_region_any (S := fun w' => ∃ Mx, M392.le Mx ∧ St w' Mx F []) (L := 12) mixed ?_
            intro w438 hw439 E'
            replace S := S.heap hw439
            replace E := E.trans E'
            clear E'
            have hr1z := hr1
            have hr2z := hr2
            have D1 : ∃ Mx, Hp.le M392 Mx ∧ St _ Mx F [] := ⟨_, Hp.le_refl _, S.pick [] (by decide)⟩
            refine Wa_take (i := 0) rfl (by kernel_rfl) rfl rfl _ rfl (fun w' h' => x_move rfl) D1 ?_
            refine Wa_take (i := 1) rfl (by kernel_rfl) rfl rfl _ rfl (fun w' h' => x_move rfl) D1 ?_
            refine Wa_take (i := 2) rfl (by kernel_rfl) rfl rfl _ rfl (fun w' h' => x_move rfl) D1 ?_
            obtain ⟨⟨p440, p441⟩, H⟩ := chkS H
            obtain ⟨b442, o443, cs444, _, _, ee449, hb445, vs446, hR447, hc448⟩ := SlW.at' hr1z p440 p441
            obtain rfl : vs446 = _ := hR447
            refine Wa_take (i := 3) rfl (by kernel_rfl) rfl rfl (.pointer (some ⟨b442, o443 + x271.toNat * 8, none⟩)) rfl (fun w' h' => x_indexAddr Tryd.underlying24 ty39 (slA ee449) rfl p440 p441) D1 ?_
            refine Wa_take (i := 4) rfl (by kernel_rfl) rfl rfl _ rfl (fun w' h' => x_fieldAddr (o := o443 + x271.toNat * 8) (off := 0) Tryd.underlying39 rfl ty3 rfl rfl) D1 ?_
            refine Wa_take (i := 5) rfl (by kernel_rfl) rfl rfl (.int .i64 ((rd a1 x271).Task)) rfl (fun w' h' => x_load (cls_frz h' hb445) ty3 rfl (hc448 0 _ rfl)) D1 ?_
            refine Wa_take (i := 6) rfl (by kernel_rfl) rfl rfl _ rfl (fun w' h' => x_move rfl) D1 ?_
            refine Wa_take (i := 7) rfl (by kernel_rfl) rfl rfl _ rfl (fun w' h' => x_move rfl) D1 ?_
            obtain ⟨⟨p450, p451⟩, H⟩ := chkS H
            obtain ⟨b452, o453, cs454, _, _, ee459, hb455, vs456, hR457, hc458⟩ := SlW.at' hr1z p450 p451
            obtain rfl : vs456 = _ := hR457
            refine Wa_take (i := 8) rfl (by kernel_rfl) rfl rfl (.pointer (some ⟨b452, o453 + x271.toNat * 8, none⟩)) rfl (fun w' h' => x_indexAddr Tryd.underlying24 ty39 (slA ee459) rfl p450 p451) D1 ?_
            refine Wa_take (i := 9) rfl (by kernel_rfl) rfl rfl _ rfl (fun w' h' => x_fieldAddr (o := o453 + x271.toNat * 8) (off := 1) Tryd.underlying39 rfl ty37 rfl rfl) D1 ?_
            refine Wa_take (i := 10) rfl (by kernel_rfl) rfl rfl (.agg #[.int .u8 ((rd a1 x271).Call.Kind), .int .i64 ((rd a1 x271).Call.Tx), .string (bs ((rd a1 x271).Call.Key)), .string (bs ((rd a1 x271).Call.End)), .string (bs ((rd a1 x271).Call.Value)), .int .i64 ((rd a1 x271).Call.Limit), .int .u8 ((rd a1 x271).Call.Engine)]) rfl (fun w' h' => x_loadA (cls_frz h' hb455) ty37 rfl (sub_el hc458 1 rfl) rfl rfl) D1 ?_
            refine Wa_solo (i := 11) rfl (by kernel_rfl) ?_
            obtain ⟨t460, ht461, H⟩ := bindS H
            replace S : St w438 M392 F [_, _, _, _, _] := S.pick [4, 3, 2, 1, 0] (by decide)
            refine W_call fn15 (model_Model_Do_POOOO.con k M392 A273 c274 A276 c277 A279 c280 A282 c283 vs285 x272 ((rd a1 x271).Task) ((rd a1 x271).Call) b44 t460 hm286 hg0 ht461) (Γ1 := [_, _, _, _, _]) (Γ2 := []) S rfl rfl ?_
            rintro _ w479 M480 Γ' hM481 E' S ⟨A462, c463, A465, c466, A468, c469, A471, c472, A474, c475, vs477, rfl, hm478, rfl⟩
            replace hg0 : ∃ gt fr, _ := (let ⟨gt, fr, h8⟩ := hg0; ⟨gt, fr, hM481 _ _ h8⟩)
            replace HM := Hp.le_trans HM hM481
            replace hM393 := Hp.le_trans hM393 hM481
            replace LE437 := Hp.le_trans LE437 hM481
            replace hr1 := SlR.mono hr1 hM481
            replace hr2 := SlR.mono hr2 hM481
            replace hm59 := MRel.mono hm59 hM481
            replace hm286 := MRel.mono hm286 hM481
            replace E := E.trans E'
            clear E'
            replace S : St w479 M480 F [_, _, _, _, _, _] := S
            refine Wl_nil (on_n ⟨.inr ⟨M480, LE437, (S.pick [] (by decide))⟩, ?_⟩)
            refine Wa_done (by kernel_rfl) ?_
            refine bn ?_
            refine tn ?_
            refine Wp_region_lit ?_
            refine W_v _ (x_move rfl) rfl ?_
            refine W_v (.int .i64 (IntKind.i64.wrap (x271 + (1 : Int)))) (x_ibin rfl rfl rfl rfl) rfl ?_
            refine W_v (.int .i64 (IntKind.i64.wrap (x271 + (1 : Int)))) (x_assign rfl) rfl ?_
            refine Wl_nil ?_
            refine tn ?_
            exact ⟨k, Nat.lt_succ_self k, ⟨(IntKind.i64.wrap (x271 + (1 : Int))), t460.2, A465, c466, A468, c469, A471, c472, A474, c475, vs477, M480, H, ⟨rfl, rfl, rfl, rfl, trivial⟩, hM393, E, S.pick [5, 4, 3, 2, 1] (by decide), hm478⟩⟩
          refine Wp_cond_false (congrArg Value.bool hb394) ?_
          refine Wp_exit ?_
          refine tx (tx (bsm (?_)))
          refine tn ?_
          exact ⟨x272, A273, c274, A276, c277, A279, c280, A282, c283, vs285, M392, Option.some.inj H, ⟨rfl, rfl, trivial⟩, hM393, E, S.pick [0, 1, 2, 3, 4] (by decide), hm286⟩
    clear o390h
    rintro ρ w482 ⟨x375, A376, c377, A379, c380, A382, c383, A385, c386, vs388, M483, rfl, hρ, hM484, E, S, hm389⟩
    rw [agree_eta hρ]
    clear hρ
    replace hg0 : ∃ gt fr, _ := (let ⟨gt, fr, h8⟩ := hg0; ⟨gt, fr, hM484 _ _ h8⟩)
    replace HM := Hp.le_trans HM hM484
    replace hr1 := SlR.mono hr1 hM484
    replace hr2 := SlR.mono hr2 hM484
    replace hm59 := MRel.mono hm59 hM484
    have H := o390H
    clear o390H
    refine tn ?_
    as_aux_lemma =>
    refine Wp_seq ?_
    refine Wp_region_lit ?_
    refine W_v _ (x_move rfl) rfl ?_
    obtain ⟨t485, ht486, H⟩ := bindS H
    replace S : St w482 M483 F [_, _, _, _, _] := S.pick [4, 3, 2, 1, 0] (by decide)
    refine W_call fn29 (model_Model_Copy_POOOO.con k M483 A376 c377 A379 c380 A382 c383 A385 c386 vs388 x375 b44 t485 hm389 ht486) (Γ1 := [_, _, _, _, _]) (Γ2 := []) S rfl rfl ?_
    rintro _ w503 M504 Γ' hM505 E' S ⟨b487, A489, c490, A492, c493, A495, c496, A498, c499, vs501, rfl, hm502, rfl⟩
    replace hg0 : ∃ gt fr, _ := (let ⟨gt, fr, h8⟩ := hg0; ⟨gt, fr, hM505 _ _ h8⟩)
    replace HM := Hp.le_trans HM hM505
    replace hM484 := Hp.le_trans hM484 hM505
    replace hr1 := SlR.mono hr1 hM505
    replace hr2 := SlR.mono hr2 hM505
    replace hm59 := MRel.mono hm59 hM505
    replace hm389 := MRel.mono hm389 hM505
    replace E := E.trans E'
    clear E'
    replace S : St w503 M504 F [_, _, _, _, _, _, _, _, _, _] := S
    refine W_v _ (x_move rfl) rfl ?_
    obtain ⟨t506, ht507, H⟩ := bindS H
    replace S : St w503 M504 F [_, _, _, _, _, _, _, _, _, _] := S.pick [5, 6, 7, 8, 9, 0, 1, 2, 3, 4] (by decide)
    refine W_call fn29 (model_Model_Copy_POOOO.con k M504 A376 c377 A379 c380 A382 c383 A385 c386 vs388 x375 b44 t506 hm389 ht507) (Γ1 := [_, _, _, _, _]) (Γ2 := [_, _, _, _, _]) S rfl rfl ?_
    rintro _ w524 M525 Γ' hM526 E' S ⟨b508, A510, c511, A513, c514, A516, c517, A519, c520, vs522, rfl, hm523, rfl⟩
    replace hg0 : ∃ gt fr, _ := (let ⟨gt, fr, h8⟩ := hg0; ⟨gt, fr, hM526 _ _ h8⟩)
    replace HM := Hp.le_trans HM hM526
    replace hM484 := Hp.le_trans hM484 hM526
    replace hr1 := SlR.mono hr1 hM526
    replace hr2 := SlR.mono hr2 hM526
    replace hm59 := MRel.mono hm59 hM526
    replace hm389 := MRel.mono hm389 hM526
    replace hm502 := MRel.mono hm502 hM526
    replace E := E.trans E'
    clear E'
    replace S : St w524 M525 F [_, _, _, _, _, _, _, _, _, _, _, _, _, _, _] := S
    refine W_v (.pointer (some ⟨b487, 0, none⟩)) (x_assign rfl) rfl ?_
    refine W_v (.pointer (some ⟨b508, 0, none⟩)) (x_assign rfl) rfl ?_
    refine Wl_nil ?_
    refine tn ?_
    refine Wp_seq ?_
    refine Wp_region_lit ?_
    refine W_v (.slice none 0 0) (x_assign rfl) rfl ?_
    refine Wl_nil ?_
    refine tn ?_
    refine Wp_seq ?_
    refine Wp_seq ?_
    refine Wp_region_lit ?_
    refine W_v (.int .i64 0) (x_assign rfl) rfl ?_
    refine Wl_nil ?_
    refine tn ?_
    obtain ⟨o956, o956h, o956H⟩ := bindS H
    clear H
    refine Wp_blockJ (fun ρ w' => ∃ (x937 : List api_Answer) (x941 : model_Model) (A938 : Option Addr) (c939 : Nat) (A942 : Option Addr) (c943 : Nat) (A945 : Option Addr) (c946 : Nat) (A948 : Option Addr) (c949 : Nat) (A951 : Option Addr) (c952 : Nat) (vs954 : List (Str × Value)) (Mj : Hp), (x937, x941) = o956 ∧ Agree ρ [(2, .slice A2 a2.length c2), (7, .pointer (some ⟨b44, 0, none⟩)), (10, .pointer (some ⟨b487, 0, none⟩)), (11, .pointer (some ⟨b508, 0, none⟩)), (12, .slice A938 x937.length c939)] ∧ M525.le Mj ∧ Ext w w' ∧ St w' Mj F [MapC encS (fun v : Value => v) A951 vs954, Row r_model_tx 99 (.slice A948 x941.txs.length c949) x941.txs, MapC (Value.int .i64) (Value.int .i64) A945 x941.many, MapC enc_model_name (Value.int .i64) A942 x941.names, Row r_api_Answer 43 (.slice A938 x937.length c939) x937, B94 b508 t506 A510 A513 A516 c517 A519, MapC enc_model_name (Value.int .i64) A510 t506.names, MapC (Value.int .i64) (Value.int .i64) A513 t506.many, Row r_model_tx 99 (.slice A516 t506.txs.length c517) t506.txs, MapC encS (fun v : Value => v) A519 vs522, B94 b44 x375 A376 A379 A382 c383 A385, MapC enc_model_name (Value.int .i64) A376 x375.names, MapC (Value.int .i64) (Value.int .i64) A379 x375.many, Row r_model_tx 99 (.slice A382 x375.txs.length c383) x375.txs, MapC encS (fun v : Value => v) A385 vs388, B94 b487 x941 A942 A945 A948 c949 A951] ∧ MRel r_model_row Mj x941.rows vs954) ?_ ?_
    · skip
      refine Wp_loop (fun n ρ w' => ∃ (x801 : List api_Answer) (x805 : Int) (x806 : model_Model) (A802 : Option Addr) (c803 : Nat) (A807 : Option Addr) (c808 : Nat) (A810 : Option Addr) (c811 : Nat) (A813 : Option Addr) (c814 : Nat) (A816 : Option Addr) (c817 : Nat) (vs819 : List (Str × Value)) (Mj : Hp), ferrymanlaw16_ModelCopies_l1 a2 n x801 x805 x806 = some o956 ∧ Agree ρ [(2, .slice A2 a2.length c2), (7, .pointer (some ⟨b44, 0, none⟩)), (10, .pointer (some ⟨b487, 0, none⟩)), (11, .pointer (some ⟨b508, 0, none⟩)), (12, .slice A802 x801.length c803), (13, .int .i64 x805)] ∧ M525.le Mj ∧ Ext w w' ∧ St w' Mj F [MapC encS (fun v : Value => v) A816 vs819, Row r_model_tx 99 (.slice A813 x806.txs.length c814) x806.txs, MapC (Value.int .i64) (Value.int .i64) A810 x806.many, MapC enc_model_name (Value.int .i64) A807 x806.names, Row r_api_Answer 43 (.slice A802 x801.length c803) x801, B94 b508 t506 A510 A513 A516 c517 A519, MapC enc_model_name (Value.int .i64) A510 t506.names, MapC (Value.int .i64) (Value.int .i64) A513 t506.many, Row r_model_tx 99 (.slice A516 t506.txs.length c517) t506.txs, MapC encS (fun v : Value => v) A519 vs522, B94 b44 x375 A376 A379 A382 c383 A385, MapC enc_model_name (Value.int .i64) A376 x375.names, MapC (Value.int .i64) (Value.int .i64) A379 x375.many, Row r_model_tx 99 (.slice A382 x375.txs.length c383) x375.txs, MapC encS (fun v : Value => v) A385 vs388, B94 b487 x806 A807 A810 A813 c814 A816] ∧ MRel r_model_row Mj x806.rows vs819) k ?_ ?_
      · skip
        replace S := S.row_nil r_api_Answer 43
        exact ⟨([] : List api_Answer), (0 : Int), t485, none, 0, A489, c490, A492, c493, A495, c496, A498, c499, vs501, M525, o956h, ⟨rfl, rfl, rfl, rfl, rfl, rfl, trivial⟩, (Hp.le_refl M525), E, S.pick [15, 14, 13, 12, 0, 1, 2, 3, 4, 5, 6, 7, 8, 9, 10, 11] (by decide), hm502⟩
      · intro n
        rintro ρ w958 ⟨x801, x805, x806, A802, c803, A807, c808, A810, c811, A813, c814, A816, c817, vs819, M959, H, hρ, hM960, E, S, hm820⟩
        rw [agree_eta hρ]
        clear hρ
        replace hg0 : ∃ gt fr, _ := (let ⟨gt, fr, h8⟩ := hg0; ⟨gt, fr, hM960 _ _ h8⟩)
        replace HM := Hp.le_trans HM hM960
        replace hM484 := Hp.le_trans hM484 hM960
        replace hr1 := SlR.mono hr1 hM960
        replace hr2 := SlR.mono hr2 hM960
        replace hm59 := MRel.mono hm59 hM960
        replace hm389 := MRel.mono hm389 hM960
        replace hm502 := MRel.mono hm502 hM960
        replace hm523 := MRel.mono hm523 hM960
        cases n with
        | zero => cases H
        | succ k =>
          rw [ferrymanlaw16_ModelCopies_l1.eq_2] at H
          refine Wp_seq ?_
          refine Wp_seq ?_
          refine Wp_region_lit ?_
          refine W_v _ (x_move rfl) rfl ?_
          refine W_v _ (x_move rfl) rfl ?_
          refine W_v (.int .i64 (a2.length : Int)) (x_len_slice (n := a2.length) Tryd.underlying24 rfl) rfl ?_
          refine W_v (.bool (decide (x805 < (a2.length : Int)))) (x_ibin rfl rfl rfl rfl) rfl ?_
          refine Wl_nil ?_
          refine tn ?_
          rcases iteS H with ⟨hb961, H⟩ | ⟨hb961, H⟩
          · refine Wp_cond_true (congrArg Value.bool hb961) ?_
            refine Wp_skip ?_
            refine tn ?_
            refine Wp_seq ?_
            refine Wp_block ?_
            have LE1018 := Hp.le_refl M959
            refine Wp_region_any (S := fun w' => ∃ Mx, M959.le Mx ∧ St w' Mx F [B94 b508 t506 A510 A513 A516 c517 A519, MapC enc_model_name (Value.int .i64) A510 t506.names, MapC (Value.int .i64) (Value.int .i64) A513 t506.many, Row r_model_tx 99 (.slice A516 t506.txs.length c517) t506.txs, MapC encS (fun v : Value => v) A519 vs522, B94 b44 x375 A376 A379 A382 c383 A385, MapC enc_model_name (Value.int .i64) A376 x375.names, MapC (Value.int .i64) (Value.int .i64) A379 x375.many, Row r_model_tx 99 (.slice A382 x375.txs.length c383) x375.txs, MapC encS (fun v : Value => v) A385 vs388]) (L := 16) mixed ?_
            intro w1019 hw1020 E'
            replace S := S.heap hw1020
            replace E := E.trans E'
            clear E'
            have hr1z := hr1
            have hr2z := hr2
            have D2 : ∃ Mx, Hp.le M959 Mx ∧ St _ Mx F [_, _, _, _, _, _, _, _, _, _] := ⟨_, Hp.le_refl _, S.pick [5, 6, 7, 8, 9, 10, 11, 12, 13, 14] (by decide)⟩
            refine Wa_take (i := 0) rfl (by kernel_rfl) rfl rfl _ rfl (fun w' h' => x_move rfl) D2 ?_
            refine Wa_take (i := 1) rfl (by kernel_rfl) rfl rfl _ rfl (fun w' h' => x_move rfl) D2 ?_
            refine Wa_take (i := 2) rfl (by kernel_rfl) rfl rfl _ rfl (fun w' h' => x_move rfl) D2 ?_
            refine Wa_take (i := 3) rfl (by kernel_rfl) rfl rfl _ rfl (fun w' h' => x_move rfl) D2 ?_
            obtain ⟨⟨p1021, p1022⟩, H⟩ := chkS H
            obtain ⟨b1023, o1024, cs1025, _, _, ee1030, hb1026, vs1027, hR1028, hc1029⟩ := SlW.at' hr2z p1021 p1022
            obtain rfl : vs1027 = _ := hR1028
            refine Wa_take (i := 4) rfl (by kernel_rfl) rfl rfl (.pointer (some ⟨b1023, o1024 + x805.toNat * 8, none⟩)) rfl (fun w' h' => x_indexAddr Tryd.underlying24 ty39 (slA ee1030) rfl p1021 p1022) D2 ?_
            refine Wa_take (i := 5) rfl (by kernel_rfl) rfl rfl _ rfl (fun w' h' => x_fieldAddr (o := o1024 + x805.toNat * 8) (off := 0) Tryd.underlying39 rfl ty3 rfl rfl) D2 ?_
            refine Wa_take (i := 6) rfl (by kernel_rfl) rfl rfl (.int .i64 ((rd a2 x805).Task)) rfl (fun w' h' => x_load (cls_frz h' hb1026) ty3 rfl (hc1029 0 _ rfl)) D2 ?_
            refine Wa_take (i := 7) rfl (by kernel_rfl) rfl rfl _ rfl (fun w' h' => x_move rfl) D2 ?_
            refine Wa_take (i := 8) rfl (by kernel_rfl) rfl rfl _ rfl (fun w' h' => x_move rfl) D2 ?_
            obtain ⟨⟨p1031, p1032⟩, H⟩ := chkS H
            obtain ⟨b1033, o1034, cs1035, _, _, ee1040, hb1036, vs1037, hR1038, hc1039⟩ := SlW.at' hr2z p1031 p1032
            obtain rfl : vs1037 = _ := hR1038
            refine Wa_take (i := 9) rfl (by kernel_rfl) rfl rfl (.pointer (some ⟨b1033, o1034 + x805.toNat * 8, none⟩)) rfl (fun w' h' => x_indexAddr Tryd.underlying24 ty39 (slA ee1040) rfl p1031 p1032) D2 ?_
            refine Wa_take (i := 10) rfl (by kernel_rfl) rfl rfl _ rfl (fun w' h' => x_fieldAddr (o := o1034 + x805.toNat * 8) (off := 1) Tryd.underlying39 rfl ty37 rfl rfl) D2 ?_
            refine Wa_take (i := 11) rfl (by kernel_rfl) rfl rfl (.agg #[.int .u8 ((rd a2 x805).Call.Kind), .int .i64 ((rd a2 x805).Call.Tx), .string (bs ((rd a2 x805).Call.Key)), .string (bs ((rd a2 x805).Call.End)), .string (bs ((rd a2 x805).Call.Value)), .int .i64 ((rd a2 x805).Call.Limit), .int .u8 ((rd a2 x805).Call.Engine)]) rfl (fun w' h' => x_loadA (cls_frz h' hb1036) ty37 rfl (sub_el hc1039 1 rfl) rfl rfl) D2 ?_
            refine Wa_solo (i := 12) rfl (by kernel_rfl) ?_
            obtain ⟨t1041, ht1042, H⟩ := bindS H
            replace S : St w1019 M959 F [_, _, _, _, _, _, _, _, _, _, _, _, _, _, _, _] := S.pick [15, 3, 2, 1, 0, 4, 5, 6, 7, 8, 9, 10, 11, 12, 13, 14] (by decide)
            refine W_call fn15 (model_Model_Do_POOOO.con k M959 A807 c808 A810 c811 A813 c814 A816 c817 vs819 x806 ((rd a2 x805).Task) ((rd a2 x805).Call) b487 t1041 hm820 hg0 ht1042) (Γ1 := [_, _, _, _, _]) (Γ2 := [_, _, _, _, _, _, _, _, _, _, _]) S rfl rfl ?_
            rintro _ w1060 M1061 Γ' hM1062 E' S ⟨A1043, c1044, A1046, c1047, A1049, c1050, A1052, c1053, A1055, c1056, vs1058, rfl, hm1059, rfl⟩
            replace hg0 : ∃ gt fr, _ := (let ⟨gt, fr, h8⟩ := hg0; ⟨gt, fr, hM1062 _ _ h8⟩)
            replace HM := Hp.le_trans HM hM1062
            replace hM484 := Hp.le_trans hM484 hM1062
            replace hM960 := Hp.le_trans hM960 hM1062
            replace LE1018 := Hp.le_trans LE1018 hM1062
            replace hr1 := SlR.mono hr1 hM1062
            replace hr2 := SlR.mono hr2 hM1062
            replace hm59 := MRel.mono hm59 hM1062
            replace hm389 := MRel.mono hm389 hM1062
            replace hm502 := MRel.mono hm502 hM1062
            replace hm523 := MRel.mono hm523 hM1062
            replace hm820 := MRel.mono hm820 hM1062
            replace E := E.trans E'
            clear E'
            replace S : St w1060 M1061 F [_, _, _, _, _, _, _, _, _, _, _, _, _, _, _, _, _] := S
            refine Wl_nil (on_n ⟨.inr ⟨M1061, LE1018, (S.pick [7, 8, 9, 10, 11, 12, 13, 14, 15, 16] (by decide))⟩, ?_⟩)
            refine Wa_solo (i := 13) rfl (by kernel_rfl) ?_
            obtain ⟨M1063, hM1064, hf1065, S⟩ := S.row_freeze 0 rfl
            replace hg0 : ∃ gt fr, _ := (let ⟨gt, fr, h8⟩ := hg0; ⟨gt, fr, hM1064 _ _ h8⟩)
            replace HM := Hp.le_trans HM hM1064
            replace hM484 := Hp.le_trans hM484 hM1064
            replace hM960 := Hp.le_trans hM960 hM1064
            replace LE1018 := Hp.le_trans LE1018 hM1064
            replace hr1 := SlR.mono hr1 hM1064
            replace hr2 := SlR.mono hr2 hM1064
            replace hm59 := MRel.mono hm59 hM1064
            replace hm389 := MRel.mono hm389 hM1064
            replace hm502 := MRel.mono hm502 hM1064
            replace hm523 := MRel.mono hm523 hM1064
            replace hm820 := MRel.mono hm820 hM1064
            replace hm1059 := MRel.mono hm1059 hM1064
            refine W_bslice S #[.int .i64 t1041.1.Err, .bool t1041.1.Found, .string (bs t1041.1.Value), .slice A1043 t1041.1.Pairs.length c1044] Tryd.underlying79 ty43 rfl rfl #[.int .i64 0, .bool false, .string (bs ([] : Str)), .slice none 0 0] (by kernel_rfl) (by kernel_rfl) rfl ?_
            intro b1066 w1067 E' S
            replace E := E.trans E'
            clear E'
            replace S := S.blk_row (r := r_api_Answer) (l := ([t1041.1] : List api_Answer)) 0 rfl 1 (Nat.le_refl 1) rfl (Cells.cons (vs := [.int .i64 t1041.1.Err, .bool t1041.1.Found, .string (bs t1041.1.Value), .slice A1043 t1041.1.Pairs.length c1044]) (⟨_, hf1065, rfl⟩) Cells.nil)
            refine Wl_nil (on_n ⟨.inr ⟨M1063, LE1018, (S.pick [7, 8, 9, 10, 11, 12, 13, 14, 15, 16] (by decide))⟩, ?_⟩)
            refine Wa_solo (i := 14) rfl (by kernel_rfl) ?_
            obtain ⟨p1069, H⟩ := chkS H
            obtain ⟨src1070, hs1071, hC1072⟩ := src_of_read (P := Tryd.prog) (ρ := r_api_Answer) (l := ([t1041.1] : List api_Answer)) (S.row_read 0 rfl) (by decide)
            refine W_append S 6 rfl rfl rfl Tryd.underlying79 (.inl Tryd.underlying79) ty43 rfl (by decide) (by decide) hs1071 hC1072 rfl (by omega) rfl ?_
            intro v1073 w1074 E' S
            replace E := E.trans E'
            clear E'
            obtain ⟨A1075, c1076, rfl, _⟩ := (S.row_read 6 rfl).form
            refine Wl_nil (on_n ⟨.inr ⟨M1063, LE1018, (S.pick [7, 8, 9, 10, 11, 12, 13, 14, 15, 16] (by decide))⟩, ?_⟩)
            refine Wa_take (i := 15) rfl (by kernel_rfl) rfl rfl (.slice A1075 (x801 ++ ([t1041.1] : List api_Answer)).length c1076) rfl (fun w' h' => x_assign rfl) (⟨M1063, LE1018, (S.pick [7, 8, 9, 10, 11, 12, 13, 14, 15, 16] (by decide))⟩) ?_
            refine Wa_done (by kernel_rfl) ?_
            refine bn ?_
            refine tn ?_
            refine Wp_region_lit ?_
            refine W_v _ (x_move rfl) rfl ?_
            refine W_v (.int .i64 (IntKind.i64.wrap (x805 + (1 : Int)))) (x_ibin rfl rfl rfl rfl) rfl ?_
            refine W_v (.int .i64 (IntKind.i64.wrap (x805 + (1 : Int)))) (x_assign rfl) rfl ?_
            refine Wl_nil ?_
            refine tn ?_
            exact ⟨k, Nat.lt_succ_self k, ⟨(x801 ++ ([t1041.1] : List api_Answer)), (IntKind.i64.wrap (x805 + (1 : Int))), t1041.2, A1075, c1076, A1046, c1047, A1049, c1050, A1052, c1053, A1055, c1056, vs1058, M1063, H, ⟨rfl, rfl, rfl, rfl, rfl, rfl, trivial⟩, hM960, E, S.pick [5, 4, 3, 2, 6, 7, 8, 9, 10, 11, 12, 13, 14, 15, 16, 1] (by decide), hm1059⟩⟩
          refine Wp_cond_false (congrArg Value.bool hb961) ?_
          refine Wp_exit ?_
          refine tx (tx (bsm (?_)))
          refine tn ?_
          exact ⟨x801, x806, A802, c803, A807, c808, A810, c811, A813, c814, A816, c817, vs819, M959, Option.some.inj H, ⟨rfl, rfl, rfl, rfl, rfl, trivial⟩, hM960, E, S.pick [0, 1, 2, 3, 4, 5, 6, 7, 8, 9, 10, 11, 12, 13, 14, 15] (by decide), hm820⟩
    clear o956h
    rintro ρ w1077 ⟨x937, x941, A938, c939, A942, c943, A945, c946, A948, c949, A951, c952, vs954, M1078, rfl, hρ, hM1079, E, S, hm955⟩
    rw [agree_eta hρ]
    clear hρ
    replace hg0 : ∃ gt fr, _ := (let ⟨gt, fr, h8⟩ := hg0; ⟨gt, fr, hM1079 _ _ h8⟩)
    replace HM := Hp.le_trans HM hM1079
    replace hM484 := Hp.le_trans hM484 hM1079
    replace hr1 := SlR.mono hr1 hM1079
    replace hr2 := SlR.mono hr2 hM1079
    replace hm59 := MRel.mono hm59 hM1079
    replace hm389 := MRel.mono hm389 hM1079
    replace hm502 := MRel.mono hm502 hM1079
    replace hm523 := MRel.mono hm523 hM1079
    have H := o956H
    clear o956H
    refine tn ?_
    as_aux_lemma =>
    refine Wp_seq ?_
    refine Wp_seq ?_
    refine Wp_region_lit ?_
    refine W_v _ (x_move rfl) rfl ?_
    refine W_v _ (x_move rfl) rfl ?_
    obtain ⟨t1080, ht1081, H⟩ := bindS H
    replace S : St w1077 M1078 F [_, _, _, _, _, _, _, _, _, _, _, _, _, _, _, _] := S.pick [10, 11, 12, 13, 14, 5, 6, 7, 8, 9, 0, 1, 2, 3, 4, 15] (by decide)
    refine W_callF2 fn34 (ferrymanlaw16_same_POOOO_POOOO.con k M1078 A376 c377 A379 c380 A382 c383 A385 c386 vs388 x375 A510 c511 A513 c514 A516 c517 A519 c520 vs522 t506 b44 b508 t1080 hm389 hm523 ht1081) (Γ1 := [_, _, _, _, _, _, _, _, _, _]) (Γ2 := [_, _, _, _, _, _]) S rfl rfl (by rintro _ _ _ ⟨rfl, rfl⟩; exact (flat_cons flat_blk (flat_cons flat_map (flat_cons flat_map (flat_cons (flat_row (fun _ _ _ _ h => h)) (flat_cons flat_map (flat_cons flat_blk (flat_cons flat_map (flat_cons flat_map (flat_cons (flat_row (fun _ _ _ _ h => h)) (flat_cons flat_map flat_nil))))))))))) ?_
    rintro _ w1082 _ Γ' E' S ⟨rfl, rfl⟩
    replace E := E.trans E'
    clear E'
    replace S : St w1082 M1078 F [_, _, _, _, _, _, _, _, _, _, _, _, _, _, _, _] := S
    refine W_v (.bool (!t1080)) (x_not rfl) rfl ?_
    refine Wl_nil ?_
    refine tn ?_
    rcases iteS H with ⟨hb1085, H⟩ | ⟨hb1085, H⟩
    · refine Wp_cond_true (congrArg Value.bool hb1085) ?_
      refine Wp_seq ?_
      refine Wp_region_lit ?_
      refine W_v (.bool false) (x_assign rfl) rfl ?_
      refine Wl_nil ?_
      refine tn ?_
      refine Wp_ret ?_
      refine tr (?_)
      obtain rfl := Option.some.inj H
      exact ⟨_, _, _, fun w1 e1 => run_resR (vs := [.bool false]) (FA.cons (rfl) (FA.nil)), HM, E, S.pick [] (by decide), ⟨rfl, rfl⟩⟩
    refine Wp_cond_false (congrArg Value.bool hb1085) ?_
    refine Wp_skip ?_
    refine tn ?_
    refine Wp_seq ?_
    refine Wp_seq ?_
    refine Wp_region_lit ?_
    refine W_v (.int .i64 0) (x_assign rfl) rfl ?_
    refine Wl_nil ?_
    refine tn ?_
    obtain ⟨M1437, hM1438, hf1439, S⟩ := S.row_freeze 14 rfl
    replace hg0 : ∃ gt fr, _ := (let ⟨gt, fr, h8⟩ := hg0; ⟨gt, fr, hM1438 _ _ h8⟩)
    replace HM := Hp.le_trans HM hM1438
    replace hM484 := Hp.le_trans hM484 hM1438
    replace hM1079 := Hp.le_trans hM1079 hM1438
    replace hr1 := SlR.mono hr1 hM1438
    replace hr2 := SlR.mono hr2 hM1438
    replace hm59 := MRel.mono hm59 hM1438
    replace hm389 := MRel.mono hm389 hM1438
    replace hm502 := MRel.mono hm502 hM1438
    replace hm523 := MRel.mono hm523 hM1438
    replace hm955 := MRel.mono hm955 hM1438
    obtain ⟨o1872, o1872h, o1872H⟩ := bindS H
    clear H
    refine Wp_blockJ (fun ρ w' => ∃ (x1857 : model_Model) (A1858 : Option Addr) (c1859 : Nat) (A1861 : Option Addr) (c1862 : Nat) (A1864 : Option Addr) (c1865 : Nat) (A1867 : Option Addr) (c1868 : Nat) (vs1870 : List (Str × Value)) (Mj : Hp), .inr (x1857) = o1872 ∧ Agree ρ [(7, .pointer (some ⟨b44, 0, none⟩)), (10, .pointer (some ⟨b487, 0, none⟩))] ∧ M1437.le Mj ∧ Ext w w' ∧ St w' Mj F [MapC encS (fun v : Value => v) A1867 vs1870, Row r_model_tx 99 (.slice A1864 x1857.txs.length c1865) x1857.txs, MapC (Value.int .i64) (Value.int .i64) A1861 x1857.many, MapC enc_model_name (Value.int .i64) A1858 x1857.names, B94 b44 x1857 A1858 A1861 A1864 c1865 A1867, MapC encS (fun v : Value => v) A951 vs954, Row r_model_tx 99 (.slice A948 x941.txs.length c949) x941.txs, MapC (Value.int .i64) (Value.int .i64) A945 x941.many, MapC enc_model_name (Value.int .i64) A942 x941.names, B94 b487 x941 A942 A945 A948 c949 A951] ∧ MRel r_model_row Mj x1857.rows vs1870) ?_ ?_
    · skip
      refine Wp_loop (fun n ρ w' => ∃ (x1718 : Int) (x1719 : model_Model) (A1720 : Option Addr) (c1721 : Nat) (A1723 : Option Addr) (c1724 : Nat) (A1726 : Option Addr) (c1727 : Nat) (A1729 : Option Addr) (c1730 : Nat) (vs1732 : List (Str × Value)) (Mj : Hp), ferrymanlaw16_ModelCopies_l2 a2 x937 n x1718 x1719 = some o1872 ∧ Agree ρ [(2, .slice A2 a2.length c2), (7, .pointer (some ⟨b44, 0, none⟩)), (10, .pointer (some ⟨b487, 0, none⟩)), (12, .slice A938 x937.length c939), (14, .int .i64 x1718)] ∧ M1437.le Mj ∧ Ext w w' ∧ St w' Mj F [MapC encS (fun v : Value => v) A1729 vs1732, Row r_model_tx 99 (.slice A1726 x1719.txs.length c1727) x1719.txs, MapC (Value.int .i64) (Value.int .i64) A1723 x1719.many, MapC enc_model_name (Value.int .i64) A1720 x1719.names, B94 b44 x1719 A1720 A1723 A1726 c1727 A1729, MapC encS (fun v : Value => v) A951 vs954, Row r_model_tx 99 (.slice A948 x941.txs.length c949) x941.txs, MapC (Value.int .i64) (Value.int .i64) A945 x941.many, MapC enc_model_name (Value.int .i64) A942 x941.names, B94 b487 x941 A942 A945 A948 c949 A951] ∧ MRel r_model_row Mj x1719.rows vs1732) k ?_ ?_
      · skip
        exact ⟨(0 : Int), x375, A376, c377, A379, c380, A382, c383, A385, c386, vs388, M1437, o1872h, ⟨rfl, rfl, rfl, rfl, rfl, trivial⟩, (Hp.le_refl M1437), E, S.pick [4, 3, 2, 1, 0, 10, 11, 12, 13, 14] (by decide), hm389⟩
      · intro n
        rintro ρ w1873 ⟨x1718, x1719, A1720, c1721, A1723, c1724, A1726, c1727, A1729, c1730, vs1732, M1874, H, hρ, hM1875, E, S, hm1733⟩
        rw [agree_eta hρ]
        clear hρ
        replace hg0 : ∃ gt fr, _ := (let ⟨gt, fr, h8⟩ := hg0; ⟨gt, fr, hM1875 _ _ h8⟩)
        replace HM := Hp.le_trans HM hM1875
        replace hM484 := Hp.le_trans hM484 hM1875
        replace hM1079 := Hp.le_trans hM1079 hM1875
        replace hr1 := SlR.mono hr1 hM1875
        replace hr2 := SlR.mono hr2 hM1875
        replace hm59 := MRel.mono hm59 hM1875
        replace hm389 := MRel.mono hm389 hM1875
        replace hm502 := MRel.mono hm502 hM1875
        replace hm523 := MRel.mono hm523 hM1875
        replace hm955 := MRel.mono hm955 hM1875
        replace hf1439 := SlR.mono hf1439 hM1875
        cases n with
        | zero => cases H
        | succ k =>
          rw [ferrymanlaw16_ModelCopies_l2.eq_2] at H
          refine Wp_seq ?_
          refine Wp_seq ?_
          refine Wp_region_lit ?_
          refine W_v _ (x_move rfl) rfl ?_
          refine W_v _ (x_move rfl) rfl ?_
          refine W_v (.int .i64 (a2.length : Int)) (x_len_slice (n := a2.length) Tryd.underlying24 rfl) rfl ?_
          refine W_v (.bool (decide (x1718 < (a2.length : Int)))) (x_ibin rfl rfl rfl rfl) rfl ?_
          refine Wl_nil ?_
          refine tn ?_
          rcases iteS H with ⟨hb1876, H⟩ | ⟨hb1876, H⟩
          · refine Wp_cond_true (congrArg Value.bool hb1876) ?_
            refine Wp_skip ?_
            refine tn ?_
            refine Wp_seq ?_
            refine Wp_block ?_
            refine Wp_seq ?_
            have LE1936 := Hp.le_refl M1874
            refine Wp_region_any (S := fun w' => ∃ Mx, M1874.le Mx ∧ St w' Mx F [MapC encS (fun v : Value => v) A951 vs954, Row r_model_tx 99 (.slice A948 x941.txs.length c949) x941.txs, MapC (Value.int .i64) (Value.int .i64) A945 x941.many, MapC enc_model_name (Value.int .i64) A942 x941.names, B94 b487 x941 A942 A945 A948 c949 A951]) (L := 18) mixed ?_
            intro w1937 hw1938 E'
            replace S := S.heap hw1938
            replace E := E.trans E'
            clear E'
            have hr1z := hr1
            have hr2z := hr2
            have hf1439z := hf1439
            have D3 : ∃ Mx, Hp.le M1874 Mx ∧ St _ Mx F [_, _, _, _, _] := ⟨_, Hp.le_refl _, S.pick [5, 6, 7, 8, 9] (by decide)⟩
            refine Wa_take (i := 0) rfl (by kernel_rfl) rfl rfl _ rfl (fun w' h' => x_move rfl) D3 ?_
            refine Wa_take (i := 1) rfl (by kernel_rfl) rfl rfl _ rfl (fun w' h' => x_move rfl) D3 ?_
            refine Wa_take (i := 2) rfl (by kernel_rfl) rfl rfl _ rfl (fun w' h' => x_move rfl) D3 ?_
            obtain ⟨⟨p1939, p1940⟩, H⟩ := chkS H
            obtain ⟨b1941, o1942, cs1943, _, _, ee1948, hb1944, vs1945, hR1946, hc1947⟩ := SlW.at' hr2z p1939 p1940
            obtain rfl : vs1945 = _ := hR1946
            refine Wa_take (i := 3) rfl (by kernel_rfl) rfl rfl (.pointer (some ⟨b1941, o1942 + x1718.toNat * 8, none⟩)) rfl (fun w' h' => x_indexAddr Tryd.underlying24 ty39 (slA ee1948) rfl p1939 p1940) D3 ?_
            refine Wa_take (i := 4) rfl (by kernel_rfl) rfl rfl _ rfl (fun w' h' => x_fieldAddr (o := o1942 + x1718.toNat * 8) (off := 0) Tryd.underlying39 rfl ty3 rfl rfl) D3 ?_
            refine Wa_take (i := 5) rfl (by kernel_rfl) rfl rfl (.int .i64 ((rd a2 x1718).Task)) rfl (fun w' h' => x_load (cls_frz h' hb1944) ty3 rfl (hc1947 0 _ rfl)) D3 ?_
            refine Wa_take (i := 6) rfl (by kernel_rfl) rfl rfl _ rfl (fun w' h' => x_move rfl) D3 ?_
            refine Wa_take (i := 7) rfl (by kernel_rfl) rfl rfl _ rfl (fun w' h' => x_move rfl) D3 ?_
            obtain ⟨⟨p1949, p1950⟩, H⟩ := chkS H
            obtain ⟨b1951, o1952, cs1953, _, _, ee1958, hb1954, vs1955, hR1956, hc1957⟩ := SlW.at' hr2z p1949 p1950
            obtain rfl : vs1955 = _ := hR1956
            refine Wa_take (i := 8) rfl (by kernel_rfl) rfl rfl (.pointer (some ⟨b1951, o1952 + x1718.toNat * 8, none⟩)) rfl (fun w' h' => x_indexAddr Tryd.underlying24 ty39 (slA ee1958) rfl p1949 p1950) D3 ?_
            refine Wa_take (i := 9) rfl (by kernel_rfl) rfl rfl _ rfl (fun w' h' => x_fieldAddr (o := o1952 + x1718.toNat * 8) (off := 1) Tryd.underlying39 rfl ty37 rfl rfl) D3 ?_
            refine Wa_take (i := 10) rfl (by kernel_rfl) rfl rfl (.agg #[.int .u8 ((rd a2 x1718).Call.Kind), .int .i64 ((rd a2 x1718).Call.Tx), .string (bs ((rd a2 x1718).Call.Key)), .string (bs ((rd a2 x1718).Call.End)), .string (bs ((rd a2 x1718).Call.Value)), .int .i64 ((rd a2 x1718).Call.Limit), .int .u8 ((rd a2 x1718).Call.Engine)]) rfl (fun w' h' => x_loadA (cls_frz h' hb1954) ty37 rfl (sub_el hc1957 1 rfl) rfl rfl) D3 ?_
            refine Wa_take (i := 12) rfl (by kernel_rfl) rfl rfl _ rfl (fun w' h' => x_move rfl) D3 ?_
            refine Wa_take (i := 13) rfl (by kernel_rfl) rfl rfl _ rfl (fun w' h' => x_move rfl) D3 ?_
            obtain ⟨⟨p1959, p1960⟩, H⟩ := chkS H
            obtain ⟨b1961, o1962, cs1963, _, _, ee1968, hb1964, vs1965, hR1966, hc1967⟩ := SlW.at' hf1439z p1959 p1960
            obtain ⟨v1972, hs1971, rfl⟩ := hR1966
            obtain ⟨A1969, c1970, rfl, _⟩ := hs1971.form
            have hs1971z := hs1971
            refine Wa_take (i := 14) rfl (by kernel_rfl) rfl rfl (.pointer (some ⟨b1961, o1962 + x1718.toNat * 4, none⟩)) rfl (fun w' h' => x_indexAddr Tryd.underlying79 ty43 (slA ee1968) rfl p1959 p1960) D3 ?_
            refine Wa_take (i := 15) rfl (by kernel_rfl) rfl rfl (.agg #[.int .i64 ((rd x937 x1718).Err), .bool ((rd x937 x1718).Found), .string (bs ((rd x937 x1718).Value)), .slice A1969 ((rd x937 x1718).Pairs).length c1970]) rfl (fun w' h' => x_loadA (cls_frz h' hb1964) ty43 rfl (sub_el hc1967 0 rfl) rfl rfl) D3 ?_
            refine Wa_solo (i := 11) rfl (by kernel_rfl) ?_
            obtain ⟨t1973, ht1974, H⟩ := bindS H
            replace S : St w1937 M1874 F [_, _, _, _, _, _, _, _, _, _] := S.pick [4, 3, 2, 1, 0, 5, 6, 7, 8, 9] (by decide)
            refine W_call fn15 (model_Model_Do_POOOO.con k M1874 A1720 c1721 A1723 c1724 A1726 c1727 A1729 c1730 vs1732 x1719 ((rd a2 x1718).Task) ((rd a2 x1718).Call) b44 t1973 hm1733 hg0 ht1974) (Γ1 := [_, _, _, _, _]) (Γ2 := [_, _, _, _, _]) S rfl rfl ?_
            rintro _ w1992 M1993 Γ' hM1994 E' S ⟨A1975, c1976, A1978, c1979, A1981, c1982, A1984, c1985, A1987, c1988, vs1990, rfl, hm1991, rfl⟩
            replace hg0 : ∃ gt fr, _ := (let ⟨gt, fr, h8⟩ := hg0; ⟨gt, fr, hM1994 _ _ h8⟩)
            replace HM := Hp.le_trans HM hM1994
            replace hM484 := Hp.le_trans hM484 hM1994
            replace hM1079 := Hp.le_trans hM1079 hM1994
            replace hM1875 := Hp.le_trans hM1875 hM1994
            replace LE1936 := Hp.le_trans LE1936 hM1994
            replace hr1 := SlR.mono hr1 hM1994
            replace hr2 := SlR.mono hr2 hM1994
            replace hm59 := MRel.mono hm59 hM1994
            replace hm389 := MRel.mono hm389 hM1994
            replace hm502 := MRel.mono hm502 hM1994
            replace hm523 := MRel.mono hm523 hM1994
            replace hm955 := MRel.mono hm955 hM1994
            replace hf1439 := SlR.mono hf1439 hM1994
            replace hm1733 := MRel.mono hm1733 hM1994
            replace hs1971 := SlR.mono hs1971 hM1994
            replace E := E.trans E'
            clear E'
            replace S : St w1992 M1993 F [_, _, _, _, _, _, _, _, _, _, _] := S
            refine Wl_nil (on_n ⟨.inr ⟨M1993, LE1936, (S.pick [6, 7, 8, 9, 10] (by decide))⟩, ?_⟩)
            refine Wa_solo (i := 16) rfl (by kernel_rfl) ?_
            obtain ⟨t1995, ht1996, H⟩ := bindS H
            refine W_callN 1 fn20 (fun h9 hs9 hd9 => ferrymanref06_Answers.con k _ A1975 c1976 t1973.1 A1969 c1970 (rd x937 x1718) t1995 (Sats.row hs9 hd9 0 rfl) (SlR.mono hs1971 (Hp.le_union_left _ _)) ht1996) S rfl rfl (by rintro _ _ _ ⟨_, rfl⟩; exact flat_nil) ?_
            rintro _ w1997 _ Γ' E' S ⟨rfl, rfl⟩
            replace E := E.trans E'
            clear E'
            refine Wl_nil (on_n ⟨.inr ⟨M1993, LE1936, (S.pick [6, 7, 8, 9, 10] (by decide))⟩, ?_⟩)
            refine Wa_take (i := 17) rfl (by kernel_rfl) rfl rfl (.bool (!t1995)) rfl (fun w' h' => x_not rfl) (⟨M1993, LE1936, (S.pick [6, 7, 8, 9, 10] (by decide))⟩) ?_
            refine Wa_done (by kernel_rfl) ?_
            refine tn ?_
            rcases iteS H with ⟨hb1998, H⟩ | ⟨hb1998, H⟩
            · refine Wp_cond_true (congrArg Value.bool hb1998) ?_
              refine Wp_seq ?_
              refine Wp_region_lit ?_
              refine W_v (.bool false) (x_assign rfl) rfl ?_
              refine Wl_nil ?_
              refine tn ?_
              refine Wp_ret ?_
              refine br (tr (tr (br (tr (tr (?_))))))
              obtain rfl := Option.some.inj H
              have H := o1872H
              replace H := elimL H
              obtain rfl := Option.some.inj H
              exact ⟨_, _, _, fun w1 e1 => run_resR (vs := [.bool false]) (FA.cons (rfl) (FA.nil)), HM, E, S.pick [] (by decide), ⟨rfl, rfl⟩⟩
            refine Wp_cond_false (congrArg Value.bool hb1998) ?_
            refine Wp_skip ?_
            refine bn ?_
            refine tn ?_
            refine Wp_region_lit ?_
            refine W_v _ (x_move rfl) rfl ?_
            refine W_v (.int .i64 (IntKind.i64.wrap (x1718 + (1 : Int)))) (x_ibin rfl rfl rfl rfl) rfl ?_
            refine W_v (.int .i64 (IntKind.i64.wrap (x1718 + (1 : Int)))) (x_assign rfl) rfl ?_
            refine Wl_nil ?_
            refine tn ?_
            exact ⟨k, Nat.lt_succ_self k, ⟨(IntKind.i64.wrap (x1718 + (1 : Int))), t1973.2, A1978, c1979, A1981, c1982, A1984, c1985, A1987, c1988, vs1990, M1993, H, ⟨rfl, rfl, rfl, rfl, rfl, trivial⟩, hM1875, E, S.pick [5, 4, 3, 2, 1, 6, 7, 8, 9, 10] (by decide), hm1991⟩⟩
          refine Wp_cond_false (congrArg Value.bool hb1876) ?_
          refine Wp_exit ?_
          refine tx (tx (bsm (?_)))
          refine tn ?_
          exact ⟨x1719, A1720, c1721, A1723, c1724, A1726, c1727, A1729, c1730, vs1732, M1874, Option.some.inj H, ⟨rfl, rfl, trivial⟩, hM1875, E, S.pick [0, 1, 2, 3, 4, 5, 6, 7, 8, 9] (by decide), hm1733⟩
    clear o1872h
    rintro ρ w1999 ⟨x1857, A1858, c1859, A1861, c1862, A1864, c1865, A1867, c1868, vs1870, M2000, rfl, hρ, hM2001, E, S, hm1871⟩
    rw [agree_eta hρ]
    clear hρ
    replace hg0 : ∃ gt fr, _ := (let ⟨gt, fr, h8⟩ := hg0; ⟨gt, fr, hM2001 _ _ h8⟩)
    replace HM := Hp.le_trans HM hM2001
    replace hM484 := Hp.le_trans hM484 hM2001
    replace hM1079 := Hp.le_trans hM1079 hM2001
    replace hr1 := SlR.mono hr1 hM2001
    replace hr2 := SlR.mono hr2 hM2001
    replace hm59 := MRel.mono hm59 hM2001
    replace hm389 := MRel.mono hm389 hM2001
    replace hm502 := MRel.mono hm502 hM2001
    replace hm523 := MRel.mono hm523 hM2001
    replace hm955 := MRel.mono hm955 hM2001
    replace hf1439 := SlR.mono hf1439 hM2001
    have H := o1872H
    clear o1872H
    replace H := elimR H
    refine tn ?_
    as_aux_lemma =>
    refine Wp_seq ?_
    refine Wp_region_lit ?_
    refine W_v _ (x_move rfl) rfl ?_
    refine W_v _ (x_move rfl) rfl ?_
    obtain ⟨t2002, ht2003, H⟩ := bindS H
    replace S : St w1999 M2000 F [_, _, _, _, _, _, _, _, _, _] := S.pick [4, 3, 2, 1, 0, 9, 8, 7, 6, 5] (by decide)
    refine W_callF2 fn34 (ferrymanlaw16_same_POOOO_POOOO.con k M2000 A1858 c1859 A1861 c1862 A1864 c1865 A1867 c1868 vs1870 x1857 A942 c943 A945 c946 A948 c949 A951 c952 vs954 x941 b44 b487 t2002 hm1871 hm955 ht2003) (Γ1 := [_, _, _, _, _, _, _, _, _, _]) (Γ2 := []) S rfl rfl (by rintro _ _ _ ⟨rfl, rfl⟩; exact (flat_cons flat_blk (flat_cons flat_map (flat_cons flat_map (flat_cons (flat_row (fun _ _ _ _ h => h)) (flat_cons flat_map (flat_cons flat_blk (flat_cons flat_map (flat_cons flat_map (flat_cons (flat_row (fun _ _ _ _ h => h)) (flat_cons flat_map flat_nil))))))))))) ?_
    rintro _ w2004 _ Γ' E' S ⟨rfl, rfl⟩
    replace E := E.trans E'
    clear E'
    replace S : St w2004 M2000 F [_, _, _, _, _, _, _, _, _, _] := S
    refine W_v (.bool t2002) (x_assign rfl) rfl ?_
    refine Wl_nil ?_
    refine tn ?_
    refine Wp_ret ?_
    obtain rfl := Option.some.inj H
    exact ⟨_, _, _, fun w1 e1 => run_resR (vs := [.bool t2002]) (FA.cons (rfl) (FA.nil)), HM, E, S.pick [] (by decide), ⟨rfl, rfl⟩⟩
end Go.Proofs.YtcngjjlhdlbogaaDoor
