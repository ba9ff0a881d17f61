import Derived.Test.YtcngjjlhdlbogaaDoorGm1B
import Derived.Test.YtcngjjlhdlbogaaDoorGm1P0
import Derived.Test.YtcngjjlhdlbogaaDoorGm1P1
import Derived.Test.YtcngjjlhdlbogaaDoorGm1P2
import Derived.Test.YtcngjjlhdlbogaaDoorGm1P3
import Derived.Test.YtcngjjlhdlbogaaDoorGm1P4
namespace Go.Proofs.YtcngjjlhdlbogaaDoor
open Go
set_option linter.unusedVariables false
set_option linter.unusedSimpArgs false
/-! ### ferryman/ferrymanlaw16.ModelMany: function 10 -/
def ferrymanlaw16_ModelMany_l20 (t5292 : (List api_Version)) : Nat → Int → Option ((Bool) ⊕ (Unit))
  | 0, _ => none
  | k + 1, x5390 => (if (decide (x5390 < (t5292.length : Int))) = true then (if 0 ≤ x5390 ∧ x5390 < (t5292.length : Int) then (if 0 ≤ (IntKind.i64.wrap (x5390 - (1 : Int))) ∧ (IntKind.i64.wrap (x5390 - (1 : Int))) < (t5292.length : Int) then (if (decide ((rd t5292 x5390).TS ≥ (rd t5292 (IntKind.i64.wrap (x5390 - (1 : Int)))).TS)) = true then some (.inl false) else ferrymanlaw16_ModelMany_l20 t5292 k (IntKind.i64.wrap (x5390 + (1 : Int)))) else none) else none) else some (.inr ()))
set_option maxHeartbeats 2000000 in
theorem ferrymanlaw16_ModelMany_l20.mono {t5292 : (List api_Version)} : ∀ {kl : Nat} {x0}, OLe (ferrymanlaw16_ModelMany_l20 t5292 kl x0) (ferrymanlaw16_ModelMany_l20 t5292 (kl + 1) x0) := by
  intro kl
  induction kl with
  | zero => intros; exact OLe.none
  | succ kl ih =>
    intros
    rw [ferrymanlaw16_ModelMany_l20.eq_2, ferrymanlaw16_ModelMany_l20.eq_2]
    repeat' (first | with_reducible exact OLe.none | with_reducible exact OLe.some | with_reducible refine OLe.ite ?_ ?_ | with_reducible refine OLe.bind ?_ (fun _ => ?_) | exact ih | refine OLe.bind ?_ (fun _ => ?_) | refine OLe.ite ?_ ?_ | refine OLe.elim (fun _ => ?_) (fun _ => ?_) | split)
def ferrymanlaw16_ModelMany_l18 (a0 : api_Config) (x4594 : Int) (x4595 : Bool) (x4596 : Str) (x4597 : List api_Pair) (x4601 : model_Model) (t4781 : (List Str)) : Nat → Int → Int → Option ((Bool) ⊕ (Int))
  | 0, _, _ => none
  | k + 1, x5115, x5116 => (if (decide (x5116 < (t4781.length : Int))) = true then (if 0 ≤ x5116 ∧ x5116 < (t4781.length : Int) then (Option.bind (model_Model_Versions_POOOO k x4601 (rd t4781 x5116)) (fun t5292 => (if 0 ≤ x5116 ∧ x5116 < (t4781.length : Int) then (Option.bind (model_Model_Intent_POOOO k x4601 (rd t4781 x5116)) (fun t5310 => (Option.bind (α := Int) (if t5310.2 = true then some ((IntKind.i64.wrap ((t5292.length : Int) + (1 : Int)))) else some ((t5292.length : Int))) (fun x5321 => (Option.bind (α := Bool) (if ((decide (x5321 < (1 : Int))) || (decide (x5321 > a0.Depth))) = true then some (true) else (Option.bind (model_Same k (⟨x4594, x4595, x4596, x4597⟩ : api_Answer) (⟨x4594, x4595, x4596, x4597⟩ : api_Answer)) (fun t5335 => some ((!t5335))))) (fun x5333 => (if x5333 = true then some (.inl false) else (Option.bind (ferrymanlaw16_ModelMany_l20 t5292 k (1 : Int)) (fun o5415o => Sum.elim (fun r' => some (.inl r')) (fun _ => ferrymanlaw16_ModelMany_l18 a0 x4594 x4595 x4596 x4597 x4601 t4781 k (IntKind.i64.wrap (x5115 + x5321)) (IntKind.i64.wrap (x5116 + (1 : Int)))) o5415o))))))))) else none))) else none) else some (.inr (x5115)))
set_option maxHeartbeats 2000000 in
theorem ferrymanlaw16_ModelMany_l18.mono {a0 : api_Config} {x4594 : Int} {x4595 : Bool} {x4596 : Str} {x4597 : List api_Pair} {x4601 : model_Model} {t4781 : (List Str)} : ∀ {kl : Nat} {x0 x1}, OLe (ferrymanlaw16_ModelMany_l18 a0 x4594 x4595 x4596 x4597 x4601 t4781 kl x0 x1) (ferrymanlaw16_ModelMany_l18 a0 x4594 x4595 x4596 x4597 x4601 t4781 (kl + 1) x0 x1) := by
  intro kl
  induction kl with
  | zero => intros; exact OLe.none
  | succ kl ih =>
    intros
    rw [ferrymanlaw16_ModelMany_l18.eq_2, ferrymanlaw16_ModelMany_l18.eq_2]
    repeat' (first | with_reducible exact OLe.none | with_reducible exact OLe.some | with_reducible refine OLe.ite ?_ ?_ | with_reducible refine OLe.bind ?_ (fun _ => ?_) | with_reducible exact ferrymanlaw16_ModelMany_l20.mono | with_reducible exact model_Model_Intent_POOOO.mono | with_reducible exact model_Model_Versions_POOOO.mono | with_reducible exact model_Same.mono | exact ih | refine OLe.bind ?_ (fun _ => ?_) | refine OLe.ite ?_ ?_ | refine OLe.elim (fun _ => ?_) (fun _ => ?_) | split)
def ferrymanlaw16_ModelMany_l10 (a0 : api_Config) (a1 : (List ferrymanlaw16_Turn)) : Nat → Int → model_Model → Option ((Bool) ⊕ (Unit))
  | 0, _, _ => none
  | k + 1, x2820, x2821 => (if (decide (x2820 < (a1.length : Int))) = true then (Option.bind (model_Model_Copy_POOOO k x2821) (fun t4210 => (if 0 ≤ x2820 ∧ x2820 < (a1.length : Int) then (if 0 ≤ x2820 ∧ x2820 < (a1.length : Int) then (Option.bind (α := Int × Bool × Str × List api_Pair × model_Model) (Option.bind (model_Model_Do_POOOO k x2821 ((rd a1 x2820).Task) ((rd a1 x2820).Call)) (fun t4616 => some (t4616.1.Err, t4616.1.Found, t4616.1.Value, t4616.1.Pairs, t4616.2))) (fun ⟨x4594, x4595, x4596, x4597, x4601⟩ => (Option.bind (α := Bool) (if ((x4594 != (0 : Int)) && (x4594 != (35 : Int))) = true then (Option.bind (ferrymanlaw16_same_POOOO_POOOO k t4210 x4601) (fun t4774 => some ((!t4774)))) else some (false)) (fun x4772 => (if x4772 = true then some (.inl false) else (Option.bind (model_Model_Keys_POOOO k x4601) (fun t4781 => (Option.bind (ferrymanlaw16_ModelMany_l18 a0 x4594 x4595 x4596 x4597 x4601 t4781 k (0 : Int) (0 : Int)) (fun o5279o => Sum.elim (fun r' => some (.inl r')) (fun x5278 => (Option.bind (α := Bool) (if (decide ((t4781.length : Int) > a0.Keys)) = true then some (true) else (Option.bind (model_Model_Retained_POOOO k x4601) (fun t5519 => some ((x5278 != t5519))))) (fun x5517 => (Option.bind (α := Bool) (if x5517 = true then some (true) else (Option.bind (model_Model_Active_POOOO k x4601) (fun t5533 => some ((decide (t5533 > a0.Active)))))) (fun x5531 => (Option.bind (α := Bool) (if x5531 = true then some (true) else (Option.bind (model_Model_Clock_POOOO k x4601) (fun t5547 => some ((decide (t5547 > a0.TS)))))) (fun x5545 => (Option.bind (α := Bool) (if x5545 = true then some (true) else (Option.bind (model_Model_Floor_POOOO k x4601) (fun t5566 => (Option.bind (model_Model_Clock_POOOO k x4601) (fun t5571 => some ((decide (t5566 > t5571)))))))) (fun x5564 => (if x5564 = true then some (.inl false) else ferrymanlaw16_ModelMany_l10 a0 a1 k (IntKind.i64.wrap (x2820 + (1 : Int))) x4601)))))))))) o5279o))))))))) else none) else none))) else some (.inr ()))
set_option maxHeartbeats 2000000 in
theorem ferrymanlaw16_ModelMany_l10.mono {a0 : api_Config} {a1 : (List ferrymanlaw16_Turn)} : ∀ {kl : Nat} {x0 x1}, OLe (ferrymanlaw16_ModelMany_l10 a0 a1 kl x0 x1) (ferrymanlaw16_ModelMany_l10 a0 a1 (kl + 1) x0 x1) := by
  intro kl
  induction kl with
  | zero => intros; exact OLe.none
  | succ kl ih =>
    intros
    rw [ferrymanlaw16_ModelMany_l10.eq_2, ferrymanlaw16_ModelMany_l10.eq_2]
    repeat' (first | with_reducible exact OLe.none | with_reducible exact OLe.some | with_reducible refine OLe.ite ?_ ?_ | with_reducible refine OLe.bind ?_ (fun _ => ?_) | with_reducible exact ferrymanlaw16_ModelMany_l18.mono | with_reducible exact ferrymanlaw16_same_POOOO_POOOO.mono | with_reducible exact model_Model_Active_POOOO.mono | with_reducible exact model_Model_Clock_POOOO.mono | with_reducible exact model_Model_Copy_POOOO.mono | with_reducible exact model_Model_Do_POOOO.mono | with_reducible exact model_Model_Floor_POOOO.mono | with_reducible exact model_Model_Keys_POOOO.mono | with_reducible exact model_Model_Retained_POOOO.mono | exact ih | refine OLe.bind ?_ (fun _ => ?_) | refine OLe.ite ?_ ?_ | refine OLe.elim (fun _ => ?_) (fun _ => ?_) | split)
def ferrymanlaw16_ModelMany (k : Nat) (a0 : api_Config) (a1 : (List ferrymanlaw16_Turn)) : Option (Bool) :=
  (Option.bind (ferrymanlaw16_works k ) (fun t4 => (Option.bind (α := Bool) (if (!t4) = true then some (true) else (Option.bind (ferrymanlaw16_large k a1) (fun t16 => some (t16)))) (fun x14 => (if x14 = true then (Option.bind (ferrymanlaw16_works k ) (fun t21 => some t21)) else (Option.bind (model_New_v k a0) (fun t24 => (Sum.elim (fun t26 => some true) (fun t27 => (Option.bind (ferrymanlaw16_ModelMany_l10 a0 a1 k (0 : Int) t27) (fun o4205o => Sum.elim (fun r' => some r') (fun _ => some true) o4205o)))) t24)))))))
set_option maxHeartbeats 2000000 in
theorem ferrymanlaw16_ModelMany.mono {k : Nat} {a0 : api_Config} {a1 : (List ferrymanlaw16_Turn)} : OLe (ferrymanlaw16_ModelMany k a0 a1) (ferrymanlaw16_ModelMany (k + 1) a0 a1) := by
  unfold ferrymanlaw16_ModelMany
  repeat' (first | with_reducible exact OLe.none | with_reducible exact OLe.some | with_reducible refine OLe.ite ?_ ?_ | with_reducible refine OLe.bind ?_ (fun _ => ?_) | with_reducible exact ferrymanlaw16_ModelMany_l10.mono | with_reducible exact ferrymanlaw16_large.mono | with_reducible exact ferrymanlaw16_works.mono | with_reducible exact model_New_v.mono | refine OLe.bind ?_ (fun _ => ?_) | refine OLe.ite ?_ ?_ | refine OLe.elim (fun _ => ?_) (fun _ => ?_) | split)
set_option maxHeartbeats 8000000 in
set_option maxRecDepth 100000 in
theorem ferrymanlaw16_ModelMany.con (k : Nat) (M : Hp) (a0 : api_Config) (A1 : Option Addr) (c1 : Nat) (a1 : (List ferrymanlaw16_Turn)) (r : Bool) (hr1 : SlR r_ferrymanlaw16_Turn M (.slice A1 a1.length c1) a1) (hg0 : ∃ gt fr, M 0 = some (.cells #[.nilFunc, .func (.func 124) #[] #[], .func (.func 125) #[] #[], .func (.func 126) #[] #[], .func (.func 127) #[] #[], .func (.func 128) #[] #[], .func (.func 129) #[] #[], .func (.func 130) #[] #[], .func (.func 131) #[] #[], .func (.func 132) #[] #[]] gt fr)) (h : ferrymanlaw16_ModelMany k a0 a1 = some r) : Con Tryd.prog 10 #[.agg #[.int .i64 a0.Tasks, .int .i64 a0.Active, .int .i64 a0.Keys, .int .i64 a0.Depth, .int .i64 a0.TS, .int .i64 a0.KeyLen, .int .i64 a0.ValLen, .int .i64 a0.Fan], .slice A1 a1.length c1] M [] (fun v M' Γ' => v = .bool r ∧ Γ' = []) := by
  refine con_of_wp Tryd.func10 rfl Tryd.ntmps10 Tryd.results10 rfl ?_
  intro w F rn S hrn
  have E := Ext.refl w
  have HM := Hp.le_refl M
  have H := h
  unfold ferrymanlaw16_ModelMany at H
  refine Wp_seq ?_
  refine Wp_region_lit ?_
  refine W_box S #[.int .i64 a0.Tasks, .int .i64 a0.Active, .int .i64 a0.Keys, .int .i64 a0.Depth, .int .i64 a0.TS, .int .i64 a0.KeyLen, .int .i64 a0.ValLen, .int .i64 a0.Fan] rfl rfl rfl ?_
  intro b1 w2 E' S
  replace E := E.trans E'
  clear E'
  refine W_v (.bool false) (x_assign rfl) rfl ?_
  refine Wl_nil ?_
  refine tn ?_
  refine Wp_seq ?_
  refine Wp_seq ?_
  refine Wp_region_lit ?_
  obtain ⟨t4, ht5, H⟩ := bindS H
  refine W_callF fn11 (ferrymanlaw16_works.con k M  t4 hg0 ht5) S rfl rfl (by rintro _ _ _ ⟨_, rfl⟩; exact flat_nil) ?_
  rintro _ w6 _ Γ' E' S ⟨rfl, rfl⟩
  replace E := E.trans E'
  clear E'
  refine W_v (.bool (!t4)) (x_not rfl) rfl ?_
  refine W_v _ (x_move rfl) rfl ?_
  obtain ⟨o15, o15h, o15H⟩ := bindS H
  clear H
  refine Wl_cutN 3 (fun ρ w' => ∃ (x14 : Bool), (x14) = o15 ∧ Agree ρ [(1, .slice A1 a1.length c1), (2, .pointer (some ⟨b1, 0, none⟩)), (23, .bool x14)] ∧ Ext w w' ∧ St w' M F [B23 b1 a0]) ?_ ?_
  · have H := o15h
    rcases iteS H with ⟨hb13, H⟩ | ⟨hb13, H⟩
    · skip
      refine W_no (skF hb13) rfl ?_
      refine W_no (skF hb13) rfl ?_
      refine W_v _ (x_pick (k := true) (congrArg Value.bool hb13) rfl) rfl ?_
      refine Wl_nil ?_
      exact ⟨true, Option.some.inj H, ⟨rfl, rfl, rfl, trivial⟩, E, S.pick [0] (by decide)⟩
    · skip
      refine W_yes (congrArg some hb13) ?_
      refine W_v _ (x_move rfl) rfl ?_
      refine W_yes (congrArg some hb13) ?_
      obtain ⟨t16, ht17, H⟩ := bindS H
      refine W_callF fn12 (ferrymanlaw16_large.con k M A1 c1 a1 t16 hr1 ht17) S rfl rfl (by rintro _ _ _ ⟨_, rfl⟩; exact flat_nil) ?_
      rintro _ w18 _ Γ' E' S ⟨rfl, rfl⟩
      replace E := E.trans E'
      clear E'
      refine W_v _ (x_pick (k := false) (congrArg Value.bool hb13) rfl) rfl ?_
      refine Wl_nil ?_
      exact ⟨t16, Option.some.inj H, ⟨rfl, rfl, rfl, trivial⟩, E, S.pick [0] (by decide)⟩
  as_aux_lemma =>
  clear o15h
  rintro ρ w19 ⟨x14, rfl, hρ, E, S⟩
  rw [agree_eta hρ]
  clear hρ
  have H := o15H
  clear o15H
  refine Wl_nil ?_
  refine tn ?_
  rcases iteS H with ⟨hb20, H⟩ | ⟨hb20, H⟩
  · refine Wp_cond_true (congrArg Value.bool hb20) ?_
    refine Wp_seq ?_
    refine Wp_region_lit ?_
    obtain ⟨t21, ht22, H⟩ := bindS H
    refine W_callF fn11 (ferrymanlaw16_works.con k M  t21 hg0 ht22) S rfl rfl (by rintro _ _ _ ⟨_, rfl⟩; exact flat_nil) ?_
    rintro _ w23 _ Γ' E' S ⟨rfl, rfl⟩
    replace E := E.trans E'
    clear E'
    refine W_v (.bool t21) (x_assign rfl) rfl ?_
    refine Wl_nil ?_
    refine tn ?_
    refine Wp_ret ?_
    refine tr (?_)
    obtain rfl := Option.some.inj H
    exact ⟨_, _, _, fun w1 e1 => run_resR (vs := [.bool t21]) (FA.cons (rfl) (FA.nil)), HM, E, S.pick [] (by decide), ⟨rfl, rfl⟩⟩
  refine Wp_cond_false (congrArg Value.bool hb20) ?_
  refine Wp_skip ?_
  refine tn ?_
  refine Wp_seq ?_
  refine Wp_region_lit ?_
  refine W_v (.agg #[.int .i64 a0.Tasks, .int .i64 a0.Active, .int .i64 a0.Keys, .int .i64 a0.Depth, .int .i64 a0.TS, .int .i64 a0.KeyLen, .int .i64 a0.ValLen, .int .i64 a0.Fan]) (x_loadA (S.blk 0 rfl) ty23 rfl (sub_of_extract rfl) rfl rfl) rfl ?_
  obtain ⟨t24, ht25, H⟩ := bindS H
  rcases t24 with t26 | t27
  · skip
    replace H := elimL H
    refine W_callF2 fn13 (model_New_v.con k M a0 (Sum.inl t26)  ht25) (Γ1 := []) (Γ2 := [_]) S rfl rfl (by rintro _ _ _ ⟨rfl, rfl⟩; exact flat_nil) ?_
    rintro _ w28 _ Γ' E' S ⟨rfl, rfl⟩
    replace E := E.trans E'
    clear E'
    replace S : St w28 M F [_] := S
    refine W_v _ (x_move rfl) rfl ?_
    refine W_v (.pointer none) (x_extract rfl rfl) rfl ?_
    refine W_v (.int .i64 1) (x_extract rfl rfl) rfl ?_
    refine W_v (.pointer none) (x_assign rfl) rfl ?_
    refine W_v (.int .i64 1) (x_assign rfl) rfl ?_
    refine Wl_nil ?_
    refine tn ?_
    refine Wp_seq ?_
    refine Wp_seq ?_
    refine Wp_region_lit ?_
    refine W_v _ (x_move rfl) rfl ?_
    refine W_v (.bool true) (x_ibin rfl rfl rfl rfl) rfl ?_
    refine Wl_nil ?_
    refine tn ?_
    refine Wp_cond_true rfl ?_
    refine Wp_seq ?_
    refine Wp_region_lit ?_
    refine W_v (.bool true) (x_assign rfl) rfl ?_
    refine Wl_nil ?_
    refine tn ?_
    refine Wp_ret ?_
    refine tr (?_)
    obtain rfl := Option.some.inj H
    exact ⟨_, _, _, fun w1 e1 => run_resR (vs := [.bool true]) (FA.cons (rfl) (FA.nil)), HM, E, S.pick [] (by decide), ⟨rfl, rfl⟩⟩
  · skip
    replace H := elimR H
    refine W_call fn13 (model_New_v.con k M a0 (Sum.inr t27)  ht25) (Γ1 := []) (Γ2 := [_]) S rfl rfl ?_
    rintro _ w47 M48 Γ' hM49 E' S ⟨b31, A33, c34, A36, c37, A39, c40, A42, c43, vs45, rfl, hm46, rfl⟩
    replace hg0 : ∃ gt fr, _ := (let ⟨gt, fr, h8⟩ := hg0; ⟨gt, fr, hM49 _ _ h8⟩)
    replace HM := Hp.le_trans HM hM49
    replace hr1 := SlR.mono hr1 hM49
    replace E := E.trans E'
    clear E'
    replace S : St w47 M48 F [_, _, _, _, _, _] := S
    refine W_v _ (x_move rfl) rfl ?_
    refine W_v (.pointer (some ⟨b31, 0, none⟩)) (x_extract rfl rfl) rfl ?_
    refine W_v (.int .i64 0) (x_extract rfl rfl) rfl ?_
    refine W_v (.pointer (some ⟨b31, 0, none⟩)) (x_assign rfl) rfl ?_
    refine W_v (.int .i64 0) (x_assign rfl) rfl ?_
    refine Wl_nil ?_
    refine tn ?_
    refine Wp_seq ?_
    refine Wp_seq ?_
    refine Wp_region_lit ?_
    refine W_v _ (x_move rfl) rfl ?_
    refine W_v (.bool false) (x_ibin rfl rfl rfl rfl) rfl ?_
    refine Wl_nil ?_
    refine tn ?_
    refine Wp_cond_false rfl ?_
    refine Wp_skip ?_
    refine tn ?_
    refine Wp_seq ?_
    refine Wp_seq ?_
    refine Wp_region_lit ?_
    refine W_v (.int .i64 0) (x_assign rfl) rfl ?_
    refine Wl_nil ?_
    refine tn ?_
    obtain ⟨o4205, o4205h, o4205H⟩ := bindS H
    clear H
    refine Wp_blockJ (fun ρ w' => ∃ (Mj : Hp), .inr () = o4205 ∧ Agree ρ [] ∧ M48.le Mj ∧ Ext w w' ∧ St w' Mj F []) ?_ ?_
    · skip
      refine Wp_loop (fun n ρ w' => ∃ (x2820 : Int) (x2821 : model_Model) (A2822 : Option Addr) (c2823 : Nat) (A2825 : Option Addr) (c2826 : Nat) (A2828 : Option Addr) (c2829 : Nat) (A2831 : Option Addr) (c2832 : Nat) (vs2834 : List (Str × Value)) (Mj : Hp), ferrymanlaw16_ModelMany_l10 a0 a1 n x2820 x2821 = some o4205 ∧ Agree ρ [(1, .slice A1 a1.length c1), (2, .pointer (some ⟨b1, 0, none⟩)), (5, .pointer (some ⟨b31, 0, none⟩)), (7, .int .i64 x2820)] ∧ M48.le Mj ∧ Ext w w' ∧ St w' Mj F [MapC encS (fun v : Value => v) A2831 vs2834, Row r_model_tx 99 (.slice A2828 x2821.txs.length c2829) x2821.txs, MapC (Value.int .i64) (Value.int .i64) A2825 x2821.many, MapC enc_model_name (Value.int .i64) A2822 x2821.names, B94 b31 x2821 A2822 A2825 A2828 c2829 A2831, B23 b1 a0] ∧ MRel r_model_row Mj x2821.rows vs2834) k ?_ ?_
      · skip
        exact ⟨(0 : Int), t27, A33, c34, A36, c37, A39, c40, A42, c43, vs45, M48, o4205h, ⟨rfl, rfl, rfl, rfl, trivial⟩, (Hp.le_refl M48), E, S.pick [4, 3, 2, 1, 0, 5] (by decide), hm46⟩
      · intro n
        rintro ρ w4206 ⟨x2820, x2821, A2822, c2823, A2825, c2826, A2828, c2829, A2831, c2832, vs2834, M4207, H, hρ, hM4208, E, S, hm2835⟩
        rw [agree_eta hρ]
        clear hρ
        replace hg0 : ∃ gt fr, _ := (let ⟨gt, fr, h8⟩ := hg0; ⟨gt, fr, hM4208 _ _ h8⟩)
        replace HM := Hp.le_trans HM hM4208
        replace hr1 := SlR.mono hr1 hM4208
        replace hm46 := MRel.mono hm46 hM4208
        cases n with
        | zero => cases H
        | succ k =>
          rw [ferrymanlaw16_ModelMany_l10.eq_2] at H
          refine Wp_seq ?_
          refine Wp_seq ?_
          refine Wp_region_lit ?_
          refine W_v _ (x_move rfl) rfl ?_
          refine W_v _ (x_move rfl) rfl ?_
          refine W_v (.int .i64 (a1.length : Int)) (x_len_slice (n := a1.length) Tryd.underlying24 rfl) rfl ?_
          refine W_v (.bool (decide (x2820 < (a1.length : Int)))) (x_ibin rfl rfl rfl rfl) rfl ?_
          refine Wl_nil ?_
          refine tn ?_
          rcases iteS H with ⟨hb4209, H⟩ | ⟨hb4209, H⟩
          · refine Wp_cond_true (congrArg Value.bool hb4209) ?_
            refine Wp_skip ?_
            refine tn ?_
            refine Wp_seq ?_
            refine Wp_block ?_
            refine Wp_seq ?_
            refine Wp_region_lit ?_
            refine W_v _ (x_move rfl) rfl ?_
            obtain ⟨t4210, ht4211, H⟩ := bindS H
            replace S : St w4206 M4207 F [_, _, _, _, _, _] := S.pick [4, 3, 2, 1, 0, 5] (by decide)
            refine W_call fn29 (model_Model_Copy_POOOO.con k M4207 A2822 c2823 A2825 c2826 A2828 c2829 A2831 c2832 vs2834 x2821 b31 t4210 hm2835 ht4211) (Γ1 := [_, _, _, _, _]) (Γ2 := [_]) S rfl rfl ?_
            rintro _ w4228 M4229 Γ' hM4230 E' S ⟨b4212, A4214, c4215, A4217, c4218, A4220, c4221, A4223, c4224, vs4226, rfl, hm4227, rfl⟩
            replace hg0 : ∃ gt fr, _ := (let ⟨gt, fr, h8⟩ := hg0; ⟨gt, fr, hM4230 _ _ h8⟩)
            replace HM := Hp.le_trans HM hM4230
            replace hM4208 := Hp.le_trans hM4208 hM4230
            replace hr1 := SlR.mono hr1 hM4230
            replace hm46 := MRel.mono hm46 hM4230
            replace hm2835 := MRel.mono hm2835 hM4230
            replace E := E.trans E'
            clear E'
            replace S : St w4228 M4229 F [_, _, _, _, _, _, _, _, _, _, _] := S
            refine W_v (.pointer (some ⟨b4212, 0, none⟩)) (x_assign rfl) rfl ?_
            refine Wl_nil ?_
            refine tn ?_
            refine Wp_seq ?_
            have LE4494 := Hp.le_refl M4229
            refine Wp_region_any (S := fun w' => ∃ Mx, M4229.le Mx ∧ St w' Mx F [B94 b4212 t4210 A4214 A4217 A4220 c4221 A4223, MapC enc_model_name (Value.int .i64) A4214 t4210.names, MapC (Value.int .i64) (Value.int .i64) A4217 t4210.many, Row r_model_tx 99 (.slice A4220 t4210.txs.length c4221) t4210.txs, MapC encS (fun v : Value => v) A4223 vs4226, B23 b1 a0]) (L := 13) mixed ?_
            intro w4495 hw4496 E'
            replace S := S.heap hw4496
            replace E := E.trans E'
            clear E'
            have hr1z := hr1
            have D1 : ∃ Mx, Hp.le M4229 Mx ∧ St _ Mx F [_, _, _, _, _, _] := ⟨_, Hp.le_refl _, S.pick [0, 1, 2, 3, 4, 10] (by decide)⟩
            refine Wa_take (i := 0) rfl (by kernel_rfl) rfl rfl _ rfl (fun w' h' => x_move rfl) D1 ?_
            refine Wa_take (i := 1) rfl (by kernel_rfl) rfl rfl _ rfl (fun w' h' => x_move rfl) D1 ?_
            refine Wa_take (i := 2) rfl (by kernel_rfl) rfl rfl _ rfl (fun w' h' => x_move rfl) D1 ?_
            obtain ⟨⟨p4497, p4498⟩, H⟩ := chkS H
            obtain ⟨b4499, o4500, cs4501, _, _, ee4506, hb4502, vs4503, hR4504, hc4505⟩ := SlW.at' hr1z p4497 p4498
            obtain rfl : vs4503 = _ := hR4504
            refine Wa_take (i := 3) rfl (by kernel_rfl) rfl rfl (.pointer (some ⟨b4499, o4500 + x2820.toNat * 8, none⟩)) rfl (fun w' h' => x_indexAddr Tryd.underlying24 ty39 (slA ee4506) rfl p4497 p4498) D1 ?_
            refine Wa_take (i := 4) rfl (by kernel_rfl) rfl rfl _ rfl (fun w' h' => x_fieldAddr (o := o4500 + x2820.toNat * 8) (off := 0) Tryd.underlying39 rfl ty3 rfl rfl) D1 ?_
            refine Wa_take (i := 5) rfl (by kernel_rfl) rfl rfl (.int .i64 ((rd a1 x2820).Task)) rfl (fun w' h' => x_load (cls_frz h' hb4502) ty3 rfl (hc4505 0 _ rfl)) D1 ?_
            refine Wa_take (i := 6) rfl (by kernel_rfl) rfl rfl _ rfl (fun w' h' => x_move rfl) D1 ?_
            refine Wa_take (i := 7) rfl (by kernel_rfl) rfl rfl _ rfl (fun w' h' => x_move rfl) D1 ?_
            obtain ⟨⟨p4507, p4508⟩, H⟩ := chkS H
            obtain ⟨b4509, o4510, cs4511, _, _, ee4516, hb4512, vs4513, hR4514, hc4515⟩ := SlW.at' hr1z p4507 p4508
            obtain rfl : vs4513 = _ := hR4514
            refine Wa_take (i := 8) rfl (by kernel_rfl) rfl rfl (.pointer (some ⟨b4509, o4510 + x2820.toNat * 8, none⟩)) rfl (fun w' h' => x_indexAddr Tryd.underlying24 ty39 (slA ee4516) rfl p4507 p4508) D1 ?_
            refine Wa_take (i := 9) rfl (by kernel_rfl) rfl rfl _ rfl (fun w' h' => x_fieldAddr (o := o4510 + x2820.toNat * 8) (off := 1) Tryd.underlying39 rfl ty37 rfl rfl) D1 ?_
            refine Wa_take (i := 10) rfl (by kernel_rfl) rfl rfl (.agg #[.int .u8 ((rd a1 x2820).Call.Kind), .int .i64 ((rd a1 x2820).Call.Tx), .string (bs ((rd a1 x2820).Call.Key)), .string (bs ((rd a1 x2820).Call.End)), .string (bs ((rd a1 x2820).Call.Value)), .int .i64 ((rd a1 x2820).Call.Limit), .int .u8 ((rd a1 x2820).Call.Engine)]) rfl (fun w' h' => x_loadA (cls_frz h' hb4512) ty37 rfl (sub_el hc4515 1 rfl) rfl rfl) D1 ?_
            obtain ⟨o4693, o4693h, o4693H⟩ := bindS H
            clear H
            refine Wa_join (fun ρ w' => ∃ (x4594 : Int) (x4595 : Bool) (x4596 : Str) (x4597 : List api_Pair) (x4601 : model_Model) (A4598 : Option Addr) (c4599 : Nat) (A4602 : Option Addr) (c4603 : Nat) (A4605 : Option Addr) (c4606 : Nat) (A4608 : Option Addr) (c4609 : Nat) (A4611 : Option Addr) (c4612 : Nat) (vs4614 : List (Str × Value)) (b4592 : Nat) (Mj : Hp), (x4594, x4595, x4596, x4597, x4601) = o4693 ∧ Agree ρ [(1, .slice A1 a1.length c1), (2, .pointer (some ⟨b1, 0, none⟩)), (5, .pointer (some ⟨b31, 0, none⟩)), (7, .int .i64 x2820), (8, .pointer (some ⟨b4212, 0, none⟩)), (9, .pointer (some ⟨b4592, 0, none⟩)), (51, .agg #[.int .i64 x4594, .bool x4595, .string (bs x4596), .slice A4598 x4597.length c4599])] ∧ M4229.le Mj ∧ Ext w w' ∧ St w' Mj F [Blk b4592 (.cells #[.int .i64 0, .bool false, .string (bs ([] : Str)), .slice none 0 0] 43 (0, 0)), MapC encS (fun v : Value => v) A4611 vs4614, Row r_model_tx 99 (.slice A4608 x4601.txs.length c4609) x4601.txs, MapC (Value.int .i64) (Value.int .i64) A4605 x4601.many, MapC enc_model_name (Value.int .i64) A4602 x4601.names, Row r_api_Pair 87 (.slice A4598 x4597.length c4599) x4597, B94 b31 x4601 A4602 A4605 A4608 c4609 A4611, B94 b4212 t4210 A4214 A4217 A4220 c4221 A4223, MapC enc_model_name (Value.int .i64) A4214 t4210.names, MapC (Value.int .i64) (Value.int .i64) A4217 t4210.many, Row r_model_tx 99 (.slice A4220 t4210.txs.length c4221) t4210.txs, MapC encS (fun v : Value => v) A4223 vs4226, B23 b1 a0] ∧ MRel r_model_row Mj x4601.rows vs4614) 1 (Ls 14 [0, 1, 2, 3, 4, 5, 6, 7, 8, 9, 10, 11, 12]) ?_ ?_
            rotate_left
            · intro hq4697
              clear o4693H
              refine Wa_join (fun ρ w' => ∃ (b4568 : Nat) (Mj : Hp), (Option.bind (model_Model_Do_POOOO k x2821 ((rd a1 x2820).Task) ((rd a1 x2820).Call)) (fun t4671 => some (t4671.1.Err, t4671.1.Found, t4671.1.Value, t4671.1.Pairs, t4671.2))) = some o4693 ∧ Agree ρ [(1, .slice A1 a1.length c1), (2, .pointer (some ⟨b1, 0, none⟩)), (5, .pointer (some ⟨b31, 0, none⟩)), (7, .int .i64 x2820), (8, .pointer (some ⟨b4212, 0, none⟩)), (9, .pointer (some ⟨b4568, 0, none⟩)), (40, .pointer (some ⟨b31, 0, none⟩)), (45, .int .i64 ((rd a1 x2820).Task)), (50, .agg #[.int .u8 ((rd a1 x2820).Call.Kind), .int .i64 ((rd a1 x2820).Call.Tx), .string (bs ((rd a1 x2820).Call.Key)), .string (bs ((rd a1 x2820).Call.End)), .string (bs ((rd a1 x2820).Call.Value)), .int .i64 ((rd a1 x2820).Call.Limit), .int .u8 ((rd a1 x2820).Call.Engine)])] ∧ M4229.le Mj ∧ Ext w w' ∧ St w' Mj F [Blk b4568 (.cells #[.int .i64 0, .bool false, .string (bs ([] : Str)), .slice none 0 0] 43 (0, 0)), B94 b4212 t4210 A4214 A4217 A4220 c4221 A4223, MapC enc_model_name (Value.int .i64) A4214 t4210.names, MapC (Value.int .i64) (Value.int .i64) A4217 t4210.many, Row r_model_tx 99 (.slice A4220 t4210.txs.length c4221) t4210.txs, MapC encS (fun v : Value => v) A4223 vs4226, B94 b31 x2821 A2822 A2825 A2828 c2829 A2831, MapC enc_model_name (Value.int .i64) A2822 x2821.names, MapC (Value.int .i64) (Value.int .i64) A2825 x2821.many, Row r_model_tx 99 (.slice A2828 x2821.txs.length c2829) x2821.txs, MapC encS (fun v : Value => v) A2831 vs2834, B23 b1 a0]) 2 (Ls 14 [0, 1, 2, 3, 4, 5, 6, 7, 8, 9, 10, 12]) ?_ ?_
              · clear o4693h
                rintro ρ w4698 ⟨b4568, M4699, H, hρ, hM4700, E, S⟩
                rw [agree_eta hρ]
                clear hρ
                replace hg0 : ∃ gt fr, _ := (let ⟨gt, fr, h8⟩ := hg0; ⟨gt, fr, hM4700 _ _ h8⟩)
                replace HM := Hp.le_trans HM hM4700
                replace hM4208 := Hp.le_trans hM4208 hM4700
                replace LE4494 := Hp.le_trans LE4494 hM4700
                replace hr1 := SlR.mono hr1 hM4700
                replace hm46 := MRel.mono hm46 hM4700
                replace hm2835 := MRel.mono hm2835 hM4700
                replace hm4227 := MRel.mono hm4227 hM4700
                have LE4701 := Hp.le_refl M4699
                refine Wa_solo (i := 11) rfl (by kernel_rfl) ?_
                obtain ⟨t4702, ht4703, H⟩ := bindS H
                replace S : St w4698 M4699 F [_, _, _, _, _, _, _, _, _, _, _, _] := S.pick [6, 7, 8, 9, 10, 0, 1, 2, 3, 4, 5, 11] (by decide)
                refine W_call fn15 (model_Model_Do_POOOO.con k M4699 A2822 c2823 A2825 c2826 A2828 c2829 A2831 c2832 vs2834 x2821 ((rd a1 x2820).Task) ((rd a1 x2820).Call) b31 t4702 hm2835 hg0 ht4703) (Γ1 := [_, _, _, _, _]) (Γ2 := [_, _, _, _, _, _, _]) S rfl rfl ?_
                rintro _ w4721 M4722 Γ' hM4723 E' S ⟨A4704, c4705, A4707, c4708, A4710, c4711, A4713, c4714, A4716, c4717, vs4719, rfl, hm4720, rfl⟩
                replace hg0 : ∃ gt fr, _ := (let ⟨gt, fr, h8⟩ := hg0; ⟨gt, fr, hM4723 _ _ h8⟩)
                replace HM := Hp.le_trans HM hM4723
                replace hM4208 := Hp.le_trans hM4208 hM4723
                replace hM4700 := Hp.le_trans hM4700 hM4723
                replace LE4701 := Hp.le_trans LE4701 hM4723
                replace hr1 := SlR.mono hr1 hM4723
                replace hm46 := MRel.mono hm46 hM4723
                replace hm2835 := MRel.mono hm2835 hM4723
                replace hm4227 := MRel.mono hm4227 hM4723
                replace E := E.trans E'
                clear E'
                replace S : St w4721 M4722 F [_, _, _, _, _, _, _, _, _, _, _, _, _] := S
                refine Wl_nil (on_n ⟨.inr ⟨M4722, hM4700, (S.pick [7, 8, 9, 10, 11, 12] (by decide))⟩, ?_⟩)
                exact hq4697 _ _ ⟨t4702.1.Err, t4702.1.Found, t4702.1.Value, t4702.1.Pairs, t4702.2, A4704, c4705, A4707, c4708, A4710, c4711, A4713, c4714, A4716, c4717, vs4719, b4568, M4722, Option.some.inj H, ⟨rfl, rfl, rfl, rfl, rfl, rfl, rfl, trivial⟩, hM4700, E, S.pick [6, 5, 4, 3, 2, 0, 1, 7, 8, 9, 10, 11, 12] (by decide), hm4720⟩
              intro hq4696
              refine Wa_join (fun ρ w' => ∃ (x4542 : Int) (x4543 : Bool) (x4544 : Str) (x4545 : List api_Pair) (x4549 : model_Model) (A4546 : Option Addr) (c4547 : Nat) (A4550 : Option Addr) (c4551 : Nat) (A4553 : Option Addr) (c4554 : Nat) (A4556 : Option Addr) (c4557 : Nat) (A4559 : Option Addr) (c4560 : Nat) (vs4562 : List (Str × Value)) (Mj : Hp), some (x4542, x4543, x4544, x4545, x4549) = some o4693 ∧ Agree ρ [(1, .slice A1 a1.length c1), (2, .pointer (some ⟨b1, 0, none⟩)), (5, .pointer (some ⟨b31, 0, none⟩)), (7, .int .i64 x2820), (8, .pointer (some ⟨b4212, 0, none⟩)), (51, .agg #[.int .i64 x4542, .bool x4543, .string (bs x4544), .slice A4546 x4545.length c4547])] ∧ M4229.le Mj ∧ Ext w w' ∧ St w' Mj F [MapC encS (fun v : Value => v) A4559 vs4562, Row r_model_tx 99 (.slice A4556 x4549.txs.length c4557) x4549.txs, MapC (Value.int .i64) (Value.int .i64) A4553 x4549.many, MapC enc_model_name (Value.int .i64) A4550 x4549.names, Row r_api_Pair 87 (.slice A4546 x4545.length c4547) x4545, B94 b31 x4549 A4550 A4553 A4556 c4557 A4559, B94 b4212 t4210 A4214 A4217 A4220 c4221 A4223, MapC enc_model_name (Value.int .i64) A4214 t4210.names, MapC (Value.int .i64) (Value.int .i64) A4217 t4210.many, Row r_model_tx 99 (.slice A4220 t4210.txs.length c4221) t4210.txs, MapC encS (fun v : Value => v) A4223 vs4226, B23 b1 a0] ∧ MRel r_model_row Mj x4549.rows vs4562) 2 (Ls 14 [0, 1, 2, 3, 4, 5, 6, 7, 8, 9, 10, 11]) ?_ ?_
              · clear o4693h
                rintro ρ w4724 ⟨x4542, x4543, x4544, x4545, x4549, A4546, c4547, A4550, c4551, A4553, c4554, A4556, c4557, A4559, c4560, vs4562, M4725, H, hρ, hM4726, E, S, hm4563⟩
                rw [agree_eta hρ]
                clear hρ
                replace hg0 : ∃ gt fr, _ := (let ⟨gt, fr, h8⟩ := hg0; ⟨gt, fr, hM4726 _ _ h8⟩)
                replace HM := Hp.le_trans HM hM4726
                replace hM4208 := Hp.le_trans hM4208 hM4726
                replace LE4494 := Hp.le_trans LE4494 hM4726
                replace hr1 := SlR.mono hr1 hM4726
                replace hm46 := MRel.mono hm46 hM4726
                replace hm2835 := MRel.mono hm2835 hM4726
                replace hm4227 := MRel.mono hm4227 hM4726
                have LE4727 := Hp.le_refl M4725
                refine Wa_solo (i := 12) rfl (by kernel_rfl) ?_
                refine W_alloc S #[.int .i64 0, .bool false, .string (bs ([] : Str)), .slice none 0 0] ty43 rfl rfl ?_
                intro b4728 w4729 E' S
                replace E := E.trans E'
                clear E'
                refine Wl_nil (on_n ⟨.inr ⟨M4725, hM4726, (S.pick [7, 8, 9, 10, 11, 12] (by decide))⟩, ?_⟩)
                exact hq4697 _ _ ⟨x4542, x4543, x4544, x4545, x4549, A4546, c4547, A4550, c4551, A4553, c4554, A4556, c4557, A4559, c4560, vs4562, b4728, M4725, Option.some.inj H, ⟨rfl, rfl, rfl, rfl, rfl, rfl, rfl, trivial⟩, hM4726, E, S.pick [0, 1, 2, 3, 4, 5, 6, 7, 8, 9, 10, 11, 12] (by decide), hm4563⟩
              intro hq4695
              have H := o4693h
              refine Wa_oneOf (rs := [11, 12]) (by kernel_rfl) (by decide) ?_
              simp only [List.forall_mem_cons, List.not_mem_nil, false_implies, implies_true, and_true]
              refine ⟨?_, ?_⟩
              · refine ⟨_, rfl, ?_⟩
                obtain ⟨t4731, ht4732, H⟩ := bindS H
                replace S : St w4495 M4229 F [_, _, _, _, _, _, _, _, _, _, _] := S.pick [5, 6, 7, 8, 9, 0, 1, 2, 3, 4, 10] (by decide)
                refine W_call fn15 (model_Model_Do_POOOO.con k M4229 A2822 c2823 A2825 c2826 A2828 c2829 A2831 c2832 vs2834 x2821 ((rd a1 x2820).Task) ((rd a1 x2820).Call) b31 t4731 hm2835 hg0 ht4732) (Γ1 := [_, _, _, _, _]) (Γ2 := [_, _, _, _, _, _]) S rfl rfl ?_
                rintro _ w4750 M4751 Γ' hM4752 E' S ⟨A4733, c4734, A4736, c4737, A4739, c4740, A4742, c4743, A4745, c4746, vs4748, rfl, hm4749, rfl⟩
                replace hg0 : ∃ gt fr, _ := (let ⟨gt, fr, h8⟩ := hg0; ⟨gt, fr, hM4752 _ _ h8⟩)
                replace HM := Hp.le_trans HM hM4752
                replace hM4208 := Hp.le_trans hM4208 hM4752
                replace LE4494 := Hp.le_trans LE4494 hM4752
                replace hr1 := SlR.mono hr1 hM4752
                replace hm46 := MRel.mono hm46 hM4752
                replace hm2835 := MRel.mono hm2835 hM4752
                replace hm4227 := MRel.mono hm4227 hM4752
                replace E := E.trans E'
                clear E'
                replace S : St w4750 M4751 F [_, _, _, _, _, _, _, _, _, _, _, _] := S
                refine Wl_nil (on_n ⟨.inr ⟨M4751, LE4494, (S.pick [6, 7, 8, 9, 10, 11] (by decide))⟩, ?_⟩)
                exact hq4695 _ _ ⟨t4731.1.Err, t4731.1.Found, t4731.1.Value, t4731.1.Pairs, t4731.2, A4733, c4734, A4736, c4737, A4739, c4740, A4742, c4743, A4745, c4746, vs4748, M4751, H, ⟨rfl, rfl, rfl, rfl, rfl, rfl, trivial⟩, LE4494, E, S.pick [5, 4, 3, 2, 0, 1, 6, 7, 8, 9, 10, 11] (by decide), hm4749⟩
              · refine ⟨_, rfl, ?_⟩
                refine W_alloc S #[.int .i64 0, .bool false, .string (bs ([] : Str)), .slice none 0 0] ty43 rfl rfl ?_
                intro b4753 w4754 E' S
                replace E := E.trans E'
                clear E'
                refine Wl_nil (on_n ⟨.inr ⟨M4229, Hp.le_refl M4229, (S.pick [1, 2, 3, 4, 5, 11] (by decide))⟩, ?_⟩)
                exact hq4696 _ _ ⟨b4753, M4229, H, ⟨rfl, rfl, rfl, rfl, rfl, rfl, rfl, rfl, rfl, trivial⟩, (Hp.le_refl M4229), E, S.pick [0, 1, 2, 3, 4, 5, 6, 7, 8, 9, 10, 11] (by decide)⟩
            clear o4693h
            rintro ρ w4756 ⟨x4594, x4595, x4596, x4597, x4601, A4598, c4599, A4602, c4603, A4605, c4606, A4608, c4609, A4611, c4612, vs4614, b4592, M4757, rfl, hρ, hM4758, E, S, hm4615⟩
            rw [agree_eta hρ]
            clear hρ
            replace hg0 : ∃ gt fr, _ := (let ⟨gt, fr, h8⟩ := hg0; ⟨gt, fr, hM4758 _ _ h8⟩)
            replace HM := Hp.le_trans HM hM4758
            replace hM4208 := Hp.le_trans hM4208 hM4758
            replace LE4494 := Hp.le_trans LE4494 hM4758
            replace hr1 := SlR.mono hr1 hM4758
            replace hm46 := MRel.mono hm46 hM4758
            replace hm2835 := MRel.mono hm2835 hM4758
            replace hm4227 := MRel.mono hm4227 hM4758
            have H := o4693H
            clear o4693H
            refine Wa_solo (i := 13) rfl (by kernel_rfl) ?_
            refine W_store S 0 rfl ty43 rfl rfl [.int .i64 x4594, .bool x4595, .string (bs x4596), .slice A4598 x4597.length c4599] rfl rfl rfl #[.int .i64 x4594, .bool x4595, .string (bs x4596), .slice A4598 x4597.length c4599] rfl rfl ?_
            intro w4759 E' S
            replace E := E.trans E'
            clear E'
            refine Wl_nil (on_n ⟨.inl (by decide), ?_⟩)
            refine Wa_done (by kernel_rfl) ?_
            refine tn ?_
            as_aux_lemma =>
            refine Wp_seq ?_
            refine Wp_seq ?_
            refine Wp_region_lit ?_
            refine W_v _ (x_fieldAddr (o := 0) (off := 0) Tryd.underlying43 rfl ty28 rfl rfl) rfl ?_
            refine W_v (.int .i64 x4594) (x_load (S.blk 0 rfl) ty28 rfl rfl) rfl ?_
            refine W_v (.bool (x4594 != (0 : Int))) (x_ibin rfl rfl rfl rfl) rfl ?_
            refine W_v _ (x_move rfl) rfl ?_
            refine Wl_cutN 4 (fun ρ w' => Agree ρ [(1, .slice A1 a1.length c1), (2, .pointer (some ⟨b1, 0, none⟩)), (5, .pointer (some ⟨b31, 0, none⟩)), (7, .int .i64 x2820), (8, .pointer (some ⟨b4212, 0, none⟩)), (9, .pointer (some ⟨b4592, 0, none⟩)), (59, .bool ((x4594 != (0 : Int)) && (x4594 != (35 : Int))))] ∧ w4759 = w') ?_ ?_
            · rcases boolCases (x4594 != (0 : Int)) with hb4760 | hb4760
              · skip
                refine W_no (skT hb4760) rfl ?_
                refine W_no (skT hb4760) rfl ?_
                refine W_no (skT hb4760) rfl ?_
                refine W_v _ (x_pick (k := false) (congrArg Value.bool hb4760) rfl) rfl ?_
                refine Wl_nil ?_
                exact ⟨⟨rfl, rfl, rfl, rfl, rfl, rfl, (by first | rfl | (rw [hb4760]; rfl) | (simp only [hb4760]; rfl)), trivial⟩, rfl⟩
              · skip
                refine W_yes (congrArg some hb4760) ?_
                refine W_v _ (x_fieldAddr (o := 0) (off := 0) Tryd.underlying43 rfl ty28 rfl rfl) rfl ?_
                refine W_yes (congrArg some hb4760) ?_
                refine W_v (.int .i64 x4594) (x_load (S.blk 0 rfl) ty28 rfl rfl) rfl ?_
                refine W_yes (congrArg some hb4760) ?_
                refine W_v (.bool (x4594 != (35 : Int))) (x_ibin rfl rfl rfl rfl) rfl ?_
                refine W_v _ (x_pick (k := true) (congrArg Value.bool hb4760) rfl) rfl ?_
                refine Wl_nil ?_
                exact ⟨⟨rfl, rfl, rfl, rfl, rfl, rfl, (by first | rfl | (rw [hb4760]; rfl) | (simp only [hb4760]; rfl)), trivial⟩, rfl⟩
            as_aux_lemma =>
            rintro ρ _ ⟨hρ, rfl⟩
            rw [agree_eta hρ]
            clear hρ
            refine W_v _ (x_move rfl) rfl ?_
            obtain ⟨o4773, o4773h, o4773H⟩ := bindS H
            clear H
            refine Wl_cutN 5 (fun ρ w' => ∃ (x4772 : Bool), (x4772) = o4773 ∧ Agree ρ [(1, .slice A1 a1.length c1), (2, .pointer (some ⟨b1, 0, none⟩)), (5, .pointer (some ⟨b31, 0, none⟩)), (7, .int .i64 x2820), (9, .pointer (some ⟨b4592, 0, none⟩)), (65, .bool x4772)] ∧ Ext w w' ∧ St w' M4757 F [B94 b31 x4601 A4602 A4605 A4608 c4609 A4611, MapC enc_model_name (Value.int .i64) A4602 x4601.names, MapC (Value.int .i64) (Value.int .i64) A4605 x4601.many, Row r_model_tx 99 (.slice A4608 x4601.txs.length c4609) x4601.txs, MapC encS (fun v : Value => v) A4611 vs4614, Blk b4592 (.cells #[.int .i64 x4594, .bool x4595, .string (bs x4596), .slice A4598 x4597.length c4599] 43 (0, 0)), Row r_api_Pair 87 (.slice A4598 x4597.length c4599) x4597, B23 b1 a0]) ?_ ?_
            · have H := o4773h
              rcases iteS H with ⟨hb4771, H⟩ | ⟨hb4771, H⟩
              · skip
                refine W_yes (congrArg some hb4771) ?_
                refine W_v _ (x_move rfl) rfl ?_
                refine W_yes (congrArg some hb4771) ?_
                refine W_v _ (x_move rfl) rfl ?_
                refine W_yes (congrArg some hb4771) ?_
                obtain ⟨t4774, ht4775, H⟩ := bindS H
                replace S : St w4759 M4757 F [_, _, _, _, _, _, _, _, _, _, _, _, _] := S.pick [7, 8, 9, 10, 11, 6, 4, 3, 2, 1, 0, 5, 12] (by decide)
                refine W_callF2 fn34 (ferrymanlaw16_same_POOOO_POOOO.con k M4757 A4214 c4215 A4217 c4218 A4220 c4221 A4223 c4224 vs4226 t4210 A4602 c4603 A4605 c4606 A4608 c4609 A4611 c4612 vs4614 x4601 b4212 b31 t4774 hm4227 hm4615 ht4775) (Γ1 := [_, _, _, _, _, _, _, _, _, _]) (Γ2 := [_, _, _]) S rfl rfl (by rintro _ _ _ ⟨rfl, rfl⟩; exact (flat_cons flat_blk (flat_cons flat_map (flat_cons flat_map (flat_cons (flat_row (fun _ _ _ _ h => h)) (flat_cons flat_map (flat_cons flat_blk (flat_cons flat_map (flat_cons flat_map (flat_cons (flat_row (fun _ _ _ _ h => h)) (flat_cons flat_map flat_nil))))))))))) ?_
                rintro _ w4776 _ Γ' E' S ⟨rfl, rfl⟩
                replace E := E.trans E'
                clear E'
                replace S : St w4776 M4757 F [_, _, _, _, _, _, _, _, _, _, _, _, _] := S
                refine W_yes (congrArg some hb4771) ?_
                refine W_v (.bool (!t4774)) (x_not rfl) rfl ?_
                refine W_v _ (x_pick (k := true) (congrArg Value.bool hb4771) rfl) rfl ?_
                refine Wl_nil ?_
                exact ⟨(!t4774), Option.some.inj H, ⟨rfl, rfl, rfl, rfl, rfl, rfl, trivial⟩, E, S.pick [5, 6, 7, 8, 9, 10, 11, 12] (by decide)⟩
              · skip
                refine W_no (skT hb4771) rfl ?_
                refine W_no (skT hb4771) rfl ?_
                refine W_no (skT hb4771) rfl ?_
                refine W_no (skT hb4771) rfl ?_
                refine W_v _ (x_pick (k := false) (congrArg Value.bool hb4771) rfl) rfl ?_
                refine Wl_nil ?_
                exact ⟨false, Option.some.inj H, ⟨rfl, rfl, rfl, rfl, rfl, rfl, trivial⟩, E, S.pick [6, 4, 3, 2, 1, 0, 5, 12] (by decide)⟩
            as_aux_lemma =>
            clear o4773h
            rintro ρ w4779 ⟨x4772, rfl, hρ, E, S⟩
            rw [agree_eta hρ]
            clear hρ
            have H := o4773H
            clear o4773H
            refine Wl_nil ?_
            refine tn ?_
            rcases iteS H with ⟨hb4780, H⟩ | ⟨hb4780, H⟩
            · refine Wp_cond_true (congrArg Value.bool hb4780) ?_
              refine Wp_seq ?_
              refine Wp_region_lit ?_
              refine W_v (.bool false) (x_assign rfl) rfl ?_
              refine Wl_nil ?_
              refine tn ?_
              refine Wp_ret ?_
              refine tr (br (tr (tr (br (tr (tr (?_)))))))
              obtain rfl := Option.some.inj H
              have H := o4205H
              replace H := elimL H
              obtain rfl := Option.some.inj H
              exact ⟨_, _, _, fun w1 e1 => run_resR (vs := [.bool false]) (FA.cons (rfl) (FA.nil)), HM, E, S.pick [] (by decide), ⟨rfl, rfl⟩⟩
            refine Wp_cond_false (congrArg Value.bool hb4780) ?_
            refine Wp_skip ?_
            refine tn ?_
            refine Wp_seq ?_
            refine Wp_region_lit ?_
            refine W_v _ (x_move rfl) rfl ?_
            obtain ⟨t4781, ht4782, H⟩ := bindS H
            refine W_callF2 fn27 (model_Model_Keys_POOOO.con k M4757 A4602 c4603 A4605 c4606 A4608 c4609 A4611 c4612 vs4614 x4601 b31 t4781 hm4615 ht4782) (Γ1 := [_, _, _, _, _]) (Γ2 := [_, _, _]) S rfl rfl (by rintro _ _ _ ⟨_, _, rfl, rfl⟩; exact (flat_cons (flat_row (fun _ _ _ _ h => h)) (flat_cons flat_blk (flat_cons flat_map (flat_cons flat_map (flat_cons (flat_row (fun _ _ _ _ h => h)) (flat_cons flat_map flat_nil))))))) ?_
            rintro _ w4786 _ Γ' E' S ⟨A4783, c4784, rfl, rfl⟩
            replace E := E.trans E'
            clear E'
            replace S : St w4786 M4757 F [_, _, _, _, _, _, _, _, _] := S
            refine W_v (.slice A4783 t4781.length c4784) (x_assign rfl) rfl ?_
            refine Wl_nil ?_
            refine tn ?_
            refine Wp_seq ?_
            refine Wp_region_lit ?_
            refine W_v (.int .i64 0) (x_assign rfl) rfl ?_
            refine Wl_nil ?_
            refine tn ?_
            refine Wp_seq ?_
            refine Wp_seq ?_
            refine Wp_region_lit ?_
            refine W_v (.int .i64 0) (x_assign rfl) rfl ?_
            refine Wl_nil ?_
            refine tn ?_
            obtain ⟨o5279, o5279h, o5279H⟩ := bindS H
            clear H
            refine Wp_blockJ (fun ρ w' => ∃ (x5278 : Int), .inr (x5278) = o5279 ∧ Agree ρ [(1, .slice A1 a1.length c1), (2, .pointer (some ⟨b1, 0, none⟩)), (5, .pointer (some ⟨b31, 0, none⟩)), (7, .int .i64 x2820), (10, .slice A4783 t4781.length c4784), (11, .int .i64 x5278)] ∧ Ext w w' ∧ St w' M4757 F [Row rStr 9 (.slice A4783 t4781.length c4784) t4781, B94 b31 x4601 A4602 A4605 A4608 c4609 A4611, MapC enc_model_name (Value.int .i64) A4602 x4601.names, MapC (Value.int .i64) (Value.int .i64) A4605 x4601.many, Row r_model_tx 99 (.slice A4608 x4601.txs.length c4609) x4601.txs, MapC encS (fun v : Value => v) A4611 vs4614, B23 b1 a0]) ?_ ?_
            · skip
              refine Wp_loop (fun n ρ w' => ∃ (x5115 : Int) (x5116 : Int), ferrymanlaw16_ModelMany_l18 a0 x4594 x4595 x4596 x4597 x4601 t4781 n x5115 x5116 = some o5279 ∧ Agree ρ [(1, .slice A1 a1.length c1), (2, .pointer (some ⟨b1, 0, none⟩)), (5, .pointer (some ⟨b31, 0, none⟩)), (7, .int .i64 x2820), (9, .pointer (some ⟨b4592, 0, none⟩)), (10, .slice A4783 t4781.length c4784), (11, .int .i64 x5115), (12, .int .i64 x5116)] ∧ Ext w w' ∧ St w' M4757 F [Row rStr 9 (.slice A4783 t4781.length c4784) t4781, B94 b31 x4601 A4602 A4605 A4608 c4609 A4611, MapC enc_model_name (Value.int .i64) A4602 x4601.names, MapC (Value.int .i64) (Value.int .i64) A4605 x4601.many, Row r_model_tx 99 (.slice A4608 x4601.txs.length c4609) x4601.txs, MapC encS (fun v : Value => v) A4611 vs4614, Blk b4592 (.cells #[.int .i64 x4594, .bool x4595, .string (bs x4596), .slice A4598 x4597.length c4599] 43 (0, 0)), Row r_api_Pair 87 (.slice A4598 x4597.length c4599) x4597, B23 b1 a0]) k ?_ ?_
              · skip
                exact ⟨(0 : Int), (0 : Int), o5279h, ⟨rfl, rfl, rfl, rfl, rfl, rfl, rfl, rfl, trivial⟩, E, S.pick [0, 1, 2, 3, 4, 5, 6, 7, 8] (by decide)⟩
              · intro n
                rintro ρ w5280 ⟨x5115, x5116, H, hρ, E, S⟩
                rw [agree_eta hρ]
                clear hρ
                cases n with
                | zero => cases H
                | succ k =>
                  rw [ferrymanlaw16_ModelMany_l18.eq_2] at H
                  refine Wp_seq ?_
                  refine Wp_seq ?_
                  refine Wp_region_lit ?_
                  refine W_v _ (x_move rfl) rfl ?_
                  refine W_v _ (x_move rfl) rfl ?_
                  refine W_v (.int .i64 (t4781.length : Int)) (x_len_slice (n := t4781.length) Tryd.underlying67 rfl) rfl ?_
                  refine W_v (.bool (decide (x5116 < (t4781.length : Int)))) (x_ibin rfl rfl rfl rfl) rfl ?_
                  refine Wl_nil ?_
                  refine tn ?_
                  rcases iteS H with ⟨hb5281, H⟩ | ⟨hb5281, H⟩
                  · refine Wp_cond_true (congrArg Value.bool hb5281) ?_
                    refine Wp_skip ?_
                    refine tn ?_
                    refine Wp_seq ?_
                    refine Wp_block ?_
                    refine Wp_seq ?_
                    refine Wp_region_lit ?_
                    refine W_v _ (x_move rfl) rfl ?_
                    refine W_v _ (x_move rfl) rfl ?_
                    refine W_v _ (x_move rfl) rfl ?_
                    obtain ⟨⟨p5282, p5283⟩, H⟩ := chkS H
                    obtain ⟨b5284, o5285, cs5286, _, _, ee5291, hb5287, vs5288, hR5289, hc5290⟩ := SlW.at' (S.row_read 0 rfl) p5282 p5283
                    obtain rfl : vs5288 = _ := hR5289
                    refine W_v (.pointer (some ⟨b5284, o5285 + x5116.toNat * 1, none⟩)) (x_indexAddr Tryd.underlying67 ty9 (slA ee5291) rfl p5282 p5283) rfl ?_
                    refine W_v (.string (bs (rd t4781 x5116))) (x_load (Hp.of_get hb5287) ty9 rfl (hc5290 0 _ rfl)) rfl ?_
                    obtain ⟨t5292, ht5293, H⟩ := bindS H
                    replace S : St w5280 M4757 F [_, _, _, _, _, _, _, _, _] := S.pick [1, 2, 3, 4, 5, 0, 6, 7, 8] (by decide)
                    refine W_callF2 fn26 (model_Model_Versions_POOOO.con k M4757 A4602 c4603 A4605 c4606 A4608 c4609 A4611 c4612 vs4614 x4601 (rd t4781 x5116) b31 t5292 hm4615 ht5293) (Γ1 := [_, _, _, _, _]) (Γ2 := [_, _, _, _]) S rfl rfl (by rintro _ _ _ ⟨_, _, rfl, rfl⟩; exact (flat_cons (flat_row (fun _ _ _ _ h => h)) (flat_cons flat_blk (flat_cons flat_map (flat_cons flat_map (flat_cons (flat_row (fun _ _ _ _ h => h)) (flat_cons flat_map flat_nil))))))) ?_
                    rintro _ w5297 _ Γ' E' S ⟨A5294, c5295, rfl, rfl⟩
                    replace E := E.trans E'
                    clear E'
                    replace S : St w5297 M4757 F [_, _, _, _, _, _, _, _, _, _] := S
                    refine W_v (.slice A5294 t5292.length c5295) (x_assign rfl) rfl ?_
                    refine Wl_nil ?_
                    refine tn ?_
                    refine Wp_seq ?_
                    refine Wp_region_lit ?_
                    refine W_v _ (x_move rfl) rfl ?_
                    refine W_v (.int .i64 (t5292.length : Int)) (x_len_slice (n := t5292.length) Tryd.underlying65 rfl) rfl ?_
                    refine W_v (.int .i64 (t5292.length : Int)) (x_assign rfl) rfl ?_
                    refine Wl_nil ?_
                    refine tn ?_
                    refine Wp_seq ?_
                    refine Wp_region_lit ?_
                    refine W_v _ (x_move rfl) rfl ?_
                    refine W_v _ (x_move rfl) rfl ?_
                    refine W_v _ (x_move rfl) rfl ?_
                    obtain ⟨⟨p5300, p5301⟩, H⟩ := chkS H
                    obtain ⟨b5302, o5303, cs5304, _, _, ee5309, hb5305, vs5306, hR5307, hc5308⟩ := SlW.at' (S.row_read 6 rfl) p5300 p5301
                    obtain rfl : vs5306 = _ := hR5307
                    refine W_v (.pointer (some ⟨b5302, o5303 + x5116.toNat * 1, none⟩)) (x_indexAddr Tryd.underlying67 ty9 (slA ee5309) rfl p5300 p5301) rfl ?_
                    refine W_v (.string (bs (rd t4781 x5116))) (x_load (Hp.of_get hb5305) ty9 rfl (hc5308 0 _ rfl)) rfl ?_
                    obtain ⟨t5310, ht5311, H⟩ := bindS H
                    replace S : St w5297 M4757 F [_, _, _, _, _, _, _, _, _, _] := S.pick [1, 2, 3, 4, 5, 0, 6, 7, 8, 9] (by decide)
                    refine W_callF2 fn24 (model_Model_Intent_POOOO.con k M4757 A4602 c4603 A4605 c4606 A4608 c4609 A4611 c4612 vs4614 x4601 (rd t4781 x5116) b31 t5310 hm4615 ht5311) (Γ1 := [_, _, _, _, _]) (Γ2 := [_, _, _, _, _]) S rfl rfl (by rintro _ _ _ ⟨rfl, rfl⟩; exact (flat_cons flat_blk (flat_cons flat_map (flat_cons flat_map (flat_cons (flat_row (fun _ _ _ _ h => h)) (flat_cons flat_map flat_nil)))))) ?_
                    rintro _ w5312 _ Γ' E' S ⟨rfl, rfl⟩
                    replace E := E.trans E'
                    clear E'
                    replace S : St w5312 M4757 F [_, _, _, _, _, _, _, _, _, _] := S
                    refine W_v _ (x_move rfl) rfl ?_
                    refine W_v (.agg #[.int .i64 t5310.1.Writer, .int .i64 t5310.1.TS, .bool t5310.1.Tomb, .string (bs t5310.1.Value)]) (x_extract rfl rfl) rfl ?_
                    refine W_v (.bool t5310.2) (x_extract rfl rfl) rfl ?_
                    refine W_alloc S #[.int .i64 0, .int .i64 0, .bool false, .string (bs ([] : Str))] ty61 rfl rfl ?_
                    intro b5315 w5316 E' S
                    replace E := E.trans E'
                    clear E'
                    refine W_store S 0 rfl ty61 rfl rfl [.int .i64 t5310.1.Writer, .int .i64 t5310.1.TS, .bool t5310.1.Tomb, .string (bs t5310.1.Value)] rfl rfl rfl #[.int .i64 t5310.1.Writer, .int .i64 t5310.1.TS, .bool t5310.1.Tomb, .string (bs t5310.1.Value)] rfl rfl ?_
                    intro w5318 E' S
                    replace E := E.trans E'
                    clear E'
                    refine W_v (.bool t5310.2) (x_assign rfl) rfl ?_
                    refine Wl_nil ?_
                    refine tn ?_
                    as_aux_lemma =>
                    refine Wp_seq ?_
                    refine Wp_seq ?_
                    refine Wp_region_lit ?_
                    refine W_v _ (x_move rfl) rfl ?_
                    refine Wl_nil ?_
                    refine tn ?_
                    obtain ⟨o5322, o5322h, o5322H⟩ := bindS H
                    refine Wp_cut (fun ρ w' => ∃ (x5321 : Int), (x5321) = o5322 ∧ Agree ρ [(1, .slice A1 a1.length c1), (2, .pointer (some ⟨b1, 0, none⟩)), (5, .pointer (some ⟨b31, 0, none⟩)), (7, .int .i64 x2820), (9, .pointer (some ⟨b4592, 0, none⟩)), (10, .slice A4783 t4781.length c4784), (11, .int .i64 x5115), (12, .int .i64 x5116), (13, .slice A5294 t5292.length c5295), (14, .int .i64 x5321)] ∧ Ext w w' ∧ St w' M4757 F [B94 b31 x4601 A4602 A4605 A4608 c4609 A4611, MapC enc_model_name (Value.int .i64) A4602 x4601.names, MapC (Value.int .i64) (Value.int .i64) A4605 x4601.many, Row r_model_tx 99 (.slice A4608 x4601.txs.length c4609) x4601.txs, MapC encS (fun v : Value => v) A4611 vs4614, Row r_api_Version 61 (.slice A5294 t5292.length c5295) t5292, Row rStr 9 (.slice A4783 t4781.length c4784) t4781, Blk b4592 (.cells #[.int .i64 x4594, .bool x4595, .string (bs x4596), .slice A4598 x4597.length c4599] 43 (0, 0)), Row r_api_Pair 87 (.slice A4598 x4597.length c4599) x4597, B23 b1 a0]) ?_ ?_
                    · clear o5322H
                      have H := o5322h
                      clear o5322h
                      rcases iteS H with ⟨hb5323, H⟩ | ⟨hb5323, H⟩
                      · refine Wp_cond_true (congrArg Value.bool hb5323) ?_
                        refine Wp_region_lit ?_
                        refine W_v _ (x_move rfl) rfl ?_
                        refine W_v (.int .i64 (IntKind.i64.wrap ((t5292.length : Int) + (1 : Int)))) (x_ibin rfl rfl rfl rfl) rfl ?_
                        refine W_v (.int .i64 (IntKind.i64.wrap ((t5292.length : Int) + (1 : Int)))) (x_assign rfl) rfl ?_
                        refine Wl_nil ?_
                        refine tn ?_
                        exact ⟨(IntKind.i64.wrap ((t5292.length : Int) + (1 : Int))), Option.some.inj H, ⟨rfl, rfl, rfl, rfl, rfl, rfl, rfl, rfl, rfl, rfl, trivial⟩, E, S.pick [1, 2, 3, 4, 5, 6, 7, 8, 9, 10] (by decide)⟩
                      refine Wp_cond_false (congrArg Value.bool hb5323) ?_
                      refine Wp_skip ?_
                      refine tn ?_
                      exact ⟨(t5292.length : Int), Option.some.inj H, ⟨rfl, rfl, rfl, rfl, rfl, rfl, rfl, rfl, rfl, rfl, trivial⟩, E, S.pick [1, 2, 3, 4, 5, 6, 7, 8, 9, 10] (by decide)⟩
                    as_aux_lemma =>
                    clear o5322h
                    rintro ρ w5324 ⟨x5321, rfl, hρ, E, S⟩
                    rw [agree_eta hρ]
                    clear hρ
                    have H := o5322H
                    clear o5322H
                    refine tn ?_
                    refine Wp_seq ?_
                    refine Wp_seq ?_
                    refine Wp_region_lit ?_
                    refine W_v _ (x_move rfl) rfl ?_
                    refine W_v (.bool (decide (x5321 < (1 : Int)))) (x_ibin rfl rfl rfl rfl) rfl ?_
                    refine W_v _ (x_move rfl) rfl ?_
                    refine Wl_cutN 5 (fun ρ w' => Agree ρ [(1, .slice A1 a1.length c1), (2, .pointer (some ⟨b1, 0, none⟩)), (5, .pointer (some ⟨b31, 0, none⟩)), (7, .int .i64 x2820), (9, .pointer (some ⟨b4592, 0, none⟩)), (10, .slice A4783 t4781.length c4784), (11, .int .i64 x5115), (12, .int .i64 x5116), (13, .slice A5294 t5292.length c5295), (14, .int .i64 x5321), (101, .bool ((decide (x5321 < (1 : Int))) || (decide (x5321 > a0.Depth))))] ∧ w5324 = w') ?_ ?_
                    · rcases boolCases (decide (x5321 < (1 : Int))) with hb5325 | hb5325
                      · skip
                        refine W_yes (congrArg some hb5325) ?_
                        refine W_v _ (x_move rfl) rfl ?_
                        refine W_yes (congrArg some hb5325) ?_
                        refine W_v _ (x_fieldAddr (o := 0) (off := 3) Tryd.underlying23 rfl ty3 rfl rfl) rfl ?_
                        refine W_yes (congrArg some hb5325) ?_
                        refine W_v (.int .i64 a0.Depth) (x_load (S.blk 9 rfl) ty3 rfl rfl) rfl ?_
                        refine W_yes (congrArg some hb5325) ?_
                        refine W_v (.bool (decide (x5321 > a0.Depth))) (x_ibin rfl rfl rfl rfl) rfl ?_
                        refine W_v _ (x_pick (k := false) (congrArg Value.bool hb5325) rfl) rfl ?_
                        refine Wl_nil ?_
                        exact ⟨⟨rfl, rfl, rfl, rfl, rfl, rfl, rfl, rfl, rfl, rfl, (by first | rfl | (rw [hb5325]; rfl) | (simp only [hb5325]; rfl)), trivial⟩, rfl⟩
                      · skip
                        refine W_no (skF hb5325) rfl ?_
                        refine W_no (skF hb5325) rfl ?_
                        refine W_no (skF hb5325) rfl ?_
                        refine W_no (skF hb5325) rfl ?_
                        refine W_v _ (x_pick (k := true) (congrArg Value.bool hb5325) rfl) rfl ?_
                        refine Wl_nil ?_
                        exact ⟨⟨rfl, rfl, rfl, rfl, rfl, rfl, rfl, rfl, rfl, rfl, (by first | rfl | (rw [hb5325]; rfl) | (simp only [hb5325]; rfl)), trivial⟩, rfl⟩
                    as_aux_lemma =>
                    rintro ρ _ ⟨hρ, rfl⟩
                    rw [agree_eta hρ]
                    clear hρ
                    refine W_v _ (x_move rfl) rfl ?_
                    obtain ⟨o5334, o5334h, o5334H⟩ := bindS H
                    clear H
                    refine Wl_cutN 5 (fun ρ w' => ∃ (x5333 : Bool), (x5333) = o5334 ∧ Agree ρ [(1, .slice A1 a1.length c1), (2, .pointer (some ⟨b1, 0, none⟩)), (5, .pointer (some ⟨b31, 0, none⟩)), (7, .int .i64 x2820), (9, .pointer (some ⟨b4592, 0, none⟩)), (10, .slice A4783 t4781.length c4784), (11, .int .i64 x5115), (12, .int .i64 x5116), (13, .slice A5294 t5292.length c5295), (14, .int .i64 x5321), (107, .bool x5333)] ∧ Ext w w' ∧ St w' M4757 F [B94 b31 x4601 A4602 A4605 A4608 c4609 A4611, MapC enc_model_name (Value.int .i64) A4602 x4601.names, MapC (Value.int .i64) (Value.int .i64) A4605 x4601.many, Row r_model_tx 99 (.slice A4608 x4601.txs.length c4609) x4601.txs, MapC encS (fun v : Value => v) A4611 vs4614, Row r_api_Version 61 (.slice A5294 t5292.length c5295) t5292, Row rStr 9 (.slice A4783 t4781.length c4784) t4781, Blk b4592 (.cells #[.int .i64 x4594, .bool x4595, .string (bs x4596), .slice A4598 x4597.length c4599] 43 (0, 0)), Row r_api_Pair 87 (.slice A4598 x4597.length c4599) x4597, B23 b1 a0]) ?_ ?_
                    · have H := o5334h
                      rcases iteS H with ⟨hb5332, H⟩ | ⟨hb5332, H⟩
                      · skip
                        refine W_no (skF hb5332) rfl ?_
                        refine W_no (skF hb5332) rfl ?_
                        refine W_no (skF hb5332) rfl ?_
                        refine W_no (skF hb5332) rfl ?_
                        refine W_v _ (x_pick (k := true) (congrArg Value.bool hb5332) rfl) rfl ?_
                        refine Wl_nil ?_
                        exact ⟨true, Option.some.inj H, ⟨rfl, rfl, rfl, rfl, rfl, rfl, rfl, rfl, rfl, rfl, rfl, trivial⟩, E, S.pick [0, 1, 2, 3, 4, 5, 6, 7, 8, 9] (by decide)⟩
                      · skip
                        refine W_yes (congrArg some hb5332) ?_
                        refine W_v (.agg #[.int .i64 x4594, .bool x4595, .string (bs x4596), .slice A4598 x4597.length c4599]) (x_loadA (S.blk 7 rfl) ty43 rfl (sub_of_extract rfl) rfl rfl) rfl ?_
                        refine W_yes (congrArg some hb5332) ?_
                        refine W_v (.agg #[.int .i64 x4594, .bool x4595, .string (bs x4596), .slice A4598 x4597.length c4599]) (x_loadA (S.blk 7 rfl) ty43 rfl (sub_of_extract rfl) rfl rfl) rfl ?_
                        refine W_yes (congrArg some hb5332) ?_
                        replace S : St w5324 M4757 F [_, _, _, _, _, _, _, _, _, _] := S.pick [8, 0, 1, 2, 3, 4, 5, 6, 7, 9] (by decide)
                        obtain ⟨t5335, ht5336, H⟩ := bindS H
                        refine W_callN 1 fn39 (fun h9 hs9 hd9 => model_Same.con k _ A4598 c4599 (⟨x4594, x4595, x4596, x4597⟩ : api_Answer) A4598 c4599 (⟨x4594, x4595, x4596, x4597⟩ : api_Answer) t5335 (Sats.row hs9 hd9 0 rfl) (Sats.row hs9 hd9 0 rfl) ht5336) S rfl rfl (by rintro _ _ _ ⟨_, rfl⟩; exact flat_nil) ?_
                        rintro _ w5337 _ Γ' E' S ⟨rfl, rfl⟩
                        replace E := E.trans E'
                        clear E'
                        refine W_yes (congrArg some hb5332) ?_
                        refine W_v (.bool (!t5335)) (x_not rfl) rfl ?_
                        refine W_v _ (x_pick (k := false) (congrArg Value.bool hb5332) rfl) rfl ?_
                        refine Wl_nil ?_
                        exact ⟨(!t5335), Option.some.inj H, ⟨rfl, rfl, rfl, rfl, rfl, rfl, rfl, rfl, rfl, rfl, rfl, trivial⟩, E, S.pick [1, 2, 3, 4, 5, 6, 7, 8, 0, 9] (by decide)⟩
                    as_aux_lemma =>
                    clear o5334h
                    rintro ρ w5338 ⟨x5333, rfl, hρ, E, S⟩
                    rw [agree_eta hρ]
                    clear hρ
                    have H := o5334H
                    clear o5334H
                    refine Wl_nil ?_
                    refine tn ?_
                    rcases iteS H with ⟨hb5339, H⟩ | ⟨hb5339, H⟩
                    · refine Wp_cond_true (congrArg Value.bool hb5339) ?_
                      refine Wp_seq ?_
                      refine Wp_region_lit ?_
                      refine W_v (.bool false) (x_assign rfl) rfl ?_
                      refine Wl_nil ?_
                      refine tn ?_
                      refine Wp_ret ?_
                      refine tr (br (tr (tr (br (tr (tr (br (tr (tr (br (tr (tr (?_)))))))))))))
                      obtain rfl := Option.some.inj H
                      have H := o5279H
                      replace H := elimL H
                      obtain rfl := Option.some.inj H
                      have H := o4205H
                      replace H := elimL H
                      obtain rfl := Option.some.inj H
                      exact ⟨_, _, _, fun w1 e1 => run_resR (vs := [.bool false]) (FA.cons (rfl) (FA.nil)), HM, E, S.pick [] (by decide), ⟨rfl, rfl⟩⟩
                    refine Wp_cond_false (congrArg Value.bool hb5339) ?_
                    refine Wp_skip ?_
                    refine tn ?_
                    refine Wp_seq ?_
                    refine Wp_seq ?_
                    refine Wp_region_lit ?_
                    refine W_v (.int .i64 1) (x_assign rfl) rfl ?_
                    refine Wl_nil ?_
                    refine tn ?_
                    obtain ⟨o5415, o5415h, o5415H⟩ := bindS H
                    clear H
                    refine Wp_blockJ (fun ρ w' => .inr () = o5415 ∧ Agree ρ [(1, .slice A1 a1.length c1), (2, .pointer (some ⟨b1, 0, none⟩)), (5, .pointer (some ⟨b31, 0, none⟩)), (7, .int .i64 x2820), (9, .pointer (some ⟨b4592, 0, none⟩)), (10, .slice A4783 t4781.length c4784), (11, .int .i64 x5115), (12, .int .i64 x5116), (14, .int .i64 x5321)] ∧ Ext w w' ∧ St w' M4757 F [B94 b31 x4601 A4602 A4605 A4608 c4609 A4611, MapC enc_model_name (Value.int .i64) A4602 x4601.names, MapC (Value.int .i64) (Value.int .i64) A4605 x4601.many, Row r_model_tx 99 (.slice A4608 x4601.txs.length c4609) x4601.txs, MapC encS (fun v : Value => v) A4611 vs4614, Row rStr 9 (.slice A4783 t4781.length c4784) t4781, Blk b4592 (.cells #[.int .i64 x4594, .bool x4595, .string (bs x4596), .slice A4598 x4597.length c4599] 43 (0, 0)), Row r_api_Pair 87 (.slice A4598 x4597.length c4599) x4597, B23 b1 a0]) ?_ ?_
                    · skip
                      refine Wp_loop (fun n ρ w' => ∃ (x5390 : Int), ferrymanlaw16_ModelMany_l20 t5292 n x5390 = some o5415 ∧ Agree ρ [(1, .slice A1 a1.length c1), (2, .pointer (some ⟨b1, 0, none⟩)), (5, .pointer (some ⟨b31, 0, none⟩)), (7, .int .i64 x2820), (9, .pointer (some ⟨b4592, 0, none⟩)), (10, .slice A4783 t4781.length c4784), (11, .int .i64 x5115), (12, .int .i64 x5116), (13, .slice A5294 t5292.length c5295), (14, .int .i64 x5321), (17, .int .i64 x5390)] ∧ Ext w w' ∧ St w' M4757 F [B94 b31 x4601 A4602 A4605 A4608 c4609 A4611, MapC enc_model_name (Value.int .i64) A4602 x4601.names, MapC (Value.int .i64) (Value.int .i64) A4605 x4601.many, Row r_model_tx 99 (.slice A4608 x4601.txs.length c4609) x4601.txs, MapC encS (fun v : Value => v) A4611 vs4614, Row r_api_Version 61 (.slice A5294 t5292.length c5295) t5292, Row rStr 9 (.slice A4783 t4781.length c4784) t4781, Blk b4592 (.cells #[.int .i64 x4594, .bool x4595, .string (bs x4596), .slice A4598 x4597.length c4599] 43 (0, 0)), Row r_api_Pair 87 (.slice A4598 x4597.length c4599) x4597, B23 b1 a0]) k ?_ ?_
                      · skip
                        exact ⟨(1 : Int), o5415h, ⟨rfl, rfl, rfl, rfl, rfl, rfl, rfl, rfl, rfl, rfl, rfl, trivial⟩, E, S.pick [0, 1, 2, 3, 4, 5, 6, 7, 8, 9] (by decide)⟩
                      · intro n
                        rintro ρ w5416 ⟨x5390, H, hρ, E, S⟩
                        rw [agree_eta hρ]
                        clear hρ
                        cases n with
                        | zero => cases H
                        | succ k =>
                          rw [ferrymanlaw16_ModelMany_l20.eq_2] at H
                          refine Wp_seq ?_
                          refine Wp_seq ?_
                          refine Wp_region_lit ?_
                          refine W_v _ (x_move rfl) rfl ?_
                          refine W_v _ (x_move rfl) rfl ?_
                          refine W_v (.int .i64 (t5292.length : Int)) (x_len_slice (n := t5292.length) Tryd.underlying65 rfl) rfl ?_
                          refine W_v (.bool (decide (x5390 < (t5292.length : Int)))) (x_ibin rfl rfl rfl rfl) rfl ?_
                          refine Wl_nil ?_
                          refine tn ?_
                          rcases iteS H with ⟨hb5417, H⟩ | ⟨hb5417, H⟩
                          · refine Wp_cond_true (congrArg Value.bool hb5417) ?_
                            refine Wp_skip ?_
                            refine tn ?_
                            refine Wp_seq ?_
                            refine Wp_block ?_
                            refine Wp_seq ?_
                            refine Wp_region_any (S := fun w' => ∃ Mx, M4757.le Mx ∧ St w' Mx F [B94 b31 x4601 A4602 A4605 A4608 c4609 A4611, MapC enc_model_name (Value.int .i64) A4602 x4601.names, MapC (Value.int .i64) (Value.int .i64) A4605 x4601.many, Row r_model_tx 99 (.slice A4608 x4601.txs.length c4609) x4601.txs, MapC encS (fun v : Value => v) A4611 vs4614, Row r_api_Version 61 (.slice A5294 t5292.length c5295) t5292, Row rStr 9 (.slice A4783 t4781.length c4784) t4781, Blk b4592 (.cells #[.int .i64 x4594, .bool x4595, .string (bs x4596), .slice A4598 x4597.length c4599] 43 (0, 0)), Row r_api_Pair 87 (.slice A4598 x4597.length c4599) x4597, B23 b1 a0]) (L := 12) mixed ?_
                            intro w5428 hw5429 E'
                            replace S := S.heap hw5429
                            replace E := E.trans E'
                            clear E'
                            have D2 : ∃ Mx, Hp.le M4757 Mx ∧ St _ Mx F [_, _, _, _, _, _, _, _, _, _] := ⟨_, Hp.le_refl _, S.pick [0, 1, 2, 3, 4, 5, 6, 7, 8, 9] (by decide)⟩
                            refine Wa_take (i := 0) rfl (by kernel_rfl) rfl rfl _ rfl (fun w' h' => x_move rfl) D2 ?_
                            refine Wa_take (i := 1) rfl (by kernel_rfl) rfl rfl _ rfl (fun w' h' => x_move rfl) D2 ?_
                            obtain ⟨⟨p5430, p5431⟩, H⟩ := chkS H
                            obtain ⟨b5432, o5433, _, _, _, ee5434, _⟩ := SlW.at' (S.row_read 5 rfl) p5430 p5431
                            refine Wa_take (i := 2) rfl (by kernel_rfl) rfl rfl (.pointer (some ⟨b5432, o5433 + x5390.toNat * 4, none⟩)) rfl (fun w' h' => x_indexAddr Tryd.underlying65 ty61 (slA ee5434) rfl p5430 p5431) D2 ?_
                            refine Wa_take (i := 3) rfl (by kernel_rfl) rfl rfl _ rfl (fun w' h' => x_fieldAddr (o := o5433 + x5390.toNat * 4) (off := 1) Tryd.underlying61 rfl ty3 rfl rfl) D2 ?_
                            refine Wa_take (i := 4) rfl (by kernel_rfl) rfl rfl (.int .i64 ((rd t5292 x5390).TS)) rfl (fun w' h' => x_load_cls h' 5 rfl ee5434 p5430 p5431 1 (by rintro _ _ rfl; rfl) ty3 rfl) D2 ?_
                            refine Wa_take (i := 5) rfl (by kernel_rfl) rfl rfl _ rfl (fun w' h' => x_move rfl) D2 ?_
                            refine Wa_take (i := 6) rfl (by kernel_rfl) rfl rfl _ rfl (fun w' h' => x_move rfl) D2 ?_
                            refine Wa_take (i := 7) rfl (by kernel_rfl) rfl rfl (.int .i64 (IntKind.i64.wrap (x5390 - (1 : Int)))) rfl (fun w' h' => x_ibin rfl rfl rfl rfl) D2 ?_
                            obtain ⟨⟨p5435, p5436⟩, H⟩ := chkS H
                            obtain ⟨b5437, o5438, _, _, _, ee5439, _⟩ := SlW.at' (S.row_read 5 rfl) p5435 p5436
                            refine Wa_take (i := 8) rfl (by kernel_rfl) rfl rfl (.pointer (some ⟨b5437, o5438 + (IntKind.i64.wrap (x5390 - (1 : Int))).toNat * 4, none⟩)) rfl (fun w' h' => x_indexAddr Tryd.underlying65 ty61 (slA ee5439) rfl p5435 p5436) D2 ?_
                            refine Wa_take (i := 9) rfl (by kernel_rfl) rfl rfl _ rfl (fun w' h' => x_fieldAddr (o := o5438 + (IntKind.i64.wrap (x5390 - (1 : Int))).toNat * 4) (off := 1) Tryd.underlying61 rfl ty3 rfl rfl) D2 ?_
                            refine Wa_take (i := 10) rfl (by kernel_rfl) rfl rfl (.int .i64 ((rd t5292 (IntKind.i64.wrap (x5390 - (1 : Int)))).TS)) rfl (fun w' h' => x_load_cls h' 5 rfl ee5439 p5435 p5436 1 (by rintro _ _ rfl; rfl) ty3 rfl) D2 ?_
                            refine Wa_take (i := 11) rfl (by kernel_rfl) rfl rfl (.bool (decide ((rd t5292 x5390).TS ≥ (rd t5292 (IntKind.i64.wrap (x5390 - (1 : Int)))).TS))) rfl (fun w' h' => x_ibin rfl rfl rfl rfl) D2 ?_
                            refine Wa_done (by kernel_rfl) ?_
                            refine tn ?_
                            rcases iteS H with ⟨hb5440, H⟩ | ⟨hb5440, H⟩
                            · refine Wp_cond_true (congrArg Value.bool hb5440) ?_
                              refine Wp_seq ?_
                              refine Wp_region_lit ?_
                              refine W_v (.bool false) (x_assign rfl) rfl ?_
                              refine Wl_nil ?_
                              refine tn ?_
                              refine Wp_ret ?_
                              refine br (tr (tr (br (tr (tr (br (tr (tr (br (tr (tr (br (tr (tr (br (tr (tr (?_))))))))))))))))))
                              obtain rfl := Option.some.inj H
                              have H := o5415H
                              replace H := elimL H
                              obtain rfl := Option.some.inj H
                              have H := o5279H
                              replace H := elimL H
                              obtain rfl := Option.some.inj H
                              have H := o4205H
                              replace H := elimL H
                              obtain rfl := Option.some.inj H
                              exact ⟨_, _, _, fun w1 e1 => run_resR (vs := [.bool false]) (FA.cons (rfl) (FA.nil)), HM, E, S.pick [] (by decide), ⟨rfl, rfl⟩⟩
                            refine Wp_cond_false (congrArg Value.bool hb5440) ?_
                            refine Wp_skip ?_
                            refine bn ?_
                            refine tn ?_
                            refine Wp_region_lit ?_
                            refine W_v _ (x_move rfl) rfl ?_
                            refine W_v (.int .i64 (IntKind.i64.wrap (x5390 + (1 : Int)))) (x_ibin rfl rfl rfl rfl) rfl ?_
                            refine W_v (.int .i64 (IntKind.i64.wrap (x5390 + (1 : Int)))) (x_assign rfl) rfl ?_
                            refine Wl_nil ?_
                            refine tn ?_
                            exact ⟨k, Nat.lt_succ_self k, ⟨(IntKind.i64.wrap (x5390 + (1 : Int))), H, ⟨rfl, rfl, rfl, rfl, rfl, rfl, rfl, rfl, rfl, rfl, rfl, trivial⟩, E, S.pick [0, 1, 2, 3, 4, 5, 6, 7, 8, 9] (by decide)⟩⟩
                          refine Wp_cond_false (congrArg Value.bool hb5417) ?_
                          refine Wp_exit ?_
                          refine tx (tx (bsm (?_)))
                          refine tn ?_
                          exact ⟨Option.some.inj H, ⟨rfl, rfl, rfl, rfl, rfl, rfl, rfl, rfl, rfl, trivial⟩, E, S.pick [0, 1, 2, 3, 4, 6, 7, 8, 9] (by decide)⟩
                    clear o5415h
                    rintro ρ w5441 ⟨rfl, hρ, E, S⟩
                    rw [agree_eta hρ]
                    clear hρ
                    have H := o5415H
                    clear o5415H
                    replace H := elimR H
                    refine tn ?_
                    refine Wp_region_lit ?_
                    refine W_v _ (x_move rfl) rfl ?_
                    refine W_v _ (x_move rfl) rfl ?_
                    refine W_v (.int .i64 (IntKind.i64.wrap (x5115 + x5321))) (x_ibin rfl rfl rfl rfl) rfl ?_
                    refine W_v (.int .i64 (IntKind.i64.wrap (x5115 + x5321))) (x_assign rfl) rfl ?_
                    refine Wl_nil ?_
                    refine bn ?_
                    refine tn ?_
                    refine Wp_region_lit ?_
                    refine W_v _ (x_move rfl) rfl ?_
                    refine W_v (.int .i64 (IntKind.i64.wrap (x5116 + (1 : Int)))) (x_ibin rfl rfl rfl rfl) rfl ?_
                    refine W_v (.int .i64 (IntKind.i64.wrap (x5116 + (1 : Int)))) (x_assign rfl) rfl ?_
                    refine Wl_nil ?_
                    refine tn ?_
                    exact ⟨k, Nat.lt_succ_self k, ⟨(IntKind.i64.wrap (x5115 + x5321)), (IntKind.i64.wrap (x5116 + (1 : Int))), H, ⟨rfl, rfl, rfl, rfl, rfl, rfl, rfl, rfl, trivial⟩, E, S.pick [5, 0, 1, 2, 3, 4, 6, 7, 8] (by decide)⟩⟩
                  refine Wp_cond_false (congrArg Value.bool hb5281) ?_
                  refine Wp_exit ?_
                  refine tx (tx (bsm (?_)))
                  refine tn ?_
                  exact ⟨x5115, Option.some.inj H, ⟨rfl, rfl, rfl, rfl, rfl, rfl, trivial⟩, E, S.pick [0, 1, 2, 3, 4, 5, 8] (by decide)⟩
            clear o5279h
            rintro ρ w5442 ⟨x5278, rfl, hρ, E, S⟩
            rw [agree_eta hρ]
            clear hρ
            have H := o5279H
            clear o5279H
            replace H := elimR H
            refine tn ?_
            as_aux_lemma =>
            refine Wp_seq ?_
            refine Wp_region_any (S := fun w' => ∃ Mx, M4757.le Mx ∧ St w' Mx F [Row rStr 9 (.slice A4783 t4781.length c4784) t4781, B94 b31 x4601 A4602 A4605 A4608 c4609 A4611, MapC enc_model_name (Value.int .i64) A4602 x4601.names, MapC (Value.int .i64) (Value.int .i64) A4605 x4601.many, Row r_model_tx 99 (.slice A4608 x4601.txs.length c4609) x4601.txs, MapC encS (fun v : Value => v) A4611 vs4614, B23 b1 a0]) (L := 32) mixed ?_
            intro w5509 hw5510 E'
            replace S := S.heap hw5510
            replace E := E.trans E'
            clear E'
            have D3 : ∃ Mx, Hp.le M4757 Mx ∧ St _ Mx F [_, _, _, _, _, _, _] := ⟨_, Hp.le_refl _, S.pick [0, 1, 2, 3, 4, 5, 6] (by decide)⟩
            refine Wa_take (i := 0) rfl (by kernel_rfl) rfl rfl _ rfl (fun w' h' => x_move rfl) D3 ?_
            refine Wa_take (i := 1) rfl (by kernel_rfl) rfl rfl (.int .i64 (t4781.length : Int)) rfl (fun w' h' => x_len_slice (n := t4781.length) Tryd.underlying67 rfl) D3 ?_
            refine Wa_take (i := 2) rfl (by kernel_rfl) rfl rfl _ rfl (fun w' h' => x_fieldAddr (o := 0) (off := 2) Tryd.underlying23 rfl ty3 rfl rfl) D3 ?_
            refine Wa_take (i := 3) rfl (by kernel_rfl) rfl rfl (.int .i64 a0.Keys) rfl (fun w' h' => x_load (cls_blk h' 6 rfl) ty3 rfl rfl) D3 ?_
            refine Wa_take (i := 4) rfl (by kernel_rfl) rfl rfl (.bool (decide ((t4781.length : Int) > a0.Keys))) rfl (fun w' h' => x_ibin rfl rfl rfl rfl) D3 ?_
            refine Wa_take (i := 5) rfl (by kernel_rfl) rfl rfl _ rfl (fun w' h' => x_move rfl) D3 ?_
            obtain ⟨o5518, o5518h, o5518H⟩ := bindS H
            clear H
            refine Wa_join (fun ρ w' => ∃ (x5517 : Bool), (x5517) = o5518 ∧ Agree ρ [(1, .slice A1 a1.length c1), (2, .pointer (some ⟨b1, 0, none⟩)), (5, .pointer (some ⟨b31, 0, none⟩)), (7, .int .i64 x2820), (139, .bool x5517)] ∧ Ext w w' ∧ St w' M4757 F [Row rStr 9 (.slice A4783 t4781.length c4784) t4781, B94 b31 x4601 A4602 A4605 A4608 c4609 A4611, MapC enc_model_name (Value.int .i64) A4602 x4601.names, MapC (Value.int .i64) (Value.int .i64) A4605 x4601.many, Row r_model_tx 99 (.slice A4608 x4601.txs.length c4609) x4601.txs, MapC encS (fun v : Value => v) A4611 vs4614, B23 b1 a0]) 21 (Ls 32 [0, 1, 2, 3, 4, 5, 6, 7, 8, 9, 10]) ?_ ?_
            rotate_left
            · intro hrest
              have H := o5518h
              clear o5518h o5518H
              rcases iteS H with ⟨hb5516, H⟩ | ⟨hb5516, H⟩
              · skip
                have D4 : ∃ Mx, Hp.le M4757 Mx ∧ St _ Mx F [_, _, _, _, _, _, _] := ⟨_, Hp.le_refl _, S.pick [0, 1, 2, 3, 4, 5, 6] (by decide)⟩
                refine Wa_takeN (i := 6) rfl (by kernel_rfl) rfl rfl rfl (skF hb5516) D4 ?_
                refine Wa_takeN (i := 7) rfl (by kernel_rfl) rfl rfl rfl (skF hb5516) D4 ?_
                refine Wa_takeN (i := 8) rfl (by kernel_rfl) rfl rfl rfl (skF hb5516) D4 ?_
                refine Wa_takeN (i := 9) rfl (by kernel_rfl) rfl rfl rfl (skF hb5516) D4 ?_
                refine Wa_take (i := 10) rfl (by kernel_rfl) rfl rfl _ rfl (fun w' h' => x_pick (k := true) (congrArg Value.bool hb5516) rfl) D4 ?_
                exact hrest _ _ ⟨true, Option.some.inj H, ⟨rfl, rfl, rfl, rfl, rfl, trivial⟩, E, S.pick [0, 1, 2, 3, 4, 5, 6] (by decide)⟩
              · skip
                have D5 : ∃ Mx, Hp.le M4757 Mx ∧ St _ Mx F [_, _, _, _, _, _, _] := ⟨_, Hp.le_refl _, S.pick [0, 1, 2, 3, 4, 5, 6] (by decide)⟩
                refine Wa_takeY (i := 6) rfl (by kernel_rfl) rfl rfl _ rfl (congrArg some hb5516) (fun w' h' => x_move rfl) D5 ?_
                refine Wa_takeY (i := 7) rfl (by kernel_rfl) rfl rfl _ rfl (congrArg some hb5516) (fun w' h' => x_move rfl) D5 ?_
                refine Wa_solo (i := 8) rfl (by kernel_rfl) ?_
                refine W_yes (congrArg some hb5516) ?_
                obtain ⟨t5519, ht5520, H⟩ := bindS H
                replace S : St w5509 M4757 F [_, _, _, _, _, _, _] := S.pick [1, 2, 3, 4, 5, 0, 6] (by decide)
                refine W_callF2 fn22 (model_Model_Retained_POOOO.con k M4757 A4602 c4603 A4605 c4606 A4608 c4609 A4611 c4612 vs4614 x4601 b31 t5519 hm4615 ht5520) (Γ1 := [_, _, _, _, _]) (Γ2 := [_, _]) S rfl rfl (by rintro _ _ _ ⟨rfl, rfl⟩; exact (flat_cons flat_blk (flat_cons flat_map (flat_cons flat_map (flat_cons (flat_row (fun _ _ _ _ h => h)) (flat_cons flat_map flat_nil)))))) ?_
                rintro _ w5521 _ Γ' E' S ⟨rfl, rfl⟩
                replace E := E.trans E'
                clear E'
                replace S : St w5521 M4757 F [_, _, _, _, _, _, _] := S
                refine Wl_nil (on_n ⟨.inr ⟨M4757, Hp.le_refl M4757, (S.pick [5, 0, 1, 2, 3, 4, 6] (by decide))⟩, ?_⟩)
                have D6 : ∃ Mx, Hp.le M4757 Mx ∧ St _ Mx F [_, _, _, _, _, _, _] := ⟨_, Hp.le_refl _, S.pick [5, 0, 1, 2, 3, 4, 6] (by decide)⟩
                refine Wa_takeY (i := 9) rfl (by kernel_rfl) rfl rfl (.bool (x5278 != t5519)) rfl (congrArg some hb5516) (fun w' h' => x_ibin rfl rfl rfl rfl) D6 ?_
                refine Wa_take (i := 10) rfl (by kernel_rfl) rfl rfl _ rfl (fun w' h' => x_pick (k := false) (congrArg Value.bool hb5516) rfl) D6 ?_
                exact hrest _ _ ⟨(x5278 != t5519), Option.some.inj H, ⟨rfl, rfl, rfl, rfl, rfl, trivial⟩, E, S.pick [5, 0, 1, 2, 3, 4, 6] (by decide)⟩
            clear o5518h
            rintro ρ w5524 ⟨x5517, rfl, hρ, E, S⟩
            rw [agree_eta hρ]
            clear hρ
            have H := o5518H
            clear o5518H
            refine Wa_take (i := 11) rfl (by kernel_rfl) rfl rfl _ rfl (fun w' h' => x_move rfl) (⟨M4757, Hp.le_refl M4757, (S.pick [0, 1, 2, 3, 4, 5, 6] (by decide))⟩) ?_
            obtain ⟨o5532, o5532h, o5532H⟩ := bindS H
            clear H
            refine Wa_join (fun ρ w' => ∃ (x5531 : Bool), (x5531) = o5532 ∧ Agree ρ [(1, .slice A1 a1.length c1), (2, .pointer (some ⟨b1, 0, none⟩)), (5, .pointer (some ⟨b31, 0, none⟩)), (7, .int .i64 x2820), (146, .bool x5531)] ∧ Ext w w' ∧ St w' M4757 F [Row rStr 9 (.slice A4783 t4781.length c4784) t4781, B94 b31 x4601 A4602 A4605 A4608 c4609 A4611, MapC enc_model_name (Value.int .i64) A4602 x4601.names, MapC (Value.int .i64) (Value.int .i64) A4605 x4601.many, Row r_model_tx 99 (.slice A4608 x4601.txs.length c4609) x4601.txs, MapC encS (fun v : Value => v) A4611 vs4614, B23 b1 a0]) 14 (Ls 32 [0, 1, 2, 3, 4, 5, 6, 7, 8, 9, 10, 11, 12, 13, 14, 15, 16, 17]) ?_ ?_
            rotate_left
            · intro hrest
              have H := o5532h
              clear o5532h o5532H
              rcases iteS H with ⟨hb5530, H⟩ | ⟨hb5530, H⟩
              · skip
                have D8 : ∃ Mx, Hp.le M4757 Mx ∧ St _ Mx F [_, _, _, _, _, _, _] := ⟨_, Hp.le_refl _, S.pick [0, 1, 2, 3, 4, 5, 6] (by decide)⟩
                refine Wa_takeN (i := 12) rfl (by kernel_rfl) rfl rfl rfl (skF hb5530) D8 ?_
                refine Wa_takeN (i := 13) rfl (by kernel_rfl) rfl rfl rfl (skF hb5530) D8 ?_
                refine Wa_takeN (i := 14) rfl (by kernel_rfl) rfl rfl rfl (skF hb5530) D8 ?_
                refine Wa_takeN (i := 15) rfl (by kernel_rfl) rfl rfl rfl (skF hb5530) D8 ?_
                refine Wa_takeN (i := 16) rfl (by kernel_rfl) rfl rfl rfl (skF hb5530) D8 ?_
                refine Wa_take (i := 17) rfl (by kernel_rfl) rfl rfl _ rfl (fun w' h' => x_pick (k := true) (congrArg Value.bool hb5530) rfl) D8 ?_
                exact hrest _ _ ⟨true, Option.some.inj H, ⟨rfl, rfl, rfl, rfl, rfl, trivial⟩, E, S.pick [0, 1, 2, 3, 4, 5, 6] (by decide)⟩
              · skip
                have D9 : ∃ Mx, Hp.le M4757 Mx ∧ St _ Mx F [_, _, _, _, _, _, _] := ⟨_, Hp.le_refl _, S.pick [0, 1, 2, 3, 4, 5, 6] (by decide)⟩
                refine Wa_takeY (i := 12) rfl (by kernel_rfl) rfl rfl _ rfl (congrArg some hb5530) (fun w' h' => x_move rfl) D9 ?_
                refine Wa_takeY (i := 14) rfl (by kernel_rfl) rfl rfl _ rfl (congrArg some hb5530) (fun w' h' => x_fieldAddr (o := 0) (off := 1) Tryd.underlying23 rfl ty3 rfl rfl) D9 ?_
                refine Wa_takeY (i := 15) rfl (by kernel_rfl) rfl rfl (.int .i64 a0.Active) rfl (congrArg some hb5530) (fun w' h' => x_load (cls_blk h' 6 rfl) ty3 rfl rfl) D9 ?_
                refine Wa_solo (i := 13) rfl (by kernel_rfl) ?_
                refine W_yes (congrArg some hb5530) ?_
                obtain ⟨t5533, ht5534, H⟩ := bindS H
                replace S : St w5524 M4757 F [_, _, _, _, _, _, _] := S.pick [1, 2, 3, 4, 5, 0, 6] (by decide)
                refine W_callF2 fn21 (model_Model_Active_POOOO.con k M4757 A4602 c4603 A4605 c4606 A4608 c4609 A4611 c4612 vs4614 x4601 b31 t5533 hm4615 ht5534) (Γ1 := [_, _, _, _, _]) (Γ2 := [_, _]) S rfl rfl (by rintro _ _ _ ⟨rfl, rfl⟩; exact (flat_cons flat_blk (flat_cons flat_map (flat_cons flat_map (flat_cons (flat_row (fun _ _ _ _ h => h)) (flat_cons flat_map flat_nil)))))) ?_
                rintro _ w5535 _ Γ' E' S ⟨rfl, rfl⟩
                replace E := E.trans E'
                clear E'
                replace S : St w5535 M4757 F [_, _, _, _, _, _, _] := S
                refine Wl_nil (on_n ⟨.inr ⟨M4757, Hp.le_refl M4757, (S.pick [5, 0, 1, 2, 3, 4, 6] (by decide))⟩, ?_⟩)
                have D10 : ∃ Mx, Hp.le M4757 Mx ∧ St _ Mx F [_, _, _, _, _, _, _] := ⟨_, Hp.le_refl _, S.pick [5, 0, 1, 2, 3, 4, 6] (by decide)⟩
                refine Wa_takeY (i := 16) rfl (by kernel_rfl) rfl rfl (.bool (decide (t5533 > a0.Active))) rfl (congrArg some hb5530) (fun w' h' => x_ibin rfl rfl rfl rfl) D10 ?_
                refine Wa_take (i := 17) rfl (by kernel_rfl) rfl rfl _ rfl (fun w' h' => x_pick (k := false) (congrArg Value.bool hb5530) rfl) D10 ?_
                exact hrest _ _ ⟨(decide (t5533 > a0.Active)), Option.some.inj H, ⟨rfl, rfl, rfl, rfl, rfl, trivial⟩, E, S.pick [5, 0, 1, 2, 3, 4, 6] (by decide)⟩
            clear o5532h
            rintro ρ w5538 ⟨x5531, rfl, hρ, E, S⟩
            rw [agree_eta hρ]
            clear hρ
            have H := o5532H
            clear o5532H
            refine Wa_take (i := 18) rfl (by kernel_rfl) rfl rfl _ rfl (fun w' h' => x_move rfl) (⟨M4757, Hp.le_refl M4757, (S.pick [0, 1, 2, 3, 4, 5, 6] (by decide))⟩) ?_
            obtain ⟨o5546, o5546h, o5546H⟩ := bindS H
            clear H
            refine Wa_join (fun ρ w' => ∃ (x5545 : Bool), (x5545) = o5546 ∧ Agree ρ [(1, .slice A1 a1.length c1), (2, .pointer (some ⟨b1, 0, none⟩)), (5, .pointer (some ⟨b31, 0, none⟩)), (7, .int .i64 x2820), (153, .bool x5545)] ∧ Ext w w' ∧ St w' M4757 F [Row rStr 9 (.slice A4783 t4781.length c4784) t4781, B94 b31 x4601 A4602 A4605 A4608 c4609 A4611, MapC enc_model_name (Value.int .i64) A4602 x4601.names, MapC (Value.int .i64) (Value.int .i64) A4605 x4601.many, Row r_model_tx 99 (.slice A4608 x4601.txs.length c4609) x4601.txs, MapC encS (fun v : Value => v) A4611 vs4614, B23 b1 a0]) 7 (Ls 32 [0, 1, 2, 3, 4, 5, 6, 7, 8, 9, 10, 11, 12, 13, 14, 15, 16, 17, 18, 19, 20, 21, 22, 23, 24]) ?_ ?_
            rotate_left
            · intro hrest
              have H := o5546h
              clear o5546h o5546H
              rcases iteS H with ⟨hb5544, H⟩ | ⟨hb5544, H⟩
              · skip
                have D12 : ∃ Mx, Hp.le M4757 Mx ∧ St _ Mx F [_, _, _, _, _, _, _] := ⟨_, Hp.le_refl _, S.pick [0, 1, 2, 3, 4, 5, 6] (by decide)⟩
                refine Wa_takeN (i := 19) rfl (by kernel_rfl) rfl rfl rfl (skF hb5544) D12 ?_
                refine Wa_takeN (i := 20) rfl (by kernel_rfl) rfl rfl rfl (skF hb5544) D12 ?_
                refine Wa_takeN (i := 21) rfl (by kernel_rfl) rfl rfl rfl (skF hb5544) D12 ?_
                refine Wa_takeN (i := 22) rfl (by kernel_rfl) rfl rfl rfl (skF hb5544) D12 ?_
                refine Wa_takeN (i := 23) rfl (by kernel_rfl) rfl rfl rfl (skF hb5544) D12 ?_
                refine Wa_take (i := 24) rfl (by kernel_rfl) rfl rfl _ rfl (fun w' h' => x_pick (k := true) (congrArg Value.bool hb5544) rfl) D12 ?_
                exact hrest _ _ ⟨true, Option.some.inj H, ⟨rfl, rfl, rfl, rfl, rfl, trivial⟩, E, S.pick [0, 1, 2, 3, 4, 5, 6] (by decide)⟩
              · skip
                have D13 : ∃ Mx, Hp.le M4757 Mx ∧ St _ Mx F [_, _, _, _, _, _, _] := ⟨_, Hp.le_refl _, S.pick [0, 1, 2, 3, 4, 5, 6] (by decide)⟩
                refine Wa_takeY (i := 19) rfl (by kernel_rfl) rfl rfl _ rfl (congrArg some hb5544) (fun w' h' => x_move rfl) D13 ?_
                refine Wa_takeY (i := 21) rfl (by kernel_rfl) rfl rfl _ rfl (congrArg some hb5544) (fun w' h' => x_fieldAddr (o := 0) (off := 4) Tryd.underlying23 rfl ty3 rfl rfl) D13 ?_
                refine Wa_takeY (i := 22) rfl (by kernel_rfl) rfl rfl (.int .i64 a0.TS) rfl (congrArg some hb5544) (fun w' h' => x_load (cls_blk h' 6 rfl) ty3 rfl rfl) D13 ?_
                refine Wa_solo (i := 20) rfl (by kernel_rfl) ?_
                refine W_yes (congrArg some hb5544) ?_
                obtain ⟨t5547, ht5548, H⟩ := bindS H
                replace S : St w5538 M4757 F [_, _, _, _, _, _, _] := S.pick [1, 2, 3, 4, 5, 0, 6] (by decide)
                refine W_callF2 fn19 (model_Model_Clock_POOOO.con k M4757 A4602 c4603 A4605 c4606 A4608 c4609 A4611 c4612 vs4614 x4601 b31 t5547 hm4615 ht5548) (Γ1 := [_, _, _, _, _]) (Γ2 := [_, _]) S rfl rfl (by rintro _ _ _ ⟨rfl, rfl⟩; exact (flat_cons flat_blk (flat_cons flat_map (flat_cons flat_map (flat_cons (flat_row (fun _ _ _ _ h => h)) (flat_cons flat_map flat_nil)))))) ?_
                rintro _ w5549 _ Γ' E' S ⟨rfl, rfl⟩
                replace E := E.trans E'
                clear E'
                replace S : St w5549 M4757 F [_, _, _, _, _, _, _] := S
                refine Wl_nil (on_n ⟨.inr ⟨M4757, Hp.le_refl M4757, (S.pick [5, 0, 1, 2, 3, 4, 6] (by decide))⟩, ?_⟩)
                have D14 : ∃ Mx, Hp.le M4757 Mx ∧ St _ Mx F [_, _, _, _, _, _, _] := ⟨_, Hp.le_refl _, S.pick [5, 0, 1, 2, 3, 4, 6] (by decide)⟩
                refine Wa_takeY (i := 23) rfl (by kernel_rfl) rfl rfl (.bool (decide (t5547 > a0.TS))) rfl (congrArg some hb5544) (fun w' h' => x_ibin rfl rfl rfl rfl) D14 ?_
                refine Wa_take (i := 24) rfl (by kernel_rfl) rfl rfl _ rfl (fun w' h' => x_pick (k := false) (congrArg Value.bool hb5544) rfl) D14 ?_
                exact hrest _ _ ⟨(decide (t5547 > a0.TS)), Option.some.inj H, ⟨rfl, rfl, rfl, rfl, rfl, trivial⟩, E, S.pick [5, 0, 1, 2, 3, 4, 6] (by decide)⟩
            clear o5546h
            rintro ρ w5552 ⟨x5545, rfl, hρ, E, S⟩
            rw [agree_eta hρ]
            clear hρ
            have H := o5546H
            clear o5546H
            refine Wa_take (i := 25) rfl (by kernel_rfl) rfl rfl _ rfl (fun w' h' => x_move rfl) (⟨M4757, Hp.le_refl M4757, (S.pick [0, 1, 2, 3, 4, 5, 6] (by decide))⟩) ?_
            obtain ⟨o5565, o5565h, o5565H⟩ := bindS H
            clear H
            refine Wa_join (fun ρ w' => ∃ (x5564 : Bool), (x5564) = o5565 ∧ Agree ρ [(1, .slice A1 a1.length c1), (2, .pointer (some ⟨b1, 0, none⟩)), (5, .pointer (some ⟨b31, 0, none⟩)), (7, .int .i64 x2820), (160, .bool x5564)] ∧ Ext w w' ∧ St w' M4757 F [Row rStr 9 (.slice A4783 t4781.length c4784) t4781, B94 b31 x4601 A4602 A4605 A4608 c4609 A4611, MapC enc_model_name (Value.int .i64) A4602 x4601.names, MapC (Value.int .i64) (Value.int .i64) A4605 x4601.many, Row r_model_tx 99 (.slice A4608 x4601.txs.length c4609) x4601.txs, MapC encS (fun v : Value => v) A4611 vs4614, B23 b1 a0]) 0 (Ls 32 [0, 1, 2, 3, 4, 5, 6, 7, 8, 9, 10, 11, 12, 13, 14, 15, 16, 17, 18, 19, 20, 21, 22, 23, 24, 25, 26, 27, 28, 29, 30, 31]) ?_ ?_
            rotate_left
            · intro hrest
              have H := o5565h
              clear o5565h o5565H
              rcases iteS H with ⟨hb5563, H⟩ | ⟨hb5563, H⟩
              · skip
                have D16 : ∃ Mx, Hp.le M4757 Mx ∧ St _ Mx F [_, _, _, _, _, _, _] := ⟨_, Hp.le_refl _, S.pick [0, 1, 2, 3, 4, 5, 6] (by decide)⟩
                refine Wa_takeN (i := 26) rfl (by kernel_rfl) rfl rfl rfl (skF hb5563) D16 ?_
                refine Wa_takeN (i := 27) rfl (by kernel_rfl) rfl rfl rfl (skF hb5563) D16 ?_
                refine Wa_takeN (i := 28) rfl (by kernel_rfl) rfl rfl rfl (skF hb5563) D16 ?_
                refine Wa_takeN (i := 29) rfl (by kernel_rfl) rfl rfl rfl (skF hb5563) D16 ?_
                refine Wa_takeN (i := 30) rfl (by kernel_rfl) rfl rfl rfl (skF hb5563) D16 ?_
                refine Wa_take (i := 31) rfl (by kernel_rfl) rfl rfl _ rfl (fun w' h' => x_pick (k := true) (congrArg Value.bool hb5563) rfl) D16 ?_
                exact hrest _ _ ⟨true, Option.some.inj H, ⟨rfl, rfl, rfl, rfl, rfl, trivial⟩, E, S.pick [0, 1, 2, 3, 4, 5, 6] (by decide)⟩
              · skip
                have D17 : ∃ Mx, Hp.le M4757 Mx ∧ St _ Mx F [_, _, _, _, _, _, _] := ⟨_, Hp.le_refl _, S.pick [0, 1, 2, 3, 4, 5, 6] (by decide)⟩
                refine Wa_takeY (i := 26) rfl (by kernel_rfl) rfl rfl _ rfl (congrArg some hb5563) (fun w' h' => x_move rfl) D17 ?_
                refine Wa_takeY (i := 28) rfl (by kernel_rfl) rfl rfl _ rfl (congrArg some hb5563) (fun w' h' => x_move rfl) D17 ?_
                refine Wa_solo (i := 27) rfl (by kernel_rfl) ?_
                refine W_yes (congrArg some hb5563) ?_
                obtain ⟨t5566, ht5567, H⟩ := bindS H
                replace S : St w5552 M4757 F [_, _, _, _, _, _, _] := S.pick [1, 2, 3, 4, 5, 0, 6] (by decide)
                refine W_callF2 fn28 (model_Model_Floor_POOOO.con k M4757 A4602 c4603 A4605 c4606 A4608 c4609 A4611 c4612 vs4614 x4601 b31 t5566 hm4615 ht5567) (Γ1 := [_, _, _, _, _]) (Γ2 := [_, _]) S rfl rfl (by rintro _ _ _ ⟨rfl, rfl⟩; exact (flat_cons flat_blk (flat_cons flat_map (flat_cons flat_map (flat_cons (flat_row (fun _ _ _ _ h => h)) (flat_cons flat_map flat_nil)))))) ?_
                rintro _ w5568 _ Γ' E' S ⟨rfl, rfl⟩
                replace E := E.trans E'
                clear E'
                replace S : St w5568 M4757 F [_, _, _, _, _, _, _] := S
                refine Wl_nil (on_n ⟨.inr ⟨M4757, Hp.le_refl M4757, (S.pick [5, 0, 1, 2, 3, 4, 6] (by decide))⟩, ?_⟩)
                refine Wa_solo (i := 29) rfl (by kernel_rfl) ?_
                refine W_yes (congrArg some hb5563) ?_
                obtain ⟨t5571, ht5572, H⟩ := bindS H
                refine W_callF2 fn19 (model_Model_Clock_POOOO.con k M4757 A4602 c4603 A4605 c4606 A4608 c4609 A4611 c4612 vs4614 x4601 b31 t5571 hm4615 ht5572) (Γ1 := [_, _, _, _, _]) (Γ2 := [_, _]) S rfl rfl (by rintro _ _ _ ⟨rfl, rfl⟩; exact (flat_cons flat_blk (flat_cons flat_map (flat_cons flat_map (flat_cons (flat_row (fun _ _ _ _ h => h)) (flat_cons flat_map flat_nil)))))) ?_
                rintro _ w5573 _ Γ' E' S ⟨rfl, rfl⟩
                replace E := E.trans E'
                clear E'
                replace S : St w5573 M4757 F [_, _, _, _, _, _, _] := S
                refine Wl_nil (on_n ⟨.inr ⟨M4757, Hp.le_refl M4757, (S.pick [5, 0, 1, 2, 3, 4, 6] (by decide))⟩, ?_⟩)
                have D18 : ∃ Mx, Hp.le M4757 Mx ∧ St _ Mx F [_, _, _, _, _, _, _] := ⟨_, Hp.le_refl _, S.pick [5, 0, 1, 2, 3, 4, 6] (by decide)⟩
                refine Wa_takeY (i := 30) rfl (by kernel_rfl) rfl rfl (.bool (decide (t5566 > t5571))) rfl (congrArg some hb5563) (fun w' h' => x_ibin rfl rfl rfl rfl) D18 ?_
                refine Wa_take (i := 31) rfl (by kernel_rfl) rfl rfl _ rfl (fun w' h' => x_pick (k := false) (congrArg Value.bool hb5563) rfl) D18 ?_
                exact hrest _ _ ⟨(decide (t5566 > t5571)), Option.some.inj H, ⟨rfl, rfl, rfl, rfl, rfl, trivial⟩, E, S.pick [5, 0, 1, 2, 3, 4, 6] (by decide)⟩
            clear o5565h
            rintro ρ w5576 ⟨x5564, rfl, hρ, E, S⟩
            rw [agree_eta hρ]
            clear hρ
            have H := o5565H
            clear o5565H
            refine Wa_done (by kernel_rfl) ?_
            refine tn ?_
            rcases iteS H with ⟨hb5577, H⟩ | ⟨hb5577, H⟩
            · refine Wp_cond_true (congrArg Value.bool hb5577) ?_
              refine Wp_seq ?_
              refine Wp_region_lit ?_
              refine W_v (.bool false) (x_assign rfl) rfl ?_
              refine Wl_nil ?_
              refine tn ?_
              refine Wp_ret ?_
              refine br (tr (tr (br (tr (tr (?_))))))
              obtain rfl := Option.some.inj H
              have H := o4205H
              replace H := elimL H
              obtain rfl := Option.some.inj H
              exact ⟨_, _, _, fun w1 e1 => run_resR (vs := [.bool false]) (FA.cons (rfl) (FA.nil)), HM, E, S.pick [] (by decide), ⟨rfl, rfl⟩⟩
            refine Wp_cond_false (congrArg Value.bool hb5577) ?_
            refine Wp_skip ?_
            refine bn ?_
            refine tn ?_
            refine Wp_region_lit ?_
            refine W_v _ (x_move rfl) rfl ?_
            refine W_v (.int .i64 (IntKind.i64.wrap (x2820 + (1 : Int)))) (x_ibin rfl rfl rfl rfl) rfl ?_
            refine W_v (.int .i64 (IntKind.i64.wrap (x2820 + (1 : Int)))) (x_assign rfl) rfl ?_
            refine Wl_nil ?_
            refine tn ?_
            exact ⟨k, Nat.lt_succ_self k, ⟨(IntKind.i64.wrap (x2820 + (1 : Int))), x4601, A4602, c4603, A4605, c4606, A4608, c4609, A4611, c4612, vs4614, M4757, H, ⟨rfl, rfl, rfl, rfl, trivial⟩, hM4208, E, S.pick [5, 4, 3, 2, 1, 6] (by decide), hm4615⟩⟩
          refine Wp_cond_false (congrArg Value.bool hb4209) ?_
          refine Wp_exit ?_
          refine tx (tx (bsm (?_)))
          refine tn ?_
          exact ⟨M4207, Option.some.inj H, trivial, hM4208, E, S.pick [] (by decide)⟩
    clear o4205h
    rintro ρ w5578 ⟨M5579, rfl, hρ, hM5580, E, S⟩
    rw [agree_eta hρ]
    clear hρ
    replace hg0 : ∃ gt fr, _ := (let ⟨gt, fr, h8⟩ := hg0; ⟨gt, fr, hM5580 _ _ h8⟩)
    replace HM := Hp.le_trans HM hM5580
    replace hr1 := SlR.mono hr1 hM5580
    replace hm46 := MRel.mono hm46 hM5580
    have H := o4205H
    clear o4205H
    replace H := elimR H
    refine tn ?_
    as_aux_lemma =>
    refine Wp_seq ?_
    refine Wp_region_lit ?_
    refine W_v (.bool true) (x_assign rfl) rfl ?_
    refine Wl_nil ?_
    refine tn ?_
    refine Wp_ret ?_
    obtain rfl := Option.some.inj H
    exact ⟨_, _, _, fun w1 e1 => run_resR (vs := [.bool true]) (FA.cons (rfl) (FA.nil)), HM, E, S.pick [] (by decide), ⟨rfl, rfl⟩⟩
end Go.Proofs.YtcngjjlhdlbogaaDoor
