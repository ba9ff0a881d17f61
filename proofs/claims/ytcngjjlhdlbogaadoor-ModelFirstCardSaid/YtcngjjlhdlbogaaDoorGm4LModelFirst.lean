import Derived.Test.YtcngjjlhdlbogaaDoorGm4B
import Derived.Test.YtcngjjlhdlbogaaDoorGm4P0
import Derived.Test.YtcngjjlhdlbogaaDoorGm4P2
import Derived.Test.YtcngjjlhdlbogaaDoorGm4P3
import Derived.Test.YtcngjjlhdlbogaaDoorGm4P4
namespace Go.Proofs.YtcngjjlhdlbogaaDoor
open Go
set_option linter.unusedVariables false
set_option linter.unusedSimpArgs false
def ferrymanlaw16_ModelFirst_l65 (x815 : List ferrymanlaw16_life) (x4799 : Int) (x10338 : Int) (x11813 : Int) : Nat → Int → Option ((Bool) ⊕ (Unit))
  | 0, _ => none
  | k + 1, x12090 => (if (decide (x12090 < (((rd x815 x10338).writes).length : Int))) = true then (if 0 ≤ x11813 ∧ x11813 < (((rd x815 x4799).writes).length : Int) then (if 0 ≤ x12090 ∧ x12090 < (((rd x815 x10338).writes).length : Int) then (if (sbin .eql ((rd ((rd x815 x4799).writes) x11813).key) ((rd ((rd x815 x10338).writes) x12090).key)) = true then some (.inl false) else ferrymanlaw16_ModelFirst_l65 x815 x4799 x10338 x11813 k (IntKind.i64.wrap (x12090 + (1 : Int)))) else none) else none) else some (.inr ()))
set_option maxHeartbeats 2000000 in
theorem ferrymanlaw16_ModelFirst_l65.mono {x815 : List ferrymanlaw16_life} {x4799 : Int} {x10338 : Int} {x11813 : Int} : ∀ {kl : Nat} {x0}, OLe (ferrymanlaw16_ModelFirst_l65 x815 x4799 x10338 x11813 kl x0) (ferrymanlaw16_ModelFirst_l65 x815 x4799 x10338 x11813 (kl + 1) x0) := by
  intro kl
  induction kl with
  | zero => intros; exact OLe.none
  | succ kl ih =>
    intros
    rw [ferrymanlaw16_ModelFirst_l65.eq_2, ferrymanlaw16_ModelFirst_l65.eq_2]
    repeat' (first | with_reducible exact OLe.none | with_reducible exact OLe.some | with_reducible refine OLe.ite ?_ ?_ | with_reducible refine OLe.bind ?_ (fun _ => ?_) | exact ih | refine OLe.bind ?_ (fun _ => ?_) | refine OLe.ite ?_ ?_ | refine OLe.elim (fun _ => ?_) (fun _ => ?_) | split)
def ferrymanlaw16_ModelFirst_l63 (x815 : List ferrymanlaw16_life) (x4799 : Int) (x10338 : Int) : Nat → Int → Option ((Bool) ⊕ (Unit))
  | 0, _ => none
  | k + 1, x11813 => (if (decide (x11813 < (((rd x815 x4799).writes).length : Int))) = true then (Option.bind (ferrymanlaw16_ModelFirst_l65 x815 x4799 x10338 x11813 k (0 : Int)) (fun o12135o => Sum.elim (fun r' => some (.inl r')) (fun _ => ferrymanlaw16_ModelFirst_l63 x815 x4799 x10338 k (IntKind.i64.wrap (x11813 + (1 : Int)))) o12135o)) else some (.inr ()))
set_option maxHeartbeats 2000000 in
theorem ferrymanlaw16_ModelFirst_l63.mono {x815 : List ferrymanlaw16_life} {x4799 : Int} {x10338 : Int} : ∀ {kl : Nat} {x0}, OLe (ferrymanlaw16_ModelFirst_l63 x815 x4799 x10338 kl x0) (ferrymanlaw16_ModelFirst_l63 x815 x4799 x10338 (kl + 1) x0) := by
  intro kl
  induction kl with
  | zero => intros; exact OLe.none
  | succ kl ih =>
    intros
    rw [ferrymanlaw16_ModelFirst_l63.eq_2, ferrymanlaw16_ModelFirst_l63.eq_2]
    repeat' (first | with_reducible exact OLe.none | with_reducible exact OLe.some | with_reducible refine OLe.ite ?_ ?_ | with_reducible refine OLe.bind ?_ (fun _ => ?_) | with_reducible exact ferrymanlaw16_ModelFirst_l65.mono | exact ih | refine OLe.bind ?_ (fun _ => ?_) | refine OLe.ite ?_ ?_ | refine OLe.elim (fun _ => ?_) (fun _ => ?_) | split)
def ferrymanlaw16_ModelFirst_l55 (x815 : List ferrymanlaw16_life) (x4799 : Int) : Nat → Int → Option ((Bool) ⊕ (Unit))
  | 0, _ => none
  | k + 1, x10338 => (if (decide (x10338 < x4799)) = true then (if 0 ≤ x4799 ∧ x4799 < (x815.length : Int) then (if 0 ≤ x10338 ∧ x10338 < (x815.length : Int) then (Option.bind (α := Unit) (some ()) (fun _ => (if (((((rd x815 x4799).over == (0 : Int)) || ((rd x815 x10338).over == (0 : Int))) || (decide ((rd x815 x4799).begun > (rd x815 x10338).over))) || (decide ((rd x815 x10338).begun > (rd x815 x4799).over))) = true then ferrymanlaw16_ModelFirst_l55 x815 x4799 k (IntKind.i64.wrap (x10338 + (1 : Int))) else (Option.bind (ferrymanlaw16_ModelFirst_l63 x815 x4799 x10338 k (0 : Int)) (fun o11997o => Sum.elim (fun r' => some (.inl r')) (fun _ => ferrymanlaw16_ModelFirst_l55 x815 x4799 k (IntKind.i64.wrap (x10338 + (1 : Int)))) o11997o))))) else none) else none) else some (.inr ()))
set_option maxHeartbeats 2000000 in
theorem ferrymanlaw16_ModelFirst_l55.mono {x815 : List ferrymanlaw16_life} {x4799 : Int} : ∀ {kl : Nat} {x0}, OLe (ferrymanlaw16_ModelFirst_l55 x815 x4799 kl x0) (ferrymanlaw16_ModelFirst_l55 x815 x4799 (kl + 1) x0) := by
  intro kl
  induction kl with
  | zero => intros; exact OLe.none
  | succ kl ih =>
    intros
    rw [ferrymanlaw16_ModelFirst_l55.eq_2, ferrymanlaw16_ModelFirst_l55.eq_2]
    repeat' (first | with_reducible exact OLe.none | with_reducible exact OLe.some | with_reducible refine OLe.ite ?_ ?_ | with_reducible refine OLe.bind ?_ (fun _ => ?_) | with_reducible exact ferrymanlaw16_ModelFirst_l63.mono | exact ih | refine OLe.bind ?_ (fun _ => ?_) | refine OLe.ite ?_ ?_ | refine OLe.elim (fun _ => ?_) (fun _ => ?_) | split)
def ferrymanlaw16_ModelFirst_l23 (x815 : List ferrymanlaw16_life) : Nat → Int → Option ((Bool) ⊕ (Unit))
  | 0, _ => none
  | k + 1, x4799 => (if (decide (x4799 < (x815.length : Int))) = true then (Option.bind (ferrymanlaw16_ModelFirst_l55 x815 x4799 k (0 : Int)) (fun o11260o => Sum.elim (fun r' => some (.inl r')) (fun _ => ferrymanlaw16_ModelFirst_l23 x815 k (IntKind.i64.wrap (x4799 + (1 : Int)))) o11260o)) else some (.inr ()))
set_option maxHeartbeats 2000000 in
theorem ferrymanlaw16_ModelFirst_l23.mono {x815 : List ferrymanlaw16_life} : ∀ {kl : Nat} {x0}, OLe (ferrymanlaw16_ModelFirst_l23 x815 kl x0) (ferrymanlaw16_ModelFirst_l23 x815 (kl + 1) x0) := by
  intro kl
  induction kl with
  | zero => intros; exact OLe.none
  | succ kl ih =>
    intros
    rw [ferrymanlaw16_ModelFirst_l23.eq_2, ferrymanlaw16_ModelFirst_l23.eq_2]
    repeat' (first | with_reducible exact OLe.none | with_reducible exact OLe.some | with_reducible refine OLe.ite ?_ ?_ | with_reducible refine OLe.bind ?_ (fun _ => ?_) | with_reducible exact ferrymanlaw16_ModelFirst_l55.mono | exact ih | refine OLe.bind ?_ (fun _ => ?_) | refine OLe.ite ?_ ?_ | refine OLe.elim (fun _ => ?_) (fun _ => ?_) | split)
def ferrymanlaw16_ModelFirst_l0 (a1 : (List ferrymanlaw16_Turn)) : Nat → Int → Int → List ferrymanlaw16_fact → List ferrymanlaw16_life → model_Model → Option ((Int × List ferrymanlaw16_fact × List ferrymanlaw16_life))
  | 0, _, _, _, _, _ => none
  | k + 1, x514, x515, x516, x520, x524 => (if (decide (x514 < (a1.length : Int))) = true then (if 0 ≤ x514 ∧ x514 < (a1.length : Int) then (if 0 ≤ x514 ∧ x514 < (a1.length : Int) then (if 0 ≤ x514 ∧ x514 < (a1.length : Int) then (Option.bind (model_Model_Do_POOOO k x524 ((rd a1 x514).Task) ((rd a1 x514).Call)) (fun t1060 => (Option.bind (ferrymanlaw16_log_note_POO k (⟨x515, x516, x520⟩ : ferrymanlaw16_log) (IntKind.i64.wrap (x514 + (1 : Int))) (rd a1 x514) t1060.1) (fun t1085 => ferrymanlaw16_ModelFirst_l0 a1 k (IntKind.i64.wrap (x514 + (1 : Int))) t1085.time t1085.facts t1085.lives t1060.2)))) else none) else none) else none) else some (x515, x516, x520))
set_option maxHeartbeats 2000000 in
theorem ferrymanlaw16_ModelFirst_l0.mono {a1 : (List ferrymanlaw16_Turn)} : ∀ {kl : Nat} {x0 x1 x2 x3 x4}, OLe (ferrymanlaw16_ModelFirst_l0 a1 kl x0 x1 x2 x3 x4) (ferrymanlaw16_ModelFirst_l0 a1 (kl + 1) x0 x1 x2 x3 x4) := by
  intro kl
  induction kl with
  | zero => intros; exact OLe.none
  | succ kl ih =>
    intros
    rw [ferrymanlaw16_ModelFirst_l0.eq_2, ferrymanlaw16_ModelFirst_l0.eq_2]
    repeat' (first | with_reducible exact OLe.none | with_reducible exact OLe.some | with_reducible refine OLe.ite ?_ ?_ | with_reducible refine OLe.bind ?_ (fun _ => ?_) | with_reducible exact ferrymanlaw16_log_note_POO.mono | with_reducible exact model_Model_Do_POOOO.mono | exact ih | refine OLe.bind ?_ (fun _ => ?_) | refine OLe.ite ?_ ?_ | refine OLe.elim (fun _ => ?_) (fun _ => ?_) | split)
def ferrymanlaw16_ModelFirst (k : Nat) (a0 : api_Config) (a1 : (List ferrymanlaw16_Turn)) : Option (Bool) :=
  (Option.bind (ferrymanlaw16_works k ) (fun t4 => (Option.bind (α := Bool) (if (!t4) = true then some (true) else (Option.bind (ferrymanlaw16_large k a1) (fun t16 => some (t16)))) (fun x14 => (if x14 = true then (Option.bind (ferrymanlaw16_works k ) (fun t21 => some t21)) else (Option.bind (model_New_v k a0) (fun t24 => (Sum.elim (fun t26 => some true) (fun t27 => (Option.bind (ferrymanlaw16_ModelFirst_l0 a1 k (0 : Int) (0 : Int) ([] : List ferrymanlaw16_fact) ([] : List ferrymanlaw16_life) t27) (fun ⟨x810, x811, x815⟩ => (Option.bind (ferrymanlaw16_ModelFirst_l23 x815 k (0 : Int)) (fun o8491o => Sum.elim (fun r' => some r') (fun _ => some true) o8491o)))))) t24)))))))
set_option maxHeartbeats 2000000 in
theorem ferrymanlaw16_ModelFirst.mono {k : Nat} {a0 : api_Config} {a1 : (List ferrymanlaw16_Turn)} : OLe (ferrymanlaw16_ModelFirst k a0 a1) (ferrymanlaw16_ModelFirst (k + 1) a0 a1) := by
  unfold ferrymanlaw16_ModelFirst
  repeat' (first | with_reducible exact OLe.none | with_reducible exact OLe.some | with_reducible refine OLe.ite ?_ ?_ | with_reducible refine OLe.bind ?_ (fun _ => ?_) | with_reducible exact ferrymanlaw16_ModelFirst_l0.mono | with_reducible exact ferrymanlaw16_ModelFirst_l23.mono | with_reducible exact ferrymanlaw16_large.mono | with_reducible exact ferrymanlaw16_works.mono | with_reducible exact model_New_v.mono | refine OLe.bind ?_ (fun _ => ?_) | refine OLe.ite ?_ ?_ | refine OLe.elim (fun _ => ?_) (fun _ => ?_) | split)
set_option maxHeartbeats 8000000 in
set_option maxRecDepth 100000 in
theorem ferrymanlaw16_ModelFirst.con (k : Nat) (M : Hp) (a0 : api_Config) (A1 : Option Addr) (c1 : Nat) (a1 : (List ferrymanlaw16_Turn)) (r : Bool) (hr1 : SlR r_ferrymanlaw16_Turn M (.slice A1 a1.length c1) a1) (hg0 : ∃ gt fr, M 0 = some (.cells #[.nilFunc, .func (.func 124) #[] #[], .func (.func 125) #[] #[], .func (.func 126) #[] #[], .func (.func 127) #[] #[], .func (.func 128) #[] #[], .func (.func 129) #[] #[], .func (.func 130) #[] #[], .func (.func 131) #[] #[], .func (.func 132) #[] #[]] gt fr)) (h : ferrymanlaw16_ModelFirst k a0 a1 = some r) : Con Tryd.prog 4 #[.agg #[.int .i64 a0.Tasks, .int .i64 a0.Active, .int .i64 a0.Keys, .int .i64 a0.Depth, .int .i64 a0.TS, .int .i64 a0.KeyLen, .int .i64 a0.ValLen, .int .i64 a0.Fan], .slice A1 a1.length c1] M [] (fun v M' Γ' => v = .bool r ∧ Γ' = []) := by
  refine con_of_wp Tryd.func4 rfl Tryd.ntmps4 Tryd.results4 rfl ?_
  intro w F rn S hrn
  have E := Ext.refl w
  have HM := Hp.le_refl M
  have H := h
  unfold ferrymanlaw16_ModelFirst at H
  refine Wp_seq (Wp_region_lit ?_)
  refine W_box S #[.int .i64 a0.Tasks, .int .i64 a0.Active, .int .i64 a0.Keys, .int .i64 a0.Depth, .int .i64 a0.TS, .int .i64 a0.KeyLen, .int .i64 a0.ValLen, .int .i64 a0.Fan] rfl rfl rfl ?_
  intro b1 w2 E' S
  replace E := E.trans E'
  refine W_v (.bool false) (x_assign rfl) rfl (Wl_nil (tn (Wp_seq (Wp_seq (Wp_region_lit ?_)))))
  obtain ⟨t4, ht5, H⟩ := bindS H
  refine W_callF fn11 (ferrymanlaw16_works.con k M  t4 hg0 ht5) S rfl rfl (by rintro _ _ _ ⟨_, rfl⟩; exact flat_nil) ?_
  rintro _ w6 _ Γ' E' S ⟨rfl, rfl⟩
  replace E := E.trans E'
  refine W_v (.bool (!t4)) (x_not (b := t4) rfl) rfl (W_v (.bool (!t4)) (x_move rfl) rfl ?_)
  obtain ⟨o15, o15h, o15H⟩ := bindS H
  refine Wl_cutN 3 (fun ρ w' => ∃ (x14 : Bool), (x14) = o15 ∧ Agree ρ [(1, .slice A1 a1.length c1), (2, pt b1 0), (20, .bool x14)] ∧ Ext w w' ∧ St w' M F [B23 b1 a0]) ?_ ?_
  · have H := o15h
    rcases iteS H with ⟨hb13, H⟩ | ⟨hb13, H⟩
    · skip
      refine W_no (skF hb13) rfl (W_no (skF hb13) rfl (W_v (.bool true) (x_pick (k := true) (congrArg Value.bool hb13) rfl) rfl (Wl_nil ?_)))
      exact ⟨true, Option.some.inj H, ⟨rfl, rfl, rfl, trivial⟩, E, S.pick [0] (by decide)⟩
    · skip
      refine W_yes (congrArg some hb13) (W_v (.slice A1 a1.length c1) (x_move rfl) rfl (W_yes (congrArg some hb13) ?_))
      obtain ⟨t16, ht17, H⟩ := bindS H
      refine W_callF fn12 (ferrymanlaw16_large.con k M A1 c1 a1 t16 hr1 ht17) S rfl rfl (by rintro _ _ _ ⟨_, rfl⟩; exact flat_nil) ?_
      rintro _ w18 _ Γ' E' S ⟨rfl, rfl⟩
      replace E := E.trans E'
      refine W_v (.bool t16) (x_pick (k := false) (congrArg Value.bool hb13) rfl) rfl (Wl_nil ?_)
      exact ⟨t16, Option.some.inj H, ⟨rfl, rfl, rfl, trivial⟩, E, S.pick [0] (by decide)⟩
  as_aux_lemma =>
  rintro ρ w19 ⟨x14, rfl, hρ, E, S⟩
  rw [agree_eta hρ]
  have H := o15H
  refine Wl_nil (tn ?_)
  rcases iteS H with ⟨hb20, H⟩ | ⟨hb20, H⟩
  · refine Wp_cond_true (congrArg Value.bool hb20) ?_
    refine Wp_seq (Wp_region_lit ?_)
    obtain ⟨t21, ht22, H⟩ := bindS H
    refine W_callF fn11 (ferrymanlaw16_works.con k M  t21 hg0 ht22) S rfl rfl (by rintro _ _ _ ⟨_, rfl⟩; exact flat_nil) ?_
    rintro _ w23 _ Γ' E' S ⟨rfl, rfl⟩
    replace E := E.trans E'
    refine W_v (.bool t21) (x_assign rfl) rfl (Wl_nil (tn ?_))
    refine Wp_ret ?_
    refine tr (?_)
    obtain rfl := Option.some.inj H
    exact ⟨_, _, _, fun w1 e1 => run_resR (vs := [.bool t21]) (FA.cons (rfl) (FA.nil)), HM, E, S.pick [] (by decide), ⟨rfl, rfl⟩⟩
  refine Wp_cond_false (congrArg Value.bool hb20) (Wp_skip (tn (Wp_seq (Wp_region_lit (W_v (.agg #[.int .i64 a0.Tasks, .int .i64 a0.Active, .int .i64 a0.Keys, .int .i64 a0.Depth, .int .i64 a0.TS, .int .i64 a0.KeyLen, .int .i64 a0.ValLen, .int .i64 a0.Fan]) (x_loadA (S.blk 0 rfl) ty23 rfl (sub_of_extract rfl) rfl rfl) rfl ?_)))))
  obtain ⟨t24, ht25, H⟩ := bindS H
  rcases t24 with t26 | t27
  · skip
    replace H := elimL H
    refine W_callF2 fn13 (model_New_v.con k M a0 (Sum.inl t26)  ht25) (Γ1 := []) (Γ2 := [_]) S rfl rfl (by rintro _ _ _ ⟨rfl, rfl⟩; exact flat_nil) ?_
    rintro _ w28 _ Γ' E' S ⟨rfl, rfl⟩
    replace E := E.trans E'
    replace S : St w28 M F [_] := S
    refine W_v (.tuple #[.pointer none, .int .i64 1]) (x_move rfl) rfl (W_v (.pointer none) (x_extract rfl rfl) rfl (W_v (.int .i64 1) (x_extract rfl rfl) rfl (W_v (.pointer none) (x_assign rfl) rfl (W_v (.int .i64 1) (x_assign rfl) rfl (Wl_nil (tn (Wp_seq (Wp_seq (Wp_region_lit (W_v (.int .i64 1) (x_move rfl) rfl (W_v (.bool true) (x_ibin rfl rfl rfl rfl) rfl (Wl_nil (tn (Wp_cond_true rfl (Wp_seq ?_)))))))))))))))
    refine Wp_region_lit (W_v (.bool true) (x_assign rfl) rfl (Wl_nil (tn ?_)))
    refine Wp_ret ?_
    refine tr (?_)
    obtain rfl := Option.some.inj H
    exact ⟨_, _, _, fun w1 e1 => run_resR (vs := [.bool true]) (FA.cons (rfl) (FA.nil)), HM, E, S.pick [] (by decide), ⟨rfl, rfl⟩⟩
  · skip
    replace H := elimR H
    refine W_call fn13 (model_New_v.con k M a0 (Sum.inr t27)  ht25) (Γ1 := []) (Γ2 := [_]) S rfl rfl ?_
    rintro _ w47 M48 Γ' hM49 E' S ⟨b31, A33, c34, A36, c37, A39, c40, A42, c43, vs45, rfl, hm46, rfl⟩
    replace hg0 : ∃ gt fr, _ := (let ⟨gt, fr, h8⟩ := hg0; ⟨gt, fr, hM49 _ _ h8⟩)
    replace HM := Hp.le_trans HM hM49
    replace hr1 := SlR.mono hr1 hM49
    replace E := E.trans E'
    replace S : St w47 M48 F [_, _, _, _, _, _] := S
    refine W_v (.tuple #[pt b31 0, .int .i64 0]) (x_move rfl) rfl (W_v (pt b31 0) (x_extract rfl rfl) rfl (W_v (.int .i64 0) (x_extract rfl rfl) rfl (W_v (pt b31 0) (x_assign rfl) rfl (W_v (.int .i64 0) (x_assign rfl) rfl (Wl_nil (tn (Wp_seq (Wp_seq (Wp_region_lit (W_v (.int .i64 0) (x_move rfl) rfl (W_v (.bool false) (x_ibin rfl rfl rfl rfl) rfl (Wl_nil (tn (Wp_cond_false rfl (Wp_skip ?_)))))))))))))))
    refine tn (Wp_seq (Wp_region_lit (W_v (.agg #[.int .i64 0, .slice none 0 0, .slice none 0 0]) (x_build2 (pl := [(0, 1), (1, 1), (2, 1)]) #[.int .i64 0, .slice none 0 0, .slice none 0 0] Tryd.underlying35 ty35 (by as_aux_lemma => kernel_rfl) rfl (by as_aux_lemma => kernel_rfl)) rfl ?_)))
    refine W_box S #[.int .i64 0, .slice none 0 0, .slice none 0 0] rfl rfl rfl ?_
    intro b50 w51 E' S
    replace E := E.trans E'
    refine W_v (pt b50 0) (x_assign rfl) rfl (Wl_nil (tn (Wp_seq (Wp_seq (Wp_region_lit (W_v (.int .i64 0) (x_assign rfl) rfl (Wl_nil (tn ?_))))))))
    obtain ⟨o819, o819h, o819H⟩ := bindS H
    refine Wp_blockJ (fun ρ w' => ∃ (x810 : Int) (x811 : List ferrymanlaw16_fact) (x815 : List ferrymanlaw16_life) (A812 : Option Addr) (c813 : Nat) (A816 : Option Addr) (c817 : Nat) (Mj : Hp), (x810, x811, x815) = o819 ∧ Agree ρ [(7, pt b50 0)] ∧ M48.le Mj ∧ Ext w w' ∧ St w' Mj F [Stk n_ferrymanlaw16_life 52 (.slice A816 x815.length c817) x815, Row r_ferrymanlaw16_fact 54 (.slice A812 x811.length c813) x811, Blk b50 (.cells #[.int .i64 x810, .slice A812 x811.length c813, .slice A816 x815.length c817] 35 (0, 0))]) ?_ ?_
    · skip
      refine Wp_loop (fun n ρ w' => ∃ (x514 : Int) (x515 : Int) (x516 : List ferrymanlaw16_fact) (x520 : List ferrymanlaw16_life) (x524 : model_Model) (A517 : Option Addr) (c518 : Nat) (A521 : Option Addr) (c522 : Nat) (A525 : Option Addr) (c526 : Nat) (A528 : Option Addr) (c529 : Nat) (A531 : Option Addr) (c532 : Nat) (A534 : Option Addr) (c535 : Nat) (vs537 : List (Str × Value)) (Mj : Hp), ferrymanlaw16_ModelFirst_l0 a1 n x514 x515 x516 x520 x524 = some o819 ∧ Agree ρ [(1, .slice A1 a1.length c1), (5, pt b31 0), (7, pt b50 0), (8, .int .i64 x514)] ∧ M48.le Mj ∧ Ext w w' ∧ St w' Mj F [MapC encS (fun v : Value => v) A534 vs537, Row r_model_tx 99 (.slice A531 x524.txs.length c532) x524.txs, MapC (Value.int .i64) (Value.int .i64) A528 x524.many, MapC enc_model_name (Value.int .i64) A525 x524.names, Stk n_ferrymanlaw16_life 52 (.slice A521 x520.length c522) x520, Row r_ferrymanlaw16_fact 54 (.slice A517 x516.length c518) x516, Blk b50 (.cells #[.int .i64 x515, .slice A517 x516.length c518, .slice A521 x520.length c522] 35 (0, 0)), B94 b31 x524 A525 A528 A531 c532 A534] ∧ MRel r_model_row Mj x524.rows vs537) k ?_ ?_
      · skip
        replace S := S.row_nil r_ferrymanlaw16_fact 54
        replace S := S.stk_nil n_ferrymanlaw16_life 52
        exact ⟨(0 : Int), (0 : Int), ([] : List ferrymanlaw16_fact), ([] : List ferrymanlaw16_life), t27, none, 0, none, 0, A33, c34, A36, c37, A39, c40, A42, c43, vs45, M48, o819h, ⟨rfl, rfl, rfl, rfl, trivial⟩, (Hp.le_refl M48), E, S.pick [7, 6, 5, 4, 0, 1, 2, 3] (by decide), hm46⟩
      · intro n
        rintro ρ w822 ⟨x514, x515, x516, x520, x524, A517, c518, A521, c522, A525, c526, A528, c529, A531, c532, A534, c535, vs537, M823, H, hρ, hM824, E, S, hm538⟩
        rw [agree_eta hρ]
        replace hg0 : ∃ gt fr, _ := (let ⟨gt, fr, h8⟩ := hg0; ⟨gt, fr, hM824 _ _ h8⟩)
        replace HM := Hp.le_trans HM hM824
        replace hr1 := SlR.mono hr1 hM824
        replace hm46 := MRel.mono hm46 hM824
        cases n with
        | zero => cases H
        | succ k =>
          rw [ferrymanlaw16_ModelFirst_l0.eq_2] at H
          refine Wp_seq (Wp_seq (Wp_region_lit (W_v (.int .i64 x514) (x_move rfl) rfl (W_v (.slice A1 a1.length c1) (x_move rfl) rfl (W_v (.int .i64 (a1.length : Int)) (x_len_slice (n := a1.length) Tryd.underlying24 rfl) rfl (W_v (.bool (decide (x514 < (a1.length : Int)))) (x_ibin rfl rfl rfl rfl) rfl (Wl_nil (tn ?_))))))))
          rcases iteS H with ⟨hb825, H⟩ | ⟨hb825, H⟩
          · refine Wp_cond_true (congrArg Value.bool hb825) ?_
            refine Wp_skip (tn (Wp_seq ?_))
            refine Wp_block ?_
            have LE1027 := Hp.le_refl M823
            refine Wp_region_any (S := fun w' => ∃ Mx, M823.le Mx ∧ St w' Mx F []) (L := 20) mixed ?_
            intro w1028 hw1029 E'
            replace S := S.heap hw1029
            replace E := E.trans E'
            have hr1z := hr1
            have D1 : ∃ Mx, Hp.le M823 Mx ∧ St _ Mx F [] := ⟨_, Hp.le_refl _, S.pick [] (by decide)⟩
            refine Wa_take (i := 0) rfl (by kernel_rfl) rfl rfl (pt b50 0) rfl (fun w' h' => x_move rfl) D1 (Wa_take (i := 1) rfl (by kernel_rfl) rfl rfl (.int .i64 x514) rfl (fun w' h' => x_move rfl) D1 (Wa_take (i := 2) rfl (by kernel_rfl) rfl rfl (.int .i64 (IntKind.i64.wrap (x514 + (1 : Int)))) rfl (fun w' h' => x_ibin rfl rfl rfl rfl) D1 (Wa_take (i := 3) rfl (by kernel_rfl) rfl rfl (.slice A1 a1.length c1) rfl (fun w' h' => x_move rfl) D1 (Wa_take (i := 4) rfl (by kernel_rfl) rfl rfl (.int .i64 x514) rfl (fun w' h' => x_move rfl) D1 ?_))))
            obtain ⟨⟨p1030, p1031⟩, H⟩ := chkS H
            obtain ⟨b1032, o1033, cs1034, _, _, ee1039, hb1035, vs1036, hR1037, hc1038⟩ := SlW.at' hr1z p1030 p1031
            obtain rfl : vs1036 = _ := hR1037
            refine Wa_take (i := 5) rfl (by kernel_rfl) rfl rfl (.pointer (some ⟨b1032, o1033 + x514.toNat * 8, none⟩)) rfl (fun w' h' => x_indexAddr Tryd.underlying24 ty39 (slA ee1039) rfl p1030 p1031) D1 (Wa_take (i := 6) rfl (by kernel_rfl) rfl rfl (.agg #[.int .i64 ((rd a1 x514).Task), .int .u8 ((rd a1 x514).Call.Kind), .int .i64 ((rd a1 x514).Call.Tx), .string (bs ((rd a1 x514).Call.Key)), .string (bs ((rd a1 x514).Call.End)), .string (bs ((rd a1 x514).Call.Value)), .int .i64 ((rd a1 x514).Call.Limit), .int .u8 ((rd a1 x514).Call.Engine)]) rfl (fun w' h' => x_loadA (cls_frz h' hb1035) ty39 rfl (sub_el hc1038 0 rfl) rfl rfl) D1 (Wa_take (i := 7) rfl (by kernel_rfl) rfl rfl (pt b31 0) rfl (fun w' h' => x_move rfl) D1 (Wa_take (i := 8) rfl (by kernel_rfl) rfl rfl (.slice A1 a1.length c1) rfl (fun w' h' => x_move rfl) D1 (Wa_take (i := 9) rfl (by kernel_rfl) rfl rfl (.int .i64 x514) rfl (fun w' h' => x_move rfl) D1 ?_))))
            obtain ⟨⟨p1040, p1041⟩, H⟩ := chkS H
            obtain ⟨b1042, o1043, cs1044, _, _, ee1049, hb1045, vs1046, hR1047, hc1048⟩ := SlW.at' hr1z p1040 p1041
            obtain rfl : vs1046 = _ := hR1047
            refine Wa_take (i := 10) rfl (by kernel_rfl) rfl rfl (.pointer (some ⟨b1042, o1043 + x514.toNat * 8, none⟩)) rfl (fun w' h' => x_indexAddr Tryd.underlying24 ty39 (slA ee1049) rfl p1040 p1041) D1 (Wa_take (i := 11) rfl (by kernel_rfl) rfl rfl (.pointer (some ⟨b1042, o1043 + x514.toNat * 8, none⟩)) rfl (fun w' h' => x_fieldAddr (o := o1043 + x514.toNat * 8) (off := 0) Tryd.underlying39 rfl ty3 rfl rfl) D1 (Wa_take (i := 12) rfl (by kernel_rfl) rfl rfl (.int .i64 ((rd a1 x514).Task)) rfl (fun w' h' => x_load (cls_frz h' hb1045) ty3 rfl (hc1048 0 _ rfl)) D1 (Wa_take (i := 13) rfl (by kernel_rfl) rfl rfl (.slice A1 a1.length c1) rfl (fun w' h' => x_move rfl) D1 (Wa_take (i := 14) rfl (by kernel_rfl) rfl rfl (.int .i64 x514) rfl (fun w' h' => x_move rfl) D1 ?_))))
            obtain ⟨⟨p1050, p1051⟩, H⟩ := chkS H
            obtain ⟨b1052, o1053, cs1054, _, _, ee1059, hb1055, vs1056, hR1057, hc1058⟩ := SlW.at' hr1z p1050 p1051
            obtain rfl : vs1056 = _ := hR1057
            refine Wa_take (i := 15) rfl (by kernel_rfl) rfl rfl (.pointer (some ⟨b1052, o1053 + x514.toNat * 8, none⟩)) rfl (fun w' h' => x_indexAddr Tryd.underlying24 ty39 (slA ee1059) rfl p1050 p1051) D1 (Wa_take (i := 16) rfl (by kernel_rfl) rfl rfl (.pointer (some ⟨b1052, o1053 + x514.toNat * 8 + 1, none⟩)) rfl (fun w' h' => x_fieldAddr (o := o1053 + x514.toNat * 8) (off := 1) Tryd.underlying39 rfl ty37 rfl rfl) D1 (Wa_take (i := 17) rfl (by kernel_rfl) rfl rfl (.agg #[.int .u8 ((rd a1 x514).Call.Kind), .int .i64 ((rd a1 x514).Call.Tx), .string (bs ((rd a1 x514).Call.Key)), .string (bs ((rd a1 x514).Call.End)), .string (bs ((rd a1 x514).Call.Value)), .int .i64 ((rd a1 x514).Call.Limit), .int .u8 ((rd a1 x514).Call.Engine)]) rfl (fun w' h' => x_loadA (cls_frz h' hb1055) ty37 rfl (sub_el hc1058 1 rfl) rfl rfl) D1 ?_))
            refine Wa_solo (i := 18) rfl (by kernel_rfl) ?_
            obtain ⟨t1060, ht1061, H⟩ := bindS H
            replace S : St w1028 M823 F [_, _, _, _, _, _, _, _] := S.pick [7, 3, 2, 1, 0, 4, 5, 6] (by decide)
            refine W_call fn15 (model_Model_Do_POOOO.con k M823 A525 c526 A528 c529 A531 c532 A534 c535 vs537 x524 ((rd a1 x514).Task) ((rd a1 x514).Call) b31 t1060 hm538 hg0 ht1061) (Γ1 := [_, _, _, _, _]) (Γ2 := [_, _, _]) S rfl rfl ?_
            rintro _ w1079 M1080 Γ' hM1081 E' S ⟨A1062, c1063, A1065, c1066, A1068, c1069, A1071, c1072, A1074, c1075, vs1077, rfl, hm1078, rfl⟩
            replace hg0 : ∃ gt fr, _ := (let ⟨gt, fr, h8⟩ := hg0; ⟨gt, fr, hM1081 _ _ h8⟩)
            replace HM := Hp.le_trans HM hM1081
            replace hM824 := Hp.le_trans hM824 hM1081
            replace LE1027 := Hp.le_trans LE1027 hM1081
            replace hr1 := SlR.mono hr1 hM1081
            replace hm46 := MRel.mono hm46 hM1081
            replace hm538 := MRel.mono hm538 hM1081
            replace E := E.trans E'
            replace S : St w1079 M1080 F [_, _, _, _, _, _, _, _, _] := S
            refine Wl_nil (on_n ⟨.inr ⟨M1080, LE1027, (S.pick [] (by decide))⟩, ?_⟩)
            refine Wa_solo (i := 19) rfl (by kernel_rfl) ?_
            obtain ⟨M1082, hM1083, hf1084, S⟩ := S.row_freeze 0 rfl
            replace hg0 : ∃ gt fr, _ := (let ⟨gt, fr, h8⟩ := hg0; ⟨gt, fr, hM1083 _ _ h8⟩)
            replace HM := Hp.le_trans HM hM1083
            replace hM824 := Hp.le_trans hM824 hM1083
            replace LE1027 := Hp.le_trans LE1027 hM1083
            replace hr1 := SlR.mono hr1 hM1083
            replace hm46 := MRel.mono hm46 hM1083
            replace hm538 := MRel.mono hm538 hM1083
            replace hm1078 := MRel.mono hm1078 hM1083
            obtain ⟨t1085, ht1086, H⟩ := bindS H
            replace S : St w1079 M1082 F [_, _, _, _, _, _, _, _] := S.pick [7, 6, 5, 0, 1, 2, 3, 4] (by decide)
            refine W_call fn18 (ferrymanlaw16_log_note_POO.con k M1082 A517 c518 A521 c522 (⟨x515, x516, x520⟩ : ferrymanlaw16_log) (IntKind.i64.wrap (x514 + (1 : Int))) (rd a1 x514) A1062 c1063 t1060.1 b50 t1085 hf1084 ht1086) (Γ1 := [_, _, _]) (Γ2 := [_, _, _, _, _]) S rfl rfl ?_
            rintro _ w1093 M1094 Γ' hM1095 E' S ⟨A1087, c1088, A1090, c1091, rfl, rfl⟩
            replace hg0 : ∃ gt fr, _ := (let ⟨gt, fr, h8⟩ := hg0; ⟨gt, fr, hM1095 _ _ h8⟩)
            replace HM := Hp.le_trans HM hM1095
            replace hM824 := Hp.le_trans hM824 hM1095
            replace LE1027 := Hp.le_trans LE1027 hM1095
            replace hr1 := SlR.mono hr1 hM1095
            replace hm46 := MRel.mono hm46 hM1095
            replace hm538 := MRel.mono hm538 hM1095
            replace hm1078 := MRel.mono hm1078 hM1095
            replace hf1084 := SlR.mono hf1084 hM1095
            replace E := E.trans E'
            replace S : St w1093 M1094 F [_, _, _, _, _, _, _, _] := S
            refine Wl_nil (on_n ⟨.inr ⟨M1094, LE1027, (S.pick [] (by decide))⟩, ?_⟩)
            refine Wa_done (by kernel_rfl) ?_
            refine bn (tn (Wp_region_lit (W_v (.int .i64 x514) (x_move rfl) rfl (W_v (.int .i64 (IntKind.i64.wrap (x514 + (1 : Int)))) (x_ibin rfl rfl rfl rfl) rfl (W_v (.int .i64 (IntKind.i64.wrap (x514 + (1 : Int)))) (x_assign rfl) rfl (Wl_nil (tn ?_)))))))
            exact ⟨k, Nat.lt_succ_self k, ⟨(IntKind.i64.wrap (x514 + (1 : Int))), t1085.time, t1085.facts, t1085.lives, t1060.2, A1087, c1088, A1090, c1091, A1065, c1066, A1068, c1069, A1071, c1072, A1074, c1075, vs1077, M1094, H, ⟨rfl, rfl, rfl, rfl, trivial⟩, hM824, E, S.pick [7, 6, 5, 4, 2, 1, 0, 3] (by decide), hm1078⟩⟩
          refine Wp_cond_false (congrArg Value.bool hb825) ?_
          refine Wp_exit ?_
          refine tx (tx (bsm (?_)))
          refine tn ?_
          exact ⟨x515, x516, x520, A517, c518, A521, c522, M823, Option.some.inj H, ⟨rfl, trivial⟩, hM824, E, S.pick [4, 5, 6] (by decide)⟩
    rintro ρ w1096 ⟨x810, x811, x815, A812, c813, A816, c817, M1097, rfl, hρ, hM1098, E, S⟩
    rw [agree_eta hρ]
    replace hg0 : ∃ gt fr, _ := (let ⟨gt, fr, h8⟩ := hg0; ⟨gt, fr, hM1098 _ _ h8⟩)
    replace HM := Hp.le_trans HM hM1098
    replace hr1 := SlR.mono hr1 hM1098
    replace hm46 := MRel.mono hm46 hM1098
    have H := o819H
    refine tn ?_
    as_aux_lemma =>
    refine Wp_seq (Wp_seq (Wp_region_lit (W_v (.int .i64 0) (x_assign rfl) rfl (Wl_nil (tn ?_)))))
    obtain ⟨M1099, hM1100, hf1101, S⟩ := S.stk_freeze (r := r_ferrymanlaw16_life) nr_ferrymanlaw16_life rfl 0 rfl
    replace hg0 : ∃ gt fr, _ := (let ⟨gt, fr, h8⟩ := hg0; ⟨gt, fr, hM1100 _ _ h8⟩)
    replace HM := Hp.le_trans HM hM1100
    replace hM1098 := Hp.le_trans hM1098 hM1100
    replace hr1 := SlR.mono hr1 hM1100
    replace hm46 := MRel.mono hm46 hM1100
    obtain ⟨o8491, o8491h, o8491H⟩ := bindS H
    refine Wp_blockJ (fun ρ w' => .inr () = o8491 ∧ Agree ρ [] ∧ Ext w w' ∧ St w' M1099 F []) ?_ ?_
    · skip
      refine Wp_loop (fun n ρ w' => ∃ (x4799 : Int), ferrymanlaw16_ModelFirst_l23 x815 n x4799 = some o8491 ∧ Agree ρ [(7, pt b50 0), (9, .int .i64 x4799)] ∧ Ext w w' ∧ St w' M1099 F [Row r_ferrymanlaw16_fact 54 (.slice A812 x811.length c813) x811, Blk b50 (.cells #[.int .i64 x810, .slice A812 x811.length c813, .slice A816 x815.length c817] 35 (0, 0))]) k ?_ ?_
      · skip
        exact ⟨(0 : Int), o8491h, ⟨rfl, rfl, trivial⟩, E, S.pick [0, 1] (by decide)⟩
      · intro n
        rintro ρ w8492 ⟨x4799, H, hρ, E, S⟩
        rw [agree_eta hρ]
        cases n with
        | zero => cases H
        | succ k =>
          rw [ferrymanlaw16_ModelFirst_l23.eq_2] at H
          refine Wp_seq (Wp_seq (Wp_region_lit (W_v (.int .i64 x4799) (x_move rfl) rfl (W_v (pt b50 0) (x_move rfl) rfl (W_v (pt b50 0) (x_nilptr rfl) rfl (W_v (pt b50 2) (x_fieldAddr (o := 0) (off := 2) Tryd.underlying35 rfl ty33 rfl rfl) rfl (W_v (.slice A816 x815.length c817) (x_load (S.blk 1 rfl) ty33 rfl rfl) rfl (W_v (.int .i64 (x815.length : Int)) (x_len_slice (n := x815.length) Tryd.underlying33 rfl) rfl (W_v (.bool (decide (x4799 < (x815.length : Int)))) (x_ibin rfl rfl rfl rfl) rfl (Wl_nil (tn ?_)))))))))))
          rcases iteS H with ⟨hb8493, H⟩ | ⟨hb8493, H⟩
          · refine Wp_cond_true (congrArg Value.bool hb8493) ?_
            refine Wp_skip (tn (Wp_seq ?_))
            refine Wp_block ?_
            refine Wp_seq (Wp_region_lit (W_v (.int .i64 0) (x_assign rfl) rfl (Wl_nil (tn ?_))))
            obtain ⟨o11260, o11260h, o11260H⟩ := bindS H
            refine Wp_blockJ (fun ρ w' => .inr () = o11260 ∧ Agree ρ [(7, pt b50 0), (9, .int .i64 x4799)] ∧ Ext w w' ∧ St w' M1099 F [Row r_ferrymanlaw16_fact 54 (.slice A812 x811.length c813) x811, Blk b50 (.cells #[.int .i64 x810, .slice A812 x811.length c813, .slice A816 x815.length c817] 35 (0, 0))]) ?_ ?_
            · skip
              refine Wp_loop (fun n ρ w' => ∃ (x10338 : Int), ferrymanlaw16_ModelFirst_l55 x815 x4799 n x10338 = some o11260 ∧ Agree ρ [(7, pt b50 0), (9, .int .i64 x4799), (10, .int .i64 x10338)] ∧ Ext w w' ∧ St w' M1099 F [Row r_ferrymanlaw16_fact 54 (.slice A812 x811.length c813) x811, Blk b50 (.cells #[.int .i64 x810, .slice A812 x811.length c813, .slice A816 x815.length c817] 35 (0, 0))]) k ?_ ?_
              · skip
                exact ⟨(0 : Int), o11260h, ⟨rfl, rfl, rfl, trivial⟩, E, S.pick [0, 1] (by decide)⟩
              · intro n
                rintro ρ w11261 ⟨x10338, H, hρ, E, S⟩
                rw [agree_eta hρ]
                cases n with
                | zero => cases H
                | succ k =>
                  rw [ferrymanlaw16_ModelFirst_l55.eq_2] at H
                  refine Wp_seq (Wp_seq (Wp_region_lit (W_v (.int .i64 x10338) (x_move rfl) rfl (W_v (.int .i64 x4799) (x_move rfl) rfl (W_v (.bool (decide (x10338 < x4799))) (x_ibin rfl rfl rfl rfl) rfl (Wl_nil (tn ?_)))))))
                  rcases iteS H with ⟨hb11262, H⟩ | ⟨hb11262, H⟩
                  · refine Wp_cond_true (congrArg Value.bool hb11262) ?_
                    refine Wp_skip (tn (Wp_seq ?_))
                    refine Wp_block ?_
                    refine Wp_seq ?_
                    refine Wp_region_any (S := fun w' => ∃ Mx, M1099.le Mx ∧ St w' Mx F [Row r_ferrymanlaw16_fact 54 (.slice A812 x811.length c813) x811, Blk b50 (.cells #[.int .i64 x810, .slice A812 x811.length c813, .slice A816 x815.length c817] 35 (0, 0))]) (L := 17) mixed ?_
                    intro w11351 hw11352 E'
                    replace S := S.heap hw11352
                    replace E := E.trans E'
                    have D2 : ∃ Mx, Hp.le M1099 Mx ∧ St _ Mx F [_, _] := ⟨_, Hp.le_refl _, S.pick [0, 1] (by decide)⟩
                    refine Wa_take (i := 0) rfl (by kernel_rfl) rfl rfl (pt b50 0) rfl (fun w' h' => x_move rfl) D2 (Wa_take (i := 1) rfl (by kernel_rfl) rfl rfl (pt b50 0) rfl (fun w' h' => x_nilptr rfl) D2 (Wa_take (i := 2) rfl (by kernel_rfl) rfl rfl (pt b50 2) rfl (fun w' h' => x_fieldAddr (o := 0) (off := 2) Tryd.underlying35 rfl ty33 rfl rfl) D2 (Wa_take (i := 3) rfl (by kernel_rfl) rfl rfl (.slice A816 x815.length c817) rfl (fun w' h' => x_load (cls_blk h' 1 rfl) ty33 rfl rfl) D2 (Wa_take (i := 4) rfl (by kernel_rfl) rfl rfl (.int .i64 x4799) rfl (fun w' h' => x_move rfl) D2 ?_))))
                    obtain ⟨⟨p11353, p11354⟩, H⟩ := chkS H
                    obtain ⟨b11355, o11356, cs11357, _, _, ee11362, hb11358, vs11359, hR11360, hc11361⟩ := SlW.at' hf1101 p11353 p11354
                    obtain ⟨v11366, hs11365, rfl⟩ := hR11360
                    obtain ⟨A11363, c11364, rfl, _⟩ := hs11365.form
                    have hs11365z := hs11365
                    refine Wa_take (i := 5) rfl (by kernel_rfl) rfl rfl (.pointer (some ⟨b11355, o11356 + x4799.toNat * 6, none⟩)) rfl (fun w' h' => x_indexAddr Tryd.underlying33 ty52 (slA ee11362) rfl p11353 p11354) D2 (Wa_take (i := 6) rfl (by kernel_rfl) rfl rfl (.agg #[.int .i64 ((rd x815 x4799).task), .int .i64 ((rd x815 x4799).n), .int .i64 ((rd x815 x4799).snapshot), .slice A11363 ((rd x815 x4799).writes).length c11364, .int .i64 ((rd x815 x4799).begun), .int .i64 ((rd x815 x4799).over)]) rfl (fun w' h' => x_loadA (cls_frz h' hb11358) ty52 rfl (sub_el hc11361 0 rfl) rfl rfl) D2 (Wa_take (i := 7) rfl (by kernel_rfl) rfl rfl (pt b50 0) rfl (fun w' h' => x_move rfl) D2 (Wa_take (i := 8) rfl (by kernel_rfl) rfl rfl (pt b50 0) rfl (fun w' h' => x_nilptr rfl) D2 (Wa_take (i := 9) rfl (by kernel_rfl) rfl rfl (pt b50 2) rfl (fun w' h' => x_fieldAddr (o := 0) (off := 2) Tryd.underlying35 rfl ty33 rfl rfl) D2 (Wa_take (i := 10) rfl (by kernel_rfl) rfl rfl (.slice A816 x815.length c817) rfl (fun w' h' => x_load (cls_blk h' 1 rfl) ty33 rfl rfl) D2 (Wa_take (i := 11) rfl (by kernel_rfl) rfl rfl (.int .i64 x10338) rfl (fun w' h' => x_move rfl) D2 ?_))))))
                    obtain ⟨⟨p11367, p11368⟩, H⟩ := chkS H
                    obtain ⟨b11369, o11370, cs11371, _, _, ee11376, hb11372, vs11373, hR11374, hc11375⟩ := SlW.at' hf1101 p11367 p11368
                    obtain ⟨v11380, hs11379, rfl⟩ := hR11374
                    obtain ⟨A11377, c11378, rfl, _⟩ := hs11379.form
                    have hs11379z := hs11379
                    refine Wa_take (i := 12) rfl (by kernel_rfl) rfl rfl (.pointer (some ⟨b11369, o11370 + x10338.toNat * 6, none⟩)) rfl (fun w' h' => x_indexAddr Tryd.underlying33 ty52 (slA ee11376) rfl p11367 p11368) D2 (Wa_take (i := 13) rfl (by kernel_rfl) rfl rfl (.agg #[.int .i64 ((rd x815 x10338).task), .int .i64 ((rd x815 x10338).n), .int .i64 ((rd x815 x10338).snapshot), .slice A11377 ((rd x815 x10338).writes).length c11378, .int .i64 ((rd x815 x10338).begun), .int .i64 ((rd x815 x10338).over)]) rfl (fun w' h' => x_loadA (cls_frz h' hb11372) ty52 rfl (sub_el hc11375 0 rfl) rfl rfl) D2 ?_)
                    obtain ⟨o11419, o11419h, o11419H⟩ := bindS H
                    refine Wa_join (fun ρ w' => ∃ (b11397 : Nat) (b11399 : Nat), () = o11419 ∧ Agree ρ [(7, pt b50 0), (9, .int .i64 x4799), (10, .int .i64 x10338), (11, pt b11397 0), (12, pt b11399 0), (77, .agg #[.int .i64 ((rd x815 x4799).task), .int .i64 ((rd x815 x4799).n), .int .i64 ((rd x815 x4799).snapshot), .slice A11363 ((rd x815 x4799).writes).length c11364, .int .i64 ((rd x815 x4799).begun), .int .i64 ((rd x815 x4799).over)]), (84, .agg #[.int .i64 ((rd x815 x10338).task), .int .i64 ((rd x815 x10338).n), .int .i64 ((rd x815 x10338).snapshot), .slice A11377 ((rd x815 x10338).writes).length c11378, .int .i64 ((rd x815 x10338).begun), .int .i64 ((rd x815 x10338).over)])] ∧ Ext w w' ∧ St w' M1099 F [Blk b11399 (.cells #[.int .i64 0, .int .i64 0, .int .i64 0, .slice none 0 0, .int .i64 0, .int .i64 0] 52 (0, 0)), Blk b11397 (.cells #[.int .i64 0, .int .i64 0, .int .i64 0, .slice none 0 0, .int .i64 0, .int .i64 0] 52 (0, 0)), Row r_ferrymanlaw16_fact 54 (.slice A812 x811.length c813) x811, Blk b50 (.cells #[.int .i64 x810, .slice A812 x811.length c813, .slice A816 x815.length c817] 35 (0, 0))]) 2 (Ls 18 [0, 1, 2, 3, 4, 5, 6, 7, 8, 9, 10, 11, 12, 13, 14, 15]) ?_ ?_
                    rotate_left
                    · intro hq11423
                      refine Wa_join (fun ρ w' => ∃ (b11392 : Nat), some () = some o11419 ∧ Agree ρ [(7, pt b50 0), (9, .int .i64 x4799), (10, .int .i64 x10338), (12, pt b11392 0), (77, .agg #[.int .i64 ((rd x815 x4799).task), .int .i64 ((rd x815 x4799).n), .int .i64 ((rd x815 x4799).snapshot), .slice A11363 ((rd x815 x4799).writes).length c11364, .int .i64 ((rd x815 x4799).begun), .int .i64 ((rd x815 x4799).over)]), (84, .agg #[.int .i64 ((rd x815 x10338).task), .int .i64 ((rd x815 x10338).n), .int .i64 ((rd x815 x10338).snapshot), .slice A11377 ((rd x815 x10338).writes).length c11378, .int .i64 ((rd x815 x10338).begun), .int .i64 ((rd x815 x10338).over)])] ∧ Ext w w' ∧ St w' M1099 F [Blk b11392 (.cells #[.int .i64 0, .int .i64 0, .int .i64 0, .slice none 0 0, .int .i64 0, .int .i64 0] 52 (0, 0)), Row r_ferrymanlaw16_fact 54 (.slice A812 x811.length c813) x811, Blk b50 (.cells #[.int .i64 x810, .slice A812 x811.length c813, .slice A816 x815.length c817] 35 (0, 0))]) 3 (Ls 18 [0, 1, 2, 3, 4, 5, 6, 7, 8, 9, 10, 11, 12, 13, 15]) ?_ ?_
                      · clear o11419h
                        rintro ρ w11424 ⟨b11392, H, hρ, E, S⟩
                        rw [agree_eta hρ]
                        refine Wa_solo (i := 14) rfl (by kernel_rfl) ?_
                        refine W_alloc S #[.int .i64 0, .int .i64 0, .int .i64 0, .slice none 0 0, .int .i64 0, .int .i64 0] ty52 rfl rfl ?_
                        intro b11425 w11426 E' S
                        replace E := E.trans E'
                        refine Wl_nil (on_n ⟨.inr ⟨M1099, Hp.le_refl M1099, (S.pick [2, 3] (by decide))⟩, ?_⟩)
                        exact hq11423 _ _ ⟨b11425, b11392, Option.some.inj H, ⟨rfl, rfl, rfl, rfl, rfl, rfl, rfl, trivial⟩, E, S.pick [1, 0, 2, 3] (by decide)⟩
                      intro hq11422
                      refine Wa_join (fun ρ w' => ∃ (b11387 : Nat), some () = some o11419 ∧ Agree ρ [(7, pt b50 0), (9, .int .i64 x4799), (10, .int .i64 x10338), (11, pt b11387 0), (77, .agg #[.int .i64 ((rd x815 x4799).task), .int .i64 ((rd x815 x4799).n), .int .i64 ((rd x815 x4799).snapshot), .slice A11363 ((rd x815 x4799).writes).length c11364, .int .i64 ((rd x815 x4799).begun), .int .i64 ((rd x815 x4799).over)]), (84, .agg #[.int .i64 ((rd x815 x10338).task), .int .i64 ((rd x815 x10338).n), .int .i64 ((rd x815 x10338).snapshot), .slice A11377 ((rd x815 x10338).writes).length c11378, .int .i64 ((rd x815 x10338).begun), .int .i64 ((rd x815 x10338).over)])] ∧ Ext w w' ∧ St w' M1099 F [Blk b11387 (.cells #[.int .i64 0, .int .i64 0, .int .i64 0, .slice none 0 0, .int .i64 0, .int .i64 0] 52 (0, 0)), Row r_ferrymanlaw16_fact 54 (.slice A812 x811.length c813) x811, Blk b50 (.cells #[.int .i64 x810, .slice A812 x811.length c813, .slice A816 x815.length c817] 35 (0, 0))]) 3 (Ls 18 [0, 1, 2, 3, 4, 5, 6, 7, 8, 9, 10, 11, 12, 13, 14]) ?_ ?_
                      · clear o11419h
                        rintro ρ w11428 ⟨b11387, H, hρ, E, S⟩
                        rw [agree_eta hρ]
                        refine Wa_solo (i := 15) rfl (by kernel_rfl) ?_
                        refine W_alloc S #[.int .i64 0, .int .i64 0, .int .i64 0, .slice none 0 0, .int .i64 0, .int .i64 0] ty52 rfl rfl ?_
                        intro b11429 w11430 E' S
                        replace E := E.trans E'
                        refine Wl_nil (on_n ⟨.inr ⟨M1099, Hp.le_refl M1099, (S.pick [2, 3] (by decide))⟩, ?_⟩)
                        exact hq11423 _ _ ⟨b11387, b11429, Option.some.inj H, ⟨rfl, rfl, rfl, rfl, rfl, rfl, rfl, trivial⟩, E, S.pick [0, 1, 2, 3] (by decide)⟩
                      intro hq11421
                      have H := o11419h
                      refine Wa_oneOf (rs := [14, 15]) (by kernel_rfl) (by decide) ?_
                      simp only [List.forall_mem_cons, List.not_mem_nil, false_implies, implies_true, and_true]
                      refine ⟨?_, ?_⟩
                      · refine ⟨_, rfl, ?_⟩
                        refine W_alloc S #[.int .i64 0, .int .i64 0, .int .i64 0, .slice none 0 0, .int .i64 0, .int .i64 0] ty52 rfl rfl ?_
                        intro b11432 w11433 E' S
                        replace E := E.trans E'
                        refine Wl_nil (on_n ⟨.inr ⟨M1099, Hp.le_refl M1099, (S.pick [1, 2] (by decide))⟩, ?_⟩)
                        exact hq11421 _ _ ⟨b11432, H, ⟨rfl, rfl, rfl, rfl, rfl, rfl, trivial⟩, E, S.pick [0, 1, 2] (by decide)⟩
                      · refine ⟨_, rfl, ?_⟩
                        refine W_alloc S #[.int .i64 0, .int .i64 0, .int .i64 0, .slice none 0 0, .int .i64 0, .int .i64 0] ty52 rfl rfl ?_
                        intro b11435 w11436 E' S
                        replace E := E.trans E'
                        refine Wl_nil (on_n ⟨.inr ⟨M1099, Hp.le_refl M1099, (S.pick [1, 2] (by decide))⟩, ?_⟩)
                        exact hq11422 _ _ ⟨b11435, H, ⟨rfl, rfl, rfl, rfl, rfl, rfl, trivial⟩, E, S.pick [0, 1, 2] (by decide)⟩
                    rintro ρ w11438 ⟨b11397, b11399, rfl, hρ, E, S⟩
                    rw [agree_eta hρ]
                    have H := o11419H
                    refine Wa_solo (i := 16) rfl (by kernel_rfl) ?_
                    refine W_store S 1 rfl ty52 rfl rfl [.int .i64 ((rd x815 x4799).task), .int .i64 ((rd x815 x4799).n), .int .i64 ((rd x815 x4799).snapshot), .slice A11363 ((rd x815 x4799).writes).length c11364, .int .i64 ((rd x815 x4799).begun), .int .i64 ((rd x815 x4799).over)] rfl rfl rfl #[.int .i64 ((rd x815 x4799).task), .int .i64 ((rd x815 x4799).n), .int .i64 ((rd x815 x4799).snapshot), .slice A11363 ((rd x815 x4799).writes).length c11364, .int .i64 ((rd x815 x4799).begun), .int .i64 ((rd x815 x4799).over)] (by as_aux_lemma => kernel_rfl) rfl ?_
                    intro w11439 E' S
                    replace E := E.trans E'
                    refine Wl_nil (on_n ⟨.inr ⟨M1099, Hp.le_refl M1099, (S.pick [2, 3] (by decide))⟩, ?_⟩)
                    refine Wa_solo (i := 17) rfl (by kernel_rfl) ?_
                    refine W_store S 0 rfl ty52 rfl rfl [.int .i64 ((rd x815 x10338).task), .int .i64 ((rd x815 x10338).n), .int .i64 ((rd x815 x10338).snapshot), .slice A11377 ((rd x815 x10338).writes).length c11378, .int .i64 ((rd x815 x10338).begun), .int .i64 ((rd x815 x10338).over)] rfl rfl rfl #[.int .i64 ((rd x815 x10338).task), .int .i64 ((rd x815 x10338).n), .int .i64 ((rd x815 x10338).snapshot), .slice A11377 ((rd x815 x10338).writes).length c11378, .int .i64 ((rd x815 x10338).begun), .int .i64 ((rd x815 x10338).over)] (by as_aux_lemma => kernel_rfl) rfl ?_
                    intro w11440 E' S
                    replace E := E.trans E'
                    refine Wl_nil (on_n ⟨.inl (by decide), ?_⟩)
                    refine Wa_done (by kernel_rfl) ?_
                    refine tn ?_
                    as_aux_lemma =>
                    refine Wp_seq (Wp_seq (Wp_region_lit (W_v (pt b11397 5) (x_fieldAddr (o := 0) (off := 5) Tryd.underlying52 rfl ty3 rfl rfl) rfl (W_v (.int .i64 ((rd x815 x4799).over)) (x_load (S.blk 1 rfl) ty3 rfl rfl) rfl (W_v (.bool ((rd x815 x4799).over == (0 : Int))) (x_ibin rfl rfl rfl rfl) rfl (W_v (.bool ((rd x815 x4799).over == (0 : Int))) (x_move rfl) rfl ?_))))))
                    refine Wl_cutN 4 (fun ρ w' => Agree ρ [(7, pt b50 0), (9, .int .i64 x4799), (10, .int .i64 x10338), (11, pt b11397 0), (12, pt b11399 0), (92, .bool (((rd x815 x4799).over == (0 : Int)) || ((rd x815 x10338).over == (0 : Int))))] ∧ w11440 = w') ?_ ?_
                    · rcases boolCases ((rd x815 x4799).over == (0 : Int)) with hb11441 | hb11441
                      · skip
                        refine W_yes (congrArg some hb11441) (W_v (pt b11399 5) (x_fieldAddr (o := 0) (off := 5) Tryd.underlying52 rfl ty3 rfl rfl) rfl (W_yes (congrArg some hb11441) (W_v (.int .i64 ((rd x815 x10338).over)) (x_load (S.blk 0 rfl) ty3 rfl rfl) rfl (W_yes (congrArg some hb11441) (W_v (.bool ((rd x815 x10338).over == (0 : Int))) (x_ibin rfl rfl rfl rfl) rfl (W_v (.bool ((rd x815 x10338).over == (0 : Int))) (x_pick (k := false) (congrArg Value.bool hb11441) rfl) rfl (Wl_nil ?_)))))))
                        exact ⟨⟨rfl, rfl, rfl, rfl, rfl, (by first | rfl | (rw [hb11441]; rfl) | (simp only [hb11441]; rfl)), trivial⟩, rfl⟩
                      · skip
                        refine W_no (skF hb11441) rfl (W_no (skF hb11441) rfl (W_no (skF hb11441) rfl (W_v (.bool true) (x_pick (k := true) (congrArg Value.bool hb11441) rfl) rfl (Wl_nil ?_))))
                        exact ⟨⟨rfl, rfl, rfl, rfl, rfl, (by first | rfl | (rw [hb11441]; rfl) | (simp only [hb11441]; rfl)), trivial⟩, rfl⟩
                    as_aux_lemma =>
                    rintro ρ _ ⟨hρ, rfl⟩
                    rw [agree_eta hρ]
                    refine W_v (.bool (((rd x815 x4799).over == (0 : Int)) || ((rd x815 x10338).over == (0 : Int)))) (x_move rfl) rfl ?_
                    refine Wl_cutN 6 (fun ρ w' => Agree ρ [(7, pt b50 0), (9, .int .i64 x4799), (10, .int .i64 x10338), (11, pt b11397 0), (12, pt b11399 0), (99, .bool ((((rd x815 x4799).over == (0 : Int)) || ((rd x815 x10338).over == (0 : Int))) || (decide ((rd x815 x4799).begun > (rd x815 x10338).over))))] ∧ w11440 = w') ?_ ?_
                    · rcases boolCases (((rd x815 x4799).over == (0 : Int)) || ((rd x815 x10338).over == (0 : Int))) with hb11442 | hb11442
                      · skip
                        refine W_yes (congrArg some hb11442) (W_v (pt b11397 4) (x_fieldAddr (o := 0) (off := 4) Tryd.underlying52 rfl ty3 rfl rfl) rfl (W_yes (congrArg some hb11442) (W_v (.int .i64 ((rd x815 x4799).begun)) (x_load (S.blk 1 rfl) ty3 rfl rfl) rfl (W_yes (congrArg some hb11442) (W_v (pt b11399 5) (x_fieldAddr (o := 0) (off := 5) Tryd.underlying52 rfl ty3 rfl rfl) rfl (W_yes (congrArg some hb11442) (W_v (.int .i64 ((rd x815 x10338).over)) (x_load (S.blk 0 rfl) ty3 rfl rfl) rfl (W_yes (congrArg some hb11442) (W_v (.bool (decide ((rd x815 x4799).begun > (rd x815 x10338).over))) (x_ibin rfl rfl rfl rfl) rfl (W_v (.bool (decide ((rd x815 x4799).begun > (rd x815 x10338).over))) (x_pick (k := false) (congrArg Value.bool hb11442) rfl) rfl (Wl_nil ?_)))))))))))
                        exact ⟨⟨rfl, rfl, rfl, rfl, rfl, (by first | rfl | (rw [hb11442]; rfl) | (simp only [hb11442]; rfl)), trivial⟩, rfl⟩
                      · skip
                        refine W_no (skF hb11442) rfl (W_no (skF hb11442) rfl (W_no (skF hb11442) rfl (W_no (skF hb11442) rfl (W_no (skF hb11442) rfl (W_v (.bool true) (x_pick (k := true) (congrArg Value.bool hb11442) rfl) rfl (Wl_nil ?_))))))
                        exact ⟨⟨rfl, rfl, rfl, rfl, rfl, (by first | rfl | (rw [hb11442]; rfl) | (simp only [hb11442]; rfl)), trivial⟩, rfl⟩
                    as_aux_lemma =>
                    rintro ρ _ ⟨hρ, rfl⟩
                    rw [agree_eta hρ]
                    refine W_v (.bool ((((rd x815 x4799).over == (0 : Int)) || ((rd x815 x10338).over == (0 : Int))) || (decide ((rd x815 x4799).begun > (rd x815 x10338).over)))) (x_move rfl) rfl ?_
                    refine Wl_cutN 6 (fun ρ w' => Agree ρ [(7, pt b50 0), (9, .int .i64 x4799), (10, .int .i64 x10338), (11, pt b11397 0), (12, pt b11399 0), (106, .bool (((((rd x815 x4799).over == (0 : Int)) || ((rd x815 x10338).over == (0 : Int))) || (decide ((rd x815 x4799).begun > (rd x815 x10338).over))) || (decide ((rd x815 x10338).begun > (rd x815 x4799).over))))] ∧ w11440 = w') ?_ ?_
                    · rcases boolCases ((((rd x815 x4799).over == (0 : Int)) || ((rd x815 x10338).over == (0 : Int))) || (decide ((rd x815 x4799).begun > (rd x815 x10338).over))) with hb11443 | hb11443
                      · skip
                        refine W_yes (congrArg some hb11443) (W_v (pt b11399 4) (x_fieldAddr (o := 0) (off := 4) Tryd.underlying52 rfl ty3 rfl rfl) rfl (W_yes (congrArg some hb11443) (W_v (.int .i64 ((rd x815 x10338).begun)) (x_load (S.blk 0 rfl) ty3 rfl rfl) rfl (W_yes (congrArg some hb11443) (W_v (pt b11397 5) (x_fieldAddr (o := 0) (off := 5) Tryd.underlying52 rfl ty3 rfl rfl) rfl (W_yes (congrArg some hb11443) (W_v (.int .i64 ((rd x815 x4799).over)) (x_load (S.blk 1 rfl) ty3 rfl rfl) rfl (W_yes (congrArg some hb11443) (W_v (.bool (decide ((rd x815 x10338).begun > (rd x815 x4799).over))) (x_ibin rfl rfl rfl rfl) rfl (W_v (.bool (decide ((rd x815 x10338).begun > (rd x815 x4799).over))) (x_pick (k := false) (congrArg Value.bool hb11443) rfl) rfl (Wl_nil ?_)))))))))))
                        exact ⟨⟨rfl, rfl, rfl, rfl, rfl, (by first | rfl | (rw [hb11443]; rfl) | (simp only [hb11443]; rfl)), trivial⟩, rfl⟩
                      · skip
                        refine W_no (skF hb11443) rfl (W_no (skF hb11443) rfl (W_no (skF hb11443) rfl (W_no (skF hb11443) rfl (W_no (skF hb11443) rfl (W_v (.bool true) (x_pick (k := true) (congrArg Value.bool hb11443) rfl) rfl (Wl_nil ?_))))))
                        exact ⟨⟨rfl, rfl, rfl, rfl, rfl, (by first | rfl | (rw [hb11443]; rfl) | (simp only [hb11443]; rfl)), trivial⟩, rfl⟩
                    as_aux_lemma =>
                    rintro ρ _ ⟨hρ, rfl⟩
                    rw [agree_eta hρ]
                    refine Wl_nil (tn ?_)
                    rcases iteS H with ⟨hb11444, H⟩ | ⟨hb11444, H⟩
                    · refine Wp_cond_true (congrArg Value.bool hb11444) ?_
                      refine Wp_exit ?_
                      refine tx (bsm (?_))
                      refine tn (Wp_region_lit (W_v (.int .i64 x10338) (x_move rfl) rfl (W_v (.int .i64 (IntKind.i64.wrap (x10338 + (1 : Int)))) (x_ibin rfl rfl rfl rfl) rfl (W_v (.int .i64 (IntKind.i64.wrap (x10338 + (1 : Int)))) (x_assign rfl) rfl (Wl_nil (tn ?_))))))
                      exact ⟨k, Nat.lt_succ_self k, ⟨(IntKind.i64.wrap (x10338 + (1 : Int))), H, ⟨rfl, rfl, rfl, trivial⟩, E, S.pick [2, 3] (by decide)⟩⟩
                    refine Wp_cond_false (congrArg Value.bool hb11444) (Wp_skip (tn (Wp_seq (Wp_region_lit (W_v (.int .i64 0) (x_assign rfl) rfl (Wl_nil (tn ?_)))))))
                    obtain ⟨o11997, o11997h, o11997H⟩ := bindS H
                    refine Wp_blockJ (fun ρ w' => .inr () = o11997 ∧ Agree ρ [(7, pt b50 0), (9, .int .i64 x4799), (10, .int .i64 x10338)] ∧ Ext w w' ∧ St w' M1099 F [Row r_ferrymanlaw16_fact 54 (.slice A812 x811.length c813) x811, Blk b50 (.cells #[.int .i64 x810, .slice A812 x811.length c813, .slice A816 x815.length c817] 35 (0, 0))]) ?_ ?_
                    · skip
                      refine Wp_loop (fun n ρ w' => ∃ (x11813 : Int), ferrymanlaw16_ModelFirst_l63 x815 x4799 x10338 n x11813 = some o11997 ∧ Agree ρ [(7, pt b50 0), (9, .int .i64 x4799), (10, .int .i64 x10338), (11, pt b11397 0), (12, pt b11399 0), (13, .int .i64 x11813)] ∧ Ext w w' ∧ St w' M1099 F [B52 b11399 (rd x815 x10338) A11377 c11378, B52 b11397 (rd x815 x4799) A11363 c11364, Row r_ferrymanlaw16_fact 54 (.slice A812 x811.length c813) x811, Blk b50 (.cells #[.int .i64 x810, .slice A812 x811.length c813, .slice A816 x815.length c817] 35 (0, 0))]) k ?_ ?_
                      · skip
                        exact ⟨(0 : Int), o11997h, ⟨rfl, rfl, rfl, rfl, rfl, rfl, trivial⟩, E, S.pick [0, 1, 2, 3] (by decide)⟩
                      · intro n
                        rintro ρ w11998 ⟨x11813, H, hρ, E, S⟩
                        rw [agree_eta hρ]
                        cases n with
                        | zero => cases H
                        | succ k =>
                          rw [ferrymanlaw16_ModelFirst_l63.eq_2] at H
                          refine Wp_seq (Wp_seq (Wp_region_lit (W_v (.int .i64 x11813) (x_move rfl) rfl (W_v (pt b11397 3) (x_fieldAddr (o := 0) (off := 3) Tryd.underlying52 rfl ty32 rfl rfl) rfl (W_v (.slice A11363 ((rd x815 x4799).writes).length c11364) (x_load (S.blk 1 rfl) ty32 rfl rfl) rfl (W_v (.int .i64 (((rd x815 x4799).writes).length : Int)) (x_len_slice (n := ((rd x815 x4799).writes).length) Tryd.underlying32 rfl) rfl (W_v (.bool (decide (x11813 < (((rd x815 x4799).writes).length : Int)))) (x_ibin rfl rfl rfl rfl) rfl (Wl_nil (tn ?_)))))))))
                          rcases iteS H with ⟨hb11999, H⟩ | ⟨hb11999, H⟩
                          · refine Wp_cond_true (congrArg Value.bool hb11999) ?_
                            refine Wp_skip (tn (Wp_seq ?_))
                            refine Wp_block ?_
                            refine Wp_seq (Wp_region_lit (W_v (.int .i64 0) (x_assign rfl) rfl (Wl_nil (tn ?_))))
                            obtain ⟨o12135, o12135h, o12135H⟩ := bindS H
                            refine Wp_blockJ (fun ρ w' => .inr () = o12135 ∧ Agree ρ [(7, pt b50 0), (9, .int .i64 x4799), (10, .int .i64 x10338), (11, pt b11397 0), (12, pt b11399 0), (13, .int .i64 x11813)] ∧ Ext w w' ∧ St w' M1099 F [B52 b11399 (rd x815 x10338) A11377 c11378, B52 b11397 (rd x815 x4799) A11363 c11364, Row r_ferrymanlaw16_fact 54 (.slice A812 x811.length c813) x811, Blk b50 (.cells #[.int .i64 x810, .slice A812 x811.length c813, .slice A816 x815.length c817] 35 (0, 0))]) ?_ ?_
                            · skip
                              refine Wp_loop (fun n ρ w' => ∃ (x12090 : Int), ferrymanlaw16_ModelFirst_l65 x815 x4799 x10338 x11813 n x12090 = some o12135 ∧ Agree ρ [(7, pt b50 0), (9, .int .i64 x4799), (10, .int .i64 x10338), (11, pt b11397 0), (12, pt b11399 0), (13, .int .i64 x11813), (14, .int .i64 x12090)] ∧ Ext w w' ∧ St w' M1099 F [B52 b11399 (rd x815 x10338) A11377 c11378, B52 b11397 (rd x815 x4799) A11363 c11364, Row r_ferrymanlaw16_fact 54 (.slice A812 x811.length c813) x811, Blk b50 (.cells #[.int .i64 x810, .slice A812 x811.length c813, .slice A816 x815.length c817] 35 (0, 0))]) k ?_ ?_
                              · skip
                                exact ⟨(0 : Int), o12135h, ⟨rfl, rfl, rfl, rfl, rfl, rfl, rfl, trivial⟩, E, S.pick [0, 1, 2, 3] (by decide)⟩
                              · intro n
                                rintro ρ w12136 ⟨x12090, H, hρ, E, S⟩
                                rw [agree_eta hρ]
                                cases n with
                                | zero => cases H
                                | succ k =>
                                  rw [ferrymanlaw16_ModelFirst_l65.eq_2] at H
                                  refine Wp_seq (Wp_seq (Wp_region_lit (W_v (.int .i64 x12090) (x_move rfl) rfl (W_v (pt b11399 3) (x_fieldAddr (o := 0) (off := 3) Tryd.underlying52 rfl ty32 rfl rfl) rfl (W_v (.slice A11377 ((rd x815 x10338).writes).length c11378) (x_load (S.blk 0 rfl) ty32 rfl rfl) rfl (W_v (.int .i64 (((rd x815 x10338).writes).length : Int)) (x_len_slice (n := ((rd x815 x10338).writes).length) Tryd.underlying32 rfl) rfl (W_v (.bool (decide (x12090 < (((rd x815 x10338).writes).length : Int)))) (x_ibin rfl rfl rfl rfl) rfl (Wl_nil (tn ?_)))))))))
                                  rcases iteS H with ⟨hb12137, H⟩ | ⟨hb12137, H⟩
                                  · refine Wp_cond_true (congrArg Value.bool hb12137) ?_
                                    refine Wp_skip (tn (Wp_seq ?_))
                                    refine Wp_block ?_
                                    refine Wp_seq ?_
                                    refine Wp_region_any (S := fun w' => ∃ Mx, M1099.le Mx ∧ St w' Mx F [B52 b11399 (rd x815 x10338) A11377 c11378, B52 b11397 (rd x815 x4799) A11363 c11364, Row r_ferrymanlaw16_fact 54 (.slice A812 x811.length c813) x811, Blk b50 (.cells #[.int .i64 x810, .slice A812 x811.length c813, .slice A816 x815.length c817] 35 (0, 0))]) (L := 13) mixed ?_
                                    intro w12158 hw12159 E'
                                    replace S := S.heap hw12159
                                    replace E := E.trans E'
                                    have D3 : ∃ Mx, Hp.le M1099 Mx ∧ St _ Mx F [_, _, _, _] := ⟨_, Hp.le_refl _, S.pick [0, 1, 2, 3] (by decide)⟩
                                    refine Wa_take (i := 0) rfl (by kernel_rfl) rfl rfl (pt b11397 3) rfl (fun w' h' => x_fieldAddr (o := 0) (off := 3) Tryd.underlying52 rfl ty32 rfl rfl) D3 (Wa_take (i := 1) rfl (by kernel_rfl) rfl rfl (.slice A11363 ((rd x815 x4799).writes).length c11364) rfl (fun w' h' => x_load (cls_blk h' 1 rfl) ty32 rfl rfl) D3 (Wa_take (i := 2) rfl (by kernel_rfl) rfl rfl (.int .i64 x11813) rfl (fun w' h' => x_move rfl) D3 ?_))
                                    obtain ⟨⟨p12160, p12161⟩, H⟩ := chkS H
                                    obtain ⟨b12162, o12163, cs12164, _, _, ee12169, hb12165, vs12166, hR12167, hc12168⟩ := SlW.at' hs11365 p12160 p12161
                                    obtain rfl : vs12166 = _ := hR12167
                                    refine Wa_take (i := 3) rfl (by kernel_rfl) rfl rfl (.pointer (some ⟨b12162, o12163 + x11813.toNat * 4, none⟩)) rfl (fun w' h' => x_indexAddr Tryd.underlying32 ty54 (slA ee12169) rfl p12160 p12161) D3 (Wa_take (i := 4) rfl (by kernel_rfl) rfl rfl (.pointer (some ⟨b12162, o12163 + x11813.toNat * 4 + 1, none⟩)) rfl (fun w' h' => x_fieldAddr (o := o12163 + x11813.toNat * 4) (off := 1) Tryd.underlying54 rfl ty9 rfl rfl) D3 (Wa_take (i := 5) rfl (by kernel_rfl) rfl rfl (.string (bs ((rd ((rd x815 x4799).writes) x11813).key))) rfl (fun w' h' => x_load (cls_frz h' hb12165) ty9 rfl (hc12168 1 _ rfl)) D3 (Wa_take (i := 6) rfl (by kernel_rfl) rfl rfl (pt b11399 3) rfl (fun w' h' => x_fieldAddr (o := 0) (off := 3) Tryd.underlying52 rfl ty32 rfl rfl) D3 (Wa_take (i := 7) rfl (by kernel_rfl) rfl rfl (.slice A11377 ((rd x815 x10338).writes).length c11378) rfl (fun w' h' => x_load (cls_blk h' 0 rfl) ty32 rfl rfl) D3 (Wa_take (i := 8) rfl (by kernel_rfl) rfl rfl (.int .i64 x12090) rfl (fun w' h' => x_move rfl) D3 ?_)))))
                                    obtain ⟨⟨p12170, p12171⟩, H⟩ := chkS H
                                    obtain ⟨b12172, o12173, cs12174, _, _, ee12179, hb12175, vs12176, hR12177, hc12178⟩ := SlW.at' hs11379 p12170 p12171
                                    obtain rfl : vs12176 = _ := hR12177
                                    refine Wa_take (i := 9) rfl (by kernel_rfl) rfl rfl (.pointer (some ⟨b12172, o12173 + x12090.toNat * 4, none⟩)) rfl (fun w' h' => x_indexAddr Tryd.underlying32 ty54 (slA ee12179) rfl p12170 p12171) D3 (Wa_take (i := 10) rfl (by kernel_rfl) rfl rfl (.pointer (some ⟨b12172, o12173 + x12090.toNat * 4 + 1, none⟩)) rfl (fun w' h' => x_fieldAddr (o := o12173 + x12090.toNat * 4) (off := 1) Tryd.underlying54 rfl ty9 rfl rfl) D3 (Wa_take (i := 11) rfl (by kernel_rfl) rfl rfl (.string (bs ((rd ((rd x815 x10338).writes) x12090).key))) rfl (fun w' h' => x_load (cls_frz h' hb12175) ty9 rfl (hc12178 1 _ rfl)) D3 (Wa_take (i := 12) rfl (by kernel_rfl) rfl rfl (.bool (sbin .eql ((rd ((rd x815 x4799).writes) x11813).key) ((rd ((rd x815 x10338).writes) x12090).key))) rfl (fun w' h' => x_sbin rfl rfl rfl) D3 ?_)))
                                    refine Wa_done (by kernel_rfl) ?_
                                    refine tn ?_
                                    rcases iteS H with ⟨hb12180, H⟩ | ⟨hb12180, H⟩
                                    · refine Wp_cond_true (congrArg Value.bool hb12180) ?_
                                      refine Wp_seq (Wp_region_lit (W_v (.bool false) (x_assign rfl) rfl (Wl_nil (tn ?_))))
                                      refine Wp_ret ?_
                                      refine br (tr (tr (br (tr (br (tr (tr (br (tr (br (tr (tr (br (tr (br (tr (tr (br (tr (tr (?_)))))))))))))))))))))
                                      obtain rfl := Option.some.inj H
                                      have H := o12135H
                                      replace H := elimL H
                                      obtain rfl := Option.some.inj H
                                      have H := o11997H
                                      replace H := elimL H
                                      obtain rfl := Option.some.inj H
                                      have H := o11260H
                                      replace H := elimL H
                                      obtain rfl := Option.some.inj H
                                      have H := o8491H
                                      replace H := elimL H
                                      obtain rfl := Option.some.inj H
                                      exact ⟨_, _, _, fun w1 e1 => run_resR (vs := [.bool false]) (FA.cons (rfl) (FA.nil)), HM, E, S.pick [] (by decide), ⟨rfl, rfl⟩⟩
                                    refine Wp_cond_false (congrArg Value.bool hb12180) (Wp_skip (bn (tn (Wp_region_lit (W_v (.int .i64 x12090) (x_move rfl) rfl (W_v (.int .i64 (IntKind.i64.wrap (x12090 + (1 : Int)))) (x_ibin rfl rfl rfl rfl) rfl (W_v (.int .i64 (IntKind.i64.wrap (x12090 + (1 : Int)))) (x_assign rfl) rfl (Wl_nil (tn ?_)))))))))
                                    exact ⟨k, Nat.lt_succ_self k, ⟨(IntKind.i64.wrap (x12090 + (1 : Int))), H, ⟨rfl, rfl, rfl, rfl, rfl, rfl, rfl, trivial⟩, E, S.pick [0, 1, 2, 3] (by decide)⟩⟩
                                  refine Wp_cond_false (congrArg Value.bool hb12137) ?_
                                  refine Wp_exit ?_
                                  refine tx (tx (bsm (?_)))
                                  refine tn ?_
                                  exact ⟨Option.some.inj H, ⟨rfl, rfl, rfl, rfl, rfl, rfl, trivial⟩, E, S.pick [0, 1, 2, 3] (by decide)⟩
                            rintro ρ w12181 ⟨rfl, hρ, E, S⟩
                            rw [agree_eta hρ]
                            have H := o12135H
                            replace H := elimR H
                            refine bn (tn (Wp_region_lit (W_v (.int .i64 x11813) (x_move rfl) rfl (W_v (.int .i64 (IntKind.i64.wrap (x11813 + (1 : Int)))) (x_ibin rfl rfl rfl rfl) rfl (W_v (.int .i64 (IntKind.i64.wrap (x11813 + (1 : Int)))) (x_assign rfl) rfl (Wl_nil (tn ?_)))))))
                            exact ⟨k, Nat.lt_succ_self k, ⟨(IntKind.i64.wrap (x11813 + (1 : Int))), H, ⟨rfl, rfl, rfl, rfl, rfl, rfl, trivial⟩, E, S.pick [0, 1, 2, 3] (by decide)⟩⟩
                          refine Wp_cond_false (congrArg Value.bool hb11999) ?_
                          refine Wp_exit ?_
                          refine tx (tx (bsm (?_)))
                          refine tn ?_
                          exact ⟨Option.some.inj H, ⟨rfl, rfl, rfl, trivial⟩, E, S.pick [2, 3] (by decide)⟩
                    rintro ρ w12182 ⟨rfl, hρ, E, S⟩
                    rw [agree_eta hρ]
                    have H := o11997H
                    replace H := elimR H
                    refine bn (tn (Wp_region_lit (W_v (.int .i64 x10338) (x_move rfl) rfl (W_v (.int .i64 (IntKind.i64.wrap (x10338 + (1 : Int)))) (x_ibin rfl rfl rfl rfl) rfl (W_v (.int .i64 (IntKind.i64.wrap (x10338 + (1 : Int)))) (x_assign rfl) rfl (Wl_nil (tn ?_)))))))
                    exact ⟨k, Nat.lt_succ_self k, ⟨(IntKind.i64.wrap (x10338 + (1 : Int))), H, ⟨rfl, rfl, rfl, trivial⟩, E, S.pick [0, 1] (by decide)⟩⟩
                  refine Wp_cond_false (congrArg Value.bool hb11262) ?_
                  refine Wp_exit ?_
                  refine tx (tx (bsm (?_)))
                  refine tn ?_
                  exact ⟨Option.some.inj H, ⟨rfl, rfl, trivial⟩, E, S.pick [0, 1] (by decide)⟩
            rintro ρ w12183 ⟨rfl, hρ, E, S⟩
            rw [agree_eta hρ]
            have H := o11260H
            replace H := elimR H
            refine bn (tn (Wp_region_lit (W_v (.int .i64 x4799) (x_move rfl) rfl (W_v (.int .i64 (IntKind.i64.wrap (x4799 + (1 : Int)))) (x_ibin rfl rfl rfl rfl) rfl (W_v (.int .i64 (IntKind.i64.wrap (x4799 + (1 : Int)))) (x_assign rfl) rfl (Wl_nil (tn ?_)))))))
            exact ⟨k, Nat.lt_succ_self k, ⟨(IntKind.i64.wrap (x4799 + (1 : Int))), H, ⟨rfl, rfl, trivial⟩, E, S.pick [0, 1] (by decide)⟩⟩
          refine Wp_cond_false (congrArg Value.bool hb8493) ?_
          refine Wp_exit ?_
          refine tx (tx (bsm (?_)))
          refine tn ?_
          exact ⟨Option.some.inj H, trivial, E, S.pick [] (by decide)⟩
    rintro ρ w12184 ⟨rfl, hρ, E, S⟩
    rw [agree_eta hρ]
    have H := o8491H
    replace H := elimR H
    refine tn ?_
    as_aux_lemma =>
    refine Wp_seq (Wp_region_lit (W_v (.bool true) (x_assign rfl) rfl (Wl_nil (tn ?_))))
    refine Wp_ret ?_
    obtain rfl := Option.some.inj H
    exact ⟨_, _, _, fun w1 e1 => run_resR (vs := [.bool true]) (FA.cons (rfl) (FA.nil)), HM, E, S.pick [] (by decide), ⟨rfl, rfl⟩⟩
end Go.Proofs.YtcngjjlhdlbogaaDoor
