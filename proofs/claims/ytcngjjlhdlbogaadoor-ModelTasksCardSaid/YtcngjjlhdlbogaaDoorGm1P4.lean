import Derived.Test.YtcngjjlhdlbogaaDoorGm1B
import Derived.Test.YtcngjjlhdlbogaaDoorGm1P0
import Derived.Test.YtcngjjlhdlbogaaDoorGm1P1
import Derived.Test.YtcngjjlhdlbogaaDoorGm1P2
import Derived.Test.YtcngjjlhdlbogaaDoorGm1P3
namespace Go.Proofs.YtcngjjlhdlbogaaDoor
open Go
set_option linter.unusedVariables false
set_option linter.unusedSimpArgs false
/-! ### ferryman/ferrymanlaw16.same: function 34 -/
def ferrymanlaw16_same_POOOO_POOOO_l0 (a0 : model_Model) (a1 : model_Model) (t1 : (List Str)) (t9 : (List Str)) : Nat → Int → Option ((Bool) ⊕ (Unit))
  | 0, _ => none
  | k + 1, x536 => (if (decide (x536 < (t1.length : Int))) = true then (if 0 ≤ x536 ∧ x536 < (t1.length : Int) then (Option.bind (model_Model_Intent_POOOO k a0 (rd t1 x536)) (fun t740 => (if 0 ≤ x536 ∧ x536 < (t1.length : Int) then (Option.bind (model_Model_Intent_POOOO k a1 (rd t1 x536)) (fun t759 => (if 0 ≤ x536 ∧ x536 < (t1.length : Int) then (if 0 ≤ x536 ∧ x536 < (t9.length : Int) then (Option.bind (α := Bool) (if (((sbin .neq (rd t1 x536) (rd t9 x536)) || (!((t740.1.Writer == t759.1.Writer) && ((t740.1.TS == t759.1.TS) && ((t740.1.Tomb == t759.1.Tomb) && (t740.1.Value == t759.1.Value)))))) || (!(t740.2 == t759.2))) = true then some (true) else (if 0 ≤ x536 ∧ x536 < (t1.length : Int) then (if 0 ≤ x536 ∧ x536 < (t1.length : Int) then (Option.bind (model_Model_Versions_POOOO k a0 (rd t1 x536)) (fun t898 => (Option.bind (model_Model_Versions_POOOO k a1 (rd t1 x536)) (fun t906 => (Option.bind (ferrymanref11_Same k t898 t906) (fun t914 => some ((!t914)))))))) else none) else none)) (fun x886 => (if x886 = true then some (.inl false) else ferrymanlaw16_same_POOOO_POOOO_l0 a0 a1 t1 t9 k (IntKind.i64.wrap (x536 + (1 : Int)))))) else none) else none))) else none))) else none) else some (.inr ()))
set_option maxHeartbeats 2000000 in
theorem ferrymanlaw16_same_POOOO_POOOO_l0.mono {a0 : model_Model} {a1 : model_Model} {t1 : (List Str)} {t9 : (List Str)} : ∀ {kl : Nat} {x0}, OLe (ferrymanlaw16_same_POOOO_POOOO_l0 a0 a1 t1 t9 kl x0) (ferrymanlaw16_same_POOOO_POOOO_l0 a0 a1 t1 t9 (kl + 1) x0) := by
  intro kl
  induction kl with
  | zero => intros; exact OLe.none
  | succ kl ih =>
    intros
    rw [ferrymanlaw16_same_POOOO_POOOO_l0.eq_2, ferrymanlaw16_same_POOOO_POOOO_l0.eq_2]
    repeat' (first | with_reducible exact OLe.none | with_reducible exact OLe.some | with_reducible refine OLe.ite ?_ ?_ | with_reducible refine OLe.bind ?_ (fun _ => ?_) | with_reducible exact ferrymanref11_Same.mono | with_reducible exact model_Model_Intent_POOOO.mono | with_reducible exact model_Model_Versions_POOOO.mono | exact ih | refine OLe.bind ?_ (fun _ => ?_) | refine OLe.ite ?_ ?_ | refine OLe.elim (fun _ => ?_) (fun _ => ?_) | split)
def ferrymanlaw16_same_POOOO_POOOO (k : Nat) (a0 : model_Model) (a1 : model_Model) : Option (Bool) :=
  (Option.bind (model_Model_Keys_POOOO k a0) (fun t1 => (Option.bind (model_Model_Keys_POOOO k a1) (fun t9 => (Option.bind (α := Bool) (if ((t1.length : Int) != (t9.length : Int)) = true then some (true) else (Option.bind (model_Model_Retained_POOOO k a0) (fun t40 => (Option.bind (model_Model_Retained_POOOO k a1) (fun t45 => some ((t40 != t45))))))) (fun x38 => (Option.bind (α := Bool) (if x38 = true then some (true) else (Option.bind (model_Model_Active_POOOO k a0) (fun t74 => (Option.bind (model_Model_Active_POOOO k a1) (fun t79 => some ((t74 != t79))))))) (fun x72 => (Option.bind (α := Bool) (if x72 = true then some (true) else (Option.bind (model_Model_Clock_POOOO k a0) (fun t108 => (Option.bind (model_Model_Clock_POOOO k a1) (fun t113 => some ((t108 != t113))))))) (fun x106 => (Option.bind (α := Bool) (if x106 = true then some (true) else (Option.bind (model_Model_Floor_POOOO k a0) (fun t142 => (Option.bind (model_Model_Floor_POOOO k a1) (fun t147 => some ((t142 != t147))))))) (fun x140 => (if x140 = true then some false else (Option.bind (ferrymanlaw16_same_POOOO_POOOO_l0 a0 a1 t1 t9 k (0 : Int)) (fun o727o => Sum.elim (fun r' => some r') (fun _ => some true) o727o)))))))))))))))
set_option maxHeartbeats 2000000 in
theorem ferrymanlaw16_same_POOOO_POOOO.mono {k : Nat} {a0 : model_Model} {a1 : model_Model} : OLe (ferrymanlaw16_same_POOOO_POOOO k a0 a1) (ferrymanlaw16_same_POOOO_POOOO (k + 1) a0 a1) := by
  unfold ferrymanlaw16_same_POOOO_POOOO
  repeat' (first | with_reducible exact OLe.none | with_reducible exact OLe.some | with_reducible refine OLe.ite ?_ ?_ | with_reducible refine OLe.bind ?_ (fun _ => ?_) | with_reducible exact ferrymanlaw16_same_POOOO_POOOO_l0.mono | with_reducible exact model_Model_Active_POOOO.mono | with_reducible exact model_Model_Clock_POOOO.mono | with_reducible exact model_Model_Floor_POOOO.mono | with_reducible exact model_Model_Keys_POOOO.mono | with_reducible exact model_Model_Retained_POOOO.mono | refine OLe.bind ?_ (fun _ => ?_) | refine OLe.ite ?_ ?_ | refine OLe.elim (fun _ => ?_) (fun _ => ?_) | split)
set_option maxHeartbeats 4000000 in
set_option maxRecDepth 100000 in
theorem ferrymanlaw16_same_POOOO_POOOO.con (k : Nat) (M : Hp) (A0_8 : Option Addr) (c0_8 : Nat) (A0_9 : Option Addr) (c0_9 : Nat) (A0_10 : Option Addr) (c0_10 : Nat) (A0_11 : Option Addr) (c0_11 : Nat) (vs0_11 : List (Str × Value)) (a0 : model_Model) (A1_8 : Option Addr) (c1_8 : Nat) (A1_9 : Option Addr) (c1_9 : Nat) (A1_10 : Option Addr) (c1_10 : Nat) (A1_11 : Option Addr) (c1_11 : Nat) (vs1_11 : List (Str × Value)) (a1 : model_Model) (bo0 : Nat) (bo1 : Nat) (r : Bool) (hm0_11 : MRel r_model_row M a0.rows vs0_11) (hm1_11 : MRel r_model_row M a1.rows vs1_11) (h : ferrymanlaw16_same_POOOO_POOOO k a0 a1 = some r) : Con Tryd.prog 34 #[.pointer (some ⟨bo0, 0, none⟩), .pointer (some ⟨bo1, 0, none⟩)] M [B94 bo0 a0 A0_8 A0_9 A0_10 c0_10 A0_11, MapC enc_model_name (Value.int .i64) A0_8 a0.names, MapC (Value.int .i64) (Value.int .i64) A0_9 a0.many, Row r_model_tx 99 (.slice A0_10 a0.txs.length c0_10) a0.txs, MapC encS (fun v : Value => v) A0_11 vs0_11, B94 bo1 a1 A1_8 A1_9 A1_10 c1_10 A1_11, MapC enc_model_name (Value.int .i64) A1_8 a1.names, MapC (Value.int .i64) (Value.int .i64) A1_9 a1.many, Row r_model_tx 99 (.slice A1_10 a1.txs.length c1_10) a1.txs, MapC encS (fun v : Value => v) A1_11 vs1_11] (fun v M' Γ' => v = .bool r ∧ Γ' = [B94 bo0 a0 A0_8 A0_9 A0_10 c0_10 A0_11, MapC enc_model_name (Value.int .i64) A0_8 a0.names, MapC (Value.int .i64) (Value.int .i64) A0_9 a0.many, Row r_model_tx 99 (.slice A0_10 a0.txs.length c0_10) a0.txs, MapC encS (fun v : Value => v) A0_11 vs0_11, B94 bo1 a1 A1_8 A1_9 A1_10 c1_10 A1_11, MapC enc_model_name (Value.int .i64) A1_8 a1.names, MapC (Value.int .i64) (Value.int .i64) A1_9 a1.many, Row r_model_tx 99 (.slice A1_10 a1.txs.length c1_10) a1.txs, MapC encS (fun v : Value => v) A1_11 vs1_11]) := by
  refine con_of_wp Tryd.func34 rfl Tryd.ntmps34 Tryd.results34 rfl ?_
  intro w F rn S hrn
  have E := Ext.refl w
  have HM := Hp.le_refl M
  have H := h
  unfold ferrymanlaw16_same_POOOO_POOOO at H
  refine Wp_seq ?_
  refine Wp_region_lit ?_
  refine W_v (.bool false) (x_assign rfl) rfl ?_
  refine Wl_nil ?_
  refine tn ?_
  refine Wp_seq ?_
  refine Wp_region_lit ?_
  refine W_v _ (x_move rfl) rfl ?_
  obtain ⟨t1, ht2, H⟩ := bindS H
  refine W_callF2 fn27 (model_Model_Keys_POOOO.con k M A0_8 c0_8 A0_9 c0_9 A0_10 c0_10 A0_11 c0_11 vs0_11 a0 bo0 t1 hm0_11 ht2) (Γ1 := [_, _, _, _, _]) (Γ2 := [_, _, _, _, _]) S rfl rfl (by rintro _ _ _ ⟨_, _, rfl, rfl⟩; exact (flat_cons (flat_row (fun _ _ _ _ h => h)) (flat_cons flat_blk (flat_cons flat_map (flat_cons flat_map (flat_cons (flat_row (fun _ _ _ _ h => h)) (flat_cons flat_map flat_nil))))))) ?_
  rintro _ w6 _ Γ' E' S ⟨A3, c4, rfl, rfl⟩
  replace E := E.trans E'
  clear E'
  replace S : St w6 M F [_, _, _, _, _, _, _, _, _, _, _] := S
  refine W_v _ (x_move rfl) rfl ?_
  obtain ⟨t9, ht10, H⟩ := bindS H
  replace S : St w6 M F [_, _, _, _, _, _, _, _, _, _, _] := S.pick [6, 7, 8, 9, 10, 0, 1, 2, 3, 4, 5] (by decide)
  refine W_callF2 fn27 (model_Model_Keys_POOOO.con k M A1_8 c1_8 A1_9 c1_9 A1_10 c1_10 A1_11 c1_11 vs1_11 a1 bo1 t9 hm1_11 ht10) (Γ1 := [_, _, _, _, _]) (Γ2 := [_, _, _, _, _, _]) S rfl rfl (by rintro _ _ _ ⟨_, _, rfl, rfl⟩; exact (flat_cons (flat_row (fun _ _ _ _ h => h)) (flat_cons flat_blk (flat_cons flat_map (flat_cons flat_map (flat_cons (flat_row (fun _ _ _ _ h => h)) (flat_cons flat_map flat_nil))))))) ?_
  rintro _ w14 _ Γ' E' S ⟨A11, c12, rfl, rfl⟩
  replace E := E.trans E'
  clear E'
  replace S : St w14 M F [_, _, _, _, _, _, _, _, _, _, _, _] := S
  refine W_v (.slice A3 t1.length c4) (x_assign rfl) rfl ?_
  refine W_v (.slice A11 t9.length c12) (x_assign rfl) rfl ?_
  refine Wl_nil ?_
  refine tn ?_
  refine Wp_seq ?_
  refine Wp_seq ?_
  refine Wp_region_lit ?_
  refine W_v _ (x_move rfl) rfl ?_
  refine W_v (.int .i64 (t1.length : Int)) (x_len_slice (n := t1.length) Tryd.underlying67 rfl) rfl ?_
  refine W_v _ (x_move rfl) rfl ?_
  refine W_v (.int .i64 (t9.length : Int)) (x_len_slice (n := t9.length) Tryd.underlying67 rfl) rfl ?_
  refine W_v (.bool ((t1.length : Int) != (t9.length : Int))) (x_ibin rfl rfl rfl rfl) rfl ?_
  refine W_v _ (x_move rfl) rfl ?_
  obtain ⟨o39, o39h, o39H⟩ := bindS H
  clear H
  refine Wl_cutN 6 (fun ρ w' => ∃ (x38 : Bool), (x38) = o39 ∧ Agree ρ [(0, .pointer (some ⟨bo0, 0, none⟩)), (1, .pointer (some ⟨bo1, 0, none⟩)), (5, .slice A3 t1.length c4), (6, .slice A11 t9.length c12), (27, .bool x38)] ∧ Ext w w' ∧ St w' M F [Row rStr 9 (.slice A11 t9.length c12) t9, B94 bo1 a1 A1_8 A1_9 A1_10 c1_10 A1_11, MapC enc_model_name (Value.int .i64) A1_8 a1.names, MapC (Value.int .i64) (Value.int .i64) A1_9 a1.many, Row r_model_tx 99 (.slice A1_10 a1.txs.length c1_10) a1.txs, MapC encS (fun v : Value => v) A1_11 vs1_11, Row rStr 9 (.slice A3 t1.length c4) t1, B94 bo0 a0 A0_8 A0_9 A0_10 c0_10 A0_11, MapC enc_model_name (Value.int .i64) A0_8 a0.names, MapC (Value.int .i64) (Value.int .i64) A0_9 a0.many, Row r_model_tx 99 (.slice A0_10 a0.txs.length c0_10) a0.txs, MapC encS (fun v : Value => v) A0_11 vs0_11]) ?_ ?_
  · have H := o39h
    rcases iteS H with ⟨hb37, H⟩ | ⟨hb37, H⟩
    · skip
      refine W_no (skF hb37) rfl ?_
      refine W_no (skF hb37) rfl ?_
      refine W_no (skF hb37) rfl ?_
      refine W_no (skF hb37) rfl ?_
      refine W_no (skF hb37) rfl ?_
      refine W_v _ (x_pick (k := true) (congrArg Value.bool hb37) rfl) rfl ?_
      refine Wl_nil ?_
      exact ⟨true, Option.some.inj H, ⟨rfl, rfl, rfl, rfl, rfl, trivial⟩, E, S.pick [0, 1, 2, 3, 4, 5, 6, 7, 8, 9, 10, 11] (by decide)⟩
    · skip
      refine W_yes (congrArg some hb37) ?_
      refine W_v _ (x_move rfl) rfl ?_
      refine W_yes (congrArg some hb37) ?_
      obtain ⟨t40, ht41, H⟩ := bindS H
      replace S : St w14 M F [_, _, _, _, _, _, _, _, _, _, _, _] := S.pick [7, 8, 9, 10, 11, 0, 1, 2, 3, 4, 5, 6] (by decide)
      refine W_callF2 fn22 (model_Model_Retained_POOOO.con k M A0_8 c0_8 A0_9 c0_9 A0_10 c0_10 A0_11 c0_11 vs0_11 a0 bo0 t40 hm0_11 ht41) (Γ1 := [_, _, _, _, _]) (Γ2 := [_, _, _, _, _, _, _]) S rfl rfl (by rintro _ _ _ ⟨rfl, rfl⟩; exact (flat_cons flat_blk (flat_cons flat_map (flat_cons flat_map (flat_cons (flat_row (fun _ _ _ _ h => h)) (flat_cons flat_map flat_nil)))))) ?_
      rintro _ w42 _ Γ' E' S ⟨rfl, rfl⟩
      replace E := E.trans E'
      clear E'
      replace S : St w42 M F [_, _, _, _, _, _, _, _, _, _, _, _] := S
      refine W_yes (congrArg some hb37) ?_
      refine W_v _ (x_move rfl) rfl ?_
      refine W_yes (congrArg some hb37) ?_
      obtain ⟨t45, ht46, H⟩ := bindS H
      replace S : St w42 M F [_, _, _, _, _, _, _, _, _, _, _, _] := S.pick [6, 7, 8, 9, 10, 0, 1, 2, 3, 4, 5, 11] (by decide)
      refine W_callF2 fn22 (model_Model_Retained_POOOO.con k M A1_8 c1_8 A1_9 c1_9 A1_10 c1_10 A1_11 c1_11 vs1_11 a1 bo1 t45 hm1_11 ht46) (Γ1 := [_, _, _, _, _]) (Γ2 := [_, _, _, _, _, _, _]) S rfl rfl (by rintro _ _ _ ⟨rfl, rfl⟩; exact (flat_cons flat_blk (flat_cons flat_map (flat_cons flat_map (flat_cons (flat_row (fun _ _ _ _ h => h)) (flat_cons flat_map flat_nil)))))) ?_
      rintro _ w47 _ Γ' E' S ⟨rfl, rfl⟩
      replace E := E.trans E'
      clear E'
      replace S : St w47 M F [_, _, _, _, _, _, _, _, _, _, _, _] := S
      refine W_yes (congrArg some hb37) ?_
      refine W_v (.bool (t40 != t45)) (x_ibin rfl rfl rfl rfl) rfl ?_
      refine W_v _ (x_pick (k := false) (congrArg Value.bool hb37) rfl) rfl ?_
      refine Wl_nil ?_
      exact ⟨(t40 != t45), Option.some.inj H, ⟨rfl, rfl, rfl, rfl, rfl, trivial⟩, E, S.pick [10, 0, 1, 2, 3, 4, 11, 5, 6, 7, 8, 9] (by decide)⟩
  as_aux_lemma =>
  clear o39h
  rintro ρ w50 ⟨x38, rfl, hρ, E, S⟩
  rw [agree_eta hρ]
  clear hρ
  have H := o39H
  clear o39H
  refine W_v _ (x_move rfl) rfl ?_
  obtain ⟨o73, o73h, o73H⟩ := bindS H
  clear H
  refine Wl_cutN 6 (fun ρ w' => ∃ (x72 : Bool), (x72) = o73 ∧ Agree ρ [(0, .pointer (some ⟨bo0, 0, none⟩)), (1, .pointer (some ⟨bo1, 0, none⟩)), (5, .slice A3 t1.length c4), (6, .slice A11 t9.length c12), (34, .bool x72)] ∧ Ext w w' ∧ St w' M F [Row rStr 9 (.slice A11 t9.length c12) t9, B94 bo1 a1 A1_8 A1_9 A1_10 c1_10 A1_11, MapC enc_model_name (Value.int .i64) A1_8 a1.names, MapC (Value.int .i64) (Value.int .i64) A1_9 a1.many, Row r_model_tx 99 (.slice A1_10 a1.txs.length c1_10) a1.txs, MapC encS (fun v : Value => v) A1_11 vs1_11, Row rStr 9 (.slice A3 t1.length c4) t1, B94 bo0 a0 A0_8 A0_9 A0_10 c0_10 A0_11, MapC enc_model_name (Value.int .i64) A0_8 a0.names, MapC (Value.int .i64) (Value.int .i64) A0_9 a0.many, Row r_model_tx 99 (.slice A0_10 a0.txs.length c0_10) a0.txs, MapC encS (fun v : Value => v) A0_11 vs0_11]) ?_ ?_
  · have H := o73h
    rcases iteS H with ⟨hb71, H⟩ | ⟨hb71, H⟩
    · skip
      refine W_no (skF hb71) rfl ?_
      refine W_no (skF hb71) rfl ?_
      refine W_no (skF hb71) rfl ?_
      refine W_no (skF hb71) rfl ?_
      refine W_no (skF hb71) rfl ?_
      refine W_v _ (x_pick (k := true) (congrArg Value.bool hb71) rfl) rfl ?_
      refine Wl_nil ?_
      exact ⟨true, Option.some.inj H, ⟨rfl, rfl, rfl, rfl, rfl, trivial⟩, E, S.pick [0, 1, 2, 3, 4, 5, 6, 7, 8, 9, 10, 11] (by decide)⟩
    · skip
      refine W_yes (congrArg some hb71) ?_
      refine W_v _ (x_move rfl) rfl ?_
      refine W_yes (congrArg some hb71) ?_
      obtain ⟨t74, ht75, H⟩ := bindS H
      replace S : St w50 M F [_, _, _, _, _, _, _, _, _, _, _, _] := S.pick [7, 8, 9, 10, 11, 0, 1, 2, 3, 4, 5, 6] (by decide)
      refine W_callF2 fn21 (model_Model_Active_POOOO.con k M A0_8 c0_8 A0_9 c0_9 A0_10 c0_10 A0_11 c0_11 vs0_11 a0 bo0 t74 hm0_11 ht75) (Γ1 := [_, _, _, _, _]) (Γ2 := [_, _, _, _, _, _, _]) S rfl rfl (by rintro _ _ _ ⟨rfl, rfl⟩; exact (flat_cons flat_blk (flat_cons flat_map (flat_cons flat_map (flat_cons (flat_row (fun _ _ _ _ h => h)) (flat_cons flat_map flat_nil)))))) ?_
      rintro _ w76 _ Γ' E' S ⟨rfl, rfl⟩
      replace E := E.trans E'
      clear E'
      replace S : St w76 M F [_, _, _, _, _, _, _, _, _, _, _, _] := S
      refine W_yes (congrArg some hb71) ?_
      refine W_v _ (x_move rfl) rfl ?_
      refine W_yes (congrArg some hb71) ?_
      obtain ⟨t79, ht80, H⟩ := bindS H
      replace S : St w76 M F [_, _, _, _, _, _, _, _, _, _, _, _] := S.pick [6, 7, 8, 9, 10, 0, 1, 2, 3, 4, 5, 11] (by decide)
      refine W_callF2 fn21 (model_Model_Active_POOOO.con k M A1_8 c1_8 A1_9 c1_9 A1_10 c1_10 A1_11 c1_11 vs1_11 a1 bo1 t79 hm1_11 ht80) (Γ1 := [_, _, _, _, _]) (Γ2 := [_, _, _, _, _, _, _]) S rfl rfl (by rintro _ _ _ ⟨rfl, rfl⟩; exact (flat_cons flat_blk (flat_cons flat_map (flat_cons flat_map (flat_cons (flat_row (fun _ _ _ _ h => h)) (flat_cons flat_map flat_nil)))))) ?_
      rintro _ w81 _ Γ' E' S ⟨rfl, rfl⟩
      replace E := E.trans E'
      clear E'
      replace S : St w81 M F [_, _, _, _, _, _, _, _, _, _, _, _] := S
      refine W_yes (congrArg some hb71) ?_
      refine W_v (.bool (t74 != t79)) (x_ibin rfl rfl rfl rfl) rfl ?_
      refine W_v _ (x_pick (k := false) (congrArg Value.bool hb71) rfl) rfl ?_
      refine Wl_nil ?_
      exact ⟨(t74 != t79), Option.some.inj H, ⟨rfl, rfl, rfl, rfl, rfl, trivial⟩, E, S.pick [10, 0, 1, 2, 3, 4, 11, 5, 6, 7, 8, 9] (by decide)⟩
  as_aux_lemma =>
  clear o73h
  rintro ρ w84 ⟨x72, rfl, hρ, E, S⟩
  rw [agree_eta hρ]
  clear hρ
  have H := o73H
  clear o73H
  refine W_v _ (x_move rfl) rfl ?_
  obtain ⟨o107, o107h, o107H⟩ := bindS H
  clear H
  refine Wl_cutN 6 (fun ρ w' => ∃ (x106 : Bool), (x106) = o107 ∧ Agree ρ [(0, .pointer (some ⟨bo0, 0, none⟩)), (1, .pointer (some ⟨bo1, 0, none⟩)), (5, .slice A3 t1.length c4), (6, .slice A11 t9.length c12), (41, .bool x106)] ∧ Ext w w' ∧ St w' M F [Row rStr 9 (.slice A11 t9.length c12) t9, B94 bo1 a1 A1_8 A1_9 A1_10 c1_10 A1_11, MapC enc_model_name (Value.int .i64) A1_8 a1.names, MapC (Value.int .i64) (Value.int .i64) A1_9 a1.many, Row r_model_tx 99 (.slice A1_10 a1.txs.length c1_10) a1.txs, MapC encS (fun v : Value => v) A1_11 vs1_11, Row rStr 9 (.slice A3 t1.length c4) t1, B94 bo0 a0 A0_8 A0_9 A0_10 c0_10 A0_11, MapC enc_model_name (Value.int .i64) A0_8 a0.names, MapC (Value.int .i64) (Value.int .i64) A0_9 a0.many, Row r_model_tx 99 (.slice A0_10 a0.txs.length c0_10) a0.txs, MapC encS (fun v : Value => v) A0_11 vs0_11]) ?_ ?_
  · have H := o107h
    rcases iteS H with ⟨hb105, H⟩ | ⟨hb105, H⟩
    · skip
      refine W_no (skF hb105) rfl ?_
      refine W_no (skF hb105) rfl ?_
      refine W_no (skF hb105) rfl ?_
      refine W_no (skF hb105) rfl ?_
      refine W_no (skF hb105) rfl ?_
      refine W_v _ (x_pick (k := true) (congrArg Value.bool hb105) rfl) rfl ?_
      refine Wl_nil ?_
      exact ⟨true, Option.some.inj H, ⟨rfl, rfl, rfl, rfl, rfl, trivial⟩, E, S.pick [0, 1, 2, 3, 4, 5, 6, 7, 8, 9, 10, 11] (by decide)⟩
    · skip
      refine W_yes (congrArg some hb105) ?_
      refine W_v _ (x_move rfl) rfl ?_
      refine W_yes (congrArg some hb105) ?_
      obtain ⟨t108, ht109, H⟩ := bindS H
      replace S : St w84 M F [_, _, _, _, _, _, _, _, _, _, _, _] := S.pick [7, 8, 9, 10, 11, 0, 1, 2, 3, 4, 5, 6] (by decide)
      refine W_callF2 fn19 (model_Model_Clock_POOOO.con k M A0_8 c0_8 A0_9 c0_9 A0_10 c0_10 A0_11 c0_11 vs0_11 a0 bo0 t108 hm0_11 ht109) (Γ1 := [_, _, _, _, _]) (Γ2 := [_, _, _, _, _, _, _]) S rfl rfl (by rintro _ _ _ ⟨rfl, rfl⟩; exact (flat_cons flat_blk (flat_cons flat_map (flat_cons flat_map (flat_cons (flat_row (fun _ _ _ _ h => h)) (flat_cons flat_map flat_nil)))))) ?_
      rintro _ w110 _ Γ' E' S ⟨rfl, rfl⟩
      replace E := E.trans E'
      clear E'
      replace S : St w110 M F [_, _, _, _, _, _, _, _, _, _, _, _] := S
      refine W_yes (congrArg some hb105) ?_
      refine W_v _ (x_move rfl) rfl ?_
      refine W_yes (congrArg some hb105) ?_
      obtain ⟨t113, ht114, H⟩ := bindS H
      replace S : St w110 M F [_, _, _, _, _, _, _, _, _, _, _, _] := S.pick [6, 7, 8, 9, 10, 0, 1, 2, 3, 4, 5, 11] (by decide)
      refine W_callF2 fn19 (model_Model_Clock_POOOO.con k M A1_8 c1_8 A1_9 c1_9 A1_10 c1_10 A1_11 c1_11 vs1_11 a1 bo1 t113 hm1_11 ht114) (Γ1 := [_, _, _, _, _]) (Γ2 := [_, _, _, _, _, _, _]) S rfl rfl (by rintro _ _ _ ⟨rfl, rfl⟩; exact (flat_cons flat_blk (flat_cons flat_map (flat_cons flat_map (flat_cons (flat_row (fun _ _ _ _ h => h)) (flat_cons flat_map flat_nil)))))) ?_
      rintro _ w115 _ Γ' E' S ⟨rfl, rfl⟩
      replace E := E.trans E'
      clear E'
      replace S : St w115 M F [_, _, _, _, _, _, _, _, _, _, _, _] := S
      refine W_yes (congrArg some hb105) ?_
      refine W_v (.bool (t108 != t113)) (x_ibin rfl rfl rfl rfl) rfl ?_
      refine W_v _ (x_pick (k := false) (congrArg Value.bool hb105) rfl) rfl ?_
      refine Wl_nil ?_
      exact ⟨(t108 != t113), Option.some.inj H, ⟨rfl, rfl, rfl, rfl, rfl, trivial⟩, E, S.pick [10, 0, 1, 2, 3, 4, 11, 5, 6, 7, 8, 9] (by decide)⟩
  as_aux_lemma =>
  clear o107h
  rintro ρ w118 ⟨x106, rfl, hρ, E, S⟩
  rw [agree_eta hρ]
  clear hρ
  have H := o107H
  clear o107H
  refine W_v _ (x_move rfl) rfl ?_
  obtain ⟨o141, o141h, o141H⟩ := bindS H
  clear H
  refine Wl_cutN 6 (fun ρ w' => ∃ (x140 : Bool), (x140) = o141 ∧ Agree ρ [(0, .pointer (some ⟨bo0, 0, none⟩)), (1, .pointer (some ⟨bo1, 0, none⟩)), (5, .slice A3 t1.length c4), (6, .slice A11 t9.length c12), (48, .bool x140)] ∧ Ext w w' ∧ St w' M F [Row rStr 9 (.slice A11 t9.length c12) t9, B94 bo1 a1 A1_8 A1_9 A1_10 c1_10 A1_11, MapC enc_model_name (Value.int .i64) A1_8 a1.names, MapC (Value.int .i64) (Value.int .i64) A1_9 a1.many, Row r_model_tx 99 (.slice A1_10 a1.txs.length c1_10) a1.txs, MapC encS (fun v : Value => v) A1_11 vs1_11, Row rStr 9 (.slice A3 t1.length c4) t1, B94 bo0 a0 A0_8 A0_9 A0_10 c0_10 A0_11, MapC enc_model_name (Value.int .i64) A0_8 a0.names, MapC (Value.int .i64) (Value.int .i64) A0_9 a0.many, Row r_model_tx 99 (.slice A0_10 a0.txs.length c0_10) a0.txs, MapC encS (fun v : Value => v) A0_11 vs0_11]) ?_ ?_
  · have H := o141h
    rcases iteS H with ⟨hb139, H⟩ | ⟨hb139, H⟩
    · skip
      refine W_no (skF hb139) rfl ?_
      refine W_no (skF hb139) rfl ?_
      refine W_no (skF hb139) rfl ?_
      refine W_no (skF hb139) rfl ?_
      refine W_no (skF hb139) rfl ?_
      refine W_v _ (x_pick (k := true) (congrArg Value.bool hb139) rfl) rfl ?_
      refine Wl_nil ?_
      exact ⟨true, Option.some.inj H, ⟨rfl, rfl, rfl, rfl, rfl, trivial⟩, E, S.pick [0, 1, 2, 3, 4, 5, 6, 7, 8, 9, 10, 11] (by decide)⟩
    · skip
      refine W_yes (congrArg some hb139) ?_
      refine W_v _ (x_move rfl) rfl ?_
      refine W_yes (congrArg some hb139) ?_
      obtain ⟨t142, ht143, H⟩ := bindS H
      replace S : St w118 M F [_, _, _, _, _, _, _, _, _, _, _, _] := S.pick [7, 8, 9, 10, 11, 0, 1, 2, 3, 4, 5, 6] (by decide)
      refine W_callF2 fn28 (model_Model_Floor_POOOO.con k M A0_8 c0_8 A0_9 c0_9 A0_10 c0_10 A0_11 c0_11 vs0_11 a0 bo0 t142 hm0_11 ht143) (Γ1 := [_, _, _, _, _]) (Γ2 := [_, _, _, _, _, _, _]) S rfl rfl (by rintro _ _ _ ⟨rfl, rfl⟩; exact (flat_cons flat_blk (flat_cons flat_map (flat_cons flat_map (flat_cons (flat_row (fun _ _ _ _ h => h)) (flat_cons flat_map flat_nil)))))) ?_
      rintro _ w144 _ Γ' E' S ⟨rfl, rfl⟩
      replace E := E.trans E'
      clear E'
      replace S : St w144 M F [_, _, _, _, _, _, _, _, _, _, _, _] := S
      refine W_yes (congrArg some hb139) ?_
      refine W_v _ (x_move rfl) rfl ?_
      refine W_yes (congrArg some hb139) ?_
      obtain ⟨t147, ht148, H⟩ := bindS H
      replace S : St w144 M F [_, _, _, _, _, _, _, _, _, _, _, _] := S.pick [6, 7, 8, 9, 10, 0, 1, 2, 3, 4, 5, 11] (by decide)
      refine W_callF2 fn28 (model_Model_Floor_POOOO.con k M A1_8 c1_8 A1_9 c1_9 A1_10 c1_10 A1_11 c1_11 vs1_11 a1 bo1 t147 hm1_11 ht148) (Γ1 := [_, _, _, _, _]) (Γ2 := [_, _, _, _, _, _, _]) S rfl rfl (by rintro _ _ _ ⟨rfl, rfl⟩; exact (flat_cons flat_blk (flat_cons flat_map (flat_cons flat_map (flat_cons (flat_row (fun _ _ _ _ h => h)) (flat_cons flat_map flat_nil)))))) ?_
      rintro _ w149 _ Γ' E' S ⟨rfl, rfl⟩
      replace E := E.trans E'
      clear E'
      replace S : St w149 M F [_, _, _, _, _, _, _, _, _, _, _, _] := S
      refine W_yes (congrArg some hb139) ?_
      refine W_v (.bool (t142 != t147)) (x_ibin rfl rfl rfl rfl) rfl ?_
      refine W_v _ (x_pick (k := false) (congrArg Value.bool hb139) rfl) rfl ?_
      refine Wl_nil ?_
      exact ⟨(t142 != t147), Option.some.inj H, ⟨rfl, rfl, rfl, rfl, rfl, trivial⟩, E, S.pick [10, 0, 1, 2, 3, 4, 11, 5, 6, 7, 8, 9] (by decide)⟩
  as_aux_lemma =>
  clear o141h
  rintro ρ w152 ⟨x140, rfl, hρ, E, S⟩
  rw [agree_eta hρ]
  clear hρ
  have H := o141H
  clear o141H
  refine Wl_nil ?_
  refine tn ?_
  rcases iteS H with ⟨hb153, H⟩ | ⟨hb153, H⟩
  · refine Wp_cond_true (congrArg Value.bool hb153) ?_
    refine Wp_seq ?_
    refine Wp_region_lit ?_
    refine W_v (.bool false) (x_assign rfl) rfl ?_
    refine Wl_nil ?_
    refine tn ?_
    refine Wp_ret ?_
    refine tr (?_)
    obtain rfl := Option.some.inj H
    exact ⟨_, _, _, fun w1 e1 => run_resR (vs := [.bool false]) (FA.cons (rfl) (FA.nil)), HM, E, S.pick [7, 8, 9, 10, 11, 1, 2, 3, 4, 5] (by decide), ⟨rfl, rfl⟩⟩
  refine Wp_cond_false (congrArg Value.bool hb153) ?_
  refine Wp_skip ?_
  refine tn ?_
  refine Wp_seq ?_
  refine Wp_seq ?_
  refine Wp_region_lit ?_
  refine W_v (.int .i64 0) (x_assign rfl) rfl ?_
  refine Wl_nil ?_
  refine tn ?_
  obtain ⟨o727, o727h, o727H⟩ := bindS H
  clear H
  refine Wp_blockJ (fun ρ w' => .inr () = o727 ∧ Agree ρ [] ∧ Ext w w' ∧ St w' M F [B94 bo1 a1 A1_8 A1_9 A1_10 c1_10 A1_11, MapC enc_model_name (Value.int .i64) A1_8 a1.names, MapC (Value.int .i64) (Value.int .i64) A1_9 a1.many, Row r_model_tx 99 (.slice A1_10 a1.txs.length c1_10) a1.txs, MapC encS (fun v : Value => v) A1_11 vs1_11, B94 bo0 a0 A0_8 A0_9 A0_10 c0_10 A0_11, MapC enc_model_name (Value.int .i64) A0_8 a0.names, MapC (Value.int .i64) (Value.int .i64) A0_9 a0.many, Row r_model_tx 99 (.slice A0_10 a0.txs.length c0_10) a0.txs, MapC encS (fun v : Value => v) A0_11 vs0_11]) ?_ ?_
  · skip
    refine Wp_loop (fun n ρ w' => ∃ (x536 : Int), ferrymanlaw16_same_POOOO_POOOO_l0 a0 a1 t1 t9 n x536 = some o727 ∧ Agree ρ [(0, .pointer (some ⟨bo0, 0, none⟩)), (1, .pointer (some ⟨bo1, 0, none⟩)), (5, .slice A3 t1.length c4), (6, .slice A11 t9.length c12), (7, .int .i64 x536)] ∧ Ext w w' ∧ St w' M F [Row rStr 9 (.slice A11 t9.length c12) t9, B94 bo1 a1 A1_8 A1_9 A1_10 c1_10 A1_11, MapC enc_model_name (Value.int .i64) A1_8 a1.names, MapC (Value.int .i64) (Value.int .i64) A1_9 a1.many, Row r_model_tx 99 (.slice A1_10 a1.txs.length c1_10) a1.txs, MapC encS (fun v : Value => v) A1_11 vs1_11, Row rStr 9 (.slice A3 t1.length c4) t1, B94 bo0 a0 A0_8 A0_9 A0_10 c0_10 A0_11, MapC enc_model_name (Value.int .i64) A0_8 a0.names, MapC (Value.int .i64) (Value.int .i64) A0_9 a0.many, Row r_model_tx 99 (.slice A0_10 a0.txs.length c0_10) a0.txs, MapC encS (fun v : Value => v) A0_11 vs0_11]) k ?_ ?_
    · skip
      exact ⟨(0 : Int), o727h, ⟨rfl, rfl, rfl, rfl, rfl, trivial⟩, E, S.pick [0, 1, 2, 3, 4, 5, 6, 7, 8, 9, 10, 11] (by decide)⟩
    · intro n
      rintro ρ w728 ⟨x536, H, hρ, E, S⟩
      rw [agree_eta hρ]
      clear hρ
      cases n with
      | zero => cases H
      | succ k =>
        rw [ferrymanlaw16_same_POOOO_POOOO_l0.eq_2] at H
        refine Wp_seq ?_
        refine Wp_seq ?_
        refine Wp_region_lit ?_
        refine W_v _ (x_move rfl) rfl ?_
        refine W_v _ (x_move rfl) rfl ?_
        refine W_v (.int .i64 (t1.length : Int)) (x_len_slice (n := t1.length) Tryd.underlying67 rfl) rfl ?_
        refine W_v (.bool (decide (x536 < (t1.length : Int)))) (x_ibin rfl rfl rfl rfl) rfl ?_
        refine Wl_nil ?_
        refine tn ?_
        rcases iteS H with ⟨hb729, H⟩ | ⟨hb729, H⟩
        · refine Wp_cond_true (congrArg Value.bool hb729) ?_
          refine Wp_skip ?_
          refine tn ?_
          refine Wp_seq ?_
          refine Wp_block ?_
          refine Wp_seq ?_
          refine Wp_region_lit ?_
          refine W_v _ (x_move rfl) rfl ?_
          refine W_v _ (x_move rfl) rfl ?_
          refine W_v _ (x_move rfl) rfl ?_
          obtain ⟨⟨p730, p731⟩, H⟩ := chkS H
          obtain ⟨b732, o733, cs734, _, _, ee739, hb735, vs736, hR737, hc738⟩ := SlW.at' (S.row_read 6 rfl) p730 p731
          obtain rfl : vs736 = _ := hR737
          refine W_v (.pointer (some ⟨b732, o733 + x536.toNat * 1, none⟩)) (x_indexAddr Tryd.underlying67 ty9 (slA ee739) rfl p730 p731) rfl ?_
          refine W_v (.string (bs (rd t1 x536))) (x_load (Hp.of_get hb735) ty9 rfl (hc738 0 _ rfl)) rfl ?_
          obtain ⟨t740, ht741, H⟩ := bindS H
          replace S : St w728 M F [_, _, _, _, _, _, _, _, _, _, _, _] := S.pick [7, 8, 9, 10, 11, 0, 1, 2, 3, 4, 5, 6] (by decide)
          refine W_callF2 fn24 (model_Model_Intent_POOOO.con k M A0_8 c0_8 A0_9 c0_9 A0_10 c0_10 A0_11 c0_11 vs0_11 a0 (rd t1 x536) bo0 t740 hm0_11 ht741) (Γ1 := [_, _, _, _, _]) (Γ2 := [_, _, _, _, _, _, _]) S rfl rfl (by rintro _ _ _ ⟨rfl, rfl⟩; exact (flat_cons flat_blk (flat_cons flat_map (flat_cons flat_map (flat_cons (flat_row (fun _ _ _ _ h => h)) (flat_cons flat_map flat_nil)))))) ?_
          rintro _ w742 _ Γ' E' S ⟨rfl, rfl⟩
          replace E := E.trans E'
          clear E'
          replace S : St w742 M F [_, _, _, _, _, _, _, _, _, _, _, _] := S
          refine W_v _ (x_move rfl) rfl ?_
          refine W_v (.agg #[.int .i64 t740.1.Writer, .int .i64 t740.1.TS, .bool t740.1.Tomb, .string (bs t740.1.Value)]) (x_extract rfl rfl) rfl ?_
          refine W_v (.bool t740.2) (x_extract rfl rfl) rfl ?_
          refine W_alloc S #[.int .i64 0, .int .i64 0, .bool false, .string (bs ([] : Str))] ty61 rfl rfl ?_
          intro b745 w746 E' S
          replace E := E.trans E'
          clear E'
          refine W_store S 0 rfl ty61 rfl rfl [.int .i64 t740.1.Writer, .int .i64 t740.1.TS, .bool t740.1.Tomb, .string (bs t740.1.Value)] rfl rfl rfl #[.int .i64 t740.1.Writer, .int .i64 t740.1.TS, .bool t740.1.Tomb, .string (bs t740.1.Value)] rfl rfl ?_
          intro w748 E' S
          replace E := E.trans E'
          clear E'
          refine W_v (.bool t740.2) (x_assign rfl) rfl ?_
          refine Wl_nil ?_
          refine tn ?_
          refine Wp_seq ?_
          refine Wp_region_lit ?_
          refine W_v _ (x_move rfl) rfl ?_
          refine W_v _ (x_move rfl) rfl ?_
          refine W_v _ (x_move rfl) rfl ?_
          obtain ⟨⟨p749, p750⟩, H⟩ := chkS H
          obtain ⟨b751, o752, cs753, _, _, ee758, hb754, vs755, hR756, hc757⟩ := SlW.at' (S.row_read 12 rfl) p749 p750
          obtain rfl : vs755 = _ := hR756
          refine W_v (.pointer (some ⟨b751, o752 + x536.toNat * 1, none⟩)) (x_indexAddr Tryd.underlying67 ty9 (slA ee758) rfl p749 p750) rfl ?_
          refine W_v (.string (bs (rd t1 x536))) (x_load (Hp.of_get hb754) ty9 rfl (hc757 0 _ rfl)) rfl ?_
          obtain ⟨t759, ht760, H⟩ := bindS H
          replace S : St w748 M F [_, _, _, _, _, _, _, _, _, _, _, _, _] := S.pick [7, 8, 9, 10, 11, 0, 1, 2, 3, 4, 5, 6, 12] (by decide)
          refine W_callF2 fn24 (model_Model_Intent_POOOO.con k M A1_8 c1_8 A1_9 c1_9 A1_10 c1_10 A1_11 c1_11 vs1_11 a1 (rd t1 x536) bo1 t759 hm1_11 ht760) (Γ1 := [_, _, _, _, _]) (Γ2 := [_, _, _, _, _, _, _, _]) S rfl rfl (by rintro _ _ _ ⟨rfl, rfl⟩; exact (flat_cons flat_blk (flat_cons flat_map (flat_cons flat_map (flat_cons (flat_row (fun _ _ _ _ h => h)) (flat_cons flat_map flat_nil)))))) ?_
          rintro _ w761 _ Γ' E' S ⟨rfl, rfl⟩
          replace E := E.trans E'
          clear E'
          replace S : St w761 M F [_, _, _, _, _, _, _, _, _, _, _, _, _] := S
          refine W_v _ (x_move rfl) rfl ?_
          refine W_v (.agg #[.int .i64 t759.1.Writer, .int .i64 t759.1.TS, .bool t759.1.Tomb, .string (bs t759.1.Value)]) (x_extract rfl rfl) rfl ?_
          refine W_v (.bool t759.2) (x_extract rfl rfl) rfl ?_
          refine W_alloc S #[.int .i64 0, .int .i64 0, .bool false, .string (bs ([] : Str))] ty61 rfl rfl ?_
          intro b764 w765 E' S
          replace E := E.trans E'
          clear E'
          refine W_store S 0 rfl ty61 rfl rfl [.int .i64 t759.1.Writer, .int .i64 t759.1.TS, .bool t759.1.Tomb, .string (bs t759.1.Value)] rfl rfl rfl #[.int .i64 t759.1.Writer, .int .i64 t759.1.TS, .bool t759.1.Tomb, .string (bs t759.1.Value)] rfl rfl ?_
          intro w767 E' S
          replace E := E.trans E'
          clear E'
          refine W_v (.bool t759.2) (x_assign rfl) rfl ?_
          refine Wl_nil ?_
          refine tn ?_
          as_aux_lemma =>
          refine Wp_seq ?_
          refine Wp_region_any (S := fun w' => ∃ Mx, M.le Mx ∧ St w' Mx F [B61 b764 t759.1, B94 bo1 a1 A1_8 A1_9 A1_10 c1_10 A1_11, MapC enc_model_name (Value.int .i64) A1_8 a1.names, MapC (Value.int .i64) (Value.int .i64) A1_9 a1.many, Row r_model_tx 99 (.slice A1_10 a1.txs.length c1_10) a1.txs, MapC encS (fun v : Value => v) A1_11 vs1_11, B61 b745 t740.1, B94 bo0 a0 A0_8 A0_9 A0_10 c0_10 A0_11, MapC enc_model_name (Value.int .i64) A0_8 a0.names, MapC (Value.int .i64) (Value.int .i64) A0_9 a0.many, Row r_model_tx 99 (.slice A0_10 a0.txs.length c0_10) a0.txs, MapC encS (fun v : Value => v) A0_11 vs0_11, Row rStr 9 (.slice A11 t9.length c12) t9, Row rStr 9 (.slice A3 t1.length c4) t1]) (L := 35) mixed ?_
          intro w842 hw843 E'
          replace S := S.heap hw843
          replace E := E.trans E'
          clear E'
          have D1 : ∃ Mx, Hp.le M Mx ∧ St _ Mx F [_, _, _, _, _, _, _, _, _, _, _, _, _, _] := ⟨_, Hp.le_refl _, S.pick [0, 1, 2, 3, 4, 5, 6, 7, 8, 9, 10, 11, 12, 13] (by decide)⟩
          refine Wa_take (i := 0) rfl (by kernel_rfl) rfl rfl _ rfl (fun w' h' => x_move rfl) D1 ?_
          refine Wa_take (i := 1) rfl (by kernel_rfl) rfl rfl _ rfl (fun w' h' => x_move rfl) D1 ?_
          obtain ⟨⟨p844, p845⟩, H⟩ := chkS H
          obtain ⟨b846, o847, _, _, _, ee848, _⟩ := SlW.at' (S.row_read 13 rfl) p844 p845
          refine Wa_take (i := 2) rfl (by kernel_rfl) rfl rfl (.pointer (some ⟨b846, o847 + x536.toNat * 1, none⟩)) rfl (fun w' h' => x_indexAddr Tryd.underlying67 ty9 (slA ee848) rfl p844 p845) D1 ?_
          refine Wa_take (i := 3) rfl (by kernel_rfl) rfl rfl (.string (bs (rd t1 x536))) rfl (fun w' h' => x_load_cls h' 13 rfl ee848 p844 p845 0 (by rintro _ _ rfl; rfl) ty9 rfl) D1 ?_
          refine Wa_take (i := 4) rfl (by kernel_rfl) rfl rfl _ rfl (fun w' h' => x_move rfl) D1 ?_
          refine Wa_take (i := 5) rfl (by kernel_rfl) rfl rfl _ rfl (fun w' h' => x_move rfl) D1 ?_
          obtain ⟨⟨p849, p850⟩, H⟩ := chkS H
          obtain ⟨b851, o852, _, _, _, ee853, _⟩ := SlW.at' (S.row_read 12 rfl) p849 p850
          refine Wa_take (i := 6) rfl (by kernel_rfl) rfl rfl (.pointer (some ⟨b851, o852 + x536.toNat * 1, none⟩)) rfl (fun w' h' => x_indexAddr Tryd.underlying67 ty9 (slA ee853) rfl p849 p850) D1 ?_
          refine Wa_take (i := 7) rfl (by kernel_rfl) rfl rfl (.string (bs (rd t9 x536))) rfl (fun w' h' => x_load_cls h' 12 rfl ee853 p849 p850 0 (by rintro _ _ rfl; rfl) ty9 rfl) D1 ?_
          refine Wa_take (i := 8) rfl (by kernel_rfl) rfl rfl (.bool (sbin .neq (rd t1 x536) (rd t9 x536))) rfl (fun w' h' => x_sbin rfl rfl rfl) D1 ?_
          refine Wa_take (i := 9) rfl (by kernel_rfl) rfl rfl _ rfl (fun w' h' => x_move rfl) D1 ?_
          refine Wa_join (fun ρ w' => Agree ρ [(0, .pointer (some ⟨bo0, 0, none⟩)), (1, .pointer (some ⟨bo1, 0, none⟩)), (5, .slice A3 t1.length c4), (6, .slice A11 t9.length c12), (7, .int .i64 x536), (9, .bool t740.2), (11, .bool t759.2), (86, .bool ((sbin .neq (rd t1 x536) (rd t9 x536)) || (!((t740.1.Writer == t759.1.Writer) && ((t740.1.TS == t759.1.TS) && ((t740.1.Tomb == t759.1.Tomb) && (t740.1.Value == t759.1.Value)))))))] ∧ w842 = w') 21 (Ls 35 [0, 1, 2, 3, 4, 5, 6, 7, 8, 9, 10, 11, 12, 13]) ?_ ?_
          rotate_left
          · intro hrest
            rcases boolCases (sbin .neq (rd t1 x536) (rd t9 x536)) with hb854 | hb854
            · skip
              have D2 : ∃ Mx, Hp.le M Mx ∧ St _ Mx F [_, _, _, _, _, _, _, _, _, _, _, _, _, _] := ⟨_, Hp.le_refl _, S.pick [0, 1, 2, 3, 4, 5, 6, 7, 8, 9, 10, 11, 12, 13] (by decide)⟩
              refine Wa_takeY (i := 10) rfl (by kernel_rfl) rfl rfl (.agg #[.int .i64 t740.1.Writer, .int .i64 t740.1.TS, .bool t740.1.Tomb, .string (bs t740.1.Value)]) rfl (congrArg some hb854) (fun w' h' => x_loadA (cls_blk h' 6 rfl) ty61 rfl (sub_of_extract rfl) rfl rfl) D2 ?_
              refine Wa_takeY (i := 11) rfl (by kernel_rfl) rfl rfl (.agg #[.int .i64 t759.1.Writer, .int .i64 t759.1.TS, .bool t759.1.Tomb, .string (bs t759.1.Value)]) rfl (congrArg some hb854) (fun w' h' => x_loadA (cls_blk h' 0 rfl) ty61 rfl (sub_of_extract rfl) rfl rfl) D2 ?_
              refine Wa_takeY (i := 12) rfl (by kernel_rfl) rfl rfl (.bool (!((t740.1.Writer == t759.1.Writer) && ((t740.1.TS == t759.1.TS) && ((t740.1.Tomb == t759.1.Tomb) && (t740.1.Value == t759.1.Value)))))) rfl (congrArg some hb854) (fun w' h' => x_ne_of (en61 _ _ _ _) rfl (eq61 _ t740.1.Writer t740.1.TS t740.1.Tomb t740.1.Value t759.1.Writer t759.1.TS t759.1.Tomb t759.1.Value)) D2 ?_
              refine Wa_take (i := 13) rfl (by kernel_rfl) rfl rfl _ rfl (fun w' h' => x_pick (k := false) (congrArg Value.bool hb854) rfl) D2 ?_
              exact hrest _ _ ⟨⟨rfl, rfl, rfl, rfl, rfl, rfl, rfl, (by first | rfl | (rw [hb854]; rfl) | (simp only [hb854]; rfl)), trivial⟩, rfl⟩
            · skip
              have D3 : ∃ Mx, Hp.le M Mx ∧ St _ Mx F [_, _, _, _, _, _, _, _, _, _, _, _, _, _] := ⟨_, Hp.le_refl _, S.pick [0, 1, 2, 3, 4, 5, 6, 7, 8, 9, 10, 11, 12, 13] (by decide)⟩
              refine Wa_takeN (i := 10) rfl (by kernel_rfl) rfl rfl rfl (skF hb854) D3 ?_
              refine Wa_takeN (i := 11) rfl (by kernel_rfl) rfl rfl rfl (skF hb854) D3 ?_
              refine Wa_takeN (i := 12) rfl (by kernel_rfl) rfl rfl rfl (skF hb854) D3 ?_
              refine Wa_take (i := 13) rfl (by kernel_rfl) rfl rfl _ rfl (fun w' h' => x_pick (k := true) (congrArg Value.bool hb854) rfl) D3 ?_
              exact hrest _ _ ⟨⟨rfl, rfl, rfl, rfl, rfl, rfl, rfl, (by first | rfl | (rw [hb854]; rfl) | (simp only [hb854]; rfl)), trivial⟩, rfl⟩
          rintro ρ _ ⟨hρ, rfl⟩
          rw [agree_eta hρ]
          clear hρ
          refine Wa_take (i := 14) rfl (by kernel_rfl) rfl rfl _ rfl (fun w' h' => x_move rfl) (⟨M, Hp.le_refl M, (S.pick [0, 1, 2, 3, 4, 5, 6, 7, 8, 9, 10, 11, 12, 13] (by decide))⟩) ?_
          refine Wa_join (fun ρ w' => Agree ρ [(0, .pointer (some ⟨bo0, 0, none⟩)), (1, .pointer (some ⟨bo1, 0, none⟩)), (5, .slice A3 t1.length c4), (6, .slice A11 t9.length c12), (7, .int .i64 x536), (91, .bool (((sbin .neq (rd t1 x536) (rd t9 x536)) || (!((t740.1.Writer == t759.1.Writer) && ((t740.1.TS == t759.1.TS) && ((t740.1.Tomb == t759.1.Tomb) && (t740.1.Value == t759.1.Value)))))) || (!(t740.2 == t759.2))))] ∧ w842 = w') 16 (Ls 35 [0, 1, 2, 3, 4, 5, 6, 7, 8, 9, 10, 11, 12, 13, 14, 15, 16, 17, 18]) ?_ ?_
          rotate_left
          · intro hrest
            rcases boolCases ((sbin .neq (rd t1 x536) (rd t9 x536)) || (!((t740.1.Writer == t759.1.Writer) && ((t740.1.TS == t759.1.TS) && ((t740.1.Tomb == t759.1.Tomb) && (t740.1.Value == t759.1.Value)))))) with hb855 | hb855
            · skip
              have D5 : ∃ Mx, Hp.le M Mx ∧ St _ Mx F [_, _, _, _, _, _, _, _, _, _, _, _, _, _] := ⟨_, Hp.le_refl _, S.pick [0, 1, 2, 3, 4, 5, 6, 7, 8, 9, 10, 11, 12, 13] (by decide)⟩
              refine Wa_takeY (i := 15) rfl (by kernel_rfl) rfl rfl _ rfl (congrArg some hb855) (fun w' h' => x_move rfl) D5 ?_
              refine Wa_takeY (i := 16) rfl (by kernel_rfl) rfl rfl _ rfl (congrArg some hb855) (fun w' h' => x_move rfl) D5 ?_
              refine Wa_takeY (i := 17) rfl (by kernel_rfl) rfl rfl (.bool (!(t740.2 == t759.2))) rfl (congrArg some hb855) (fun w' h' => x_bne Tryd.underlying4 rfl rfl) D5 ?_
              refine Wa_take (i := 18) rfl (by kernel_rfl) rfl rfl _ rfl (fun w' h' => x_pick (k := false) (congrArg Value.bool hb855) rfl) D5 ?_
              exact hrest _ _ ⟨⟨rfl, rfl, rfl, rfl, rfl, (by first | rfl | (rw [hb855]; rfl) | (simp only [hb855]; rfl)), trivial⟩, rfl⟩
            · skip
              have D6 : ∃ Mx, Hp.le M Mx ∧ St _ Mx F [_, _, _, _, _, _, _, _, _, _, _, _, _, _] := ⟨_, Hp.le_refl _, S.pick [0, 1, 2, 3, 4, 5, 6, 7, 8, 9, 10, 11, 12, 13] (by decide)⟩
              refine Wa_takeN (i := 15) rfl (by kernel_rfl) rfl rfl rfl (skF hb855) D6 ?_
              refine Wa_takeN (i := 16) rfl (by kernel_rfl) rfl rfl rfl (skF hb855) D6 ?_
              refine Wa_takeN (i := 17) rfl (by kernel_rfl) rfl rfl rfl (skF hb855) D6 ?_
              refine Wa_take (i := 18) rfl (by kernel_rfl) rfl rfl _ rfl (fun w' h' => x_pick (k := true) (congrArg Value.bool hb855) rfl) D6 ?_
              exact hrest _ _ ⟨⟨rfl, rfl, rfl, rfl, rfl, (by first | rfl | (rw [hb855]; rfl) | (simp only [hb855]; rfl)), trivial⟩, rfl⟩
          rintro ρ _ ⟨hρ, rfl⟩
          rw [agree_eta hρ]
          clear hρ
          refine Wa_take (i := 19) rfl (by kernel_rfl) rfl rfl _ rfl (fun w' h' => x_move rfl) (⟨M, Hp.le_refl M, (S.pick [0, 1, 2, 3, 4, 5, 6, 7, 8, 9, 10, 11, 12, 13] (by decide))⟩) ?_
          obtain ⟨o887, o887h, o887H⟩ := bindS H
          clear H
          refine Wa_join (fun ρ w' => ∃ (x886 : Bool), (x886) = o887 ∧ Agree ρ [(0, .pointer (some ⟨bo0, 0, none⟩)), (1, .pointer (some ⟨bo1, 0, none⟩)), (5, .slice A3 t1.length c4), (6, .slice A11 t9.length c12), (7, .int .i64 x536), (107, .bool x886)] ∧ Ext w w' ∧ St w' M F [B61 b764 t759.1, B94 bo1 a1 A1_8 A1_9 A1_10 c1_10 A1_11, MapC enc_model_name (Value.int .i64) A1_8 a1.names, MapC (Value.int .i64) (Value.int .i64) A1_9 a1.many, Row r_model_tx 99 (.slice A1_10 a1.txs.length c1_10) a1.txs, MapC encS (fun v : Value => v) A1_11 vs1_11, B61 b745 t740.1, B94 bo0 a0 A0_8 A0_9 A0_10 c0_10 A0_11, MapC enc_model_name (Value.int .i64) A0_8 a0.names, MapC (Value.int .i64) (Value.int .i64) A0_9 a0.many, Row r_model_tx 99 (.slice A0_10 a0.txs.length c0_10) a0.txs, MapC encS (fun v : Value => v) A0_11 vs0_11, Row rStr 9 (.slice A11 t9.length c12) t9, Row rStr 9 (.slice A3 t1.length c4) t1]) 0 (Ls 35 [0, 1, 2, 3, 4, 5, 6, 7, 8, 9, 10, 11, 12, 13, 14, 15, 16, 17, 18, 19, 20, 21, 22, 23, 24, 25, 26, 27, 28, 29, 30, 31, 32, 33, 34]) ?_ ?_
          rotate_left
          · intro hrest
            have H := o887h
            clear o887h o887H
            rcases iteS H with ⟨hb885, H⟩ | ⟨hb885, H⟩
            · skip
              have D8 : ∃ Mx, Hp.le M Mx ∧ St _ Mx F [_, _, _, _, _, _, _, _, _, _, _, _, _, _] := ⟨_, Hp.le_refl _, S.pick [0, 1, 2, 3, 4, 5, 6, 7, 8, 9, 10, 11, 12, 13] (by decide)⟩
              refine Wa_takeN (i := 20) rfl (by kernel_rfl) rfl rfl rfl (skF hb885) D8 ?_
              refine Wa_takeN (i := 21) rfl (by kernel_rfl) rfl rfl rfl (skF hb885) D8 ?_
              refine Wa_takeN (i := 22) rfl (by kernel_rfl) rfl rfl rfl (skF hb885) D8 ?_
              refine Wa_takeN (i := 23) rfl (by kernel_rfl) rfl rfl rfl (skF hb885) D8 ?_
              refine Wa_takeN (i := 24) rfl (by kernel_rfl) rfl rfl rfl (skF hb885) D8 ?_
              refine Wa_takeN (i := 25) rfl (by kernel_rfl) rfl rfl rfl (skF hb885) D8 ?_
              refine Wa_takeN (i := 26) rfl (by kernel_rfl) rfl rfl rfl (skF hb885) D8 ?_
              refine Wa_takeN (i := 27) rfl (by kernel_rfl) rfl rfl rfl (skF hb885) D8 ?_
              refine Wa_takeN (i := 28) rfl (by kernel_rfl) rfl rfl rfl (skF hb885) D8 ?_
              refine Wa_takeN (i := 29) rfl (by kernel_rfl) rfl rfl rfl (skF hb885) D8 ?_
              refine Wa_takeN (i := 30) rfl (by kernel_rfl) rfl rfl rfl (skF hb885) D8 ?_
              refine Wa_takeN (i := 31) rfl (by kernel_rfl) rfl rfl rfl (skF hb885) D8 ?_
              refine Wa_takeN (i := 32) rfl (by kernel_rfl) rfl rfl rfl (skF hb885) D8 ?_
              refine Wa_takeN (i := 33) rfl (by kernel_rfl) rfl rfl rfl (skF hb885) D8 ?_
              refine Wa_take (i := 34) rfl (by kernel_rfl) rfl rfl _ rfl (fun w' h' => x_pick (k := true) (congrArg Value.bool hb885) rfl) D8 ?_
              exact hrest _ _ ⟨true, Option.some.inj H, ⟨rfl, rfl, rfl, rfl, rfl, rfl, trivial⟩, E, S.pick [0, 1, 2, 3, 4, 5, 6, 7, 8, 9, 10, 11, 12, 13] (by decide)⟩
            · skip
              have D9 : ∃ Mx, Hp.le M Mx ∧ St _ Mx F [_, _, _, _, _, _, _, _, _, _, _, _, _, _] := ⟨_, Hp.le_refl _, S.pick [0, 1, 2, 3, 4, 5, 6, 7, 8, 9, 10, 11, 12, 13] (by decide)⟩
              refine Wa_takeY (i := 20) rfl (by kernel_rfl) rfl rfl _ rfl (congrArg some hb885) (fun w' h' => x_move rfl) D9 ?_
              refine Wa_takeY (i := 21) rfl (by kernel_rfl) rfl rfl _ rfl (congrArg some hb885) (fun w' h' => x_move rfl) D9 ?_
              refine Wa_takeY (i := 22) rfl (by kernel_rfl) rfl rfl _ rfl (congrArg some hb885) (fun w' h' => x_move rfl) D9 ?_
              obtain ⟨⟨p888, p889⟩, H⟩ := chkS H
              obtain ⟨b890, o891, _, _, _, ee892, _⟩ := SlW.at' (S.row_read 13 rfl) p888 p889
              refine Wa_takeY (i := 23) rfl (by kernel_rfl) rfl rfl (.pointer (some ⟨b890, o891 + x536.toNat * 1, none⟩)) rfl (congrArg some hb885) (fun w' h' => x_indexAddr Tryd.underlying67 ty9 (slA ee892) rfl p888 p889) D9 ?_
              refine Wa_takeY (i := 24) rfl (by kernel_rfl) rfl rfl (.string (bs (rd t1 x536))) rfl (congrArg some hb885) (fun w' h' => x_load_cls h' 13 rfl ee892 p888 p889 0 (by rintro _ _ rfl; rfl) ty9 rfl) D9 ?_
              refine Wa_takeY (i := 26) rfl (by kernel_rfl) rfl rfl _ rfl (congrArg some hb885) (fun w' h' => x_move rfl) D9 ?_
              refine Wa_takeY (i := 27) rfl (by kernel_rfl) rfl rfl _ rfl (congrArg some hb885) (fun w' h' => x_move rfl) D9 ?_
              refine Wa_takeY (i := 28) rfl (by kernel_rfl) rfl rfl _ rfl (congrArg some hb885) (fun w' h' => x_move rfl) D9 ?_
              obtain ⟨⟨p893, p894⟩, H⟩ := chkS H
              obtain ⟨b895, o896, _, _, _, ee897, _⟩ := SlW.at' (S.row_read 13 rfl) p893 p894
              refine Wa_takeY (i := 29) rfl (by kernel_rfl) rfl rfl (.pointer (some ⟨b895, o896 + x536.toNat * 1, none⟩)) rfl (congrArg some hb885) (fun w' h' => x_indexAddr Tryd.underlying67 ty9 (slA ee897) rfl p893 p894) D9 ?_
              refine Wa_takeY (i := 30) rfl (by kernel_rfl) rfl rfl (.string (bs (rd t1 x536))) rfl (congrArg some hb885) (fun w' h' => x_load_cls h' 13 rfl ee897 p893 p894 0 (by rintro _ _ rfl; rfl) ty9 rfl) D9 ?_
              refine Wa_solo (i := 25) rfl (by kernel_rfl) ?_
              refine W_yes (congrArg some hb885) ?_
              obtain ⟨t898, ht899, H⟩ := bindS H
              replace S : St w842 M F [_, _, _, _, _, _, _, _, _, _, _, _, _, _] := S.pick [7, 8, 9, 10, 11, 0, 1, 2, 3, 4, 5, 6, 12, 13] (by decide)
              refine W_callF2 fn26 (model_Model_Versions_POOOO.con k M A0_8 c0_8 A0_9 c0_9 A0_10 c0_10 A0_11 c0_11 vs0_11 a0 (rd t1 x536) bo0 t898 hm0_11 ht899) (Γ1 := [_, _, _, _, _]) (Γ2 := [_, _, _, _, _, _, _, _, _]) S rfl rfl (by rintro _ _ _ ⟨_, _, rfl, rfl⟩; exact (flat_cons (flat_row (fun _ _ _ _ h => h)) (flat_cons flat_blk (flat_cons flat_map (flat_cons flat_map (flat_cons (flat_row (fun _ _ _ _ h => h)) (flat_cons flat_map flat_nil))))))) ?_
              rintro _ w903 _ Γ' E' S ⟨A900, c901, rfl, rfl⟩
              replace E := E.trans E'
              clear E'
              replace S : St w903 M F [_, _, _, _, _, _, _, _, _, _, _, _, _, _, _] := S
              refine Wl_nil (on_n ⟨.inr ⟨M, Hp.le_refl M, (S.pick [6, 7, 8, 9, 10, 11, 12, 1, 2, 3, 4, 5, 13, 14] (by decide))⟩, ?_⟩)
              refine Wa_solo (i := 31) rfl (by kernel_rfl) ?_
              refine W_yes (congrArg some hb885) ?_
              obtain ⟨t906, ht907, H⟩ := bindS H
              replace S : St w903 M F [_, _, _, _, _, _, _, _, _, _, _, _, _, _, _] := S.pick [7, 8, 9, 10, 11, 0, 1, 2, 3, 4, 5, 6, 12, 13, 14] (by decide)
              refine W_callF2 fn26 (model_Model_Versions_POOOO.con k M A1_8 c1_8 A1_9 c1_9 A1_10 c1_10 A1_11 c1_11 vs1_11 a1 (rd t1 x536) bo1 t906 hm1_11 ht907) (Γ1 := [_, _, _, _, _]) (Γ2 := [_, _, _, _, _, _, _, _, _, _]) S rfl rfl (by rintro _ _ _ ⟨_, _, rfl, rfl⟩; exact (flat_cons (flat_row (fun _ _ _ _ h => h)) (flat_cons flat_blk (flat_cons flat_map (flat_cons flat_map (flat_cons (flat_row (fun _ _ _ _ h => h)) (flat_cons flat_map flat_nil))))))) ?_
              rintro _ w911 _ Γ' E' S ⟨A908, c909, rfl, rfl⟩
              replace E := E.trans E'
              clear E'
              replace S : St w911 M F [_, _, _, _, _, _, _, _, _, _, _, _, _, _, _, _] := S
              refine Wl_nil (on_n ⟨.inr ⟨M, Hp.le_refl M, (S.pick [12, 1, 2, 3, 4, 5, 13, 7, 8, 9, 10, 11, 14, 15] (by decide))⟩, ?_⟩)
              refine Wa_solo (i := 32) rfl (by kernel_rfl) ?_
              refine W_yes (congrArg some hb885) ?_
              replace S : St w911 M F [_, _, _, _, _, _, _, _, _, _, _, _, _, _, _, _] := S.pick [6, 0, 1, 2, 3, 4, 5, 7, 8, 9, 10, 11, 12, 13, 14, 15] (by decide)
              obtain ⟨t914, ht915, H⟩ := bindS H
              refine W_callN 2 fn53 (fun h9 hs9 hd9 => ferrymanref11_Same.con k _ A900 c901 t898 A908 c909 t906 t914 (Sats.row hs9 hd9 0 rfl) (Sats.row hs9 hd9 1 rfl) ht915) S rfl rfl (by rintro _ _ _ ⟨_, rfl⟩; exact flat_nil) ?_
              rintro _ w916 _ Γ' E' S ⟨rfl, rfl⟩
              replace E := E.trans E'
              clear E'
              refine Wl_nil (on_n ⟨.inr ⟨M, Hp.le_refl M, (S.pick [12, 2, 3, 4, 5, 6, 13, 7, 8, 9, 10, 11, 14, 15] (by decide))⟩, ?_⟩)
              have D10 : ∃ Mx, Hp.le M Mx ∧ St _ Mx F [_, _, _, _, _, _, _, _, _, _, _, _, _, _] := ⟨_, Hp.le_refl _, S.pick [12, 2, 3, 4, 5, 6, 13, 7, 8, 9, 10, 11, 14, 15] (by decide)⟩
              refine Wa_takeY (i := 33) rfl (by kernel_rfl) rfl rfl (.bool (!t914)) rfl (congrArg some hb885) (fun w' h' => x_not rfl) D10 ?_
              refine Wa_take (i := 34) rfl (by kernel_rfl) rfl rfl _ rfl (fun w' h' => x_pick (k := false) (congrArg Value.bool hb885) rfl) D10 ?_
              exact hrest _ _ ⟨(!t914), Option.some.inj H, ⟨rfl, rfl, rfl, rfl, rfl, rfl, trivial⟩, E, S.pick [12, 2, 3, 4, 5, 6, 13, 7, 8, 9, 10, 11, 14, 15] (by decide)⟩
          clear o887h
          rintro ρ w917 ⟨x886, rfl, hρ, E, S⟩
          rw [agree_eta hρ]
          clear hρ
          have H := o887H
          clear o887H
          refine Wa_done (by kernel_rfl) ?_
          refine tn ?_
          rcases iteS H with ⟨hb918, H⟩ | ⟨hb918, H⟩
          · refine Wp_cond_true (congrArg Value.bool hb918) ?_
            refine Wp_seq ?_
            refine Wp_region_lit ?_
            refine W_v (.bool false) (x_assign rfl) rfl ?_
            refine Wl_nil ?_
            refine tn ?_
            refine Wp_ret ?_
            refine br (tr (tr (br (tr (tr (?_))))))
            obtain rfl := Option.some.inj H
            have H := o727H
            replace H := elimL H
            obtain rfl := Option.some.inj H
            exact ⟨_, _, _, fun w1 e1 => run_resR (vs := [.bool false]) (FA.cons (rfl) (FA.nil)), HM, E, S.pick [7, 8, 9, 10, 11, 1, 2, 3, 4, 5] (by decide), ⟨rfl, rfl⟩⟩
          refine Wp_cond_false (congrArg Value.bool hb918) ?_
          refine Wp_skip ?_
          refine bn ?_
          refine tn ?_
          refine Wp_region_lit ?_
          refine W_v _ (x_move rfl) rfl ?_
          refine W_v (.int .i64 (IntKind.i64.wrap (x536 + (1 : Int)))) (x_ibin rfl rfl rfl rfl) rfl ?_
          refine W_v (.int .i64 (IntKind.i64.wrap (x536 + (1 : Int)))) (x_assign rfl) rfl ?_
          refine Wl_nil ?_
          refine tn ?_
          exact ⟨k, Nat.lt_succ_self k, ⟨(IntKind.i64.wrap (x536 + (1 : Int))), H, ⟨rfl, rfl, rfl, rfl, rfl, trivial⟩, E, S.pick [12, 1, 2, 3, 4, 5, 13, 7, 8, 9, 10, 11] (by decide)⟩⟩
        refine Wp_cond_false (congrArg Value.bool hb729) ?_
        refine Wp_exit ?_
        refine tx (tx (bsm (?_)))
        refine tn ?_
        exact ⟨Option.some.inj H, trivial, E, S.pick [1, 2, 3, 4, 5, 7, 8, 9, 10, 11] (by decide)⟩
  clear o727h
  rintro ρ w919 ⟨rfl, hρ, E, S⟩
  rw [agree_eta hρ]
  clear hρ
  have H := o727H
  clear o727H
  replace H := elimR H
  refine tn ?_
  as_aux_lemma =>
  refine Wp_seq ?_
  refine Wp_region_lit ?_
  refine W_v (.bool true) (x_assign rfl) rfl ?_
  refine Wl_nil ?_
  refine tn ?_
  refine Wp_ret ?_
  obtain rfl := Option.some.inj H
  exact ⟨_, _, _, fun w1 e1 => run_resR (vs := [.bool true]) (FA.cons (rfl) (FA.nil)), HM, E, S.pick [5, 6, 7, 8, 9, 0, 1, 2, 3, 4] (by decide), ⟨rfl, rfl⟩⟩
/-! ### slices.Equal[[]ferryman/api.Pair,ferryman/api.Pair]: function 66 -/
def slices_Equal_api_Pair_api_Pair_l0 (a0 : (List api_Pair)) (a1 : (List api_Pair)) : Nat → Int → Option ((Bool) ⊕ (Unit))
  | 0, _ => none
  | k + 1, x92 => (if (decide (x92 < (a0.length : Int))) = true then (if 0 ≤ x92 ∧ x92 < (a0.length : Int) then (if 0 ≤ x92 ∧ x92 < (a1.length : Int) then (if (!(((rd a0 x92).Key == (rd a1 x92).Key) && ((rd a0 x92).Value == (rd a1 x92).Value))) = true then some (.inl false) else slices_Equal_api_Pair_api_Pair_l0 a0 a1 k (IntKind.i64.wrap (x92 + (1 : Int)))) else none) else none) else some (.inr ()))
set_option maxHeartbeats 2000000 in
theorem slices_Equal_api_Pair_api_Pair_l0.mono {a0 : (List api_Pair)} {a1 : (List api_Pair)} : ∀ {kl : Nat} {x0}, OLe (slices_Equal_api_Pair_api_Pair_l0 a0 a1 kl x0) (slices_Equal_api_Pair_api_Pair_l0 a0 a1 (kl + 1) x0) := by
  intro kl
  induction kl with
  | zero => intros; exact OLe.none
  | succ kl ih =>
    intros
    rw [slices_Equal_api_Pair_api_Pair_l0.eq_2, slices_Equal_api_Pair_api_Pair_l0.eq_2]
    repeat' (first | with_reducible exact OLe.none | with_reducible exact OLe.some | with_reducible refine OLe.ite ?_ ?_ | with_reducible refine OLe.bind ?_ (fun _ => ?_) | exact ih | refine OLe.bind ?_ (fun _ => ?_) | refine OLe.ite ?_ ?_ | refine OLe.elim (fun _ => ?_) (fun _ => ?_) | split)
def slices_Equal_api_Pair_api_Pair (k : Nat) (a0 : (List api_Pair)) (a1 : (List api_Pair)) : Option (Bool) :=
  (if ((a0.length : Int) != (a1.length : Int)) = true then some false else (Option.bind (slices_Equal_api_Pair_api_Pair_l0 a0 a1 k (0 : Int)) (fun o137o => Sum.elim (fun r' => some r') (fun _ => some true) o137o)))
set_option maxHeartbeats 2000000 in
theorem slices_Equal_api_Pair_api_Pair.mono {k : Nat} {a0 : (List api_Pair)} {a1 : (List api_Pair)} : OLe (slices_Equal_api_Pair_api_Pair k a0 a1) (slices_Equal_api_Pair_api_Pair (k + 1) a0 a1) := by
  unfold slices_Equal_api_Pair_api_Pair
  repeat' (first | with_reducible exact OLe.none | with_reducible exact OLe.some | with_reducible refine OLe.ite ?_ ?_ | with_reducible refine OLe.bind ?_ (fun _ => ?_) | with_reducible exact slices_Equal_api_Pair_api_Pair_l0.mono | refine OLe.bind ?_ (fun _ => ?_) | refine OLe.ite ?_ ?_ | refine OLe.elim (fun _ => ?_) (fun _ => ?_) | split)
set_option maxHeartbeats 1000000 in
set_option maxRecDepth 100000 in
theorem slices_Equal_api_Pair_api_Pair.con (k : Nat) (M : Hp) (A0 : Option Addr) (c0 : Nat) (a0 : (List api_Pair)) (A1 : Option Addr) (c1 : Nat) (a1 : (List api_Pair)) (r : Bool) (hr0 : SlR r_api_Pair M (.slice A0 a0.length c0) a0) (hr1 : SlR r_api_Pair M (.slice A1 a1.length c1) a1) (h : slices_Equal_api_Pair_api_Pair k a0 a1 = some r) : Con Tryd.prog 66 #[.slice A0 a0.length c0, .slice A1 a1.length c1] M [] (fun v M' Γ' => v = .bool r ∧ Γ' = []) := by
  refine con_of_wp Tryd.func66 rfl Tryd.ntmps66 Tryd.results66 rfl ?_
  intro w F rn S hrn
  have E := Ext.refl w
  have HM := Hp.le_refl M
  have H := h
  unfold slices_Equal_api_Pair_api_Pair at H
  refine Wp_seq ?_
  refine Wp_region_lit ?_
  refine W_v (.bool false) (x_assign rfl) rfl ?_
  refine Wl_nil ?_
  refine tn ?_
  refine Wp_seq ?_
  refine Wp_seq ?_
  refine Wp_region_lit ?_
  refine W_v _ (x_move rfl) rfl ?_
  refine W_v (.int .i64 (a0.length : Int)) (x_len_slice (n := a0.length) Tryd.underlying41 rfl) rfl ?_
  refine W_v _ (x_move rfl) rfl ?_
  refine W_v (.int .i64 (a1.length : Int)) (x_len_slice (n := a1.length) Tryd.underlying41 rfl) rfl ?_
  refine W_v (.bool ((a0.length : Int) != (a1.length : Int))) (x_ibin rfl rfl rfl rfl) rfl ?_
  refine Wl_nil ?_
  refine tn ?_
  rcases iteS H with ⟨hb1, H⟩ | ⟨hb1, H⟩
  · refine Wp_cond_true (congrArg Value.bool hb1) ?_
    refine Wp_seq ?_
    refine Wp_region_lit ?_
    refine W_v (.bool false) (x_assign rfl) rfl ?_
    refine Wl_nil ?_
    refine tn ?_
    refine Wp_ret ?_
    refine tr (?_)
    obtain rfl := Option.some.inj H
    exact ⟨_, _, _, fun w1 e1 => run_resR (vs := [.bool false]) (FA.cons (rfl) (FA.nil)), HM, E, S.pick [] (by decide), ⟨rfl, rfl⟩⟩
  refine Wp_cond_false (congrArg Value.bool hb1) ?_
  refine Wp_skip ?_
  refine tn ?_
  refine Wp_seq ?_
  refine Wp_seq ?_
  refine Wp_region_lit ?_
  refine W_v _ (x_move rfl) rfl ?_
  refine W_v (.int .i64 (a0.length : Int)) (x_len_slice (n := a0.length) Tryd.underlying41 rfl) rfl ?_
  refine W_v _ (x_move rfl) rfl ?_
  refine Wl_nil ?_
  refine tn ?_
  obtain ⟨o137, o137h, o137H⟩ := bindS H
  clear H
  refine Wp_blockJ (fun ρ w' => .inr () = o137 ∧ Agree ρ [] ∧ Ext w w' ∧ St w' M F []) ?_ ?_
  · skip
    refine Wp_loop (fun n ρ w' => ∃ (x92 : Int), slices_Equal_api_Pair_api_Pair_l0 a0 a1 n x92 = some o137 ∧ Agree ρ [(0, .slice A0 a0.length c0), (1, .slice A1 a1.length c1), (12, .int .i64 (a0.length : Int)), (13, .int .i64 x92)] ∧ Ext w w' ∧ St w' M F []) k ?_ ?_
    · skip
      exact ⟨(0 : Int), o137h, ⟨rfl, rfl, rfl, rfl, trivial⟩, E, S.pick [] (by decide)⟩
    · intro n
      rintro ρ w138 ⟨x92, H, hρ, E, S⟩
      rw [agree_eta hρ]
      clear hρ
      cases n with
      | zero => cases H
      | succ k =>
        rw [slices_Equal_api_Pair_api_Pair_l0.eq_2] at H
        refine Wp_seq ?_
        refine Wp_region_lit ?_
        refine W_v (.bool (decide (x92 < (a0.length : Int)))) (x_ibin rfl rfl rfl rfl) rfl ?_
        refine Wl_nil ?_
        refine tn ?_
        refine Wp_seq ?_
        rcases iteS H with ⟨hb139, H⟩ | ⟨hb139, H⟩
        · refine Wp_cond_true (congrArg Value.bool hb139) ?_
          refine Wp_skip ?_
          refine tn ?_
          refine Wp_seq ?_
          refine Wp_block ?_
          refine Wp_seq ?_
          refine Wp_region_lit ?_
          refine W_v _ (x_move rfl) rfl ?_
          refine W_v (.int .i64 x92) (x_assign rfl) rfl ?_
          refine Wl_nil ?_
          refine tn ?_
          refine Wp_seq ?_
          refine Wp_region_any (S := fun w' => ∃ Mx, M.le Mx ∧ St w' Mx F []) (L := 9) mixed ?_
          intro w160 hw161 E'
          replace S := S.heap hw161
          replace E := E.trans E'
          clear E'
          have D1 : ∃ Mx, Hp.le M Mx ∧ St _ Mx F [] := ⟨_, Hp.le_refl _, S.pick [] (by decide)⟩
          refine Wa_take (i := 0) rfl (by kernel_rfl) rfl rfl _ rfl (fun w' h' => x_move rfl) D1 ?_
          refine Wa_take (i := 1) rfl (by kernel_rfl) rfl rfl _ rfl (fun w' h' => x_move rfl) D1 ?_
          obtain ⟨⟨p162, p163⟩, H⟩ := chkS H
          obtain ⟨b164, o165, cs166, _, _, ee171, hb167, vs168, hR169, hc170⟩ := SlW.at' hr0 p162 p163
          obtain rfl : vs168 = _ := hR169
          refine Wa_take (i := 2) rfl (by kernel_rfl) rfl rfl (.pointer (some ⟨b164, o165 + x92.toNat * 2, none⟩)) rfl (fun w' h' => x_indexAddr Tryd.underlying41 ty87 (slA ee171) rfl p162 p163) D1 ?_
          refine Wa_take (i := 3) rfl (by kernel_rfl) rfl rfl (.agg #[.string (bs ((rd a0 x92).Key)), .string (bs ((rd a0 x92).Value))]) rfl (fun w' h' => x_loadA (cls_frz h' hb167) ty87 rfl (sub_el hc170 0 rfl) rfl rfl) D1 ?_
          refine Wa_take (i := 4) rfl (by kernel_rfl) rfl rfl _ rfl (fun w' h' => x_move rfl) D1 ?_
          refine Wa_take (i := 5) rfl (by kernel_rfl) rfl rfl _ rfl (fun w' h' => x_move rfl) D1 ?_
          obtain ⟨⟨p172, p173⟩, H⟩ := chkS H
          obtain ⟨b174, o175, cs176, _, _, ee181, hb177, vs178, hR179, hc180⟩ := SlW.at' hr1 p172 p173
          obtain rfl : vs178 = _ := hR179
          refine Wa_take (i := 6) rfl (by kernel_rfl) rfl rfl (.pointer (some ⟨b174, o175 + x92.toNat * 2, none⟩)) rfl (fun w' h' => x_indexAddr Tryd.underlying41 ty87 (slA ee181) rfl p172 p173) D1 ?_
          refine Wa_take (i := 7) rfl (by kernel_rfl) rfl rfl (.agg #[.string (bs ((rd a1 x92).Key)), .string (bs ((rd a1 x92).Value))]) rfl (fun w' h' => x_loadA (cls_frz h' hb177) ty87 rfl (sub_el hc180 0 rfl) rfl rfl) D1 ?_
          refine Wa_take (i := 8) rfl (by kernel_rfl) rfl rfl (.bool (!(((rd a0 x92).Key == (rd a1 x92).Key) && ((rd a0 x92).Value == (rd a1 x92).Value)))) rfl (fun w' h' => x_ne_of (en87 _ _ _ _) rfl (eq87 _ ((rd a0 x92).Key) ((rd a0 x92).Value) ((rd a1 x92).Key) ((rd a1 x92).Value))) D1 ?_
          refine Wa_done (by kernel_rfl) ?_
          refine tn ?_
          rcases iteS H with ⟨hb182, H⟩ | ⟨hb182, H⟩
          · refine Wp_cond_true (congrArg Value.bool hb182) ?_
            refine Wp_seq ?_
            refine Wp_region_lit ?_
            refine W_v (.bool false) (x_assign rfl) rfl ?_
            refine Wl_nil ?_
            refine tn ?_
            refine Wp_ret ?_
            refine br (tr (tr (br (tr (tr (?_))))))
            obtain rfl := Option.some.inj H
            have H := o137H
            replace H := elimL H
            obtain rfl := Option.some.inj H
            exact ⟨_, _, _, fun w1 e1 => run_resR (vs := [.bool false]) (FA.cons (rfl) (FA.nil)), HM, E, S.pick [] (by decide), ⟨rfl, rfl⟩⟩
          refine Wp_cond_false (congrArg Value.bool hb182) ?_
          refine Wp_skip ?_
          refine bn ?_
          refine tn ?_
          refine Wp_region_lit ?_
          refine W_v (.int .i64 (IntKind.i64.wrap (x92 + (1 : Int)))) (x_ibin rfl rfl rfl rfl) rfl ?_
          refine W_v _ (x_move rfl) rfl ?_
          refine Wl_nil ?_
          refine tn ?_
          exact ⟨k, Nat.lt_succ_self k, ⟨(IntKind.i64.wrap (x92 + (1 : Int))), H, ⟨rfl, rfl, rfl, rfl, trivial⟩, E, S.pick [] (by decide)⟩⟩
        refine Wp_cond_false (congrArg Value.bool hb139) ?_
        refine Wp_exit ?_
        refine tx (tx (bsm (?_)))
        refine tn ?_
        exact ⟨Option.some.inj H, trivial, E, S.pick [] (by decide)⟩
  clear o137h
  rintro ρ w183 ⟨rfl, hρ, E, S⟩
  rw [agree_eta hρ]
  clear hρ
  have H := o137H
  clear o137H
  replace H := elimR H
  refine tn ?_
  as_aux_lemma =>
  refine Wp_seq ?_
  refine Wp_region_lit ?_
  refine W_v (.bool true) (x_assign rfl) rfl ?_
  refine Wl_nil ?_
  refine tn ?_
  refine Wp_ret ?_
  obtain rfl := Option.some.inj H
  exact ⟨_, _, _, fun w1 e1 => run_resR (vs := [.bool true]) (FA.cons (rfl) (FA.nil)), HM, E, S.pick [] (by decide), ⟨rfl, rfl⟩⟩
/-! ### ferryman/model.Same: function 39 -/
def model_Same (k : Nat) (a0 : api_Answer) (a1 : api_Answer) : Option (Bool) :=
  (Option.bind (α := Bool) (if (((a0.Err == a1.Err) && (a0.Found == a1.Found)) && (sbin .eql a0.Value a1.Value)) = true then (Option.bind (slices_Equal_api_Pair_api_Pair k a0.Pairs a1.Pairs) (fun t18 => some (t18))) else some (false)) (fun x16 => some x16))
set_option maxHeartbeats 2000000 in
theorem model_Same.mono {k : Nat} {a0 : api_Answer} {a1 : api_Answer} : OLe (model_Same k a0 a1) (model_Same (k + 1) a0 a1) := by
  unfold model_Same
  repeat' (first | with_reducible exact OLe.none | with_reducible exact OLe.some | with_reducible refine OLe.ite ?_ ?_ | with_reducible refine OLe.bind ?_ (fun _ => ?_) | with_reducible exact slices_Equal_api_Pair_api_Pair.mono | refine OLe.bind ?_ (fun _ => ?_) | refine OLe.ite ?_ ?_ | refine OLe.elim (fun _ => ?_) (fun _ => ?_) | split)
set_option maxHeartbeats 1000000 in
set_option maxRecDepth 100000 in
theorem model_Same.con (k : Nat) (M : Hp) (A0_0 : Option Addr) (c0_0 : Nat) (a0 : api_Answer) (A1_0 : Option Addr) (c1_0 : Nat) (a1 : api_Answer) (r : Bool) (hr0_0 : SlR r_api_Pair M (.slice A0_0 a0.Pairs.length c0_0) a0.Pairs) (hr1_0 : SlR r_api_Pair M (.slice A1_0 a1.Pairs.length c1_0) a1.Pairs) (h : model_Same k a0 a1 = some r) : Con Tryd.prog 39 #[.agg #[.int .i64 a0.Err, .bool a0.Found, .string (bs a0.Value), .slice A0_0 a0.Pairs.length c0_0], .agg #[.int .i64 a1.Err, .bool a1.Found, .string (bs a1.Value), .slice A1_0 a1.Pairs.length c1_0]] M [] (fun v M' Γ' => v = .bool r ∧ Γ' = []) := by
  refine con_of_wp Tryd.func39 rfl Tryd.ntmps39 Tryd.results39 rfl ?_
  intro w F rn S hrn
  have E := Ext.refl w
  have HM := Hp.le_refl M
  have H := h
  unfold model_Same at H
  refine Wp_seq ?_
  refine Wp_region_lit ?_
  refine W_box S #[.int .i64 a0.Err, .bool a0.Found, .string (bs a0.Value), .slice A0_0 a0.Pairs.length c0_0] rfl rfl rfl ?_
  intro b1 w2 E' S
  replace E := E.trans E'
  clear E'
  refine W_box S #[.int .i64 a1.Err, .bool a1.Found, .string (bs a1.Value), .slice A1_0 a1.Pairs.length c1_0] rfl rfl rfl ?_
  intro b4 w5 E' S
  replace E := E.trans E'
  clear E'
  refine W_v (.bool false) (x_assign rfl) rfl ?_
  refine Wl_nil ?_
  refine tn ?_
  refine Wp_seq ?_
  refine Wp_region_lit ?_
  refine W_v _ (x_fieldAddr (o := 0) (off := 0) Tryd.underlying43 rfl ty28 rfl rfl) rfl ?_
  refine W_v (.int .i64 a0.Err) (x_load (S.blk 1 rfl) ty28 rfl rfl) rfl ?_
  refine W_v _ (x_fieldAddr (o := 0) (off := 0) Tryd.underlying43 rfl ty28 rfl rfl) rfl ?_
  refine W_v (.int .i64 a1.Err) (x_load (S.blk 0 rfl) ty28 rfl rfl) rfl ?_
  refine W_v (.bool (a0.Err == a1.Err)) (x_ibin rfl rfl rfl rfl) rfl ?_
  refine W_v _ (x_move rfl) rfl ?_
  refine Wl_cutN 6 (fun ρ w' => Agree ρ [(2, .pointer (some ⟨b1, 0, none⟩)), (3, .pointer (some ⟨b4, 0, none⟩)), (16, .bool ((a0.Err == a1.Err) && (a0.Found == a1.Found)))] ∧ w5 = w') ?_ ?_
  · rcases boolCases (a0.Err == a1.Err) with hb7 | hb7
    · skip
      refine W_no (skT hb7) rfl ?_
      refine W_no (skT hb7) rfl ?_
      refine W_no (skT hb7) rfl ?_
      refine W_no (skT hb7) rfl ?_
      refine W_no (skT hb7) rfl ?_
      refine W_v _ (x_pick (k := false) (congrArg Value.bool hb7) rfl) rfl ?_
      refine Wl_nil ?_
      exact ⟨⟨rfl, rfl, (by first | rfl | (rw [hb7]; rfl) | (simp only [hb7]; rfl)), trivial⟩, rfl⟩
    · skip
      refine W_yes (congrArg some hb7) ?_
      refine W_v _ (x_fieldAddr (o := 0) (off := 1) Tryd.underlying43 rfl ty4 rfl rfl) rfl ?_
      refine W_yes (congrArg some hb7) ?_
      refine W_v (.bool a0.Found) (x_load (S.blk 1 rfl) ty4 rfl rfl) rfl ?_
      refine W_yes (congrArg some hb7) ?_
      refine W_v _ (x_fieldAddr (o := 0) (off := 1) Tryd.underlying43 rfl ty4 rfl rfl) rfl ?_
      refine W_yes (congrArg some hb7) ?_
      refine W_v (.bool a1.Found) (x_load (S.blk 0 rfl) ty4 rfl rfl) rfl ?_
      refine W_yes (congrArg some hb7) ?_
      refine W_v (.bool (a0.Found == a1.Found)) (x_beq Tryd.underlying4 rfl rfl) rfl ?_
      refine W_v _ (x_pick (k := true) (congrArg Value.bool hb7) rfl) rfl ?_
      refine Wl_nil ?_
      exact ⟨⟨rfl, rfl, (by first | rfl | (rw [hb7]; rfl) | (simp only [hb7]; rfl)), trivial⟩, rfl⟩
  as_aux_lemma =>
  rintro ρ _ ⟨hρ, rfl⟩
  rw [agree_eta hρ]
  clear hρ
  refine W_v _ (x_move rfl) rfl ?_
  refine Wl_cutN 6 (fun ρ w' => Agree ρ [(2, .pointer (some ⟨b1, 0, none⟩)), (3, .pointer (some ⟨b4, 0, none⟩)), (23, .bool (((a0.Err == a1.Err) && (a0.Found == a1.Found)) && (sbin .eql a0.Value a1.Value)))] ∧ w5 = w') ?_ ?_
  · rcases boolCases ((a0.Err == a1.Err) && (a0.Found == a1.Found)) with hb8 | hb8
    · skip
      refine W_no (skT hb8) rfl ?_
      refine W_no (skT hb8) rfl ?_
      refine W_no (skT hb8) rfl ?_
      refine W_no (skT hb8) rfl ?_
      refine W_no (skT hb8) rfl ?_
      refine W_v _ (x_pick (k := false) (congrArg Value.bool hb8) rfl) rfl ?_
      refine Wl_nil ?_
      exact ⟨⟨rfl, rfl, (by first | rfl | (rw [hb8]; rfl) | (simp only [hb8]; rfl)), trivial⟩, rfl⟩
    · skip
      refine W_yes (congrArg some hb8) ?_
      refine W_v _ (x_fieldAddr (o := 0) (off := 2) Tryd.underlying43 rfl ty9 rfl rfl) rfl ?_
      refine W_yes (congrArg some hb8) ?_
      refine W_v (.string (bs a0.Value)) (x_load (S.blk 1 rfl) ty9 rfl rfl) rfl ?_
      refine W_yes (congrArg some hb8) ?_
      refine W_v _ (x_fieldAddr (o := 0) (off := 2) Tryd.underlying43 rfl ty9 rfl rfl) rfl ?_
      refine W_yes (congrArg some hb8) ?_
      refine W_v (.string (bs a1.Value)) (x_load (S.blk 0 rfl) ty9 rfl rfl) rfl ?_
      refine W_yes (congrArg some hb8) ?_
      refine W_v (.bool (sbin .eql a0.Value a1.Value)) (x_sbin rfl rfl rfl) rfl ?_
      refine W_v _ (x_pick (k := true) (congrArg Value.bool hb8) rfl) rfl ?_
      refine Wl_nil ?_
      exact ⟨⟨rfl, rfl, (by first | rfl | (rw [hb8]; rfl) | (simp only [hb8]; rfl)), trivial⟩, rfl⟩
  as_aux_lemma =>
  rintro ρ _ ⟨hρ, rfl⟩
  rw [agree_eta hρ]
  clear hρ
  refine W_v _ (x_move rfl) rfl ?_
  obtain ⟨o17, o17h, o17H⟩ := bindS H
  clear H
  refine Wl_cutN 6 (fun ρ w' => ∃ (x16 : Bool), (x16) = o17 ∧ Agree ρ [(30, .bool x16)] ∧ Ext w w' ∧ St w' M F []) ?_ ?_
  · have H := o17h
    rcases iteS H with ⟨hb15, H⟩ | ⟨hb15, H⟩
    · skip
      refine W_yes (congrArg some hb15) ?_
      refine W_v _ (x_fieldAddr (o := 0) (off := 3) Tryd.underlying43 rfl ty41 rfl rfl) rfl ?_
      refine W_yes (congrArg some hb15) ?_
      refine W_v (.slice A0_0 a0.Pairs.length c0_0) (x_load (S.blk 1 rfl) ty41 rfl rfl) rfl ?_
      refine W_yes (congrArg some hb15) ?_
      refine W_v _ (x_fieldAddr (o := 0) (off := 3) Tryd.underlying43 rfl ty41 rfl rfl) rfl ?_
      refine W_yes (congrArg some hb15) ?_
      refine W_v (.slice A1_0 a1.Pairs.length c1_0) (x_load (S.blk 0 rfl) ty41 rfl rfl) rfl ?_
      refine W_yes (congrArg some hb15) ?_
      obtain ⟨t18, ht19, H⟩ := bindS H
      refine W_callF fn66 (slices_Equal_api_Pair_api_Pair.con k M A0_0 c0_0 a0.Pairs A1_0 c1_0 a1.Pairs t18 hr0_0 hr1_0 ht19) S rfl rfl (by rintro _ _ _ ⟨_, rfl⟩; exact flat_nil) ?_
      rintro _ w20 _ Γ' E' S ⟨rfl, rfl⟩
      replace E := E.trans E'
      clear E'
      refine W_v _ (x_pick (k := true) (congrArg Value.bool hb15) rfl) rfl ?_
      refine Wl_nil ?_
      exact ⟨t18, Option.some.inj H, ⟨rfl, trivial⟩, E, S.pick [] (by decide)⟩
    · skip
      refine W_no (skT hb15) rfl ?_
      refine W_no (skT hb15) rfl ?_
      refine W_no (skT hb15) rfl ?_
      refine W_no (skT hb15) rfl ?_
      refine W_no (skT hb15) rfl ?_
      refine W_v _ (x_pick (k := false) (congrArg Value.bool hb15) rfl) rfl ?_
      refine Wl_nil ?_
      exact ⟨false, Option.some.inj H, ⟨rfl, trivial⟩, E, S.pick [] (by decide)⟩
  clear o17h
  rintro ρ w21 ⟨x16, rfl, hρ, E, S⟩
  rw [agree_eta hρ]
  clear hρ
  have H := o17H
  clear o17H
  refine W_v (.bool x16) (x_assign rfl) rfl ?_
  refine Wl_nil ?_
  refine tn ?_
  refine Wp_ret ?_
  obtain rfl := Option.some.inj H
  exact ⟨_, _, _, fun w1 e1 => run_resR (vs := [.bool x16]) (FA.cons (rfl) (FA.nil)), HM, E, S.pick [] (by decide), ⟨rfl, rfl⟩⟩
end Go.Proofs.YtcngjjlhdlbogaaDoor
