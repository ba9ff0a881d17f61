import Derived.Test.YtcngjjlhdlbogaaDoorGm1B
import Derived.Test.YtcngjjlhdlbogaaDoorGm1P0
import Derived.Test.YtcngjjlhdlbogaaDoorGm1P2
import Derived.Test.YtcngjjlhdlbogaaDoorGm1P3
import Derived.Test.YtcngjjlhdlbogaaDoorGm1LModelNamesP0
import Derived.Test.YtcngjjlhdlbogaaDoorGm1LModelNamesP1
namespace Go.Proofs.YtcngjjlhdlbogaaDoor
open Go
set_option linter.unusedVariables false
set_option linter.unusedSimpArgs false
/-! ### ferryman/ferrymanlaw16.ModelNames: function 6 -/
def ferrymanlaw16_ModelNames_l0 (x370 : List St72) : Nat → Int → model_Model → Option ((Bool) ⊕ (model_Model))
  | 0, _, _ => none
  | k + 1, x698, x699 => (if (decide (x698 < (x370.length : Int))) = true then (if 0 ≤ x698 ∧ x698 < (x370.length : Int) then (Option.bind (model_Model_Refused_POOOO k x699 ((rd x370 x698).task) ((rd x370 x698).c)) (fun t962 => (Option.bind (α := Bool × model_Model) (if (t962 != (rd x370 x698).e) = true then some (true, x699) else (Option.bind (ferrymanlaw16_is_POOOO k x699 ((rd x370 x698).task) ((rd x370 x698).c) ((rd x370 x698).e) false ([] : Str)) (fun t1004 => some ((!t1004.1), t1004.2)))) (fun ⟨x987, x988⟩ => (if x987 = true then some (.inl false) else ferrymanlaw16_ModelNames_l0 x370 k (IntKind.i64.wrap (x698 + (1 : Int))) x988))))) else none) else some (.inr (x699)))
set_option maxHeartbeats 2000000 in
theorem ferrymanlaw16_ModelNames_l0.mono {x370 : List St72} : ∀ {kl : Nat} {x0 x1}, OLe (ferrymanlaw16_ModelNames_l0 x370 kl x0 x1) (ferrymanlaw16_ModelNames_l0 x370 (kl + 1) x0 x1) := by
  intro kl
  induction kl with
  | zero => intros; exact OLe.none
  | succ kl ih =>
    intros
    rw [ferrymanlaw16_ModelNames_l0.eq_2, ferrymanlaw16_ModelNames_l0.eq_2]
    repeat' (first | with_reducible exact OLe.none | with_reducible exact OLe.some | with_reducible refine OLe.ite ?_ ?_ | with_reducible refine OLe.bind ?_ (fun _ => ?_) | with_reducible exact ferrymanlaw16_is_POOOO.mono | with_reducible exact model_Model_Refused_POOOO.mono | exact ih | refine OLe.bind ?_ (fun _ => ?_) | refine OLe.ite ?_ ?_ | refine OLe.elim (fun _ => ?_) (fun _ => ?_) | split)
def ferrymanlaw16_ModelNames (k : Nat)  : Option (Bool) :=
  (Option.bind (model_Model_Tx_Z k (0 : Int) (1 : Int)) (fun t1 => (Option.bind (model_Model_Intent_Z k ([97] : Str)) (fun t6 => (Option.bind (ferrymanlaw16_works k ) (fun t15 => (Option.bind (α := Bool) (if (cond (cond (cond (cond (cond (cond (cond (!t15) true false) true false) true false) true false) true false) true false) true false) = true then some (true) else (Option.bind (model_Model_Do_Z k (0 : Int) (⟨(1 : Int), (0 : Int), ([] : Str), ([] : Str), ([] : Str), (0 : Int), (0 : Int)⟩ : api_Call)) (fun t37 => some ((t37.Err != (2 : Int)))))) (fun x35 => (Option.bind (α := Bool) (if x35 = true then some (true) else (Option.bind (model_Model_Refused_Z k (0 : Int) (⟨(1 : Int), (0 : Int), ([] : Str), ([] : Str), ([] : Str), (0 : Int), (0 : Int)⟩ : api_Call)) (fun t59 => some ((t59 != (2 : Int)))))) (fun x57 => (Option.bind (α := Bool) (if ((x57 || ((IntKind.i64.wrap ((IntKind.i64.wrap (t1.1 + (IntKind.i64.wrap t1.2.1))) + t1.2.2)) != (0 : Int))) || t6.2) = true then some (true) else (Option.bind (model_Model_Versions_Z k ([97] : Str)) (fun t142 => (Option.bind (model_Model_Keys_Z k ) (fun t150 => (Option.bind (model_Model_Retained_Z k ) (fun t158 => (Option.bind (model_Model_Active_Z k ) (fun t163 => (Option.bind (model_Model_Clock_Z k ) (fun t168 => (Option.bind (model_Model_Floor_Z k ) (fun t173 => some (((IntKind.i64.wrap ((IntKind.i64.wrap ((IntKind.i64.wrap ((IntKind.i64.wrap ((IntKind.i64.wrap ((t142.length : Int) + (t150.length : Int))) + t158)) + t163)) + t168)) + t173)) != (0 : Int)))))))))))))))) (fun x140 => (Option.bind (α := Bool) (if x140 = true then some (true) else (Option.bind (model_Model_Copy_Z k ) (fun t192 => some (false)))) (fun x190 => (if x190 = true then some false else (Option.bind (ferrymanlaw16_small k ) (fun t199 => (Option.bind (model_New_v k (⟨t199.Tasks, t199.Active, t199.Keys, (1 : Int), t199.TS, t199.KeyLen, t199.ValLen, t199.Fan⟩ : api_Config)) (fun t207 => (Sum.elim (fun t209 => (Option.bind (ferrymanlaw16_small k ) (fun t214 => (Option.bind (model_New_v k t214) (fun t217 => (Sum.elim (fun t219 => some false) (fun t220 => (Option.bind (ferrymanlaw16_on k (1 : Int) (0 : Int) ([] : Str) ([] : Str)) (fun t243 => (Option.bind (model_Model_Do_POOOO k t220 (0 : Int) t243) (fun t246 => (Option.bind (ferrymanlaw16_on k (7 : Int) (1 : Int) ([] : Str) ([] : Str)) (fun t268 => (Option.bind (model_Model_Do_POOOO k t246.2 (0 : Int) t268) (fun t271 => (Option.bind (ferrymanlaw16_on k (1 : Int) (0 : Int) ([] : Str) ([] : Str)) (fun t293 => (Option.bind (model_Model_Do_POOOO k t271.2 (0 : Int) t293) (fun t296 => (if 0 ≤ (3 : Int) ∧ (3 : Int) ≤ (3 : Int) ∧ (3 : Int) * 1 ≤ 140737488355328 ∧ (3 : Int) ≤ 9223372036854775807 then (Option.bind (ferrymanlaw16_on k (1 : Int) (0 : Int) ([] : Str) ([] : Str)) (fun t325 => (Option.bind (ferrymanlaw16_on k (1 : Int) (0 : Int) ([] : Str) ([] : Str)) (fun t328 => (Option.bind (ferrymanlaw16_on k (2 : Int) (0 : Int) ([97] : Str) ([] : Str)) (fun t331 => (Option.bind (ferrymanlaw16_on k (2 : Int) (3 : Int) ([97] : Str) ([] : Str)) (fun t334 => (Option.bind (ferrymanlaw16_on k (2 : Int) (2 : Int) ([97] : Str) ([] : Str)) (fun t337 => (Option.bind (ferrymanlaw16_on k (2 : Int) (-1 : Int) (bytesOf (List.replicate (3 : Int).toNat (0 : Int))) ([] : Str)) (fun t340 => (Option.bind (ferrymanlaw16_on k (2 : Int) (1 : Int) (bytesOf (List.replicate (3 : Int).toNat (0 : Int))) ([] : Str)) (fun t343 => (Option.bind (ferrymanlaw16_on k (6 : Int) (1 : Int) ([] : Str) ([] : Str)) (fun t346 => (Option.bind (ferrymanlaw16_on k (2 : Int) (2 : Int) ([] : Str) ([] : Str)) (fun t349 => (Option.bind (ferrymanlaw16_on k (2 : Int) (2 : Int) (bytesOf (List.replicate (3 : Int).toNat (0 : Int))) ([] : Str)) (fun t352 => (Option.bind (ferrymanlaw16_on k (3 : Int) (2 : Int) ([] : Str) ([97] : Str)) (fun t355 => (Option.bind (ferrymanlaw16_on k (3 : Int) (2 : Int) ([97] : Str) (bytesOf (List.replicate (3 : Int).toNat (0 : Int)))) (fun t358 => (Option.bind (ferrymanlaw16_on k (4 : Int) (2 : Int) (bytesOf (List.replicate (3 : Int).toNat (0 : Int))) ([] : Str)) (fun t361 => (Option.bind (ferrymanlaw16_on k (4 : Int) (2 : Int) ([97] : Str) (bytesOf (List.replicate (3 : Int).toNat (0 : Int)))) (fun t364 => (Option.bind (α := List St72) (some ([(⟨(-1 : Int), ⟨t325.Kind, t325.Tx, t325.Key, t325.End, t325.Value, t325.Limit, t325.Engine⟩, (1 : Int)⟩ : St72), (⟨(2 : Int), ⟨t328.Kind, t328.Tx, t328.Key, t328.End, t328.Value, t328.Limit, t328.Engine⟩, (1 : Int)⟩ : St72), (⟨(0 : Int), ⟨(0 : Int), (0 : Int), ([] : Str), ([] : Str), ([] : Str), (0 : Int), (0 : Int)⟩, (1 : Int)⟩ : St72), (⟨(0 : Int), ⟨(10 : Int), (0 : Int), ([] : Str), ([] : Str), ([] : Str), (0 : Int), (0 : Int)⟩, (1 : Int)⟩ : St72), (⟨(0 : Int), ⟨(9 : Int), (0 : Int), ([] : Str), ([] : Str), ([] : Str), (0 : Int), (0 : Int)⟩, (1 : Int)⟩ : St72), (⟨(0 : Int), ⟨(9 : Int), (0 : Int), ([] : Str), ([] : Str), ([] : Str), (0 : Int), (3 : Int)⟩, (1 : Int)⟩ : St72), (⟨(0 : Int), ⟨(9 : Int), (0 : Int), ([] : Str), ([] : Str), ([] : Str), (0 : Int), (2 : Int)⟩, (0 : Int)⟩ : St72), (⟨(0 : Int), ⟨t331.Kind, t331.Tx, t331.Key, t331.End, t331.Value, t331.Limit, t331.Engine⟩, (30 : Int)⟩ : St72), (⟨(0 : Int), ⟨t334.Kind, t334.Tx, t334.Key, t334.End, t334.Value, t334.Limit, t334.Engine⟩, (30 : Int)⟩ : St72), (⟨(1 : Int), ⟨t337.Kind, t337.Tx, t337.Key, t337.End, t337.Value, t337.Limit, t337.Engine⟩, (30 : Int)⟩ : St72), (⟨(0 : Int), ⟨t340.Kind, t340.Tx, t340.Key, t340.End, t340.Value, t340.Limit, t340.Engine⟩, (30 : Int)⟩ : St72), (⟨(0 : Int), ⟨t343.Kind, t343.Tx, t343.Key, t343.End, t343.Value, t343.Limit, t343.Engine⟩, (31 : Int)⟩ : St72), (⟨(0 : Int), ⟨t346.Kind, t346.Tx, t346.Key, t346.End, t346.Value, t346.Limit, t346.Engine⟩, (31 : Int)⟩ : St72), (⟨(0 : Int), ⟨t349.Kind, t349.Tx, t349.Key, t349.End, t349.Value, t349.Limit, t349.Engine⟩, (32 : Int)⟩ : St72), (⟨(0 : Int), ⟨t352.Kind, t352.Tx, t352.Key, t352.End, t352.Value, t352.Limit, t352.Engine⟩, (32 : Int)⟩ : St72), (⟨(0 : Int), ⟨t355.Kind, t355.Tx, t355.Key, t355.End, t355.Value, t355.Limit, t355.Engine⟩, (32 : Int)⟩ : St72), (⟨(0 : Int), ⟨t358.Kind, t358.Tx, t358.Key, t358.End, t358.Value, t358.Limit, t358.Engine⟩, (32 : Int)⟩ : St72), (⟨(0 : Int), ⟨t361.Kind, t361.Tx, t361.Key, t361.End, t361.Value, t361.Limit, t361.Engine⟩, (32 : Int)⟩ : St72), (⟨(0 : Int), ⟨t364.Kind, t364.Tx, t364.Key, t364.End, t364.Value, t364.Limit, t364.Engine⟩, (0 : Int)⟩ : St72), (⟨(0 : Int), ⟨(5 : Int), (2 : Int), (bytesOf (List.replicate (3 : Int).toNat (0 : Int))), ([] : Str), ([] : Str), (0 : Int), (0 : Int)⟩, (32 : Int)⟩ : St72), (⟨(0 : Int), ⟨(5 : Int), (2 : Int), ([] : Str), (bytesOf (List.replicate (3 : Int).toNat (0 : Int))), ([] : Str), (0 : Int), (0 : Int)⟩, (32 : Int)⟩ : St72), (⟨(0 : Int), ⟨(5 : Int), (2 : Int), ([] : Str), ([] : Str), ([] : Str), (-1 : Int), (0 : Int)⟩, (32 : Int)⟩ : St72), (⟨(0 : Int), ⟨(5 : Int), (2 : Int), ([] : Str), ([] : Str), ([] : Str), (129 : Int), (0 : Int)⟩, (32 : Int)⟩ : St72), (⟨(0 : Int), ⟨(5 : Int), (2 : Int), ([] : Str), ([] : Str), ([] : Str), (128 : Int), (0 : Int)⟩, (0 : Int)⟩ : St72)] : List St72)) (fun x370 => (Option.bind (ferrymanlaw16_ModelNames_l0 x370 k (0 : Int) t296.2) (fun o876o => Sum.elim (fun r' => some r') (fun x861 => (Option.bind (ferrymanlaw16_fulls_POOOO k x861) (fun t1030 => some t1030.1))) o876o)))))))))))))))))))))))))))))))) else none))))))))))))))) t217))))) (fun t210 => (Option.bind (ferrymanlaw16_small k ) (fun t1068 => (Option.bind (model_New_v k t1068) (fun t1071 => (Sum.elim (fun t1073 => some false) (fun t1074 => some false)) t1071)))))) t207)))))))))))))))))))
set_option maxHeartbeats 2000000 in
theorem ferrymanlaw16_ModelNames.mono {k : Nat}  : OLe (ferrymanlaw16_ModelNames k ) (ferrymanlaw16_ModelNames (k + 1) ) := by
  unfold ferrymanlaw16_ModelNames
  repeat' (first | with_reducible exact OLe.none | with_reducible exact OLe.some | with_reducible refine OLe.ite ?_ ?_ | with_reducible refine OLe.bind ?_ (fun _ => ?_) | with_reducible exact ferrymanlaw16_ModelNames_l0.mono | with_reducible exact ferrymanlaw16_fulls_POOOO.mono | with_reducible exact ferrymanlaw16_on.mono | with_reducible exact ferrymanlaw16_small.mono | with_reducible exact ferrymanlaw16_works.mono | with_reducible exact model_Model_Active_Z.mono | with_reducible exact model_Model_Clock_Z.mono | with_reducible exact model_Model_Copy_Z.mono | with_reducible exact model_Model_Do_POOOO.mono | with_reducible exact model_Model_Do_Z.mono | with_reducible exact model_Model_Floor_Z.mono | with_reducible exact model_Model_Intent_Z.mono | with_reducible exact model_Model_Keys_Z.mono | with_reducible exact model_Model_Refused_Z.mono | with_reducible exact model_Model_Retained_Z.mono | with_reducible exact model_Model_Tx_Z.mono | with_reducible exact model_Model_Versions_Z.mono | with_reducible exact model_New_v.mono | refine OLe.bind ?_ (fun _ => ?_) | refine OLe.ite ?_ ?_ | refine OLe.elim (fun _ => ?_) (fun _ => ?_) | split)
set_option maxHeartbeats 80000000 in
set_option maxRecDepth 100000 in
theorem ferrymanlaw16_ModelNames.con (k : Nat) (M : Hp)  (r : Bool)  (hg0 : ∃ gt fr, M 0 = some (.cells #[.nilFunc, .func (.func 124) #[] #[], .func (.func 125) #[] #[], .func (.func 126) #[] #[], .func (.func 127) #[] #[], .func (.func 128) #[] #[], .func (.func 129) #[] #[], .func (.func 130) #[] #[], .func (.func 131) #[] #[], .func (.func 132) #[] #[]] gt fr)) (h : ferrymanlaw16_ModelNames k  = some r) : Con Tryd.prog 6 #[] M [] (fun v M' Γ' => v = .bool r ∧ Γ' = []) := by
  refine con_of_wp Tryd.func6 rfl Tryd.ntmps6 Tryd.results6 rfl ?_
  intro w F rn S hrn
  have E := Ext.refl w
  have HM := Hp.le_refl M
  have H := h
  unfold ferrymanlaw16_ModelNames at H
  refine Wp_seq ?_
  refine Wp_region_lit ?_
  refine W_v (.bool false) (x_assign rfl) rfl ?_
  refine Wl_nil ?_
  refine tn ?_
  refine Wp_seq ?_
  refine Wp_region_lit ?_
  refine W_v (.pointer none) (x_assign rfl) rfl ?_
  refine Wl_nil ?_
  refine tn ?_
  refine Wp_seq ?_
  refine Wp_region_lit ?_
  refine W_v (.pointer none) (x_move rfl) rfl ?_
  obtain ⟨t1, ht2, H⟩ := bindS H
  refine W_callF2 fn23 (model_Model_Tx_Z.con k M (0 : Int) (1 : Int) t1  ht2) (Γ1 := []) (Γ2 := []) S rfl rfl (by rintro _ _ _ ⟨rfl, rfl⟩; exact flat_nil) ?_
  rintro _ w3 _ Γ' E' S ⟨rfl, rfl⟩
  replace E := E.trans E'
  clear E'
  replace S : St w3 M F [] := S
  refine W_v (.tuple #[.int .i64 t1.1, .int .u8 t1.2.1, .int .i64 t1.2.2]) (x_move rfl) rfl ?_
  refine W_v (.int .i64 t1.1) (x_extract rfl rfl) rfl ?_
  refine W_v (.int .u8 t1.2.1) (x_extract rfl rfl) rfl ?_
  refine W_v (.int .i64 t1.2.2) (x_extract rfl rfl) rfl ?_
  refine W_v (.int .i64 t1.1) (x_assign rfl) rfl ?_
  refine W_v (.int .u8 t1.2.1) (x_assign rfl) rfl ?_
  refine W_v (.int .i64 t1.2.2) (x_assign rfl) rfl ?_
  refine Wl_nil ?_
  refine tn ?_
  refine Wp_seq ?_
  refine Wp_region_lit ?_
  refine W_v (.pointer none) (x_move rfl) rfl ?_
  obtain ⟨t6, ht7, H⟩ := bindS H
  refine W_callF2 fn24 (model_Model_Intent_Z.con k M ([97] : Str) t6  ht7) (Γ1 := []) (Γ2 := []) S rfl rfl (by rintro _ _ _ ⟨rfl, rfl⟩; exact flat_nil) ?_
  rintro _ w8 _ Γ' E' S ⟨rfl, rfl⟩
  replace E := E.trans E'
  clear E'
  replace S : St w8 M F [] := S
  refine W_v (.tuple #[.agg #[.int .i64 t6.1.Writer, .int .i64 t6.1.TS, .bool t6.1.Tomb, .string (bs t6.1.Value)], .bool t6.2]) (x_move rfl) rfl ?_
  refine W_v (.agg #[.int .i64 t6.1.Writer, .int .i64 t6.1.TS, .bool t6.1.Tomb, .string (bs t6.1.Value)]) (x_extract rfl rfl) rfl ?_
  refine W_v (.bool t6.2) (x_extract rfl rfl) rfl ?_
  refine W_alloc S #[.int .i64 0, .int .i64 0, .bool false, .string (bs ([] : Str))] ty61 rfl rfl ?_
  intro b11 w12 E' S
  replace E := E.trans E'
  clear E'
  refine W_store S 0 rfl ty61 rfl rfl [.int .i64 t6.1.Writer, .int .i64 t6.1.TS, .bool t6.1.Tomb, .string (bs t6.1.Value)] rfl rfl rfl #[.int .i64 t6.1.Writer, .int .i64 t6.1.TS, .bool t6.1.Tomb, .string (bs t6.1.Value)] rfl rfl ?_
  intro w14 E' S
  replace E := E.trans E'
  clear E'
  refine W_v (.bool t6.2) (x_assign rfl) rfl ?_
  refine Wl_nil ?_
  refine tn ?_
  as_aux_lemma =>
  refine Wp_seq ?_
  refine Wp_seq ?_
  refine Wp_region_lit ?_
  obtain ⟨t15, ht16, H⟩ := bindS H
  refine W_callF fn11 (ferrymanlaw16_works.con k M  t15 hg0 ht16) S rfl rfl (by rintro _ _ _ ⟨_, rfl⟩; exact flat_nil) ?_
  rintro _ w17 _ Γ' E' S ⟨rfl, rfl⟩
  replace E := E.trans E'
  clear E'
  refine W_v (.bool (!t15)) (x_not (b := t15) rfl) rfl ?_
  refine W_v (.bool (!t15)) (x_move rfl) rfl ?_
  refine W_v (.bool (cond (!t15) true false)) (x_pickB rfl rfl rfl) rfl ?_
  refine W_v (.bool (cond (!t15) true false)) (x_move rfl) rfl ?_
  refine W_v (.bool (cond (cond (!t15) true false) true false)) (x_pickB rfl rfl rfl) rfl ?_
  refine W_v (.bool (cond (cond (!t15) true false) true false)) (x_move rfl) rfl ?_
  refine W_v (.bool (cond (cond (cond (!t15) true false) true false) true false)) (x_pickB rfl rfl rfl) rfl ?_
  refine W_v (.bool (cond (cond (cond (!t15) true false) true false) true false)) (x_move rfl) rfl ?_
  refine W_v (.bool (cond (cond (cond (cond (!t15) true false) true false) true false) true false)) (x_pickB rfl rfl rfl) rfl ?_
  refine W_v (.bool (cond (cond (cond (cond (!t15) true false) true false) true false) true false)) (x_move rfl) rfl ?_
  refine W_v (.bool (cond (cond (cond (cond (cond (!t15) true false) true false) true false) true false) true false)) (x_pickB rfl rfl rfl) rfl ?_
  refine W_v (.bool (cond (cond (cond (cond (cond (!t15) true false) true false) true false) true false) true false)) (x_move rfl) rfl ?_
  refine W_v (.bool (cond (cond (cond (cond (cond (cond (!t15) true false) true false) true false) true false) true false) true false)) (x_pickB rfl rfl rfl) rfl ?_
  refine W_v (.bool (cond (cond (cond (cond (cond (cond (!t15) true false) true false) true false) true false) true false) true false)) (x_move rfl) rfl ?_
  refine W_v (.bool (cond (cond (cond (cond (cond (cond (cond (!t15) true false) true false) true false) true false) true false) true false) true false)) (x_pickB rfl rfl rfl) rfl ?_
  refine W_v (.bool (cond (cond (cond (cond (cond (cond (cond (!t15) true false) true false) true false) true false) true false) true false) true false)) (x_move rfl) rfl ?_
  obtain ⟨o36, o36h, o36H⟩ := bindS H
  clear H
  refine Wl_cutN 6 (fun ρ w' => ∃ (x35 : Bool), (x35) = o36 ∧ Agree ρ [(1, .pointer none), (2, .int .i64 t1.1), (3, .int .u8 t1.2.1), (4, .int .i64 t1.2.2), (6, .bool t6.2), (48, .bool x35)] ∧ Ext w w' ∧ St w' M F []) ?_ ?_
  · have H := o36h
    rcases iteS H with ⟨hb34, H⟩ | ⟨hb34, H⟩
    · skip
      refine W_no (skF hb34) rfl ?_
      refine W_no (skF hb34) rfl ?_
      refine W_no (skF hb34) rfl ?_
      refine W_no (skF hb34) rfl ?_
      refine W_no (skF hb34) rfl ?_
      refine W_v (.bool true) (x_pick (k := true) (congrArg Value.bool hb34) rfl) rfl ?_
      refine Wl_nil ?_
      exact ⟨true, Option.some.inj H, ⟨rfl, rfl, rfl, rfl, rfl, rfl, trivial⟩, E, S.pick [] (by decide)⟩
    · skip
      refine W_yes (congrArg some hb34) ?_
      refine W_v (.pointer none) (x_move rfl) rfl ?_
      refine W_yes (congrArg some hb34) ?_
      refine W_v (.agg #[.int .u8 1, .int .i64 0, .string (bs ([] : Str)), .string (bs ([] : Str)), .string (bs ([] : Str)), .int .i64 0, .int .u8 0]) (x_build2 (pl := [(0, 1), (1, 1), (2, 1), (3, 1), (4, 1), (5, 1), (6, 1)]) #[.int .u8 1, .int .i64 0, .string (bs ([] : Str)), .string (bs ([] : Str)), .string (bs ([] : Str)), .int .i64 0, .int .u8 0] Tryd.underlying37 ty37 (by as_aux_lemma => kernel_rfl) rfl (by as_aux_lemma => kernel_rfl)) rfl ?_
      refine W_yes (congrArg some hb34) ?_
      obtain ⟨t37, ht38, H⟩ := bindS H
      refine W_callF2 fn15 (model_Model_Do_Z.con k M (0 : Int) (⟨(1 : Int), (0 : Int), ([] : Str), ([] : Str), ([] : Str), (0 : Int), (0 : Int)⟩ : api_Call) t37 hg0 ht38) (Γ1 := []) (Γ2 := [_]) S rfl rfl (by rintro _ _ _ ⟨_, _, rfl, rfl⟩; exact (flat_cons (flat_row (fun _ _ _ _ h => h)) flat_nil)) ?_
      rintro _ w42 _ Γ' E' S ⟨A39, c40, rfl, rfl⟩
      replace E := E.trans E'
      clear E'
      replace S : St w42 M F [_, _] := S
      refine W_yes (congrArg some hb34) ?_
      refine W_v (.int .i64 t37.Err) (x_field Tryd.underlying43 rfl rfl ty28 rfl) rfl ?_
      refine W_yes (congrArg some hb34) ?_
      refine W_v (.bool (t37.Err != (2 : Int))) (x_ibin rfl rfl rfl rfl) rfl ?_
      refine W_v (.bool (t37.Err != (2 : Int))) (x_pick (k := false) (congrArg Value.bool hb34) rfl) rfl ?_
      refine Wl_nil ?_
      exact ⟨(t37.Err != (2 : Int)), Option.some.inj H, ⟨rfl, rfl, rfl, rfl, rfl, rfl, trivial⟩, E, S.pick [] (by decide)⟩
  as_aux_lemma =>
  clear o36h
  rintro ρ w45 ⟨x35, rfl, hρ, E, S⟩
  rw [agree_eta hρ]
  clear hρ
  have H := o36H
  clear o36H
  refine W_v (.bool x35) (x_move rfl) rfl ?_
  obtain ⟨o58, o58h, o58H⟩ := bindS H
  clear H
  refine Wl_cutN 5 (fun ρ w' => ∃ (x57 : Bool), (x57) = o58 ∧ Agree ρ [(1, .pointer none), (2, .int .i64 t1.1), (3, .int .u8 t1.2.1), (4, .int .i64 t1.2.2), (6, .bool t6.2), (54, .bool x57)] ∧ Ext w w' ∧ St w' M F []) ?_ ?_
  · have H := o58h
    rcases iteS H with ⟨hb56, H⟩ | ⟨hb56, H⟩
    · skip
      refine W_no (skF hb56) rfl ?_
      refine W_no (skF hb56) rfl ?_
      refine W_no (skF hb56) rfl ?_
      refine W_no (skF hb56) rfl ?_
      refine W_v (.bool true) (x_pick (k := true) (congrArg Value.bool hb56) rfl) rfl ?_
      refine Wl_nil ?_
      exact ⟨true, Option.some.inj H, ⟨rfl, rfl, rfl, rfl, rfl, rfl, trivial⟩, E, S.pick [] (by decide)⟩
    · skip
      refine W_yes (congrArg some hb56) ?_
      refine W_v (.pointer none) (x_move rfl) rfl ?_
      refine W_yes (congrArg some hb56) ?_
      refine W_v (.agg #[.int .u8 1, .int .i64 0, .string (bs ([] : Str)), .string (bs ([] : Str)), .string (bs ([] : Str)), .int .i64 0, .int .u8 0]) (x_build2 (pl := [(0, 1), (1, 1), (2, 1), (3, 1), (4, 1), (5, 1), (6, 1)]) #[.int .u8 1, .int .i64 0, .string (bs ([] : Str)), .string (bs ([] : Str)), .string (bs ([] : Str)), .int .i64 0, .int .u8 0] Tryd.underlying37 ty37 (by as_aux_lemma => kernel_rfl) rfl (by as_aux_lemma => kernel_rfl)) rfl ?_
      refine W_yes (congrArg some hb56) ?_
      obtain ⟨t59, ht60, H⟩ := bindS H
      refine W_callF2 fn25 (model_Model_Refused_Z.con k M (0 : Int) (⟨(1 : Int), (0 : Int), ([] : Str), ([] : Str), ([] : Str), (0 : Int), (0 : Int)⟩ : api_Call) t59  ht60) (Γ1 := []) (Γ2 := []) S rfl rfl (by rintro _ _ _ ⟨rfl, rfl⟩; exact flat_nil) ?_
      rintro _ w61 _ Γ' E' S ⟨rfl, rfl⟩
      replace E := E.trans E'
      clear E'
      replace S : St w61 M F [] := S
      refine W_yes (congrArg some hb56) ?_
      refine W_v (.bool (t59 != (2 : Int))) (x_ibin rfl rfl rfl rfl) rfl ?_
      refine W_v (.bool (t59 != (2 : Int))) (x_pick (k := false) (congrArg Value.bool hb56) rfl) rfl ?_
      refine Wl_nil ?_
      exact ⟨(t59 != (2 : Int)), Option.some.inj H, ⟨rfl, rfl, rfl, rfl, rfl, rfl, trivial⟩, E, S.pick [] (by decide)⟩
  as_aux_lemma =>
  clear o58h
  rintro ρ w64 ⟨x57, rfl, hρ, E, S⟩
  rw [agree_eta hρ]
  clear hρ
  have H := o58H
  clear o58H
  refine W_v (.bool x57) (x_move rfl) rfl ?_
  refine Wl_cutN 8 (fun ρ w' => Agree ρ [(1, .pointer none), (6, .bool t6.2), (63, .bool (x57 || ((IntKind.i64.wrap ((IntKind.i64.wrap (t1.1 + (IntKind.i64.wrap t1.2.1))) + t1.2.2)) != (0 : Int))))] ∧ w64 = w') ?_ ?_
  · rcases boolCases x57 with hb65 | hb65
    · skip
      refine W_yes (congrArg some hb65) ?_
      refine W_v (.int .i64 t1.1) (x_move rfl) rfl ?_
      refine W_yes (congrArg some hb65) ?_
      refine W_v (.int .u8 t1.2.1) (x_move rfl) rfl ?_
      refine W_yes (congrArg some hb65) ?_
      refine W_v (.int .i64 (IntKind.i64.wrap t1.2.1)) (x_conv_int Tryd.underlying5 Tryd.underlying3 rfl) rfl ?_
      refine W_yes (congrArg some hb65) ?_
      refine W_v (.int .i64 (IntKind.i64.wrap (t1.1 + (IntKind.i64.wrap t1.2.1)))) (x_ibin rfl rfl rfl rfl) rfl ?_
      refine W_yes (congrArg some hb65) ?_
      refine W_v (.int .i64 t1.2.2) (x_move rfl) rfl ?_
      refine W_yes (congrArg some hb65) ?_
      refine W_v (.int .i64 (IntKind.i64.wrap ((IntKind.i64.wrap (t1.1 + (IntKind.i64.wrap t1.2.1))) + t1.2.2))) (x_ibin rfl rfl rfl rfl) rfl ?_
      refine W_yes (congrArg some hb65) ?_
      refine W_v (.bool ((IntKind.i64.wrap ((IntKind.i64.wrap (t1.1 + (IntKind.i64.wrap t1.2.1))) + t1.2.2)) != (0 : Int))) (x_ibin rfl rfl rfl rfl) rfl ?_
      refine W_v (.bool ((IntKind.i64.wrap ((IntKind.i64.wrap (t1.1 + (IntKind.i64.wrap t1.2.1))) + t1.2.2)) != (0 : Int))) (x_pick (k := false) (congrArg Value.bool hb65) rfl) rfl ?_
      refine Wl_nil ?_
      exact ⟨⟨rfl, rfl, (by first | rfl | (rw [hb65]; rfl) | (simp only [hb65]; rfl)), trivial⟩, rfl⟩
    · skip
      refine W_no (skF hb65) rfl ?_
      refine W_no (skF hb65) rfl ?_
      refine W_no (skF hb65) rfl ?_
      refine W_no (skF hb65) rfl ?_
      refine W_no (skF hb65) rfl ?_
      refine W_no (skF hb65) rfl ?_
      refine W_no (skF hb65) rfl ?_
      refine W_v (.bool true) (x_pick (k := true) (congrArg Value.bool hb65) rfl) rfl ?_
      refine Wl_nil ?_
      exact ⟨⟨rfl, rfl, (by first | rfl | (rw [hb65]; rfl) | (simp only [hb65]; rfl)), trivial⟩, rfl⟩
  as_aux_lemma =>
  rintro ρ _ ⟨hρ, rfl⟩
  rw [agree_eta hρ]
  clear hρ
  refine W_v (.bool (x57 || ((IntKind.i64.wrap ((IntKind.i64.wrap (t1.1 + (IntKind.i64.wrap t1.2.1))) + t1.2.2)) != (0 : Int)))) (x_move rfl) rfl ?_
  refine Wl_cutN 2 (fun ρ w' => Agree ρ [(1, .pointer none), (66, .bool ((x57 || ((IntKind.i64.wrap ((IntKind.i64.wrap (t1.1 + (IntKind.i64.wrap t1.2.1))) + t1.2.2)) != (0 : Int))) || t6.2))] ∧ w64 = w') ?_ ?_
  · rcases boolCases (x57 || ((IntKind.i64.wrap ((IntKind.i64.wrap (t1.1 + (IntKind.i64.wrap t1.2.1))) + t1.2.2)) != (0 : Int))) with hb66 | hb66
    · skip
      refine W_yes (congrArg some hb66) ?_
      refine W_v (.bool t6.2) (x_move rfl) rfl ?_
      refine W_v (.bool t6.2) (x_pick (k := false) (congrArg Value.bool hb66) rfl) rfl ?_
      refine Wl_nil ?_
      exact ⟨⟨rfl, (by first | rfl | (rw [hb66]; rfl) | (simp only [hb66]; rfl)), trivial⟩, rfl⟩
    · skip
      refine W_no (skF hb66) rfl ?_
      refine W_v (.bool true) (x_pick (k := true) (congrArg Value.bool hb66) rfl) rfl ?_
      refine Wl_nil ?_
      exact ⟨⟨rfl, (by first | rfl | (rw [hb66]; rfl) | (simp only [hb66]; rfl)), trivial⟩, rfl⟩
  as_aux_lemma =>
  rintro ρ _ ⟨hρ, rfl⟩
  rw [agree_eta hρ]
  clear hρ
  refine W_v (.bool ((x57 || ((IntKind.i64.wrap ((IntKind.i64.wrap (t1.1 + (IntKind.i64.wrap t1.2.1))) + t1.2.2)) != (0 : Int))) || t6.2)) (x_move rfl) rfl ?_
  obtain ⟨o141, o141h, o141H⟩ := bindS H
  clear H
  refine Wl_cutN 21 (fun ρ w' => ∃ (x140 : Bool), (x140) = o141 ∧ Agree ρ [(1, .pointer none), (88, .bool x140)] ∧ Ext w w' ∧ St w' M F []) ?_ ?_
  · as_aux_lemma =>
      have H := o141h
      rcases iteS H with ⟨hb139, H⟩ | ⟨hb139, H⟩
      · skip
        refine W_no (skF hb139) rfl ?_
        refine W_no (skF hb139) rfl ?_
        refine W_no (skF hb139) rfl ?_
        refine W_no (skF hb139) rfl ?_
        refine W_no (skF hb139) rfl ?_
        refine W_no (skF hb139) rfl ?_
        refine W_no (skF hb139) rfl ?_
        refine W_no (skF hb139) rfl ?_
        refine W_no (skF hb139) rfl ?_
        refine W_no (skF hb139) rfl ?_
        refine W_no (skF hb139) rfl ?_
        refine W_no (skF hb139) rfl ?_
        refine W_no (skF hb139) rfl ?_
        refine W_no (skF hb139) rfl ?_
        refine W_no (skF hb139) rfl ?_
        refine W_no (skF hb139) rfl ?_
        refine W_no (skF hb139) rfl ?_
        refine W_no (skF hb139) rfl ?_
        refine W_no (skF hb139) rfl ?_
        refine W_no (skF hb139) rfl ?_
        refine W_v (.bool true) (x_pick (k := true) (congrArg Value.bool hb139) rfl) rfl ?_
        refine Wl_nil ?_
        exact ⟨true, Option.some.inj H, ⟨rfl, rfl, trivial⟩, E, S.pick [] (by decide)⟩
      · skip
        refine W_yes (congrArg some hb139) ?_
        refine W_v (.pointer none) (x_move rfl) rfl ?_
        refine W_yes (congrArg some hb139) ?_
        obtain ⟨t142, ht143, H⟩ := bindS H
        refine W_callF2 fn26 (model_Model_Versions_Z.con k M ([97] : Str) t142  ht143) (Γ1 := []) (Γ2 := []) S rfl rfl (by rintro _ _ _ ⟨_, _, rfl, rfl⟩; exact (flat_cons (flat_row (fun _ _ _ _ h => h)) flat_nil)) ?_
        rintro _ w147 _ Γ' E' S ⟨A144, c145, rfl, rfl⟩
        replace E := E.trans E'
        clear E'
        replace S : St w147 M F [_] := S
        refine W_yes (congrArg some hb139) ?_
        refine W_v (.int .i64 (t142.length : Int)) (x_len_slice (n := t142.length) Tryd.underlying65 rfl) rfl ?_
        refine W_yes (congrArg some hb139) ?_
        refine W_v (.pointer none) (x_move rfl) rfl ?_
        refine W_yes (congrArg some hb139) ?_
        obtain ⟨t150, ht151, H⟩ := bindS H
        refine W_callF2 fn27 (model_Model_Keys_Z.con k M  t150  ht151) (Γ1 := []) (Γ2 := [_]) S rfl rfl (by rintro _ _ _ ⟨_, _, rfl, rfl⟩; exact (flat_cons (flat_row (fun _ _ _ _ h => h)) flat_nil)) ?_
        rintro _ w155 _ Γ' E' S ⟨A152, c153, rfl, rfl⟩
        replace E := E.trans E'
        clear E'
        replace S : St w155 M F [_, _] := S
        refine W_yes (congrArg some hb139) ?_
        refine W_v (.int .i64 (t150.length : Int)) (x_len_slice (n := t150.length) Tryd.underlying67 rfl) rfl ?_
        refine W_yes (congrArg some hb139) ?_
        refine W_v (.int .i64 (IntKind.i64.wrap ((t142.length : Int) + (t150.length : Int)))) (x_ibin rfl rfl rfl rfl) rfl ?_
        refine W_yes (congrArg some hb139) ?_
        refine W_v (.pointer none) (x_move rfl) rfl ?_
        refine W_yes (congrArg some hb139) ?_
        obtain ⟨t158, ht159, H⟩ := bindS H
        refine W_callF2 fn22 (model_Model_Retained_Z.con k M  t158  ht159) (Γ1 := []) (Γ2 := [_, _]) S rfl rfl (by rintro _ _ _ ⟨rfl, rfl⟩; exact flat_nil) ?_
        rintro _ w160 _ Γ' E' S ⟨rfl, rfl⟩
        replace E := E.trans E'
        clear E'
        replace S : St w160 M F [_, _] := S
        refine W_yes (congrArg some hb139) ?_
        refine W_v (.int .i64 (IntKind.i64.wrap ((IntKind.i64.wrap ((t142.length : Int) + (t150.length : Int))) + t158))) (x_ibin rfl rfl rfl rfl) rfl ?_
        refine W_yes (congrArg some hb139) ?_
        refine W_v (.pointer none) (x_move rfl) rfl ?_
        refine W_yes (congrArg some hb139) ?_
        obtain ⟨t163, ht164, H⟩ := bindS H
        refine W_callF2 fn21 (model_Model_Active_Z.con k M  t163  ht164) (Γ1 := []) (Γ2 := [_, _]) S rfl rfl (by rintro _ _ _ ⟨rfl, rfl⟩; exact flat_nil) ?_
        rintro _ w165 _ Γ' E' S ⟨rfl, rfl⟩
        replace E := E.trans E'
        clear E'
        replace S : St w165 M F [_, _] := S
        refine W_yes (congrArg some hb139) ?_
        refine W_v (.int .i64 (IntKind.i64.wrap ((IntKind.i64.wrap ((IntKind.i64.wrap ((t142.length : Int) + (t150.length : Int))) + t158)) + t163))) (x_ibin rfl rfl rfl rfl) rfl ?_
        refine W_yes (congrArg some hb139) ?_
        refine W_v (.pointer none) (x_move rfl) rfl ?_
        refine W_yes (congrArg some hb139) ?_
        obtain ⟨t168, ht169, H⟩ := bindS H
        refine W_callF2 fn19 (model_Model_Clock_Z.con k M  t168  ht169) (Γ1 := []) (Γ2 := [_, _]) S rfl rfl (by rintro _ _ _ ⟨rfl, rfl⟩; exact flat_nil) ?_
        rintro _ w170 _ Γ' E' S ⟨rfl, rfl⟩
        replace E := E.trans E'
        clear E'
        replace S : St w170 M F [_, _] := S
        refine W_yes (congrArg some hb139) ?_
        refine W_v (.int .i64 (IntKind.i64.wrap ((IntKind.i64.wrap ((IntKind.i64.wrap ((IntKind.i64.wrap ((t142.length : Int) + (t150.length : Int))) + t158)) + t163)) + t168))) (x_ibin rfl rfl rfl rfl) rfl ?_
        refine W_yes (congrArg some hb139) ?_
        refine W_v (.pointer none) (x_move rfl) rfl ?_
        refine W_yes (congrArg some hb139) ?_
        obtain ⟨t173, ht174, H⟩ := bindS H
        refine W_callF2 fn28 (model_Model_Floor_Z.con k M  t173  ht174) (Γ1 := []) (Γ2 := [_, _]) S rfl rfl (by rintro _ _ _ ⟨rfl, rfl⟩; exact flat_nil) ?_
        rintro _ w175 _ Γ' E' S ⟨rfl, rfl⟩
        replace E := E.trans E'
        clear E'
        replace S : St w175 M F [_, _] := S
        refine W_yes (congrArg some hb139) ?_
        refine W_v (.int .i64 (IntKind.i64.wrap ((IntKind.i64.wrap ((IntKind.i64.wrap ((IntKind.i64.wrap ((IntKind.i64.wrap ((t142.length : Int) + (t150.length : Int))) + t158)) + t163)) + t168)) + t173))) (x_ibin rfl rfl rfl rfl) rfl ?_
        refine W_yes (congrArg some hb139) ?_
        refine W_v (.bool ((IntKind.i64.wrap ((IntKind.i64.wrap ((IntKind.i64.wrap ((IntKind.i64.wrap ((IntKind.i64.wrap ((t142.length : Int) + (t150.length : Int))) + t158)) + t163)) + t168)) + t173)) != (0 : Int))) (x_ibin rfl rfl rfl rfl) rfl ?_
        refine W_v (.bool ((IntKind.i64.wrap ((IntKind.i64.wrap ((IntKind.i64.wrap ((IntKind.i64.wrap ((IntKind.i64.wrap ((t142.length : Int) + (t150.length : Int))) + t158)) + t163)) + t168)) + t173)) != (0 : Int))) (x_pick (k := false) (congrArg Value.bool hb139) rfl) rfl ?_
        refine Wl_nil ?_
        exact ⟨((IntKind.i64.wrap ((IntKind.i64.wrap ((IntKind.i64.wrap ((IntKind.i64.wrap ((IntKind.i64.wrap ((t142.length : Int) + (t150.length : Int))) + t158)) + t163)) + t168)) + t173)) != (0 : Int)), Option.some.inj H, ⟨rfl, rfl, trivial⟩, E, S.pick [] (by decide)⟩
  as_aux_lemma =>
  clear o141h
  rintro ρ w178 ⟨x140, rfl, hρ, E, S⟩
  rw [agree_eta hρ]
  clear hρ
  have H := o141H
  clear o141H
  refine W_v (.bool x140) (x_move rfl) rfl ?_
  obtain ⟨o191, o191h, o191H⟩ := bindS H
  clear H
  refine Wl_cutN 4 (fun ρ w' => ∃ (x190 : Bool), (x190) = o191 ∧ Agree ρ [(93, .bool x190)] ∧ Ext w w' ∧ St w' M F []) ?_ ?_
  · have H := o191h
    rcases iteS H with ⟨hb189, H⟩ | ⟨hb189, H⟩
    · skip
      refine W_no (skF hb189) rfl ?_
      refine W_no (skF hb189) rfl ?_
      refine W_no (skF hb189) rfl ?_
      refine W_v (.bool true) (x_pick (k := true) (congrArg Value.bool hb189) rfl) rfl ?_
      refine Wl_nil ?_
      exact ⟨true, Option.some.inj H, ⟨rfl, trivial⟩, E, S.pick [] (by decide)⟩
    · skip
      refine W_yes (congrArg some hb189) ?_
      refine W_v (.pointer none) (x_move rfl) rfl ?_
      refine W_yes (congrArg some hb189) ?_
      obtain ⟨t192, ht193, H⟩ := bindS H
      refine W_callF2 fn29 (model_Model_Copy_Z.con k M  t192  ht193) (Γ1 := []) (Γ2 := []) S rfl rfl (by rintro _ _ _ ⟨rfl, rfl⟩; exact flat_nil) ?_
      rintro _ w194 _ Γ' E' S ⟨rfl, rfl⟩
      replace E := E.trans E'
      clear E'
      replace S : St w194 M F [] := S
      refine W_yes (congrArg some hb189) ?_
      refine W_v (.bool false) (x_ne_of (r := true) rfl rfl (run_eq_ptrnn Tryd.underlying27)) rfl ?_
      refine W_v (.bool false) (x_pick (k := false) (congrArg Value.bool hb189) rfl) rfl ?_
      refine Wl_nil ?_
      exact ⟨false, Option.some.inj H, ⟨rfl, trivial⟩, E, S.pick [] (by decide)⟩
  as_aux_lemma =>
  clear o191h
  rintro ρ w197 ⟨x190, rfl, hρ, E, S⟩
  rw [agree_eta hρ]
  clear hρ
  have H := o191H
  clear o191H
  refine Wl_nil ?_
  refine tn ?_
  rcases iteS H with ⟨hb198, H⟩ | ⟨hb198, H⟩
  · refine Wp_cond_true (congrArg Value.bool hb198) ?_
    refine Wp_seq ?_
    refine Wp_region_lit ?_
    refine W_v (.bool false) (x_assign rfl) rfl ?_
    refine Wl_nil ?_
    refine tn ?_
    refine Wp_ret ?_
    refine tr (?_)
    obtain rfl := Option.some.inj H
    exact ⟨_, _, _, fun w1 e1 => run_resR (vs := [.bool false]) (FA.cons (rfl) (FA.nil)), HM, E, S.pick [] (by decide), ⟨rfl, rfl⟩⟩
  refine Wp_cond_false (congrArg Value.bool hb198) ?_
  refine Wp_skip ?_
  refine tn ?_
  refine Wp_seq ?_
  refine Wp_region_lit ?_
  obtain ⟨t199, ht200, H⟩ := bindS H
  refine W_callF fn30 (ferrymanlaw16_small.con k M  t199  ht200) S rfl rfl (by rintro _ _ _ ⟨_, rfl⟩; exact flat_nil) ?_
  rintro _ w201 _ Γ' E' S ⟨rfl, rfl⟩
  replace E := E.trans E'
  clear E'
  refine W_alloc S #[.int .i64 0, .int .i64 0, .int .i64 0, .int .i64 0, .int .i64 0, .int .i64 0, .int .i64 0, .int .i64 0] ty23 rfl rfl ?_
  intro b202 w203 E' S
  replace E := E.trans E'
  clear E'
  refine W_store S 0 rfl ty23 rfl rfl [.int .i64 t199.Tasks, .int .i64 t199.Active, .int .i64 t199.Keys, .int .i64 t199.Depth, .int .i64 t199.TS, .int .i64 t199.KeyLen, .int .i64 t199.ValLen, .int .i64 t199.Fan] rfl rfl rfl #[.int .i64 t199.Tasks, .int .i64 t199.Active, .int .i64 t199.Keys, .int .i64 t199.Depth, .int .i64 t199.TS, .int .i64 t199.KeyLen, .int .i64 t199.ValLen, .int .i64 t199.Fan] (by as_aux_lemma => kernel_rfl) rfl ?_
  intro w205 E' S
  replace E := E.trans E'
  clear E'
  refine Wl_nil ?_
  refine tn ?_
  refine Wp_seq ?_
  refine Wp_region_lit ?_
  refine W_v (.pointer (some ⟨b202, 3, none⟩)) (x_fieldAddr (o := 0) (off := 3) Tryd.underlying23 rfl ty3 rfl rfl) rfl ?_
  refine W_store S 0 rfl ty3 rfl rfl [.int .i64 1] rfl rfl rfl #[.int .i64 t199.Tasks, .int .i64 t199.Active, .int .i64 t199.Keys, .int .i64 1, .int .i64 t199.TS, .int .i64 t199.KeyLen, .int .i64 t199.ValLen, .int .i64 t199.Fan] rfl rfl ?_
  intro w206 E' S
  replace E := E.trans E'
  clear E'
  refine Wl_nil ?_
  refine tn ?_
  as_aux_lemma =>
  refine Wp_seq ?_
  refine Wp_region_lit ?_
  refine W_v (.agg #[.int .i64 t199.Tasks, .int .i64 t199.Active, .int .i64 t199.Keys, .int .i64 1, .int .i64 t199.TS, .int .i64 t199.KeyLen, .int .i64 t199.ValLen, .int .i64 t199.Fan]) (x_loadA (S.blk 0 rfl) ty23 rfl (sub_of_extract rfl) rfl rfl) rfl ?_
  obtain ⟨t207, ht208, H⟩ := bindS H
  rcases t207 with t209 | t210
  · skip
    replace H := elimL H
    refine W_callF2 fn13 (model_New_v.con k M (⟨t199.Tasks, t199.Active, t199.Keys, (1 : Int), t199.TS, t199.KeyLen, t199.ValLen, t199.Fan⟩ : api_Config) (Sum.inl t209)  ht208) (Γ1 := []) (Γ2 := [_]) S rfl rfl (by rintro _ _ _ ⟨rfl, rfl⟩; exact flat_nil) ?_
    rintro _ w211 _ Γ' E' S ⟨rfl, rfl⟩
    replace E := E.trans E'
    clear E'
    replace S : St w211 M F [_] := S
    refine W_v (.tuple #[.pointer none, .int .i64 1]) (x_move rfl) rfl ?_
    refine W_v (.pointer none) (x_extract rfl rfl) rfl ?_
    refine W_v (.int .i64 1) (x_extract rfl rfl) rfl ?_
    refine W_v (.pointer none) (x_assign rfl) rfl ?_
    refine W_v (.int .i64 1) (x_assign rfl) rfl ?_
    refine Wl_nil ?_
    refine tn ?_
    refine Wp_seq ?_
    refine Wp_region_lit ?_
    obtain ⟨t214, ht215, H⟩ := bindS H
    refine W_callF fn30 (ferrymanlaw16_small.con k M  t214  ht215) S rfl rfl (by rintro _ _ _ ⟨_, rfl⟩; exact flat_nil) ?_
    rintro _ w216 _ Γ' E' S ⟨rfl, rfl⟩
    replace E := E.trans E'
    clear E'
    obtain ⟨t217, ht218, H⟩ := bindS H
    rcases t217 with t219 | t220
    · skip
      replace H := elimL H
      refine W_callF2 fn13 (model_New_v.con k M t214 (Sum.inl t219)  ht218) (Γ1 := []) (Γ2 := [_]) S rfl rfl (by rintro _ _ _ ⟨rfl, rfl⟩; exact flat_nil) ?_
      rintro _ w221 _ Γ' E' S ⟨rfl, rfl⟩
      replace E := E.trans E'
      clear E'
      replace S : St w221 M F [_] := S
      refine W_v (.tuple #[.pointer none, .int .i64 1]) (x_move rfl) rfl ?_
      refine W_v (.pointer none) (x_extract rfl rfl) rfl ?_
      refine W_v (.int .i64 1) (x_extract rfl rfl) rfl ?_
      refine W_v (.pointer none) (x_assign rfl) rfl ?_
      refine W_v (.int .i64 1) (x_assign rfl) rfl ?_
      refine Wl_nil ?_
      refine tn ?_
      refine Wp_seq ?_
      refine Wp_seq ?_
      refine Wp_region_lit ?_
      refine W_v (.pointer none) (x_move rfl) rfl ?_
      refine W_v (.bool false) (x_ne_of (r := true) rfl rfl (run_eq_ptrnn Tryd.underlying27)) rfl ?_
      refine W_v (.bool false) (x_move rfl) rfl ?_
      refine W_yes (rfl) ?_
      refine W_v (.int .i64 1) (x_move rfl) rfl ?_
      refine W_yes (rfl) ?_
      refine W_v (.bool false) (x_ibin rfl rfl rfl rfl) rfl ?_
      refine W_v (.bool false) (x_pick (k := false) rfl rfl) rfl ?_
      refine W_v (.bool false) (x_move rfl) rfl ?_
      refine W_yes (rfl) ?_
      refine W_v (.int .i64 1) (x_move rfl) rfl ?_
      refine W_yes (rfl) ?_
      refine W_v (.bool true) (x_ibin rfl rfl rfl rfl) rfl ?_
      refine W_v (.bool true) (x_pick (k := false) rfl rfl) rfl ?_
      refine Wl_nil ?_
      refine tn ?_
      refine Wp_cond_true rfl ?_
      refine Wp_seq ?_
      refine Wp_region_lit ?_
      refine W_v (.bool false) (x_assign rfl) rfl ?_
      refine Wl_nil ?_
      refine tn ?_
      refine Wp_ret ?_
      refine tr (?_)
      obtain rfl := Option.some.inj H
      exact ⟨_, _, _, fun w1 e1 => run_resR (vs := [.bool false]) (FA.cons (rfl) (FA.nil)), HM, E, S.pick [] (by decide), ⟨rfl, rfl⟩⟩
    · skip
      replace H := elimR H
      refine W_call fn13 (model_New_v.con k M t214 (Sum.inr t220)  ht218) (Γ1 := []) (Γ2 := [_]) S rfl rfl ?_
      rintro _ w240 M241 Γ' hM242 E' S ⟨b224, A226, c227, A229, c230, A232, c233, A235, c236, vs238, rfl, hm239, rfl⟩
      replace hg0 : ∃ gt fr, _ := (let ⟨gt, fr, h8⟩ := hg0; ⟨gt, fr, hM242 _ _ h8⟩)
      replace HM := Hp.le_trans HM hM242
      replace E := E.trans E'
      clear E'
      replace S : St w240 M241 F [_, _, _, _, _, _] := S
      refine W_v (.tuple #[.pointer (some ⟨b224, 0, none⟩), .int .i64 0]) (x_move rfl) rfl ?_
      refine W_v (.pointer (some ⟨b224, 0, none⟩)) (x_extract rfl rfl) rfl ?_
      refine W_v (.int .i64 0) (x_extract rfl rfl) rfl ?_
      refine W_v (.pointer (some ⟨b224, 0, none⟩)) (x_assign rfl) rfl ?_
      refine W_v (.int .i64 0) (x_assign rfl) rfl ?_
      refine Wl_nil ?_
      refine tn ?_
      refine Wp_seq ?_
      refine Wp_seq ?_
      refine Wp_region_lit ?_
      refine W_v (.pointer none) (x_move rfl) rfl ?_
      refine W_v (.bool false) (x_ne_of (r := true) rfl rfl (run_eq_ptrnn Tryd.underlying27)) rfl ?_
      refine W_v (.bool false) (x_move rfl) rfl ?_
      refine W_yes (rfl) ?_
      refine W_v (.int .i64 1) (x_move rfl) rfl ?_
      refine W_yes (rfl) ?_
      refine W_v (.bool false) (x_ibin rfl rfl rfl rfl) rfl ?_
      refine W_v (.bool false) (x_pick (k := false) rfl rfl) rfl ?_
      refine W_v (.bool false) (x_move rfl) rfl ?_
      refine W_yes (rfl) ?_
      refine W_v (.int .i64 0) (x_move rfl) rfl ?_
      refine W_yes (rfl) ?_
      refine W_v (.bool false) (x_ibin rfl rfl rfl rfl) rfl ?_
      refine W_v (.bool false) (x_pick (k := false) rfl rfl) rfl ?_
      refine Wl_nil ?_
      refine tn ?_
      refine Wp_cond_false rfl ?_
      refine Wp_skip ?_
      refine tn ?_
      refine Wp_seq ?_
      refine Wp_region_lit ?_
      refine W_v (.pointer (some ⟨b224, 0, none⟩)) (x_move rfl) rfl ?_
      obtain ⟨t243, ht244, H⟩ := bindS H
      refine W_callF fn31 (ferrymanlaw16_on.con k M241 (1 : Int) (0 : Int) ([] : Str) ([] : Str) t243  ht244) S rfl rfl (by rintro _ _ _ ⟨_, rfl⟩; exact flat_nil) ?_
      rintro _ w245 _ Γ' E' S ⟨rfl, rfl⟩
      replace E := E.trans E'
      clear E'
      obtain ⟨t246, ht247, H⟩ := bindS H
      refine W_call fn15 (model_Model_Do_POOOO.con k M241 A226 c227 A229 c230 A232 c233 A235 c236 vs238 t220 (0 : Int) t243 b224 t246 hm239 hg0 ht247) (Γ1 := [_, _, _, _, _]) (Γ2 := [_]) S rfl rfl ?_
      rintro _ w265 M266 Γ' hM267 E' S ⟨A248, c249, A251, c252, A254, c255, A257, c258, A260, c261, vs263, rfl, hm264, rfl⟩
      replace hg0 : ∃ gt fr, _ := (let ⟨gt, fr, h8⟩ := hg0; ⟨gt, fr, hM267 _ _ h8⟩)
      replace HM := Hp.le_trans HM hM267
      replace hm239 := MRel.mono hm239 hM267
      replace E := E.trans E'
      clear E'
      replace S : St w265 M266 F [_, _, _, _, _, _, _] := S
      refine Wl_nil ?_
      refine tn ?_
      refine Wp_seq ?_
      refine Wp_region_lit ?_
      refine W_v (.pointer (some ⟨b224, 0, none⟩)) (x_move rfl) rfl ?_
      obtain ⟨t268, ht269, H⟩ := bindS H
      refine W_callF fn31 (ferrymanlaw16_on.con k M266 (7 : Int) (1 : Int) ([] : Str) ([] : Str) t268  ht269) S rfl rfl (by rintro _ _ _ ⟨_, rfl⟩; exact flat_nil) ?_
      rintro _ w270 _ Γ' E' S ⟨rfl, rfl⟩
      replace E := E.trans E'
      clear E'
      obtain ⟨t271, ht272, H⟩ := bindS H
      replace S : St w270 M266 F [_, _, _, _, _, _, _] := S.pick [1, 2, 3, 4, 5, 0, 6] (by decide)
      refine W_call fn15 (model_Model_Do_POOOO.con k M266 A251 c252 A254 c255 A257 c258 A260 c261 vs263 t246.2 (0 : Int) t268 b224 t271 hm264 hg0 ht272) (Γ1 := [_, _, _, _, _]) (Γ2 := [_, _]) S rfl rfl ?_
      rintro _ w290 M291 Γ' hM292 E' S ⟨A273, c274, A276, c277, A279, c280, A282, c283, A285, c286, vs288, rfl, hm289, rfl⟩
      replace hg0 : ∃ gt fr, _ := (let ⟨gt, fr, h8⟩ := hg0; ⟨gt, fr, hM292 _ _ h8⟩)
      replace HM := Hp.le_trans HM hM292
      replace hm239 := MRel.mono hm239 hM292
      replace hm264 := MRel.mono hm264 hM292
      replace E := E.trans E'
      clear E'
      replace S : St w290 M291 F [_, _, _, _, _, _, _, _] := S
      refine Wl_nil ?_
      refine tn ?_
      as_aux_lemma =>
      refine Wp_seq ?_
      refine Wp_region_lit ?_
      refine W_v (.pointer (some ⟨b224, 0, none⟩)) (x_move rfl) rfl ?_
      obtain ⟨t293, ht294, H⟩ := bindS H
      refine W_callF fn31 (ferrymanlaw16_on.con k M291 (1 : Int) (0 : Int) ([] : Str) ([] : Str) t293  ht294) S rfl rfl (by rintro _ _ _ ⟨_, rfl⟩; exact flat_nil) ?_
      rintro _ w295 _ Γ' E' S ⟨rfl, rfl⟩
      replace E := E.trans E'
      clear E'
      obtain ⟨t296, ht297, H⟩ := bindS H
      replace S : St w295 M291 F [_, _, _, _, _, _, _, _] := S.pick [1, 2, 3, 4, 5, 0, 6, 7] (by decide)
      refine W_call fn15 (model_Model_Do_POOOO.con k M291 A276 c277 A279 c280 A282 c283 A285 c286 vs288 t271.2 (0 : Int) t293 b224 t296 hm289 hg0 ht297) (Γ1 := [_, _, _, _, _]) (Γ2 := [_, _, _]) S rfl rfl ?_
      rintro _ w315 M316 Γ' hM317 E' S ⟨A298, c299, A301, c302, A304, c305, A307, c308, A310, c311, vs313, rfl, hm314, rfl⟩
      replace hg0 : ∃ gt fr, _ := (let ⟨gt, fr, h8⟩ := hg0; ⟨gt, fr, hM317 _ _ h8⟩)
      replace HM := Hp.le_trans HM hM317
      replace hm239 := MRel.mono hm239 hM317
      replace hm264 := MRel.mono hm264 hM317
      replace hm289 := MRel.mono hm289 hM317
      replace E := E.trans E'
      clear E'
      replace S : St w315 M316 F [_, _, _, _, _, _, _, _, _] := S
      refine Wl_nil ?_
      refine tn ?_
      refine Wp_seq ?_
      refine Wp_region_lit ?_
      obtain ⟨⟨p318, p319, p320, p321⟩, H⟩ := chkS H
      refine W_make (r := (rInt .u8)) S (0 : Int) Tryd.underlying55 ty5 rfl (by decide) (fun _ => rfl) rfl rfl p318 p319 p320 p321 rfl ?_
      intro b322 w323 E' S
      replace E := E.trans E'
      clear E'
      refine W_v (.string (bs (bytesOf (List.replicate (3 : Int).toNat (0 : Int))))) (x_conv_b2s Tryd.underlying55 Tryd.underlying9 Tryd.underlying5 rfl (S.row_read 0 rfl)) rfl ?_
      refine W_v (.string (bs (bytesOf (List.replicate (3 : Int).toNat (0 : Int))))) (x_assign rfl) rfl ?_
      refine Wl_nil ?_
      refine tn ?_
      refine Wp_seq ?_
      refine Wp_seq ?_
      refine Wp_region_lit ?_
      obtain ⟨t325, ht326, H⟩ := bindS H
      refine W_callF fn31 (ferrymanlaw16_on.con k M316 (1 : Int) (0 : Int) ([] : Str) ([] : Str) t325  ht326) S rfl rfl (by rintro _ _ _ ⟨_, rfl⟩; exact flat_nil) ?_
      rintro _ w327 _ Γ' E' S ⟨rfl, rfl⟩
      replace E := E.trans E'
      clear E'
      refine W_v (.agg #[.int .i64 (-1), .int .u8 t325.Kind, .int .i64 t325.Tx, .string (bs t325.Key), .string (bs t325.End), .string (bs t325.Value), .int .i64 t325.Limit, .int .u8 t325.Engine, .int .i64 1]) (x_build2 (pl := [(0, 1), (1, 7), (8, 1)]) #[.int .i64 (-1), .int .u8 t325.Kind, .int .i64 t325.Tx, .string (bs t325.Key), .string (bs t325.End), .string (bs t325.Value), .int .i64 t325.Limit, .int .u8 t325.Engine, .int .i64 1] Tryd.underlying72 ty72 (by as_aux_lemma => kernel_rfl) rfl (by as_aux_lemma => kernel_rfl)) rfl ?_
      obtain ⟨t328, ht329, H⟩ := bindS H
      refine W_callF fn31 (ferrymanlaw16_on.con k M316 (1 : Int) (0 : Int) ([] : Str) ([] : Str) t328  ht329) S rfl rfl (by rintro _ _ _ ⟨_, rfl⟩; exact flat_nil) ?_
      rintro _ w330 _ Γ' E' S ⟨rfl, rfl⟩
      replace E := E.trans E'
      clear E'
      refine W_v (.agg #[.int .i64 2, .int .u8 t328.Kind, .int .i64 t328.Tx, .string (bs t328.Key), .string (bs t328.End), .string (bs t328.Value), .int .i64 t328.Limit, .int .u8 t328.Engine, .int .i64 1]) (x_build2 (pl := [(0, 1), (1, 7), (8, 1)]) #[.int .i64 2, .int .u8 t328.Kind, .int .i64 t328.Tx, .string (bs t328.Key), .string (bs t328.End), .string (bs t328.Value), .int .i64 t328.Limit, .int .u8 t328.Engine, .int .i64 1] Tryd.underlying72 ty72 (by as_aux_lemma => kernel_rfl) rfl (by as_aux_lemma => kernel_rfl)) rfl ?_
      refine W_v (.agg #[.int .u8 0, .int .i64 0, .string (bs ([] : Str)), .string (bs ([] : Str)), .string (bs ([] : Str)), .int .i64 0, .int .u8 0]) (x_build2 (pl := [(0, 1), (1, 1), (2, 1), (3, 1), (4, 1), (5, 1), (6, 1)]) #[.int .u8 0, .int .i64 0, .string (bs ([] : Str)), .string (bs ([] : Str)), .string (bs ([] : Str)), .int .i64 0, .int .u8 0] Tryd.underlying37 ty37 (by as_aux_lemma => kernel_rfl) rfl (by as_aux_lemma => kernel_rfl)) rfl ?_
      refine W_v (.agg #[.int .i64 0, .int .u8 0, .int .i64 0, .string (bs ([] : Str)), .string (bs ([] : Str)), .string (bs ([] : Str)), .int .i64 0, .int .u8 0, .int .i64 1]) (x_build2 (pl := [(0, 1), (1, 7), (8, 1)]) #[.int .i64 0, .int .u8 0, .int .i64 0, .string (bs ([] : Str)), .string (bs ([] : Str)), .string (bs ([] : Str)), .int .i64 0, .int .u8 0, .int .i64 1] Tryd.underlying72 ty72 (by as_aux_lemma => kernel_rfl) rfl (by as_aux_lemma => kernel_rfl)) rfl ?_
      refine W_v (.agg #[.int .u8 10, .int .i64 0, .string (bs ([] : Str)), .string (bs ([] : Str)), .string (bs ([] : Str)), .int .i64 0, .int .u8 0]) (x_build2 (pl := [(0, 1), (1, 1), (2, 1), (3, 1), (4, 1), (5, 1), (6, 1)]) #[.int .u8 10, .int .i64 0, .string (bs ([] : Str)), .string (bs ([] : Str)), .string (bs ([] : Str)), .int .i64 0, .int .u8 0] Tryd.underlying37 ty37 (by as_aux_lemma => kernel_rfl) rfl (by as_aux_lemma => kernel_rfl)) rfl ?_
      refine W_v (.agg #[.int .i64 0, .int .u8 10, .int .i64 0, .string (bs ([] : Str)), .string (bs ([] : Str)), .string (bs ([] : Str)), .int .i64 0, .int .u8 0, .int .i64 1]) (x_build2 (pl := [(0, 1), (1, 7), (8, 1)]) #[.int .i64 0, .int .u8 10, .int .i64 0, .string (bs ([] : Str)), .string (bs ([] : Str)), .string (bs ([] : Str)), .int .i64 0, .int .u8 0, .int .i64 1] Tryd.underlying72 ty72 (by as_aux_lemma => kernel_rfl) rfl (by as_aux_lemma => kernel_rfl)) rfl ?_
      refine W_v (.agg #[.int .u8 9, .int .i64 0, .string (bs ([] : Str)), .string (bs ([] : Str)), .string (bs ([] : Str)), .int .i64 0, .int .u8 0]) (x_build2 (pl := [(0, 1), (1, 1), (2, 1), (3, 1), (4, 1), (5, 1), (6, 1)]) #[.int .u8 9, .int .i64 0, .string (bs ([] : Str)), .string (bs ([] : Str)), .string (bs ([] : Str)), .int .i64 0, .int .u8 0] Tryd.underlying37 ty37 (by as_aux_lemma => kernel_rfl) rfl (by as_aux_lemma => kernel_rfl)) rfl ?_
      refine W_v (.agg #[.int .i64 0, .int .u8 9, .int .i64 0, .string (bs ([] : Str)), .string (bs ([] : Str)), .string (bs ([] : Str)), .int .i64 0, .int .u8 0, .int .i64 1]) (x_build2 (pl := [(0, 1), (1, 7), (8, 1)]) #[.int .i64 0, .int .u8 9, .int .i64 0, .string (bs ([] : Str)), .string (bs ([] : Str)), .string (bs ([] : Str)), .int .i64 0, .int .u8 0, .int .i64 1] Tryd.underlying72 ty72 (by as_aux_lemma => kernel_rfl) rfl (by as_aux_lemma => kernel_rfl)) rfl ?_
      refine W_v (.agg #[.int .u8 9, .int .i64 0, .string (bs ([] : Str)), .string (bs ([] : Str)), .string (bs ([] : Str)), .int .i64 0, .int .u8 3]) (x_build2 (pl := [(0, 1), (1, 1), (2, 1), (3, 1), (4, 1), (5, 1), (6, 1)]) #[.int .u8 9, .int .i64 0, .string (bs ([] : Str)), .string (bs ([] : Str)), .string (bs ([] : Str)), .int .i64 0, .int .u8 3] Tryd.underlying37 ty37 (by as_aux_lemma => kernel_rfl) rfl (by as_aux_lemma => kernel_rfl)) rfl ?_
      refine W_v (.agg #[.int .i64 0, .int .u8 9, .int .i64 0, .string (bs ([] : Str)), .string (bs ([] : Str)), .string (bs ([] : Str)), .int .i64 0, .int .u8 3, .int .i64 1]) (x_build2 (pl := [(0, 1), (1, 7), (8, 1)]) #[.int .i64 0, .int .u8 9, .int .i64 0, .string (bs ([] : Str)), .string (bs ([] : Str)), .string (bs ([] : Str)), .int .i64 0, .int .u8 3, .int .i64 1] Tryd.underlying72 ty72 (by as_aux_lemma => kernel_rfl) rfl (by as_aux_lemma => kernel_rfl)) rfl ?_
      refine W_v (.agg #[.int .u8 9, .int .i64 0, .string (bs ([] : Str)), .string (bs ([] : Str)), .string (bs ([] : Str)), .int .i64 0, .int .u8 2]) (x_build2 (pl := [(0, 1), (1, 1), (2, 1), (3, 1), (4, 1), (5, 1), (6, 1)]) #[.int .u8 9, .int .i64 0, .string (bs ([] : Str)), .string (bs ([] : Str)), .string (bs ([] : Str)), .int .i64 0, .int .u8 2] Tryd.underlying37 ty37 (by as_aux_lemma => kernel_rfl) rfl (by as_aux_lemma => kernel_rfl)) rfl ?_
      refine W_v (.agg #[.int .i64 0, .int .u8 9, .int .i64 0, .string (bs ([] : Str)), .string (bs ([] : Str)), .string (bs ([] : Str)), .int .i64 0, .int .u8 2, .int .i64 0]) (x_build2 (pl := [(0, 1), (1, 7), (8, 1)]) #[.int .i64 0, .int .u8 9, .int .i64 0, .string (bs ([] : Str)), .string (bs ([] : Str)), .string (bs ([] : Str)), .int .i64 0, .int .u8 2, .int .i64 0] Tryd.underlying72 ty72 (by as_aux_lemma => kernel_rfl) rfl (by as_aux_lemma => kernel_rfl)) rfl ?_
      obtain ⟨t331, ht332, H⟩ := bindS H
      refine W_callF fn31 (ferrymanlaw16_on.con k M316 (2 : Int) (0 : Int) ([97] : Str) ([] : Str) t331  ht332) S rfl rfl (by rintro _ _ _ ⟨_, rfl⟩; exact flat_nil) ?_
      rintro _ w333 _ Γ' E' S ⟨rfl, rfl⟩
      replace E := E.trans E'
      clear E'
      refine W_v (.agg #[.int .i64 0, .int .u8 t331.Kind, .int .i64 t331.Tx, .string (bs t331.Key), .string (bs t331.End), .string (bs t331.Value), .int .i64 t331.Limit, .int .u8 t331.Engine, .int .i64 30]) (x_build2 (pl := [(0, 1), (1, 7), (8, 1)]) #[.int .i64 0, .int .u8 t331.Kind, .int .i64 t331.Tx, .string (bs t331.Key), .string (bs t331.End), .string (bs t331.Value), .int .i64 t331.Limit, .int .u8 t331.Engine, .int .i64 30] Tryd.underlying72 ty72 (by as_aux_lemma => kernel_rfl) rfl (by as_aux_lemma => kernel_rfl)) rfl ?_
      obtain ⟨t334, ht335, H⟩ := bindS H
      refine W_callF fn31 (ferrymanlaw16_on.con k M316 (2 : Int) (3 : Int) ([97] : Str) ([] : Str) t334  ht335) S rfl rfl (by rintro _ _ _ ⟨_, rfl⟩; exact flat_nil) ?_
      rintro _ w336 _ Γ' E' S ⟨rfl, rfl⟩
      replace E := E.trans E'
      clear E'
      refine W_v (.agg #[.int .i64 0, .int .u8 t334.Kind, .int .i64 t334.Tx, .string (bs t334.Key), .string (bs t334.End), .string (bs t334.Value), .int .i64 t334.Limit, .int .u8 t334.Engine, .int .i64 30]) (x_build2 (pl := [(0, 1), (1, 7), (8, 1)]) #[.int .i64 0, .int .u8 t334.Kind, .int .i64 t334.Tx, .string (bs t334.Key), .string (bs t334.End), .string (bs t334.Value), .int .i64 t334.Limit, .int .u8 t334.Engine, .int .i64 30] Tryd.underlying72 ty72 (by as_aux_lemma => kernel_rfl) rfl (by as_aux_lemma => kernel_rfl)) rfl ?_
      obtain ⟨t337, ht338, H⟩ := bindS H
      refine W_callF fn31 (ferrymanlaw16_on.con k M316 (2 : Int) (2 : Int) ([97] : Str) ([] : Str) t337  ht338) S rfl rfl (by rintro _ _ _ ⟨_, rfl⟩; exact flat_nil) ?_
      rintro _ w339 _ Γ' E' S ⟨rfl, rfl⟩
      replace E := E.trans E'
      clear E'
      refine W_v (.agg #[.int .i64 1, .int .u8 t337.Kind, .int .i64 t337.Tx, .string (bs t337.Key), .string (bs t337.End), .string (bs t337.Value), .int .i64 t337.Limit, .int .u8 t337.Engine, .int .i64 30]) (x_build2 (pl := [(0, 1), (1, 7), (8, 1)]) #[.int .i64 1, .int .u8 t337.Kind, .int .i64 t337.Tx, .string (bs t337.Key), .string (bs t337.End), .string (bs t337.Value), .int .i64 t337.Limit, .int .u8 t337.Engine, .int .i64 30] Tryd.underlying72 ty72 (by as_aux_lemma => kernel_rfl) rfl (by as_aux_lemma => kernel_rfl)) rfl ?_
      refine W_v (.string (bs (bytesOf (List.replicate (3 : Int).toNat (0 : Int))))) (x_move rfl) rfl ?_
      obtain ⟨t340, ht341, H⟩ := bindS H
      refine W_callF fn31 (ferrymanlaw16_on.con k M316 (2 : Int) (-1 : Int) (bytesOf (List.replicate (3 : Int).toNat (0 : Int))) ([] : Str) t340  ht341) S rfl rfl (by rintro _ _ _ ⟨_, rfl⟩; exact flat_nil) ?_
      rintro _ w342 _ Γ' E' S ⟨rfl, rfl⟩
      replace E := E.trans E'
      clear E'
      refine W_v (.agg #[.int .i64 0, .int .u8 t340.Kind, .int .i64 t340.Tx, .string (bs t340.Key), .string (bs t340.End), .string (bs t340.Value), .int .i64 t340.Limit, .int .u8 t340.Engine, .int .i64 30]) (x_build2 (pl := [(0, 1), (1, 7), (8, 1)]) #[.int .i64 0, .int .u8 t340.Kind, .int .i64 t340.Tx, .string (bs t340.Key), .string (bs t340.End), .string (bs t340.Value), .int .i64 t340.Limit, .int .u8 t340.Engine, .int .i64 30] Tryd.underlying72 ty72 (by as_aux_lemma => kernel_rfl) rfl (by as_aux_lemma => kernel_rfl)) rfl ?_
      refine W_v (.string (bs (bytesOf (List.replicate (3 : Int).toNat (0 : Int))))) (x_move rfl) rfl ?_
      obtain ⟨t343, ht344, H⟩ := bindS H
      refine W_callF fn31 (ferrymanlaw16_on.con k M316 (2 : Int) (1 : Int) (bytesOf (List.replicate (3 : Int).toNat (0 : Int))) ([] : Str) t343  ht344) S rfl rfl (by rintro _ _ _ ⟨_, rfl⟩; exact flat_nil) ?_
      rintro _ w345 _ Γ' E' S ⟨rfl, rfl⟩
      replace E := E.trans E'
      clear E'
      refine W_v (.agg #[.int .i64 0, .int .u8 t343.Kind, .int .i64 t343.Tx, .string (bs t343.Key), .string (bs t343.End), .string (bs t343.Value), .int .i64 t343.Limit, .int .u8 t343.Engine, .int .i64 31]) (x_build2 (pl := [(0, 1), (1, 7), (8, 1)]) #[.int .i64 0, .int .u8 t343.Kind, .int .i64 t343.Tx, .string (bs t343.Key), .string (bs t343.End), .string (bs t343.Value), .int .i64 t343.Limit, .int .u8 t343.Engine, .int .i64 31] Tryd.underlying72 ty72 (by as_aux_lemma => kernel_rfl) rfl (by as_aux_lemma => kernel_rfl)) rfl ?_
      obtain ⟨t346, ht347, H⟩ := bindS H
      refine W_callF fn31 (ferrymanlaw16_on.con k M316 (6 : Int) (1 : Int) ([] : Str) ([] : Str) t346  ht347) S rfl rfl (by rintro _ _ _ ⟨_, rfl⟩; exact flat_nil) ?_
      rintro _ w348 _ Γ' E' S ⟨rfl, rfl⟩
      replace E := E.trans E'
      clear E'
      refine W_v (.agg #[.int .i64 0, .int .u8 t346.Kind, .int .i64 t346.Tx, .string (bs t346.Key), .string (bs t346.End), .string (bs t346.Value), .int .i64 t346.Limit, .int .u8 t346.Engine, .int .i64 31]) (x_build2 (pl := [(0, 1), (1, 7), (8, 1)]) #[.int .i64 0, .int .u8 t346.Kind, .int .i64 t346.Tx, .string (bs t346.Key), .string (bs t346.End), .string (bs t346.Value), .int .i64 t346.Limit, .int .u8 t346.Engine, .int .i64 31] Tryd.underlying72 ty72 (by as_aux_lemma => kernel_rfl) rfl (by as_aux_lemma => kernel_rfl)) rfl ?_
      obtain ⟨t349, ht350, H⟩ := bindS H
      refine W_callF fn31 (ferrymanlaw16_on.con k M316 (2 : Int) (2 : Int) ([] : Str) ([] : Str) t349  ht350) S rfl rfl (by rintro _ _ _ ⟨_, rfl⟩; exact flat_nil) ?_
      rintro _ w351 _ Γ' E' S ⟨rfl, rfl⟩
      replace E := E.trans E'
      clear E'
      refine W_v (.agg #[.int .i64 0, .int .u8 t349.Kind, .int .i64 t349.Tx, .string (bs t349.Key), .string (bs t349.End), .string (bs t349.Value), .int .i64 t349.Limit, .int .u8 t349.Engine, .int .i64 32]) (x_build2 (pl := [(0, 1), (1, 7), (8, 1)]) #[.int .i64 0, .int .u8 t349.Kind, .int .i64 t349.Tx, .string (bs t349.Key), .string (bs t349.End), .string (bs t349.Value), .int .i64 t349.Limit, .int .u8 t349.Engine, .int .i64 32] Tryd.underlying72 ty72 (by as_aux_lemma => kernel_rfl) rfl (by as_aux_lemma => kernel_rfl)) rfl ?_
      refine W_v (.string (bs (bytesOf (List.replicate (3 : Int).toNat (0 : Int))))) (x_move rfl) rfl ?_
      obtain ⟨t352, ht353, H⟩ := bindS H
      refine W_callF fn31 (ferrymanlaw16_on.con k M316 (2 : Int) (2 : Int) (bytesOf (List.replicate (3 : Int).toNat (0 : Int))) ([] : Str) t352  ht353) S rfl rfl (by rintro _ _ _ ⟨_, rfl⟩; exact flat_nil) ?_
      rintro _ w354 _ Γ' E' S ⟨rfl, rfl⟩
      replace E := E.trans E'
      clear E'
      refine W_v (.agg #[.int .i64 0, .int .u8 t352.Kind, .int .i64 t352.Tx, .string (bs t352.Key), .string (bs t352.End), .string (bs t352.Value), .int .i64 t352.Limit, .int .u8 t352.Engine, .int .i64 32]) (x_build2 (pl := [(0, 1), (1, 7), (8, 1)]) #[.int .i64 0, .int .u8 t352.Kind, .int .i64 t352.Tx, .string (bs t352.Key), .string (bs t352.End), .string (bs t352.Value), .int .i64 t352.Limit, .int .u8 t352.Engine, .int .i64 32] Tryd.underlying72 ty72 (by as_aux_lemma => kernel_rfl) rfl (by as_aux_lemma => kernel_rfl)) rfl ?_
      obtain ⟨t355, ht356, H⟩ := bindS H
      refine W_callF fn31 (ferrymanlaw16_on.con k M316 (3 : Int) (2 : Int) ([] : Str) ([97] : Str) t355  ht356) S rfl rfl (by rintro _ _ _ ⟨_, rfl⟩; exact flat_nil) ?_
      rintro _ w357 _ Γ' E' S ⟨rfl, rfl⟩
      replace E := E.trans E'
      clear E'
      refine W_v (.agg #[.int .i64 0, .int .u8 t355.Kind, .int .i64 t355.Tx, .string (bs t355.Key), .string (bs t355.End), .string (bs t355.Value), .int .i64 t355.Limit, .int .u8 t355.Engine, .int .i64 32]) (x_build2 (pl := [(0, 1), (1, 7), (8, 1)]) #[.int .i64 0, .int .u8 t355.Kind, .int .i64 t355.Tx, .string (bs t355.Key), .string (bs t355.End), .string (bs t355.Value), .int .i64 t355.Limit, .int .u8 t355.Engine, .int .i64 32] Tryd.underlying72 ty72 (by as_aux_lemma => kernel_rfl) rfl (by as_aux_lemma => kernel_rfl)) rfl ?_
      refine W_v (.string (bs (bytesOf (List.replicate (3 : Int).toNat (0 : Int))))) (x_move rfl) rfl ?_
      obtain ⟨t358, ht359, H⟩ := bindS H
      refine W_callF fn31 (ferrymanlaw16_on.con k M316 (3 : Int) (2 : Int) ([97] : Str) (bytesOf (List.replicate (3 : Int).toNat (0 : Int))) t358  ht359) S rfl rfl (by rintro _ _ _ ⟨_, rfl⟩; exact flat_nil) ?_
      rintro _ w360 _ Γ' E' S ⟨rfl, rfl⟩
      replace E := E.trans E'
      clear E'
      refine W_v (.agg #[.int .i64 0, .int .u8 t358.Kind, .int .i64 t358.Tx, .string (bs t358.Key), .string (bs t358.End), .string (bs t358.Value), .int .i64 t358.Limit, .int .u8 t358.Engine, .int .i64 32]) (x_build2 (pl := [(0, 1), (1, 7), (8, 1)]) #[.int .i64 0, .int .u8 t358.Kind, .int .i64 t358.Tx, .string (bs t358.Key), .string (bs t358.End), .string (bs t358.Value), .int .i64 t358.Limit, .int .u8 t358.Engine, .int .i64 32] Tryd.underlying72 ty72 (by as_aux_lemma => kernel_rfl) rfl (by as_aux_lemma => kernel_rfl)) rfl ?_
      refine W_v (.string (bs (bytesOf (List.replicate (3 : Int).toNat (0 : Int))))) (x_move rfl) rfl ?_
      obtain ⟨t361, ht362, H⟩ := bindS H
      refine W_callF fn31 (ferrymanlaw16_on.con k M316 (4 : Int) (2 : Int) (bytesOf (List.replicate (3 : Int).toNat (0 : Int))) ([] : Str) t361  ht362) S rfl rfl (by rintro _ _ _ ⟨_, rfl⟩; exact flat_nil) ?_
      rintro _ w363 _ Γ' E' S ⟨rfl, rfl⟩
      replace E := E.trans E'
      clear E'
      refine W_v (.agg #[.int .i64 0, .int .u8 t361.Kind, .int .i64 t361.Tx, .string (bs t361.Key), .string (bs t361.End), .string (bs t361.Value), .int .i64 t361.Limit, .int .u8 t361.Engine, .int .i64 32]) (x_build2 (pl := [(0, 1), (1, 7), (8, 1)]) #[.int .i64 0, .int .u8 t361.Kind, .int .i64 t361.Tx, .string (bs t361.Key), .string (bs t361.End), .string (bs t361.Value), .int .i64 t361.Limit, .int .u8 t361.Engine, .int .i64 32] Tryd.underlying72 ty72 (by as_aux_lemma => kernel_rfl) rfl (by as_aux_lemma => kernel_rfl)) rfl ?_
      refine W_v (.string (bs (bytesOf (List.replicate (3 : Int).toNat (0 : Int))))) (x_move rfl) rfl ?_
      obtain ⟨t364, ht365, H⟩ := bindS H
      refine W_callF fn31 (ferrymanlaw16_on.con k M316 (4 : Int) (2 : Int) ([97] : Str) (bytesOf (List.replicate (3 : Int).toNat (0 : Int))) t364  ht365) S rfl rfl (by rintro _ _ _ ⟨_, rfl⟩; exact flat_nil) ?_
      rintro _ w366 _ Γ' E' S ⟨rfl, rfl⟩
      replace E := E.trans E'
      clear E'
      refine W_v (.agg #[.int .i64 0, .int .u8 t364.Kind, .int .i64 t364.Tx, .string (bs t364.Key), .string (bs t364.End), .string (bs t364.Value), .int .i64 t364.Limit, .int .u8 t364.Engine, .int .i64 0]) (x_build2 (pl := [(0, 1), (1, 7), (8, 1)]) #[.int .i64 0, .int .u8 t364.Kind, .int .i64 t364.Tx, .string (bs t364.Key), .string (bs t364.End), .string (bs t364.Value), .int .i64 t364.Limit, .int .u8 t364.Engine, .int .i64 0] Tryd.underlying72 ty72 (by as_aux_lemma => kernel_rfl) rfl (by as_aux_lemma => kernel_rfl)) rfl ?_
      refine W_v (.string (bs (bytesOf (List.replicate (3 : Int).toNat (0 : Int))))) (x_move rfl) rfl ?_
      refine W_v (.agg #[.int .u8 5, .int .i64 2, .string (bs (bytesOf (List.replicate (3 : Int).toNat (0 : Int)))), .string (bs ([] : Str)), .string (bs ([] : Str)), .int .i64 0, .int .u8 0]) (x_build2 (pl := [(0, 1), (1, 1), (2, 1), (3, 1), (4, 1), (5, 1), (6, 1)]) #[.int .u8 5, .int .i64 2, .string (bs (bytesOf (List.replicate (3 : Int).toNat (0 : Int)))), .string (bs ([] : Str)), .string (bs ([] : Str)), .int .i64 0, .int .u8 0] Tryd.underlying37 ty37 (by as_aux_lemma => kernel_rfl) rfl (by as_aux_lemma => kernel_rfl)) rfl ?_
      refine W_v (.agg #[.int .i64 0, .int .u8 5, .int .i64 2, .string (bs (bytesOf (List.replicate (3 : Int).toNat (0 : Int)))), .string (bs ([] : Str)), .string (bs ([] : Str)), .int .i64 0, .int .u8 0, .int .i64 32]) (x_build2 (pl := [(0, 1), (1, 7), (8, 1)]) #[.int .i64 0, .int .u8 5, .int .i64 2, .string (bs (bytesOf (List.replicate (3 : Int).toNat (0 : Int)))), .string (bs ([] : Str)), .string (bs ([] : Str)), .int .i64 0, .int .u8 0, .int .i64 32] Tryd.underlying72 ty72 (by as_aux_lemma => kernel_rfl) rfl (by as_aux_lemma => kernel_rfl)) rfl ?_
      refine W_v (.string (bs (bytesOf (List.replicate (3 : Int).toNat (0 : Int))))) (x_move rfl) rfl ?_
      refine W_v (.agg #[.int .u8 5, .int .i64 2, .string (bs ([] : Str)), .string (bs (bytesOf (List.replicate (3 : Int).toNat (0 : Int)))), .string (bs ([] : Str)), .int .i64 0, .int .u8 0]) (x_build2 (pl := [(0, 1), (1, 1), (2, 1), (3, 1), (4, 1), (5, 1), (6, 1)]) #[.int .u8 5, .int .i64 2, .string (bs ([] : Str)), .string (bs (bytesOf (List.replicate (3 : Int).toNat (0 : Int)))), .string (bs ([] : Str)), .int .i64 0, .int .u8 0] Tryd.underlying37 ty37 (by as_aux_lemma => kernel_rfl) rfl (by as_aux_lemma => kernel_rfl)) rfl ?_
      refine W_v (.agg #[.int .i64 0, .int .u8 5, .int .i64 2, .string (bs ([] : Str)), .string (bs (bytesOf (List.replicate (3 : Int).toNat (0 : Int)))), .string (bs ([] : Str)), .int .i64 0, .int .u8 0, .int .i64 32]) (x_build2 (pl := [(0, 1), (1, 7), (8, 1)]) #[.int .i64 0, .int .u8 5, .int .i64 2, .string (bs ([] : Str)), .string (bs (bytesOf (List.replicate (3 : Int).toNat (0 : Int)))), .string (bs ([] : Str)), .int .i64 0, .int .u8 0, .int .i64 32] Tryd.underlying72 ty72 (by as_aux_lemma => kernel_rfl) rfl (by as_aux_lemma => kernel_rfl)) rfl ?_
      refine W_v (.agg #[.int .u8 5, .int .i64 2, .string (bs ([] : Str)), .string (bs ([] : Str)), .string (bs ([] : Str)), .int .i64 (-1), .int .u8 0]) (x_build2 (pl := [(0, 1), (1, 1), (2, 1), (3, 1), (4, 1), (5, 1), (6, 1)]) #[.int .u8 5, .int .i64 2, .string (bs ([] : Str)), .string (bs ([] : Str)), .string (bs ([] : Str)), .int .i64 (-1), .int .u8 0] Tryd.underlying37 ty37 (by as_aux_lemma => kernel_rfl) rfl (by as_aux_lemma => kernel_rfl)) rfl ?_
      refine W_v (.agg #[.int .i64 0, .int .u8 5, .int .i64 2, .string (bs ([] : Str)), .string (bs ([] : Str)), .string (bs ([] : Str)), .int .i64 (-1), .int .u8 0, .int .i64 32]) (x_build2 (pl := [(0, 1), (1, 7), (8, 1)]) #[.int .i64 0, .int .u8 5, .int .i64 2, .string (bs ([] : Str)), .string (bs ([] : Str)), .string (bs ([] : Str)), .int .i64 (-1), .int .u8 0, .int .i64 32] Tryd.underlying72 ty72 (by as_aux_lemma => kernel_rfl) rfl (by as_aux_lemma => kernel_rfl)) rfl ?_
      refine W_v (.agg #[.int .u8 5, .int .i64 2, .string (bs ([] : Str)), .string (bs ([] : Str)), .string (bs ([] : Str)), .int .i64 129, .int .u8 0]) (x_build2 (pl := [(0, 1), (1, 1), (2, 1), (3, 1), (4, 1), (5, 1), (6, 1)]) #[.int .u8 5, .int .i64 2, .string (bs ([] : Str)), .string (bs ([] : Str)), .string (bs ([] : Str)), .int .i64 129, .int .u8 0] Tryd.underlying37 ty37 (by as_aux_lemma => kernel_rfl) rfl (by as_aux_lemma => kernel_rfl)) rfl ?_
      refine W_v (.agg #[.int .i64 0, .int .u8 5, .int .i64 2, .string (bs ([] : Str)), .string (bs ([] : Str)), .string (bs ([] : Str)), .int .i64 129, .int .u8 0, .int .i64 32]) (x_build2 (pl := [(0, 1), (1, 7), (8, 1)]) #[.int .i64 0, .int .u8 5, .int .i64 2, .string (bs ([] : Str)), .string (bs ([] : Str)), .string (bs ([] : Str)), .int .i64 129, .int .u8 0, .int .i64 32] Tryd.underlying72 ty72 (by as_aux_lemma => kernel_rfl) rfl (by as_aux_lemma => kernel_rfl)) rfl ?_
      refine W_v (.agg #[.int .u8 5, .int .i64 2, .string (bs ([] : Str)), .string (bs ([] : Str)), .string (bs ([] : Str)), .int .i64 128, .int .u8 0]) (x_build2 (pl := [(0, 1), (1, 1), (2, 1), (3, 1), (4, 1), (5, 1), (6, 1)]) #[.int .u8 5, .int .i64 2, .string (bs ([] : Str)), .string (bs ([] : Str)), .string (bs ([] : Str)), .int .i64 128, .int .u8 0] Tryd.underlying37 ty37 (by as_aux_lemma => kernel_rfl) rfl (by as_aux_lemma => kernel_rfl)) rfl ?_
      refine W_v (.agg #[.int .i64 0, .int .u8 5, .int .i64 2, .string (bs ([] : Str)), .string (bs ([] : Str)), .string (bs ([] : Str)), .int .i64 128, .int .u8 0, .int .i64 0]) (x_build2 (pl := [(0, 1), (1, 7), (8, 1)]) #[.int .i64 0, .int .u8 5, .int .i64 2, .string (bs ([] : Str)), .string (bs ([] : Str)), .string (bs ([] : Str)), .int .i64 128, .int .u8 0, .int .i64 0] Tryd.underlying72 ty72 (by as_aux_lemma => kernel_rfl) rfl (by as_aux_lemma => kernel_rfl)) rfl ?_
      refine W_bslice S #[.int .i64 (-1), .int .u8 t325.Kind, .int .i64 t325.Tx, .string (bs t325.Key), .string (bs t325.End), .string (bs t325.Value), .int .i64 t325.Limit, .int .u8 t325.Engine, .int .i64 1, .int .i64 2, .int .u8 t328.Kind, .int .i64 t328.Tx, .string (bs t328.Key), .string (bs t328.End), .string (bs t328.Value), .int .i64 t328.Limit, .int .u8 t328.Engine, .int .i64 1, .int .i64 0, .int .u8 0, .int .i64 0, .string (bs ([] : Str)), .string (bs ([] : Str)), .string (bs ([] : Str)), .int .i64 0, .int .u8 0, .int .i64 1, .int .i64 0, .int .u8 10, .int .i64 0, .string (bs ([] : Str)), .string (bs ([] : Str)), .string (bs ([] : Str)), .int .i64 0, .int .u8 0, .int .i64 1, .int .i64 0, .int .u8 9, .int .i64 0, .string (bs ([] : Str)), .string (bs ([] : Str)), .string (bs ([] : Str)), .int .i64 0, .int .u8 0, .int .i64 1, .int .i64 0, .int .u8 9, .int .i64 0, .string (bs ([] : Str)), .string (bs ([] : Str)), .string (bs ([] : Str)), .int .i64 0, .int .u8 3, .int .i64 1, .int .i64 0, .int .u8 9, .int .i64 0, .string (bs ([] : Str)), .string (bs ([] : Str)), .string (bs ([] : Str)), .int .i64 0, .int .u8 2, .int .i64 0, .int .i64 0, .int .u8 t331.Kind, .int .i64 t331.Tx, .string (bs t331.Key), .string (bs t331.End), .string (bs t331.Value), .int .i64 t331.Limit, .int .u8 t331.Engine, .int .i64 30, .int .i64 0, .int .u8 t334.Kind, .int .i64 t334.Tx, .string (bs t334.Key), .string (bs t334.End), .string (bs t334.Value), .int .i64 t334.Limit, .int .u8 t334.Engine, .int .i64 30, .int .i64 1, .int .u8 t337.Kind, .int .i64 t337.Tx, .string (bs t337.Key), .string (bs t337.End), .string (bs t337.Value), .int .i64 t337.Limit, .int .u8 t337.Engine, .int .i64 30, .int .i64 0, .int .u8 t340.Kind, .int .i64 t340.Tx, .string (bs t340.Key), .string (bs t340.End), .string (bs t340.Value), .int .i64 t340.Limit, .int .u8 t340.Engine, .int .i64 30, .int .i64 0, .int .u8 t343.Kind, .int .i64 t343.Tx, .string (bs t343.Key), .string (bs t343.End), .string (bs t343.Value), .int .i64 t343.Limit, .int .u8 t343.Engine, .int .i64 31, .int .i64 0, .int .u8 t346.Kind, .int .i64 t346.Tx, .string (bs t346.Key), .string (bs t346.End), .string (bs t346.Value), .int .i64 t346.Limit, .int .u8 t346.Engine, .int .i64 31, .int .i64 0, .int .u8 t349.Kind, .int .i64 t349.Tx, .string (bs t349.Key), .string (bs t349.End), .string (bs t349.Value), .int .i64 t349.Limit, .int .u8 t349.Engine, .int .i64 32, .int .i64 0, .int .u8 t352.Kind, .int .i64 t352.Tx, .string (bs t352.Key), .string (bs t352.End), .string (bs t352.Value), .int .i64 t352.Limit, .int .u8 t352.Engine, .int .i64 32, .int .i64 0, .int .u8 t355.Kind, .int .i64 t355.Tx, .string (bs t355.Key), .string (bs t355.End), .string (bs t355.Value), .int .i64 t355.Limit, .int .u8 t355.Engine, .int .i64 32, .int .i64 0, .int .u8 t358.Kind, .int .i64 t358.Tx, .string (bs t358.Key), .string (bs t358.End), .string (bs t358.Value), .int .i64 t358.Limit, .int .u8 t358.Engine, .int .i64 32, .int .i64 0, .int .u8 t361.Kind, .int .i64 t361.Tx, .string (bs t361.Key), .string (bs t361.End), .string (bs t361.Value), .int .i64 t361.Limit, .int .u8 t361.Engine, .int .i64 32, .int .i64 0, .int .u8 t364.Kind, .int .i64 t364.Tx, .string (bs t364.Key), .string (bs t364.End), .string (bs t364.Value), .int .i64 t364.Limit, .int .u8 t364.Engine, .int .i64 0, .int .i64 0, .int .u8 5, .int .i64 2, .string (bs (bytesOf (List.replicate (3 : Int).toNat (0 : Int)))), .string (bs ([] : Str)), .string (bs ([] : Str)), .int .i64 0, .int .u8 0, .int .i64 32, .int .i64 0, .int .u8 5, .int .i64 2, .string (bs ([] : Str)), .string (bs (bytesOf (List.replicate (3 : Int).toNat (0 : Int)))), .string (bs ([] : Str)), .int .i64 0, .int .u8 0, .int .i64 32, .int .i64 0, .int .u8 5, .int .i64 2, .string (bs ([] : Str)), .string (bs ([] : Str)), .string (bs ([] : Str)), .int .i64 (-1), .int .u8 0, .int .i64 32, .int .i64 0, .int .u8 5, .int .i64 2, .string (bs ([] : Str)), .string (bs ([] : Str)), .string (bs ([] : Str)), .int .i64 129, .int .u8 0, .int .i64 32, .int .i64 0, .int .u8 5, .int .i64 2, .string (bs ([] : Str)), .string (bs ([] : Str)), .string (bs ([] : Str)), .int .i64 128, .int .u8 0, .int .i64 0] Tryd.underlying73 ty72 rfl rfl #[.int .i64 0, .int .u8 0, .int .i64 0, .string (bs ([] : Str)), .string (bs ([] : Str)), .string (bs ([] : Str)), .int .i64 0, .int .u8 0, .int .i64 0, .int .i64 0, .int .u8 0, .int .i64 0, .string (bs ([] : Str)), .string (bs ([] : Str)), .string (bs ([] : Str)), .int .i64 0, .int .u8 0, .int .i64 0, .int .i64 0, .int .u8 0, .int .i64 0, .string (bs ([] : Str)), .string (bs ([] : Str)), .string (bs ([] : Str)), .int .i64 0, .int .u8 0, .int .i64 0, .int .i64 0, .int .u8 0, .int .i64 0, .string (bs ([] : Str)), .string (bs ([] : Str)), .string (bs ([] : Str)), .int .i64 0, .int .u8 0, .int .i64 0, .int .i64 0, .int .u8 0, .int .i64 0, .string (bs ([] : Str)), .string (bs ([] : Str)), .string (bs ([] : Str)), .int .i64 0, .int .u8 0, .int .i64 0, .int .i64 0, .int .u8 0, .int .i64 0, .string (bs ([] : Str)), .string (bs ([] : Str)), .string (bs ([] : Str)), .int .i64 0, .int .u8 0, .int .i64 0, .int .i64 0, .int .u8 0, .int .i64 0, .string (bs ([] : Str)), .string (bs ([] : Str)), .string (bs ([] : Str)), .int .i64 0, .int .u8 0, .int .i64 0, .int .i64 0, .int .u8 0, .int .i64 0, .string (bs ([] : Str)), .string (bs ([] : Str)), .string (bs ([] : Str)), .int .i64 0, .int .u8 0, .int .i64 0, .int .i64 0, .int .u8 0, .int .i64 0, .string (bs ([] : Str)), .string (bs ([] : Str)), .string (bs ([] : Str)), .int .i64 0, .int .u8 0, .int .i64 0, .int .i64 0, .int .u8 0, .int .i64 0, .string (bs ([] : Str)), .string (bs ([] : Str)), .string (bs ([] : Str)), .int .i64 0, .int .u8 0, .int .i64 0, .int .i64 0, .int .u8 0, .int .i64 0, .string (bs ([] : Str)), .string (bs ([] : Str)), .string (bs ([] : Str)), .int .i64 0, .int .u8 0, .int .i64 0, .int .i64 0, .int .u8 0, .int .i64 0, .string (bs ([] : Str)), .string (bs ([] : Str)), .string (bs ([] : Str)), .int .i64 0, .int .u8 0, .int .i64 0, .int .i64 0, .int .u8 0, .int .i64 0, .string (bs ([] : Str)), .string (bs ([] : Str)), .string (bs ([] : Str)), .int .i64 0, .int .u8 0, .int .i64 0, .int .i64 0, .int .u8 0, .int .i64 0, .string (bs ([] : Str)), .string (bs ([] : Str)), .string (bs ([] : Str)), .int .i64 0, .int .u8 0, .int .i64 0, .int .i64 0, .int .u8 0, .int .i64 0, .string (bs ([] : Str)), .string (bs ([] : Str)), .string (bs ([] : Str)), .int .i64 0, .int .u8 0, .int .i64 0, .int .i64 0, .int .u8 0, .int .i64 0, .string (bs ([] : Str)), .string (bs ([] : Str)), .string (bs ([] : Str)), .int .i64 0, .int .u8 0, .int .i64 0, .int .i64 0, .int .u8 0, .int .i64 0, .string (bs ([] : Str)), .string (bs ([] : Str)), .string (bs ([] : Str)), .int .i64 0, .int .u8 0, .int .i64 0, .int .i64 0, .int .u8 0, .int .i64 0, .string (bs ([] : Str)), .string (bs ([] : Str)), .string (bs ([] : Str)), .int .i64 0, .int .u8 0, .int .i64 0, .int .i64 0, .int .u8 0, .int .i64 0, .string (bs ([] : Str)), .string (bs ([] : Str)), .string (bs ([] : Str)), .int .i64 0, .int .u8 0, .int .i64 0, .int .i64 0, .int .u8 0, .int .i64 0, .string (bs ([] : Str)), .string (bs ([] : Str)), .string (bs ([] : Str)), .int .i64 0, .int .u8 0, .int .i64 0, .int .i64 0, .int .u8 0, .int .i64 0, .string (bs ([] : Str)), .string (bs ([] : Str)), .string (bs ([] : Str)), .int .i64 0, .int .u8 0, .int .i64 0, .int .i64 0, .int .u8 0, .int .i64 0, .string (bs ([] : Str)), .string (bs ([] : Str)), .string (bs ([] : Str)), .int .i64 0, .int .u8 0, .int .i64 0, .int .i64 0, .int .u8 0, .int .i64 0, .string (bs ([] : Str)), .string (bs ([] : Str)), .string (bs ([] : Str)), .int .i64 0, .int .u8 0, .int .i64 0, .int .i64 0, .int .u8 0, .int .i64 0, .string (bs ([] : Str)), .string (bs ([] : Str)), .string (bs ([] : Str)), .int .i64 0, .int .u8 0, .int .i64 0] (by as_aux_lemma => kernel_rfl) (by as_aux_lemma => kernel_rfl) rfl ?_
      intro b367 w368 E' S
      replace E := E.trans E'
      clear E'
      replace S := S.blk_row (r := r_St72) (l := ([(⟨(-1 : Int), ⟨t325.Kind, t325.Tx, t325.Key, t325.End, t325.Value, t325.Limit, t325.Engine⟩, (1 : Int)⟩ : St72), (⟨(2 : Int), ⟨t328.Kind, t328.Tx, t328.Key, t328.End, t328.Value, t328.Limit, t328.Engine⟩, (1 : Int)⟩ : St72), (⟨(0 : Int), ⟨(0 : Int), (0 : Int), ([] : Str), ([] : Str), ([] : Str), (0 : Int), (0 : Int)⟩, (1 : Int)⟩ : St72), (⟨(0 : Int), ⟨(10 : Int), (0 : Int), ([] : Str), ([] : Str), ([] : Str), (0 : Int), (0 : Int)⟩, (1 : Int)⟩ : St72), (⟨(0 : Int), ⟨(9 : Int), (0 : Int), ([] : Str), ([] : Str), ([] : Str), (0 : Int), (0 : Int)⟩, (1 : Int)⟩ : St72), (⟨(0 : Int), ⟨(9 : Int), (0 : Int), ([] : Str), ([] : Str), ([] : Str), (0 : Int), (3 : Int)⟩, (1 : Int)⟩ : St72), (⟨(0 : Int), ⟨(9 : Int), (0 : Int), ([] : Str), ([] : Str), ([] : Str), (0 : Int), (2 : Int)⟩, (0 : Int)⟩ : St72), (⟨(0 : Int), ⟨t331.Kind, t331.Tx, t331.Key, t331.End, t331.Value, t331.Limit, t331.Engine⟩, (30 : Int)⟩ : St72), (⟨(0 : Int), ⟨t334.Kind, t334.Tx, t334.Key, t334.End, t334.Value, t334.Limit, t334.Engine⟩, (30 : Int)⟩ : St72), (⟨(1 : Int), ⟨t337.Kind, t337.Tx, t337.Key, t337.End, t337.Value, t337.Limit, t337.Engine⟩, (30 : Int)⟩ : St72), (⟨(0 : Int), ⟨t340.Kind, t340.Tx, t340.Key, t340.End, t340.Value, t340.Limit, t340.Engine⟩, (30 : Int)⟩ : St72), (⟨(0 : Int), ⟨t343.Kind, t343.Tx, t343.Key, t343.End, t343.Value, t343.Limit, t343.Engine⟩, (31 : Int)⟩ : St72), (⟨(0 : Int), ⟨t346.Kind, t346.Tx, t346.Key, t346.End, t346.Value, t346.Limit, t346.Engine⟩, (31 : Int)⟩ : St72), (⟨(0 : Int), ⟨t349.Kind, t349.Tx, t349.Key, t349.End, t349.Value, t349.Limit, t349.Engine⟩, (32 : Int)⟩ : St72), (⟨(0 : Int), ⟨t352.Kind, t352.Tx, t352.Key, t352.End, t352.Value, t352.Limit, t352.Engine⟩, (32 : Int)⟩ : St72), (⟨(0 : Int), ⟨t355.Kind, t355.Tx, t355.Key, t355.End, t355.Value, t355.Limit, t355.Engine⟩, (32 : Int)⟩ : St72), (⟨(0 : Int), ⟨t358.Kind, t358.Tx, t358.Key, t358.End, t358.Value, t358.Limit, t358.Engine⟩, (32 : Int)⟩ : St72), (⟨(0 : Int), ⟨t361.Kind, t361.Tx, t361.Key, t361.End, t361.Value, t361.Limit, t361.Engine⟩, (32 : Int)⟩ : St72), (⟨(0 : Int), ⟨t364.Kind, t364.Tx, t364.Key, t364.End, t364.Value, t364.Limit, t364.Engine⟩, (0 : Int)⟩ : St72), (⟨(0 : Int), ⟨(5 : Int), (2 : Int), (bytesOf (List.replicate (3 : Int).toNat (0 : Int))), ([] : Str), ([] : Str), (0 : Int), (0 : Int)⟩, (32 : Int)⟩ : St72), (⟨(0 : Int), ⟨(5 : Int), (2 : Int), ([] : Str), (bytesOf (List.replicate (3 : Int).toNat (0 : Int))), ([] : Str), (0 : Int), (0 : Int)⟩, (32 : Int)⟩ : St72), (⟨(0 : Int), ⟨(5 : Int), (2 : Int), ([] : Str), ([] : Str), ([] : Str), (-1 : Int), (0 : Int)⟩, (32 : Int)⟩ : St72), (⟨(0 : Int), ⟨(5 : Int), (2 : Int), ([] : Str), ([] : Str), ([] : Str), (129 : Int), (0 : Int)⟩, (32 : Int)⟩ : St72), (⟨(0 : Int), ⟨(5 : Int), (2 : Int), ([] : Str), ([] : Str), ([] : Str), (128 : Int), (0 : Int)⟩, (0 : Int)⟩ : St72)] : List St72)) 0 rfl 24 (Nat.le_refl 24) rfl (Cells.cons (vs := [.int .i64 (-1), .int .u8 t325.Kind, .int .i64 t325.Tx, .string (bs t325.Key), .string (bs t325.End), .string (bs t325.Value), .int .i64 t325.Limit, .int .u8 t325.Engine, .int .i64 1]) (rfl) (Cells.cons (vs := [.int .i64 2, .int .u8 t328.Kind, .int .i64 t328.Tx, .string (bs t328.Key), .string (bs t328.End), .string (bs t328.Value), .int .i64 t328.Limit, .int .u8 t328.Engine, .int .i64 1]) (rfl) (Cells.cons (vs := [.int .i64 0, .int .u8 0, .int .i64 0, .string (bs ([] : Str)), .string (bs ([] : Str)), .string (bs ([] : Str)), .int .i64 0, .int .u8 0, .int .i64 1]) (rfl) (Cells.cons (vs := [.int .i64 0, .int .u8 10, .int .i64 0, .string (bs ([] : Str)), .string (bs ([] : Str)), .string (bs ([] : Str)), .int .i64 0, .int .u8 0, .int .i64 1]) (rfl) (Cells.cons (vs := [.int .i64 0, .int .u8 9, .int .i64 0, .string (bs ([] : Str)), .string (bs ([] : Str)), .string (bs ([] : Str)), .int .i64 0, .int .u8 0, .int .i64 1]) (rfl) (Cells.cons (vs := [.int .i64 0, .int .u8 9, .int .i64 0, .string (bs ([] : Str)), .string (bs ([] : Str)), .string (bs ([] : Str)), .int .i64 0, .int .u8 3, .int .i64 1]) (rfl) (Cells.cons (vs := [.int .i64 0, .int .u8 9, .int .i64 0, .string (bs ([] : Str)), .string (bs ([] : Str)), .string (bs ([] : Str)), .int .i64 0, .int .u8 2, .int .i64 0]) (rfl) (Cells.cons (vs := [.int .i64 0, .int .u8 t331.Kind, .int .i64 t331.Tx, .string (bs t331.Key), .string (bs t331.End), .string (bs t331.Value), .int .i64 t331.Limit, .int .u8 t331.Engine, .int .i64 30]) (rfl) (Cells.cons (vs := [.int .i64 0, .int .u8 t334.Kind, .int .i64 t334.Tx, .string (bs t334.Key), .string (bs t334.End), .string (bs t334.Value), .int .i64 t334.Limit, .int .u8 t334.Engine, .int .i64 30]) (rfl) (Cells.cons (vs := [.int .i64 1, .int .u8 t337.Kind, .int .i64 t337.Tx, .string (bs t337.Key), .string (bs t337.End), .string (bs t337.Value), .int .i64 t337.Limit, .int .u8 t337.Engine, .int .i64 30]) (rfl) (Cells.cons (vs := [.int .i64 0, .int .u8 t340.Kind, .int .i64 t340.Tx, .string (bs t340.Key), .string (bs t340.End), .string (bs t340.Value), .int .i64 t340.Limit, .int .u8 t340.Engine, .int .i64 30]) (rfl) (Cells.cons (vs := [.int .i64 0, .int .u8 t343.Kind, .int .i64 t343.Tx, .string (bs t343.Key), .string (bs t343.End), .string (bs t343.Value), .int .i64 t343.Limit, .int .u8 t343.Engine, .int .i64 31]) (rfl) (Cells.cons (vs := [.int .i64 0, .int .u8 t346.Kind, .int .i64 t346.Tx, .string (bs t346.Key), .string (bs t346.End), .string (bs t346.Value), .int .i64 t346.Limit, .int .u8 t346.Engine, .int .i64 31]) (rfl) (Cells.cons (vs := [.int .i64 0, .int .u8 t349.Kind, .int .i64 t349.Tx, .string (bs t349.Key), .string (bs t349.End), .string (bs t349.Value), .int .i64 t349.Limit, .int .u8 t349.Engine, .int .i64 32]) (rfl) (Cells.cons (vs := [.int .i64 0, .int .u8 t352.Kind, .int .i64 t352.Tx, .string (bs t352.Key), .string (bs t352.End), .string (bs t352.Value), .int .i64 t352.Limit, .int .u8 t352.Engine, .int .i64 32]) (rfl) (Cells.cons (vs := [.int .i64 0, .int .u8 t355.Kind, .int .i64 t355.Tx, .string (bs t355.Key), .string (bs t355.End), .string (bs t355.Value), .int .i64 t355.Limit, .int .u8 t355.Engine, .int .i64 32]) (rfl) (Cells.cons (vs := [.int .i64 0, .int .u8 t358.Kind, .int .i64 t358.Tx, .string (bs t358.Key), .string (bs t358.End), .string (bs t358.Value), .int .i64 t358.Limit, .int .u8 t358.Engine, .int .i64 32]) (rfl) (Cells.cons (vs := [.int .i64 0, .int .u8 t361.Kind, .int .i64 t361.Tx, .string (bs t361.Key), .string (bs t361.End), .string (bs t361.Value), .int .i64 t361.Limit, .int .u8 t361.Engine, .int .i64 32]) (rfl) (Cells.cons (vs := [.int .i64 0, .int .u8 t364.Kind, .int .i64 t364.Tx, .string (bs t364.Key), .string (bs t364.End), .string (bs t364.Value), .int .i64 t364.Limit, .int .u8 t364.Engine, .int .i64 0]) (rfl) (Cells.cons (vs := [.int .i64 0, .int .u8 5, .int .i64 2, .string (bs (bytesOf (List.replicate (3 : Int).toNat (0 : Int)))), .string (bs ([] : Str)), .string (bs ([] : Str)), .int .i64 0, .int .u8 0, .int .i64 32]) (rfl) (Cells.cons (vs := [.int .i64 0, .int .u8 5, .int .i64 2, .string (bs ([] : Str)), .string (bs (bytesOf (List.replicate (3 : Int).toNat (0 : Int)))), .string (bs ([] : Str)), .int .i64 0, .int .u8 0, .int .i64 32]) (rfl) (Cells.cons (vs := [.int .i64 0, .int .u8 5, .int .i64 2, .string (bs ([] : Str)), .string (bs ([] : Str)), .string (bs ([] : Str)), .int .i64 (-1), .int .u8 0, .int .i64 32]) (rfl) (Cells.cons (vs := [.int .i64 0, .int .u8 5, .int .i64 2, .string (bs ([] : Str)), .string (bs ([] : Str)), .string (bs ([] : Str)), .int .i64 129, .int .u8 0, .int .i64 32]) (rfl) (Cells.cons (vs := [.int .i64 0, .int .u8 5, .int .i64 2, .string (bs ([] : Str)), .string (bs ([] : Str)), .string (bs ([] : Str)), .int .i64 128, .int .u8 0, .int .i64 0]) (rfl) Cells.nil))))))))))))))))))))))))
      obtain ⟨x370, he371, H⟩ := bindS H
      replace he371 := Option.some.inj he371
      try unfold B94 at S
      rw [he371] at S
      refine Eq.mpr (congrArg (fun z => Wl _ _ _ _ _ _ (upd _ _ z) _) (show Value.slice (some ⟨b367, 0, none⟩) 24 24 = Value.slice (some ⟨b367, 0, none⟩) x370.length 24 from (by rw [← he371]; rfl))) ?_
      clear he371
      refine W_v (.int .i64 (x370.length : Int)) (x_len_slice (n := x370.length) Tryd.underlying73 rfl) rfl ?_
      refine W_v (.int .i64 0) (x_move rfl) rfl ?_
      refine Wl_nil ?_
      refine tn ?_
      obtain ⟨o876, o876h, o876H⟩ := bindS H
      clear H
      refine Wp_blockJ (fun ρ w' => ∃ (x861 : model_Model) (A862 : Option Addr) (c863 : Nat) (A865 : Option Addr) (c866 : Nat) (A868 : Option Addr) (c869 : Nat) (A871 : Option Addr) (c872 : Nat) (vs874 : List (Str × Value)) (Mj : Hp), .inr (x861) = o876 ∧ Agree ρ [(10, .pointer (some ⟨b224, 0, none⟩))] ∧ M316.le Mj ∧ Ext w w' ∧ St w' Mj F [MapC encS (fun v : Value => v) A871 vs874, Row r_model_tx 99 (.slice A868 x861.txs.length c869) x861.txs, MapC (Value.int .i64) (Value.int .i64) A865 x861.many, MapC enc_model_name (Value.int .i64) A862 x861.names, B94 b224 x861 A862 A865 A868 c869 A871] ∧ MRel r_model_row Mj x861.rows vs874) ?_ ?_
      · skip
        refine Wp_loop (fun n ρ w' => ∃ (x698 : Int) (x699 : model_Model) (A700 : Option Addr) (c701 : Nat) (A703 : Option Addr) (c704 : Nat) (A706 : Option Addr) (c707 : Nat) (A709 : Option Addr) (c710 : Nat) (vs712 : List (Str × Value)) (Mj : Hp), ferrymanlaw16_ModelNames_l0 x370 n x698 x699 = some o876 ∧ Agree ρ [(10, .pointer (some ⟨b224, 0, none⟩)), (183, .slice (some ⟨b367, 0, none⟩) x370.length 24), (184, .int .i64 (x370.length : Int)), (185, .int .i64 x698)] ∧ M316.le Mj ∧ Ext w w' ∧ St w' Mj F [MapC encS (fun v : Value => v) A709 vs712, Row r_model_tx 99 (.slice A706 x699.txs.length c707) x699.txs, MapC (Value.int .i64) (Value.int .i64) A703 x699.many, MapC enc_model_name (Value.int .i64) A700 x699.names, Row r_St72 72 (.slice (some ⟨b367, 0, none⟩) x370.length 24) x370, B94 b224 x699 A700 A703 A706 c707 A709] ∧ MRel r_model_row Mj x699.rows vs712) k ?_ ?_
        · skip
          exact ⟨(0 : Int), t296.2, A301, c302, A304, c305, A307, c308, A310, c311, vs313, M316, o876h, ⟨rfl, rfl, rfl, rfl, trivial⟩, (Hp.le_refl M316), E, S.pick [7, 6, 5, 4, 0, 3] (by decide), hm314⟩
        · intro n
          rintro ρ w877 ⟨x698, x699, A700, c701, A703, c704, A706, c707, A709, c710, vs712, M878, H, hρ, hM879, E, S, hm713⟩
          rw [agree_eta hρ]
          clear hρ
          replace hg0 : ∃ gt fr, _ := (let ⟨gt, fr, h8⟩ := hg0; ⟨gt, fr, hM879 _ _ h8⟩)
          replace HM := Hp.le_trans HM hM879
          replace hm239 := MRel.mono hm239 hM879
          replace hm264 := MRel.mono hm264 hM879
          replace hm289 := MRel.mono hm289 hM879
          replace hm314 := MRel.mono hm314 hM879
          cases n with
          | zero => cases H
          | succ k =>
            rw [ferrymanlaw16_ModelNames_l0.eq_2] at H
            refine Wp_seq ?_
            refine Wp_region_lit ?_
            refine W_v (.bool (decide (x698 < (x370.length : Int)))) (x_ibin rfl rfl rfl rfl) rfl ?_
            refine Wl_nil ?_
            refine tn ?_
            refine Wp_seq ?_
            rcases iteS H with ⟨hb880, H⟩ | ⟨hb880, H⟩
            · refine Wp_cond_true (congrArg Value.bool hb880) ?_
              refine Wp_skip ?_
              refine tn ?_
              refine Wp_seq ?_
              refine Wp_block ?_
              refine Wp_seq ?_
              refine Wp_region_lit ?_
              obtain ⟨⟨p881, p882⟩, H⟩ := chkS H
              obtain ⟨b883, o884, cs885, _, _, ee890, hb886, vs887, hR888, hc889⟩ := SlW.at' (S.row_read 4 rfl) p881 p882
              obtain rfl : vs887 = _ := hR888
              refine W_v (.pointer (some ⟨b883, o884 + x698.toNat * 9, none⟩)) (x_indexAddr Tryd.underlying73 ty72 (slA ee890) rfl p881 p882) rfl ?_
              refine W_v (.agg #[.int .i64 ((rd x370 x698).task), .int .u8 ((rd x370 x698).c.Kind), .int .i64 ((rd x370 x698).c.Tx), .string (bs ((rd x370 x698).c.Key)), .string (bs ((rd x370 x698).c.End)), .string (bs ((rd x370 x698).c.Value)), .int .i64 ((rd x370 x698).c.Limit), .int .u8 ((rd x370 x698).c.Engine), .int .i64 ((rd x370 x698).e)]) (x_loadA (Hp.of_get hb886) ty72 rfl (sub_el hc889 0 rfl) rfl rfl) rfl ?_
              refine W_alloc S #[.int .i64 0, .int .u8 0, .int .i64 0, .string (bs ([] : Str)), .string (bs ([] : Str)), .string (bs ([] : Str)), .int .i64 0, .int .u8 0, .int .i64 0] ty72 rfl rfl ?_
              intro b891 w892 E' S
              replace E := E.trans E'
              clear E'
              refine W_store S 0 rfl ty72 rfl rfl [.int .i64 ((rd x370 x698).task), .int .u8 ((rd x370 x698).c.Kind), .int .i64 ((rd x370 x698).c.Tx), .string (bs ((rd x370 x698).c.Key)), .string (bs ((rd x370 x698).c.End)), .string (bs ((rd x370 x698).c.Value)), .int .i64 ((rd x370 x698).c.Limit), .int .u8 ((rd x370 x698).c.Engine), .int .i64 ((rd x370 x698).e)] rfl rfl rfl #[.int .i64 ((rd x370 x698).task), .int .u8 ((rd x370 x698).c.Kind), .int .i64 ((rd x370 x698).c.Tx), .string (bs ((rd x370 x698).c.Key)), .string (bs ((rd x370 x698).c.End)), .string (bs ((rd x370 x698).c.Value)), .int .i64 ((rd x370 x698).c.Limit), .int .u8 ((rd x370 x698).c.Engine), .int .i64 ((rd x370 x698).e)] (by as_aux_lemma => kernel_rfl) rfl ?_
              intro w894 E' S
              replace E := E.trans E'
              clear E'
              refine Wl_nil ?_
              refine tn ?_
              refine Wp_seq ?_
              have LE959 := Hp.le_refl M878
              refine Wp_region_any (S := fun w' => ∃ Mx, M878.le Mx ∧ St w' Mx F [B72 b891 (rd x370 x698), Row r_St72 72 (.slice (some ⟨b367, 0, none⟩) x370.length 24) x370]) (L := 20) mixed ?_
              intro w960 hw961 E'
              replace S := S.heap hw961
              replace E := E.trans E'
              clear E'
              have D1 : ∃ Mx, Hp.le M878 Mx ∧ St _ Mx F [_, _] := ⟨_, Hp.le_refl _, S.pick [0, 5] (by decide)⟩
              refine Wa_take (i := 0) rfl (by kernel_rfl) rfl rfl (.pointer (some ⟨b224, 0, none⟩)) rfl (fun w' h' => x_move rfl) D1 ?_
              refine Wa_take (i := 1) rfl (by kernel_rfl) rfl rfl (.pointer (some ⟨b891, 0, none⟩)) rfl (fun w' h' => x_fieldAddr (o := 0) (off := 0) Tryd.underlying72 rfl ty3 rfl rfl) D1 ?_
              refine Wa_take (i := 2) rfl (by kernel_rfl) rfl rfl (.int .i64 ((rd x370 x698).task)) rfl (fun w' h' => x_load (cls_blk h' 0 rfl) ty3 rfl rfl) D1 ?_
              refine Wa_take (i := 3) rfl (by kernel_rfl) rfl rfl (.pointer (some ⟨b891, 1, none⟩)) rfl (fun w' h' => x_fieldAddr (o := 0) (off := 1) Tryd.underlying72 rfl ty37 rfl rfl) D1 ?_
              refine Wa_take (i := 4) rfl (by kernel_rfl) rfl rfl (.agg #[.int .u8 ((rd x370 x698).c.Kind), .int .i64 ((rd x370 x698).c.Tx), .string (bs ((rd x370 x698).c.Key)), .string (bs ((rd x370 x698).c.End)), .string (bs ((rd x370 x698).c.Value)), .int .i64 ((rd x370 x698).c.Limit), .int .u8 ((rd x370 x698).c.Engine)]) rfl (fun w' h' => x_loadA (cls_blk h' 0 rfl) ty37 rfl (sub_of_extract rfl) rfl rfl) D1 ?_
              refine Wa_take (i := 6) rfl (by kernel_rfl) rfl rfl (.pointer (some ⟨b891, 8, none⟩)) rfl (fun w' h' => x_fieldAddr (o := 0) (off := 8) Tryd.underlying72 rfl ty28 rfl rfl) D1 ?_
              refine Wa_take (i := 7) rfl (by kernel_rfl) rfl rfl (.int .i64 ((rd x370 x698).e)) rfl (fun w' h' => x_load (cls_blk h' 0 rfl) ty28 rfl rfl) D1 ?_
              refine Wa_solo (i := 5) rfl (by kernel_rfl) ?_
              obtain ⟨t962, ht963, H⟩ := bindS H
              replace S : St w960 M878 F [_, _, _, _, _, _, _] := S.pick [6, 4, 3, 2, 1, 0, 5] (by decide)
              refine W_callF2 fn25 (model_Model_Refused_POOOO.con k M878 A700 c701 A703 c704 A706 c707 A709 c710 vs712 x699 ((rd x370 x698).task) ((rd x370 x698).c) b224 t962 hm713 ht963) (Γ1 := [_, _, _, _, _]) (Γ2 := [_, _]) S rfl rfl (by rintro _ _ _ ⟨rfl, rfl⟩; exact (flat_cons flat_blk (flat_cons flat_map (flat_cons flat_map (flat_cons (flat_row (fun _ _ _ _ h => h)) (flat_cons flat_map flat_nil)))))) ?_
              rintro _ w964 _ Γ' E' S ⟨rfl, rfl⟩
              replace E := E.trans E'
              clear E'
              replace S : St w964 M878 F [_, _, _, _, _, _, _] := S
              refine Wl_nil (on_n ⟨.inr ⟨M878, Hp.le_refl M878, (S.pick [5, 6] (by decide))⟩, ?_⟩)
              have D2 : ∃ Mx, Hp.le M878 Mx ∧ St _ Mx F [_, _] := ⟨_, Hp.le_refl _, S.pick [5, 6] (by decide)⟩
              refine Wa_take (i := 8) rfl (by kernel_rfl) rfl rfl (.bool (t962 != (rd x370 x698).e)) rfl (fun w' h' => x_ibin rfl rfl rfl rfl) D2 ?_
              refine Wa_take (i := 9) rfl (by kernel_rfl) rfl rfl (.bool (t962 != (rd x370 x698).e)) rfl (fun w' h' => x_move rfl) D2 ?_
              obtain ⟨o1003, o1003h, o1003H⟩ := bindS H
              clear H
              refine Wa_join (fun ρ w' => ∃ (x987 : Bool) (x988 : model_Model) (A989 : Option Addr) (c990 : Nat) (A992 : Option Addr) (c993 : Nat) (A995 : Option Addr) (c996 : Nat) (A998 : Option Addr) (c999 : Nat) (vs1001 : List (Str × Value)) (Mj : Hp), (x987, x988) = o1003 ∧ Agree ρ [(10, .pointer (some ⟨b224, 0, none⟩)), (183, .slice (some ⟨b367, 0, none⟩) x370.length 24), (184, .int .i64 (x370.length : Int)), (185, .int .i64 x698), (208, .bool x987)] ∧ M878.le Mj ∧ Ext w w' ∧ St w' Mj F [MapC encS (fun v : Value => v) A998 vs1001, Row r_model_tx 99 (.slice A995 x988.txs.length c996) x988.txs, MapC (Value.int .i64) (Value.int .i64) A992 x988.many, MapC enc_model_name (Value.int .i64) A989 x988.names, B94 b224 x988 A989 A992 A995 c996 A998, B72 b891 (rd x370 x698), Row r_St72 72 (.slice (some ⟨b367, 0, none⟩) x370.length 24) x370] ∧ MRel r_model_row Mj x988.rows vs1001) 0 (Ls 20 [0, 1, 2, 3, 4, 6, 7, 5, 8, 9, 10, 11, 12, 13, 14, 15, 16, 17, 18, 19]) ?_ ?_
              rotate_left
              · intro hrest
                have H := o1003h
                clear o1003h o1003H
                rcases iteS H with ⟨hb986, H⟩ | ⟨hb986, H⟩
                · skip
                  have D3 : ∃ Mx, Hp.le M878 Mx ∧ St _ Mx F [_, _] := ⟨_, Hp.le_refl _, S.pick [5, 6] (by decide)⟩
                  refine Wa_takeN (i := 10) rfl (by kernel_rfl) rfl rfl rfl (skF hb986) D3 ?_
                  refine Wa_takeN (i := 11) rfl (by kernel_rfl) rfl rfl rfl (skF hb986) D3 ?_
                  refine Wa_takeN (i := 12) rfl (by kernel_rfl) rfl rfl rfl (skF hb986) D3 ?_
                  refine Wa_takeN (i := 13) rfl (by kernel_rfl) rfl rfl rfl (skF hb986) D3 ?_
                  refine Wa_takeN (i := 14) rfl (by kernel_rfl) rfl rfl rfl (skF hb986) D3 ?_
                  refine Wa_takeN (i := 15) rfl (by kernel_rfl) rfl rfl rfl (skF hb986) D3 ?_
                  refine Wa_takeN (i := 16) rfl (by kernel_rfl) rfl rfl rfl (skF hb986) D3 ?_
                  refine Wa_takeN (i := 17) rfl (by kernel_rfl) rfl rfl rfl (skF hb986) D3 ?_
                  refine Wa_takeN (i := 18) rfl (by kernel_rfl) rfl rfl rfl (skF hb986) D3 ?_
                  refine Wa_take (i := 19) rfl (by kernel_rfl) rfl rfl (.bool true) rfl (fun w' h' => x_pick (k := true) (congrArg Value.bool hb986) rfl) D3 ?_
                  exact hrest _ _ ⟨true, x699, A700, c701, A703, c704, A706, c707, A709, c710, vs712, M878, Option.some.inj H, ⟨rfl, rfl, rfl, rfl, rfl, trivial⟩, (Hp.le_refl M878), E, S.pick [4, 3, 2, 1, 0, 5, 6] (by decide), hm713⟩
                · skip
                  have D4 : ∃ Mx, Hp.le M878 Mx ∧ St _ Mx F [_, _] := ⟨_, Hp.le_refl _, S.pick [5, 6] (by decide)⟩
                  refine Wa_takeY (i := 10) rfl (by kernel_rfl) rfl rfl (.pointer (some ⟨b224, 0, none⟩)) rfl (congrArg some hb986) (fun w' h' => x_move rfl) D4 ?_
                  refine Wa_takeY (i := 11) rfl (by kernel_rfl) rfl rfl (.pointer (some ⟨b891, 0, none⟩)) rfl (congrArg some hb986) (fun w' h' => x_fieldAddr (o := 0) (off := 0) Tryd.underlying72 rfl ty3 rfl rfl) D4 ?_
                  refine Wa_takeY (i := 12) rfl (by kernel_rfl) rfl rfl (.int .i64 ((rd x370 x698).task)) rfl (congrArg some hb986) (fun w' h' => x_load (cls_blk h' 0 rfl) ty3 rfl rfl) D4 ?_
                  refine Wa_takeY (i := 13) rfl (by kernel_rfl) rfl rfl (.pointer (some ⟨b891, 1, none⟩)) rfl (congrArg some hb986) (fun w' h' => x_fieldAddr (o := 0) (off := 1) Tryd.underlying72 rfl ty37 rfl rfl) D4 ?_
                  refine Wa_takeY (i := 14) rfl (by kernel_rfl) rfl rfl (.agg #[.int .u8 ((rd x370 x698).c.Kind), .int .i64 ((rd x370 x698).c.Tx), .string (bs ((rd x370 x698).c.Key)), .string (bs ((rd x370 x698).c.End)), .string (bs ((rd x370 x698).c.Value)), .int .i64 ((rd x370 x698).c.Limit), .int .u8 ((rd x370 x698).c.Engine)]) rfl (congrArg some hb986) (fun w' h' => x_loadA (cls_blk h' 0 rfl) ty37 rfl (sub_of_extract rfl) rfl rfl) D4 ?_
                  refine Wa_takeY (i := 15) rfl (by kernel_rfl) rfl rfl (.pointer (some ⟨b891, 8, none⟩)) rfl (congrArg some hb986) (fun w' h' => x_fieldAddr (o := 0) (off := 8) Tryd.underlying72 rfl ty28 rfl rfl) D4 ?_
                  refine Wa_takeY (i := 16) rfl (by kernel_rfl) rfl rfl (.int .i64 ((rd x370 x698).e)) rfl (congrArg some hb986) (fun w' h' => x_load (cls_blk h' 0 rfl) ty28 rfl rfl) D4 ?_
                  refine Wa_solo (i := 17) rfl (by kernel_rfl) ?_
                  refine W_yes (congrArg some hb986) ?_
                  obtain ⟨t1004, ht1005, H⟩ := bindS H
                  refine W_call fn32 (ferrymanlaw16_is_POOOO.con k M878 A700 c701 A703 c704 A706 c707 A709 c710 vs712 x699 ((rd x370 x698).task) ((rd x370 x698).c) ((rd x370 x698).e) false ([] : Str) b224 t1004 hm713 hg0 ht1005) (Γ1 := [_, _, _, _, _]) (Γ2 := [_, _]) S rfl rfl ?_
                  rintro _ w1020 M1021 Γ' hM1022 E' S ⟨A1006, c1007, A1009, c1010, A1012, c1013, A1015, c1016, vs1018, rfl, hm1019, rfl⟩
                  replace hg0 : ∃ gt fr, _ := (let ⟨gt, fr, h8⟩ := hg0; ⟨gt, fr, hM1022 _ _ h8⟩)
                  replace HM := Hp.le_trans HM hM1022
                  replace hM879 := Hp.le_trans hM879 hM1022
                  replace LE959 := Hp.le_trans LE959 hM1022
                  replace hm239 := MRel.mono hm239 hM1022
                  replace hm264 := MRel.mono hm264 hM1022
                  replace hm289 := MRel.mono hm289 hM1022
                  replace hm314 := MRel.mono hm314 hM1022
                  replace hm713 := MRel.mono hm713 hM1022
                  replace E := E.trans E'
                  clear E'
                  replace S : St w1020 M1021 F [_, _, _, _, _, _, _] := S
                  refine Wl_nil (on_n ⟨.inr ⟨M1021, LE959, (S.pick [5, 6] (by decide))⟩, ?_⟩)
                  refine Wa_takeY (i := 18) rfl (by kernel_rfl) rfl rfl (.bool (!t1004.1)) rfl (congrArg some hb986) (fun w' h' => x_not (b := t1004.1) rfl) (⟨M1021, LE959, (S.pick [5, 6] (by decide))⟩) ?_
                  refine Wa_take (i := 19) rfl (by kernel_rfl) rfl rfl (.bool (!t1004.1)) rfl (fun w' h' => x_pick (k := false) (congrArg Value.bool hb986) rfl) (⟨M1021, LE959, (S.pick [5, 6] (by decide))⟩) ?_
                  exact hrest _ _ ⟨(!t1004.1), t1004.2, A1006, c1007, A1009, c1010, A1012, c1013, A1015, c1016, vs1018, M1021, Option.some.inj H, ⟨rfl, rfl, rfl, rfl, rfl, trivial⟩, LE959, E, S.pick [4, 3, 2, 1, 0, 5, 6] (by decide), hm1019⟩
              clear o1003h
              rintro ρ w1023 ⟨x987, x988, A989, c990, A992, c993, A995, c996, A998, c999, vs1001, M1024, rfl, hρ, hM1025, E, S, hm1002⟩
              rw [agree_eta hρ]
              clear hρ
              replace hg0 : ∃ gt fr, _ := (let ⟨gt, fr, h8⟩ := hg0; ⟨gt, fr, hM1025 _ _ h8⟩)
              replace HM := Hp.le_trans HM hM1025
              replace hM879 := Hp.le_trans hM879 hM1025
              replace LE959 := Hp.le_trans LE959 hM1025
              replace hm239 := MRel.mono hm239 hM1025
              replace hm264 := MRel.mono hm264 hM1025
              replace hm289 := MRel.mono hm289 hM1025
              replace hm314 := MRel.mono hm314 hM1025
              replace hm713 := MRel.mono hm713 hM1025
              have H := o1003H
              clear o1003H
              refine Wa_done (by kernel_rfl) ?_
              refine tn ?_
              rcases iteS H with ⟨hb1026, H⟩ | ⟨hb1026, H⟩
              · refine Wp_cond_true (congrArg Value.bool hb1026) ?_
                refine Wp_seq ?_
                refine Wp_region_lit ?_
                refine W_v (.bool false) (x_assign rfl) rfl ?_
                refine Wl_nil ?_
                refine tn ?_
                refine Wp_ret ?_
                refine br (tr (tr (br (tr (tr (?_))))))
                obtain rfl := Option.some.inj H
                have H := o876H
                replace H := elimL H
                obtain rfl := Option.some.inj H
                exact ⟨_, _, _, fun w1 e1 => run_resR (vs := [.bool false]) (FA.cons (rfl) (FA.nil)), HM, E, S.pick [] (by decide), ⟨rfl, rfl⟩⟩
              refine Wp_cond_false (congrArg Value.bool hb1026) ?_
              refine Wp_skip ?_
              refine bn ?_
              refine tn ?_
              refine Wp_region_lit ?_
              refine W_v (.int .i64 (IntKind.i64.wrap (x698 + (1 : Int)))) (x_ibin rfl rfl rfl rfl) rfl ?_
              refine W_v (.int .i64 (IntKind.i64.wrap (x698 + (1 : Int)))) (x_move rfl) rfl ?_
              refine Wl_nil ?_
              refine tn ?_
              exact ⟨k, Nat.lt_succ_self k, ⟨(IntKind.i64.wrap (x698 + (1 : Int))), x988, A989, c990, A992, c993, A995, c996, A998, c999, vs1001, M1024, H, ⟨rfl, rfl, rfl, rfl, trivial⟩, hM879, E, S.pick [0, 1, 2, 3, 6, 4] (by decide), hm1002⟩⟩
            refine Wp_cond_false (congrArg Value.bool hb880) ?_
            refine Wp_exit ?_
            refine tx (tx (bsm (?_)))
            refine tn ?_
            exact ⟨x699, A700, c701, A703, c704, A706, c707, A709, c710, vs712, M878, Option.some.inj H, ⟨rfl, trivial⟩, hM879, E, S.pick [0, 1, 2, 3, 5] (by decide), hm713⟩
      clear o876h
      rintro ρ w1027 ⟨x861, A862, c863, A865, c866, A868, c869, A871, c872, vs874, M1028, rfl, hρ, hM1029, E, S, hm875⟩
      rw [agree_eta hρ]
      clear hρ
      replace hg0 : ∃ gt fr, _ := (let ⟨gt, fr, h8⟩ := hg0; ⟨gt, fr, hM1029 _ _ h8⟩)
      replace HM := Hp.le_trans HM hM1029
      replace hm239 := MRel.mono hm239 hM1029
      replace hm264 := MRel.mono hm264 hM1029
      replace hm289 := MRel.mono hm289 hM1029
      replace hm314 := MRel.mono hm314 hM1029
      have H := o876H
      clear o876H
      replace H := elimR H
      refine tn ?_
      as_aux_lemma =>
      refine Wp_seq ?_
      refine Wp_region_lit ?_
      refine W_v (.pointer (some ⟨b224, 0, none⟩)) (x_move rfl) rfl ?_
      obtain ⟨t1030, ht1031, H⟩ := bindS H
      replace S : St w1027 M1028 F [_, _, _, _, _] := S.pick [4, 3, 2, 1, 0] (by decide)
      refine W_call fn33 (ferrymanlaw16_fulls_POOOO.con k M1028 A862 c863 A865 c866 A868 c869 A871 c872 vs874 x861 b224 t1030 hm875 hg0 ht1031) (Γ1 := [_, _, _, _, _]) (Γ2 := []) S rfl rfl ?_
      rintro _ w1046 M1047 Γ' hM1048 E' S ⟨A1032, c1033, A1035, c1036, A1038, c1039, A1041, c1042, vs1044, rfl, hm1045, rfl⟩
      replace hg0 : ∃ gt fr, _ := (let ⟨gt, fr, h8⟩ := hg0; ⟨gt, fr, hM1048 _ _ h8⟩)
      replace HM := Hp.le_trans HM hM1048
      replace hM1029 := Hp.le_trans hM1029 hM1048
      replace hm239 := MRel.mono hm239 hM1048
      replace hm264 := MRel.mono hm264 hM1048
      replace hm289 := MRel.mono hm289 hM1048
      replace hm314 := MRel.mono hm314 hM1048
      replace hm875 := MRel.mono hm875 hM1048
      replace E := E.trans E'
      clear E'
      replace S : St w1046 M1047 F [_, _, _, _, _] := S
      refine W_v (.bool t1030.1) (x_assign rfl) rfl ?_
      refine Wl_nil ?_
      refine tn ?_
      refine Wp_ret ?_
      obtain rfl := Option.some.inj H
      exact ⟨_, _, _, fun w1 e1 => run_resR (vs := [.bool t1030.1]) (FA.cons (rfl) (FA.nil)), HM, E, S.pick [] (by decide), ⟨rfl, rfl⟩⟩
  · skip
    replace H := elimR H
    refine W_call fn13 (model_New_v.con k M (⟨t199.Tasks, t199.Active, t199.Keys, (1 : Int), t199.TS, t199.KeyLen, t199.ValLen, t199.Fan⟩ : api_Config) (Sum.inr t210)  ht208) (Γ1 := []) (Γ2 := [_]) S rfl rfl ?_
    rintro _ w1065 M1066 Γ' hM1067 E' S ⟨b1049, A1051, c1052, A1054, c1055, A1057, c1058, A1060, c1061, vs1063, rfl, hm1064, rfl⟩
    replace hg0 : ∃ gt fr, _ := (let ⟨gt, fr, h8⟩ := hg0; ⟨gt, fr, hM1067 _ _ h8⟩)
    replace HM := Hp.le_trans HM hM1067
    replace E := E.trans E'
    clear E'
    replace S : St w1065 M1066 F [_, _, _, _, _, _] := S
    refine W_v (.tuple #[.pointer (some ⟨b1049, 0, none⟩), .int .i64 0]) (x_move rfl) rfl ?_
    refine W_v (.pointer (some ⟨b1049, 0, none⟩)) (x_extract rfl rfl) rfl ?_
    refine W_v (.int .i64 0) (x_extract rfl rfl) rfl ?_
    refine W_v (.pointer (some ⟨b1049, 0, none⟩)) (x_assign rfl) rfl ?_
    refine W_v (.int .i64 0) (x_assign rfl) rfl ?_
    refine Wl_nil ?_
    refine tn ?_
    refine Wp_seq ?_
    refine Wp_region_lit ?_
    obtain ⟨t1068, ht1069, H⟩ := bindS H
    refine W_callF fn30 (ferrymanlaw16_small.con k M1066  t1068  ht1069) S rfl rfl (by rintro _ _ _ ⟨_, rfl⟩; exact flat_nil) ?_
    rintro _ w1070 _ Γ' E' S ⟨rfl, rfl⟩
    replace E := E.trans E'
    clear E'
    obtain ⟨t1071, ht1072, H⟩ := bindS H
    rcases t1071 with t1073 | t1074
    · skip
      replace H := elimL H
      refine W_callF2 fn13 (model_New_v.con k M1066 t1068 (Sum.inl t1073)  ht1072) (Γ1 := []) (Γ2 := [_, _, _, _, _, _]) S rfl rfl (by rintro _ _ _ ⟨rfl, rfl⟩; exact flat_nil) ?_
      rintro _ w1075 _ Γ' E' S ⟨rfl, rfl⟩
      replace E := E.trans E'
      clear E'
      replace S : St w1075 M1066 F [_, _, _, _, _, _] := S
      refine W_v (.tuple #[.pointer none, .int .i64 1]) (x_move rfl) rfl ?_
      refine W_v (.pointer none) (x_extract rfl rfl) rfl ?_
      refine W_v (.int .i64 1) (x_extract rfl rfl) rfl ?_
      refine W_v (.pointer none) (x_assign rfl) rfl ?_
      refine W_v (.int .i64 1) (x_assign rfl) rfl ?_
      refine Wl_nil ?_
      refine tn ?_
      refine Wp_seq ?_
      refine Wp_seq ?_
      refine Wp_region_lit ?_
      refine W_v (.pointer (some ⟨b1049, 0, none⟩)) (x_move rfl) rfl ?_
      refine W_v (.bool true) (x_ne_of (r := false) rfl rfl (run_eq_ptrsn Tryd.underlying27)) rfl ?_
      refine W_v (.bool true) (x_move rfl) rfl ?_
      refine W_no (rfl) rfl ?_
      refine W_no (rfl) rfl ?_
      refine W_v (.bool true) (x_pick (k := true) rfl rfl) rfl ?_
      refine W_v (.bool true) (x_move rfl) rfl ?_
      refine W_no (rfl) rfl ?_
      refine W_no (rfl) rfl ?_
      refine W_v (.bool true) (x_pick (k := true) rfl rfl) rfl ?_
      refine Wl_nil ?_
      refine tn ?_
      refine Wp_cond_true rfl ?_
      refine Wp_seq ?_
      refine Wp_region_lit ?_
      refine W_v (.bool false) (x_assign rfl) rfl ?_
      refine Wl_nil ?_
      refine tn ?_
      refine Wp_ret ?_
      refine tr (?_)
      obtain rfl := Option.some.inj H
      exact ⟨_, _, _, fun w1 e1 => run_resR (vs := [.bool false]) (FA.cons (rfl) (FA.nil)), HM, E, S.pick [] (by decide), ⟨rfl, rfl⟩⟩
    · skip
      replace H := elimR H
      refine W_call fn13 (model_New_v.con k M1066 t1068 (Sum.inr t1074)  ht1072) (Γ1 := []) (Γ2 := [_, _, _, _, _, _]) S rfl rfl ?_
      rintro _ w1094 M1095 Γ' hM1096 E' S ⟨b1078, A1080, c1081, A1083, c1084, A1086, c1087, A1089, c1090, vs1092, rfl, hm1093, rfl⟩
      replace hg0 : ∃ gt fr, _ := (let ⟨gt, fr, h8⟩ := hg0; ⟨gt, fr, hM1096 _ _ h8⟩)
      replace HM := Hp.le_trans HM hM1096
      replace hm1064 := MRel.mono hm1064 hM1096
      replace E := E.trans E'
      clear E'
      replace S : St w1094 M1095 F [_, _, _, _, _, _, _, _, _, _, _] := S
      refine W_v (.tuple #[.pointer (some ⟨b1078, 0, none⟩), .int .i64 0]) (x_move rfl) rfl ?_
      refine W_v (.pointer (some ⟨b1078, 0, none⟩)) (x_extract rfl rfl) rfl ?_
      refine W_v (.int .i64 0) (x_extract rfl rfl) rfl ?_
      refine W_v (.pointer (some ⟨b1078, 0, none⟩)) (x_assign rfl) rfl ?_
      refine W_v (.int .i64 0) (x_assign rfl) rfl ?_
      refine Wl_nil ?_
      refine tn ?_
      refine Wp_seq ?_
      refine Wp_seq ?_
      refine Wp_region_lit ?_
      refine W_v (.pointer (some ⟨b1049, 0, none⟩)) (x_move rfl) rfl ?_
      refine W_v (.bool true) (x_ne_of (r := false) rfl rfl (run_eq_ptrsn Tryd.underlying27)) rfl ?_
      refine W_v (.bool true) (x_move rfl) rfl ?_
      refine W_no (rfl) rfl ?_
      refine W_no (rfl) rfl ?_
      refine W_v (.bool true) (x_pick (k := true) rfl rfl) rfl ?_
      refine W_v (.bool true) (x_move rfl) rfl ?_
      refine W_no (rfl) rfl ?_
      refine W_no (rfl) rfl ?_
      refine W_v (.bool true) (x_pick (k := true) rfl rfl) rfl ?_
      refine Wl_nil ?_
      refine tn ?_
      refine Wp_cond_true rfl ?_
      refine Wp_seq ?_
      refine Wp_region_lit ?_
      refine W_v (.bool false) (x_assign rfl) rfl ?_
      refine Wl_nil ?_
      refine tn ?_
      refine Wp_ret ?_
      refine tr (?_)
      obtain rfl := Option.some.inj H
      exact ⟨_, _, _, fun w1 e1 => run_resR (vs := [.bool false]) (FA.cons (rfl) (FA.nil)), HM, E, S.pick [] (by decide), ⟨rfl, rfl⟩⟩
end Go.Proofs.YtcngjjlhdlbogaaDoor
