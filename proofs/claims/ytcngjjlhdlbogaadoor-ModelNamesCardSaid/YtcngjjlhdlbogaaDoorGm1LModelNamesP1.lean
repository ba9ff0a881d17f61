import Derived.Test.YtcngjjlhdlbogaaDoorGm1B
import Derived.Test.YtcngjjlhdlbogaaDoorGm1P0
import Derived.Test.YtcngjjlhdlbogaaDoorGm1P2
import Derived.Test.YtcngjjlhdlbogaaDoorGm1P3
namespace Go.Proofs.YtcngjjlhdlbogaaDoor
open Go
set_option linter.unusedVariables false
set_option linter.unusedSimpArgs false
/-! ### ferryman/ferrymanlaw16.fulls: function 33 -/
def ferrymanlaw16_fulls_POOOO (k : Nat) (a0 : model_Model) : Option (Bool × model_Model) :=
  (Option.bind (ferrymanlaw16_on k (3 : Int) (2 : Int) ([98] : Str) ([49] : Str)) (fun t1 => (Option.bind (ferrymanlaw16_is_POOOO k a0 (0 : Int) t1 (0 : Int) false ([] : Str)) (fun t4 => (Option.bind (α := Bool × model_Model) (if (!t4.1) = true then some (true, t4.2) else (Option.bind (ferrymanlaw16_on k (3 : Int) (2 : Int) ([97] : Str) ([50] : Str)) (fun t86 => (Option.bind (ferrymanlaw16_is_POOOO k t4.2 (0 : Int) t86 (0 : Int) false ([] : Str)) (fun t89 => some ((!t89.1), t89.2)))))) (fun ⟨x68, x69⟩ => (Option.bind (α := Bool × model_Model) (if x68 = true then some (true, x69) else (Option.bind (ferrymanlaw16_on k (3 : Int) (2 : Int) ([99] : Str) ([51] : Str)) (fun t174 => (Option.bind (ferrymanlaw16_is_POOOO k x69 (0 : Int) t174 (34 : Int) false ([] : Str)) (fun t177 => some ((!t177.1), t177.2)))))) (fun ⟨x156, x157⟩ => (Option.bind (α := Bool × model_Model) (if x156 = true then some (true, x157) else (Option.bind (ferrymanlaw16_on k (3 : Int) (2 : Int) ([97] : Str) ([52] : Str)) (fun t262 => (Option.bind (ferrymanlaw16_is_POOOO k x157 (0 : Int) t262 (0 : Int) false ([] : Str)) (fun t265 => some ((!t265.1), t265.2)))))) (fun ⟨x244, x245⟩ => (Option.bind (α := Bool) (if x244 = true then some (true) else (Option.bind (model_Model_Retained_POOOO k x245) (fun t300 => some ((t300 != (2 : Int)))))) (fun x298 => (Option.bind (α := Bool × model_Model) (if x298 = true then some (true, x245) else (Option.bind (ferrymanlaw16_on k (4 : Int) (2 : Int) ([122, 122] : Str) ([] : Str)) (fun t369 => (Option.bind (ferrymanlaw16_is_POOOO k x245 (0 : Int) t369 (0 : Int) false ([] : Str)) (fun t372 => some ((!t372.1), t372.2)))))) (fun ⟨x351, x352⟩ => (if x351 = true then some (false, x352) else (Option.bind (model_Model_Do_POOOO k x352 (0 : Int) (⟨(5 : Int), (2 : Int), ([] : Str), ([] : Str), ([] : Str), (9 : Int), (0 : Int)⟩ : api_Call)) (fun t395 => (Option.bind (model_Model_Do_POOOO k t395.2 (0 : Int) (⟨(5 : Int), (2 : Int), ([97] : Str), ([98] : Str), ([] : Str), (9 : Int), (0 : Int)⟩ : api_Call)) (fun t421 => (Option.bind (model_Model_Do_POOOO k t421.2 (0 : Int) (⟨(5 : Int), (2 : Int), ([97, 97] : Str), ([] : Str), ([] : Str), (9 : Int), (0 : Int)⟩ : api_Call)) (fun t447 => (Option.bind (model_Model_Do_POOOO k t447.2 (0 : Int) (⟨(5 : Int), (2 : Int), ([] : Str), ([] : Str), ([] : Str), (1 : Int), (0 : Int)⟩ : api_Call)) (fun t473 => (Option.bind (model_Model_Do_POOOO k t473.2 (0 : Int) (⟨(5 : Int), (2 : Int), ([98] : Str), ([97] : Str), ([] : Str), (9 : Int), (0 : Int)⟩ : api_Call)) (fun t499 => (Option.bind (α := Bool) (if ((t395.1.Pairs.length : Int) != (2 : Int)) = true then some (true) else (if 0 ≤ (0 : Int) ∧ (0 : Int) < (t395.1.Pairs.length : Int) then some ((!(((rd t395.1.Pairs (0 : Int)).Key == ([97] : Str)) && ((rd t395.1.Pairs (0 : Int)).Value == ([52] : Str))))) else none)) (fun x813 => (Option.bind (α := Bool) (if x813 = true then some (true) else (if 0 ≤ (1 : Int) ∧ (1 : Int) < (t395.1.Pairs.length : Int) then some ((!(((rd t395.1.Pairs (1 : Int)).Key == ([98] : Str)) && ((rd t395.1.Pairs (1 : Int)).Value == ([49] : Str))))) else none)) (fun x827 => (Option.bind (α := Bool) (if (x827 || ((t421.1.Pairs.length : Int) != (1 : Int))) = true then some (true) else (if 0 ≤ (0 : Int) ∧ (0 : Int) < (t421.1.Pairs.length : Int) then some ((!(((rd t421.1.Pairs (0 : Int)).Key == ([97] : Str)) && ((rd t421.1.Pairs (0 : Int)).Value == ([52] : Str))))) else none)) (fun x842 => (Option.bind (α := Bool) (if (x842 || ((t447.1.Pairs.length : Int) != (1 : Int))) = true then some (true) else (if 0 ≤ (0 : Int) ∧ (0 : Int) < (t447.1.Pairs.length : Int) then some ((!(((rd t447.1.Pairs (0 : Int)).Key == ([98] : Str)) && ((rd t447.1.Pairs (0 : Int)).Value == ([49] : Str))))) else none)) (fun x857 => (Option.bind (α := Bool) (if (x857 || ((t473.1.Pairs.length : Int) != (1 : Int))) = true then some (true) else (if 0 ≤ (0 : Int) ∧ (0 : Int) < (t473.1.Pairs.length : Int) then some ((!(((rd t473.1.Pairs (0 : Int)).Key == ([97] : Str)) && ((rd t473.1.Pairs (0 : Int)).Value == ([52] : Str))))) else none)) (fun x872 => (Option.bind (α := Bool × model_Model) (if (x872 || ((t499.1.Pairs.length : Int) != (0 : Int))) = true then some (true, t499.2) else (Option.bind (ferrymanlaw16_on k (1 : Int) (0 : Int) ([] : Str) ([] : Str)) (fun t921 => (Option.bind (ferrymanlaw16_is_POOOO k t499.2 (0 : Int) t921 (0 : Int) false ([] : Str)) (fun t924 => some ((!t924.1), t924.2)))))) (fun ⟨x904, x905⟩ => (Option.bind (α := Bool × model_Model) (if x904 = true then some (true, x905) else (Option.bind (ferrymanlaw16_on k (1 : Int) (0 : Int) ([] : Str) ([] : Str)) (fun t987 => (Option.bind (ferrymanlaw16_is_POOOO k x905 (1 : Int) t987 (34 : Int) false ([] : Str)) (fun t990 => some ((!t990.1), t990.2)))))) (fun ⟨x969, x970⟩ => (Option.bind (α := Bool × model_Model) (if x969 = true then some (true, x970) else (Option.bind (ferrymanlaw16_on k (6 : Int) (2 : Int) ([] : Str) ([] : Str)) (fun t1053 => (Option.bind (ferrymanlaw16_is_POOOO k x970 (0 : Int) t1053 (0 : Int) false ([] : Str)) (fun t1056 => some ((!t1056.1), t1056.2)))))) (fun ⟨x1035, x1036⟩ => (if x1035 = true then some (false, x1036) else (Option.bind (ferrymanlaw16_on k (1 : Int) (0 : Int) ([] : Str) ([] : Str)) (fun t1079 => (Option.bind (ferrymanlaw16_is_POOOO k x1036 (0 : Int) t1079 (0 : Int) false ([] : Str)) (fun t1082 => (Option.bind (α := Bool × model_Model) (if (!t1082.1) = true then some (true, t1082.2) else (Option.bind (ferrymanlaw16_on k (3 : Int) (3 : Int) ([97] : Str) ([53] : Str)) (fun t1164 => (Option.bind (ferrymanlaw16_is_POOOO k t1082.2 (0 : Int) t1164 (33 : Int) false ([] : Str)) (fun t1167 => some ((!t1167.1), t1167.2)))))) (fun ⟨x1146, x1147⟩ => (Option.bind (α := Bool × model_Model) (if x1146 = true then some (true, x1147) else (Option.bind (ferrymanlaw16_on k (3 : Int) (4 : Int) ([97] : Str) ([53] : Str)) (fun t1252 => (Option.bind (ferrymanlaw16_is_POOOO k x1147 (0 : Int) t1252 (0 : Int) false ([] : Str)) (fun t1255 => some ((!t1255.1), t1255.2)))))) (fun ⟨x1234, x1235⟩ => (Option.bind (α := Bool × model_Model) (if x1234 = true then some (true, x1235) else (Option.bind (ferrymanlaw16_on k (6 : Int) (4 : Int) ([] : Str) ([] : Str)) (fun t1340 => (Option.bind (ferrymanlaw16_is_POOOO k x1235 (0 : Int) t1340 (0 : Int) false ([] : Str)) (fun t1343 => some ((!t1343.1), t1343.2)))))) (fun ⟨x1322, x1323⟩ => (Option.bind (α := Bool × model_Model) (if x1322 = true then some (true, x1323) else (Option.bind (ferrymanlaw16_on k (1 : Int) (0 : Int) ([] : Str) ([] : Str)) (fun t1428 => (Option.bind (ferrymanlaw16_is_POOOO k x1323 (0 : Int) t1428 (0 : Int) false ([] : Str)) (fun t1431 => some ((!t1431.1), t1431.2)))))) (fun ⟨x1410, x1411⟩ => (Option.bind (α := Bool × model_Model) (if x1410 = true then some (true, x1411) else (Option.bind (ferrymanlaw16_on k (3 : Int) (5 : Int) ([97] : Str) ([54] : Str)) (fun t1516 => (Option.bind (ferrymanlaw16_is_POOOO k x1411 (0 : Int) t1516 (34 : Int) false ([] : Str)) (fun t1519 => some ((!t1519.1), t1519.2)))))) (fun ⟨x1498, x1499⟩ => (Option.bind (α := Bool × model_Model) (if x1498 = true then some (true, x1499) else (Option.bind (ferrymanlaw16_on k (4 : Int) (5 : Int) ([97] : Str) ([] : Str)) (fun t1604 => (Option.bind (ferrymanlaw16_is_POOOO k x1499 (0 : Int) t1604 (34 : Int) false ([] : Str)) (fun t1607 => some ((!t1607.1), t1607.2)))))) (fun ⟨x1586, x1587⟩ => (if x1586 = true then some (false, x1587) else (Option.bind (ferrymanlaw16_on k (7 : Int) (3 : Int) ([] : Str) ([] : Str)) (fun t1630 => (Option.bind (ferrymanlaw16_is_POOOO k x1587 (0 : Int) t1630 (0 : Int) false ([] : Str)) (fun t1633 => (Option.bind (α := Bool × model_Model) (if (!t1633.1) = true then some (true, t1633.2) else (Option.bind (ferrymanlaw16_on k (8 : Int) (0 : Int) ([] : Str) ([] : Str)) (fun t1715 => (Option.bind (ferrymanlaw16_is_POOOO k t1633.2 (0 : Int) t1715 (0 : Int) false ([] : Str)) (fun t1718 => some ((!t1718.1), t1718.2)))))) (fun ⟨x1697, x1698⟩ => (Option.bind (α := Bool) (if x1697 = true then some (true) else (Option.bind (model_Model_Floor_POOOO k x1698) (fun t1753 => some ((t1753 != (2 : Int)))))) (fun x1751 => (Option.bind (α := Bool) (if x1751 = true then some (true) else (Option.bind (model_Model_Versions_POOOO k x1698 ([97] : Str)) (fun t1778 => some (((t1778.length : Int) != (1 : Int)))))) (fun x1776 => (Option.bind (α := Bool × model_Model) (if x1776 = true then some (true, x1698) else (Option.bind (ferrymanlaw16_on k (3 : Int) (5 : Int) ([97] : Str) ([54] : Str)) (fun t1850 => (Option.bind (ferrymanlaw16_is_POOOO k x1698 (0 : Int) t1850 (0 : Int) false ([] : Str)) (fun t1853 => some ((!t1853.1), t1853.2)))))) (fun ⟨x1832, x1833⟩ => (if x1832 = true then some (false, x1833) else (Option.bind (model_Model_Intent_POOOO k x1833 ([97] : Str)) (fun t1876 => (Option.bind (α := Bool) (if (t1876.2 && ((t1876.1.Writer == (5 : Int)) && ((t1876.1.TS == (0 : Int)) && ((t1876.1.Tomb == false) && (t1876.1.Value == ([54] : Str)))))) = true then (Option.bind (model_Model_Active_POOOO k x1833) (fun t1899 => some ((t1899 == (1 : Int))))) else some (false)) (fun x1897 => some (x1897, x1833)))))))))))))))))))))))))))))))))))))))))))))))))))))))))))))))))))))))))))))
set_option maxHeartbeats 2000000 in
theorem ferrymanlaw16_fulls_POOOO.mono {k : Nat} {a0 : model_Model} : OLe (ferrymanlaw16_fulls_POOOO k a0) (ferrymanlaw16_fulls_POOOO (k + 1) a0) := by
  unfold ferrymanlaw16_fulls_POOOO
  repeat' (first | with_reducible exact OLe.none | with_reducible exact OLe.some | with_reducible refine OLe.ite ?_ ?_ | with_reducible refine OLe.bind ?_ (fun _ => ?_) | with_reducible exact ferrymanlaw16_is_POOOO.mono | with_reducible exact ferrymanlaw16_on.mono | with_reducible exact model_Model_Active_POOOO.mono | with_reducible exact model_Model_Do_POOOO.mono | with_reducible exact model_Model_Floor_POOOO.mono | with_reducible exact model_Model_Intent_POOOO.mono | with_reducible exact model_Model_Retained_POOOO.mono | with_reducible exact model_Model_Versions_POOOO.mono | refine OLe.bind ?_ (fun _ => ?_) | refine OLe.ite ?_ ?_ | refine OLe.elim (fun _ => ?_) (fun _ => ?_) | split)
set_option maxHeartbeats 8000000 in
set_option maxRecDepth 100000 in
theorem ferrymanlaw16_fulls_POOOO.con (k : Nat) (M : Hp) (A0_8 : Option Addr) (c0_8 : Nat) (A0_9 : Option Addr) (c0_9 : Nat) (A0_10 : Option Addr) (c0_10 : Nat) (A0_11 : Option Addr) (c0_11 : Nat) (vs0_11 : List (Str × Value)) (a0 : model_Model) (bo0 : Nat) (r : Bool × model_Model) (hm0_11 : MRel r_model_row M a0.rows vs0_11) (hg0 : ∃ gt fr, M 0 = some (.cells #[.nilFunc, .func (.func 124) #[] #[], .func (.func 125) #[] #[], .func (.func 126) #[] #[], .func (.func 127) #[] #[], .func (.func 128) #[] #[], .func (.func 129) #[] #[], .func (.func 130) #[] #[], .func (.func 131) #[] #[], .func (.func 132) #[] #[]] gt fr)) (h : ferrymanlaw16_fulls_POOOO k a0 = some r) : Con Tryd.prog 33 #[.pointer (some ⟨bo0, 0, none⟩)] M [B94 bo0 a0 A0_8 A0_9 A0_10 c0_10 A0_11, MapC enc_model_name (Value.int .i64) A0_8 a0.names, MapC (Value.int .i64) (Value.int .i64) A0_9 a0.many, Row r_model_tx 99 (.slice A0_10 a0.txs.length c0_10) a0.txs, MapC encS (fun v : Value => v) A0_11 vs0_11] (fun v M' Γ' => ∃ (Aq1 : Option Addr) (cq2 : Nat) (Aq4 : Option Addr) (cq5 : Nat) (Aq7 : Option Addr) (cq8 : Nat) (Aq10 : Option Addr) (cq11 : Nat) (vsq13 : List (Str × Value)), v = .bool r.1 ∧ MRel r_model_row M' r.2.rows vsq13 ∧ Γ' = [B94 bo0 r.2 Aq1 Aq4 Aq7 cq8 Aq10, MapC enc_model_name (Value.int .i64) Aq1 r.2.names, MapC (Value.int .i64) (Value.int .i64) Aq4 r.2.many, Row r_model_tx 99 (.slice Aq7 r.2.txs.length cq8) r.2.txs, MapC encS (fun v : Value => v) Aq10 vsq13]) := by
  refine con_of_wp Tryd.func33 rfl Tryd.ntmps33 Tryd.results33 rfl ?_
  intro w F rn S hrn
  have E := Ext.refl w
  have HM := Hp.le_refl M
  have H := h
  unfold ferrymanlaw16_fulls_POOOO at H
  refine Wp_seq ?_
  refine Wp_region_lit ?_
  refine W_v (.bool false) (x_assign rfl) rfl ?_
  refine Wl_nil ?_
  refine tn ?_
  refine Wp_seq ?_
  refine Wp_seq ?_
  refine Wp_region_lit ?_
  refine W_v (.pointer (some ⟨bo0, 0, none⟩)) (x_move rfl) rfl ?_
  obtain ⟨t1, ht2, H⟩ := bindS H
  refine W_callF fn31 (ferrymanlaw16_on.con k M (3 : Int) (2 : Int) ([98] : Str) ([49] : Str) t1  ht2) S rfl rfl (by rintro _ _ _ ⟨_, rfl⟩; exact flat_nil) ?_
  rintro _ w3 _ Γ' E' S ⟨rfl, rfl⟩
  replace E := E.trans E'
  clear E'
  obtain ⟨t4, ht5, H⟩ := bindS H
  refine W_call fn32 (ferrymanlaw16_is_POOOO.con k M A0_8 c0_8 A0_9 c0_9 A0_10 c0_10 A0_11 c0_11 vs0_11 a0 (0 : Int) t1 (0 : Int) false ([] : Str) bo0 t4 hm0_11 hg0 ht5) (Γ1 := [_, _, _, _, _]) (Γ2 := []) S rfl rfl ?_
  rintro _ w20 M21 Γ' hM22 E' S ⟨A6, c7, A9, c10, A12, c13, A15, c16, vs18, rfl, hm19, rfl⟩
  replace hg0 : ∃ gt fr, _ := (let ⟨gt, fr, h8⟩ := hg0; ⟨gt, fr, hM22 _ _ h8⟩)
  replace HM := Hp.le_trans HM hM22
  replace hm0_11 := MRel.mono hm0_11 hM22
  replace E := E.trans E'
  clear E'
  replace S : St w20 M21 F [_, _, _, _, _] := S
  refine W_v (.bool (!t4.1)) (x_not (b := t4.1) rfl) rfl ?_
  refine W_v (.bool (!t4.1)) (x_move rfl) rfl ?_
  obtain ⟨o84, o84h, o84H⟩ := bindS H
  clear H
  refine Wl_cutN 5 (fun ρ w' => ∃ (x68 : Bool) (x69 : model_Model) (A70 : Option Addr) (c71 : Nat) (A73 : Option Addr) (c74 : Nat) (A76 : Option Addr) (c77 : Nat) (A79 : Option Addr) (c80 : Nat) (vs82 : List (Str × Value)) (Mj : Hp), (x68, x69) = o84 ∧ Agree ρ [(0, .pointer (some ⟨bo0, 0, none⟩)), (21, .bool x68)] ∧ M21.le Mj ∧ Ext w w' ∧ St w' Mj F [MapC encS (fun v : Value => v) A79 vs82, Row r_model_tx 99 (.slice A76 x69.txs.length c77) x69.txs, MapC (Value.int .i64) (Value.int .i64) A73 x69.many, MapC enc_model_name (Value.int .i64) A70 x69.names, B94 bo0 x69 A70 A73 A76 c77 A79] ∧ MRel r_model_row Mj x69.rows vs82) ?_ ?_
  · have H := o84h
    have LE85 := Hp.le_refl M21
    rcases iteS H with ⟨hb67, H⟩ | ⟨hb67, H⟩
    · skip
      refine W_no (skF hb67) rfl ?_
      refine W_no (skF hb67) rfl ?_
      refine W_no (skF hb67) rfl ?_
      refine W_no (skF hb67) rfl ?_
      refine W_v (.bool true) (x_pick (k := true) (congrArg Value.bool hb67) rfl) rfl ?_
      refine Wl_nil ?_
      exact ⟨true, t4.2, A6, c7, A9, c10, A12, c13, A15, c16, vs18, M21, Option.some.inj H, ⟨rfl, rfl, trivial⟩, (Hp.le_refl M21), E, S.pick [4, 3, 2, 1, 0] (by decide), hm19⟩
    · skip
      refine W_yes (congrArg some hb67) ?_
      refine W_v (.pointer (some ⟨bo0, 0, none⟩)) (x_move rfl) rfl ?_
      refine W_yes (congrArg some hb67) ?_
      obtain ⟨t86, ht87, H⟩ := bindS H
      refine W_callF fn31 (ferrymanlaw16_on.con k M21 (3 : Int) (2 : Int) ([97] : Str) ([50] : Str) t86  ht87) S rfl rfl (by rintro _ _ _ ⟨_, rfl⟩; exact flat_nil) ?_
      rintro _ w88 _ Γ' E' S ⟨rfl, rfl⟩
      replace E := E.trans E'
      clear E'
      refine W_yes (congrArg some hb67) ?_
      obtain ⟨t89, ht90, H⟩ := bindS H
      refine W_call fn32 (ferrymanlaw16_is_POOOO.con k M21 A6 c7 A9 c10 A12 c13 A15 c16 vs18 t4.2 (0 : Int) t86 (0 : Int) false ([] : Str) bo0 t89 hm19 hg0 ht90) (Γ1 := [_, _, _, _, _]) (Γ2 := []) S rfl rfl ?_
      rintro _ w105 M106 Γ' hM107 E' S ⟨A91, c92, A94, c95, A97, c98, A100, c101, vs103, rfl, hm104, rfl⟩
      replace hg0 : ∃ gt fr, _ := (let ⟨gt, fr, h8⟩ := hg0; ⟨gt, fr, hM107 _ _ h8⟩)
      replace HM := Hp.le_trans HM hM107
      replace LE85 := Hp.le_trans LE85 hM107
      replace hm0_11 := MRel.mono hm0_11 hM107
      replace hm19 := MRel.mono hm19 hM107
      replace E := E.trans E'
      clear E'
      replace S : St w105 M106 F [_, _, _, _, _] := S
      refine W_yes (congrArg some hb67) ?_
      refine W_v (.bool (!t89.1)) (x_not (b := t89.1) rfl) rfl ?_
      refine W_v (.bool (!t89.1)) (x_pick (k := false) (congrArg Value.bool hb67) rfl) rfl ?_
      refine Wl_nil ?_
      exact ⟨(!t89.1), t89.2, A91, c92, A94, c95, A97, c98, A100, c101, vs103, M106, Option.some.inj H, ⟨rfl, rfl, trivial⟩, LE85, E, S.pick [4, 3, 2, 1, 0] (by decide), hm104⟩
  as_aux_lemma =>
  clear o84h
  rintro ρ w108 ⟨x68, x69, A70, c71, A73, c74, A76, c77, A79, c80, vs82, M109, rfl, hρ, hM110, E, S, hm83⟩
  rw [agree_eta hρ]
  clear hρ
  replace hg0 : ∃ gt fr, _ := (let ⟨gt, fr, h8⟩ := hg0; ⟨gt, fr, hM110 _ _ h8⟩)
  replace HM := Hp.le_trans HM hM110
  replace hm0_11 := MRel.mono hm0_11 hM110
  replace hm19 := MRel.mono hm19 hM110
  have H := o84H
  clear o84H
  refine W_v (.bool x68) (x_move rfl) rfl ?_
  obtain ⟨o172, o172h, o172H⟩ := bindS H
  clear H
  refine Wl_cutN 5 (fun ρ w' => ∃ (x156 : Bool) (x157 : model_Model) (A158 : Option Addr) (c159 : Nat) (A161 : Option Addr) (c162 : Nat) (A164 : Option Addr) (c165 : Nat) (A167 : Option Addr) (c168 : Nat) (vs170 : List (Str × Value)) (Mj : Hp), (x156, x157) = o172 ∧ Agree ρ [(0, .pointer (some ⟨bo0, 0, none⟩)), (27, .bool x156)] ∧ M109.le Mj ∧ Ext w w' ∧ St w' Mj F [MapC encS (fun v : Value => v) A167 vs170, Row r_model_tx 99 (.slice A164 x157.txs.length c165) x157.txs, MapC (Value.int .i64) (Value.int .i64) A161 x157.many, MapC enc_model_name (Value.int .i64) A158 x157.names, B94 bo0 x157 A158 A161 A164 c165 A167] ∧ MRel r_model_row Mj x157.rows vs170) ?_ ?_
  · as_aux_lemma =>
      have H := o172h
      have LE173 := Hp.le_refl M109
      rcases iteS H with ⟨hb155, H⟩ | ⟨hb155, H⟩
      · skip
        refine W_no (skF hb155) rfl ?_
        refine W_no (skF hb155) rfl ?_
        refine W_no (skF hb155) rfl ?_
        refine W_no (skF hb155) rfl ?_
        refine W_v (.bool true) (x_pick (k := true) (congrArg Value.bool hb155) rfl) rfl ?_
        refine Wl_nil ?_
        exact ⟨true, x69, A70, c71, A73, c74, A76, c77, A79, c80, vs82, M109, Option.some.inj H, ⟨rfl, rfl, trivial⟩, (Hp.le_refl M109), E, S.pick [0, 1, 2, 3, 4] (by decide), hm83⟩
      · skip
        refine W_yes (congrArg some hb155) ?_
        refine W_v (.pointer (some ⟨bo0, 0, none⟩)) (x_move rfl) rfl ?_
        refine W_yes (congrArg some hb155) ?_
        obtain ⟨t174, ht175, H⟩ := bindS H
        refine W_callF fn31 (ferrymanlaw16_on.con k M109 (3 : Int) (2 : Int) ([99] : Str) ([51] : Str) t174  ht175) S rfl rfl (by rintro _ _ _ ⟨_, rfl⟩; exact flat_nil) ?_
        rintro _ w176 _ Γ' E' S ⟨rfl, rfl⟩
        replace E := E.trans E'
        clear E'
        refine W_yes (congrArg some hb155) ?_
        obtain ⟨t177, ht178, H⟩ := bindS H
        replace S : St w176 M109 F [_, _, _, _, _] := S.pick [4, 3, 2, 1, 0] (by decide)
        refine W_call fn32 (ferrymanlaw16_is_POOOO.con k M109 A70 c71 A73 c74 A76 c77 A79 c80 vs82 x69 (0 : Int) t174 (34 : Int) false ([] : Str) bo0 t177 hm83 hg0 ht178) (Γ1 := [_, _, _, _, _]) (Γ2 := []) S rfl rfl ?_
        rintro _ w193 M194 Γ' hM195 E' S ⟨A179, c180, A182, c183, A185, c186, A188, c189, vs191, rfl, hm192, rfl⟩
        replace hg0 : ∃ gt fr, _ := (let ⟨gt, fr, h8⟩ := hg0; ⟨gt, fr, hM195 _ _ h8⟩)
        replace HM := Hp.le_trans HM hM195
        replace hM110 := Hp.le_trans hM110 hM195
        replace LE173 := Hp.le_trans LE173 hM195
        replace hm0_11 := MRel.mono hm0_11 hM195
        replace hm19 := MRel.mono hm19 hM195
        replace hm83 := MRel.mono hm83 hM195
        replace E := E.trans E'
        clear E'
        replace S : St w193 M194 F [_, _, _, _, _] := S
        refine W_yes (congrArg some hb155) ?_
        refine W_v (.bool (!t177.1)) (x_not (b := t177.1) rfl) rfl ?_
        refine W_v (.bool (!t177.1)) (x_pick (k := false) (congrArg Value.bool hb155) rfl) rfl ?_
        refine Wl_nil ?_
        exact ⟨(!t177.1), t177.2, A179, c180, A182, c183, A185, c186, A188, c189, vs191, M194, Option.some.inj H, ⟨rfl, rfl, trivial⟩, LE173, E, S.pick [4, 3, 2, 1, 0] (by decide), hm192⟩
  as_aux_lemma =>
  clear o172h
  rintro ρ w196 ⟨x156, x157, A158, c159, A161, c162, A164, c165, A167, c168, vs170, M197, rfl, hρ, hM198, E, S, hm171⟩
  rw [agree_eta hρ]
  clear hρ
  replace hg0 : ∃ gt fr, _ := (let ⟨gt, fr, h8⟩ := hg0; ⟨gt, fr, hM198 _ _ h8⟩)
  replace HM := Hp.le_trans HM hM198
  replace hM110 := Hp.le_trans hM110 hM198
  replace hm0_11 := MRel.mono hm0_11 hM198
  replace hm19 := MRel.mono hm19 hM198
  replace hm83 := MRel.mono hm83 hM198
  have H := o172H
  clear o172H
  refine W_v (.bool x156) (x_move rfl) rfl ?_
  obtain ⟨o260, o260h, o260H⟩ := bindS H
  clear H
  refine Wl_cutN 5 (fun ρ w' => ∃ (x244 : Bool) (x245 : model_Model) (A246 : Option Addr) (c247 : Nat) (A249 : Option Addr) (c250 : Nat) (A252 : Option Addr) (c253 : Nat) (A255 : Option Addr) (c256 : Nat) (vs258 : List (Str × Value)) (Mj : Hp), (x244, x245) = o260 ∧ Agree ρ [(0, .pointer (some ⟨bo0, 0, none⟩)), (33, .bool x244)] ∧ M197.le Mj ∧ Ext w w' ∧ St w' Mj F [MapC encS (fun v : Value => v) A255 vs258, Row r_model_tx 99 (.slice A252 x245.txs.length c253) x245.txs, MapC (Value.int .i64) (Value.int .i64) A249 x245.many, MapC enc_model_name (Value.int .i64) A246 x245.names, B94 bo0 x245 A246 A249 A252 c253 A255] ∧ MRel r_model_row Mj x245.rows vs258) ?_ ?_
  · as_aux_lemma =>
      have H := o260h
      have LE261 := Hp.le_refl M197
      rcases iteS H with ⟨hb243, H⟩ | ⟨hb243, H⟩
      · skip
        refine W_no (skF hb243) rfl ?_
        refine W_no (skF hb243) rfl ?_
        refine W_no (skF hb243) rfl ?_
        refine W_no (skF hb243) rfl ?_
        refine W_v (.bool true) (x_pick (k := true) (congrArg Value.bool hb243) rfl) rfl ?_
        refine Wl_nil ?_
        exact ⟨true, x157, A158, c159, A161, c162, A164, c165, A167, c168, vs170, M197, Option.some.inj H, ⟨rfl, rfl, trivial⟩, (Hp.le_refl M197), E, S.pick [0, 1, 2, 3, 4] (by decide), hm171⟩
      · skip
        refine W_yes (congrArg some hb243) ?_
        refine W_v (.pointer (some ⟨bo0, 0, none⟩)) (x_move rfl) rfl ?_
        refine W_yes (congrArg some hb243) ?_
        obtain ⟨t262, ht263, H⟩ := bindS H
        refine W_callF fn31 (ferrymanlaw16_on.con k M197 (3 : Int) (2 : Int) ([97] : Str) ([52] : Str) t262  ht263) S rfl rfl (by rintro _ _ _ ⟨_, rfl⟩; exact flat_nil) ?_
        rintro _ w264 _ Γ' E' S ⟨rfl, rfl⟩
        replace E := E.trans E'
        clear E'
        refine W_yes (congrArg some hb243) ?_
        obtain ⟨t265, ht266, H⟩ := bindS H
        replace S : St w264 M197 F [_, _, _, _, _] := S.pick [4, 3, 2, 1, 0] (by decide)
        refine W_call fn32 (ferrymanlaw16_is_POOOO.con k M197 A158 c159 A161 c162 A164 c165 A167 c168 vs170 x157 (0 : Int) t262 (0 : Int) false ([] : Str) bo0 t265 hm171 hg0 ht266) (Γ1 := [_, _, _, _, _]) (Γ2 := []) S rfl rfl ?_
        rintro _ w281 M282 Γ' hM283 E' S ⟨A267, c268, A270, c271, A273, c274, A276, c277, vs279, rfl, hm280, rfl⟩
        replace hg0 : ∃ gt fr, _ := (let ⟨gt, fr, h8⟩ := hg0; ⟨gt, fr, hM283 _ _ h8⟩)
        replace HM := Hp.le_trans HM hM283
        replace hM110 := Hp.le_trans hM110 hM283
        replace hM198 := Hp.le_trans hM198 hM283
        replace LE261 := Hp.le_trans LE261 hM283
        replace hm0_11 := MRel.mono hm0_11 hM283
        replace hm19 := MRel.mono hm19 hM283
        replace hm83 := MRel.mono hm83 hM283
        replace hm171 := MRel.mono hm171 hM283
        replace E := E.trans E'
        clear E'
        replace S : St w281 M282 F [_, _, _, _, _] := S
        refine W_yes (congrArg some hb243) ?_
        refine W_v (.bool (!t265.1)) (x_not (b := t265.1) rfl) rfl ?_
        refine W_v (.bool (!t265.1)) (x_pick (k := false) (congrArg Value.bool hb243) rfl) rfl ?_
        refine Wl_nil ?_
        exact ⟨(!t265.1), t265.2, A267, c268, A270, c271, A273, c274, A276, c277, vs279, M282, Option.some.inj H, ⟨rfl, rfl, trivial⟩, LE261, E, S.pick [4, 3, 2, 1, 0] (by decide), hm280⟩
  as_aux_lemma =>
  clear o260h
  rintro ρ w284 ⟨x244, x245, A246, c247, A249, c250, A252, c253, A255, c256, vs258, M285, rfl, hρ, hM286, E, S, hm259⟩
  rw [agree_eta hρ]
  clear hρ
  replace hg0 : ∃ gt fr, _ := (let ⟨gt, fr, h8⟩ := hg0; ⟨gt, fr, hM286 _ _ h8⟩)
  replace HM := Hp.le_trans HM hM286
  replace hM110 := Hp.le_trans hM110 hM286
  replace hM198 := Hp.le_trans hM198 hM286
  replace hm0_11 := MRel.mono hm0_11 hM286
  replace hm19 := MRel.mono hm19 hM286
  replace hm83 := MRel.mono hm83 hM286
  replace hm171 := MRel.mono hm171 hM286
  have H := o260H
  clear o260H
  refine W_v (.bool x244) (x_move rfl) rfl ?_
  obtain ⟨o299, o299h, o299H⟩ := bindS H
  clear H
  refine Wl_cutN 4 (fun ρ w' => ∃ (x298 : Bool), (x298) = o299 ∧ Agree ρ [(0, .pointer (some ⟨bo0, 0, none⟩)), (38, .bool x298)] ∧ Ext w w' ∧ St w' M285 F [MapC encS (fun v : Value => v) A255 vs258, Row r_model_tx 99 (.slice A252 x245.txs.length c253) x245.txs, MapC (Value.int .i64) (Value.int .i64) A249 x245.many, MapC enc_model_name (Value.int .i64) A246 x245.names, B94 bo0 x245 A246 A249 A252 c253 A255]) ?_ ?_
  · have H := o299h
    rcases iteS H with ⟨hb297, H⟩ | ⟨hb297, H⟩
    · skip
      refine W_no (skF hb297) rfl ?_
      refine W_no (skF hb297) rfl ?_
      refine W_no (skF hb297) rfl ?_
      refine W_v (.bool true) (x_pick (k := true) (congrArg Value.bool hb297) rfl) rfl ?_
      refine Wl_nil ?_
      exact ⟨true, Option.some.inj H, ⟨rfl, rfl, trivial⟩, E, S.pick [0, 1, 2, 3, 4] (by decide)⟩
    · skip
      refine W_yes (congrArg some hb297) ?_
      refine W_v (.pointer (some ⟨bo0, 0, none⟩)) (x_move rfl) rfl ?_
      refine W_yes (congrArg some hb297) ?_
      obtain ⟨t300, ht301, H⟩ := bindS H
      replace S : St w284 M285 F [_, _, _, _, _] := S.pick [4, 3, 2, 1, 0] (by decide)
      refine W_callF2 fn22 (model_Model_Retained_POOOO.con k M285 A246 c247 A249 c250 A252 c253 A255 c256 vs258 x245 bo0 t300 hm259 ht301) (Γ1 := [_, _, _, _, _]) (Γ2 := []) S rfl rfl (by rintro _ _ _ ⟨rfl, rfl⟩; exact (flat_cons flat_blk (flat_cons flat_map (flat_cons flat_map (flat_cons (flat_row (fun _ _ _ _ h => h)) (flat_cons flat_map flat_nil)))))) ?_
      rintro _ w302 _ Γ' E' S ⟨rfl, rfl⟩
      replace E := E.trans E'
      clear E'
      replace S : St w302 M285 F [_, _, _, _, _] := S
      refine W_yes (congrArg some hb297) ?_
      refine W_v (.bool (t300 != (2 : Int))) (x_ibin rfl rfl rfl rfl) rfl ?_
      refine W_v (.bool (t300 != (2 : Int))) (x_pick (k := false) (congrArg Value.bool hb297) rfl) rfl ?_
      refine Wl_nil ?_
      exact ⟨(t300 != (2 : Int)), Option.some.inj H, ⟨rfl, rfl, trivial⟩, E, S.pick [4, 3, 2, 1, 0] (by decide)⟩
  as_aux_lemma =>
  clear o299h
  rintro ρ w305 ⟨x298, rfl, hρ, E, S⟩
  rw [agree_eta hρ]
  clear hρ
  have H := o299H
  clear o299H
  refine W_v (.bool x298) (x_move rfl) rfl ?_
  obtain ⟨o367, o367h, o367H⟩ := bindS H
  clear H
  refine Wl_cutN 5 (fun ρ w' => ∃ (x351 : Bool) (x352 : model_Model) (A353 : Option Addr) (c354 : Nat) (A356 : Option Addr) (c357 : Nat) (A359 : Option Addr) (c360 : Nat) (A362 : Option Addr) (c363 : Nat) (vs365 : List (Str × Value)) (Mj : Hp), (x351, x352) = o367 ∧ Agree ρ [(0, .pointer (some ⟨bo0, 0, none⟩)), (44, .bool x351)] ∧ M285.le Mj ∧ Ext w w' ∧ St w' Mj F [MapC encS (fun v : Value => v) A362 vs365, Row r_model_tx 99 (.slice A359 x352.txs.length c360) x352.txs, MapC (Value.int .i64) (Value.int .i64) A356 x352.many, MapC enc_model_name (Value.int .i64) A353 x352.names, B94 bo0 x352 A353 A356 A359 c360 A362] ∧ MRel r_model_row Mj x352.rows vs365) ?_ ?_
  · as_aux_lemma =>
      have H := o367h
      have LE368 := Hp.le_refl M285
      rcases iteS H with ⟨hb350, H⟩ | ⟨hb350, H⟩
      · skip
        refine W_no (skF hb350) rfl ?_
        refine W_no (skF hb350) rfl ?_
        refine W_no (skF hb350) rfl ?_
        refine W_no (skF hb350) rfl ?_
        refine W_v (.bool true) (x_pick (k := true) (congrArg Value.bool hb350) rfl) rfl ?_
        refine Wl_nil ?_
        exact ⟨true, x245, A246, c247, A249, c250, A252, c253, A255, c256, vs258, M285, Option.some.inj H, ⟨rfl, rfl, trivial⟩, (Hp.le_refl M285), E, S.pick [0, 1, 2, 3, 4] (by decide), hm259⟩
      · skip
        refine W_yes (congrArg some hb350) ?_
        refine W_v (.pointer (some ⟨bo0, 0, none⟩)) (x_move rfl) rfl ?_
        refine W_yes (congrArg some hb350) ?_
        obtain ⟨t369, ht370, H⟩ := bindS H
        refine W_callF fn31 (ferrymanlaw16_on.con k M285 (4 : Int) (2 : Int) ([122, 122] : Str) ([] : Str) t369  ht370) S rfl rfl (by rintro _ _ _ ⟨_, rfl⟩; exact flat_nil) ?_
        rintro _ w371 _ Γ' E' S ⟨rfl, rfl⟩
        replace E := E.trans E'
        clear E'
        refine W_yes (congrArg some hb350) ?_
        obtain ⟨t372, ht373, H⟩ := bindS H
        replace S : St w371 M285 F [_, _, _, _, _] := S.pick [4, 3, 2, 1, 0] (by decide)
        refine W_call fn32 (ferrymanlaw16_is_POOOO.con k M285 A246 c247 A249 c250 A252 c253 A255 c256 vs258 x245 (0 : Int) t369 (0 : Int) false ([] : Str) bo0 t372 hm259 hg0 ht373) (Γ1 := [_, _, _, _, _]) (Γ2 := []) S rfl rfl ?_
        rintro _ w388 M389 Γ' hM390 E' S ⟨A374, c375, A377, c378, A380, c381, A383, c384, vs386, rfl, hm387, rfl⟩
        replace hg0 : ∃ gt fr, _ := (let ⟨gt, fr, h8⟩ := hg0; ⟨gt, fr, hM390 _ _ h8⟩)
        replace HM := Hp.le_trans HM hM390
        replace hM110 := Hp.le_trans hM110 hM390
        replace hM198 := Hp.le_trans hM198 hM390
        replace hM286 := Hp.le_trans hM286 hM390
        replace LE368 := Hp.le_trans LE368 hM390
        replace hm0_11 := MRel.mono hm0_11 hM390
        replace hm19 := MRel.mono hm19 hM390
        replace hm83 := MRel.mono hm83 hM390
        replace hm171 := MRel.mono hm171 hM390
        replace hm259 := MRel.mono hm259 hM390
        replace E := E.trans E'
        clear E'
        replace S : St w388 M389 F [_, _, _, _, _] := S
        refine W_yes (congrArg some hb350) ?_
        refine W_v (.bool (!t372.1)) (x_not (b := t372.1) rfl) rfl ?_
        refine W_v (.bool (!t372.1)) (x_pick (k := false) (congrArg Value.bool hb350) rfl) rfl ?_
        refine Wl_nil ?_
        exact ⟨(!t372.1), t372.2, A374, c375, A377, c378, A380, c381, A383, c384, vs386, M389, Option.some.inj H, ⟨rfl, rfl, trivial⟩, LE368, E, S.pick [4, 3, 2, 1, 0] (by decide), hm387⟩
  as_aux_lemma =>
  clear o367h
  rintro ρ w391 ⟨x351, x352, A353, c354, A356, c357, A359, c360, A362, c363, vs365, M392, rfl, hρ, hM393, E, S, hm366⟩
  rw [agree_eta hρ]
  clear hρ
  replace hg0 : ∃ gt fr, _ := (let ⟨gt, fr, h8⟩ := hg0; ⟨gt, fr, hM393 _ _ h8⟩)
  replace HM := Hp.le_trans HM hM393
  replace hM110 := Hp.le_trans hM110 hM393
  replace hM198 := Hp.le_trans hM198 hM393
  replace hM286 := Hp.le_trans hM286 hM393
  replace hm0_11 := MRel.mono hm0_11 hM393
  replace hm19 := MRel.mono hm19 hM393
  replace hm83 := MRel.mono hm83 hM393
  replace hm171 := MRel.mono hm171 hM393
  replace hm259 := MRel.mono hm259 hM393
  have H := o367H
  clear o367H
  refine Wl_nil ?_
  refine tn ?_
  rcases iteS H with ⟨hb394, H⟩ | ⟨hb394, H⟩
  · refine Wp_cond_true (congrArg Value.bool hb394) ?_
    refine Wp_seq ?_
    refine Wp_region_lit ?_
    refine W_v (.bool false) (x_assign rfl) rfl ?_
    refine Wl_nil ?_
    refine tn ?_
    refine Wp_ret ?_
    refine tr (?_)
    obtain rfl := Option.some.inj H
    exact ⟨_, _, _, fun w1 e1 => run_resR (vs := [.bool false]) (FA.cons (rfl) (FA.nil)), HM, E, S.pick [4, 3, 2, 1, 0] (by decide), ⟨A353, c354, A356, c357, A359, c360, A362, c363, vs365, rfl, hm366, rfl⟩⟩
  refine Wp_cond_false (congrArg Value.bool hb394) ?_
  refine Wp_skip ?_
  refine tn ?_
  refine Wp_seq ?_
  refine Wp_region_lit ?_
  refine W_v (.pointer (some ⟨bo0, 0, none⟩)) (x_move rfl) rfl ?_
  refine W_v (.agg #[.int .u8 5, .int .i64 2, .string (bs ([] : Str)), .string (bs ([] : Str)), .string (bs ([] : Str)), .int .i64 9, .int .u8 0]) (x_build2 (pl := [(0, 1), (1, 1), (2, 1), (3, 1), (4, 1), (5, 1), (6, 1)]) #[.int .u8 5, .int .i64 2, .string (bs ([] : Str)), .string (bs ([] : Str)), .string (bs ([] : Str)), .int .i64 9, .int .u8 0] Tryd.underlying37 ty37 (by as_aux_lemma => kernel_rfl) rfl (by as_aux_lemma => kernel_rfl)) rfl ?_
  obtain ⟨t395, ht396, H⟩ := bindS H
  replace S : St w391 M392 F [_, _, _, _, _] := S.pick [4, 3, 2, 1, 0] (by decide)
  refine W_call fn15 (model_Model_Do_POOOO.con k M392 A353 c354 A356 c357 A359 c360 A362 c363 vs365 x352 (0 : Int) (⟨(5 : Int), (2 : Int), ([] : Str), ([] : Str), ([] : Str), (9 : Int), (0 : Int)⟩ : api_Call) bo0 t395 hm366 hg0 ht396) (Γ1 := [_, _, _, _, _]) (Γ2 := []) S rfl rfl ?_
  rintro _ w414 M415 Γ' hM416 E' S ⟨A397, c398, A400, c401, A403, c404, A406, c407, A409, c410, vs412, rfl, hm413, rfl⟩
  replace hg0 : ∃ gt fr, _ := (let ⟨gt, fr, h8⟩ := hg0; ⟨gt, fr, hM416 _ _ h8⟩)
  replace HM := Hp.le_trans HM hM416
  replace hM110 := Hp.le_trans hM110 hM416
  replace hM198 := Hp.le_trans hM198 hM416
  replace hM286 := Hp.le_trans hM286 hM416
  replace hM393 := Hp.le_trans hM393 hM416
  replace hm0_11 := MRel.mono hm0_11 hM416
  replace hm19 := MRel.mono hm19 hM416
  replace hm83 := MRel.mono hm83 hM416
  replace hm171 := MRel.mono hm171 hM416
  replace hm259 := MRel.mono hm259 hM416
  replace hm366 := MRel.mono hm366 hM416
  replace E := E.trans E'
  clear E'
  replace S : St w414 M415 F [_, _, _, _, _, _] := S
  refine W_alloc S #[.int .i64 0, .bool false, .string (bs ([] : Str)), .slice none 0 0] ty43 rfl rfl ?_
  intro b417 w418 E' S
  replace E := E.trans E'
  clear E'
  refine W_store S 0 rfl ty43 rfl rfl [.int .i64 t395.1.Err, .bool t395.1.Found, .string (bs t395.1.Value), .slice A397 t395.1.Pairs.length c398] rfl rfl rfl #[.int .i64 t395.1.Err, .bool t395.1.Found, .string (bs t395.1.Value), .slice A397 t395.1.Pairs.length c398] rfl rfl ?_
  intro w420 E' S
  replace E := E.trans E'
  clear E'
  refine Wl_nil ?_
  refine tn ?_
  as_aux_lemma =>
  refine Wp_seq ?_
  refine Wp_region_lit ?_
  refine W_v (.pointer (some ⟨bo0, 0, none⟩)) (x_move rfl) rfl ?_
  refine W_v (.agg #[.int .u8 5, .int .i64 2, .string (bs ([97] : Str)), .string (bs ([98] : Str)), .string (bs ([] : Str)), .int .i64 9, .int .u8 0]) (x_build2 (pl := [(0, 1), (1, 1), (2, 1), (3, 1), (4, 1), (5, 1), (6, 1)]) #[.int .u8 5, .int .i64 2, .string (bs ([97] : Str)), .string (bs ([98] : Str)), .string (bs ([] : Str)), .int .i64 9, .int .u8 0] Tryd.underlying37 ty37 (by as_aux_lemma => kernel_rfl) rfl (by as_aux_lemma => kernel_rfl)) rfl ?_
  obtain ⟨t421, ht422, H⟩ := bindS H
  replace S : St w420 M415 F [_, _, _, _, _, _, _] := S.pick [2, 3, 4, 5, 6, 0, 1] (by decide)
  refine W_call fn15 (model_Model_Do_POOOO.con k M415 A400 c401 A403 c404 A406 c407 A409 c410 vs412 t395.2 (0 : Int) (⟨(5 : Int), (2 : Int), ([97] : Str), ([98] : Str), ([] : Str), (9 : Int), (0 : Int)⟩ : api_Call) bo0 t421 hm413 hg0 ht422) (Γ1 := [_, _, _, _, _]) (Γ2 := [_, _]) S rfl rfl ?_
  rintro _ w440 M441 Γ' hM442 E' S ⟨A423, c424, A426, c427, A429, c430, A432, c433, A435, c436, vs438, rfl, hm439, rfl⟩
  replace hg0 : ∃ gt fr, _ := (let ⟨gt, fr, h8⟩ := hg0; ⟨gt, fr, hM442 _ _ h8⟩)
  replace HM := Hp.le_trans HM hM442
  replace hM110 := Hp.le_trans hM110 hM442
  replace hM198 := Hp.le_trans hM198 hM442
  replace hM286 := Hp.le_trans hM286 hM442
  replace hM393 := Hp.le_trans hM393 hM442
  replace hm0_11 := MRel.mono hm0_11 hM442
  replace hm19 := MRel.mono hm19 hM442
  replace hm83 := MRel.mono hm83 hM442
  replace hm171 := MRel.mono hm171 hM442
  replace hm259 := MRel.mono hm259 hM442
  replace hm366 := MRel.mono hm366 hM442
  replace hm413 := MRel.mono hm413 hM442
  replace E := E.trans E'
  clear E'
  replace S : St w440 M441 F [_, _, _, _, _, _, _, _] := S
  refine W_alloc S #[.int .i64 0, .bool false, .string (bs ([] : Str)), .slice none 0 0] ty43 rfl rfl ?_
  intro b443 w444 E' S
  replace E := E.trans E'
  clear E'
  refine W_store S 0 rfl ty43 rfl rfl [.int .i64 t421.1.Err, .bool t421.1.Found, .string (bs t421.1.Value), .slice A423 t421.1.Pairs.length c424] rfl rfl rfl #[.int .i64 t421.1.Err, .bool t421.1.Found, .string (bs t421.1.Value), .slice A423 t421.1.Pairs.length c424] rfl rfl ?_
  intro w446 E' S
  replace E := E.trans E'
  clear E'
  refine Wl_nil ?_
  refine tn ?_
  refine Wp_seq ?_
  refine Wp_region_lit ?_
  refine W_v (.pointer (some ⟨bo0, 0, none⟩)) (x_move rfl) rfl ?_
  refine W_v (.agg #[.int .u8 5, .int .i64 2, .string (bs ([97, 97] : Str)), .string (bs ([] : Str)), .string (bs ([] : Str)), .int .i64 9, .int .u8 0]) (x_build2 (pl := [(0, 1), (1, 1), (2, 1), (3, 1), (4, 1), (5, 1), (6, 1)]) #[.int .u8 5, .int .i64 2, .string (bs ([97, 97] : Str)), .string (bs ([] : Str)), .string (bs ([] : Str)), .int .i64 9, .int .u8 0] Tryd.underlying37 ty37 (by as_aux_lemma => kernel_rfl) rfl (by as_aux_lemma => kernel_rfl)) rfl ?_
  obtain ⟨t447, ht448, H⟩ := bindS H
  replace S : St w446 M441 F [_, _, _, _, _, _, _, _, _] := S.pick [2, 3, 4, 5, 6, 0, 1, 7, 8] (by decide)
  refine W_call fn15 (model_Model_Do_POOOO.con k M441 A426 c427 A429 c430 A432 c433 A435 c436 vs438 t421.2 (0 : Int) (⟨(5 : Int), (2 : Int), ([97, 97] : Str), ([] : Str), ([] : Str), (9 : Int), (0 : Int)⟩ : api_Call) bo0 t447 hm439 hg0 ht448) (Γ1 := [_, _, _, _, _]) (Γ2 := [_, _, _, _]) S rfl rfl ?_
  rintro _ w466 M467 Γ' hM468 E' S ⟨A449, c450, A452, c453, A455, c456, A458, c459, A461, c462, vs464, rfl, hm465, rfl⟩
  replace hg0 : ∃ gt fr, _ := (let ⟨gt, fr, h8⟩ := hg0; ⟨gt, fr, hM468 _ _ h8⟩)
  replace HM := Hp.le_trans HM hM468
  replace hM110 := Hp.le_trans hM110 hM468
  replace hM198 := Hp.le_trans hM198 hM468
  replace hM286 := Hp.le_trans hM286 hM468
  replace hM393 := Hp.le_trans hM393 hM468
  replace hm0_11 := MRel.mono hm0_11 hM468
  replace hm19 := MRel.mono hm19 hM468
  replace hm83 := MRel.mono hm83 hM468
  replace hm171 := MRel.mono hm171 hM468
  replace hm259 := MRel.mono hm259 hM468
  replace hm366 := MRel.mono hm366 hM468
  replace hm413 := MRel.mono hm413 hM468
  replace hm439 := MRel.mono hm439 hM468
  replace E := E.trans E'
  clear E'
  replace S : St w466 M467 F [_, _, _, _, _, _, _, _, _, _] := S
  refine W_alloc S #[.int .i64 0, .bool false, .string (bs ([] : Str)), .slice none 0 0] ty43 rfl rfl ?_
  intro b469 w470 E' S
  replace E := E.trans E'
  clear E'
  refine W_store S 0 rfl ty43 rfl rfl [.int .i64 t447.1.Err, .bool t447.1.Found, .string (bs t447.1.Value), .slice A449 t447.1.Pairs.length c450] rfl rfl rfl #[.int .i64 t447.1.Err, .bool t447.1.Found, .string (bs t447.1.Value), .slice A449 t447.1.Pairs.length c450] rfl rfl ?_
  intro w472 E' S
  replace E := E.trans E'
  clear E'
  refine Wl_nil ?_
  refine tn ?_
  as_aux_lemma =>
  refine Wp_seq ?_
  refine Wp_region_lit ?_
  refine W_v (.pointer (some ⟨bo0, 0, none⟩)) (x_move rfl) rfl ?_
  refine W_v (.agg #[.int .u8 5, .int .i64 2, .string (bs ([] : Str)), .string (bs ([] : Str)), .string (bs ([] : Str)), .int .i64 1, .int .u8 0]) (x_build2 (pl := [(0, 1), (1, 1), (2, 1), (3, 1), (4, 1), (5, 1), (6, 1)]) #[.int .u8 5, .int .i64 2, .string (bs ([] : Str)), .string (bs ([] : Str)), .string (bs ([] : Str)), .int .i64 1, .int .u8 0] Tryd.underlying37 ty37 (by as_aux_lemma => kernel_rfl) rfl (by as_aux_lemma => kernel_rfl)) rfl ?_
  obtain ⟨t473, ht474, H⟩ := bindS H
  replace S : St w472 M467 F [_, _, _, _, _, _, _, _, _, _, _] := S.pick [2, 3, 4, 5, 6, 0, 1, 7, 8, 9, 10] (by decide)
  refine W_call fn15 (model_Model_Do_POOOO.con k M467 A452 c453 A455 c456 A458 c459 A461 c462 vs464 t447.2 (0 : Int) (⟨(5 : Int), (2 : Int), ([] : Str), ([] : Str), ([] : Str), (1 : Int), (0 : Int)⟩ : api_Call) bo0 t473 hm465 hg0 ht474) (Γ1 := [_, _, _, _, _]) (Γ2 := [_, _, _, _, _, _]) S rfl rfl ?_
  rintro _ w492 M493 Γ' hM494 E' S ⟨A475, c476, A478, c479, A481, c482, A484, c485, A487, c488, vs490, rfl, hm491, rfl⟩
  replace hg0 : ∃ gt fr, _ := (let ⟨gt, fr, h8⟩ := hg0; ⟨gt, fr, hM494 _ _ h8⟩)
  replace HM := Hp.le_trans HM hM494
  replace hM110 := Hp.le_trans hM110 hM494
  replace hM198 := Hp.le_trans hM198 hM494
  replace hM286 := Hp.le_trans hM286 hM494
  replace hM393 := Hp.le_trans hM393 hM494
  replace hm0_11 := MRel.mono hm0_11 hM494
  replace hm19 := MRel.mono hm19 hM494
  replace hm83 := MRel.mono hm83 hM494
  replace hm171 := MRel.mono hm171 hM494
  replace hm259 := MRel.mono hm259 hM494
  replace hm366 := MRel.mono hm366 hM494
  replace hm413 := MRel.mono hm413 hM494
  replace hm439 := MRel.mono hm439 hM494
  replace hm465 := MRel.mono hm465 hM494
  replace E := E.trans E'
  clear E'
  replace S : St w492 M493 F [_, _, _, _, _, _, _, _, _, _, _, _] := S
  refine W_alloc S #[.int .i64 0, .bool false, .string (bs ([] : Str)), .slice none 0 0] ty43 rfl rfl ?_
  intro b495 w496 E' S
  replace E := E.trans E'
  clear E'
  refine W_store S 0 rfl ty43 rfl rfl [.int .i64 t473.1.Err, .bool t473.1.Found, .string (bs t473.1.Value), .slice A475 t473.1.Pairs.length c476] rfl rfl rfl #[.int .i64 t473.1.Err, .bool t473.1.Found, .string (bs t473.1.Value), .slice A475 t473.1.Pairs.length c476] rfl rfl ?_
  intro w498 E' S
  replace E := E.trans E'
  clear E'
  refine Wl_nil ?_
  refine tn ?_
  refine Wp_seq ?_
  refine Wp_region_lit ?_
  refine W_v (.pointer (some ⟨bo0, 0, none⟩)) (x_move rfl) rfl ?_
  refine W_v (.agg #[.int .u8 5, .int .i64 2, .string (bs ([98] : Str)), .string (bs ([97] : Str)), .string (bs ([] : Str)), .int .i64 9, .int .u8 0]) (x_build2 (pl := [(0, 1), (1, 1), (2, 1), (3, 1), (4, 1), (5, 1), (6, 1)]) #[.int .u8 5, .int .i64 2, .string (bs ([98] : Str)), .string (bs ([97] : Str)), .string (bs ([] : Str)), .int .i64 9, .int .u8 0] Tryd.underlying37 ty37 (by as_aux_lemma => kernel_rfl) rfl (by as_aux_lemma => kernel_rfl)) rfl ?_
  obtain ⟨t499, ht500, H⟩ := bindS H
  replace S : St w498 M493 F [_, _, _, _, _, _, _, _, _, _, _, _, _] := S.pick [2, 3, 4, 5, 6, 0, 1, 7, 8, 9, 10, 11, 12] (by decide)
  refine W_call fn15 (model_Model_Do_POOOO.con k M493 A478 c479 A481 c482 A484 c485 A487 c488 vs490 t473.2 (0 : Int) (⟨(5 : Int), (2 : Int), ([98] : Str), ([97] : Str), ([] : Str), (9 : Int), (0 : Int)⟩ : api_Call) bo0 t499 hm491 hg0 ht500) (Γ1 := [_, _, _, _, _]) (Γ2 := [_, _, _, _, _, _, _, _]) S rfl rfl ?_
  rintro _ w518 M519 Γ' hM520 E' S ⟨A501, c502, A504, c505, A507, c508, A510, c511, A513, c514, vs516, rfl, hm517, rfl⟩
  replace hg0 : ∃ gt fr, _ := (let ⟨gt, fr, h8⟩ := hg0; ⟨gt, fr, hM520 _ _ h8⟩)
  replace HM := Hp.le_trans HM hM520
  replace hM110 := Hp.le_trans hM110 hM520
  replace hM198 := Hp.le_trans hM198 hM520
  replace hM286 := Hp.le_trans hM286 hM520
  replace hM393 := Hp.le_trans hM393 hM520
  replace hm0_11 := MRel.mono hm0_11 hM520
  replace hm19 := MRel.mono hm19 hM520
  replace hm83 := MRel.mono hm83 hM520
  replace hm171 := MRel.mono hm171 hM520
  replace hm259 := MRel.mono hm259 hM520
  replace hm366 := MRel.mono hm366 hM520
  replace hm413 := MRel.mono hm413 hM520
  replace hm439 := MRel.mono hm439 hM520
  replace hm465 := MRel.mono hm465 hM520
  replace hm491 := MRel.mono hm491 hM520
  replace E := E.trans E'
  clear E'
  replace S : St w518 M519 F [_, _, _, _, _, _, _, _, _, _, _, _, _, _] := S
  refine W_alloc S #[.int .i64 0, .bool false, .string (bs ([] : Str)), .slice none 0 0] ty43 rfl rfl ?_
  intro b521 w522 E' S
  replace E := E.trans E'
  clear E'
  refine W_store S 0 rfl ty43 rfl rfl [.int .i64 t499.1.Err, .bool t499.1.Found, .string (bs t499.1.Value), .slice A501 t499.1.Pairs.length c502] rfl rfl rfl #[.int .i64 t499.1.Err, .bool t499.1.Found, .string (bs t499.1.Value), .slice A501 t499.1.Pairs.length c502] rfl rfl ?_
  intro w524 E' S
  replace E := E.trans E'
  clear E'
  refine Wl_nil ?_
  refine tn ?_
  as_aux_lemma =>
  refine Wp_seq ?_
  refine Wp_region_lit ?_
  refine W_v (.agg #[.string (bs ([97] : Str)), .string (bs ([52] : Str))]) (x_build2 (pl := [(0, 1), (1, 1)]) #[.string (bs ([97] : Str)), .string (bs ([52] : Str))] Tryd.underlying87 ty87 (by as_aux_lemma => kernel_rfl) rfl (by as_aux_lemma => kernel_rfl)) rfl ?_
  refine W_v (.agg #[.string (bs ([98] : Str)), .string (bs ([49] : Str))]) (x_build2 (pl := [(0, 1), (1, 1)]) #[.string (bs ([98] : Str)), .string (bs ([49] : Str))] Tryd.underlying87 ty87 (by as_aux_lemma => kernel_rfl) rfl (by as_aux_lemma => kernel_rfl)) rfl ?_
  refine W_alloc S #[.string (bs ([] : Str)), .string (bs ([] : Str))] ty87 rfl rfl ?_
  intro b525 w526 E' S
  replace E := E.trans E'
  clear E'
  refine W_alloc S #[.string (bs ([] : Str)), .string (bs ([] : Str))] ty87 rfl rfl ?_
  intro b528 w529 E' S
  replace E := E.trans E'
  clear E'
  refine W_store S 1 rfl ty87 rfl rfl [.string (bs ([97] : Str)), .string (bs ([52] : Str))] rfl rfl rfl #[.string (bs ([97] : Str)), .string (bs ([52] : Str))] rfl rfl ?_
  intro w531 E' S
  replace E := E.trans E'
  clear E'
  refine W_store S 0 rfl ty87 rfl rfl [.string (bs ([98] : Str)), .string (bs ([49] : Str))] rfl rfl rfl #[.string (bs ([98] : Str)), .string (bs ([49] : Str))] rfl rfl ?_
  intro w532 E' S
  replace E := E.trans E'
  clear E'
  refine Wl_nil ?_
  refine tn ?_
  refine Wp_seq ?_
  refine Wp_seq ?_
  have LE804 := Hp.le_refl M519
  refine Wp_region_any (S := fun w' => ∃ Mx, M519.le Mx ∧ St w' Mx F [Blk b528 (.cells #[.string (bs ([98] : Str)), .string (bs ([49] : Str))] 87 (0, 0)), Blk b525 (.cells #[.string (bs ([97] : Str)), .string (bs ([52] : Str))] 87 (0, 0)), B43 b521 t499.1 A501 c502, Row r_api_Pair 87 (.slice A501 t499.1.Pairs.length c502) t499.1.Pairs, B43 b495 t473.1 A475 c476, Row r_api_Pair 87 (.slice A475 t473.1.Pairs.length c476) t473.1.Pairs, B43 b469 t447.1 A449 c450, Row r_api_Pair 87 (.slice A449 t447.1.Pairs.length c450) t447.1.Pairs, B43 b443 t421.1 A423 c424, Row r_api_Pair 87 (.slice A423 t421.1.Pairs.length c424) t421.1.Pairs, B43 b417 t395.1 A397 c398, Row r_api_Pair 87 (.slice A397 t395.1.Pairs.length c398) t395.1.Pairs]) (L := 86) mixed ?_
  intro w805 hw806 E'
  replace S := S.heap hw806
  replace E := E.trans E'
  clear E'
  have D1 : ∃ Mx, Hp.le M519 Mx ∧ St _ Mx F [_, _, _, _, _, _, _, _, _, _, _, _] := ⟨_, Hp.le_refl _, S.pick [0, 1, 2, 3, 9, 10, 11, 12, 13, 14, 15, 16] (by decide)⟩
  refine Wa_take (i := 0) rfl (by as_aux_lemma => kernel_rfl) rfl rfl (.pointer (some ⟨b417, 3, none⟩)) rfl (fun w' h' => x_fieldAddr (o := 0) (off := 3) Tryd.underlying43 rfl ty41 rfl rfl) D1 ?_
  refine Wa_take (i := 1) rfl (by as_aux_lemma => kernel_rfl) rfl rfl (.slice A397 t395.1.Pairs.length c398) rfl (fun w' h' => x_load (cls_blk h' 10 rfl) ty41 rfl rfl) D1 ?_
  refine Wa_take (i := 2) rfl (by as_aux_lemma => kernel_rfl) rfl rfl (.int .i64 (t395.1.Pairs.length : Int)) rfl (fun w' h' => x_len_slice (n := t395.1.Pairs.length) Tryd.underlying41 rfl) D1 ?_
  refine Wa_take (i := 3) rfl (by as_aux_lemma => kernel_rfl) rfl rfl (.bool ((t395.1.Pairs.length : Int) != (2 : Int))) rfl (fun w' h' => x_ibin rfl rfl rfl rfl) D1 ?_
  refine Wa_take (i := 4) rfl (by as_aux_lemma => kernel_rfl) rfl rfl (.bool ((t395.1.Pairs.length : Int) != (2 : Int))) rfl (fun w' h' => x_move rfl) D1 ?_
  obtain ⟨o814, o814h, o814H⟩ := bindS H
  clear H
  refine Wa_join (fun ρ w' => ∃ (x813 : Bool), (x813) = o814 ∧ Agree ρ [(0, .pointer (some ⟨bo0, 0, none⟩)), (3, .pointer (some ⟨b417, 0, none⟩)), (4, .pointer (some ⟨b443, 0, none⟩)), (5, .pointer (some ⟨b469, 0, none⟩)), (6, .pointer (some ⟨b495, 0, none⟩)), (7, .pointer (some ⟨b521, 0, none⟩)), (8, .pointer (some ⟨b525, 0, none⟩)), (9, .pointer (some ⟨b528, 0, none⟩)), (73, .bool x813)] ∧ Ext w w' ∧ St w' M519 F [Blk b528 (.cells #[.string (bs ([98] : Str)), .string (bs ([49] : Str))] 87 (0, 0)), Blk b525 (.cells #[.string (bs ([97] : Str)), .string (bs ([52] : Str))] 87 (0, 0)), B43 b521 t499.1 A501 c502, Row r_api_Pair 87 (.slice A501 t499.1.Pairs.length c502) t499.1.Pairs, B94 bo0 t499.2 A504 A507 A510 c511 A513, MapC enc_model_name (Value.int .i64) A504 t499.2.names, MapC (Value.int .i64) (Value.int .i64) A507 t499.2.many, Row r_model_tx 99 (.slice A510 t499.2.txs.length c511) t499.2.txs, MapC encS (fun v : Value => v) A513 vs516, B43 b495 t473.1 A475 c476, Row r_api_Pair 87 (.slice A475 t473.1.Pairs.length c476) t473.1.Pairs, B43 b469 t447.1 A449 c450, Row r_api_Pair 87 (.slice A449 t447.1.Pairs.length c450) t447.1.Pairs, B43 b443 t421.1 A423 c424, Row r_api_Pair 87 (.slice A423 t421.1.Pairs.length c424) t421.1.Pairs, B43 b417 t395.1 A397 c398, Row r_api_Pair 87 (.slice A397 t395.1.Pairs.length c398) t395.1.Pairs]) 74 (Ls 86 [0, 1, 2, 3, 4, 5, 6, 7, 8, 9, 10, 11]) ?_ ?_
  rotate_left
  · intro hrest
    have H := o814h
    clear o814h o814H
    rcases iteS H with ⟨hb812, H⟩ | ⟨hb812, H⟩
    · skip
      have D2 : ∃ Mx, Hp.le M519 Mx ∧ St _ Mx F [_, _, _, _, _, _, _, _, _, _, _, _] := ⟨_, Hp.le_refl _, S.pick [0, 1, 2, 3, 9, 10, 11, 12, 13, 14, 15, 16] (by decide)⟩
      refine Wa_takeN (i := 5) rfl (by as_aux_lemma => kernel_rfl) rfl rfl rfl (skF hb812) D2 ?_
      refine Wa_takeN (i := 6) rfl (by as_aux_lemma => kernel_rfl) rfl rfl rfl (skF hb812) D2 ?_
      refine Wa_takeN (i := 7) rfl (by as_aux_lemma => kernel_rfl) rfl rfl rfl (skF hb812) D2 ?_
      refine Wa_takeN (i := 8) rfl (by as_aux_lemma => kernel_rfl) rfl rfl rfl (skF hb812) D2 ?_
      refine Wa_takeN (i := 9) rfl (by as_aux_lemma => kernel_rfl) rfl rfl rfl (skF hb812) D2 ?_
      refine Wa_takeN (i := 10) rfl (by as_aux_lemma => kernel_rfl) rfl rfl rfl (skF hb812) D2 ?_
      refine Wa_take (i := 11) rfl (by as_aux_lemma => kernel_rfl) rfl rfl (.bool true) rfl (fun w' h' => x_pick (k := true) (congrArg Value.bool hb812) rfl) D2 ?_
      exact hrest _ _ ⟨true, Option.some.inj H, ⟨rfl, rfl, rfl, rfl, rfl, rfl, rfl, rfl, rfl, trivial⟩, E, S.pick [0, 1, 2, 3, 4, 5, 6, 7, 8, 9, 10, 11, 12, 13, 14, 15, 16] (by decide)⟩
    · skip
      have D3 : ∃ Mx, Hp.le M519 Mx ∧ St _ Mx F [_, _, _, _, _, _, _, _, _, _, _, _] := ⟨_, Hp.le_refl _, S.pick [0, 1, 2, 3, 9, 10, 11, 12, 13, 14, 15, 16] (by decide)⟩
      refine Wa_takeY (i := 5) rfl (by as_aux_lemma => kernel_rfl) rfl rfl (.pointer (some ⟨b417, 3, none⟩)) rfl (congrArg some hb812) (fun w' h' => x_fieldAddr (o := 0) (off := 3) Tryd.underlying43 rfl ty41 rfl rfl) D3 ?_
      refine Wa_takeY (i := 6) rfl (by as_aux_lemma => kernel_rfl) rfl rfl (.slice A397 t395.1.Pairs.length c398) rfl (congrArg some hb812) (fun w' h' => x_load (cls_blk h' 10 rfl) ty41 rfl rfl) D3 ?_
      obtain ⟨⟨p815, p816⟩, H⟩ := chkS H
      obtain ⟨b817, o818, _, _, _, ee819, _⟩ := SlW.at' (S.row_read 16 rfl) p815 p816
      refine Wa_takeY (i := 7) rfl (by as_aux_lemma => kernel_rfl) rfl rfl (.pointer (some ⟨b817, o818 + (0 : Int).toNat * 2, none⟩)) rfl (congrArg some hb812) (fun w' h' => x_indexAddr Tryd.underlying41 ty87 (slA ee819) rfl p815 p816) D3 ?_
      refine Wa_takeY (i := 8) rfl (by as_aux_lemma => kernel_rfl) rfl rfl (.agg #[.string (bs ((rd t395.1.Pairs (0 : Int)).Key)), .string (bs ((rd t395.1.Pairs (0 : Int)).Value))]) rfl (congrArg some hb812) (fun w' h' => x_loadA_cls h' 11 rfl ee819 p815 p816 0 (by rintro _ _ rfl; rfl) ty87 rfl rfl rfl) D3 ?_
      refine Wa_takeY (i := 9) rfl (by as_aux_lemma => kernel_rfl) rfl rfl (.agg #[.string (bs ([97] : Str)), .string (bs ([52] : Str))]) rfl (congrArg some hb812) (fun w' h' => x_loadA (cls_blk h' 1 rfl) ty87 rfl (sub_of_extract rfl) rfl rfl) D3 ?_
      refine Wa_takeY (i := 10) rfl (by as_aux_lemma => kernel_rfl) rfl rfl (.bool (!(((rd t395.1.Pairs (0 : Int)).Key == ([97] : Str)) && ((rd t395.1.Pairs (0 : Int)).Value == ([52] : Str))))) rfl (congrArg some hb812) (fun w' h' => x_ne_of (en87 _ _ _ _) rfl (eq87 _ ((rd t395.1.Pairs (0 : Int)).Key) ((rd t395.1.Pairs (0 : Int)).Value) ([97] : Str) ([52] : Str))) D3 ?_
      refine Wa_take (i := 11) rfl (by as_aux_lemma => kernel_rfl) rfl rfl (.bool (!(((rd t395.1.Pairs (0 : Int)).Key == ([97] : Str)) && ((rd t395.1.Pairs (0 : Int)).Value == ([52] : Str))))) rfl (fun w' h' => x_pick (k := false) (congrArg Value.bool hb812) rfl) D3 ?_
      exact hrest _ _ ⟨(!(((rd t395.1.Pairs (0 : Int)).Key == ([97] : Str)) && ((rd t395.1.Pairs (0 : Int)).Value == ([52] : Str)))), Option.some.inj H, ⟨rfl, rfl, rfl, rfl, rfl, rfl, rfl, rfl, rfl, trivial⟩, E, S.pick [0, 1, 2, 3, 4, 5, 6, 7, 8, 9, 10, 11, 12, 13, 14, 15, 16] (by decide)⟩
  clear o814h
  rintro ρ w820 ⟨x813, rfl, hρ, E, S⟩
  rw [agree_eta hρ]
  clear hρ
  have H := o814H
  clear o814H
  refine Wa_take (i := 12) rfl (by as_aux_lemma => kernel_rfl) rfl rfl (.bool x813) rfl (fun w' h' => x_move rfl) (⟨M519, Hp.le_refl M519, (S.pick [0, 1, 2, 3, 9, 10, 11, 12, 13, 14, 15, 16] (by decide))⟩) ?_
  obtain ⟨o828, o828h, o828H⟩ := bindS H
  clear H
  refine Wa_join (fun ρ w' => ∃ (x827 : Bool), (x827) = o828 ∧ Agree ρ [(0, .pointer (some ⟨bo0, 0, none⟩)), (4, .pointer (some ⟨b443, 0, none⟩)), (5, .pointer (some ⟨b469, 0, none⟩)), (6, .pointer (some ⟨b495, 0, none⟩)), (7, .pointer (some ⟨b521, 0, none⟩)), (8, .pointer (some ⟨b525, 0, none⟩)), (9, .pointer (some ⟨b528, 0, none⟩)), (81, .bool x827)] ∧ Ext w w' ∧ St w' M519 F [Blk b528 (.cells #[.string (bs ([98] : Str)), .string (bs ([49] : Str))] 87 (0, 0)), Blk b525 (.cells #[.string (bs ([97] : Str)), .string (bs ([52] : Str))] 87 (0, 0)), B43 b521 t499.1 A501 c502, Row r_api_Pair 87 (.slice A501 t499.1.Pairs.length c502) t499.1.Pairs, B94 bo0 t499.2 A504 A507 A510 c511 A513, MapC enc_model_name (Value.int .i64) A504 t499.2.names, MapC (Value.int .i64) (Value.int .i64) A507 t499.2.many, Row r_model_tx 99 (.slice A510 t499.2.txs.length c511) t499.2.txs, MapC encS (fun v : Value => v) A513 vs516, B43 b495 t473.1 A475 c476, Row r_api_Pair 87 (.slice A475 t473.1.Pairs.length c476) t473.1.Pairs, B43 b469 t447.1 A449 c450, Row r_api_Pair 87 (.slice A449 t447.1.Pairs.length c450) t447.1.Pairs, B43 b443 t421.1 A423 c424, Row r_api_Pair 87 (.slice A423 t421.1.Pairs.length c424) t421.1.Pairs, B43 b417 t395.1 A397 c398, Row r_api_Pair 87 (.slice A397 t395.1.Pairs.length c398) t395.1.Pairs]) 66 (Ls 86 [0, 1, 2, 3, 4, 5, 6, 7, 8, 9, 10, 11, 12, 13, 14, 15, 16, 17, 18, 19]) ?_ ?_
  rotate_left
  · intro hrest
    have H := o828h
    clear o828h o828H
    rcases iteS H with ⟨hb826, H⟩ | ⟨hb826, H⟩
    · skip
      have D5 : ∃ Mx, Hp.le M519 Mx ∧ St _ Mx F [_, _, _, _, _, _, _, _, _, _, _, _] := ⟨_, Hp.le_refl _, S.pick [0, 1, 2, 3, 9, 10, 11, 12, 13, 14, 15, 16] (by decide)⟩
      refine Wa_takeN (i := 13) rfl (by as_aux_lemma => kernel_rfl) rfl rfl rfl (skF hb826) D5 ?_
      refine Wa_takeN (i := 14) rfl (by as_aux_lemma => kernel_rfl) rfl rfl rfl (skF hb826) D5 ?_
      refine Wa_takeN (i := 15) rfl (by as_aux_lemma => kernel_rfl) rfl rfl rfl (skF hb826) D5 ?_
      refine Wa_takeN (i := 16) rfl (by as_aux_lemma => kernel_rfl) rfl rfl rfl (skF hb826) D5 ?_
      refine Wa_takeN (i := 17) rfl (by as_aux_lemma => kernel_rfl) rfl rfl rfl (skF hb826) D5 ?_
      refine Wa_takeN (i := 18) rfl (by as_aux_lemma => kernel_rfl) rfl rfl rfl (skF hb826) D5 ?_
      refine Wa_take (i := 19) rfl (by as_aux_lemma => kernel_rfl) rfl rfl (.bool true) rfl (fun w' h' => x_pick (k := true) (congrArg Value.bool hb826) rfl) D5 ?_
      exact hrest _ _ ⟨true, Option.some.inj H, ⟨rfl, rfl, rfl, rfl, rfl, rfl, rfl, rfl, trivial⟩, E, S.pick [0, 1, 2, 3, 4, 5, 6, 7, 8, 9, 10, 11, 12, 13, 14, 15, 16] (by decide)⟩
    · skip
      have D6 : ∃ Mx, Hp.le M519 Mx ∧ St _ Mx F [_, _, _, _, _, _, _, _, _, _, _, _] := ⟨_, Hp.le_refl _, S.pick [0, 1, 2, 3, 9, 10, 11, 12, 13, 14, 15, 16] (by decide)⟩
      refine Wa_takeY (i := 13) rfl (by as_aux_lemma => kernel_rfl) rfl rfl (.pointer (some ⟨b417, 3, none⟩)) rfl (congrArg some hb826) (fun w' h' => x_fieldAddr (o := 0) (off := 3) Tryd.underlying43 rfl ty41 rfl rfl) D6 ?_
      refine Wa_takeY (i := 14) rfl (by as_aux_lemma => kernel_rfl) rfl rfl (.slice A397 t395.1.Pairs.length c398) rfl (congrArg some hb826) (fun w' h' => x_load (cls_blk h' 10 rfl) ty41 rfl rfl) D6 ?_
      obtain ⟨⟨p829, p830⟩, H⟩ := chkS H
      obtain ⟨b831, o832, _, _, _, ee833, _⟩ := SlW.at' (S.row_read 16 rfl) p829 p830
      refine Wa_takeY (i := 15) rfl (by as_aux_lemma => kernel_rfl) rfl rfl (.pointer (some ⟨b831, o832 + (1 : Int).toNat * 2, none⟩)) rfl (congrArg some hb826) (fun w' h' => x_indexAddr Tryd.underlying41 ty87 (slA ee833) rfl p829 p830) D6 ?_
      refine Wa_takeY (i := 16) rfl (by as_aux_lemma => kernel_rfl) rfl rfl (.agg #[.string (bs ((rd t395.1.Pairs (1 : Int)).Key)), .string (bs ((rd t395.1.Pairs (1 : Int)).Value))]) rfl (congrArg some hb826) (fun w' h' => x_loadA_cls h' 11 rfl ee833 p829 p830 0 (by rintro _ _ rfl; rfl) ty87 rfl rfl rfl) D6 ?_
      refine Wa_takeY (i := 17) rfl (by as_aux_lemma => kernel_rfl) rfl rfl (.agg #[.string (bs ([98] : Str)), .string (bs ([49] : Str))]) rfl (congrArg some hb826) (fun w' h' => x_loadA (cls_blk h' 0 rfl) ty87 rfl (sub_of_extract rfl) rfl rfl) D6 ?_
      refine Wa_takeY (i := 18) rfl (by as_aux_lemma => kernel_rfl) rfl rfl (.bool (!(((rd t395.1.Pairs (1 : Int)).Key == ([98] : Str)) && ((rd t395.1.Pairs (1 : Int)).Value == ([49] : Str))))) rfl (congrArg some hb826) (fun w' h' => x_ne_of (en87 _ _ _ _) rfl (eq87 _ ((rd t395.1.Pairs (1 : Int)).Key) ((rd t395.1.Pairs (1 : Int)).Value) ([98] : Str) ([49] : Str))) D6 ?_
      refine Wa_take (i := 19) rfl (by as_aux_lemma => kernel_rfl) rfl rfl (.bool (!(((rd t395.1.Pairs (1 : Int)).Key == ([98] : Str)) && ((rd t395.1.Pairs (1 : Int)).Value == ([49] : Str))))) rfl (fun w' h' => x_pick (k := false) (congrArg Value.bool hb826) rfl) D6 ?_
      exact hrest _ _ ⟨(!(((rd t395.1.Pairs (1 : Int)).Key == ([98] : Str)) && ((rd t395.1.Pairs (1 : Int)).Value == ([49] : Str)))), Option.some.inj H, ⟨rfl, rfl, rfl, rfl, rfl, rfl, rfl, rfl, trivial⟩, E, S.pick [0, 1, 2, 3, 4, 5, 6, 7, 8, 9, 10, 11, 12, 13, 14, 15, 16] (by decide)⟩
  clear o828h
  rintro ρ w834 ⟨x827, rfl, hρ, E, S⟩
  rw [agree_eta hρ]
  clear hρ
  have H := o828H
  clear o828H
  refine Wa_take (i := 20) rfl (by as_aux_lemma => kernel_rfl) rfl rfl (.bool x827) rfl (fun w' h' => x_move rfl) (⟨M519, Hp.le_refl M519, (S.pick [0, 1, 2, 3, 9, 10, 11, 12, 13, 14, 15, 16] (by decide))⟩) ?_
  refine Wa_join (fun ρ w' => Agree ρ [(0, .pointer (some ⟨bo0, 0, none⟩)), (4, .pointer (some ⟨b443, 0, none⟩)), (5, .pointer (some ⟨b469, 0, none⟩)), (6, .pointer (some ⟨b495, 0, none⟩)), (7, .pointer (some ⟨b521, 0, none⟩)), (8, .pointer (some ⟨b525, 0, none⟩)), (9, .pointer (some ⟨b528, 0, none⟩)), (87, .bool (x827 || ((t421.1.Pairs.length : Int) != (1 : Int))))] ∧ w834 = w') 60 (Ls 86 [0, 1, 2, 3, 4, 5, 6, 7, 8, 9, 10, 11, 12, 13, 14, 15, 16, 17, 18, 19, 20, 21, 22, 23, 24, 25]) ?_ ?_
  rotate_left
  · intro hrest
    rcases boolCases x827 with hb835 | hb835
    · skip
      have D8 : ∃ Mx, Hp.le M519 Mx ∧ St _ Mx F [_, _, _, _, _, _, _, _, _, _, _, _] := ⟨_, Hp.le_refl _, S.pick [0, 1, 2, 3, 9, 10, 11, 12, 13, 14, 15, 16] (by decide)⟩
      refine Wa_takeY (i := 21) rfl (by as_aux_lemma => kernel_rfl) rfl rfl (.pointer (some ⟨b443, 3, none⟩)) rfl (congrArg some hb835) (fun w' h' => x_fieldAddr (o := 0) (off := 3) Tryd.underlying43 rfl ty41 rfl rfl) D8 ?_
      refine Wa_takeY (i := 22) rfl (by as_aux_lemma => kernel_rfl) rfl rfl (.slice A423 t421.1.Pairs.length c424) rfl (congrArg some hb835) (fun w' h' => x_load (cls_blk h' 8 rfl) ty41 rfl rfl) D8 ?_
      refine Wa_takeY (i := 23) rfl (by as_aux_lemma => kernel_rfl) rfl rfl (.int .i64 (t421.1.Pairs.length : Int)) rfl (congrArg some hb835) (fun w' h' => x_len_slice (n := t421.1.Pairs.length) Tryd.underlying41 rfl) D8 ?_
      refine Wa_takeY (i := 24) rfl (by as_aux_lemma => kernel_rfl) rfl rfl (.bool ((t421.1.Pairs.length : Int) != (1 : Int))) rfl (congrArg some hb835) (fun w' h' => x_ibin rfl rfl rfl rfl) D8 ?_
      refine Wa_take (i := 25) rfl (by as_aux_lemma => kernel_rfl) rfl rfl (.bool ((t421.1.Pairs.length : Int) != (1 : Int))) rfl (fun w' h' => x_pick (k := false) (congrArg Value.bool hb835) rfl) D8 ?_
      exact hrest _ _ ⟨⟨rfl, rfl, rfl, rfl, rfl, rfl, rfl, (by first | rfl | (rw [hb835]; rfl) | (simp only [hb835]; rfl)), trivial⟩, rfl⟩
    · skip
      have D9 : ∃ Mx, Hp.le M519 Mx ∧ St _ Mx F [_, _, _, _, _, _, _, _, _, _, _, _] := ⟨_, Hp.le_refl _, S.pick [0, 1, 2, 3, 9, 10, 11, 12, 13, 14, 15, 16] (by decide)⟩
      refine Wa_takeN (i := 21) rfl (by as_aux_lemma => kernel_rfl) rfl rfl rfl (skF hb835) D9 ?_
      refine Wa_takeN (i := 22) rfl (by as_aux_lemma => kernel_rfl) rfl rfl rfl (skF hb835) D9 ?_
      refine Wa_takeN (i := 23) rfl (by as_aux_lemma => kernel_rfl) rfl rfl rfl (skF hb835) D9 ?_
      refine Wa_takeN (i := 24) rfl (by as_aux_lemma => kernel_rfl) rfl rfl rfl (skF hb835) D9 ?_
      refine Wa_take (i := 25) rfl (by as_aux_lemma => kernel_rfl) rfl rfl (.bool true) rfl (fun w' h' => x_pick (k := true) (congrArg Value.bool hb835) rfl) D9 ?_
      exact hrest _ _ ⟨⟨rfl, rfl, rfl, rfl, rfl, rfl, rfl, (by first | rfl | (rw [hb835]; rfl) | (simp only [hb835]; rfl)), trivial⟩, rfl⟩
  rintro ρ _ ⟨hρ, rfl⟩
  rw [agree_eta hρ]
  clear hρ
  refine Wa_take (i := 26) rfl (by as_aux_lemma => kernel_rfl) rfl rfl (.bool (x827 || ((t421.1.Pairs.length : Int) != (1 : Int)))) rfl (fun w' h' => x_move rfl) (⟨M519, Hp.le_refl M519, (S.pick [0, 1, 2, 3, 9, 10, 11, 12, 13, 14, 15, 16] (by decide))⟩) ?_
  obtain ⟨o843, o843h, o843H⟩ := bindS H
  clear H
  refine Wa_join (fun ρ w' => ∃ (x842 : Bool), (x842) = o843 ∧ Agree ρ [(0, .pointer (some ⟨bo0, 0, none⟩)), (5, .pointer (some ⟨b469, 0, none⟩)), (6, .pointer (some ⟨b495, 0, none⟩)), (7, .pointer (some ⟨b521, 0, none⟩)), (8, .pointer (some ⟨b525, 0, none⟩)), (9, .pointer (some ⟨b528, 0, none⟩)), (95, .bool x842)] ∧ Ext w w' ∧ St w' M519 F [Blk b528 (.cells #[.string (bs ([98] : Str)), .string (bs ([49] : Str))] 87 (0, 0)), Blk b525 (.cells #[.string (bs ([97] : Str)), .string (bs ([52] : Str))] 87 (0, 0)), B43 b521 t499.1 A501 c502, Row r_api_Pair 87 (.slice A501 t499.1.Pairs.length c502) t499.1.Pairs, B94 bo0 t499.2 A504 A507 A510 c511 A513, MapC enc_model_name (Value.int .i64) A504 t499.2.names, MapC (Value.int .i64) (Value.int .i64) A507 t499.2.many, Row r_model_tx 99 (.slice A510 t499.2.txs.length c511) t499.2.txs, MapC encS (fun v : Value => v) A513 vs516, B43 b495 t473.1 A475 c476, Row r_api_Pair 87 (.slice A475 t473.1.Pairs.length c476) t473.1.Pairs, B43 b469 t447.1 A449 c450, Row r_api_Pair 87 (.slice A449 t447.1.Pairs.length c450) t447.1.Pairs, B43 b443 t421.1 A423 c424, Row r_api_Pair 87 (.slice A423 t421.1.Pairs.length c424) t421.1.Pairs, B43 b417 t395.1 A397 c398, Row r_api_Pair 87 (.slice A397 t395.1.Pairs.length c398) t395.1.Pairs]) 52 (Ls 86 [0, 1, 2, 3, 4, 5, 6, 7, 8, 9, 10, 11, 12, 13, 14, 15, 16, 17, 18, 19, 20, 21, 22, 23, 24, 25, 26, 27, 28, 29, 30, 31, 32, 33]) ?_ ?_
  rotate_left
  · intro hrest
    have H := o843h
    clear o843h o843H
    rcases iteS H with ⟨hb841, H⟩ | ⟨hb841, H⟩
    · skip
      have D11 : ∃ Mx, Hp.le M519 Mx ∧ St _ Mx F [_, _, _, _, _, _, _, _, _, _, _, _] := ⟨_, Hp.le_refl _, S.pick [0, 1, 2, 3, 9, 10, 11, 12, 13, 14, 15, 16] (by decide)⟩
      refine Wa_takeN (i := 27) rfl (by as_aux_lemma => kernel_rfl) rfl rfl rfl (skF hb841) D11 ?_
      refine Wa_takeN (i := 28) rfl (by as_aux_lemma => kernel_rfl) rfl rfl rfl (skF hb841) D11 ?_
      refine Wa_takeN (i := 29) rfl (by as_aux_lemma => kernel_rfl) rfl rfl rfl (skF hb841) D11 ?_
      refine Wa_takeN (i := 30) rfl (by as_aux_lemma => kernel_rfl) rfl rfl rfl (skF hb841) D11 ?_
      refine Wa_takeN (i := 31) rfl (by as_aux_lemma => kernel_rfl) rfl rfl rfl (skF hb841) D11 ?_
      refine Wa_takeN (i := 32) rfl (by as_aux_lemma => kernel_rfl) rfl rfl rfl (skF hb841) D11 ?_
      refine Wa_take (i := 33) rfl (by as_aux_lemma => kernel_rfl) rfl rfl (.bool true) rfl (fun w' h' => x_pick (k := true) (congrArg Value.bool hb841) rfl) D11 ?_
      exact hrest _ _ ⟨true, Option.some.inj H, ⟨rfl, rfl, rfl, rfl, rfl, rfl, rfl, trivial⟩, E, S.pick [0, 1, 2, 3, 4, 5, 6, 7, 8, 9, 10, 11, 12, 13, 14, 15, 16] (by decide)⟩
    · skip
      have D12 : ∃ Mx, Hp.le M519 Mx ∧ St _ Mx F [_, _, _, _, _, _, _, _, _, _, _, _] := ⟨_, Hp.le_refl _, S.pick [0, 1, 2, 3, 9, 10, 11, 12, 13, 14, 15, 16] (by decide)⟩
      refine Wa_takeY (i := 27) rfl (by as_aux_lemma => kernel_rfl) rfl rfl (.pointer (some ⟨b443, 3, none⟩)) rfl (congrArg some hb841) (fun w' h' => x_fieldAddr (o := 0) (off := 3) Tryd.underlying43 rfl ty41 rfl rfl) D12 ?_
      refine Wa_takeY (i := 28) rfl (by as_aux_lemma => kernel_rfl) rfl rfl (.slice A423 t421.1.Pairs.length c424) rfl (congrArg some hb841) (fun w' h' => x_load (cls_blk h' 8 rfl) ty41 rfl rfl) D12 ?_
      obtain ⟨⟨p844, p845⟩, H⟩ := chkS H
      obtain ⟨b846, o847, _, _, _, ee848, _⟩ := SlW.at' (S.row_read 14 rfl) p844 p845
      refine Wa_takeY (i := 29) rfl (by as_aux_lemma => kernel_rfl) rfl rfl (.pointer (some ⟨b846, o847 + (0 : Int).toNat * 2, none⟩)) rfl (congrArg some hb841) (fun w' h' => x_indexAddr Tryd.underlying41 ty87 (slA ee848) rfl p844 p845) D12 ?_
      refine Wa_takeY (i := 30) rfl (by as_aux_lemma => kernel_rfl) rfl rfl (.agg #[.string (bs ((rd t421.1.Pairs (0 : Int)).Key)), .string (bs ((rd t421.1.Pairs (0 : Int)).Value))]) rfl (congrArg some hb841) (fun w' h' => x_loadA_cls h' 9 rfl ee848 p844 p845 0 (by rintro _ _ rfl; rfl) ty87 rfl rfl rfl) D12 ?_
      refine Wa_takeY (i := 31) rfl (by as_aux_lemma => kernel_rfl) rfl rfl (.agg #[.string (bs ([97] : Str)), .string (bs ([52] : Str))]) rfl (congrArg some hb841) (fun w' h' => x_loadA (cls_blk h' 1 rfl) ty87 rfl (sub_of_extract rfl) rfl rfl) D12 ?_
      refine Wa_takeY (i := 32) rfl (by as_aux_lemma => kernel_rfl) rfl rfl (.bool (!(((rd t421.1.Pairs (0 : Int)).Key == ([97] : Str)) && ((rd t421.1.Pairs (0 : Int)).Value == ([52] : Str))))) rfl (congrArg some hb841) (fun w' h' => x_ne_of (en87 _ _ _ _) rfl (eq87 _ ((rd t421.1.Pairs (0 : Int)).Key) ((rd t421.1.Pairs (0 : Int)).Value) ([97] : Str) ([52] : Str))) D12 ?_
      refine Wa_take (i := 33) rfl (by as_aux_lemma => kernel_rfl) rfl rfl (.bool (!(((rd t421.1.Pairs (0 : Int)).Key == ([97] : Str)) && ((rd t421.1.Pairs (0 : Int)).Value == ([52] : Str))))) rfl (fun w' h' => x_pick (k := false) (congrArg Value.bool hb841) rfl) D12 ?_
      exact hrest _ _ ⟨(!(((rd t421.1.Pairs (0 : Int)).Key == ([97] : Str)) && ((rd t421.1.Pairs (0 : Int)).Value == ([52] : Str)))), Option.some.inj H, ⟨rfl, rfl, rfl, rfl, rfl, rfl, rfl, trivial⟩, E, S.pick [0, 1, 2, 3, 4, 5, 6, 7, 8, 9, 10, 11, 12, 13, 14, 15, 16] (by decide)⟩
  clear o843h
  rintro ρ w849 ⟨x842, rfl, hρ, E, S⟩
  rw [agree_eta hρ]
  clear hρ
  have H := o843H
  clear o843H
  refine Wa_take (i := 34) rfl (by as_aux_lemma => kernel_rfl) rfl rfl (.bool x842) rfl (fun w' h' => x_move rfl) (⟨M519, Hp.le_refl M519, (S.pick [0, 1, 2, 3, 9, 10, 11, 12, 13, 14, 15, 16] (by decide))⟩) ?_
  refine Wa_join (fun ρ w' => Agree ρ [(0, .pointer (some ⟨bo0, 0, none⟩)), (5, .pointer (some ⟨b469, 0, none⟩)), (6, .pointer (some ⟨b495, 0, none⟩)), (7, .pointer (some ⟨b521, 0, none⟩)), (8, .pointer (some ⟨b525, 0, none⟩)), (9, .pointer (some ⟨b528, 0, none⟩)), (101, .bool (x842 || ((t447.1.Pairs.length : Int) != (1 : Int))))] ∧ w849 = w') 46 (Ls 86 [0, 1, 2, 3, 4, 5, 6, 7, 8, 9, 10, 11, 12, 13, 14, 15, 16, 17, 18, 19, 20, 21, 22, 23, 24, 25, 26, 27, 28, 29, 30, 31, 32, 33, 34, 35, 36, 37, 38, 39]) ?_ ?_
  rotate_left
  · intro hrest
    rcases boolCases x842 with hb850 | hb850
    · skip
      have D14 : ∃ Mx, Hp.le M519 Mx ∧ St _ Mx F [_, _, _, _, _, _, _, _, _, _, _, _] := ⟨_, Hp.le_refl _, S.pick [0, 1, 2, 3, 9, 10, 11, 12, 13, 14, 15, 16] (by decide)⟩
      refine Wa_takeY (i := 35) rfl (by as_aux_lemma => kernel_rfl) rfl rfl (.pointer (some ⟨b469, 3, none⟩)) rfl (congrArg some hb850) (fun w' h' => x_fieldAddr (o := 0) (off := 3) Tryd.underlying43 rfl ty41 rfl rfl) D14 ?_
      refine Wa_takeY (i := 36) rfl (by as_aux_lemma => kernel_rfl) rfl rfl (.slice A449 t447.1.Pairs.length c450) rfl (congrArg some hb850) (fun w' h' => x_load (cls_blk h' 6 rfl) ty41 rfl rfl) D14 ?_
      refine Wa_takeY (i := 37) rfl (by as_aux_lemma => kernel_rfl) rfl rfl (.int .i64 (t447.1.Pairs.length : Int)) rfl (congrArg some hb850) (fun w' h' => x_len_slice (n := t447.1.Pairs.length) Tryd.underlying41 rfl) D14 ?_
      refine Wa_takeY (i := 38) rfl (by as_aux_lemma => kernel_rfl) rfl rfl (.bool ((t447.1.Pairs.length : Int) != (1 : Int))) rfl (congrArg some hb850) (fun w' h' => x_ibin rfl rfl rfl rfl) D14 ?_
      refine Wa_take (i := 39) rfl (by as_aux_lemma => kernel_rfl) rfl rfl (.bool ((t447.1.Pairs.length : Int) != (1 : Int))) rfl (fun w' h' => x_pick (k := false) (congrArg Value.bool hb850) rfl) D14 ?_
      exact hrest _ _ ⟨⟨rfl, rfl, rfl, rfl, rfl, rfl, (by first | rfl | (rw [hb850]; rfl) | (simp only [hb850]; rfl)), trivial⟩, rfl⟩
    · skip
      have D15 : ∃ Mx, Hp.le M519 Mx ∧ St _ Mx F [_, _, _, _, _, _, _, _, _, _, _, _] := ⟨_, Hp.le_refl _, S.pick [0, 1, 2, 3, 9, 10, 11, 12, 13, 14, 15, 16] (by decide)⟩
      refine Wa_takeN (i := 35) rfl (by as_aux_lemma => kernel_rfl) rfl rfl rfl (skF hb850) D15 ?_
      refine Wa_takeN (i := 36) rfl (by as_aux_lemma => kernel_rfl) rfl rfl rfl (skF hb850) D15 ?_
      refine Wa_takeN (i := 37) rfl (by as_aux_lemma => kernel_rfl) rfl rfl rfl (skF hb850) D15 ?_
      refine Wa_takeN (i := 38) rfl (by as_aux_lemma => kernel_rfl) rfl rfl rfl (skF hb850) D15 ?_
      refine Wa_take (i := 39) rfl (by as_aux_lemma => kernel_rfl) rfl rfl (.bool true) rfl (fun w' h' => x_pick (k := true) (congrArg Value.bool hb850) rfl) D15 ?_
      exact hrest _ _ ⟨⟨rfl, rfl, rfl, rfl, rfl, rfl, (by first | rfl | (rw [hb850]; rfl) | (simp only [hb850]; rfl)), trivial⟩, rfl⟩
  rintro ρ _ ⟨hρ, rfl⟩
  rw [agree_eta hρ]
  clear hρ
  refine Wa_take (i := 40) rfl (by as_aux_lemma => kernel_rfl) rfl rfl (.bool (x842 || ((t447.1.Pairs.length : Int) != (1 : Int)))) rfl (fun w' h' => x_move rfl) (⟨M519, Hp.le_refl M519, (S.pick [0, 1, 2, 3, 9, 10, 11, 12, 13, 14, 15, 16] (by decide))⟩) ?_
  obtain ⟨o858, o858h, o858H⟩ := bindS H
  clear H
  refine Wa_join (fun ρ w' => ∃ (x857 : Bool), (x857) = o858 ∧ Agree ρ [(0, .pointer (some ⟨bo0, 0, none⟩)), (6, .pointer (some ⟨b495, 0, none⟩)), (7, .pointer (some ⟨b521, 0, none⟩)), (8, .pointer (some ⟨b525, 0, none⟩)), (109, .bool x857)] ∧ Ext w w' ∧ St w' M519 F [Blk b528 (.cells #[.string (bs ([98] : Str)), .string (bs ([49] : Str))] 87 (0, 0)), Blk b525 (.cells #[.string (bs ([97] : Str)), .string (bs ([52] : Str))] 87 (0, 0)), B43 b521 t499.1 A501 c502, Row r_api_Pair 87 (.slice A501 t499.1.Pairs.length c502) t499.1.Pairs, B94 bo0 t499.2 A504 A507 A510 c511 A513, MapC enc_model_name (Value.int .i64) A504 t499.2.names, MapC (Value.int .i64) (Value.int .i64) A507 t499.2.many, Row r_model_tx 99 (.slice A510 t499.2.txs.length c511) t499.2.txs, MapC encS (fun v : Value => v) A513 vs516, B43 b495 t473.1 A475 c476, Row r_api_Pair 87 (.slice A475 t473.1.Pairs.length c476) t473.1.Pairs, B43 b469 t447.1 A449 c450, Row r_api_Pair 87 (.slice A449 t447.1.Pairs.length c450) t447.1.Pairs, B43 b443 t421.1 A423 c424, Row r_api_Pair 87 (.slice A423 t421.1.Pairs.length c424) t421.1.Pairs, B43 b417 t395.1 A397 c398, Row r_api_Pair 87 (.slice A397 t395.1.Pairs.length c398) t395.1.Pairs]) 38 (Ls 86 [0, 1, 2, 3, 4, 5, 6, 7, 8, 9, 10, 11, 12, 13, 14, 15, 16, 17, 18, 19, 20, 21, 22, 23, 24, 25, 26, 27, 28, 29, 30, 31, 32, 33, 34, 35, 36, 37, 38, 39, 40, 41, 42, 43, 44, 45, 46, 47]) ?_ ?_
  rotate_left
  · intro hrest
    have H := o858h
    clear o858h o858H
    rcases iteS H with ⟨hb856, H⟩ | ⟨hb856, H⟩
    · skip
      have D17 : ∃ Mx, Hp.le M519 Mx ∧ St _ Mx F [_, _, _, _, _, _, _, _, _, _, _, _] := ⟨_, Hp.le_refl _, S.pick [0, 1, 2, 3, 9, 10, 11, 12, 13, 14, 15, 16] (by decide)⟩
      refine Wa_takeN (i := 41) rfl (by as_aux_lemma => kernel_rfl) rfl rfl rfl (skF hb856) D17 ?_
      refine Wa_takeN (i := 42) rfl (by as_aux_lemma => kernel_rfl) rfl rfl rfl (skF hb856) D17 ?_
      refine Wa_takeN (i := 43) rfl (by as_aux_lemma => kernel_rfl) rfl rfl rfl (skF hb856) D17 ?_
      refine Wa_takeN (i := 44) rfl (by as_aux_lemma => kernel_rfl) rfl rfl rfl (skF hb856) D17 ?_
      refine Wa_takeN (i := 45) rfl (by as_aux_lemma => kernel_rfl) rfl rfl rfl (skF hb856) D17 ?_
      refine Wa_takeN (i := 46) rfl (by as_aux_lemma => kernel_rfl) rfl rfl rfl (skF hb856) D17 ?_
      refine Wa_take (i := 47) rfl (by as_aux_lemma => kernel_rfl) rfl rfl (.bool true) rfl (fun w' h' => x_pick (k := true) (congrArg Value.bool hb856) rfl) D17 ?_
      exact hrest _ _ ⟨true, Option.some.inj H, ⟨rfl, rfl, rfl, rfl, rfl, trivial⟩, E, S.pick [0, 1, 2, 3, 4, 5, 6, 7, 8, 9, 10, 11, 12, 13, 14, 15, 16] (by decide)⟩
    · skip
      have D18 : ∃ Mx, Hp.le M519 Mx ∧ St _ Mx F [_, _, _, _, _, _, _, _, _, _, _, _] := ⟨_, Hp.le_refl _, S.pick [0, 1, 2, 3, 9, 10, 11, 12, 13, 14, 15, 16] (by decide)⟩
      refine Wa_takeY (i := 41) rfl (by as_aux_lemma => kernel_rfl) rfl rfl (.pointer (some ⟨b469, 3, none⟩)) rfl (congrArg some hb856) (fun w' h' => x_fieldAddr (o := 0) (off := 3) Tryd.underlying43 rfl ty41 rfl rfl) D18 ?_
      refine Wa_takeY (i := 42) rfl (by as_aux_lemma => kernel_rfl) rfl rfl (.slice A449 t447.1.Pairs.length c450) rfl (congrArg some hb856) (fun w' h' => x_load (cls_blk h' 6 rfl) ty41 rfl rfl) D18 ?_
      obtain ⟨⟨p859, p860⟩, H⟩ := chkS H
      obtain ⟨b861, o862, _, _, _, ee863, _⟩ := SlW.at' (S.row_read 12 rfl) p859 p860
      refine Wa_takeY (i := 43) rfl (by as_aux_lemma => kernel_rfl) rfl rfl (.pointer (some ⟨b861, o862 + (0 : Int).toNat * 2, none⟩)) rfl (congrArg some hb856) (fun w' h' => x_indexAddr Tryd.underlying41 ty87 (slA ee863) rfl p859 p860) D18 ?_
      refine Wa_takeY (i := 44) rfl (by as_aux_lemma => kernel_rfl) rfl rfl (.agg #[.string (bs ((rd t447.1.Pairs (0 : Int)).Key)), .string (bs ((rd t447.1.Pairs (0 : Int)).Value))]) rfl (congrArg some hb856) (fun w' h' => x_loadA_cls h' 7 rfl ee863 p859 p860 0 (by rintro _ _ rfl; rfl) ty87 rfl rfl rfl) D18 ?_
      refine Wa_takeY (i := 45) rfl (by as_aux_lemma => kernel_rfl) rfl rfl (.agg #[.string (bs ([98] : Str)), .string (bs ([49] : Str))]) rfl (congrArg some hb856) (fun w' h' => x_loadA (cls_blk h' 0 rfl) ty87 rfl (sub_of_extract rfl) rfl rfl) D18 ?_
      refine Wa_takeY (i := 46) rfl (by as_aux_lemma => kernel_rfl) rfl rfl (.bool (!(((rd t447.1.Pairs (0 : Int)).Key == ([98] : Str)) && ((rd t447.1.Pairs (0 : Int)).Value == ([49] : Str))))) rfl (congrArg some hb856) (fun w' h' => x_ne_of (en87 _ _ _ _) rfl (eq87 _ ((rd t447.1.Pairs (0 : Int)).Key) ((rd t447.1.Pairs (0 : Int)).Value) ([98] : Str) ([49] : Str))) D18 ?_
      refine Wa_take (i := 47) rfl (by as_aux_lemma => kernel_rfl) rfl rfl (.bool (!(((rd t447.1.Pairs (0 : Int)).Key == ([98] : Str)) && ((rd t447.1.Pairs (0 : Int)).Value == ([49] : Str))))) rfl (fun w' h' => x_pick (k := false) (congrArg Value.bool hb856) rfl) D18 ?_
      exact hrest _ _ ⟨(!(((rd t447.1.Pairs (0 : Int)).Key == ([98] : Str)) && ((rd t447.1.Pairs (0 : Int)).Value == ([49] : Str)))), Option.some.inj H, ⟨rfl, rfl, rfl, rfl, rfl, trivial⟩, E, S.pick [0, 1, 2, 3, 4, 5, 6, 7, 8, 9, 10, 11, 12, 13, 14, 15, 16] (by decide)⟩
  clear o858h
  rintro ρ w864 ⟨x857, rfl, hρ, E, S⟩
  rw [agree_eta hρ]
  clear hρ
  have H := o858H
  clear o858H
  refine Wa_take (i := 48) rfl (by as_aux_lemma => kernel_rfl) rfl rfl (.bool x857) rfl (fun w' h' => x_move rfl) (⟨M519, Hp.le_refl M519, (S.pick [0, 1, 2, 3, 9, 10, 11, 12, 13, 14, 15, 16] (by decide))⟩) ?_
  refine Wa_join (fun ρ w' => Agree ρ [(0, .pointer (some ⟨bo0, 0, none⟩)), (6, .pointer (some ⟨b495, 0, none⟩)), (7, .pointer (some ⟨b521, 0, none⟩)), (8, .pointer (some ⟨b525, 0, none⟩)), (115, .bool (x857 || ((t473.1.Pairs.length : Int) != (1 : Int))))] ∧ w864 = w') 32 (Ls 86 [0, 1, 2, 3, 4, 5, 6, 7, 8, 9, 10, 11, 12, 13, 14, 15, 16, 17, 18, 19, 20, 21, 22, 23, 24, 25, 26, 27, 28, 29, 30, 31, 32, 33, 34, 35, 36, 37, 38, 39, 40, 41, 42, 43, 44, 45, 46, 47, 48, 49, 50, 51, 52, 53]) ?_ ?_
  rotate_left
  · intro hrest
    rcases boolCases x857 with hb865 | hb865
    · skip
      have D20 : ∃ Mx, Hp.le M519 Mx ∧ St _ Mx F [_, _, _, _, _, _, _, _, _, _, _, _] := ⟨_, Hp.le_refl _, S.pick [0, 1, 2, 3, 9, 10, 11, 12, 13, 14, 15, 16] (by decide)⟩
      refine Wa_takeY (i := 49) rfl (by as_aux_lemma => kernel_rfl) rfl rfl (.pointer (some ⟨b495, 3, none⟩)) rfl (congrArg some hb865) (fun w' h' => x_fieldAddr (o := 0) (off := 3) Tryd.underlying43 rfl ty41 rfl rfl) D20 ?_
      refine Wa_takeY (i := 50) rfl (by as_aux_lemma => kernel_rfl) rfl rfl (.slice A475 t473.1.Pairs.length c476) rfl (congrArg some hb865) (fun w' h' => x_load (cls_blk h' 4 rfl) ty41 rfl rfl) D20 ?_
      refine Wa_takeY (i := 51) rfl (by as_aux_lemma => kernel_rfl) rfl rfl (.int .i64 (t473.1.Pairs.length : Int)) rfl (congrArg some hb865) (fun w' h' => x_len_slice (n := t473.1.Pairs.length) Tryd.underlying41 rfl) D20 ?_
      refine Wa_takeY (i := 52) rfl (by as_aux_lemma => kernel_rfl) rfl rfl (.bool ((t473.1.Pairs.length : Int) != (1 : Int))) rfl (congrArg some hb865) (fun w' h' => x_ibin rfl rfl rfl rfl) D20 ?_
      refine Wa_take (i := 53) rfl (by as_aux_lemma => kernel_rfl) rfl rfl (.bool ((t473.1.Pairs.length : Int) != (1 : Int))) rfl (fun w' h' => x_pick (k := false) (congrArg Value.bool hb865) rfl) D20 ?_
      exact hrest _ _ ⟨⟨rfl, rfl, rfl, rfl, (by first | rfl | (rw [hb865]; rfl) | (simp only [hb865]; rfl)), trivial⟩, rfl⟩
    · skip
      have D21 : ∃ Mx, Hp.le M519 Mx ∧ St _ Mx F [_, _, _, _, _, _, _, _, _, _, _, _] := ⟨_, Hp.le_refl _, S.pick [0, 1, 2, 3, 9, 10, 11, 12, 13, 14, 15, 16] (by decide)⟩
      refine Wa_takeN (i := 49) rfl (by as_aux_lemma => kernel_rfl) rfl rfl rfl (skF hb865) D21 ?_
      refine Wa_takeN (i := 50) rfl (by as_aux_lemma => kernel_rfl) rfl rfl rfl (skF hb865) D21 ?_
      refine Wa_takeN (i := 51) rfl (by as_aux_lemma => kernel_rfl) rfl rfl rfl (skF hb865) D21 ?_
      refine Wa_takeN (i := 52) rfl (by as_aux_lemma => kernel_rfl) rfl rfl rfl (skF hb865) D21 ?_
      refine Wa_take (i := 53) rfl (by as_aux_lemma => kernel_rfl) rfl rfl (.bool true) rfl (fun w' h' => x_pick (k := true) (congrArg Value.bool hb865) rfl) D21 ?_
      exact hrest _ _ ⟨⟨rfl, rfl, rfl, rfl, (by first | rfl | (rw [hb865]; rfl) | (simp only [hb865]; rfl)), trivial⟩, rfl⟩
  rintro ρ _ ⟨hρ, rfl⟩
  rw [agree_eta hρ]
  clear hρ
  refine Wa_take (i := 54) rfl (by as_aux_lemma => kernel_rfl) rfl rfl (.bool (x857 || ((t473.1.Pairs.length : Int) != (1 : Int)))) rfl (fun w' h' => x_move rfl) (⟨M519, Hp.le_refl M519, (S.pick [0, 1, 2, 3, 9, 10, 11, 12, 13, 14, 15, 16] (by decide))⟩) ?_
  obtain ⟨o873, o873h, o873H⟩ := bindS H
  clear H
  refine Wa_join (fun ρ w' => ∃ (x872 : Bool), (x872) = o873 ∧ Agree ρ [(0, .pointer (some ⟨bo0, 0, none⟩)), (7, .pointer (some ⟨b521, 0, none⟩)), (123, .bool x872)] ∧ Ext w w' ∧ St w' M519 F [Blk b528 (.cells #[.string (bs ([98] : Str)), .string (bs ([49] : Str))] 87 (0, 0)), Blk b525 (.cells #[.string (bs ([97] : Str)), .string (bs ([52] : Str))] 87 (0, 0)), B43 b521 t499.1 A501 c502, Row r_api_Pair 87 (.slice A501 t499.1.Pairs.length c502) t499.1.Pairs, B94 bo0 t499.2 A504 A507 A510 c511 A513, MapC enc_model_name (Value.int .i64) A504 t499.2.names, MapC (Value.int .i64) (Value.int .i64) A507 t499.2.many, Row r_model_tx 99 (.slice A510 t499.2.txs.length c511) t499.2.txs, MapC encS (fun v : Value => v) A513 vs516, B43 b495 t473.1 A475 c476, Row r_api_Pair 87 (.slice A475 t473.1.Pairs.length c476) t473.1.Pairs, B43 b469 t447.1 A449 c450, Row r_api_Pair 87 (.slice A449 t447.1.Pairs.length c450) t447.1.Pairs, B43 b443 t421.1 A423 c424, Row r_api_Pair 87 (.slice A423 t421.1.Pairs.length c424) t421.1.Pairs, B43 b417 t395.1 A397 c398, Row r_api_Pair 87 (.slice A397 t395.1.Pairs.length c398) t395.1.Pairs]) 24 (Ls 86 [0, 1, 2, 3, 4, 5, 6, 7, 8, 9, 10, 11, 12, 13, 14, 15, 16, 17, 18, 19, 20, 21, 22, 23, 24, 25, 26, 27, 28, 29, 30, 31, 32, 33, 34, 35, 36, 37, 38, 39, 40, 41, 42, 43, 44, 45, 46, 47, 48, 49, 50, 51, 52, 53, 54, 55, 56, 57, 58, 59, 60, 61]) ?_ ?_
  rotate_left
  · intro hrest
    have H := o873h
    clear o873h o873H
    rcases iteS H with ⟨hb871, H⟩ | ⟨hb871, H⟩
    · skip
      have D23 : ∃ Mx, Hp.le M519 Mx ∧ St _ Mx F [_, _, _, _, _, _, _, _, _, _, _, _] := ⟨_, Hp.le_refl _, S.pick [0, 1, 2, 3, 9, 10, 11, 12, 13, 14, 15, 16] (by decide)⟩
      refine Wa_takeN (i := 55) rfl (by as_aux_lemma => kernel_rfl) rfl rfl rfl (skF hb871) D23 ?_
      refine Wa_takeN (i := 56) rfl (by as_aux_lemma => kernel_rfl) rfl rfl rfl (skF hb871) D23 ?_
      refine Wa_takeN (i := 57) rfl (by as_aux_lemma => kernel_rfl) rfl rfl rfl (skF hb871) D23 ?_
      refine Wa_takeN (i := 58) rfl (by as_aux_lemma => kernel_rfl) rfl rfl rfl (skF hb871) D23 ?_
      refine Wa_takeN (i := 59) rfl (by as_aux_lemma => kernel_rfl) rfl rfl rfl (skF hb871) D23 ?_
      refine Wa_takeN (i := 60) rfl (by as_aux_lemma => kernel_rfl) rfl rfl rfl (skF hb871) D23 ?_
      refine Wa_take (i := 61) rfl (by as_aux_lemma => kernel_rfl) rfl rfl (.bool true) rfl (fun w' h' => x_pick (k := true) (congrArg Value.bool hb871) rfl) D23 ?_
      exact hrest _ _ ⟨true, Option.some.inj H, ⟨rfl, rfl, rfl, trivial⟩, E, S.pick [0, 1, 2, 3, 4, 5, 6, 7, 8, 9, 10, 11, 12, 13, 14, 15, 16] (by decide)⟩
    · skip
      have D24 : ∃ Mx, Hp.le M519 Mx ∧ St _ Mx F [_, _, _, _, _, _, _, _, _, _, _, _] := ⟨_, Hp.le_refl _, S.pick [0, 1, 2, 3, 9, 10, 11, 12, 13, 14, 15, 16] (by decide)⟩
      refine Wa_takeY (i := 55) rfl (by as_aux_lemma => kernel_rfl) rfl rfl (.pointer (some ⟨b495, 3, none⟩)) rfl (congrArg some hb871) (fun w' h' => x_fieldAddr (o := 0) (off := 3) Tryd.underlying43 rfl ty41 rfl rfl) D24 ?_
      refine Wa_takeY (i := 56) rfl (by as_aux_lemma => kernel_rfl) rfl rfl (.slice A475 t473.1.Pairs.length c476) rfl (congrArg some hb871) (fun w' h' => x_load (cls_blk h' 4 rfl) ty41 rfl rfl) D24 ?_
      obtain ⟨⟨p874, p875⟩, H⟩ := chkS H
      obtain ⟨b876, o877, _, _, _, ee878, _⟩ := SlW.at' (S.row_read 10 rfl) p874 p875
      refine Wa_takeY (i := 57) rfl (by as_aux_lemma => kernel_rfl) rfl rfl (.pointer (some ⟨b876, o877 + (0 : Int).toNat * 2, none⟩)) rfl (congrArg some hb871) (fun w' h' => x_indexAddr Tryd.underlying41 ty87 (slA ee878) rfl p874 p875) D24 ?_
      refine Wa_takeY (i := 58) rfl (by as_aux_lemma => kernel_rfl) rfl rfl (.agg #[.string (bs ((rd t473.1.Pairs (0 : Int)).Key)), .string (bs ((rd t473.1.Pairs (0 : Int)).Value))]) rfl (congrArg some hb871) (fun w' h' => x_loadA_cls h' 5 rfl ee878 p874 p875 0 (by rintro _ _ rfl; rfl) ty87 rfl rfl rfl) D24 ?_
      refine Wa_takeY (i := 59) rfl (by as_aux_lemma => kernel_rfl) rfl rfl (.agg #[.string (bs ([97] : Str)), .string (bs ([52] : Str))]) rfl (congrArg some hb871) (fun w' h' => x_loadA (cls_blk h' 1 rfl) ty87 rfl (sub_of_extract rfl) rfl rfl) D24 ?_
      refine Wa_takeY (i := 60) rfl (by as_aux_lemma => kernel_rfl) rfl rfl (.bool (!(((rd t473.1.Pairs (0 : Int)).Key == ([97] : Str)) && ((rd t473.1.Pairs (0 : Int)).Value == ([52] : Str))))) rfl (congrArg some hb871) (fun w' h' => x_ne_of (en87 _ _ _ _) rfl (eq87 _ ((rd t473.1.Pairs (0 : Int)).Key) ((rd t473.1.Pairs (0 : Int)).Value) ([97] : Str) ([52] : Str))) D24 ?_
      refine Wa_take (i := 61) rfl (by as_aux_lemma => kernel_rfl) rfl rfl (.bool (!(((rd t473.1.Pairs (0 : Int)).Key == ([97] : Str)) && ((rd t473.1.Pairs (0 : Int)).Value == ([52] : Str))))) rfl (fun w' h' => x_pick (k := false) (congrArg Value.bool hb871) rfl) D24 ?_
      exact hrest _ _ ⟨(!(((rd t473.1.Pairs (0 : Int)).Key == ([97] : Str)) && ((rd t473.1.Pairs (0 : Int)).Value == ([52] : Str)))), Option.some.inj H, ⟨rfl, rfl, rfl, trivial⟩, E, S.pick [0, 1, 2, 3, 4, 5, 6, 7, 8, 9, 10, 11, 12, 13, 14, 15, 16] (by decide)⟩
  clear o873h
  rintro ρ w879 ⟨x872, rfl, hρ, E, S⟩
  rw [agree_eta hρ]
  clear hρ
  have H := o873H
  clear o873H
  refine Wa_take (i := 62) rfl (by as_aux_lemma => kernel_rfl) rfl rfl (.bool x872) rfl (fun w' h' => x_move rfl) (⟨M519, Hp.le_refl M519, (S.pick [0, 1, 2, 3, 9, 10, 11, 12, 13, 14, 15, 16] (by decide))⟩) ?_
  refine Wa_join (fun ρ w' => Agree ρ [(0, .pointer (some ⟨bo0, 0, none⟩)), (129, .bool (x872 || ((t499.1.Pairs.length : Int) != (0 : Int))))] ∧ w879 = w') 18 (Ls 86 [0, 1, 2, 3, 4, 5, 6, 7, 8, 9, 10, 11, 12, 13, 14, 15, 16, 17, 18, 19, 20, 21, 22, 23, 24, 25, 26, 27, 28, 29, 30, 31, 32, 33, 34, 35, 36, 37, 38, 39, 40, 41, 42, 43, 44, 45, 46, 47, 48, 49, 50, 51, 52, 53, 54, 55, 56, 57, 58, 59, 60, 61, 62, 63, 64, 65, 66, 67]) ?_ ?_
  rotate_left
  · intro hrest
    rcases boolCases x872 with hb880 | hb880
    · skip
      have D26 : ∃ Mx, Hp.le M519 Mx ∧ St _ Mx F [_, _, _, _, _, _, _, _, _, _, _, _] := ⟨_, Hp.le_refl _, S.pick [0, 1, 2, 3, 9, 10, 11, 12, 13, 14, 15, 16] (by decide)⟩
      refine Wa_takeY (i := 63) rfl (by as_aux_lemma => kernel_rfl) rfl rfl (.pointer (some ⟨b521, 3, none⟩)) rfl (congrArg some hb880) (fun w' h' => x_fieldAddr (o := 0) (off := 3) Tryd.underlying43 rfl ty41 rfl rfl) D26 ?_
      refine Wa_takeY (i := 64) rfl (by as_aux_lemma => kernel_rfl) rfl rfl (.slice A501 t499.1.Pairs.length c502) rfl (congrArg some hb880) (fun w' h' => x_load (cls_blk h' 2 rfl) ty41 rfl rfl) D26 ?_
      refine Wa_takeY (i := 65) rfl (by as_aux_lemma => kernel_rfl) rfl rfl (.int .i64 (t499.1.Pairs.length : Int)) rfl (congrArg some hb880) (fun w' h' => x_len_slice (n := t499.1.Pairs.length) Tryd.underlying41 rfl) D26 ?_
      refine Wa_takeY (i := 66) rfl (by as_aux_lemma => kernel_rfl) rfl rfl (.bool ((t499.1.Pairs.length : Int) != (0 : Int))) rfl (congrArg some hb880) (fun w' h' => x_ibin rfl rfl rfl rfl) D26 ?_
      refine Wa_take (i := 67) rfl (by as_aux_lemma => kernel_rfl) rfl rfl (.bool ((t499.1.Pairs.length : Int) != (0 : Int))) rfl (fun w' h' => x_pick (k := false) (congrArg Value.bool hb880) rfl) D26 ?_
      exact hrest _ _ ⟨⟨rfl, (by first | rfl | (rw [hb880]; rfl) | (simp only [hb880]; rfl)), trivial⟩, rfl⟩
    · skip
      have D27 : ∃ Mx, Hp.le M519 Mx ∧ St _ Mx F [_, _, _, _, _, _, _, _, _, _, _, _] := ⟨_, Hp.le_refl _, S.pick [0, 1, 2, 3, 9, 10, 11, 12, 13, 14, 15, 16] (by decide)⟩
      refine Wa_takeN (i := 63) rfl (by as_aux_lemma => kernel_rfl) rfl rfl rfl (skF hb880) D27 ?_
      refine Wa_takeN (i := 64) rfl (by as_aux_lemma => kernel_rfl) rfl rfl rfl (skF hb880) D27 ?_
      refine Wa_takeN (i := 65) rfl (by as_aux_lemma => kernel_rfl) rfl rfl rfl (skF hb880) D27 ?_
      refine Wa_takeN (i := 66) rfl (by as_aux_lemma => kernel_rfl) rfl rfl rfl (skF hb880) D27 ?_
      refine Wa_take (i := 67) rfl (by as_aux_lemma => kernel_rfl) rfl rfl (.bool true) rfl (fun w' h' => x_pick (k := true) (congrArg Value.bool hb880) rfl) D27 ?_
      exact hrest _ _ ⟨⟨rfl, (by first | rfl | (rw [hb880]; rfl) | (simp only [hb880]; rfl)), trivial⟩, rfl⟩
  rintro ρ _ ⟨hρ, rfl⟩
  rw [agree_eta hρ]
  clear hρ
  refine Wa_take (i := 68) rfl (by as_aux_lemma => kernel_rfl) rfl rfl (.bool (x872 || ((t499.1.Pairs.length : Int) != (0 : Int)))) rfl (fun w' h' => x_move rfl) (⟨M519, Hp.le_refl M519, (S.pick [0, 1, 2, 3, 9, 10, 11, 12, 13, 14, 15, 16] (by decide))⟩) ?_
  obtain ⟨o920, o920h, o920H⟩ := bindS H
  clear H
  refine Wa_join (fun ρ w' => ∃ (x904 : Bool) (x905 : model_Model) (A906 : Option Addr) (c907 : Nat) (A909 : Option Addr) (c910 : Nat) (A912 : Option Addr) (c913 : Nat) (A915 : Option Addr) (c916 : Nat) (vs918 : List (Str × Value)) (Mj : Hp), (x904, x905) = o920 ∧ Agree ρ [(0, .pointer (some ⟨bo0, 0, none⟩)), (135, .bool x904)] ∧ M519.le Mj ∧ Ext w w' ∧ St w' Mj F [MapC encS (fun v : Value => v) A915 vs918, Row r_model_tx 99 (.slice A912 x905.txs.length c913) x905.txs, MapC (Value.int .i64) (Value.int .i64) A909 x905.many, MapC enc_model_name (Value.int .i64) A906 x905.names, Blk b528 (.cells #[.string (bs ([98] : Str)), .string (bs ([49] : Str))] 87 (0, 0)), Blk b525 (.cells #[.string (bs ([97] : Str)), .string (bs ([52] : Str))] 87 (0, 0)), B43 b521 t499.1 A501 c502, Row r_api_Pair 87 (.slice A501 t499.1.Pairs.length c502) t499.1.Pairs, B94 bo0 x905 A906 A909 A912 c913 A915, B43 b495 t473.1 A475 c476, Row r_api_Pair 87 (.slice A475 t473.1.Pairs.length c476) t473.1.Pairs, B43 b469 t447.1 A449 c450, Row r_api_Pair 87 (.slice A449 t447.1.Pairs.length c450) t447.1.Pairs, B43 b443 t421.1 A423 c424, Row r_api_Pair 87 (.slice A423 t421.1.Pairs.length c424) t421.1.Pairs, B43 b417 t395.1 A397 c398, Row r_api_Pair 87 (.slice A397 t395.1.Pairs.length c398) t395.1.Pairs] ∧ MRel r_model_row Mj x905.rows vs918) 12 (Ls 86 [0, 1, 2, 3, 4, 5, 6, 7, 8, 9, 10, 11, 12, 13, 14, 15, 16, 17, 18, 19, 20, 21, 22, 23, 24, 25, 26, 27, 28, 29, 30, 31, 32, 33, 34, 35, 36, 37, 38, 39, 40, 41, 42, 43, 44, 45, 46, 47, 48, 49, 50, 51, 52, 53, 54, 55, 56, 57, 58, 59, 60, 61, 62, 63, 64, 65, 66, 67, 68, 69, 70, 71, 72, 73]) ?_ ?_
  rotate_left
  · intro hrest
    have H := o920h
    clear o920h o920H
    rcases iteS H with ⟨hb903, H⟩ | ⟨hb903, H⟩
    · skip
      have D29 : ∃ Mx, Hp.le M519 Mx ∧ St _ Mx F [_, _, _, _, _, _, _, _, _, _, _, _] := ⟨_, Hp.le_refl _, S.pick [0, 1, 2, 3, 9, 10, 11, 12, 13, 14, 15, 16] (by decide)⟩
      refine Wa_takeN (i := 69) rfl (by as_aux_lemma => kernel_rfl) rfl rfl rfl (skF hb903) D29 ?_
      refine Wa_takeN (i := 70) rfl (by as_aux_lemma => kernel_rfl) rfl rfl rfl (skF hb903) D29 ?_
      refine Wa_takeN (i := 71) rfl (by as_aux_lemma => kernel_rfl) rfl rfl rfl (skF hb903) D29 ?_
      refine Wa_takeN (i := 72) rfl (by as_aux_lemma => kernel_rfl) rfl rfl rfl (skF hb903) D29 ?_
      refine Wa_take (i := 73) rfl (by as_aux_lemma => kernel_rfl) rfl rfl (.bool true) rfl (fun w' h' => x_pick (k := true) (congrArg Value.bool hb903) rfl) D29 ?_
      exact hrest _ _ ⟨true, t499.2, A504, c505, A507, c508, A510, c511, A513, c514, vs516, M519, Option.some.inj H, ⟨rfl, rfl, trivial⟩, (Hp.le_refl M519), E, S.pick [8, 7, 6, 5, 0, 1, 2, 3, 4, 9, 10, 11, 12, 13, 14, 15, 16] (by decide), hm517⟩
    · skip
      refine Wa_takeY (i := 69) rfl (by as_aux_lemma => kernel_rfl) rfl rfl (.pointer (some ⟨bo0, 0, none⟩)) rfl (congrArg some hb903) (fun w' h' => x_move rfl) (⟨M519, Hp.le_refl M519, (S.pick [0, 1, 2, 3, 9, 10, 11, 12, 13, 14, 15, 16] (by decide))⟩) ?_
      refine Wa_solo (i := 70) rfl (by as_aux_lemma => kernel_rfl) ?_
      refine W_yes (congrArg some hb903) ?_
      obtain ⟨t921, ht922, H⟩ := bindS H
      refine W_callF fn31 (ferrymanlaw16_on.con k M519 (1 : Int) (0 : Int) ([] : Str) ([] : Str) t921  ht922) S rfl rfl (by rintro _ _ _ ⟨_, rfl⟩; exact flat_nil) ?_
      rintro _ w923 _ Γ' E' S ⟨rfl, rfl⟩
      replace E := E.trans E'
      clear E'
      refine Wl_nil (on_n ⟨.inr ⟨M519, Hp.le_refl M519, (S.pick [0, 1, 2, 3, 9, 10, 11, 12, 13, 14, 15, 16] (by decide))⟩, ?_⟩)
      refine Wa_solo (i := 71) rfl (by as_aux_lemma => kernel_rfl) ?_
      refine W_yes (congrArg some hb903) ?_
      obtain ⟨t924, ht925, H⟩ := bindS H
      replace S : St w923 M519 F [_, _, _, _, _, _, _, _, _, _, _, _, _, _, _, _, _] := S.pick [4, 5, 6, 7, 8, 0, 1, 2, 3, 9, 10, 11, 12, 13, 14, 15, 16] (by decide)
      refine W_call fn32 (ferrymanlaw16_is_POOOO.con k M519 A504 c505 A507 c508 A510 c511 A513 c514 vs516 t499.2 (0 : Int) t921 (0 : Int) false ([] : Str) bo0 t924 hm517 hg0 ht925) (Γ1 := [_, _, _, _, _]) (Γ2 := [_, _, _, _, _, _, _, _, _, _, _, _]) S rfl rfl ?_
      rintro _ w940 M941 Γ' hM942 E' S ⟨A926, c927, A929, c930, A932, c933, A935, c936, vs938, rfl, hm939, rfl⟩
      replace hg0 : ∃ gt fr, _ := (let ⟨gt, fr, h8⟩ := hg0; ⟨gt, fr, hM942 _ _ h8⟩)
      replace HM := Hp.le_trans HM hM942
      replace hM110 := Hp.le_trans hM110 hM942
      replace hM198 := Hp.le_trans hM198 hM942
      replace hM286 := Hp.le_trans hM286 hM942
      replace hM393 := Hp.le_trans hM393 hM942
      replace LE804 := Hp.le_trans LE804 hM942
      replace hm0_11 := MRel.mono hm0_11 hM942
      replace hm19 := MRel.mono hm19 hM942
      replace hm83 := MRel.mono hm83 hM942
      replace hm171 := MRel.mono hm171 hM942
      replace hm259 := MRel.mono hm259 hM942
      replace hm366 := MRel.mono hm366 hM942
      replace hm413 := MRel.mono hm413 hM942
      replace hm439 := MRel.mono hm439 hM942
      replace hm465 := MRel.mono hm465 hM942
      replace hm491 := MRel.mono hm491 hM942
      replace hm517 := MRel.mono hm517 hM942
      replace E := E.trans E'
      clear E'
      replace S : St w940 M941 F [_, _, _, _, _, _, _, _, _, _, _, _, _, _, _, _, _] := S
      refine Wl_nil (on_n ⟨.inr ⟨M941, LE804, (S.pick [5, 6, 7, 8, 9, 10, 11, 12, 13, 14, 15, 16] (by decide))⟩, ?_⟩)
      refine Wa_takeY (i := 72) rfl (by as_aux_lemma => kernel_rfl) rfl rfl (.bool (!t924.1)) rfl (congrArg some hb903) (fun w' h' => x_not (b := t924.1) rfl) (⟨M941, LE804, (S.pick [5, 6, 7, 8, 9, 10, 11, 12, 13, 14, 15, 16] (by decide))⟩) ?_
      refine Wa_take (i := 73) rfl (by as_aux_lemma => kernel_rfl) rfl rfl (.bool (!t924.1)) rfl (fun w' h' => x_pick (k := false) (congrArg Value.bool hb903) rfl) (⟨M941, LE804, (S.pick [5, 6, 7, 8, 9, 10, 11, 12, 13, 14, 15, 16] (by decide))⟩) ?_
      exact hrest _ _ ⟨(!t924.1), t924.2, A926, c927, A929, c930, A932, c933, A935, c936, vs938, M941, Option.some.inj H, ⟨rfl, rfl, trivial⟩, LE804, E, S.pick [4, 3, 2, 1, 5, 6, 7, 8, 0, 9, 10, 11, 12, 13, 14, 15, 16] (by decide), hm939⟩
  clear o920h
  rintro ρ w943 ⟨x904, x905, A906, c907, A909, c910, A912, c913, A915, c916, vs918, M944, rfl, hρ, hM945, E, S, hm919⟩
  rw [agree_eta hρ]
  clear hρ
  replace hg0 : ∃ gt fr, _ := (let ⟨gt, fr, h8⟩ := hg0; ⟨gt, fr, hM945 _ _ h8⟩)
  replace HM := Hp.le_trans HM hM945
  replace hM110 := Hp.le_trans hM110 hM945
  replace hM198 := Hp.le_trans hM198 hM945
  replace hM286 := Hp.le_trans hM286 hM945
  replace hM393 := Hp.le_trans hM393 hM945
  replace LE804 := Hp.le_trans LE804 hM945
  replace hm0_11 := MRel.mono hm0_11 hM945
  replace hm19 := MRel.mono hm19 hM945
  replace hm83 := MRel.mono hm83 hM945
  replace hm171 := MRel.mono hm171 hM945
  replace hm259 := MRel.mono hm259 hM945
  replace hm366 := MRel.mono hm366 hM945
  replace hm413 := MRel.mono hm413 hM945
  replace hm439 := MRel.mono hm439 hM945
  replace hm465 := MRel.mono hm465 hM945
  replace hm491 := MRel.mono hm491 hM945
  replace hm517 := MRel.mono hm517 hM945
  have H := o920H
  clear o920H
  refine Wa_take (i := 74) rfl (by as_aux_lemma => kernel_rfl) rfl rfl (.bool x904) rfl (fun w' h' => x_move rfl) (⟨M944, hM945, (S.pick [4, 5, 6, 7, 9, 10, 11, 12, 13, 14, 15, 16] (by decide))⟩) ?_
  obtain ⟨o985, o985h, o985H⟩ := bindS H
  clear H
  refine Wa_join (fun ρ w' => ∃ (x969 : Bool) (x970 : model_Model) (A971 : Option Addr) (c972 : Nat) (A974 : Option Addr) (c975 : Nat) (A977 : Option Addr) (c978 : Nat) (A980 : Option Addr) (c981 : Nat) (vs983 : List (Str × Value)) (Mj : Hp), (x969, x970) = o985 ∧ Agree ρ [(0, .pointer (some ⟨bo0, 0, none⟩)), (141, .bool x969)] ∧ M944.le Mj ∧ Ext w w' ∧ St w' Mj F [MapC encS (fun v : Value => v) A980 vs983, Row r_model_tx 99 (.slice A977 x970.txs.length c978) x970.txs, MapC (Value.int .i64) (Value.int .i64) A974 x970.many, MapC enc_model_name (Value.int .i64) A971 x970.names, Blk b528 (.cells #[.string (bs ([98] : Str)), .string (bs ([49] : Str))] 87 (0, 0)), Blk b525 (.cells #[.string (bs ([97] : Str)), .string (bs ([52] : Str))] 87 (0, 0)), B43 b521 t499.1 A501 c502, Row r_api_Pair 87 (.slice A501 t499.1.Pairs.length c502) t499.1.Pairs, B94 bo0 x970 A971 A974 A977 c978 A980, B43 b495 t473.1 A475 c476, Row r_api_Pair 87 (.slice A475 t473.1.Pairs.length c476) t473.1.Pairs, B43 b469 t447.1 A449 c450, Row r_api_Pair 87 (.slice A449 t447.1.Pairs.length c450) t447.1.Pairs, B43 b443 t421.1 A423 c424, Row r_api_Pair 87 (.slice A423 t421.1.Pairs.length c424) t421.1.Pairs, B43 b417 t395.1 A397 c398, Row r_api_Pair 87 (.slice A397 t395.1.Pairs.length c398) t395.1.Pairs] ∧ MRel r_model_row Mj x970.rows vs983) 6 (Ls 86 [0, 1, 2, 3, 4, 5, 6, 7, 8, 9, 10, 11, 12, 13, 14, 15, 16, 17, 18, 19, 20, 21, 22, 23, 24, 25, 26, 27, 28, 29, 30, 31, 32, 33, 34, 35, 36, 37, 38, 39, 40, 41, 42, 43, 44, 45, 46, 47, 48, 49, 50, 51, 52, 53, 54, 55, 56, 57, 58, 59, 60, 61, 62, 63, 64, 65, 66, 67, 68, 69, 70, 71, 72, 73, 74, 75, 76, 77, 78, 79]) ?_ ?_
  rotate_left
  · intro hrest
    have H := o985h
    clear o985h o985H
    have LE986 := Hp.le_refl M944
    rcases iteS H with ⟨hb968, H⟩ | ⟨hb968, H⟩
    · skip
      refine Wa_takeN (i := 75) rfl (by as_aux_lemma => kernel_rfl) rfl rfl rfl (skF hb968) (⟨M944, hM945, (S.pick [4, 5, 6, 7, 9, 10, 11, 12, 13, 14, 15, 16] (by decide))⟩) ?_
      refine Wa_takeN (i := 76) rfl (by as_aux_lemma => kernel_rfl) rfl rfl rfl (skF hb968) (⟨M944, hM945, (S.pick [4, 5, 6, 7, 9, 10, 11, 12, 13, 14, 15, 16] (by decide))⟩) ?_
      refine Wa_takeN (i := 77) rfl (by as_aux_lemma => kernel_rfl) rfl rfl rfl (skF hb968) (⟨M944, hM945, (S.pick [4, 5, 6, 7, 9, 10, 11, 12, 13, 14, 15, 16] (by decide))⟩) ?_
      refine Wa_takeN (i := 78) rfl (by as_aux_lemma => kernel_rfl) rfl rfl rfl (skF hb968) (⟨M944, hM945, (S.pick [4, 5, 6, 7, 9, 10, 11, 12, 13, 14, 15, 16] (by decide))⟩) ?_
      refine Wa_take (i := 79) rfl (by as_aux_lemma => kernel_rfl) rfl rfl (.bool true) rfl (fun w' h' => x_pick (k := true) (congrArg Value.bool hb968) rfl) (⟨M944, hM945, (S.pick [4, 5, 6, 7, 9, 10, 11, 12, 13, 14, 15, 16] (by decide))⟩) ?_
      exact hrest _ _ ⟨true, x905, A906, c907, A909, c910, A912, c913, A915, c916, vs918, M944, Option.some.inj H, ⟨rfl, rfl, trivial⟩, (Hp.le_refl M944), E, S.pick [0, 1, 2, 3, 4, 5, 6, 7, 8, 9, 10, 11, 12, 13, 14, 15, 16] (by decide), hm919⟩
    · skip
      refine Wa_takeY (i := 75) rfl (by as_aux_lemma => kernel_rfl) rfl rfl (.pointer (some ⟨bo0, 0, none⟩)) rfl (congrArg some hb968) (fun w' h' => x_move rfl) (⟨M944, hM945, (S.pick [4, 5, 6, 7, 9, 10, 11, 12, 13, 14, 15, 16] (by decide))⟩) ?_
      refine Wa_solo (i := 76) rfl (by as_aux_lemma => kernel_rfl) ?_
      refine W_yes (congrArg some hb968) ?_
      obtain ⟨t987, ht988, H⟩ := bindS H
      refine W_callF fn31 (ferrymanlaw16_on.con k M944 (1 : Int) (0 : Int) ([] : Str) ([] : Str) t987  ht988) S rfl rfl (by rintro _ _ _ ⟨_, rfl⟩; exact flat_nil) ?_
      rintro _ w989 _ Γ' E' S ⟨rfl, rfl⟩
      replace E := E.trans E'
      clear E'
      refine Wl_nil (on_n ⟨.inr ⟨M944, hM945, (S.pick [4, 5, 6, 7, 9, 10, 11, 12, 13, 14, 15, 16] (by decide))⟩, ?_⟩)
      refine Wa_solo (i := 77) rfl (by as_aux_lemma => kernel_rfl) ?_
      refine W_yes (congrArg some hb968) ?_
      obtain ⟨t990, ht991, H⟩ := bindS H
      replace S : St w989 M944 F [_, _, _, _, _, _, _, _, _, _, _, _, _, _, _, _, _] := S.pick [8, 3, 2, 1, 0, 4, 5, 6, 7, 9, 10, 11, 12, 13, 14, 15, 16] (by decide)
      refine W_call fn32 (ferrymanlaw16_is_POOOO.con k M944 A906 c907 A909 c910 A912 c913 A915 c916 vs918 x905 (1 : Int) t987 (34 : Int) false ([] : Str) bo0 t990 hm919 hg0 ht991) (Γ1 := [_, _, _, _, _]) (Γ2 := [_, _, _, _, _, _, _, _, _, _, _, _]) S rfl rfl ?_
      rintro _ w1006 M1007 Γ' hM1008 E' S ⟨A992, c993, A995, c996, A998, c999, A1001, c1002, vs1004, rfl, hm1005, rfl⟩
      replace hg0 : ∃ gt fr, _ := (let ⟨gt, fr, h8⟩ := hg0; ⟨gt, fr, hM1008 _ _ h8⟩)
      replace HM := Hp.le_trans HM hM1008
      replace hM110 := Hp.le_trans hM110 hM1008
      replace hM198 := Hp.le_trans hM198 hM1008
      replace hM286 := Hp.le_trans hM286 hM1008
      replace hM393 := Hp.le_trans hM393 hM1008
      replace hM945 := Hp.le_trans hM945 hM1008
      replace LE986 := Hp.le_trans LE986 hM1008
      replace hm0_11 := MRel.mono hm0_11 hM1008
      replace hm19 := MRel.mono hm19 hM1008
      replace hm83 := MRel.mono hm83 hM1008
      replace hm171 := MRel.mono hm171 hM1008
      replace hm259 := MRel.mono hm259 hM1008
      replace hm366 := MRel.mono hm366 hM1008
      replace hm413 := MRel.mono hm413 hM1008
      replace hm439 := MRel.mono hm439 hM1008
      replace hm465 := MRel.mono hm465 hM1008
      replace hm491 := MRel.mono hm491 hM1008
      replace hm517 := MRel.mono hm517 hM1008
      replace hm919 := MRel.mono hm919 hM1008
      replace E := E.trans E'
      clear E'
      replace S : St w1006 M1007 F [_, _, _, _, _, _, _, _, _, _, _, _, _, _, _, _, _] := S
      refine Wl_nil (on_n ⟨.inr ⟨M1007, hM945, (S.pick [5, 6, 7, 8, 9, 10, 11, 12, 13, 14, 15, 16] (by decide))⟩, ?_⟩)
      refine Wa_takeY (i := 78) rfl (by as_aux_lemma => kernel_rfl) rfl rfl (.bool (!t990.1)) rfl (congrArg some hb968) (fun w' h' => x_not (b := t990.1) rfl) (⟨M1007, hM945, (S.pick [5, 6, 7, 8, 9, 10, 11, 12, 13, 14, 15, 16] (by decide))⟩) ?_
      refine Wa_take (i := 79) rfl (by as_aux_lemma => kernel_rfl) rfl rfl (.bool (!t990.1)) rfl (fun w' h' => x_pick (k := false) (congrArg Value.bool hb968) rfl) (⟨M1007, hM945, (S.pick [5, 6, 7, 8, 9, 10, 11, 12, 13, 14, 15, 16] (by decide))⟩) ?_
      exact hrest _ _ ⟨(!t990.1), t990.2, A992, c993, A995, c996, A998, c999, A1001, c1002, vs1004, M1007, Option.some.inj H, ⟨rfl, rfl, trivial⟩, LE986, E, S.pick [4, 3, 2, 1, 5, 6, 7, 8, 0, 9, 10, 11, 12, 13, 14, 15, 16] (by decide), hm1005⟩
  clear o985h
  rintro ρ w1009 ⟨x969, x970, A971, c972, A974, c975, A977, c978, A980, c981, vs983, M1010, rfl, hρ, hM1011, E, S, hm984⟩
  rw [agree_eta hρ]
  clear hρ
  replace hg0 : ∃ gt fr, _ := (let ⟨gt, fr, h8⟩ := hg0; ⟨gt, fr, hM1011 _ _ h8⟩)
  replace HM := Hp.le_trans HM hM1011
  replace hM110 := Hp.le_trans hM110 hM1011
  replace hM198 := Hp.le_trans hM198 hM1011
  replace hM286 := Hp.le_trans hM286 hM1011
  replace hM393 := Hp.le_trans hM393 hM1011
  replace hM945 := Hp.le_trans hM945 hM1011
  replace hm0_11 := MRel.mono hm0_11 hM1011
  replace hm19 := MRel.mono hm19 hM1011
  replace hm83 := MRel.mono hm83 hM1011
  replace hm171 := MRel.mono hm171 hM1011
  replace hm259 := MRel.mono hm259 hM1011
  replace hm366 := MRel.mono hm366 hM1011
  replace hm413 := MRel.mono hm413 hM1011
  replace hm439 := MRel.mono hm439 hM1011
  replace hm465 := MRel.mono hm465 hM1011
  replace hm491 := MRel.mono hm491 hM1011
  replace hm517 := MRel.mono hm517 hM1011
  replace hm919 := MRel.mono hm919 hM1011
  have H := o985H
  clear o985H
  refine Wa_take (i := 80) rfl (by as_aux_lemma => kernel_rfl) rfl rfl (.bool x969) rfl (fun w' h' => x_move rfl) (⟨M1010, hM945, (S.pick [4, 5, 6, 7, 9, 10, 11, 12, 13, 14, 15, 16] (by decide))⟩) ?_
  obtain ⟨o1051, o1051h, o1051H⟩ := bindS H
  clear H
  refine Wa_join (fun ρ w' => ∃ (x1035 : Bool) (x1036 : model_Model) (A1037 : Option Addr) (c1038 : Nat) (A1040 : Option Addr) (c1041 : Nat) (A1043 : Option Addr) (c1044 : Nat) (A1046 : Option Addr) (c1047 : Nat) (vs1049 : List (Str × Value)) (Mj : Hp), (x1035, x1036) = o1051 ∧ Agree ρ [(0, .pointer (some ⟨bo0, 0, none⟩)), (147, .bool x1035)] ∧ M1010.le Mj ∧ Ext w w' ∧ St w' Mj F [MapC encS (fun v : Value => v) A1046 vs1049, Row r_model_tx 99 (.slice A1043 x1036.txs.length c1044) x1036.txs, MapC (Value.int .i64) (Value.int .i64) A1040 x1036.many, MapC enc_model_name (Value.int .i64) A1037 x1036.names, Blk b528 (.cells #[.string (bs ([98] : Str)), .string (bs ([49] : Str))] 87 (0, 0)), Blk b525 (.cells #[.string (bs ([97] : Str)), .string (bs ([52] : Str))] 87 (0, 0)), B43 b521 t499.1 A501 c502, Row r_api_Pair 87 (.slice A501 t499.1.Pairs.length c502) t499.1.Pairs, B94 bo0 x1036 A1037 A1040 A1043 c1044 A1046, B43 b495 t473.1 A475 c476, Row r_api_Pair 87 (.slice A475 t473.1.Pairs.length c476) t473.1.Pairs, B43 b469 t447.1 A449 c450, Row r_api_Pair 87 (.slice A449 t447.1.Pairs.length c450) t447.1.Pairs, B43 b443 t421.1 A423 c424, Row r_api_Pair 87 (.slice A423 t421.1.Pairs.length c424) t421.1.Pairs, B43 b417 t395.1 A397 c398, Row r_api_Pair 87 (.slice A397 t395.1.Pairs.length c398) t395.1.Pairs] ∧ MRel r_model_row Mj x1036.rows vs1049) 0 (Ls 86 [0, 1, 2, 3, 4, 5, 6, 7, 8, 9, 10, 11, 12, 13, 14, 15, 16, 17, 18, 19, 20, 21, 22, 23, 24, 25, 26, 27, 28, 29, 30, 31, 32, 33, 34, 35, 36, 37, 38, 39, 40, 41, 42, 43, 44, 45, 46, 47, 48, 49, 50, 51, 52, 53, 54, 55, 56, 57, 58, 59, 60, 61, 62, 63, 64, 65, 66, 67, 68, 69, 70, 71, 72, 73, 74, 75, 76, 77, 78, 79, 80, 81, 82, 83, 84, 85]) ?_ ?_
  rotate_left
  · intro hrest
    have H := o1051h
    clear o1051h o1051H
    have LE1052 := Hp.le_refl M1010
    rcases iteS H with ⟨hb1034, H⟩ | ⟨hb1034, H⟩
    · skip
      refine Wa_takeN (i := 81) rfl (by as_aux_lemma => kernel_rfl) rfl rfl rfl (skF hb1034) (⟨M1010, hM945, (S.pick [4, 5, 6, 7, 9, 10, 11, 12, 13, 14, 15, 16] (by decide))⟩) ?_
      refine Wa_takeN (i := 82) rfl (by as_aux_lemma => kernel_rfl) rfl rfl rfl (skF hb1034) (⟨M1010, hM945, (S.pick [4, 5, 6, 7, 9, 10, 11, 12, 13, 14, 15, 16] (by decide))⟩) ?_
      refine Wa_takeN (i := 83) rfl (by as_aux_lemma => kernel_rfl) rfl rfl rfl (skF hb1034) (⟨M1010, hM945, (S.pick [4, 5, 6, 7, 9, 10, 11, 12, 13, 14, 15, 16] (by decide))⟩) ?_
      refine Wa_takeN (i := 84) rfl (by as_aux_lemma => kernel_rfl) rfl rfl rfl (skF hb1034) (⟨M1010, hM945, (S.pick [4, 5, 6, 7, 9, 10, 11, 12, 13, 14, 15, 16] (by decide))⟩) ?_
      refine Wa_take (i := 85) rfl (by as_aux_lemma => kernel_rfl) rfl rfl (.bool true) rfl (fun w' h' => x_pick (k := true) (congrArg Value.bool hb1034) rfl) (⟨M1010, hM945, (S.pick [4, 5, 6, 7, 9, 10, 11, 12, 13, 14, 15, 16] (by decide))⟩) ?_
      exact hrest _ _ ⟨true, x970, A971, c972, A974, c975, A977, c978, A980, c981, vs983, M1010, Option.some.inj H, ⟨rfl, rfl, trivial⟩, (Hp.le_refl M1010), E, S.pick [0, 1, 2, 3, 4, 5, 6, 7, 8, 9, 10, 11, 12, 13, 14, 15, 16] (by decide), hm984⟩
    · skip
      refine Wa_takeY (i := 81) rfl (by as_aux_lemma => kernel_rfl) rfl rfl (.pointer (some ⟨bo0, 0, none⟩)) rfl (congrArg some hb1034) (fun w' h' => x_move rfl) (⟨M1010, hM945, (S.pick [4, 5, 6, 7, 9, 10, 11, 12, 13, 14, 15, 16] (by decide))⟩) ?_
      refine Wa_solo (i := 82) rfl (by as_aux_lemma => kernel_rfl) ?_
      refine W_yes (congrArg some hb1034) ?_
      obtain ⟨t1053, ht1054, H⟩ := bindS H
      refine W_callF fn31 (ferrymanlaw16_on.con k M1010 (6 : Int) (2 : Int) ([] : Str) ([] : Str) t1053  ht1054) S rfl rfl (by rintro _ _ _ ⟨_, rfl⟩; exact flat_nil) ?_
      rintro _ w1055 _ Γ' E' S ⟨rfl, rfl⟩
      replace E := E.trans E'
      clear E'
      refine Wl_nil (on_n ⟨.inr ⟨M1010, hM945, (S.pick [4, 5, 6, 7, 9, 10, 11, 12, 13, 14, 15, 16] (by decide))⟩, ?_⟩)
      refine Wa_solo (i := 83) rfl (by as_aux_lemma => kernel_rfl) ?_
      refine W_yes (congrArg some hb1034) ?_
      obtain ⟨t1056, ht1057, H⟩ := bindS H
      replace S : St w1055 M1010 F [_, _, _, _, _, _, _, _, _, _, _, _, _, _, _, _, _] := S.pick [8, 3, 2, 1, 0, 4, 5, 6, 7, 9, 10, 11, 12, 13, 14, 15, 16] (by decide)
      refine W_call fn32 (ferrymanlaw16_is_POOOO.con k M1010 A971 c972 A974 c975 A977 c978 A980 c981 vs983 x970 (0 : Int) t1053 (0 : Int) false ([] : Str) bo0 t1056 hm984 hg0 ht1057) (Γ1 := [_, _, _, _, _]) (Γ2 := [_, _, _, _, _, _, _, _, _, _, _, _]) S rfl rfl ?_
      rintro _ w1072 M1073 Γ' hM1074 E' S ⟨A1058, c1059, A1061, c1062, A1064, c1065, A1067, c1068, vs1070, rfl, hm1071, rfl⟩
      replace hg0 : ∃ gt fr, _ := (let ⟨gt, fr, h8⟩ := hg0; ⟨gt, fr, hM1074 _ _ h8⟩)
      replace HM := Hp.le_trans HM hM1074
      replace hM110 := Hp.le_trans hM110 hM1074
      replace hM198 := Hp.le_trans hM198 hM1074
      replace hM286 := Hp.le_trans hM286 hM1074
      replace hM393 := Hp.le_trans hM393 hM1074
      replace hM945 := Hp.le_trans hM945 hM1074
      replace hM1011 := Hp.le_trans hM1011 hM1074
      replace LE1052 := Hp.le_trans LE1052 hM1074
      replace hm0_11 := MRel.mono hm0_11 hM1074
      replace hm19 := MRel.mono hm19 hM1074
      replace hm83 := MRel.mono hm83 hM1074
      replace hm171 := MRel.mono hm171 hM1074
      replace hm259 := MRel.mono hm259 hM1074
      replace hm366 := MRel.mono hm366 hM1074
      replace hm413 := MRel.mono hm413 hM1074
      replace hm439 := MRel.mono hm439 hM1074
      replace hm465 := MRel.mono hm465 hM1074
      replace hm491 := MRel.mono hm491 hM1074
      replace hm517 := MRel.mono hm517 hM1074
      replace hm919 := MRel.mono hm919 hM1074
      replace hm984 := MRel.mono hm984 hM1074
      replace E := E.trans E'
      clear E'
      replace S : St w1072 M1073 F [_, _, _, _, _, _, _, _, _, _, _, _, _, _, _, _, _] := S
      refine Wl_nil (on_n ⟨.inr ⟨M1073, hM945, (S.pick [5, 6, 7, 8, 9, 10, 11, 12, 13, 14, 15, 16] (by decide))⟩, ?_⟩)
      refine Wa_takeY (i := 84) rfl (by as_aux_lemma => kernel_rfl) rfl rfl (.bool (!t1056.1)) rfl (congrArg some hb1034) (fun w' h' => x_not (b := t1056.1) rfl) (⟨M1073, hM945, (S.pick [5, 6, 7, 8, 9, 10, 11, 12, 13, 14, 15, 16] (by decide))⟩) ?_
      refine Wa_take (i := 85) rfl (by as_aux_lemma => kernel_rfl) rfl rfl (.bool (!t1056.1)) rfl (fun w' h' => x_pick (k := false) (congrArg Value.bool hb1034) rfl) (⟨M1073, hM945, (S.pick [5, 6, 7, 8, 9, 10, 11, 12, 13, 14, 15, 16] (by decide))⟩) ?_
      exact hrest _ _ ⟨(!t1056.1), t1056.2, A1058, c1059, A1061, c1062, A1064, c1065, A1067, c1068, vs1070, M1073, Option.some.inj H, ⟨rfl, rfl, trivial⟩, LE1052, E, S.pick [4, 3, 2, 1, 5, 6, 7, 8, 0, 9, 10, 11, 12, 13, 14, 15, 16] (by decide), hm1071⟩
  clear o1051h
  rintro ρ w1075 ⟨x1035, x1036, A1037, c1038, A1040, c1041, A1043, c1044, A1046, c1047, vs1049, M1076, rfl, hρ, hM1077, E, S, hm1050⟩
  rw [agree_eta hρ]
  clear hρ
  replace hg0 : ∃ gt fr, _ := (let ⟨gt, fr, h8⟩ := hg0; ⟨gt, fr, hM1077 _ _ h8⟩)
  replace HM := Hp.le_trans HM hM1077
  replace hM110 := Hp.le_trans hM110 hM1077
  replace hM198 := Hp.le_trans hM198 hM1077
  replace hM286 := Hp.le_trans hM286 hM1077
  replace hM393 := Hp.le_trans hM393 hM1077
  replace hM945 := Hp.le_trans hM945 hM1077
  replace hM1011 := Hp.le_trans hM1011 hM1077
  replace hm0_11 := MRel.mono hm0_11 hM1077
  replace hm19 := MRel.mono hm19 hM1077
  replace hm83 := MRel.mono hm83 hM1077
  replace hm171 := MRel.mono hm171 hM1077
  replace hm259 := MRel.mono hm259 hM1077
  replace hm366 := MRel.mono hm366 hM1077
  replace hm413 := MRel.mono hm413 hM1077
  replace hm439 := MRel.mono hm439 hM1077
  replace hm465 := MRel.mono hm465 hM1077
  replace hm491 := MRel.mono hm491 hM1077
  replace hm517 := MRel.mono hm517 hM1077
  replace hm919 := MRel.mono hm919 hM1077
  replace hm984 := MRel.mono hm984 hM1077
  have H := o1051H
  clear o1051H
  refine Wa_done (by as_aux_lemma => kernel_rfl) ?_
  refine tn ?_
  rcases iteS H with ⟨hb1078, H⟩ | ⟨hb1078, H⟩
  · refine Wp_cond_true (congrArg Value.bool hb1078) ?_
    refine Wp_seq ?_
    refine Wp_region_lit ?_
    refine W_v (.bool false) (x_assign rfl) rfl ?_
    refine Wl_nil ?_
    refine tn ?_
    refine Wp_ret ?_
    refine tr (?_)
    obtain rfl := Option.some.inj H
    exact ⟨_, _, _, fun w1 e1 => run_resR (vs := [.bool false]) (FA.cons (rfl) (FA.nil)), HM, E, S.pick [8, 3, 2, 1, 0] (by decide), ⟨A1037, c1038, A1040, c1041, A1043, c1044, A1046, c1047, vs1049, rfl, hm1050, rfl⟩⟩
  refine Wp_cond_false (congrArg Value.bool hb1078) ?_
  refine Wp_skip ?_
  refine tn ?_
  as_aux_lemma =>
  refine Wp_seq ?_
  refine Wp_seq ?_
  refine Wp_region_lit ?_
  refine W_v (.pointer (some ⟨bo0, 0, none⟩)) (x_move rfl) rfl ?_
  obtain ⟨t1079, ht1080, H⟩ := bindS H
  refine W_callF fn31 (ferrymanlaw16_on.con k M1076 (1 : Int) (0 : Int) ([] : Str) ([] : Str) t1079  ht1080) S rfl rfl (by rintro _ _ _ ⟨_, rfl⟩; exact flat_nil) ?_
  rintro _ w1081 _ Γ' E' S ⟨rfl, rfl⟩
  replace E := E.trans E'
  clear E'
  obtain ⟨t1082, ht1083, H⟩ := bindS H
  replace S : St w1081 M1076 F [_, _, _, _, _, _, _, _, _, _, _, _, _, _, _, _, _] := S.pick [8, 3, 2, 1, 0, 4, 5, 6, 7, 9, 10, 11, 12, 13, 14, 15, 16] (by decide)
  refine W_call fn32 (ferrymanlaw16_is_POOOO.con k M1076 A1037 c1038 A1040 c1041 A1043 c1044 A1046 c1047 vs1049 x1036 (0 : Int) t1079 (0 : Int) false ([] : Str) bo0 t1082 hm1050 hg0 ht1083) (Γ1 := [_, _, _, _, _]) (Γ2 := [_, _, _, _, _, _, _, _, _, _, _, _]) S rfl rfl ?_
  rintro _ w1098 M1099 Γ' hM1100 E' S ⟨A1084, c1085, A1087, c1088, A1090, c1091, A1093, c1094, vs1096, rfl, hm1097, rfl⟩
  replace hg0 : ∃ gt fr, _ := (let ⟨gt, fr, h8⟩ := hg0; ⟨gt, fr, hM1100 _ _ h8⟩)
  replace HM := Hp.le_trans HM hM1100
  replace hM110 := Hp.le_trans hM110 hM1100
  replace hM198 := Hp.le_trans hM198 hM1100
  replace hM286 := Hp.le_trans hM286 hM1100
  replace hM393 := Hp.le_trans hM393 hM1100
  replace hM945 := Hp.le_trans hM945 hM1100
  replace hM1011 := Hp.le_trans hM1011 hM1100
  replace hM1077 := Hp.le_trans hM1077 hM1100
  replace hm0_11 := MRel.mono hm0_11 hM1100
  replace hm19 := MRel.mono hm19 hM1100
  replace hm83 := MRel.mono hm83 hM1100
  replace hm171 := MRel.mono hm171 hM1100
  replace hm259 := MRel.mono hm259 hM1100
  replace hm366 := MRel.mono hm366 hM1100
  replace hm413 := MRel.mono hm413 hM1100
  replace hm439 := MRel.mono hm439 hM1100
  replace hm465 := MRel.mono hm465 hM1100
  replace hm491 := MRel.mono hm491 hM1100
  replace hm517 := MRel.mono hm517 hM1100
  replace hm919 := MRel.mono hm919 hM1100
  replace hm984 := MRel.mono hm984 hM1100
  replace hm1050 := MRel.mono hm1050 hM1100
  replace E := E.trans E'
  clear E'
  replace S : St w1098 M1099 F [_, _, _, _, _, _, _, _, _, _, _, _, _, _, _, _, _] := S
  refine W_v (.bool (!t1082.1)) (x_not (b := t1082.1) rfl) rfl ?_
  refine W_v (.bool (!t1082.1)) (x_move rfl) rfl ?_
  obtain ⟨o1162, o1162h, o1162H⟩ := bindS H
  clear H
  refine Wl_cutN 5 (fun ρ w' => ∃ (x1146 : Bool) (x1147 : model_Model) (A1148 : Option Addr) (c1149 : Nat) (A1151 : Option Addr) (c1152 : Nat) (A1154 : Option Addr) (c1155 : Nat) (A1157 : Option Addr) (c1158 : Nat) (vs1160 : List (Str × Value)) (Mj : Hp), (x1146, x1147) = o1162 ∧ Agree ρ [(0, .pointer (some ⟨bo0, 0, none⟩)), (157, .bool x1146)] ∧ M1099.le Mj ∧ Ext w w' ∧ St w' Mj F [MapC encS (fun v : Value => v) A1157 vs1160, Row r_model_tx 99 (.slice A1154 x1147.txs.length c1155) x1147.txs, MapC (Value.int .i64) (Value.int .i64) A1151 x1147.many, MapC enc_model_name (Value.int .i64) A1148 x1147.names, B94 bo0 x1147 A1148 A1151 A1154 c1155 A1157] ∧ MRel r_model_row Mj x1147.rows vs1160) ?_ ?_
  · as_aux_lemma =>
      have H := o1162h
      have LE1163 := Hp.le_refl M1099
      rcases iteS H with ⟨hb1145, H⟩ | ⟨hb1145, H⟩
      · skip
        refine W_no (skF hb1145) rfl ?_
        refine W_no (skF hb1145) rfl ?_
        refine W_no (skF hb1145) rfl ?_
        refine W_no (skF hb1145) rfl ?_
        refine W_v (.bool true) (x_pick (k := true) (congrArg Value.bool hb1145) rfl) rfl ?_
        refine Wl_nil ?_
        exact ⟨true, t1082.2, A1084, c1085, A1087, c1088, A1090, c1091, A1093, c1094, vs1096, M1099, Option.some.inj H, ⟨rfl, rfl, trivial⟩, (Hp.le_refl M1099), E, S.pick [4, 3, 2, 1, 0] (by decide), hm1097⟩
      · skip
        refine W_yes (congrArg some hb1145) ?_
        refine W_v (.pointer (some ⟨bo0, 0, none⟩)) (x_move rfl) rfl ?_
        refine W_yes (congrArg some hb1145) ?_
        obtain ⟨t1164, ht1165, H⟩ := bindS H
        refine W_callF fn31 (ferrymanlaw16_on.con k M1099 (3 : Int) (3 : Int) ([97] : Str) ([53] : Str) t1164  ht1165) S rfl rfl (by rintro _ _ _ ⟨_, rfl⟩; exact flat_nil) ?_
        rintro _ w1166 _ Γ' E' S ⟨rfl, rfl⟩
        replace E := E.trans E'
        clear E'
        refine W_yes (congrArg some hb1145) ?_
        obtain ⟨t1167, ht1168, H⟩ := bindS H
        refine W_call fn32 (ferrymanlaw16_is_POOOO.con k M1099 A1084 c1085 A1087 c1088 A1090 c1091 A1093 c1094 vs1096 t1082.2 (0 : Int) t1164 (33 : Int) false ([] : Str) bo0 t1167 hm1097 hg0 ht1168) (Γ1 := [_, _, _, _, _]) (Γ2 := [_, _, _, _, _, _, _, _, _, _, _, _]) S rfl rfl ?_
        rintro _ w1183 M1184 Γ' hM1185 E' S ⟨A1169, c1170, A1172, c1173, A1175, c1176, A1178, c1179, vs1181, rfl, hm1182, rfl⟩
        replace hg0 : ∃ gt fr, _ := (let ⟨gt, fr, h8⟩ := hg0; ⟨gt, fr, hM1185 _ _ h8⟩)
        replace HM := Hp.le_trans HM hM1185
        replace hM110 := Hp.le_trans hM110 hM1185
        replace hM198 := Hp.le_trans hM198 hM1185
        replace hM286 := Hp.le_trans hM286 hM1185
        replace hM393 := Hp.le_trans hM393 hM1185
        replace hM945 := Hp.le_trans hM945 hM1185
        replace hM1011 := Hp.le_trans hM1011 hM1185
        replace hM1077 := Hp.le_trans hM1077 hM1185
        replace LE1163 := Hp.le_trans LE1163 hM1185
        replace hm0_11 := MRel.mono hm0_11 hM1185
        replace hm19 := MRel.mono hm19 hM1185
        replace hm83 := MRel.mono hm83 hM1185
        replace hm171 := MRel.mono hm171 hM1185
        replace hm259 := MRel.mono hm259 hM1185
        replace hm366 := MRel.mono hm366 hM1185
        replace hm413 := MRel.mono hm413 hM1185
        replace hm439 := MRel.mono hm439 hM1185
        replace hm465 := MRel.mono hm465 hM1185
        replace hm491 := MRel.mono hm491 hM1185
        replace hm517 := MRel.mono hm517 hM1185
        replace hm919 := MRel.mono hm919 hM1185
        replace hm984 := MRel.mono hm984 hM1185
        replace hm1050 := MRel.mono hm1050 hM1185
        replace hm1097 := MRel.mono hm1097 hM1185
        replace E := E.trans E'
        clear E'
        replace S : St w1183 M1184 F [_, _, _, _, _, _, _, _, _, _, _, _, _, _, _, _, _] := S
        refine W_yes (congrArg some hb1145) ?_
        refine W_v (.bool (!t1167.1)) (x_not (b := t1167.1) rfl) rfl ?_
        refine W_v (.bool (!t1167.1)) (x_pick (k := false) (congrArg Value.bool hb1145) rfl) rfl ?_
        refine Wl_nil ?_
        exact ⟨(!t1167.1), t1167.2, A1169, c1170, A1172, c1173, A1175, c1176, A1178, c1179, vs1181, M1184, Option.some.inj H, ⟨rfl, rfl, trivial⟩, LE1163, E, S.pick [4, 3, 2, 1, 0] (by decide), hm1182⟩
  as_aux_lemma =>
  clear o1162h
  rintro ρ w1186 ⟨x1146, x1147, A1148, c1149, A1151, c1152, A1154, c1155, A1157, c1158, vs1160, M1187, rfl, hρ, hM1188, E, S, hm1161⟩
  rw [agree_eta hρ]
  clear hρ
  replace hg0 : ∃ gt fr, _ := (let ⟨gt, fr, h8⟩ := hg0; ⟨gt, fr, hM1188 _ _ h8⟩)
  replace HM := Hp.le_trans HM hM1188
  replace hM110 := Hp.le_trans hM110 hM1188
  replace hM198 := Hp.le_trans hM198 hM1188
  replace hM286 := Hp.le_trans hM286 hM1188
  replace hM393 := Hp.le_trans hM393 hM1188
  replace hM945 := Hp.le_trans hM945 hM1188
  replace hM1011 := Hp.le_trans hM1011 hM1188
  replace hM1077 := Hp.le_trans hM1077 hM1188
  replace hm0_11 := MRel.mono hm0_11 hM1188
  replace hm19 := MRel.mono hm19 hM1188
  replace hm83 := MRel.mono hm83 hM1188
  replace hm171 := MRel.mono hm171 hM1188
  replace hm259 := MRel.mono hm259 hM1188
  replace hm366 := MRel.mono hm366 hM1188
  replace hm413 := MRel.mono hm413 hM1188
  replace hm439 := MRel.mono hm439 hM1188
  replace hm465 := MRel.mono hm465 hM1188
  replace hm491 := MRel.mono hm491 hM1188
  replace hm517 := MRel.mono hm517 hM1188
  replace hm919 := MRel.mono hm919 hM1188
  replace hm984 := MRel.mono hm984 hM1188
  replace hm1050 := MRel.mono hm1050 hM1188
  replace hm1097 := MRel.mono hm1097 hM1188
  have H := o1162H
  clear o1162H
  refine W_v (.bool x1146) (x_move rfl) rfl ?_
  obtain ⟨o1250, o1250h, o1250H⟩ := bindS H
  clear H
  refine Wl_cutN 5 (fun ρ w' => ∃ (x1234 : Bool) (x1235 : model_Model) (A1236 : Option Addr) (c1237 : Nat) (A1239 : Option Addr) (c1240 : Nat) (A1242 : Option Addr) (c1243 : Nat) (A1245 : Option Addr) (c1246 : Nat) (vs1248 : List (Str × Value)) (Mj : Hp), (x1234, x1235) = o1250 ∧ Agree ρ [(0, .pointer (some ⟨bo0, 0, none⟩)), (163, .bool x1234)] ∧ M1187.le Mj ∧ Ext w w' ∧ St w' Mj F [MapC encS (fun v : Value => v) A1245 vs1248, Row r_model_tx 99 (.slice A1242 x1235.txs.length c1243) x1235.txs, MapC (Value.int .i64) (Value.int .i64) A1239 x1235.many, MapC enc_model_name (Value.int .i64) A1236 x1235.names, B94 bo0 x1235 A1236 A1239 A1242 c1243 A1245] ∧ MRel r_model_row Mj x1235.rows vs1248) ?_ ?_
  · as_aux_lemma =>
      have H := o1250h
      have LE1251 := Hp.le_refl M1187
      rcases iteS H with ⟨hb1233, H⟩ | ⟨hb1233, H⟩
      · skip
        refine W_no (skF hb1233) rfl ?_
        refine W_no (skF hb1233) rfl ?_
        refine W_no (skF hb1233) rfl ?_
        refine W_no (skF hb1233) rfl ?_
        refine W_v (.bool true) (x_pick (k := true) (congrArg Value.bool hb1233) rfl) rfl ?_
        refine Wl_nil ?_
        exact ⟨true, x1147, A1148, c1149, A1151, c1152, A1154, c1155, A1157, c1158, vs1160, M1187, Option.some.inj H, ⟨rfl, rfl, trivial⟩, (Hp.le_refl M1187), E, S.pick [0, 1, 2, 3, 4] (by decide), hm1161⟩
      · skip
        refine W_yes (congrArg some hb1233) ?_
        refine W_v (.pointer (some ⟨bo0, 0, none⟩)) (x_move rfl) rfl ?_
        refine W_yes (congrArg some hb1233) ?_
        obtain ⟨t1252, ht1253, H⟩ := bindS H
        refine W_callF fn31 (ferrymanlaw16_on.con k M1187 (3 : Int) (4 : Int) ([97] : Str) ([53] : Str) t1252  ht1253) S rfl rfl (by rintro _ _ _ ⟨_, rfl⟩; exact flat_nil) ?_
        rintro _ w1254 _ Γ' E' S ⟨rfl, rfl⟩
        replace E := E.trans E'
        clear E'
        refine W_yes (congrArg some hb1233) ?_
        obtain ⟨t1255, ht1256, H⟩ := bindS H
        replace S : St w1254 M1187 F [_, _, _, _, _] := S.pick [4, 3, 2, 1, 0] (by decide)
        refine W_call fn32 (ferrymanlaw16_is_POOOO.con k M1187 A1148 c1149 A1151 c1152 A1154 c1155 A1157 c1158 vs1160 x1147 (0 : Int) t1252 (0 : Int) false ([] : Str) bo0 t1255 hm1161 hg0 ht1256) (Γ1 := [_, _, _, _, _]) (Γ2 := []) S rfl rfl ?_
        rintro _ w1271 M1272 Γ' hM1273 E' S ⟨A1257, c1258, A1260, c1261, A1263, c1264, A1266, c1267, vs1269, rfl, hm1270, rfl⟩
        replace hg0 : ∃ gt fr, _ := (let ⟨gt, fr, h8⟩ := hg0; ⟨gt, fr, hM1273 _ _ h8⟩)
        replace HM := Hp.le_trans HM hM1273
        replace hM110 := Hp.le_trans hM110 hM1273
        replace hM198 := Hp.le_trans hM198 hM1273
        replace hM286 := Hp.le_trans hM286 hM1273
        replace hM393 := Hp.le_trans hM393 hM1273
        replace hM945 := Hp.le_trans hM945 hM1273
        replace hM1011 := Hp.le_trans hM1011 hM1273
        replace hM1077 := Hp.le_trans hM1077 hM1273
        replace hM1188 := Hp.le_trans hM1188 hM1273
        replace LE1251 := Hp.le_trans LE1251 hM1273
        replace hm0_11 := MRel.mono hm0_11 hM1273
        replace hm19 := MRel.mono hm19 hM1273
        replace hm83 := MRel.mono hm83 hM1273
        replace hm171 := MRel.mono hm171 hM1273
        replace hm259 := MRel.mono hm259 hM1273
        replace hm366 := MRel.mono hm366 hM1273
        replace hm413 := MRel.mono hm413 hM1273
        replace hm439 := MRel.mono hm439 hM1273
        replace hm465 := MRel.mono hm465 hM1273
        replace hm491 := MRel.mono hm491 hM1273
        replace hm517 := MRel.mono hm517 hM1273
        replace hm919 := MRel.mono hm919 hM1273
        replace hm984 := MRel.mono hm984 hM1273
        replace hm1050 := MRel.mono hm1050 hM1273
        replace hm1097 := MRel.mono hm1097 hM1273
        replace hm1161 := MRel.mono hm1161 hM1273
        replace E := E.trans E'
        clear E'
        replace S : St w1271 M1272 F [_, _, _, _, _] := S
        refine W_yes (congrArg some hb1233) ?_
        refine W_v (.bool (!t1255.1)) (x_not (b := t1255.1) rfl) rfl ?_
        refine W_v (.bool (!t1255.1)) (x_pick (k := false) (congrArg Value.bool hb1233) rfl) rfl ?_
        refine Wl_nil ?_
        exact ⟨(!t1255.1), t1255.2, A1257, c1258, A1260, c1261, A1263, c1264, A1266, c1267, vs1269, M1272, Option.some.inj H, ⟨rfl, rfl, trivial⟩, LE1251, E, S.pick [4, 3, 2, 1, 0] (by decide), hm1270⟩
  as_aux_lemma =>
  clear o1250h
  rintro ρ w1274 ⟨x1234, x1235, A1236, c1237, A1239, c1240, A1242, c1243, A1245, c1246, vs1248, M1275, rfl, hρ, hM1276, E, S, hm1249⟩
  rw [agree_eta hρ]
  clear hρ
  replace hg0 : ∃ gt fr, _ := (let ⟨gt, fr, h8⟩ := hg0; ⟨gt, fr, hM1276 _ _ h8⟩)
  replace HM := Hp.le_trans HM hM1276
  replace hM110 := Hp.le_trans hM110 hM1276
  replace hM198 := Hp.le_trans hM198 hM1276
  replace hM286 := Hp.le_trans hM286 hM1276
  replace hM393 := Hp.le_trans hM393 hM1276
  replace hM945 := Hp.le_trans hM945 hM1276
  replace hM1011 := Hp.le_trans hM1011 hM1276
  replace hM1077 := Hp.le_trans hM1077 hM1276
  replace hM1188 := Hp.le_trans hM1188 hM1276
  replace hm0_11 := MRel.mono hm0_11 hM1276
  replace hm19 := MRel.mono hm19 hM1276
  replace hm83 := MRel.mono hm83 hM1276
  replace hm171 := MRel.mono hm171 hM1276
  replace hm259 := MRel.mono hm259 hM1276
  replace hm366 := MRel.mono hm366 hM1276
  replace hm413 := MRel.mono hm413 hM1276
  replace hm439 := MRel.mono hm439 hM1276
  replace hm465 := MRel.mono hm465 hM1276
  replace hm491 := MRel.mono hm491 hM1276
  replace hm517 := MRel.mono hm517 hM1276
  replace hm919 := MRel.mono hm919 hM1276
  replace hm984 := MRel.mono hm984 hM1276
  replace hm1050 := MRel.mono hm1050 hM1276
  replace hm1097 := MRel.mono hm1097 hM1276
  replace hm1161 := MRel.mono hm1161 hM1276
  have H := o1250H
  clear o1250H
  refine W_v (.bool x1234) (x_move rfl) rfl ?_
  obtain ⟨o1338, o1338h, o1338H⟩ := bindS H
  clear H
  refine Wl_cutN 5 (fun ρ w' => ∃ (x1322 : Bool) (x1323 : model_Model) (A1324 : Option Addr) (c1325 : Nat) (A1327 : Option Addr) (c1328 : Nat) (A1330 : Option Addr) (c1331 : Nat) (A1333 : Option Addr) (c1334 : Nat) (vs1336 : List (Str × Value)) (Mj : Hp), (x1322, x1323) = o1338 ∧ Agree ρ [(0, .pointer (some ⟨bo0, 0, none⟩)), (169, .bool x1322)] ∧ M1275.le Mj ∧ Ext w w' ∧ St w' Mj F [MapC encS (fun v : Value => v) A1333 vs1336, Row r_model_tx 99 (.slice A1330 x1323.txs.length c1331) x1323.txs, MapC (Value.int .i64) (Value.int .i64) A1327 x1323.many, MapC enc_model_name (Value.int .i64) A1324 x1323.names, B94 bo0 x1323 A1324 A1327 A1330 c1331 A1333] ∧ MRel r_model_row Mj x1323.rows vs1336) ?_ ?_
  · as_aux_lemma =>
      have H := o1338h
      have LE1339 := Hp.le_refl M1275
      rcases iteS H with ⟨hb1321, H⟩ | ⟨hb1321, H⟩
      · skip
        refine W_no (skF hb1321) rfl ?_
        refine W_no (skF hb1321) rfl ?_
        refine W_no (skF hb1321) rfl ?_
        refine W_no (skF hb1321) rfl ?_
        refine W_v (.bool true) (x_pick (k := true) (congrArg Value.bool hb1321) rfl) rfl ?_
        refine Wl_nil ?_
        exact ⟨true, x1235, A1236, c1237, A1239, c1240, A1242, c1243, A1245, c1246, vs1248, M1275, Option.some.inj H, ⟨rfl, rfl, trivial⟩, (Hp.le_refl M1275), E, S.pick [0, 1, 2, 3, 4] (by decide), hm1249⟩
      · skip
        refine W_yes (congrArg some hb1321) ?_
        refine W_v (.pointer (some ⟨bo0, 0, none⟩)) (x_move rfl) rfl ?_
        refine W_yes (congrArg some hb1321) ?_
        obtain ⟨t1340, ht1341, H⟩ := bindS H
        refine W_callF fn31 (ferrymanlaw16_on.con k M1275 (6 : Int) (4 : Int) ([] : Str) ([] : Str) t1340  ht1341) S rfl rfl (by rintro _ _ _ ⟨_, rfl⟩; exact flat_nil) ?_
        rintro _ w1342 _ Γ' E' S ⟨rfl, rfl⟩
        replace E := E.trans E'
        clear E'
        refine W_yes (congrArg some hb1321) ?_
        obtain ⟨t1343, ht1344, H⟩ := bindS H
        replace S : St w1342 M1275 F [_, _, _, _, _] := S.pick [4, 3, 2, 1, 0] (by decide)
        refine W_call fn32 (ferrymanlaw16_is_POOOO.con k M1275 A1236 c1237 A1239 c1240 A1242 c1243 A1245 c1246 vs1248 x1235 (0 : Int) t1340 (0 : Int) false ([] : Str) bo0 t1343 hm1249 hg0 ht1344) (Γ1 := [_, _, _, _, _]) (Γ2 := []) S rfl rfl ?_
        rintro _ w1359 M1360 Γ' hM1361 E' S ⟨A1345, c1346, A1348, c1349, A1351, c1352, A1354, c1355, vs1357, rfl, hm1358, rfl⟩
        replace hg0 : ∃ gt fr, _ := (let ⟨gt, fr, h8⟩ := hg0; ⟨gt, fr, hM1361 _ _ h8⟩)
        replace HM := Hp.le_trans HM hM1361
        replace hM110 := Hp.le_trans hM110 hM1361
        replace hM198 := Hp.le_trans hM198 hM1361
        replace hM286 := Hp.le_trans hM286 hM1361
        replace hM393 := Hp.le_trans hM393 hM1361
        replace hM945 := Hp.le_trans hM945 hM1361
        replace hM1011 := Hp.le_trans hM1011 hM1361
        replace hM1077 := Hp.le_trans hM1077 hM1361
        replace hM1188 := Hp.le_trans hM1188 hM1361
        replace hM1276 := Hp.le_trans hM1276 hM1361
        replace LE1339 := Hp.le_trans LE1339 hM1361
        replace hm0_11 := MRel.mono hm0_11 hM1361
        replace hm19 := MRel.mono hm19 hM1361
        replace hm83 := MRel.mono hm83 hM1361
        replace hm171 := MRel.mono hm171 hM1361
        replace hm259 := MRel.mono hm259 hM1361
        replace hm366 := MRel.mono hm366 hM1361
        replace hm413 := MRel.mono hm413 hM1361
        replace hm439 := MRel.mono hm439 hM1361
        replace hm465 := MRel.mono hm465 hM1361
        replace hm491 := MRel.mono hm491 hM1361
        replace hm517 := MRel.mono hm517 hM1361
        replace hm919 := MRel.mono hm919 hM1361
        replace hm984 := MRel.mono hm984 hM1361
        replace hm1050 := MRel.mono hm1050 hM1361
        replace hm1097 := MRel.mono hm1097 hM1361
        replace hm1161 := MRel.mono hm1161 hM1361
        replace hm1249 := MRel.mono hm1249 hM1361
        replace E := E.trans E'
        clear E'
        replace S : St w1359 M1360 F [_, _, _, _, _] := S
        refine W_yes (congrArg some hb1321) ?_
        refine W_v (.bool (!t1343.1)) (x_not (b := t1343.1) rfl) rfl ?_
        refine W_v (.bool (!t1343.1)) (x_pick (k := false) (congrArg Value.bool hb1321) rfl) rfl ?_
        refine Wl_nil ?_
        exact ⟨(!t1343.1), t1343.2, A1345, c1346, A1348, c1349, A1351, c1352, A1354, c1355, vs1357, M1360, Option.some.inj H, ⟨rfl, rfl, trivial⟩, LE1339, E, S.pick [4, 3, 2, 1, 0] (by decide), hm1358⟩
  as_aux_lemma =>
  clear o1338h
  rintro ρ w1362 ⟨x1322, x1323, A1324, c1325, A1327, c1328, A1330, c1331, A1333, c1334, vs1336, M1363, rfl, hρ, hM1364, E, S, hm1337⟩
  rw [agree_eta hρ]
  clear hρ
  replace hg0 : ∃ gt fr, _ := (let ⟨gt, fr, h8⟩ := hg0; ⟨gt, fr, hM1364 _ _ h8⟩)
  replace HM := Hp.le_trans HM hM1364
  replace hM110 := Hp.le_trans hM110 hM1364
  replace hM198 := Hp.le_trans hM198 hM1364
  replace hM286 := Hp.le_trans hM286 hM1364
  replace hM393 := Hp.le_trans hM393 hM1364
  replace hM945 := Hp.le_trans hM945 hM1364
  replace hM1011 := Hp.le_trans hM1011 hM1364
  replace hM1077 := Hp.le_trans hM1077 hM1364
  replace hM1188 := Hp.le_trans hM1188 hM1364
  replace hM1276 := Hp.le_trans hM1276 hM1364
  replace hm0_11 := MRel.mono hm0_11 hM1364
  replace hm19 := MRel.mono hm19 hM1364
  replace hm83 := MRel.mono hm83 hM1364
  replace hm171 := MRel.mono hm171 hM1364
  replace hm259 := MRel.mono hm259 hM1364
  replace hm366 := MRel.mono hm366 hM1364
  replace hm413 := MRel.mono hm413 hM1364
  replace hm439 := MRel.mono hm439 hM1364
  replace hm465 := MRel.mono hm465 hM1364
  replace hm491 := MRel.mono hm491 hM1364
  replace hm517 := MRel.mono hm517 hM1364
  replace hm919 := MRel.mono hm919 hM1364
  replace hm984 := MRel.mono hm984 hM1364
  replace hm1050 := MRel.mono hm1050 hM1364
  replace hm1097 := MRel.mono hm1097 hM1364
  replace hm1161 := MRel.mono hm1161 hM1364
  replace hm1249 := MRel.mono hm1249 hM1364
  have H := o1338H
  clear o1338H
  refine W_v (.bool x1322) (x_move rfl) rfl ?_
  obtain ⟨o1426, o1426h, o1426H⟩ := bindS H
  clear H
  refine Wl_cutN 5 (fun ρ w' => ∃ (x1410 : Bool) (x1411 : model_Model) (A1412 : Option Addr) (c1413 : Nat) (A1415 : Option Addr) (c1416 : Nat) (A1418 : Option Addr) (c1419 : Nat) (A1421 : Option Addr) (c1422 : Nat) (vs1424 : List (Str × Value)) (Mj : Hp), (x1410, x1411) = o1426 ∧ Agree ρ [(0, .pointer (some ⟨bo0, 0, none⟩)), (175, .bool x1410)] ∧ M1363.le Mj ∧ Ext w w' ∧ St w' Mj F [MapC encS (fun v : Value => v) A1421 vs1424, Row r_model_tx 99 (.slice A1418 x1411.txs.length c1419) x1411.txs, MapC (Value.int .i64) (Value.int .i64) A1415 x1411.many, MapC enc_model_name (Value.int .i64) A1412 x1411.names, B94 bo0 x1411 A1412 A1415 A1418 c1419 A1421] ∧ MRel r_model_row Mj x1411.rows vs1424) ?_ ?_
  · as_aux_lemma =>
      have H := o1426h
      have LE1427 := Hp.le_refl M1363
      rcases iteS H with ⟨hb1409, H⟩ | ⟨hb1409, H⟩
      · skip
        refine W_no (skF hb1409) rfl ?_
        refine W_no (skF hb1409) rfl ?_
        refine W_no (skF hb1409) rfl ?_
        refine W_no (skF hb1409) rfl ?_
        refine W_v (.bool true) (x_pick (k := true) (congrArg Value.bool hb1409) rfl) rfl ?_
        refine Wl_nil ?_
        exact ⟨true, x1323, A1324, c1325, A1327, c1328, A1330, c1331, A1333, c1334, vs1336, M1363, Option.some.inj H, ⟨rfl, rfl, trivial⟩, (Hp.le_refl M1363), E, S.pick [0, 1, 2, 3, 4] (by decide), hm1337⟩
      · skip
        refine W_yes (congrArg some hb1409) ?_
        refine W_v (.pointer (some ⟨bo0, 0, none⟩)) (x_move rfl) rfl ?_
        refine W_yes (congrArg some hb1409) ?_
        obtain ⟨t1428, ht1429, H⟩ := bindS H
        refine W_callF fn31 (ferrymanlaw16_on.con k M1363 (1 : Int) (0 : Int) ([] : Str) ([] : Str) t1428  ht1429) S rfl rfl (by rintro _ _ _ ⟨_, rfl⟩; exact flat_nil) ?_
        rintro _ w1430 _ Γ' E' S ⟨rfl, rfl⟩
        replace E := E.trans E'
        clear E'
        refine W_yes (congrArg some hb1409) ?_
        obtain ⟨t1431, ht1432, H⟩ := bindS H
        replace S : St w1430 M1363 F [_, _, _, _, _] := S.pick [4, 3, 2, 1, 0] (by decide)
        refine W_call fn32 (ferrymanlaw16_is_POOOO.con k M1363 A1324 c1325 A1327 c1328 A1330 c1331 A1333 c1334 vs1336 x1323 (0 : Int) t1428 (0 : Int) false ([] : Str) bo0 t1431 hm1337 hg0 ht1432) (Γ1 := [_, _, _, _, _]) (Γ2 := []) S rfl rfl ?_
        rintro _ w1447 M1448 Γ' hM1449 E' S ⟨A1433, c1434, A1436, c1437, A1439, c1440, A1442, c1443, vs1445, rfl, hm1446, rfl⟩
        replace hg0 : ∃ gt fr, _ := (let ⟨gt, fr, h8⟩ := hg0; ⟨gt, fr, hM1449 _ _ h8⟩)
        replace HM := Hp.le_trans HM hM1449
        replace hM110 := Hp.le_trans hM110 hM1449
        replace hM198 := Hp.le_trans hM198 hM1449
        replace hM286 := Hp.le_trans hM286 hM1449
        replace hM393 := Hp.le_trans hM393 hM1449
        replace hM945 := Hp.le_trans hM945 hM1449
        replace hM1011 := Hp.le_trans hM1011 hM1449
        replace hM1077 := Hp.le_trans hM1077 hM1449
        replace hM1188 := Hp.le_trans hM1188 hM1449
        replace hM1276 := Hp.le_trans hM1276 hM1449
        replace hM1364 := Hp.le_trans hM1364 hM1449
        replace LE1427 := Hp.le_trans LE1427 hM1449
        replace hm0_11 := MRel.mono hm0_11 hM1449
        replace hm19 := MRel.mono hm19 hM1449
        replace hm83 := MRel.mono hm83 hM1449
        replace hm171 := MRel.mono hm171 hM1449
        replace hm259 := MRel.mono hm259 hM1449
        replace hm366 := MRel.mono hm366 hM1449
        replace hm413 := MRel.mono hm413 hM1449
        replace hm439 := MRel.mono hm439 hM1449
        replace hm465 := MRel.mono hm465 hM1449
        replace hm491 := MRel.mono hm491 hM1449
        replace hm517 := MRel.mono hm517 hM1449
        replace hm919 := MRel.mono hm919 hM1449
        replace hm984 := MRel.mono hm984 hM1449
        replace hm1050 := MRel.mono hm1050 hM1449
        replace hm1097 := MRel.mono hm1097 hM1449
        replace hm1161 := MRel.mono hm1161 hM1449
        replace hm1249 := MRel.mono hm1249 hM1449
        replace hm1337 := MRel.mono hm1337 hM1449
        replace E := E.trans E'
        clear E'
        replace S : St w1447 M1448 F [_, _, _, _, _] := S
        refine W_yes (congrArg some hb1409) ?_
        refine W_v (.bool (!t1431.1)) (x_not (b := t1431.1) rfl) rfl ?_
        refine W_v (.bool (!t1431.1)) (x_pick (k := false) (congrArg Value.bool hb1409) rfl) rfl ?_
        refine Wl_nil ?_
        exact ⟨(!t1431.1), t1431.2, A1433, c1434, A1436, c1437, A1439, c1440, A1442, c1443, vs1445, M1448, Option.some.inj H, ⟨rfl, rfl, trivial⟩, LE1427, E, S.pick [4, 3, 2, 1, 0] (by decide), hm1446⟩
  as_aux_lemma =>
  clear o1426h
  rintro ρ w1450 ⟨x1410, x1411, A1412, c1413, A1415, c1416, A1418, c1419, A1421, c1422, vs1424, M1451, rfl, hρ, hM1452, E, S, hm1425⟩
  rw [agree_eta hρ]
  clear hρ
  replace hg0 : ∃ gt fr, _ := (let ⟨gt, fr, h8⟩ := hg0; ⟨gt, fr, hM1452 _ _ h8⟩)
  replace HM := Hp.le_trans HM hM1452
  replace hM110 := Hp.le_trans hM110 hM1452
  replace hM198 := Hp.le_trans hM198 hM1452
  replace hM286 := Hp.le_trans hM286 hM1452
  replace hM393 := Hp.le_trans hM393 hM1452
  replace hM945 := Hp.le_trans hM945 hM1452
  replace hM1011 := Hp.le_trans hM1011 hM1452
  replace hM1077 := Hp.le_trans hM1077 hM1452
  replace hM1188 := Hp.le_trans hM1188 hM1452
  replace hM1276 := Hp.le_trans hM1276 hM1452
  replace hM1364 := Hp.le_trans hM1364 hM1452
  replace hm0_11 := MRel.mono hm0_11 hM1452
  replace hm19 := MRel.mono hm19 hM1452
  replace hm83 := MRel.mono hm83 hM1452
  replace hm171 := MRel.mono hm171 hM1452
  replace hm259 := MRel.mono hm259 hM1452
  replace hm366 := MRel.mono hm366 hM1452
  replace hm413 := MRel.mono hm413 hM1452
  replace hm439 := MRel.mono hm439 hM1452
  replace hm465 := MRel.mono hm465 hM1452
  replace hm491 := MRel.mono hm491 hM1452
  replace hm517 := MRel.mono hm517 hM1452
  replace hm919 := MRel.mono hm919 hM1452
  replace hm984 := MRel.mono hm984 hM1452
  replace hm1050 := MRel.mono hm1050 hM1452
  replace hm1097 := MRel.mono hm1097 hM1452
  replace hm1161 := MRel.mono hm1161 hM1452
  replace hm1249 := MRel.mono hm1249 hM1452
  replace hm1337 := MRel.mono hm1337 hM1452
  have H := o1426H
  clear o1426H
  refine W_v (.bool x1410) (x_move rfl) rfl ?_
  obtain ⟨o1514, o1514h, o1514H⟩ := bindS H
  clear H
  refine Wl_cutN 5 (fun ρ w' => ∃ (x1498 : Bool) (x1499 : model_Model) (A1500 : Option Addr) (c1501 : Nat) (A1503 : Option Addr) (c1504 : Nat) (A1506 : Option Addr) (c1507 : Nat) (A1509 : Option Addr) (c1510 : Nat) (vs1512 : List (Str × Value)) (Mj : Hp), (x1498, x1499) = o1514 ∧ Agree ρ [(0, .pointer (some ⟨bo0, 0, none⟩)), (181, .bool x1498)] ∧ M1451.le Mj ∧ Ext w w' ∧ St w' Mj F [MapC encS (fun v : Value => v) A1509 vs1512, Row r_model_tx 99 (.slice A1506 x1499.txs.length c1507) x1499.txs, MapC (Value.int .i64) (Value.int .i64) A1503 x1499.many, MapC enc_model_name (Value.int .i64) A1500 x1499.names, B94 bo0 x1499 A1500 A1503 A1506 c1507 A1509] ∧ MRel r_model_row Mj x1499.rows vs1512) ?_ ?_
  · as_aux_lemma =>
      have H := o1514h
      have LE1515 := Hp.le_refl M1451
      rcases iteS H with ⟨hb1497, H⟩ | ⟨hb1497, H⟩
      · skip
        refine W_no (skF hb1497) rfl ?_
        refine W_no (skF hb1497) rfl ?_
        refine W_no (skF hb1497) rfl ?_
        refine W_no (skF hb1497) rfl ?_
        refine W_v (.bool true) (x_pick (k := true) (congrArg Value.bool hb1497) rfl) rfl ?_
        refine Wl_nil ?_
        exact ⟨true, x1411, A1412, c1413, A1415, c1416, A1418, c1419, A1421, c1422, vs1424, M1451, Option.some.inj H, ⟨rfl, rfl, trivial⟩, (Hp.le_refl M1451), E, S.pick [0, 1, 2, 3, 4] (by decide), hm1425⟩
      · skip
        refine W_yes (congrArg some hb1497) ?_
        refine W_v (.pointer (some ⟨bo0, 0, none⟩)) (x_move rfl) rfl ?_
        refine W_yes (congrArg some hb1497) ?_
        obtain ⟨t1516, ht1517, H⟩ := bindS H
        refine W_callF fn31 (ferrymanlaw16_on.con k M1451 (3 : Int) (5 : Int) ([97] : Str) ([54] : Str) t1516  ht1517) S rfl rfl (by rintro _ _ _ ⟨_, rfl⟩; exact flat_nil) ?_
        rintro _ w1518 _ Γ' E' S ⟨rfl, rfl⟩
        replace E := E.trans E'
        clear E'
        refine W_yes (congrArg some hb1497) ?_
        obtain ⟨t1519, ht1520, H⟩ := bindS H
        replace S : St w1518 M1451 F [_, _, _, _, _] := S.pick [4, 3, 2, 1, 0] (by decide)
        refine W_call fn32 (ferrymanlaw16_is_POOOO.con k M1451 A1412 c1413 A1415 c1416 A1418 c1419 A1421 c1422 vs1424 x1411 (0 : Int) t1516 (34 : Int) false ([] : Str) bo0 t1519 hm1425 hg0 ht1520) (Γ1 := [_, _, _, _, _]) (Γ2 := []) S rfl rfl ?_
        rintro _ w1535 M1536 Γ' hM1537 E' S ⟨A1521, c1522, A1524, c1525, A1527, c1528, A1530, c1531, vs1533, rfl, hm1534, rfl⟩
        replace hg0 : ∃ gt fr, _ := (let ⟨gt, fr, h8⟩ := hg0; ⟨gt, fr, hM1537 _ _ h8⟩)
        replace HM := Hp.le_trans HM hM1537
        replace hM110 := Hp.le_trans hM110 hM1537
        replace hM198 := Hp.le_trans hM198 hM1537
        replace hM286 := Hp.le_trans hM286 hM1537
        replace hM393 := Hp.le_trans hM393 hM1537
        replace hM945 := Hp.le_trans hM945 hM1537
        replace hM1011 := Hp.le_trans hM1011 hM1537
        replace hM1077 := Hp.le_trans hM1077 hM1537
        replace hM1188 := Hp.le_trans hM1188 hM1537
        replace hM1276 := Hp.le_trans hM1276 hM1537
        replace hM1364 := Hp.le_trans hM1364 hM1537
        replace hM1452 := Hp.le_trans hM1452 hM1537
        replace LE1515 := Hp.le_trans LE1515 hM1537
        replace hm0_11 := MRel.mono hm0_11 hM1537
        replace hm19 := MRel.mono hm19 hM1537
        replace hm83 := MRel.mono hm83 hM1537
        replace hm171 := MRel.mono hm171 hM1537
        replace hm259 := MRel.mono hm259 hM1537
        replace hm366 := MRel.mono hm366 hM1537
        replace hm413 := MRel.mono hm413 hM1537
        replace hm439 := MRel.mono hm439 hM1537
        replace hm465 := MRel.mono hm465 hM1537
        replace hm491 := MRel.mono hm491 hM1537
        replace hm517 := MRel.mono hm517 hM1537
        replace hm919 := MRel.mono hm919 hM1537
        replace hm984 := MRel.mono hm984 hM1537
        replace hm1050 := MRel.mono hm1050 hM1537
        replace hm1097 := MRel.mono hm1097 hM1537
        replace hm1161 := MRel.mono hm1161 hM1537
        replace hm1249 := MRel.mono hm1249 hM1537
        replace hm1337 := MRel.mono hm1337 hM1537
        replace hm1425 := MRel.mono hm1425 hM1537
        replace E := E.trans E'
        clear E'
        replace S : St w1535 M1536 F [_, _, _, _, _] := S
        refine W_yes (congrArg some hb1497) ?_
        refine W_v (.bool (!t1519.1)) (x_not (b := t1519.1) rfl) rfl ?_
        refine W_v (.bool (!t1519.1)) (x_pick (k := false) (congrArg Value.bool hb1497) rfl) rfl ?_
        refine Wl_nil ?_
        exact ⟨(!t1519.1), t1519.2, A1521, c1522, A1524, c1525, A1527, c1528, A1530, c1531, vs1533, M1536, Option.some.inj H, ⟨rfl, rfl, trivial⟩, LE1515, E, S.pick [4, 3, 2, 1, 0] (by decide), hm1534⟩
  as_aux_lemma =>
  clear o1514h
  rintro ρ w1538 ⟨x1498, x1499, A1500, c1501, A1503, c1504, A1506, c1507, A1509, c1510, vs1512, M1539, rfl, hρ, hM1540, E, S, hm1513⟩
  rw [agree_eta hρ]
  clear hρ
  replace hg0 : ∃ gt fr, _ := (let ⟨gt, fr, h8⟩ := hg0; ⟨gt, fr, hM1540 _ _ h8⟩)
  replace HM := Hp.le_trans HM hM1540
  replace hM110 := Hp.le_trans hM110 hM1540
  replace hM198 := Hp.le_trans hM198 hM1540
  replace hM286 := Hp.le_trans hM286 hM1540
  replace hM393 := Hp.le_trans hM393 hM1540
  replace hM945 := Hp.le_trans hM945 hM1540
  replace hM1011 := Hp.le_trans hM1011 hM1540
  replace hM1077 := Hp.le_trans hM1077 hM1540
  replace hM1188 := Hp.le_trans hM1188 hM1540
  replace hM1276 := Hp.le_trans hM1276 hM1540
  replace hM1364 := Hp.le_trans hM1364 hM1540
  replace hM1452 := Hp.le_trans hM1452 hM1540
  replace hm0_11 := MRel.mono hm0_11 hM1540
  replace hm19 := MRel.mono hm19 hM1540
  replace hm83 := MRel.mono hm83 hM1540
  replace hm171 := MRel.mono hm171 hM1540
  replace hm259 := MRel.mono hm259 hM1540
  replace hm366 := MRel.mono hm366 hM1540
  replace hm413 := MRel.mono hm413 hM1540
  replace hm439 := MRel.mono hm439 hM1540
  replace hm465 := MRel.mono hm465 hM1540
  replace hm491 := MRel.mono hm491 hM1540
  replace hm517 := MRel.mono hm517 hM1540
  replace hm919 := MRel.mono hm919 hM1540
  replace hm984 := MRel.mono hm984 hM1540
  replace hm1050 := MRel.mono hm1050 hM1540
  replace hm1097 := MRel.mono hm1097 hM1540
  replace hm1161 := MRel.mono hm1161 hM1540
  replace hm1249 := MRel.mono hm1249 hM1540
  replace hm1337 := MRel.mono hm1337 hM1540
  replace hm1425 := MRel.mono hm1425 hM1540
  have H := o1514H
  clear o1514H
  refine W_v (.bool x1498) (x_move rfl) rfl ?_
  obtain ⟨o1602, o1602h, o1602H⟩ := bindS H
  clear H
  refine Wl_cutN 5 (fun ρ w' => ∃ (x1586 : Bool) (x1587 : model_Model) (A1588 : Option Addr) (c1589 : Nat) (A1591 : Option Addr) (c1592 : Nat) (A1594 : Option Addr) (c1595 : Nat) (A1597 : Option Addr) (c1598 : Nat) (vs1600 : List (Str × Value)) (Mj : Hp), (x1586, x1587) = o1602 ∧ Agree ρ [(0, .pointer (some ⟨bo0, 0, none⟩)), (187, .bool x1586)] ∧ M1539.le Mj ∧ Ext w w' ∧ St w' Mj F [MapC encS (fun v : Value => v) A1597 vs1600, Row r_model_tx 99 (.slice A1594 x1587.txs.length c1595) x1587.txs, MapC (Value.int .i64) (Value.int .i64) A1591 x1587.many, MapC enc_model_name (Value.int .i64) A1588 x1587.names, B94 bo0 x1587 A1588 A1591 A1594 c1595 A1597] ∧ MRel r_model_row Mj x1587.rows vs1600) ?_ ?_
  · as_aux_lemma =>
      have H := o1602h
      have LE1603 := Hp.le_refl M1539
      rcases iteS H with ⟨hb1585, H⟩ | ⟨hb1585, H⟩
      · skip
        refine W_no (skF hb1585) rfl ?_
        refine W_no (skF hb1585) rfl ?_
        refine W_no (skF hb1585) rfl ?_
        refine W_no (skF hb1585) rfl ?_
        refine W_v (.bool true) (x_pick (k := true) (congrArg Value.bool hb1585) rfl) rfl ?_
        refine Wl_nil ?_
        exact ⟨true, x1499, A1500, c1501, A1503, c1504, A1506, c1507, A1509, c1510, vs1512, M1539, Option.some.inj H, ⟨rfl, rfl, trivial⟩, (Hp.le_refl M1539), E, S.pick [0, 1, 2, 3, 4] (by decide), hm1513⟩
      · skip
        refine W_yes (congrArg some hb1585) ?_
        refine W_v (.pointer (some ⟨bo0, 0, none⟩)) (x_move rfl) rfl ?_
        refine W_yes (congrArg some hb1585) ?_
        obtain ⟨t1604, ht1605, H⟩ := bindS H
        refine W_callF fn31 (ferrymanlaw16_on.con k M1539 (4 : Int) (5 : Int) ([97] : Str) ([] : Str) t1604  ht1605) S rfl rfl (by rintro _ _ _ ⟨_, rfl⟩; exact flat_nil) ?_
        rintro _ w1606 _ Γ' E' S ⟨rfl, rfl⟩
        replace E := E.trans E'
        clear E'
        refine W_yes (congrArg some hb1585) ?_
        obtain ⟨t1607, ht1608, H⟩ := bindS H
        replace S : St w1606 M1539 F [_, _, _, _, _] := S.pick [4, 3, 2, 1, 0] (by decide)
        refine W_call fn32 (ferrymanlaw16_is_POOOO.con k M1539 A1500 c1501 A1503 c1504 A1506 c1507 A1509 c1510 vs1512 x1499 (0 : Int) t1604 (34 : Int) false ([] : Str) bo0 t1607 hm1513 hg0 ht1608) (Γ1 := [_, _, _, _, _]) (Γ2 := []) S rfl rfl ?_
        rintro _ w1623 M1624 Γ' hM1625 E' S ⟨A1609, c1610, A1612, c1613, A1615, c1616, A1618, c1619, vs1621, rfl, hm1622, rfl⟩
        replace hg0 : ∃ gt fr, _ := (let ⟨gt, fr, h8⟩ := hg0; ⟨gt, fr, hM1625 _ _ h8⟩)
        replace HM := Hp.le_trans HM hM1625
        replace hM110 := Hp.le_trans hM110 hM1625
        replace hM198 := Hp.le_trans hM198 hM1625
        replace hM286 := Hp.le_trans hM286 hM1625
        replace hM393 := Hp.le_trans hM393 hM1625
        replace hM945 := Hp.le_trans hM945 hM1625
        replace hM1011 := Hp.le_trans hM1011 hM1625
        replace hM1077 := Hp.le_trans hM1077 hM1625
        replace hM1188 := Hp.le_trans hM1188 hM1625
        replace hM1276 := Hp.le_trans hM1276 hM1625
        replace hM1364 := Hp.le_trans hM1364 hM1625
        replace hM1452 := Hp.le_trans hM1452 hM1625
        replace hM1540 := Hp.le_trans hM1540 hM1625
        replace LE1603 := Hp.le_trans LE1603 hM1625
        replace hm0_11 := MRel.mono hm0_11 hM1625
        replace hm19 := MRel.mono hm19 hM1625
        replace hm83 := MRel.mono hm83 hM1625
        replace hm171 := MRel.mono hm171 hM1625
        replace hm259 := MRel.mono hm259 hM1625
        replace hm366 := MRel.mono hm366 hM1625
        replace hm413 := MRel.mono hm413 hM1625
        replace hm439 := MRel.mono hm439 hM1625
        replace hm465 := MRel.mono hm465 hM1625
        replace hm491 := MRel.mono hm491 hM1625
        replace hm517 := MRel.mono hm517 hM1625
        replace hm919 := MRel.mono hm919 hM1625
        replace hm984 := MRel.mono hm984 hM1625
        replace hm1050 := MRel.mono hm1050 hM1625
        replace hm1097 := MRel.mono hm1097 hM1625
        replace hm1161 := MRel.mono hm1161 hM1625
        replace hm1249 := MRel.mono hm1249 hM1625
        replace hm1337 := MRel.mono hm1337 hM1625
        replace hm1425 := MRel.mono hm1425 hM1625
        replace hm1513 := MRel.mono hm1513 hM1625
        replace E := E.trans E'
        clear E'
        replace S : St w1623 M1624 F [_, _, _, _, _] := S
        refine W_yes (congrArg some hb1585) ?_
        refine W_v (.bool (!t1607.1)) (x_not (b := t1607.1) rfl) rfl ?_
        refine W_v (.bool (!t1607.1)) (x_pick (k := false) (congrArg Value.bool hb1585) rfl) rfl ?_
        refine Wl_nil ?_
        exact ⟨(!t1607.1), t1607.2, A1609, c1610, A1612, c1613, A1615, c1616, A1618, c1619, vs1621, M1624, Option.some.inj H, ⟨rfl, rfl, trivial⟩, LE1603, E, S.pick [4, 3, 2, 1, 0] (by decide), hm1622⟩
  as_aux_lemma =>
  clear o1602h
  rintro ρ w1626 ⟨x1586, x1587, A1588, c1589, A1591, c1592, A1594, c1595, A1597, c1598, vs1600, M1627, rfl, hρ, hM1628, E, S, hm1601⟩
  rw [agree_eta hρ]
  clear hρ
  replace hg0 : ∃ gt fr, _ := (let ⟨gt, fr, h8⟩ := hg0; ⟨gt, fr, hM1628 _ _ h8⟩)
  replace HM := Hp.le_trans HM hM1628
  replace hM110 := Hp.le_trans hM110 hM1628
  replace hM198 := Hp.le_trans hM198 hM1628
  replace hM286 := Hp.le_trans hM286 hM1628
  replace hM393 := Hp.le_trans hM393 hM1628
  replace hM945 := Hp.le_trans hM945 hM1628
  replace hM1011 := Hp.le_trans hM1011 hM1628
  replace hM1077 := Hp.le_trans hM1077 hM1628
  replace hM1188 := Hp.le_trans hM1188 hM1628
  replace hM1276 := Hp.le_trans hM1276 hM1628
  replace hM1364 := Hp.le_trans hM1364 hM1628
  replace hM1452 := Hp.le_trans hM1452 hM1628
  replace hM1540 := Hp.le_trans hM1540 hM1628
  replace hm0_11 := MRel.mono hm0_11 hM1628
  replace hm19 := MRel.mono hm19 hM1628
  replace hm83 := MRel.mono hm83 hM1628
  replace hm171 := MRel.mono hm171 hM1628
  replace hm259 := MRel.mono hm259 hM1628
  replace hm366 := MRel.mono hm366 hM1628
  replace hm413 := MRel.mono hm413 hM1628
  replace hm439 := MRel.mono hm439 hM1628
  replace hm465 := MRel.mono hm465 hM1628
  replace hm491 := MRel.mono hm491 hM1628
  replace hm517 := MRel.mono hm517 hM1628
  replace hm919 := MRel.mono hm919 hM1628
  replace hm984 := MRel.mono hm984 hM1628
  replace hm1050 := MRel.mono hm1050 hM1628
  replace hm1097 := MRel.mono hm1097 hM1628
  replace hm1161 := MRel.mono hm1161 hM1628
  replace hm1249 := MRel.mono hm1249 hM1628
  replace hm1337 := MRel.mono hm1337 hM1628
  replace hm1425 := MRel.mono hm1425 hM1628
  replace hm1513 := MRel.mono hm1513 hM1628
  have H := o1602H
  clear o1602H
  refine Wl_nil ?_
  refine tn ?_
  rcases iteS H with ⟨hb1629, H⟩ | ⟨hb1629, H⟩
  · refine Wp_cond_true (congrArg Value.bool hb1629) ?_
    refine Wp_seq ?_
    refine Wp_region_lit ?_
    refine W_v (.bool false) (x_assign rfl) rfl ?_
    refine Wl_nil ?_
    refine tn ?_
    refine Wp_ret ?_
    refine tr (?_)
    obtain rfl := Option.some.inj H
    exact ⟨_, _, _, fun w1 e1 => run_resR (vs := [.bool false]) (FA.cons (rfl) (FA.nil)), HM, E, S.pick [4, 3, 2, 1, 0] (by decide), ⟨A1588, c1589, A1591, c1592, A1594, c1595, A1597, c1598, vs1600, rfl, hm1601, rfl⟩⟩
  refine Wp_cond_false (congrArg Value.bool hb1629) ?_
  refine Wp_skip ?_
  refine tn ?_
  as_aux_lemma =>
  refine Wp_seq ?_
  refine Wp_seq ?_
  refine Wp_region_lit ?_
  refine W_v (.pointer (some ⟨bo0, 0, none⟩)) (x_move rfl) rfl ?_
  obtain ⟨t1630, ht1631, H⟩ := bindS H
  refine W_callF fn31 (ferrymanlaw16_on.con k M1627 (7 : Int) (3 : Int) ([] : Str) ([] : Str) t1630  ht1631) S rfl rfl (by rintro _ _ _ ⟨_, rfl⟩; exact flat_nil) ?_
  rintro _ w1632 _ Γ' E' S ⟨rfl, rfl⟩
  replace E := E.trans E'
  clear E'
  obtain ⟨t1633, ht1634, H⟩ := bindS H
  replace S : St w1632 M1627 F [_, _, _, _, _] := S.pick [4, 3, 2, 1, 0] (by decide)
  refine W_call fn32 (ferrymanlaw16_is_POOOO.con k M1627 A1588 c1589 A1591 c1592 A1594 c1595 A1597 c1598 vs1600 x1587 (0 : Int) t1630 (0 : Int) false ([] : Str) bo0 t1633 hm1601 hg0 ht1634) (Γ1 := [_, _, _, _, _]) (Γ2 := []) S rfl rfl ?_
  rintro _ w1649 M1650 Γ' hM1651 E' S ⟨A1635, c1636, A1638, c1639, A1641, c1642, A1644, c1645, vs1647, rfl, hm1648, rfl⟩
  replace hg0 : ∃ gt fr, _ := (let ⟨gt, fr, h8⟩ := hg0; ⟨gt, fr, hM1651 _ _ h8⟩)
  replace HM := Hp.le_trans HM hM1651
  replace hM110 := Hp.le_trans hM110 hM1651
  replace hM198 := Hp.le_trans hM198 hM1651
  replace hM286 := Hp.le_trans hM286 hM1651
  replace hM393 := Hp.le_trans hM393 hM1651
  replace hM945 := Hp.le_trans hM945 hM1651
  replace hM1011 := Hp.le_trans hM1011 hM1651
  replace hM1077 := Hp.le_trans hM1077 hM1651
  replace hM1188 := Hp.le_trans hM1188 hM1651
  replace hM1276 := Hp.le_trans hM1276 hM1651
  replace hM1364 := Hp.le_trans hM1364 hM1651
  replace hM1452 := Hp.le_trans hM1452 hM1651
  replace hM1540 := Hp.le_trans hM1540 hM1651
  replace hM1628 := Hp.le_trans hM1628 hM1651
  replace hm0_11 := MRel.mono hm0_11 hM1651
  replace hm19 := MRel.mono hm19 hM1651
  replace hm83 := MRel.mono hm83 hM1651
  replace hm171 := MRel.mono hm171 hM1651
  replace hm259 := MRel.mono hm259 hM1651
  replace hm366 := MRel.mono hm366 hM1651
  replace hm413 := MRel.mono hm413 hM1651
  replace hm439 := MRel.mono hm439 hM1651
  replace hm465 := MRel.mono hm465 hM1651
  replace hm491 := MRel.mono hm491 hM1651
  replace hm517 := MRel.mono hm517 hM1651
  replace hm919 := MRel.mono hm919 hM1651
  replace hm984 := MRel.mono hm984 hM1651
  replace hm1050 := MRel.mono hm1050 hM1651
  replace hm1097 := MRel.mono hm1097 hM1651
  replace hm1161 := MRel.mono hm1161 hM1651
  replace hm1249 := MRel.mono hm1249 hM1651
  replace hm1337 := MRel.mono hm1337 hM1651
  replace hm1425 := MRel.mono hm1425 hM1651
  replace hm1513 := MRel.mono hm1513 hM1651
  replace hm1601 := MRel.mono hm1601 hM1651
  replace E := E.trans E'
  clear E'
  replace S : St w1649 M1650 F [_, _, _, _, _] := S
  refine W_v (.bool (!t1633.1)) (x_not (b := t1633.1) rfl) rfl ?_
  refine W_v (.bool (!t1633.1)) (x_move rfl) rfl ?_
  obtain ⟨o1713, o1713h, o1713H⟩ := bindS H
  clear H
  refine Wl_cutN 5 (fun ρ w' => ∃ (x1697 : Bool) (x1698 : model_Model) (A1699 : Option Addr) (c1700 : Nat) (A1702 : Option Addr) (c1703 : Nat) (A1705 : Option Addr) (c1706 : Nat) (A1708 : Option Addr) (c1709 : Nat) (vs1711 : List (Str × Value)) (Mj : Hp), (x1697, x1698) = o1713 ∧ Agree ρ [(0, .pointer (some ⟨bo0, 0, none⟩)), (197, .bool x1697)] ∧ M1650.le Mj ∧ Ext w w' ∧ St w' Mj F [MapC encS (fun v : Value => v) A1708 vs1711, Row r_model_tx 99 (.slice A1705 x1698.txs.length c1706) x1698.txs, MapC (Value.int .i64) (Value.int .i64) A1702 x1698.many, MapC enc_model_name (Value.int .i64) A1699 x1698.names, B94 bo0 x1698 A1699 A1702 A1705 c1706 A1708] ∧ MRel r_model_row Mj x1698.rows vs1711) ?_ ?_
  · as_aux_lemma =>
      have H := o1713h
      have LE1714 := Hp.le_refl M1650
      rcases iteS H with ⟨hb1696, H⟩ | ⟨hb1696, H⟩
      · skip
        refine W_no (skF hb1696) rfl ?_
        refine W_no (skF hb1696) rfl ?_
        refine W_no (skF hb1696) rfl ?_
        refine W_no (skF hb1696) rfl ?_
        refine W_v (.bool true) (x_pick (k := true) (congrArg Value.bool hb1696) rfl) rfl ?_
        refine Wl_nil ?_
        exact ⟨true, t1633.2, A1635, c1636, A1638, c1639, A1641, c1642, A1644, c1645, vs1647, M1650, Option.some.inj H, ⟨rfl, rfl, trivial⟩, (Hp.le_refl M1650), E, S.pick [4, 3, 2, 1, 0] (by decide), hm1648⟩
      · skip
        refine W_yes (congrArg some hb1696) ?_
        refine W_v (.pointer (some ⟨bo0, 0, none⟩)) (x_move rfl) rfl ?_
        refine W_yes (congrArg some hb1696) ?_
        obtain ⟨t1715, ht1716, H⟩ := bindS H
        refine W_callF fn31 (ferrymanlaw16_on.con k M1650 (8 : Int) (0 : Int) ([] : Str) ([] : Str) t1715  ht1716) S rfl rfl (by rintro _ _ _ ⟨_, rfl⟩; exact flat_nil) ?_
        rintro _ w1717 _ Γ' E' S ⟨rfl, rfl⟩
        replace E := E.trans E'
        clear E'
        refine W_yes (congrArg some hb1696) ?_
        obtain ⟨t1718, ht1719, H⟩ := bindS H
        refine W_call fn32 (ferrymanlaw16_is_POOOO.con k M1650 A1635 c1636 A1638 c1639 A1641 c1642 A1644 c1645 vs1647 t1633.2 (0 : Int) t1715 (0 : Int) false ([] : Str) bo0 t1718 hm1648 hg0 ht1719) (Γ1 := [_, _, _, _, _]) (Γ2 := []) S rfl rfl ?_
        rintro _ w1734 M1735 Γ' hM1736 E' S ⟨A1720, c1721, A1723, c1724, A1726, c1727, A1729, c1730, vs1732, rfl, hm1733, rfl⟩
        replace hg0 : ∃ gt fr, _ := (let ⟨gt, fr, h8⟩ := hg0; ⟨gt, fr, hM1736 _ _ h8⟩)
        replace HM := Hp.le_trans HM hM1736
        replace hM110 := Hp.le_trans hM110 hM1736
        replace hM198 := Hp.le_trans hM198 hM1736
        replace hM286 := Hp.le_trans hM286 hM1736
        replace hM393 := Hp.le_trans hM393 hM1736
        replace hM945 := Hp.le_trans hM945 hM1736
        replace hM1011 := Hp.le_trans hM1011 hM1736
        replace hM1077 := Hp.le_trans hM1077 hM1736
        replace hM1188 := Hp.le_trans hM1188 hM1736
        replace hM1276 := Hp.le_trans hM1276 hM1736
        replace hM1364 := Hp.le_trans hM1364 hM1736
        replace hM1452 := Hp.le_trans hM1452 hM1736
        replace hM1540 := Hp.le_trans hM1540 hM1736
        replace hM1628 := Hp.le_trans hM1628 hM1736
        replace LE1714 := Hp.le_trans LE1714 hM1736
        replace hm0_11 := MRel.mono hm0_11 hM1736
        replace hm19 := MRel.mono hm19 hM1736
        replace hm83 := MRel.mono hm83 hM1736
        replace hm171 := MRel.mono hm171 hM1736
        replace hm259 := MRel.mono hm259 hM1736
        replace hm366 := MRel.mono hm366 hM1736
        replace hm413 := MRel.mono hm413 hM1736
        replace hm439 := MRel.mono hm439 hM1736
        replace hm465 := MRel.mono hm465 hM1736
        replace hm491 := MRel.mono hm491 hM1736
        replace hm517 := MRel.mono hm517 hM1736
        replace hm919 := MRel.mono hm919 hM1736
        replace hm984 := MRel.mono hm984 hM1736
        replace hm1050 := MRel.mono hm1050 hM1736
        replace hm1097 := MRel.mono hm1097 hM1736
        replace hm1161 := MRel.mono hm1161 hM1736
        replace hm1249 := MRel.mono hm1249 hM1736
        replace hm1337 := MRel.mono hm1337 hM1736
        replace hm1425 := MRel.mono hm1425 hM1736
        replace hm1513 := MRel.mono hm1513 hM1736
        replace hm1601 := MRel.mono hm1601 hM1736
        replace hm1648 := MRel.mono hm1648 hM1736
        replace E := E.trans E'
        clear E'
        replace S : St w1734 M1735 F [_, _, _, _, _] := S
        refine W_yes (congrArg some hb1696) ?_
        refine W_v (.bool (!t1718.1)) (x_not (b := t1718.1) rfl) rfl ?_
        refine W_v (.bool (!t1718.1)) (x_pick (k := false) (congrArg Value.bool hb1696) rfl) rfl ?_
        refine Wl_nil ?_
        exact ⟨(!t1718.1), t1718.2, A1720, c1721, A1723, c1724, A1726, c1727, A1729, c1730, vs1732, M1735, Option.some.inj H, ⟨rfl, rfl, trivial⟩, LE1714, E, S.pick [4, 3, 2, 1, 0] (by decide), hm1733⟩
  as_aux_lemma =>
  clear o1713h
  rintro ρ w1737 ⟨x1697, x1698, A1699, c1700, A1702, c1703, A1705, c1706, A1708, c1709, vs1711, M1738, rfl, hρ, hM1739, E, S, hm1712⟩
  rw [agree_eta hρ]
  clear hρ
  replace hg0 : ∃ gt fr, _ := (let ⟨gt, fr, h8⟩ := hg0; ⟨gt, fr, hM1739 _ _ h8⟩)
  replace HM := Hp.le_trans HM hM1739
  replace hM110 := Hp.le_trans hM110 hM1739
  replace hM198 := Hp.le_trans hM198 hM1739
  replace hM286 := Hp.le_trans hM286 hM1739
  replace hM393 := Hp.le_trans hM393 hM1739
  replace hM945 := Hp.le_trans hM945 hM1739
  replace hM1011 := Hp.le_trans hM1011 hM1739
  replace hM1077 := Hp.le_trans hM1077 hM1739
  replace hM1188 := Hp.le_trans hM1188 hM1739
  replace hM1276 := Hp.le_trans hM1276 hM1739
  replace hM1364 := Hp.le_trans hM1364 hM1739
  replace hM1452 := Hp.le_trans hM1452 hM1739
  replace hM1540 := Hp.le_trans hM1540 hM1739
  replace hM1628 := Hp.le_trans hM1628 hM1739
  replace hm0_11 := MRel.mono hm0_11 hM1739
  replace hm19 := MRel.mono hm19 hM1739
  replace hm83 := MRel.mono hm83 hM1739
  replace hm171 := MRel.mono hm171 hM1739
  replace hm259 := MRel.mono hm259 hM1739
  replace hm366 := MRel.mono hm366 hM1739
  replace hm413 := MRel.mono hm413 hM1739
  replace hm439 := MRel.mono hm439 hM1739
  replace hm465 := MRel.mono hm465 hM1739
  replace hm491 := MRel.mono hm491 hM1739
  replace hm517 := MRel.mono hm517 hM1739
  replace hm919 := MRel.mono hm919 hM1739
  replace hm984 := MRel.mono hm984 hM1739
  replace hm1050 := MRel.mono hm1050 hM1739
  replace hm1097 := MRel.mono hm1097 hM1739
  replace hm1161 := MRel.mono hm1161 hM1739
  replace hm1249 := MRel.mono hm1249 hM1739
  replace hm1337 := MRel.mono hm1337 hM1739
  replace hm1425 := MRel.mono hm1425 hM1739
  replace hm1513 := MRel.mono hm1513 hM1739
  replace hm1601 := MRel.mono hm1601 hM1739
  replace hm1648 := MRel.mono hm1648 hM1739
  have H := o1713H
  clear o1713H
  refine W_v (.bool x1697) (x_move rfl) rfl ?_
  obtain ⟨o1752, o1752h, o1752H⟩ := bindS H
  clear H
  refine Wl_cutN 4 (fun ρ w' => ∃ (x1751 : Bool), (x1751) = o1752 ∧ Agree ρ [(0, .pointer (some ⟨bo0, 0, none⟩)), (202, .bool x1751)] ∧ Ext w w' ∧ St w' M1738 F [MapC encS (fun v : Value => v) A1708 vs1711, Row r_model_tx 99 (.slice A1705 x1698.txs.length c1706) x1698.txs, MapC (Value.int .i64) (Value.int .i64) A1702 x1698.many, MapC enc_model_name (Value.int .i64) A1699 x1698.names, B94 bo0 x1698 A1699 A1702 A1705 c1706 A1708]) ?_ ?_
  · have H := o1752h
    rcases iteS H with ⟨hb1750, H⟩ | ⟨hb1750, H⟩
    · skip
      refine W_no (skF hb1750) rfl ?_
      refine W_no (skF hb1750) rfl ?_
      refine W_no (skF hb1750) rfl ?_
      refine W_v (.bool true) (x_pick (k := true) (congrArg Value.bool hb1750) rfl) rfl ?_
      refine Wl_nil ?_
      exact ⟨true, Option.some.inj H, ⟨rfl, rfl, trivial⟩, E, S.pick [0, 1, 2, 3, 4] (by decide)⟩
    · skip
      refine W_yes (congrArg some hb1750) ?_
      refine W_v (.pointer (some ⟨bo0, 0, none⟩)) (x_move rfl) rfl ?_
      refine W_yes (congrArg some hb1750) ?_
      obtain ⟨t1753, ht1754, H⟩ := bindS H
      replace S : St w1737 M1738 F [_, _, _, _, _] := S.pick [4, 3, 2, 1, 0] (by decide)
      refine W_callF2 fn28 (model_Model_Floor_POOOO.con k M1738 A1699 c1700 A1702 c1703 A1705 c1706 A1708 c1709 vs1711 x1698 bo0 t1753 hm1712 ht1754) (Γ1 := [_, _, _, _, _]) (Γ2 := []) S rfl rfl (by rintro _ _ _ ⟨rfl, rfl⟩; exact (flat_cons flat_blk (flat_cons flat_map (flat_cons flat_map (flat_cons (flat_row (fun _ _ _ _ h => h)) (flat_cons flat_map flat_nil)))))) ?_
      rintro _ w1755 _ Γ' E' S ⟨rfl, rfl⟩
      replace E := E.trans E'
      clear E'
      replace S : St w1755 M1738 F [_, _, _, _, _] := S
      refine W_yes (congrArg some hb1750) ?_
      refine W_v (.bool (t1753 != (2 : Int))) (x_ibin rfl rfl rfl rfl) rfl ?_
      refine W_v (.bool (t1753 != (2 : Int))) (x_pick (k := false) (congrArg Value.bool hb1750) rfl) rfl ?_
      refine Wl_nil ?_
      exact ⟨(t1753 != (2 : Int)), Option.some.inj H, ⟨rfl, rfl, trivial⟩, E, S.pick [4, 3, 2, 1, 0] (by decide)⟩
  as_aux_lemma =>
  clear o1752h
  rintro ρ w1758 ⟨x1751, rfl, hρ, E, S⟩
  rw [agree_eta hρ]
  clear hρ
  have H := o1752H
  clear o1752H
  refine W_v (.bool x1751) (x_move rfl) rfl ?_
  obtain ⟨o1777, o1777h, o1777H⟩ := bindS H
  clear H
  refine Wl_cutN 5 (fun ρ w' => ∃ (x1776 : Bool), (x1776) = o1777 ∧ Agree ρ [(0, .pointer (some ⟨bo0, 0, none⟩)), (208, .bool x1776)] ∧ Ext w w' ∧ St w' M1738 F [MapC encS (fun v : Value => v) A1708 vs1711, Row r_model_tx 99 (.slice A1705 x1698.txs.length c1706) x1698.txs, MapC (Value.int .i64) (Value.int .i64) A1702 x1698.many, MapC enc_model_name (Value.int .i64) A1699 x1698.names, B94 bo0 x1698 A1699 A1702 A1705 c1706 A1708]) ?_ ?_
  · have H := o1777h
    rcases iteS H with ⟨hb1775, H⟩ | ⟨hb1775, H⟩
    · skip
      refine W_no (skF hb1775) rfl ?_
      refine W_no (skF hb1775) rfl ?_
      refine W_no (skF hb1775) rfl ?_
      refine W_no (skF hb1775) rfl ?_
      refine W_v (.bool true) (x_pick (k := true) (congrArg Value.bool hb1775) rfl) rfl ?_
      refine Wl_nil ?_
      exact ⟨true, Option.some.inj H, ⟨rfl, rfl, trivial⟩, E, S.pick [0, 1, 2, 3, 4] (by decide)⟩
    · skip
      refine W_yes (congrArg some hb1775) ?_
      refine W_v (.pointer (some ⟨bo0, 0, none⟩)) (x_move rfl) rfl ?_
      refine W_yes (congrArg some hb1775) ?_
      obtain ⟨t1778, ht1779, H⟩ := bindS H
      replace S : St w1758 M1738 F [_, _, _, _, _] := S.pick [4, 3, 2, 1, 0] (by decide)
      refine W_callF2 fn26 (model_Model_Versions_POOOO.con k M1738 A1699 c1700 A1702 c1703 A1705 c1706 A1708 c1709 vs1711 x1698 ([97] : Str) bo0 t1778 hm1712 ht1779) (Γ1 := [_, _, _, _, _]) (Γ2 := []) S rfl rfl (by rintro _ _ _ ⟨_, _, rfl, rfl⟩; exact (flat_cons (flat_row (fun _ _ _ _ h => h)) (flat_cons flat_blk (flat_cons flat_map (flat_cons flat_map (flat_cons (flat_row (fun _ _ _ _ h => h)) (flat_cons flat_map flat_nil))))))) ?_
      rintro _ w1783 _ Γ' E' S ⟨A1780, c1781, rfl, rfl⟩
      replace E := E.trans E'
      clear E'
      replace S : St w1783 M1738 F [_, _, _, _, _, _] := S
      refine W_yes (congrArg some hb1775) ?_
      refine W_v (.int .i64 (t1778.length : Int)) (x_len_slice (n := t1778.length) Tryd.underlying65 rfl) rfl ?_
      refine W_yes (congrArg some hb1775) ?_
      refine W_v (.bool ((t1778.length : Int) != (1 : Int))) (x_ibin rfl rfl rfl rfl) rfl ?_
      refine W_v (.bool ((t1778.length : Int) != (1 : Int))) (x_pick (k := false) (congrArg Value.bool hb1775) rfl) rfl ?_
      refine Wl_nil ?_
      exact ⟨((t1778.length : Int) != (1 : Int)), Option.some.inj H, ⟨rfl, rfl, trivial⟩, E, S.pick [5, 4, 3, 2, 1] (by decide)⟩
  as_aux_lemma =>
  clear o1777h
  rintro ρ w1786 ⟨x1776, rfl, hρ, E, S⟩
  rw [agree_eta hρ]
  clear hρ
  have H := o1777H
  clear o1777H
  refine W_v (.bool x1776) (x_move rfl) rfl ?_
  obtain ⟨o1848, o1848h, o1848H⟩ := bindS H
  clear H
  refine Wl_cutN 5 (fun ρ w' => ∃ (x1832 : Bool) (x1833 : model_Model) (A1834 : Option Addr) (c1835 : Nat) (A1837 : Option Addr) (c1838 : Nat) (A1840 : Option Addr) (c1841 : Nat) (A1843 : Option Addr) (c1844 : Nat) (vs1846 : List (Str × Value)) (Mj : Hp), (x1832, x1833) = o1848 ∧ Agree ρ [(0, .pointer (some ⟨bo0, 0, none⟩)), (214, .bool x1832)] ∧ M1738.le Mj ∧ Ext w w' ∧ St w' Mj F [MapC encS (fun v : Value => v) A1843 vs1846, Row r_model_tx 99 (.slice A1840 x1833.txs.length c1841) x1833.txs, MapC (Value.int .i64) (Value.int .i64) A1837 x1833.many, MapC enc_model_name (Value.int .i64) A1834 x1833.names, B94 bo0 x1833 A1834 A1837 A1840 c1841 A1843] ∧ MRel r_model_row Mj x1833.rows vs1846) ?_ ?_
  · as_aux_lemma =>
      have H := o1848h
      have LE1849 := Hp.le_refl M1738
      rcases iteS H with ⟨hb1831, H⟩ | ⟨hb1831, H⟩
      · skip
        refine W_no (skF hb1831) rfl ?_
        refine W_no (skF hb1831) rfl ?_
        refine W_no (skF hb1831) rfl ?_
        refine W_no (skF hb1831) rfl ?_
        refine W_v (.bool true) (x_pick (k := true) (congrArg Value.bool hb1831) rfl) rfl ?_
        refine Wl_nil ?_
        exact ⟨true, x1698, A1699, c1700, A1702, c1703, A1705, c1706, A1708, c1709, vs1711, M1738, Option.some.inj H, ⟨rfl, rfl, trivial⟩, (Hp.le_refl M1738), E, S.pick [0, 1, 2, 3, 4] (by decide), hm1712⟩
      · skip
        refine W_yes (congrArg some hb1831) ?_
        refine W_v (.pointer (some ⟨bo0, 0, none⟩)) (x_move rfl) rfl ?_
        refine W_yes (congrArg some hb1831) ?_
        obtain ⟨t1850, ht1851, H⟩ := bindS H
        refine W_callF fn31 (ferrymanlaw16_on.con k M1738 (3 : Int) (5 : Int) ([97] : Str) ([54] : Str) t1850  ht1851) S rfl rfl (by rintro _ _ _ ⟨_, rfl⟩; exact flat_nil) ?_
        rintro _ w1852 _ Γ' E' S ⟨rfl, rfl⟩
        replace E := E.trans E'
        clear E'
        refine W_yes (congrArg some hb1831) ?_
        obtain ⟨t1853, ht1854, H⟩ := bindS H
        replace S : St w1852 M1738 F [_, _, _, _, _] := S.pick [4, 3, 2, 1, 0] (by decide)
        refine W_call fn32 (ferrymanlaw16_is_POOOO.con k M1738 A1699 c1700 A1702 c1703 A1705 c1706 A1708 c1709 vs1711 x1698 (0 : Int) t1850 (0 : Int) false ([] : Str) bo0 t1853 hm1712 hg0 ht1854) (Γ1 := [_, _, _, _, _]) (Γ2 := []) S rfl rfl ?_
        rintro _ w1869 M1870 Γ' hM1871 E' S ⟨A1855, c1856, A1858, c1859, A1861, c1862, A1864, c1865, vs1867, rfl, hm1868, rfl⟩
        replace hg0 : ∃ gt fr, _ := (let ⟨gt, fr, h8⟩ := hg0; ⟨gt, fr, hM1871 _ _ h8⟩)
        replace HM := Hp.le_trans HM hM1871
        replace hM110 := Hp.le_trans hM110 hM1871
        replace hM198 := Hp.le_trans hM198 hM1871
        replace hM286 := Hp.le_trans hM286 hM1871
        replace hM393 := Hp.le_trans hM393 hM1871
        replace hM945 := Hp.le_trans hM945 hM1871
        replace hM1011 := Hp.le_trans hM1011 hM1871
        replace hM1077 := Hp.le_trans hM1077 hM1871
        replace hM1188 := Hp.le_trans hM1188 hM1871
        replace hM1276 := Hp.le_trans hM1276 hM1871
        replace hM1364 := Hp.le_trans hM1364 hM1871
        replace hM1452 := Hp.le_trans hM1452 hM1871
        replace hM1540 := Hp.le_trans hM1540 hM1871
        replace hM1628 := Hp.le_trans hM1628 hM1871
        replace hM1739 := Hp.le_trans hM1739 hM1871
        replace LE1849 := Hp.le_trans LE1849 hM1871
        replace hm0_11 := MRel.mono hm0_11 hM1871
        replace hm19 := MRel.mono hm19 hM1871
        replace hm83 := MRel.mono hm83 hM1871
        replace hm171 := MRel.mono hm171 hM1871
        replace hm259 := MRel.mono hm259 hM1871
        replace hm366 := MRel.mono hm366 hM1871
        replace hm413 := MRel.mono hm413 hM1871
        replace hm439 := MRel.mono hm439 hM1871
        replace hm465 := MRel.mono hm465 hM1871
        replace hm491 := MRel.mono hm491 hM1871
        replace hm517 := MRel.mono hm517 hM1871
        replace hm919 := MRel.mono hm919 hM1871
        replace hm984 := MRel.mono hm984 hM1871
        replace hm1050 := MRel.mono hm1050 hM1871
        replace hm1097 := MRel.mono hm1097 hM1871
        replace hm1161 := MRel.mono hm1161 hM1871
        replace hm1249 := MRel.mono hm1249 hM1871
        replace hm1337 := MRel.mono hm1337 hM1871
        replace hm1425 := MRel.mono hm1425 hM1871
        replace hm1513 := MRel.mono hm1513 hM1871
        replace hm1601 := MRel.mono hm1601 hM1871
        replace hm1648 := MRel.mono hm1648 hM1871
        replace hm1712 := MRel.mono hm1712 hM1871
        replace E := E.trans E'
        clear E'
        replace S : St w1869 M1870 F [_, _, _, _, _] := S
        refine W_yes (congrArg some hb1831) ?_
        refine W_v (.bool (!t1853.1)) (x_not (b := t1853.1) rfl) rfl ?_
        refine W_v (.bool (!t1853.1)) (x_pick (k := false) (congrArg Value.bool hb1831) rfl) rfl ?_
        refine Wl_nil ?_
        exact ⟨(!t1853.1), t1853.2, A1855, c1856, A1858, c1859, A1861, c1862, A1864, c1865, vs1867, M1870, Option.some.inj H, ⟨rfl, rfl, trivial⟩, LE1849, E, S.pick [4, 3, 2, 1, 0] (by decide), hm1868⟩
  as_aux_lemma =>
  clear o1848h
  rintro ρ w1872 ⟨x1832, x1833, A1834, c1835, A1837, c1838, A1840, c1841, A1843, c1844, vs1846, M1873, rfl, hρ, hM1874, E, S, hm1847⟩
  rw [agree_eta hρ]
  clear hρ
  replace hg0 : ∃ gt fr, _ := (let ⟨gt, fr, h8⟩ := hg0; ⟨gt, fr, hM1874 _ _ h8⟩)
  replace HM := Hp.le_trans HM hM1874
  replace hM110 := Hp.le_trans hM110 hM1874
  replace hM198 := Hp.le_trans hM198 hM1874
  replace hM286 := Hp.le_trans hM286 hM1874
  replace hM393 := Hp.le_trans hM393 hM1874
  replace hM945 := Hp.le_trans hM945 hM1874
  replace hM1011 := Hp.le_trans hM1011 hM1874
  replace hM1077 := Hp.le_trans hM1077 hM1874
  replace hM1188 := Hp.le_trans hM1188 hM1874
  replace hM1276 := Hp.le_trans hM1276 hM1874
  replace hM1364 := Hp.le_trans hM1364 hM1874
  replace hM1452 := Hp.le_trans hM1452 hM1874
  replace hM1540 := Hp.le_trans hM1540 hM1874
  replace hM1628 := Hp.le_trans hM1628 hM1874
  replace hM1739 := Hp.le_trans hM1739 hM1874
  replace hm0_11 := MRel.mono hm0_11 hM1874
  replace hm19 := MRel.mono hm19 hM1874
  replace hm83 := MRel.mono hm83 hM1874
  replace hm171 := MRel.mono hm171 hM1874
  replace hm259 := MRel.mono hm259 hM1874
  replace hm366 := MRel.mono hm366 hM1874
  replace hm413 := MRel.mono hm413 hM1874
  replace hm439 := MRel.mono hm439 hM1874
  replace hm465 := MRel.mono hm465 hM1874
  replace hm491 := MRel.mono hm491 hM1874
  replace hm517 := MRel.mono hm517 hM1874
  replace hm919 := MRel.mono hm919 hM1874
  replace hm984 := MRel.mono hm984 hM1874
  replace hm1050 := MRel.mono hm1050 hM1874
  replace hm1097 := MRel.mono hm1097 hM1874
  replace hm1161 := MRel.mono hm1161 hM1874
  replace hm1249 := MRel.mono hm1249 hM1874
  replace hm1337 := MRel.mono hm1337 hM1874
  replace hm1425 := MRel.mono hm1425 hM1874
  replace hm1513 := MRel.mono hm1513 hM1874
  replace hm1601 := MRel.mono hm1601 hM1874
  replace hm1648 := MRel.mono hm1648 hM1874
  replace hm1712 := MRel.mono hm1712 hM1874
  have H := o1848H
  clear o1848H
  refine Wl_nil ?_
  refine tn ?_
  rcases iteS H with ⟨hb1875, H⟩ | ⟨hb1875, H⟩
  · refine Wp_cond_true (congrArg Value.bool hb1875) ?_
    refine Wp_seq ?_
    refine Wp_region_lit ?_
    refine W_v (.bool false) (x_assign rfl) rfl ?_
    refine Wl_nil ?_
    refine tn ?_
    refine Wp_ret ?_
    refine tr (?_)
    obtain rfl := Option.some.inj H
    exact ⟨_, _, _, fun w1 e1 => run_resR (vs := [.bool false]) (FA.cons (rfl) (FA.nil)), HM, E, S.pick [4, 3, 2, 1, 0] (by decide), ⟨A1834, c1835, A1837, c1838, A1840, c1841, A1843, c1844, vs1846, rfl, hm1847, rfl⟩⟩
  refine Wp_cond_false (congrArg Value.bool hb1875) ?_
  refine Wp_skip ?_
  refine tn ?_
  as_aux_lemma =>
  refine Wp_seq ?_
  refine Wp_region_lit ?_
  refine W_v (.pointer (some ⟨bo0, 0, none⟩)) (x_move rfl) rfl ?_
  obtain ⟨t1876, ht1877, H⟩ := bindS H
  replace S : St w1872 M1873 F [_, _, _, _, _] := S.pick [4, 3, 2, 1, 0] (by decide)
  refine W_callF2 fn24 (model_Model_Intent_POOOO.con k M1873 A1834 c1835 A1837 c1838 A1840 c1841 A1843 c1844 vs1846 x1833 ([97] : Str) bo0 t1876 hm1847 ht1877) (Γ1 := [_, _, _, _, _]) (Γ2 := []) S rfl rfl (by rintro _ _ _ ⟨rfl, rfl⟩; exact (flat_cons flat_blk (flat_cons flat_map (flat_cons flat_map (flat_cons (flat_row (fun _ _ _ _ h => h)) (flat_cons flat_map flat_nil)))))) ?_
  rintro _ w1878 _ Γ' E' S ⟨rfl, rfl⟩
  replace E := E.trans E'
  clear E'
  replace S : St w1878 M1873 F [_, _, _, _, _] := S
  refine W_v (.tuple #[.agg #[.int .i64 t1876.1.Writer, .int .i64 t1876.1.TS, .bool t1876.1.Tomb, .string (bs t1876.1.Value)], .bool t1876.2]) (x_move rfl) rfl ?_
  refine W_v (.agg #[.int .i64 t1876.1.Writer, .int .i64 t1876.1.TS, .bool t1876.1.Tomb, .string (bs t1876.1.Value)]) (x_extract rfl rfl) rfl ?_
  refine W_v (.bool t1876.2) (x_extract rfl rfl) rfl ?_
  refine W_alloc S #[.int .i64 0, .int .i64 0, .bool false, .string (bs ([] : Str))] ty61 rfl rfl ?_
  intro b1881 w1882 E' S
  replace E := E.trans E'
  clear E'
  refine W_store S 0 rfl ty61 rfl rfl [.int .i64 t1876.1.Writer, .int .i64 t1876.1.TS, .bool t1876.1.Tomb, .string (bs t1876.1.Value)] rfl rfl rfl #[.int .i64 t1876.1.Writer, .int .i64 t1876.1.TS, .bool t1876.1.Tomb, .string (bs t1876.1.Value)] rfl rfl ?_
  intro w1884 E' S
  replace E := E.trans E'
  clear E'
  refine W_v (.bool t1876.2) (x_assign rfl) rfl ?_
  refine Wl_nil ?_
  refine tn ?_
  refine Wp_seq ?_
  refine Wp_region_lit ?_
  refine W_v (.bool t1876.2) (x_move rfl) rfl ?_
  refine W_v (.bool t1876.2) (x_move rfl) rfl ?_
  refine Wl_cutN 4 (fun ρ w' => Agree ρ [(0, .pointer (some ⟨bo0, 0, none⟩)), (225, .bool (t1876.2 && ((t1876.1.Writer == (5 : Int)) && ((t1876.1.TS == (0 : Int)) && ((t1876.1.Tomb == false) && (t1876.1.Value == ([54] : Str)))))))] ∧ w1884 = w') ?_ ?_
  · rcases boolCases t1876.2 with hb1885 | hb1885
    · skip
      refine W_no (skT hb1885) rfl ?_
      refine W_no (skT hb1885) rfl ?_
      refine W_no (skT hb1885) rfl ?_
      refine W_v (.bool false) (x_pick (k := false) (congrArg Value.bool hb1885) rfl) rfl ?_
      refine Wl_nil ?_
      exact ⟨⟨rfl, (by first | rfl | (rw [hb1885]; rfl) | (simp only [hb1885]; rfl)), trivial⟩, rfl⟩
    · skip
      refine W_yes (congrArg some hb1885) ?_
      refine W_v (.agg #[.int .i64 t1876.1.Writer, .int .i64 t1876.1.TS, .bool t1876.1.Tomb, .string (bs t1876.1.Value)]) (x_loadA (S.blk 0 rfl) ty61 rfl (sub_of_extract rfl) rfl rfl) rfl ?_
      refine W_yes (congrArg some hb1885) ?_
      refine W_v (.agg #[.int .i64 5, .int .i64 0, .bool false, .string (bs ([54] : Str))]) (x_build2 (pl := [(0, 1), (1, 1), (2, 1), (3, 1)]) #[.int .i64 5, .int .i64 0, .bool false, .string (bs ([54] : Str))] Tryd.underlying61 ty61 (by as_aux_lemma => kernel_rfl) rfl (by as_aux_lemma => kernel_rfl)) rfl ?_
      refine W_yes (congrArg some hb1885) ?_
      refine W_v (.bool ((t1876.1.Writer == (5 : Int)) && ((t1876.1.TS == (0 : Int)) && ((t1876.1.Tomb == false) && (t1876.1.Value == ([54] : Str)))))) (x_eq_of (eg61 _ _ _ _) rfl (eq61 _ t1876.1.Writer t1876.1.TS t1876.1.Tomb t1876.1.Value (5 : Int) (0 : Int) false ([54] : Str))) rfl ?_
      refine W_v (.bool ((t1876.1.Writer == (5 : Int)) && ((t1876.1.TS == (0 : Int)) && ((t1876.1.Tomb == false) && (t1876.1.Value == ([54] : Str)))))) (x_pick (k := true) (congrArg Value.bool hb1885) rfl) rfl ?_
      refine Wl_nil ?_
      exact ⟨⟨rfl, (by first | rfl | (rw [hb1885]; rfl) | (simp only [hb1885]; rfl)), trivial⟩, rfl⟩
  as_aux_lemma =>
  rintro ρ _ ⟨hρ, rfl⟩
  rw [agree_eta hρ]
  clear hρ
  refine W_v (.bool (t1876.2 && ((t1876.1.Writer == (5 : Int)) && ((t1876.1.TS == (0 : Int)) && ((t1876.1.Tomb == false) && (t1876.1.Value == ([54] : Str))))))) (x_move rfl) rfl ?_
  obtain ⟨o1898, o1898h, o1898H⟩ := bindS H
  clear H
  refine Wl_cutN 4 (fun ρ w' => ∃ (x1897 : Bool), (x1897) = o1898 ∧ Agree ρ [(230, .bool x1897)] ∧ Ext w w' ∧ St w' M1873 F [B94 bo0 x1833 A1834 A1837 A1840 c1841 A1843, MapC enc_model_name (Value.int .i64) A1834 x1833.names, MapC (Value.int .i64) (Value.int .i64) A1837 x1833.many, Row r_model_tx 99 (.slice A1840 x1833.txs.length c1841) x1833.txs, MapC encS (fun v : Value => v) A1843 vs1846]) ?_ ?_
  · have H := o1898h
    rcases iteS H with ⟨hb1896, H⟩ | ⟨hb1896, H⟩
    · skip
      refine W_yes (congrArg some hb1896) ?_
      refine W_v (.pointer (some ⟨bo0, 0, none⟩)) (x_move rfl) rfl ?_
      refine W_yes (congrArg some hb1896) ?_
      obtain ⟨t1899, ht1900, H⟩ := bindS H
      replace S : St w1884 M1873 F [_, _, _, _, _, _] := S.pick [1, 2, 3, 4, 5, 0] (by decide)
      refine W_callF2 fn21 (model_Model_Active_POOOO.con k M1873 A1834 c1835 A1837 c1838 A1840 c1841 A1843 c1844 vs1846 x1833 bo0 t1899 hm1847 ht1900) (Γ1 := [_, _, _, _, _]) (Γ2 := [_]) S rfl rfl (by rintro _ _ _ ⟨rfl, rfl⟩; exact (flat_cons flat_blk (flat_cons flat_map (flat_cons flat_map (flat_cons (flat_row (fun _ _ _ _ h => h)) (flat_cons flat_map flat_nil)))))) ?_
      rintro _ w1901 _ Γ' E' S ⟨rfl, rfl⟩
      replace E := E.trans E'
      clear E'
      replace S : St w1901 M1873 F [_, _, _, _, _, _] := S
      refine W_yes (congrArg some hb1896) ?_
      refine W_v (.bool (t1899 == (1 : Int))) (x_ibin rfl rfl rfl rfl) rfl ?_
      refine W_v (.bool (t1899 == (1 : Int))) (x_pick (k := true) (congrArg Value.bool hb1896) rfl) rfl ?_
      refine Wl_nil ?_
      exact ⟨(t1899 == (1 : Int)), Option.some.inj H, ⟨rfl, trivial⟩, E, S.pick [0, 1, 2, 3, 4] (by decide)⟩
    · skip
      refine W_no (skT hb1896) rfl ?_
      refine W_no (skT hb1896) rfl ?_
      refine W_no (skT hb1896) rfl ?_
      refine W_v (.bool false) (x_pick (k := false) (congrArg Value.bool hb1896) rfl) rfl ?_
      refine Wl_nil ?_
      exact ⟨false, Option.some.inj H, ⟨rfl, trivial⟩, E, S.pick [1, 2, 3, 4, 5] (by decide)⟩
  clear o1898h
  rintro ρ w1904 ⟨x1897, rfl, hρ, E, S⟩
  rw [agree_eta hρ]
  clear hρ
  have H := o1898H
  clear o1898H
  refine W_v (.bool x1897) (x_assign rfl) rfl ?_
  refine Wl_nil ?_
  refine tn ?_
  refine Wp_ret ?_
  obtain rfl := Option.some.inj H
  exact ⟨_, _, _, fun w1 e1 => run_resR (vs := [.bool x1897]) (FA.cons (rfl) (FA.nil)), HM, E, S.pick [0, 1, 2, 3, 4] (by decide), ⟨A1834, c1835, A1837, c1838, A1840, c1841, A1843, c1844, vs1846, rfl, hm1847, rfl⟩⟩
end Go.Proofs.YtcngjjlhdlbogaaDoor
