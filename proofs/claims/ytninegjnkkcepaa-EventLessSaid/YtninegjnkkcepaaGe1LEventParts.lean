import Derived.Test.YtninegjnkkcepaaGe1
namespace Go.Proofs.Ytninegjnkkcepaa
open Go
set_option linter.unusedVariables false
set_option linter.unusedSimpArgs false
/-! ### ferryman/ferrymanlaw06.EventParts: function 3 -/
def ferrymanlaw06_EventParts_l0 (a1 : (List api_Event)) (a3 : Int) : Nat → List api_Event → List api_Event → Int → Option ((List api_Event × List api_Event))
  | 0, _, _, _ => none
  | k + 1, x799, x803, x807 => (if (decide (x807 < (a1.length : Int))) = true then (Option.bind (α := List api_Event × List api_Event) (if 0 ≤ x807 ∧ x807 < (a1.length : Int) then (Option.bind (α := List api_Event × List api_Event) (if ((rd a1 x807).Task == a3) = true then (if 0 ≤ x807 ∧ x807 < (a1.length : Int) then (if x799.length + ([(rd a1 x807)] : List api_Event).length ≤ 1759218604441 then some ((x799 ++ ([(rd a1 x807)] : List api_Event)), x803) else none) else none) else (if 0 ≤ x807 ∧ x807 < (a1.length : Int) then (if x803.length + ([(rd a1 x807)] : List api_Event).length ≤ 1759218604441 then some (x799, (x803 ++ ([(rd a1 x807)] : List api_Event))) else none) else none)) (fun ⟨x1488, x1492⟩ => some (x1488, x1492))) else none) (fun ⟨x1363, x1367⟩ => ferrymanlaw06_EventParts_l0 a1 a3 k x1363 x1367 (IntKind.i64.wrap (x807 + (1 : Int))))) else some (x799, x803))
set_option maxHeartbeats 2000000 in
theorem ferrymanlaw06_EventParts_l0.mono {a1 : (List api_Event)} {a3 : Int} : ∀ {k : Nat} {x0 x1 x2}, OLe (ferrymanlaw06_EventParts_l0 a1 a3 k x0 x1 x2) (ferrymanlaw06_EventParts_l0 a1 a3 (k + 1) x0 x1 x2) := by
  intro k
  induction k with
  | zero => intros; exact OLe.none
  | succ k ih =>
    intros
    rw [ferrymanlaw06_EventParts_l0.eq_2, ferrymanlaw06_EventParts_l0.eq_2]
    repeat' (first | with_reducible exact OLe.none | with_reducible exact OLe.some | with_reducible refine OLe.ite ?_ ?_ | with_reducible refine OLe.bind ?_ (fun _ => ?_) | exact ih | refine OLe.bind ?_ (fun _ => ?_) | refine OLe.ite ?_ ?_ | refine OLe.elim (fun _ => ?_) (fun _ => ?_) | split)
def ferrymanlaw06_EventParts (k : Nat) (a0 : Int) (a1 : (List api_Event)) (a2 : Int) (a3 : Int) : Option (Bool) :=
  (Option.bind (ferrymanlaw06_works k ) (fun t1 => (Option.bind (α := Bool) (if (!t1) = true then some (true) else (Option.bind (ferrymanlaw06_wide k a1) (fun t13 => some (t13)))) (fun x11 => (Option.bind (α := Bool) (if x11 = true then some (true) else (Option.bind (event_Legal k a0 a1) (fun t26 => some ((!t26))))) (fun x24 => (if x24 = true then (Option.bind (ferrymanlaw06_works k ) (fun t31 => some t31)) else (if (IntKind.u64.wrap (IntKind.i64.wrap ((a1.length : Int) + (1 : Int)))) ≠ 0 then (Option.bind (ferrymanlaw06_EventParts_l0 a1 a3 k ([] : List api_Event) ([] : List api_Event) (0 : Int)) (fun ⟨x1173, x1177⟩ => (if 0 ≤ (IntKind.i64.wrap (Int.tmod (IntKind.u64.wrap a2) (IntKind.u64.wrap (IntKind.i64.wrap ((a1.length : Int) + (1 : Int)))))) ∧ (IntKind.i64.wrap (Int.tmod (IntKind.u64.wrap a2) (IntKind.u64.wrap (IntKind.i64.wrap ((a1.length : Int) + (1 : Int)))))) ≤ (a1.length : Int) then (Option.bind (event_Legal k a0 (List.take (IntKind.i64.wrap (Int.tmod (IntKind.u64.wrap a2) (IntKind.u64.wrap (IntKind.i64.wrap ((a1.length : Int) + (1 : Int)))))).toNat a1)) (fun t1556 => (Option.bind (α := Bool) (if t1556 = true then (Option.bind (event_Legal k a0 x1173) (fun t1568 => some (t1568))) else some (false)) (fun x1566 => (Option.bind (α := Bool) (if x1566 = true then (Option.bind (event_Legal k a0 x1177) (fun t1581 => some (t1581))) else some (false)) (fun x1579 => some x1579)))))) else none))) else none))))))))
set_option maxHeartbeats 2000000 in
theorem ferrymanlaw06_EventParts.mono {k : Nat} {a0 : Int} {a1 : (List api_Event)} {a2 : Int} {a3 : Int} : OLe (ferrymanlaw06_EventParts k a0 a1 a2 a3) (ferrymanlaw06_EventParts (k + 1) a0 a1 a2 a3) := by
  unfold ferrymanlaw06_EventParts
  repeat' (first | with_reducible exact OLe.none | with_reducible exact OLe.some | with_reducible refine OLe.ite ?_ ?_ | with_reducible refine OLe.bind ?_ (fun _ => ?_) | with_reducible exact event_Legal.mono | with_reducible exact ferrymanlaw06_EventParts_l0.mono | with_reducible exact ferrymanlaw06_wide.mono | with_reducible exact ferrymanlaw06_works.mono | refine OLe.bind ?_ (fun _ => ?_) | refine OLe.ite ?_ ?_ | refine OLe.elim (fun _ => ?_) (fun _ => ?_) | split)
set_option maxHeartbeats 1000000 in
set_option maxRecDepth 100000 in
theorem ferrymanlaw06_EventParts.con (k : Nat) (M : Hp) (a0 : Int) (A1 : Option Addr) (c1 : Nat) (a1 : (List api_Event)) (a2 : Int) (a3 : Int) (r : Bool) (hr1 : SlR r_api_Event M (.slice A1 a1.length c1) a1) (h : ferrymanlaw06_EventParts k a0 a1 a2 a3 = some r) : Con Try.prog 3 #[.int .i64 a0, .slice A1 a1.length c1, .int .i64 a2, .int .i64 a3] M [] (fun v M' Γ' => v = .bool r ∧ Γ' = []) := by
  refine con_of_wp Try.func3 rfl Try.ntmps3 Try.results3 rfl ?_
  intro w F rn S hrn
  have E := Ext.refl w
  have HM := Hp.le_refl M
  have H := h
  unfold ferrymanlaw06_EventParts at H
  refine Wp_seq ?_
  refine Wp_region_lit ?_
  refine W_v (.bool false) (x_assign rfl) rfl ?_
  refine Wl_nil ?_
  refine tn ?_
  refine Wp_seq ?_
  refine Wp_seq ?_
  refine Wp_region_lit ?_
  obtain ⟨t1, ht2, H⟩ := bindS H
  refine W_callF fn10 (ferrymanlaw06_works.con k M  t1  ht2) S rfl rfl (by rintro _ _ _ ⟨_, rfl⟩; exact flat_nil) ?_
  rintro _ w3 _ Γ' E' S ⟨rfl, rfl⟩
  replace E := E.trans E'
  clear E'
  refine W_v (.bool (!t1)) (x_not rfl) rfl ?_
  refine W_v (.bool (!t1)) (x_move rfl) rfl ?_
  obtain ⟨o12, o12h, o12H⟩ := bindS H
  clear H
  refine Wl_cutN 3 (fun ρ w' => ∃ (x11 : Bool), (x11) = o12 ∧ Agree ρ [(0, .int .i64 a0), (1, .slice A1 a1.length c1), (2, .int .i64 a2), (3, .int .i64 a3), (17, .bool x11)] ∧ Ext w w' ∧ St w' M F []) ?_ ?_
  · have H := o12h
    rcases iteS H with ⟨hb10, H⟩ | ⟨hb10, H⟩
    · skip
      refine W_no (skF hb10) rfl ?_
      refine W_no (skF hb10) rfl ?_
      refine W_v (.bool true) (x_pick (k := true) (congrArg Value.bool hb10) rfl) rfl ?_
      refine Wl_nil ?_
      exact ⟨true, Option.some.inj H, ⟨rfl, rfl, rfl, rfl, rfl, trivial⟩, E, S.pick [] (by decide)⟩
    · skip
      refine W_yes (congrArg some hb10) ?_
      refine W_v (.slice A1 a1.length c1) (x_move rfl) rfl ?_
      refine W_yes (congrArg some hb10) ?_
      obtain ⟨t13, ht14, H⟩ := bindS H
      refine W_callF fn11 (ferrymanlaw06_wide.con k M A1 c1 a1 t13 hr1 ht14) S rfl rfl (by rintro _ _ _ ⟨_, rfl⟩; exact flat_nil) ?_
      rintro _ w15 _ Γ' E' S ⟨rfl, rfl⟩
      replace E := E.trans E'
      clear E'
      refine W_v (.bool t13) (x_pick (k := false) (congrArg Value.bool hb10) rfl) rfl ?_
      refine Wl_nil ?_
      exact ⟨t13, Option.some.inj H, ⟨rfl, rfl, rfl, rfl, rfl, trivial⟩, E, S.pick [] (by decide)⟩
  clear o12h
  rintro ρ w16 ⟨x11, rfl, hρ, E, S⟩
  rw [agree_eta hρ]
  clear hρ
  have H := o12H
  clear o12H
  refine W_v (.bool x11) (x_move rfl) rfl ?_
  obtain ⟨o25, o25h, o25H⟩ := bindS H
  clear H
  refine Wl_cutN 5 (fun ρ w' => ∃ (x24 : Bool), (x24) = o25 ∧ Agree ρ [(0, .int .i64 a0), (1, .slice A1 a1.length c1), (2, .int .i64 a2), (3, .int .i64 a3), (23, .bool x24)] ∧ Ext w w' ∧ St w' M F []) ?_ ?_
  · have H := o25h
    rcases iteS H with ⟨hb23, H⟩ | ⟨hb23, H⟩
    · skip
      refine W_no (skF hb23) rfl ?_
      refine W_no (skF hb23) rfl ?_
      refine W_no (skF hb23) rfl ?_
      refine W_no (skF hb23) rfl ?_
      refine W_v (.bool true) (x_pick (k := true) (congrArg Value.bool hb23) rfl) rfl ?_
      refine Wl_nil ?_
      exact ⟨true, Option.some.inj H, ⟨rfl, rfl, rfl, rfl, rfl, trivial⟩, E, S.pick [] (by decide)⟩
    · skip
      refine W_yes (congrArg some hb23) ?_
      refine W_v (.int .i64 a0) (x_move rfl) rfl ?_
      refine W_yes (congrArg some hb23) ?_
      refine W_v (.slice A1 a1.length c1) (x_move rfl) rfl ?_
      refine W_yes (congrArg some hb23) ?_
      obtain ⟨t26, ht27, H⟩ := bindS H
      refine W_callF fn12 (event_Legal.con k M a0 A1 c1 a1 t26 hr1 ht27) S rfl rfl (by rintro _ _ _ ⟨_, rfl⟩; exact flat_nil) ?_
      rintro _ w28 _ Γ' E' S ⟨rfl, rfl⟩
      replace E := E.trans E'
      clear E'
      refine W_yes (congrArg some hb23) ?_
      refine W_v (.bool (!t26)) (x_not rfl) rfl ?_
      refine W_v (.bool (!t26)) (x_pick (k := false) (congrArg Value.bool hb23) rfl) rfl ?_
      refine Wl_nil ?_
      exact ⟨(!t26), Option.some.inj H, ⟨rfl, rfl, rfl, rfl, rfl, trivial⟩, E, S.pick [] (by decide)⟩
  clear o25h
  rintro ρ w29 ⟨x24, rfl, hρ, E, S⟩
  rw [agree_eta hρ]
  clear hρ
  have H := o25H
  clear o25H
  refine Wl_nil ?_
  refine tn ?_
  rcases iteS H with ⟨hb30, H⟩ | ⟨hb30, H⟩
  · refine Wp_cond_true (congrArg Value.bool hb30) ?_
    refine Wp_seq ?_
    refine Wp_region_lit ?_
    obtain ⟨t31, ht32, H⟩ := bindS H
    refine W_callF fn10 (ferrymanlaw06_works.con k M  t31  ht32) S rfl rfl (by rintro _ _ _ ⟨_, rfl⟩; exact flat_nil) ?_
    rintro _ w33 _ Γ' E' S ⟨rfl, rfl⟩
    replace E := E.trans E'
    clear E'
    refine W_v (.bool t31) (x_assign rfl) rfl ?_
    refine Wl_nil ?_
    refine tn ?_
    refine Wp_ret ?_
    refine tr (?_)
    obtain rfl := Option.some.inj H
    exact ⟨_, _, _, fun w1 e1 => run_resR (vs := [.bool t31]) (FA.cons (rfl) (FA.nil)), HM, E, S.pick [] (by decide), ⟨rfl, rfl⟩⟩
  refine Wp_cond_false (congrArg Value.bool hb30) ?_
  refine Wp_skip ?_
  refine tn ?_
  refine Wp_seq ?_
  refine Wp_region_lit ?_
  refine W_v (.int .i64 a2) (x_move rfl) rfl ?_
  refine W_v (.int .u64 (IntKind.u64.wrap a2)) (x_conv_int Try.underlying3 Try.underlying26 rfl) rfl ?_
  refine W_v (.slice A1 a1.length c1) (x_move rfl) rfl ?_
  refine W_v (.int .i64 (a1.length : Int)) (x_len_slice (n := a1.length) Try.underlying22 rfl) rfl ?_
  refine W_v (.int .i64 (IntKind.i64.wrap ((a1.length : Int) + (1 : Int)))) (x_ibin rfl rfl rfl rfl) rfl ?_
  refine W_v (.int .u64 (IntKind.u64.wrap (IntKind.i64.wrap ((a1.length : Int) + (1 : Int))))) (x_conv_int Try.underlying3 Try.underlying26 rfl) rfl ?_
  obtain ⟨p34, H⟩ := chkS H
  refine W_v (.int .u64 (Int.tmod (IntKind.u64.wrap a2) (IntKind.u64.wrap (IntKind.i64.wrap ((a1.length : Int) + (1 : Int)))))) (x_rem rfl rfl p34) rfl ?_
  refine W_v (.int .i64 (IntKind.i64.wrap (Int.tmod (IntKind.u64.wrap a2) (IntKind.u64.wrap (IntKind.i64.wrap ((a1.length : Int) + (1 : Int))))))) (x_conv_int Try.underlying26 Try.underlying3 rfl) rfl ?_
  refine W_v (.int .i64 (IntKind.i64.wrap (Int.tmod (IntKind.u64.wrap a2) (IntKind.u64.wrap (IntKind.i64.wrap ((a1.length : Int) + (1 : Int))))))) (x_assign rfl) rfl ?_
  refine Wl_nil ?_
  refine tn ?_
  refine Wp_seq ?_
  refine Wp_region_lit ?_
  refine W_v (.slice none 0 0) (x_assign rfl) rfl ?_
  refine W_v (.slice none 0 0) (x_assign rfl) rfl ?_
  refine Wl_nil ?_
  refine tn ?_
  refine Wp_seq ?_
  refine Wp_seq ?_
  refine Wp_region_lit ?_
  refine W_v (.int .i64 0) (x_assign rfl) rfl ?_
  refine Wl_nil ?_
  refine tn ?_
  obtain ⟨o1181, o1181h, o1181H⟩ := bindS H
  clear H
  refine Wp_blockJ (fun ρ w' => ∃ (x1173 : List api_Event) (x1177 : List api_Event) (A1174 : Option Addr) (c1175 : Nat) (A1178 : Option Addr) (c1179 : Nat), (x1173, x1177) = o1181 ∧ Agree ρ [(0, .int .i64 a0), (1, .slice A1 a1.length c1), (2, .int .i64 (IntKind.i64.wrap (Int.tmod (IntKind.u64.wrap a2) (IntKind.u64.wrap (IntKind.i64.wrap ((a1.length : Int) + (1 : Int))))))), (9, .slice A1174 x1173.length c1175), (10, .slice A1178 x1177.length c1179)] ∧ Ext w w' ∧ St w' M F [Row r_api_Event 32 (.slice A1178 x1177.length c1179) x1177, Row r_api_Event 32 (.slice A1174 x1173.length c1175) x1173]) ?_ ?_
  · skip
    refine Wp_loop (fun n ρ w' => ∃ (x799 : List api_Event) (x803 : List api_Event) (x807 : Int) (A800 : Option Addr) (c801 : Nat) (A804 : Option Addr) (c805 : Nat), ferrymanlaw06_EventParts_l0 a1 a3 n x799 x803 x807 = some o1181 ∧ Agree ρ [(0, .int .i64 a0), (1, .slice A1 a1.length c1), (2, .int .i64 (IntKind.i64.wrap (Int.tmod (IntKind.u64.wrap a2) (IntKind.u64.wrap (IntKind.i64.wrap ((a1.length : Int) + (1 : Int))))))), (3, .int .i64 a3), (9, .slice A800 x799.length c801), (10, .slice A804 x803.length c805), (11, .int .i64 x807)] ∧ Ext w w' ∧ St w' M F [Row r_api_Event 32 (.slice A804 x803.length c805) x803, Row r_api_Event 32 (.slice A800 x799.length c801) x799]) k ?_ ?_
    · skip
      replace S := S.row_nil r_api_Event 32
      replace S := S.row_nil r_api_Event 32
      exact ⟨([] : List api_Event), ([] : List api_Event), (0 : Int), none, 0, none, 0, o1181h, ⟨rfl, rfl, rfl, rfl, rfl, rfl, rfl, trivial⟩, E, S.pick [0, 1] (by decide)⟩
    · intro n
      rintro ρ w1184 ⟨x799, x803, x807, A800, c801, A804, c805, H, hρ, E, S⟩
      rw [agree_eta hρ]
      clear hρ
      cases n with
      | zero => cases H
      | succ k =>
        rw [ferrymanlaw06_EventParts_l0.eq_2] at H
        refine Wp_seq ?_
        refine Wp_seq ?_
        refine Wp_region_lit ?_
        refine W_v (.int .i64 x807) (x_move rfl) rfl ?_
        refine W_v (.slice A1 a1.length c1) (x_move rfl) rfl ?_
        refine W_v (.int .i64 (a1.length : Int)) (x_len_slice (n := a1.length) Try.underlying22 rfl) rfl ?_
        refine W_v (.bool (decide (x807 < (a1.length : Int)))) (x_ibin rfl rfl rfl rfl) rfl ?_
        refine Wl_nil ?_
        refine tn ?_
        rcases iteS H with ⟨hb1185, H⟩ | ⟨hb1185, H⟩
        · refine Wp_cond_true (congrArg Value.bool hb1185) ?_
          refine Wp_skip ?_
          refine tn ?_
          refine Wp_seq ?_
          obtain ⟨o1371, o1371h, o1371H⟩ := bindS H
          refine Wp_cut (fun ρ w' => ∃ (x1363 : List api_Event) (x1367 : List api_Event) (A1364 : Option Addr) (c1365 : Nat) (A1368 : Option Addr) (c1369 : Nat), (x1363, x1367) = o1371 ∧ Agree ρ [(0, .int .i64 a0), (1, .slice A1 a1.length c1), (2, .int .i64 (IntKind.i64.wrap (Int.tmod (IntKind.u64.wrap a2) (IntKind.u64.wrap (IntKind.i64.wrap ((a1.length : Int) + (1 : Int))))))), (3, .int .i64 a3), (9, .slice A1364 x1363.length c1365), (10, .slice A1368 x1367.length c1369), (11, .int .i64 x807)] ∧ Ext w w' ∧ St w' M F [Row r_api_Event 32 (.slice A1368 x1367.length c1369) x1367, Row r_api_Event 32 (.slice A1364 x1363.length c1365) x1363]) ?_ ?_
          · clear o1371H
            have H := o1371h
            clear o1371h
            refine Wp_block ?_
            refine Wp_seq ?_
            refine Wp_region_lit ?_
            refine W_v (.slice A1 a1.length c1) (x_move rfl) rfl ?_
            refine W_v (.int .i64 x807) (x_move rfl) rfl ?_
            obtain ⟨⟨p1372, p1373⟩, H⟩ := chkS H
            obtain ⟨b1374, o1375, cs1376, _, _, ee1381, hb1377, vs1378, hR1379, hc1380⟩ := SlW.at' hr1 p1372 p1373
            obtain ⟨v1385, hs1384, rfl⟩ := hR1379
            obtain ⟨A1382, c1383, rfl, _⟩ := hs1384.form
            refine W_v (.pointer (some ⟨b1374, o1375 + x807.toNat * 7, none⟩)) (x_indexAddr Try.underlying22 ty32 (slA ee1381) rfl p1372 p1373) rfl ?_
            refine W_v (.pointer (some ⟨b1374, o1375 + x807.toNat * 7 + 1, none⟩)) (x_fieldAddr (o := o1375 + x807.toNat * 7) (off := 1) Try.underlying32 rfl ty3 rfl rfl) rfl ?_
            refine W_v (.int .i64 ((rd a1 x807).Task)) (x_load (S.frz hb1377) ty3 rfl (hc1380 1 _ rfl)) rfl ?_
            refine W_v (.int .i64 a3) (x_move rfl) rfl ?_
            refine W_v (.bool ((rd a1 x807).Task == a3)) (x_ibin rfl rfl rfl rfl) rfl ?_
            refine Wl_nil ?_
            refine tn ?_
            obtain ⟨o1496, o1496h, o1496H⟩ := bindS H
            refine Wp_cut (fun ρ w' => ∃ (x1488 : List api_Event) (x1492 : List api_Event) (A1489 : Option Addr) (c1490 : Nat) (A1493 : Option Addr) (c1494 : Nat), (x1488, x1492) = o1496 ∧ Agree ρ [(0, .int .i64 a0), (1, .slice A1 a1.length c1), (2, .int .i64 (IntKind.i64.wrap (Int.tmod (IntKind.u64.wrap a2) (IntKind.u64.wrap (IntKind.i64.wrap ((a1.length : Int) + (1 : Int))))))), (3, .int .i64 a3), (9, .slice A1489 x1488.length c1490), (10, .slice A1493 x1492.length c1494), (11, .int .i64 x807)] ∧ Ext w w' ∧ St w' M F [Row r_api_Event 32 (.slice A1493 x1492.length c1494) x1492, Row r_api_Event 32 (.slice A1489 x1488.length c1490) x1488]) ?_ ?_
            · clear o1496H
              have H := o1496h
              clear o1496h
              rcases iteS H with ⟨hb1497, H⟩ | ⟨hb1497, H⟩
              · refine Wp_cond_true (congrArg Value.bool hb1497) ?_
                refine Wp_region_lit ?_
                refine W_v (.slice A800 x799.length c801) (x_move rfl) rfl ?_
                refine W_v (.slice A1 a1.length c1) (x_move rfl) rfl ?_
                refine W_v (.int .i64 x807) (x_move rfl) rfl ?_
                obtain ⟨⟨p1498, p1499⟩, H⟩ := chkS H
                obtain ⟨b1500, o1501, cs1502, _, _, ee1507, hb1503, vs1504, hR1505, hc1506⟩ := SlW.at' hr1 p1498 p1499
                obtain ⟨v1511, hs1510, rfl⟩ := hR1505
                obtain ⟨A1508, c1509, rfl, _⟩ := hs1510.form
                refine W_v (.pointer (some ⟨b1500, o1501 + x807.toNat * 7, none⟩)) (x_indexAddr Try.underlying22 ty32 (slA ee1507) rfl p1498 p1499) rfl ?_
                refine W_v (.agg #[.int .u8 ((rd a1 x807).What), .int .i64 ((rd a1 x807).Task), .int .i64 ((rd a1 x807).Call), .int .i64 ((rd a1 x807).Answer.Err), .bool ((rd a1 x807).Answer.Found), .string (bs ((rd a1 x807).Answer.Value)), .slice A1508 ((rd a1 x807).Answer.Pairs).length c1509]) (x_loadA (S.frz hb1503) ty32 rfl (sub_el hc1506 0 rfl) rfl rfl) rfl ?_
                refine W_bslice S #[.int .u8 ((rd a1 x807).What), .int .i64 ((rd a1 x807).Task), .int .i64 ((rd a1 x807).Call), .int .i64 ((rd a1 x807).Answer.Err), .bool ((rd a1 x807).Answer.Found), .string (bs ((rd a1 x807).Answer.Value)), .slice A1508 ((rd a1 x807).Answer.Pairs).length c1509] Try.underlying22 ty32 rfl rfl #[.int .u8 0, .int .i64 0, .int .i64 0, .int .i64 0, .bool false, .string (bs ([] : Str)), .slice none 0 0] (by kernel_rfl) (by kernel_rfl) rfl ?_
                intro b1512 w1513 E' S
                replace E := E.trans E'
                clear E'
                replace S := S.blk_row (r := r_api_Event) (l := ([(rd a1 x807)] : List api_Event)) 0 rfl 1 (Nat.le_refl 1) rfl (Cells.cons (vs := [.int .u8 ((rd a1 x807).What), .int .i64 ((rd a1 x807).Task), .int .i64 ((rd a1 x807).Call), .int .i64 ((rd a1 x807).Answer.Err), .bool ((rd a1 x807).Answer.Found), .string (bs ((rd a1 x807).Answer.Value)), .slice A1508 ((rd a1 x807).Answer.Pairs).length c1509]) (⟨_, hs1510, rfl⟩) Cells.nil)
                obtain ⟨p1515, H⟩ := chkS H
                obtain ⟨src1516, hs1517, hC1518⟩ := src_of_read (P := Try.prog) (ρ := r_api_Event) (l := ([(rd a1 x807)] : List api_Event)) (S.row_read 0 rfl) (by decide)
                refine W_append S 2 rfl rfl rfl Try.underlying22 (.inl Try.underlying22) ty32 rfl (by decide) (by decide) hs1517 hC1518 rfl (by omega) rfl ?_
                intro v1519 w1520 E' S
                replace E := E.trans E'
                clear E'
                obtain ⟨A1521, c1522, rfl, _⟩ := (S.row_read 2 rfl).form
                refine W_v (.slice A1521 (x799 ++ ([(rd a1 x807)] : List api_Event)).length c1522) (x_assign rfl) rfl ?_
                refine Wl_nil ?_
                refine tn ?_
                exact ⟨(x799 ++ ([(rd a1 x807)] : List api_Event)), x803, A1521, c1522, A804, c805, Option.some.inj H, ⟨rfl, rfl, rfl, rfl, rfl, rfl, rfl, trivial⟩, E, S.pick [1, 2] (by decide)⟩
              refine Wp_cond_false (congrArg Value.bool hb1497) ?_
              refine Wp_region_lit ?_
              refine W_v (.slice A804 x803.length c805) (x_move rfl) rfl ?_
              refine W_v (.slice A1 a1.length c1) (x_move rfl) rfl ?_
              refine W_v (.int .i64 x807) (x_move rfl) rfl ?_
              obtain ⟨⟨p1523, p1524⟩, H⟩ := chkS H
              obtain ⟨b1525, o1526, cs1527, _, _, ee1532, hb1528, vs1529, hR1530, hc1531⟩ := SlW.at' hr1 p1523 p1524
              obtain ⟨v1536, hs1535, rfl⟩ := hR1530
              obtain ⟨A1533, c1534, rfl, _⟩ := hs1535.form
              refine W_v (.pointer (some ⟨b1525, o1526 + x807.toNat * 7, none⟩)) (x_indexAddr Try.underlying22 ty32 (slA ee1532) rfl p1523 p1524) rfl ?_
              refine W_v (.agg #[.int .u8 ((rd a1 x807).What), .int .i64 ((rd a1 x807).Task), .int .i64 ((rd a1 x807).Call), .int .i64 ((rd a1 x807).Answer.Err), .bool ((rd a1 x807).Answer.Found), .string (bs ((rd a1 x807).Answer.Value)), .slice A1533 ((rd a1 x807).Answer.Pairs).length c1534]) (x_loadA (S.frz hb1528) ty32 rfl (sub_el hc1531 0 rfl) rfl rfl) rfl ?_
              refine W_bslice S #[.int .u8 ((rd a1 x807).What), .int .i64 ((rd a1 x807).Task), .int .i64 ((rd a1 x807).Call), .int .i64 ((rd a1 x807).Answer.Err), .bool ((rd a1 x807).Answer.Found), .string (bs ((rd a1 x807).Answer.Value)), .slice A1533 ((rd a1 x807).Answer.Pairs).length c1534] Try.underlying22 ty32 rfl rfl #[.int .u8 0, .int .i64 0, .int .i64 0, .int .i64 0, .bool false, .string (bs ([] : Str)), .slice none 0 0] (by kernel_rfl) (by kernel_rfl) rfl ?_
              intro b1537 w1538 E' S
              replace E := E.trans E'
              clear E'
              replace S := S.blk_row (r := r_api_Event) (l := ([(rd a1 x807)] : List api_Event)) 0 rfl 1 (Nat.le_refl 1) rfl (Cells.cons (vs := [.int .u8 ((rd a1 x807).What), .int .i64 ((rd a1 x807).Task), .int .i64 ((rd a1 x807).Call), .int .i64 ((rd a1 x807).Answer.Err), .bool ((rd a1 x807).Answer.Found), .string (bs ((rd a1 x807).Answer.Value)), .slice A1533 ((rd a1 x807).Answer.Pairs).length c1534]) (⟨_, hs1535, rfl⟩) Cells.nil)
              obtain ⟨p1540, H⟩ := chkS H
              obtain ⟨src1541, hs1542, hC1543⟩ := src_of_read (P := Try.prog) (ρ := r_api_Event) (l := ([(rd a1 x807)] : List api_Event)) (S.row_read 0 rfl) (by decide)
              refine W_append S 1 rfl rfl rfl Try.underlying22 (.inl Try.underlying22) ty32 rfl (by decide) (by decide) hs1542 hC1543 rfl (by omega) rfl ?_
              intro v1544 w1545 E' S
              replace E := E.trans E'
              clear E'
              obtain ⟨A1546, c1547, rfl, _⟩ := (S.row_read 1 rfl).form
              refine W_v (.slice A1546 (x803 ++ ([(rd a1 x807)] : List api_Event)).length c1547) (x_assign rfl) rfl ?_
              refine Wl_nil ?_
              refine tn ?_
              exact ⟨x799, (x803 ++ ([(rd a1 x807)] : List api_Event)), A800, c801, A1546, c1547, Option.some.inj H, ⟨rfl, rfl, rfl, rfl, rfl, rfl, rfl, trivial⟩, E, S.pick [1, 2] (by decide)⟩
            clear o1496h
            rintro ρ w1548 ⟨x1488, x1492, A1489, c1490, A1493, c1494, rfl, hρ, E, S⟩
            rw [agree_eta hρ]
            clear hρ
            have H := o1496H
            clear o1496H
            refine bn ?_
            refine tn ?_
            exact ⟨x1488, x1492, A1489, c1490, A1493, c1494, Option.some.inj H, ⟨rfl, rfl, rfl, rfl, rfl, rfl, rfl, trivial⟩, E, S.pick [0, 1] (by decide)⟩
          clear o1371h
          rintro ρ w1549 ⟨x1363, x1367, A1364, c1365, A1368, c1369, rfl, hρ, E, S⟩
          rw [agree_eta hρ]
          clear hρ
          have H := o1371H
          clear o1371H
          refine tn ?_
          refine Wp_region_lit ?_
          refine W_v (.int .i64 x807) (x_move rfl) rfl ?_
          refine W_v (.int .i64 (IntKind.i64.wrap (x807 + (1 : Int)))) (x_ibin rfl rfl rfl rfl) rfl ?_
          refine W_v (.int .i64 (IntKind.i64.wrap (x807 + (1 : Int)))) (x_assign rfl) rfl ?_
          refine Wl_nil ?_
          refine tn ?_
          exact ⟨k, Nat.lt_succ_self k, ⟨x1363, x1367, (IntKind.i64.wrap (x807 + (1 : Int))), A1364, c1365, A1368, c1369, H, ⟨rfl, rfl, rfl, rfl, rfl, rfl, rfl, trivial⟩, E, S.pick [0, 1] (by decide)⟩⟩
        refine Wp_cond_false (congrArg Value.bool hb1185) ?_
        refine Wp_exit ?_
        refine tx (tx (bsm (?_)))
        refine tn ?_
        exact ⟨x799, x803, A800, c801, A804, c805, Option.some.inj H, ⟨rfl, rfl, rfl, rfl, rfl, trivial⟩, E, S.pick [0, 1] (by decide)⟩
  clear o1181h
  rintro ρ w1550 ⟨x1173, x1177, A1174, c1175, A1178, c1179, rfl, hρ, E, S⟩
  rw [agree_eta hρ]
  clear hρ
  have H := o1181H
  clear o1181H
  refine tn ?_
  refine Wp_seq ?_
  refine Wp_region_lit ?_
  refine W_v (.int .i64 a0) (x_move rfl) rfl ?_
  refine W_v (.slice A1 a1.length c1) (x_move rfl) rfl ?_
  refine W_v (.int .i64 (IntKind.i64.wrap (Int.tmod (IntKind.u64.wrap a2) (IntKind.u64.wrap (IntKind.i64.wrap ((a1.length : Int) + (1 : Int))))))) (x_move rfl) rfl ?_
  obtain ⟨⟨p1551, p1552⟩, H⟩ := chkS H
  obtain ⟨hs1554, hx1555⟩ := sl_hi hr1 p1551 p1552
  refine W_v (.slice A1 (List.take (IntKind.i64.wrap (Int.tmod (IntKind.u64.wrap a2) (IntKind.u64.wrap (IntKind.i64.wrap ((a1.length : Int) + (1 : Int)))))).toNat a1).length c1) (hx1555 Try.underlying22 ty32 rfl rfl) rfl ?_
  obtain ⟨t1556, ht1557, H⟩ := bindS H
  refine W_callF fn12 (event_Legal.con k M a0 A1 c1 (List.take (IntKind.i64.wrap (Int.tmod (IntKind.u64.wrap a2) (IntKind.u64.wrap (IntKind.i64.wrap ((a1.length : Int) + (1 : Int)))))).toNat a1) t1556 hs1554 ht1557) S rfl rfl (by rintro _ _ _ ⟨_, rfl⟩; exact flat_nil) ?_
  rintro _ w1558 _ Γ' E' S ⟨rfl, rfl⟩
  replace E := E.trans E'
  clear E'
  refine W_v (.bool t1556) (x_move rfl) rfl ?_
  obtain ⟨o1567, o1567h, o1567H⟩ := bindS H
  clear H
  refine Wl_cutN 4 (fun ρ w' => ∃ (x1566 : Bool), (x1566) = o1567 ∧ Agree ρ [(0, .int .i64 a0), (10, .slice A1178 x1177.length c1179), (69, .bool x1566)] ∧ Ext w w' ∧ St w' M F [Row r_api_Event 32 (.slice A1178 x1177.length c1179) x1177]) ?_ ?_
  · have H := o1567h
    rcases iteS H with ⟨hb1565, H⟩ | ⟨hb1565, H⟩
    · skip
      refine W_yes (congrArg some hb1565) ?_
      refine W_v (.int .i64 a0) (x_move rfl) rfl ?_
      refine W_yes (congrArg some hb1565) ?_
      refine W_v (.slice A1174 x1173.length c1175) (x_move rfl) rfl ?_
      refine W_yes (congrArg some hb1565) ?_
      replace S : St w1558 M F [Row r_api_Event 32 (.slice A1174 x1173.length c1175) x1173, Row r_api_Event 32 (.slice A1178 x1177.length c1179) x1177] := S.pick [1, 0] (by decide)
      obtain ⟨t1568, ht1569, H⟩ := bindS H
      refine W_callN 1 fn12 (fun h9 hs9 hd9 => event_Legal.con k _ a0 A1174 c1175 x1173 t1568 (Sats.row hs9 hd9 0 rfl) ht1569) S rfl rfl (by rintro _ _ _ ⟨_, rfl⟩; exact flat_nil) ?_
      rintro _ w1570 _ Γ' E' S ⟨rfl, rfl⟩
      replace E := E.trans E'
      clear E'
      refine W_v (.bool t1568) (x_pick (k := true) (congrArg Value.bool hb1565) rfl) rfl ?_
      refine Wl_nil ?_
      exact ⟨t1568, Option.some.inj H, ⟨rfl, rfl, rfl, trivial⟩, E, S.pick [1] (by decide)⟩
    · skip
      refine W_no (skT hb1565) rfl ?_
      refine W_no (skT hb1565) rfl ?_
      refine W_no (skT hb1565) rfl ?_
      refine W_v (.bool false) (x_pick (k := false) (congrArg Value.bool hb1565) rfl) rfl ?_
      refine Wl_nil ?_
      exact ⟨false, Option.some.inj H, ⟨rfl, rfl, rfl, trivial⟩, E, S.pick [0] (by decide)⟩
  clear o1567h
  rintro ρ w1571 ⟨x1566, rfl, hρ, E, S⟩
  rw [agree_eta hρ]
  clear hρ
  have H := o1567H
  clear o1567H
  refine W_v (.bool x1566) (x_move rfl) rfl ?_
  obtain ⟨o1580, o1580h, o1580H⟩ := bindS H
  clear H
  refine Wl_cutN 4 (fun ρ w' => ∃ (x1579 : Bool), (x1579) = o1580 ∧ Agree ρ [(74, .bool x1579)] ∧ Ext w w' ∧ St w' M F []) ?_ ?_
  · have H := o1580h
    rcases iteS H with ⟨hb1578, H⟩ | ⟨hb1578, H⟩
    · skip
      refine W_yes (congrArg some hb1578) ?_
      refine W_v (.int .i64 a0) (x_move rfl) rfl ?_
      refine W_yes (congrArg some hb1578) ?_
      refine W_v (.slice A1178 x1177.length c1179) (x_move rfl) rfl ?_
      refine W_yes (congrArg some hb1578) ?_
      obtain ⟨t1581, ht1582, H⟩ := bindS H
      refine W_callN 1 fn12 (fun h9 hs9 hd9 => event_Legal.con k _ a0 A1178 c1179 x1177 t1581 (Sats.row hs9 hd9 0 rfl) ht1582) S rfl rfl (by rintro _ _ _ ⟨_, rfl⟩; exact flat_nil) ?_
      rintro _ w1583 _ Γ' E' S ⟨rfl, rfl⟩
      replace E := E.trans E'
      clear E'
      refine W_v (.bool t1581) (x_pick (k := true) (congrArg Value.bool hb1578) rfl) rfl ?_
      refine Wl_nil ?_
      exact ⟨t1581, Option.some.inj H, ⟨rfl, trivial⟩, E, S.pick [] (by decide)⟩
    · skip
      refine W_no (skT hb1578) rfl ?_
      refine W_no (skT hb1578) rfl ?_
      refine W_no (skT hb1578) rfl ?_
      refine W_v (.bool false) (x_pick (k := false) (congrArg Value.bool hb1578) rfl) rfl ?_
      refine Wl_nil ?_
      exact ⟨false, Option.some.inj H, ⟨rfl, trivial⟩, E, S.pick [] (by decide)⟩
  clear o1580h
  rintro ρ w1584 ⟨x1579, rfl, hρ, E, S⟩
  rw [agree_eta hρ]
  clear hρ
  have H := o1580H
  clear o1580H
  refine W_v (.bool x1579) (x_assign rfl) rfl ?_
  refine Wl_nil ?_
  refine tn ?_
  refine Wp_ret ?_
  obtain rfl := Option.some.inj H
  exact ⟨_, _, _, fun w1 e1 => run_resR (vs := [.bool x1579]) (FA.cons (rfl) (FA.nil)), HM, E, S.pick [] (by decide), ⟨rfl, rfl⟩⟩
end Go.Proofs.Ytninegjnkkcepaa
