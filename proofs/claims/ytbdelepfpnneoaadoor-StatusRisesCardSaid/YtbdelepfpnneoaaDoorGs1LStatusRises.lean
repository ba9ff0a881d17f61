import Derived.Test.YtbdelepfpnneoaaDoorGs1
namespace Go.Proofs.YtbdelepfpnneoaaDoor
open Go
set_option linter.unusedVariables false
set_option linter.unusedSimpArgs false
/-! ### ferryman/ferrymanlaw08.StatusRises: function 6 -/
def ferrymanlaw08_StatusRises_l4 (t822 : status_Writers) (t842 : Int × Int × status_Writers) : Nat → Int → Int → Option ((Bool) ⊕ (Int))
  | 0, _, _ => none
  | k + 1, x946, x947 => (Option.bind (status_Writers_High_PO k t822) (fun t997 => (if (decide (x947 ≤ t997)) = true then (Option.bind (status_Writers_Of_PO k t822 x947) (fun t1003 => (Option.bind (status_Writers_Of_PO k t842.2.2 x947) (fun t1008 => (if (((decide (t1008.1 < t1003.1)) || ((t1003.2 != (0 : Int)) && (t1008.2 != t1003.2))) || ((t1008.2 != (0 : Int)) && (t1008.1 != (3 : Int)))) = true then some (.inl false) else (if (t1003.1 != t1008.1) = true then (Option.bind (α := Bool) (if (t1008.2 != (0 : Int)) = true then (Option.bind (status_Writers_Last_PO k t822) (fun t1036 => some ((decide (t1008.2 ≤ t1036))))) else some (false)) (fun x1034 => (if x1034 = true then some (.inl false) else ferrymanlaw08_StatusRises_l4 t822 t842 k (IntKind.i64.wrap (x946 + (1 : Int))) (IntKind.i64.wrap (x947 + (1 : Int)))))) else ferrymanlaw08_StatusRises_l4 t822 t842 k x946 (IntKind.i64.wrap (x947 + (1 : Int))))))))) else some (.inr (x946)))))
set_option maxHeartbeats 2000000 in
theorem ferrymanlaw08_StatusRises_l4.mono {t822 : status_Writers} {t842 : Int × Int × status_Writers} : ∀ {k : Nat} {x0 x1}, OLe (ferrymanlaw08_StatusRises_l4 t822 t842 k x0 x1) (ferrymanlaw08_StatusRises_l4 t822 t842 (k + 1) x0 x1) := by
  intro k
  induction k with
  | zero => intros; exact OLe.none
  | succ k ih =>
    intros
    rw [ferrymanlaw08_StatusRises_l4.eq_2, ferrymanlaw08_StatusRises_l4.eq_2]
    repeat' (first | with_reducible exact OLe.none | with_reducible exact OLe.some | with_reducible refine OLe.ite ?_ ?_ | with_reducible refine OLe.bind ?_ (fun _ => ?_) | with_reducible exact status_Writers_High_PO.mono | with_reducible exact status_Writers_Last_PO.mono | with_reducible exact status_Writers_Of_PO.mono | exact ih | refine OLe.bind ?_ (fun _ => ?_) | refine OLe.ite ?_ ?_ | refine OLe.elim (fun _ => ?_) (fun _ => ?_) | split)
def ferrymanlaw08_StatusRises_l9 (x814 : List status_writer) (x818 : Int) (x1333 : Int) (t1467 : Int × Int) : Nat → Int → Option ((Bool) ⊕ (Unit))
  | 0, _ => none
  | k + 1, x1528 => (if (decide (x1528 < x1333)) = true then (Option.bind (status_Writers_Of_PO k (⟨x814, x818⟩ : status_Writers) x1528) (fun t1559 => (Option.bind (α := Bool) (if ((t1467.2 == t1559.2) && (t1467.2 != (0 : Int))) = true then some (true) else (Option.bind (status_Writers_Last_PO k (⟨x814, x818⟩ : status_Writers)) (fun t1578 => some ((decide (t1467.2 > t1578)))))) (fun x1576 => (if x1576 = true then some (.inl false) else ferrymanlaw08_StatusRises_l9 x814 x818 x1333 t1467 k (IntKind.i64.wrap (x1528 + (1 : Int)))))))) else some (.inr ()))
set_option maxHeartbeats 2000000 in
theorem ferrymanlaw08_StatusRises_l9.mono {x814 : List status_writer} {x818 : Int} {x1333 : Int} {t1467 : Int × Int} : ∀ {k : Nat} {x0}, OLe (ferrymanlaw08_StatusRises_l9 x814 x818 x1333 t1467 k x0) (ferrymanlaw08_StatusRises_l9 x814 x818 x1333 t1467 (k + 1) x0) := by
  intro k
  induction k with
  | zero => intros; exact OLe.none
  | succ k ih =>
    intros
    rw [ferrymanlaw08_StatusRises_l9.eq_2, ferrymanlaw08_StatusRises_l9.eq_2]
    repeat' (first | with_reducible exact OLe.none | with_reducible exact OLe.some | with_reducible refine OLe.ite ?_ ?_ | with_reducible refine OLe.bind ?_ (fun _ => ?_) | with_reducible exact status_Writers_Last_PO.mono | with_reducible exact status_Writers_Of_PO.mono | exact ih | refine OLe.bind ?_ (fun _ => ?_) | refine OLe.ite ?_ ?_ | refine OLe.elim (fun _ => ?_) (fun _ => ?_) | split)
def ferrymanlaw08_StatusRises_l7 (x814 : List status_writer) (x818 : Int) : Nat → Int → Option ((Bool) ⊕ (Unit))
  | 0, _ => none
  | k + 1, x1333 => (Option.bind (status_Writers_High_PO k (⟨x814, x818⟩ : status_Writers)) (fun t1461 => (if (decide (x1333 < t1461)) = true then (Option.bind (status_Writers_Of_PO k (⟨x814, x818⟩ : status_Writers) x1333) (fun t1467 => (Option.bind (ferrymanlaw08_StatusRises_l9 x814 x818 x1333 t1467 k (1 : Int)) (fun o1556o => Sum.elim (fun r' => some (.inl r')) (fun _ => ferrymanlaw08_StatusRises_l7 x814 x818 k (IntKind.i64.wrap (x1333 + (1 : Int)))) o1556o)))) else some (.inr ()))))
set_option maxHeartbeats 2000000 in
theorem ferrymanlaw08_StatusRises_l7.mono {x814 : List status_writer} {x818 : Int} : ∀ {k : Nat} {x0}, OLe (ferrymanlaw08_StatusRises_l7 x814 x818 k x0) (ferrymanlaw08_StatusRises_l7 x814 x818 (k + 1) x0) := by
  intro k
  induction k with
  | zero => intros; exact OLe.none
  | succ k ih =>
    intros
    rw [ferrymanlaw08_StatusRises_l7.eq_2, ferrymanlaw08_StatusRises_l7.eq_2]
    repeat' (first | with_reducible exact OLe.none | with_reducible exact OLe.some | with_reducible refine OLe.ite ?_ ?_ | with_reducible refine OLe.bind ?_ (fun _ => ?_) | with_reducible exact ferrymanlaw08_StatusRises_l9.mono | with_reducible exact status_Writers_High_PO.mono | with_reducible exact status_Writers_Of_PO.mono | exact ih | refine OLe.bind ?_ (fun _ => ?_) | refine OLe.ite ?_ ?_ | refine OLe.elim (fun _ => ?_) (fun _ => ?_) | split)
def ferrymanlaw08_StatusRises_l2 (a0 : (List ferrymanlaw08_Step)) : Nat → Int → List status_writer → Int → Option ((Bool) ⊕ (List status_writer × Int))
  | 0, _, _, _ => none
  | k + 1, x549, x550, x554 => (if (decide (x549 < (a0.length : Int))) = true then (Option.bind (status_Writers_Copy_PO k (⟨x550, x554⟩ : status_Writers)) (fun t822 => (if 0 ≤ x549 ∧ x549 < (a0.length : Int) then (Option.bind (ferrymanlaw08_Step_do_PO k (rd a0 x549) (⟨x550, x554⟩ : status_Writers)) (fun t842 => (Option.bind (ferrymanlaw08_StatusRises_l4 t822 t842 k (0 : Int) (0 : Int)) (fun o995o => Sum.elim (fun r' => some (.inl r')) (fun x994 => (Option.bind (α := Bool) (if ((decide (x994 > (1 : Int))) || (!((t842.2.1 == (0 : Int)) == (x994 == (1 : Int))))) = true then some (true) else (Option.bind (status_Writers_Last_PO k t842.2.2) (fun t1068 => (Option.bind (status_Writers_Last_PO k t822) (fun t1073 => some ((decide (t1068 < t1073)))))))) (fun x1066 => (if x1066 = true then some (.inl false) else ferrymanlaw08_StatusRises_l2 a0 k (IntKind.i64.wrap (x549 + (1 : Int))) t842.2.2.l t842.2.2.last)))) o995o)))) else none))) else some (.inr (x550, x554)))
set_option maxHeartbeats 2000000 in
theorem ferrymanlaw08_StatusRises_l2.mono {a0 : (List ferrymanlaw08_Step)} : ∀ {k : Nat} {x0 x1 x2}, OLe (ferrymanlaw08_StatusRises_l2 a0 k x0 x1 x2) (ferrymanlaw08_StatusRises_l2 a0 (k + 1) x0 x1 x2) := by
  intro k
  induction k with
  | zero => intros; exact OLe.none
  | succ k ih =>
    intros
    rw [ferrymanlaw08_StatusRises_l2.eq_2, ferrymanlaw08_StatusRises_l2.eq_2]
    repeat' (first | with_reducible exact OLe.none | with_reducible exact OLe.some | with_reducible refine OLe.ite ?_ ?_ | with_reducible refine OLe.bind ?_ (fun _ => ?_) | with_reducible exact ferrymanlaw08_StatusRises_l4.mono | with_reducible exact ferrymanlaw08_Step_do_PO.mono | with_reducible exact status_Writers_Copy_PO.mono | with_reducible exact status_Writers_Last_PO.mono | exact ih | refine OLe.bind ?_ (fun _ => ?_) | refine OLe.ite ?_ ?_ | refine OLe.elim (fun _ => ?_) (fun _ => ?_) | split)
def ferrymanlaw08_StatusRises (k : Nat) (a0 : (List ferrymanlaw08_Step)) : Option (Bool) :=
  (Option.bind (ferrymanlaw08_works k ) (fun t1 => (if ((!t1) || (decide ((a0.length : Int) > (120 : Int)))) = true then (Option.bind (ferrymanlaw08_works k ) (fun t6 => some t6)) else (Option.bind (status_New k ) (fun t9 => (Option.bind (ferrymanlaw08_StatusRises_l2 a0 k (0 : Int) t9.l t9.last) (fun o819o => Sum.elim (fun r' => some r') (fun ⟨x814, x818⟩ => (Option.bind (ferrymanlaw08_StatusRises_l7 x814 x818 k (1 : Int)) (fun o1459o => Sum.elim (fun r' => some r') (fun _ => some true) o1459o))) o819o)))))))
set_option maxHeartbeats 2000000 in
theorem ferrymanlaw08_StatusRises.mono {k : Nat} {a0 : (List ferrymanlaw08_Step)} : OLe (ferrymanlaw08_StatusRises k a0) (ferrymanlaw08_StatusRises (k + 1) a0) := by
  unfold ferrymanlaw08_StatusRises
  repeat' (first | with_reducible exact OLe.none | with_reducible exact OLe.some | with_reducible refine OLe.ite ?_ ?_ | with_reducible refine OLe.bind ?_ (fun _ => ?_) | with_reducible exact ferrymanlaw08_StatusRises_l2.mono | with_reducible exact ferrymanlaw08_StatusRises_l7.mono | with_reducible exact ferrymanlaw08_works.mono | with_reducible exact status_New.mono | refine OLe.bind ?_ (fun _ => ?_) | refine OLe.ite ?_ ?_ | refine OLe.elim (fun _ => ?_) (fun _ => ?_) | split)
set_option maxHeartbeats 8000000 in
set_option maxRecDepth 100000 in
theorem ferrymanlaw08_StatusRises.con (k : Nat) (M : Hp) (A0 : Option Addr) (c0 : Nat) (a0 : (List ferrymanlaw08_Step)) (r : Bool) (hr0 : SlR r_ferrymanlaw08_Step M (.slice A0 a0.length c0) a0) (hg0 : ∃ gt fr, M 0 = some (.cells #[.int .u8 0, .int .u8 0, .int .u8 1, .int .u8 1, .int .u8 2] gt fr)) (h : ferrymanlaw08_StatusRises k a0 = some r) : Con Tryd.prog 6 #[.slice A0 a0.length c0] M [] (fun v M' Γ' => v = .bool r ∧ Γ' = []) := by
  refine con_of_wp Tryd.func6 rfl Tryd.ntmps6 Tryd.results6 rfl ?_
  intro w F rn S hrn
  have E := Ext.refl w
  have HM := Hp.le_refl M
  have H := h
  unfold ferrymanlaw08_StatusRises at H
  refine Wp_seq ?_
  refine Wp_region_lit ?_
  refine W_v (.bool false) (x_assign rfl) rfl ?_
  refine Wl_nil ?_
  refine tn ?_
  refine Wp_seq ?_
  refine Wp_seq ?_
  refine Wp_region_lit ?_
  obtain ⟨t1, ht2, H⟩ := bindS H
  refine W_callF fn8 (ferrymanlaw08_works.con k M  t1 hg0 ht2) S rfl rfl (by rintro _ _ _ ⟨_, rfl⟩; exact flat_nil) ?_
  rintro _ w3 _ Γ' E' S ⟨rfl, rfl⟩
  replace E := E.trans E'
  clear E'
  refine W_v (.bool (!t1)) (x_not rfl) rfl ?_
  refine W_v (.bool (!t1)) (x_move rfl) rfl ?_
  refine Wl_cutN 4 (fun ρ w' => Agree ρ [(0, .slice A0 a0.length c0), (26, .bool ((!t1) || (decide ((a0.length : Int) > (120 : Int)))))] ∧ w3 = w') ?_ ?_
  · rcases boolCases (!t1) with hb4 | hb4
    · skip
      refine W_yes (congrArg some hb4) ?_
      refine W_v (.slice A0 a0.length c0) (x_move rfl) rfl ?_
      refine W_yes (congrArg some hb4) ?_
      refine W_v (.int .i64 (a0.length : Int)) (x_len_slice (n := a0.length) Tryd.underlying22 rfl) rfl ?_
      refine W_yes (congrArg some hb4) ?_
      refine W_v (.bool (decide ((a0.length : Int) > (120 : Int)))) (x_ibin rfl rfl rfl rfl) rfl ?_
      refine W_v (.bool (decide ((a0.length : Int) > (120 : Int)))) (x_pick (k := false) (congrArg Value.bool hb4) rfl) rfl ?_
      refine Wl_nil ?_
      exact ⟨⟨rfl, (by first | rfl | (rw [hb4]; rfl) | (simp only [hb4]; rfl)), trivial⟩, rfl⟩
    · skip
      refine W_no (skF hb4) rfl ?_
      refine W_no (skF hb4) rfl ?_
      refine W_no (skF hb4) rfl ?_
      refine W_v (.bool true) (x_pick (k := true) (congrArg Value.bool hb4) rfl) rfl ?_
      refine Wl_nil ?_
      exact ⟨⟨rfl, (by first | rfl | (rw [hb4]; rfl) | (simp only [hb4]; rfl)), trivial⟩, rfl⟩
  rintro ρ _ ⟨hρ, rfl⟩
  rw [agree_eta hρ]
  clear hρ
  refine Wl_nil ?_
  refine tn ?_
  rcases iteS H with ⟨hb5, H⟩ | ⟨hb5, H⟩
  · refine Wp_cond_true (congrArg Value.bool hb5) ?_
    refine Wp_seq ?_
    refine Wp_region_lit ?_
    obtain ⟨t6, ht7, H⟩ := bindS H
    refine W_callF fn8 (ferrymanlaw08_works.con k M  t6 hg0 ht7) S rfl rfl (by rintro _ _ _ ⟨_, rfl⟩; exact flat_nil) ?_
    rintro _ w8 _ Γ' E' S ⟨rfl, rfl⟩
    replace E := E.trans E'
    clear E'
    refine W_v (.bool t6) (x_assign rfl) rfl ?_
    refine Wl_nil ?_
    refine tn ?_
    refine Wp_ret ?_
    refine tr (?_)
    obtain rfl := Option.some.inj H
    exact ⟨_, _, _, fun w1 e1 => run_resR (vs := [.bool t6]) (FA.cons (rfl) (FA.nil)), HM, E, S.pick [] (by decide), ⟨rfl, rfl⟩⟩
  refine Wp_cond_false (congrArg Value.bool hb5) ?_
  refine Wp_skip ?_
  refine tn ?_
  refine Wp_seq ?_
  refine Wp_region_lit ?_
  obtain ⟨t9, ht10, H⟩ := bindS H
  refine W_callF2 fn9 (status_New.con k M  t9 hg0 ht10) (Γ1 := []) (Γ2 := []) S rfl rfl (by rintro _ _ _ ⟨_, _, _, rfl, rfl⟩; exact (flat_cons flat_blk (flat_cons (flat_row (fun _ _ _ _ h => h)) flat_nil))) ?_
  rintro _ w16 _ Γ' E' S ⟨b11, A13, c14, rfl, rfl⟩
  replace E := E.trans E'
  clear E'
  replace S : St w16 M F [Blk b11 (.cells #[.slice A13 t9.l.length c14, .int .i64 t9.last] 47 (0, 0)), Row r_status_writer 49 (.slice A13 t9.l.length c14) t9.l] := S
  refine W_v (.pointer (some ⟨b11, 0, none⟩)) (x_assign rfl) rfl ?_
  refine Wl_nil ?_
  refine tn ?_
  refine Wp_seq ?_
  refine Wp_seq ?_
  refine Wp_region_lit ?_
  refine W_v (.int .i64 0) (x_assign rfl) rfl ?_
  refine Wl_nil ?_
  refine tn ?_
  obtain ⟨o819, o819h, o819H⟩ := bindS H
  clear H
  refine Wp_blockJ (fun ρ w' => ∃ (x814 : List status_writer) (x818 : Int) (A815 : Option Addr) (c816 : Nat), .inr (x814, x818) = o819 ∧ Agree ρ [(3, .pointer (some ⟨b11, 0, none⟩))] ∧ Ext w w' ∧ St w' M F [Row r_status_writer 49 (.slice A815 x814.length c816) x814, Blk b11 (.cells #[.slice A815 x814.length c816, .int .i64 x818] 47 (0, 0))]) ?_ ?_
  · skip
    refine Wp_loop (fun n ρ w' => ∃ (x549 : Int) (x550 : List status_writer) (x554 : Int) (A551 : Option Addr) (c552 : Nat), ferrymanlaw08_StatusRises_l2 a0 n x549 x550 x554 = some o819 ∧ Agree ρ [(0, .slice A0 a0.length c0), (3, .pointer (some ⟨b11, 0, none⟩)), (4, .int .i64 x549)] ∧ Ext w w' ∧ St w' M F [Row r_status_writer 49 (.slice A551 x550.length c552) x550, Blk b11 (.cells #[.slice A551 x550.length c552, .int .i64 x554] 47 (0, 0))]) k ?_ ?_
    · skip
      exact ⟨(0 : Int), t9.l, t9.last, A13, c14, o819h, ⟨rfl, rfl, rfl, trivial⟩, E, S.pick [1, 0] (by decide)⟩
    · intro n
      rintro ρ w820 ⟨x549, x550, x554, A551, c552, H, hρ, E, S⟩
      rw [agree_eta hρ]
      clear hρ
      cases n with
      | zero => cases H
      | succ k =>
        rw [ferrymanlaw08_StatusRises_l2.eq_2] at H
        refine Wp_seq ?_
        refine Wp_seq ?_
        refine Wp_region_lit ?_
        refine W_v (.int .i64 x549) (x_move rfl) rfl ?_
        refine W_v (.slice A0 a0.length c0) (x_move rfl) rfl ?_
        refine W_v (.int .i64 (a0.length : Int)) (x_len_slice (n := a0.length) Tryd.underlying22 rfl) rfl ?_
        refine W_v (.bool (decide (x549 < (a0.length : Int)))) (x_ibin rfl rfl rfl rfl) rfl ?_
        refine Wl_nil ?_
        refine tn ?_
        rcases iteS H with ⟨hb821, H⟩ | ⟨hb821, H⟩
        · refine Wp_cond_true (congrArg Value.bool hb821) ?_
          refine Wp_skip ?_
          refine tn ?_
          refine Wp_seq ?_
          refine Wp_block ?_
          refine Wp_seq ?_
          refine Wp_region_lit ?_
          refine W_v (.pointer (some ⟨b11, 0, none⟩)) (x_move rfl) rfl ?_
          obtain ⟨t822, ht823, H⟩ := bindS H
          replace S : St w820 M F [Blk b11 (.cells #[.slice A551 x550.length c552, .int .i64 x554] 47 (0, 0)), Row r_status_writer 49 (.slice A551 x550.length c552) x550] := S.pick [1, 0] (by decide)
          refine W_callF2 fn22 (status_Writers_Copy_PO.con k M A551 c552 (⟨x550, x554⟩ : status_Writers) b11 t822 hg0 ht823) (Γ1 := [Blk b11 (.cells #[.slice A551 x550.length c552, .int .i64 x554] 47 (0, 0)), Row r_status_writer 49 (.slice A551 x550.length c552) x550]) (Γ2 := []) S rfl rfl (by rintro _ _ _ ⟨_, _, _, rfl, rfl⟩; exact (flat_cons flat_blk (flat_cons (flat_row (fun _ _ _ _ h => h)) (flat_cons flat_blk (flat_cons (flat_row (fun _ _ _ _ h => h)) flat_nil))))) ?_
          rintro _ w829 _ Γ' E' S ⟨b824, A826, c827, rfl, rfl⟩
          replace E := E.trans E'
          clear E'
          replace S : St w829 M F [Blk b824 (.cells #[.slice A826 t822.l.length c827, .int .i64 t822.last] 47 (0, 0)), Row r_status_writer 49 (.slice A826 t822.l.length c827) t822.l, Blk b11 (.cells #[.slice A551 x550.length c552, .int .i64 x554] 47 (0, 0)), Row r_status_writer 49 (.slice A551 x550.length c552) x550] := S
          refine W_v (.pointer (some ⟨b824, 0, none⟩)) (x_assign rfl) rfl ?_
          refine Wl_nil ?_
          refine tn ?_
          refine Wp_seq ?_
          refine Wp_region_lit ?_
          refine W_v (.slice A0 a0.length c0) (x_move rfl) rfl ?_
          refine W_v (.int .i64 x549) (x_move rfl) rfl ?_
          obtain ⟨⟨p832, p833⟩, H⟩ := chkS H
          obtain ⟨b834, o835, cs836, _, _, ee841, hb837, vs838, hR839, hc840⟩ := SlW.at' hr0 p832 p833
          obtain rfl : vs838 = _ := hR839
          refine W_v (.pointer (some ⟨b834, o835 + x549.toNat * 3, none⟩)) (x_indexAddr Tryd.underlying22 ty30 (slA ee841) rfl p832 p833) rfl ?_
          refine W_v (.agg #[.int .u8 ((rd a0 x549).What), .int .i64 ((rd a0 x549).W), .int .i64 ((rd a0 x549).TS)]) (x_loadA (S.frz hb837) ty30 rfl (sub_el hc840 0 rfl) rfl rfl) rfl ?_
          refine W_v (.pointer (some ⟨b11, 0, none⟩)) (x_move rfl) rfl ?_
          obtain ⟨t842, ht843, H⟩ := bindS H
          replace S : St w829 M F [Blk b11 (.cells #[.slice A551 x550.length c552, .int .i64 x554] 47 (0, 0)), Row r_status_writer 49 (.slice A551 x550.length c552) x550, Blk b824 (.cells #[.slice A826 t822.l.length c827, .int .i64 t822.last] 47 (0, 0)), Row r_status_writer 49 (.slice A826 t822.l.length c827) t822.l] := S.pick [2, 3, 0, 1] (by decide)
          refine W_callF2 fn11 (ferrymanlaw08_Step_do_PO.con k M (rd a0 x549) A551 c552 (⟨x550, x554⟩ : status_Writers) b11 t842 hg0 ht843) (Γ1 := [Blk b11 (.cells #[.slice A551 x550.length c552, .int .i64 x554] 47 (0, 0)), Row r_status_writer 49 (.slice A551 x550.length c552) x550]) (Γ2 := [Blk b824 (.cells #[.slice A826 t822.l.length c827, .int .i64 t822.last] 47 (0, 0)), Row r_status_writer 49 (.slice A826 t822.l.length c827) t822.l]) S rfl rfl (by rintro _ _ _ ⟨_, _, rfl, rfl⟩; exact (flat_cons flat_blk (flat_cons (flat_row (fun _ _ _ _ h => h)) flat_nil))) ?_
          rintro _ w847 _ Γ' E' S ⟨A844, c845, rfl, rfl⟩
          replace E := E.trans E'
          clear E'
          replace S : St w847 M F [Blk b11 (.cells #[.slice A844 t842.2.2.l.length c845, .int .i64 t842.2.2.last] 47 (0, 0)), Row r_status_writer 49 (.slice A844 t842.2.2.l.length c845) t842.2.2.l, Blk b824 (.cells #[.slice A826 t822.l.length c827, .int .i64 t822.last] 47 (0, 0)), Row r_status_writer 49 (.slice A826 t822.l.length c827) t822.l] := S
          refine W_v (.tuple #[.int .i64 t842.1, .int .i64 t842.2.1]) (x_move rfl) rfl ?_
          refine W_v (.int .i64 t842.1) (x_extract rfl rfl) rfl ?_
          refine W_v (.int .i64 t842.2.1) (x_extract rfl rfl) rfl ?_
          refine W_v (.int .i64 t842.1) (x_assign rfl) rfl ?_
          refine W_v (.int .i64 t842.2.1) (x_assign rfl) rfl ?_
          refine Wl_nil ?_
          refine tn ?_
          refine Wp_seq ?_
          refine Wp_region_lit ?_
          refine W_v (.int .i64 0) (x_assign rfl) rfl ?_
          refine Wl_nil ?_
          refine tn ?_
          refine Wp_seq ?_
          refine Wp_seq ?_
          refine Wp_region_lit ?_
          refine W_v (.int .i64 0) (x_assign rfl) rfl ?_
          refine Wl_nil ?_
          refine tn ?_
          obtain ⟨o995, o995h, o995H⟩ := bindS H
          clear H
          refine Wp_blockJ (fun ρ w' => ∃ (x994 : Int), .inr (x994) = o995 ∧ Agree ρ [(0, .slice A0 a0.length c0), (3, .pointer (some ⟨b11, 0, none⟩)), (4, .int .i64 x549), (5, .pointer (some ⟨b824, 0, none⟩)), (7, .int .i64 t842.2.1), (8, .int .i64 x994)] ∧ Ext w w' ∧ St w' M F [Blk b824 (.cells #[.slice A826 t822.l.length c827, .int .i64 t822.last] 47 (0, 0)), Row r_status_writer 49 (.slice A826 t822.l.length c827) t822.l, Blk b11 (.cells #[.slice A844 t842.2.2.l.length c845, .int .i64 t842.2.2.last] 47 (0, 0)), Row r_status_writer 49 (.slice A844 t842.2.2.l.length c845) t842.2.2.l]) ?_ ?_
          · skip
            refine Wp_loop (fun n ρ w' => ∃ (x946 : Int) (x947 : Int), ferrymanlaw08_StatusRises_l4 t822 t842 n x946 x947 = some o995 ∧ Agree ρ [(0, .slice A0 a0.length c0), (3, .pointer (some ⟨b11, 0, none⟩)), (4, .int .i64 x549), (5, .pointer (some ⟨b824, 0, none⟩)), (7, .int .i64 t842.2.1), (8, .int .i64 x946), (9, .int .i64 x947)] ∧ Ext w w' ∧ St w' M F [Blk b11 (.cells #[.slice A844 t842.2.2.l.length c845, .int .i64 t842.2.2.last] 47 (0, 0)), Row r_status_writer 49 (.slice A844 t842.2.2.l.length c845) t842.2.2.l, Blk b824 (.cells #[.slice A826 t822.l.length c827, .int .i64 t822.last] 47 (0, 0)), Row r_status_writer 49 (.slice A826 t822.l.length c827) t822.l]) k ?_ ?_
            · skip
              exact ⟨(0 : Int), (0 : Int), o995h, ⟨rfl, rfl, rfl, rfl, rfl, rfl, rfl, trivial⟩, E, S.pick [0, 1, 2, 3] (by decide)⟩
            · intro n
              rintro ρ w996 ⟨x946, x947, H, hρ, E, S⟩
              rw [agree_eta hρ]
              clear hρ
              cases n with
              | zero => cases H
              | succ k =>
                rw [ferrymanlaw08_StatusRises_l4.eq_2] at H
                refine Wp_seq ?_
                refine Wp_seq ?_
                refine Wp_region_lit ?_
                refine W_v (.int .i64 x947) (x_move rfl) rfl ?_
                refine W_v (.pointer (some ⟨b824, 0, none⟩)) (x_move rfl) rfl ?_
                obtain ⟨t997, ht998, H⟩ := bindS H
                replace S : St w996 M F [Blk b824 (.cells #[.slice A826 t822.l.length c827, .int .i64 t822.last] 47 (0, 0)), Row r_status_writer 49 (.slice A826 t822.l.length c827) t822.l, Blk b11 (.cells #[.slice A844 t842.2.2.l.length c845, .int .i64 t842.2.2.last] 47 (0, 0)), Row r_status_writer 49 (.slice A844 t842.2.2.l.length c845) t842.2.2.l] := S.pick [2, 3, 0, 1] (by decide)
                refine W_callF2 fn10 (status_Writers_High_PO.con k M A826 c827 t822 b824 t997 hg0 ht998) (Γ1 := [Blk b824 (.cells #[.slice A826 t822.l.length c827, .int .i64 t822.last] 47 (0, 0)), Row r_status_writer 49 (.slice A826 t822.l.length c827) t822.l]) (Γ2 := [Blk b11 (.cells #[.slice A844 t842.2.2.l.length c845, .int .i64 t842.2.2.last] 47 (0, 0)), Row r_status_writer 49 (.slice A844 t842.2.2.l.length c845) t842.2.2.l]) S rfl rfl (by rintro _ _ _ ⟨rfl, rfl⟩; exact (flat_cons flat_blk (flat_cons (flat_row (fun _ _ _ _ h => h)) flat_nil))) ?_
                rintro _ w999 _ Γ' E' S ⟨rfl, rfl⟩
                replace E := E.trans E'
                clear E'
                replace S : St w999 M F [Blk b824 (.cells #[.slice A826 t822.l.length c827, .int .i64 t822.last] 47 (0, 0)), Row r_status_writer 49 (.slice A826 t822.l.length c827) t822.l, Blk b11 (.cells #[.slice A844 t842.2.2.l.length c845, .int .i64 t842.2.2.last] 47 (0, 0)), Row r_status_writer 49 (.slice A844 t842.2.2.l.length c845) t842.2.2.l] := S
                refine W_v (.bool (decide (x947 ≤ t997))) (x_ibin rfl rfl rfl rfl) rfl ?_
                refine Wl_nil ?_
                refine tn ?_
                rcases iteS H with ⟨hb1002, H⟩ | ⟨hb1002, H⟩
                · refine Wp_cond_true (congrArg Value.bool hb1002) ?_
                  refine Wp_skip ?_
                  refine tn ?_
                  refine Wp_seq ?_
                  refine Wp_block ?_
                  refine Wp_seq ?_
                  refine Wp_region_lit ?_
                  refine W_v (.pointer (some ⟨b824, 0, none⟩)) (x_move rfl) rfl ?_
                  refine W_v (.int .i64 x947) (x_move rfl) rfl ?_
                  obtain ⟨t1003, ht1004, H⟩ := bindS H
                  refine W_callF2 fn12 (status_Writers_Of_PO.con k M A826 c827 t822 x947 b824 t1003 hg0 ht1004) (Γ1 := [Blk b824 (.cells #[.slice A826 t822.l.length c827, .int .i64 t822.last] 47 (0, 0)), Row r_status_writer 49 (.slice A826 t822.l.length c827) t822.l]) (Γ2 := [Blk b11 (.cells #[.slice A844 t842.2.2.l.length c845, .int .i64 t842.2.2.last] 47 (0, 0)), Row r_status_writer 49 (.slice A844 t842.2.2.l.length c845) t842.2.2.l]) S rfl rfl (by rintro _ _ _ ⟨rfl, rfl⟩; exact (flat_cons flat_blk (flat_cons (flat_row (fun _ _ _ _ h => h)) flat_nil))) ?_
                  rintro _ w1005 _ Γ' E' S ⟨rfl, rfl⟩
                  replace E := E.trans E'
                  clear E'
                  replace S : St w1005 M F [Blk b824 (.cells #[.slice A826 t822.l.length c827, .int .i64 t822.last] 47 (0, 0)), Row r_status_writer 49 (.slice A826 t822.l.length c827) t822.l, Blk b11 (.cells #[.slice A844 t842.2.2.l.length c845, .int .i64 t842.2.2.last] 47 (0, 0)), Row r_status_writer 49 (.slice A844 t842.2.2.l.length c845) t842.2.2.l] := S
                  refine W_v (.tuple #[.int .u8 t1003.1, .int .i64 t1003.2]) (x_move rfl) rfl ?_
                  refine W_v (.int .u8 t1003.1) (x_extract rfl rfl) rfl ?_
                  refine W_v (.int .i64 t1003.2) (x_extract rfl rfl) rfl ?_
                  refine W_v (.int .u8 t1003.1) (x_assign rfl) rfl ?_
                  refine W_v (.int .i64 t1003.2) (x_assign rfl) rfl ?_
                  refine Wl_nil ?_
                  refine tn ?_
                  refine Wp_seq ?_
                  refine Wp_region_lit ?_
                  refine W_v (.pointer (some ⟨b11, 0, none⟩)) (x_move rfl) rfl ?_
                  refine W_v (.int .i64 x947) (x_move rfl) rfl ?_
                  obtain ⟨t1008, ht1009, H⟩ := bindS H
                  replace S : St w1005 M F [Blk b11 (.cells #[.slice A844 t842.2.2.l.length c845, .int .i64 t842.2.2.last] 47 (0, 0)), Row r_status_writer 49 (.slice A844 t842.2.2.l.length c845) t842.2.2.l, Blk b824 (.cells #[.slice A826 t822.l.length c827, .int .i64 t822.last] 47 (0, 0)), Row r_status_writer 49 (.slice A826 t822.l.length c827) t822.l] := S.pick [2, 3, 0, 1] (by decide)
                  refine W_callF2 fn12 (status_Writers_Of_PO.con k M A844 c845 t842.2.2 x947 b11 t1008 hg0 ht1009) (Γ1 := [Blk b11 (.cells #[.slice A844 t842.2.2.l.length c845, .int .i64 t842.2.2.last] 47 (0, 0)), Row r_status_writer 49 (.slice A844 t842.2.2.l.length c845) t842.2.2.l]) (Γ2 := [Blk b824 (.cells #[.slice A826 t822.l.length c827, .int .i64 t822.last] 47 (0, 0)), Row r_status_writer 49 (.slice A826 t822.l.length c827) t822.l]) S rfl rfl (by rintro _ _ _ ⟨rfl, rfl⟩; exact (flat_cons flat_blk (flat_cons (flat_row (fun _ _ _ _ h => h)) flat_nil))) ?_
                  rintro _ w1010 _ Γ' E' S ⟨rfl, rfl⟩
                  replace E := E.trans E'
                  clear E'
                  replace S : St w1010 M F [Blk b11 (.cells #[.slice A844 t842.2.2.l.length c845, .int .i64 t842.2.2.last] 47 (0, 0)), Row r_status_writer 49 (.slice A844 t842.2.2.l.length c845) t842.2.2.l, Blk b824 (.cells #[.slice A826 t822.l.length c827, .int .i64 t822.last] 47 (0, 0)), Row r_status_writer 49 (.slice A826 t822.l.length c827) t822.l] := S
                  refine W_v (.tuple #[.int .u8 t1008.1, .int .i64 t1008.2]) (x_move rfl) rfl ?_
                  refine W_v (.int .u8 t1008.1) (x_extract rfl rfl) rfl ?_
                  refine W_v (.int .i64 t1008.2) (x_extract rfl rfl) rfl ?_
                  refine W_v (.int .u8 t1008.1) (x_assign rfl) rfl ?_
                  refine W_v (.int .i64 t1008.2) (x_assign rfl) rfl ?_
                  refine Wl_nil ?_
                  refine tn ?_
                  refine Wp_seq ?_
                  refine Wp_seq ?_
                  refine Wp_region_lit ?_
                  refine W_v (.int .u8 t1008.1) (x_move rfl) rfl ?_
                  refine W_v (.int .u8 t1003.1) (x_move rfl) rfl ?_
                  refine W_v (.bool (decide (t1008.1 < t1003.1))) (x_ibin rfl rfl rfl rfl) rfl ?_
                  refine W_v (.bool (decide (t1008.1 < t1003.1))) (x_move rfl) rfl ?_
                  refine Wl_cutN 8 (fun ρ w' => Agree ρ [(0, .slice A0 a0.length c0), (3, .pointer (some ⟨b11, 0, none⟩)), (4, .int .i64 x549), (5, .pointer (some ⟨b824, 0, none⟩)), (7, .int .i64 t842.2.1), (8, .int .i64 x946), (9, .int .i64 x947), (10, .int .u8 t1003.1), (12, .int .u8 t1008.1), (13, .int .i64 t1008.2), (75, .bool ((decide (t1008.1 < t1003.1)) || ((t1003.2 != (0 : Int)) && (t1008.2 != t1003.2))))] ∧ w1010 = w') ?_ ?_
                  · rcases boolCases (decide (t1008.1 < t1003.1)) with hb1015 | hb1015
                    · skip
                      refine W_yes (congrArg some hb1015) ?_
                      refine W_v (.int .i64 t1003.2) (x_move rfl) rfl ?_
                      refine W_yes (congrArg some hb1015) ?_
                      refine W_v (.bool (t1003.2 != (0 : Int))) (x_ibin rfl rfl rfl rfl) rfl ?_
                      refine W_yes (congrArg some hb1015) ?_
                      refine W_v (.bool (t1003.2 != (0 : Int))) (x_move rfl) rfl ?_
                      refine Wl_cutN 4 (fun ρ w' => Agree ρ [(0, .slice A0 a0.length c0), (3, .pointer (some ⟨b11, 0, none⟩)), (4, .int .i64 x549), (5, .pointer (some ⟨b824, 0, none⟩)), (7, .int .i64 t842.2.1), (8, .int .i64 x946), (9, .int .i64 x947), (10, .int .u8 t1003.1), (12, .int .u8 t1008.1), (13, .int .i64 t1008.2), (67, .bool (decide (t1008.1 < t1003.1))), (68, .int .i64 t1003.2), (69, .bool (t1003.2 != (0 : Int))), (70, .bool (t1003.2 != (0 : Int))), (74, .bool ((t1003.2 != (0 : Int)) && (t1008.2 != t1003.2)))] ∧ w1010 = w') ?_ ?_
                      · rcases boolCases (t1003.2 != (0 : Int)) with hb1016 | hb1016
                        · skip
                          refine W_no (skT hb1016) rfl ?_
                          refine W_no (skT hb1016) rfl ?_
                          refine W_no (skT hb1016) rfl ?_
                          refine W_yes (congrArg some hb1015) ?_
                          refine W_v (.bool false) (x_pick (k := false) (congrArg Value.bool hb1016) rfl) rfl ?_
                          refine Wl_nil ?_
                          exact ⟨⟨rfl, rfl, rfl, rfl, rfl, rfl, rfl, rfl, rfl, rfl, rfl, rfl, rfl, rfl, (by first | rfl | (rw [hb1016]; rfl) | (simp only [hb1016]; rfl)), trivial⟩, rfl⟩
                        · skip
                          refine W_yes (congrArg some hb1016) ?_
                          refine W_v (.int .i64 t1008.2) (x_move rfl) rfl ?_
                          refine W_yes (congrArg some hb1016) ?_
                          refine W_v (.int .i64 t1003.2) (x_move rfl) rfl ?_
                          refine W_yes (congrArg some hb1016) ?_
                          refine W_v (.bool (t1008.2 != t1003.2)) (x_ibin rfl rfl rfl rfl) rfl ?_
                          refine W_yes (congrArg some hb1015) ?_
                          refine W_v (.bool (t1008.2 != t1003.2)) (x_pick (k := true) (congrArg Value.bool hb1016) rfl) rfl ?_
                          refine Wl_nil ?_
                          exact ⟨⟨rfl, rfl, rfl, rfl, rfl, rfl, rfl, rfl, rfl, rfl, rfl, rfl, rfl, rfl, (by first | rfl | (rw [hb1016]; rfl) | (simp only [hb1016]; rfl)), trivial⟩, rfl⟩
                      rintro ρ _ ⟨hρ, rfl⟩
                      rw [agree_eta hρ]
                      clear hρ
                      refine W_v (.bool ((t1003.2 != (0 : Int)) && (t1008.2 != t1003.2))) (x_pick (k := false) (congrArg Value.bool hb1015) rfl) rfl ?_
                      refine Wl_nil ?_
                      exact ⟨⟨rfl, rfl, rfl, rfl, rfl, rfl, rfl, rfl, rfl, rfl, (by first | rfl | (rw [hb1015]; rfl) | (simp only [hb1015]; rfl)), trivial⟩, rfl⟩
                    · skip
                      refine W_no (skF hb1015) rfl ?_
                      refine W_no (skF hb1015) rfl ?_
                      refine W_no (skF hb1015) rfl ?_
                      refine W_no (rfl) rfl ?_
                      refine W_no (rfl) rfl ?_
                      refine W_no (rfl) rfl ?_
                      refine W_no (skF hb1015) rfl ?_
                      refine W_v (.bool true) (x_pick (k := true) (congrArg Value.bool hb1015) rfl) rfl ?_
                      refine Wl_nil ?_
                      exact ⟨⟨rfl, rfl, rfl, rfl, rfl, rfl, rfl, rfl, rfl, rfl, (by first | rfl | (rw [hb1015]; rfl) | (simp only [hb1015]; rfl)), trivial⟩, rfl⟩
                  rintro ρ _ ⟨hρ, rfl⟩
                  rw [agree_eta hρ]
                  clear hρ
                  refine W_v (.bool ((decide (t1008.1 < t1003.1)) || ((t1003.2 != (0 : Int)) && (t1008.2 != t1003.2)))) (x_move rfl) rfl ?_
                  refine Wl_cutN 7 (fun ρ w' => Agree ρ [(0, .slice A0 a0.length c0), (3, .pointer (some ⟨b11, 0, none⟩)), (4, .int .i64 x549), (5, .pointer (some ⟨b824, 0, none⟩)), (7, .int .i64 t842.2.1), (8, .int .i64 x946), (9, .int .i64 x947), (10, .int .u8 t1003.1), (12, .int .u8 t1008.1), (13, .int .i64 t1008.2), (83, .bool (((decide (t1008.1 < t1003.1)) || ((t1003.2 != (0 : Int)) && (t1008.2 != t1003.2))) || ((t1008.2 != (0 : Int)) && (t1008.1 != (3 : Int)))))] ∧ w1010 = w') ?_ ?_
                  · rcases boolCases ((decide (t1008.1 < t1003.1)) || ((t1003.2 != (0 : Int)) && (t1008.2 != t1003.2))) with hb1019 | hb1019
                    · skip
                      refine W_yes (congrArg some hb1019) ?_
                      refine W_v (.int .i64 t1008.2) (x_move rfl) rfl ?_
                      refine W_yes (congrArg some hb1019) ?_
                      refine W_v (.bool (t1008.2 != (0 : Int))) (x_ibin rfl rfl rfl rfl) rfl ?_
                      refine W_yes (congrArg some hb1019) ?_
                      refine W_v (.bool (t1008.2 != (0 : Int))) (x_move rfl) rfl ?_
                      refine Wl_cutN 3 (fun ρ w' => Agree ρ [(0, .slice A0 a0.length c0), (3, .pointer (some ⟨b11, 0, none⟩)), (4, .int .i64 x549), (5, .pointer (some ⟨b824, 0, none⟩)), (7, .int .i64 t842.2.1), (8, .int .i64 x946), (9, .int .i64 x947), (10, .int .u8 t1003.1), (12, .int .u8 t1008.1), (13, .int .i64 t1008.2), (76, .bool ((decide (t1008.1 < t1003.1)) || ((t1003.2 != (0 : Int)) && (t1008.2 != t1003.2)))), (77, .int .i64 t1008.2), (78, .bool (t1008.2 != (0 : Int))), (79, .bool (t1008.2 != (0 : Int))), (82, .bool ((t1008.2 != (0 : Int)) && (t1008.1 != (3 : Int))))] ∧ w1010 = w') ?_ ?_
                      · rcases boolCases (t1008.2 != (0 : Int)) with hb1020 | hb1020
                        · skip
                          refine W_no (skT hb1020) rfl ?_
                          refine W_no (skT hb1020) rfl ?_
                          refine W_yes (congrArg some hb1019) ?_
                          refine W_v (.bool false) (x_pick (k := false) (congrArg Value.bool hb1020) rfl) rfl ?_
                          refine Wl_nil ?_
                          exact ⟨⟨rfl, rfl, rfl, rfl, rfl, rfl, rfl, rfl, rfl, rfl, rfl, rfl, rfl, rfl, (by first | rfl | (rw [hb1020]; rfl) | (simp only [hb1020]; rfl)), trivial⟩, rfl⟩
                        · skip
                          refine W_yes (congrArg some hb1020) ?_
                          refine W_v (.int .u8 t1008.1) (x_move rfl) rfl ?_
                          refine W_yes (congrArg some hb1020) ?_
                          refine W_v (.bool (t1008.1 != (3 : Int))) (x_ibin rfl rfl rfl rfl) rfl ?_
                          refine W_yes (congrArg some hb1019) ?_
                          refine W_v (.bool (t1008.1 != (3 : Int))) (x_pick (k := true) (congrArg Value.bool hb1020) rfl) rfl ?_
                          refine Wl_nil ?_
                          exact ⟨⟨rfl, rfl, rfl, rfl, rfl, rfl, rfl, rfl, rfl, rfl, rfl, rfl, rfl, rfl, (by first | rfl | (rw [hb1020]; rfl) | (simp only [hb1020]; rfl)), trivial⟩, rfl⟩
                      rintro ρ _ ⟨hρ, rfl⟩
                      rw [agree_eta hρ]
                      clear hρ
                      refine W_v (.bool ((t1008.2 != (0 : Int)) && (t1008.1 != (3 : Int)))) (x_pick (k := false) (congrArg Value.bool hb1019) rfl) rfl ?_
                      refine Wl_nil ?_
                      exact ⟨⟨rfl, rfl, rfl, rfl, rfl, rfl, rfl, rfl, rfl, rfl, (by first | rfl | (rw [hb1019]; rfl) | (simp only [hb1019]; rfl)), trivial⟩, rfl⟩
                    · skip
                      refine W_no (skF hb1019) rfl ?_
                      refine W_no (skF hb1019) rfl ?_
                      refine W_no (skF hb1019) rfl ?_
                      refine W_no (rfl) rfl ?_
                      refine W_no (rfl) rfl ?_
                      refine W_no (skF hb1019) rfl ?_
                      refine W_v (.bool true) (x_pick (k := true) (congrArg Value.bool hb1019) rfl) rfl ?_
                      refine Wl_nil ?_
                      exact ⟨⟨rfl, rfl, rfl, rfl, rfl, rfl, rfl, rfl, rfl, rfl, (by first | rfl | (rw [hb1019]; rfl) | (simp only [hb1019]; rfl)), trivial⟩, rfl⟩
                  rintro ρ _ ⟨hρ, rfl⟩
                  rw [agree_eta hρ]
                  clear hρ
                  refine Wl_nil ?_
                  refine tn ?_
                  rcases iteS H with ⟨hb1021, H⟩ | ⟨hb1021, H⟩
                  · refine Wp_cond_true (congrArg Value.bool hb1021) ?_
                    refine Wp_seq ?_
                    refine Wp_region_lit ?_
                    refine W_v (.bool false) (x_assign rfl) rfl ?_
                    refine Wl_nil ?_
                    refine tn ?_
                    refine Wp_ret ?_
                    refine tr (br (tr (tr (br (tr (tr (br (tr (tr (br (tr (tr (?_)))))))))))))
                    obtain rfl := Option.some.inj H
                    have H := o995H
                    replace H := elimL H
                    obtain rfl := Option.some.inj H
                    have H := o819H
                    replace H := elimL H
                    obtain rfl := Option.some.inj H
                    exact ⟨_, _, _, fun w1 e1 => run_resR (vs := [.bool false]) (FA.cons (rfl) (FA.nil)), HM, E, S.pick [] (by decide), ⟨rfl, rfl⟩⟩
                  refine Wp_cond_false (congrArg Value.bool hb1021) ?_
                  refine Wp_skip ?_
                  refine tn ?_
                  refine Wp_seq ?_
                  refine Wp_region_lit ?_
                  refine W_v (.int .u8 t1003.1) (x_move rfl) rfl ?_
                  refine W_v (.int .u8 t1008.1) (x_move rfl) rfl ?_
                  refine W_v (.bool (t1003.1 != t1008.1)) (x_ibin rfl rfl rfl rfl) rfl ?_
                  refine Wl_nil ?_
                  refine tn ?_
                  rcases iteS H with ⟨hb1022, H⟩ | ⟨hb1022, H⟩
                  · refine Wp_cond_true (congrArg Value.bool hb1022) ?_
                    refine Wp_seq ?_
                    refine Wp_region_lit ?_
                    refine W_v (.int .i64 x946) (x_move rfl) rfl ?_
                    refine W_v (.int .i64 (IntKind.i64.wrap (x946 + (1 : Int)))) (x_ibin rfl rfl rfl rfl) rfl ?_
                    refine W_v (.int .i64 (IntKind.i64.wrap (x946 + (1 : Int)))) (x_assign rfl) rfl ?_
                    refine Wl_nil ?_
                    refine tn ?_
                    refine Wp_seq ?_
                    refine Wp_region_lit ?_
                    refine W_v (.int .i64 t1008.2) (x_move rfl) rfl ?_
                    refine W_v (.bool (t1008.2 != (0 : Int))) (x_ibin rfl rfl rfl rfl) rfl ?_
                    refine W_v (.bool (t1008.2 != (0 : Int))) (x_move rfl) rfl ?_
                    obtain ⟨o1035, o1035h, o1035H⟩ := bindS H
                    clear H
                    refine Wl_cutN 5 (fun ρ w' => ∃ (x1034 : Bool), (x1034) = o1035 ∧ Agree ρ [(0, .slice A0 a0.length c0), (3, .pointer (some ⟨b11, 0, none⟩)), (4, .int .i64 x549), (5, .pointer (some ⟨b824, 0, none⟩)), (7, .int .i64 t842.2.1), (8, .int .i64 (IntKind.i64.wrap (x946 + (1 : Int)))), (9, .int .i64 x947), (96, .bool x1034)] ∧ Ext w w' ∧ St w' M F [Blk b824 (.cells #[.slice A826 t822.l.length c827, .int .i64 t822.last] 47 (0, 0)), Row r_status_writer 49 (.slice A826 t822.l.length c827) t822.l, Blk b11 (.cells #[.slice A844 t842.2.2.l.length c845, .int .i64 t842.2.2.last] 47 (0, 0)), Row r_status_writer 49 (.slice A844 t842.2.2.l.length c845) t842.2.2.l]) ?_ ?_
                    · have H := o1035h
                      rcases iteS H with ⟨hb1033, H⟩ | ⟨hb1033, H⟩
                      · skip
                        refine W_yes (congrArg some hb1033) ?_
                        refine W_v (.int .i64 t1008.2) (x_move rfl) rfl ?_
                        refine W_yes (congrArg some hb1033) ?_
                        refine W_v (.pointer (some ⟨b824, 0, none⟩)) (x_move rfl) rfl ?_
                        refine W_yes (congrArg some hb1033) ?_
                        obtain ⟨t1036, ht1037, H⟩ := bindS H
                        replace S : St w1010 M F [Blk b824 (.cells #[.slice A826 t822.l.length c827, .int .i64 t822.last] 47 (0, 0)), Row r_status_writer 49 (.slice A826 t822.l.length c827) t822.l, Blk b11 (.cells #[.slice A844 t842.2.2.l.length c845, .int .i64 t842.2.2.last] 47 (0, 0)), Row r_status_writer 49 (.slice A844 t842.2.2.l.length c845) t842.2.2.l] := S.pick [2, 3, 0, 1] (by decide)
                        refine W_callF2 fn21 (status_Writers_Last_PO.con k M A826 c827 t822 b824 t1036 hg0 ht1037) (Γ1 := [Blk b824 (.cells #[.slice A826 t822.l.length c827, .int .i64 t822.last] 47 (0, 0)), Row r_status_writer 49 (.slice A826 t822.l.length c827) t822.l]) (Γ2 := [Blk b11 (.cells #[.slice A844 t842.2.2.l.length c845, .int .i64 t842.2.2.last] 47 (0, 0)), Row r_status_writer 49 (.slice A844 t842.2.2.l.length c845) t842.2.2.l]) S rfl rfl (by rintro _ _ _ ⟨rfl, rfl⟩; exact (flat_cons flat_blk (flat_cons (flat_row (fun _ _ _ _ h => h)) flat_nil))) ?_
                        rintro _ w1038 _ Γ' E' S ⟨rfl, rfl⟩
                        replace E := E.trans E'
                        clear E'
                        replace S : St w1038 M F [Blk b824 (.cells #[.slice A826 t822.l.length c827, .int .i64 t822.last] 47 (0, 0)), Row r_status_writer 49 (.slice A826 t822.l.length c827) t822.l, Blk b11 (.cells #[.slice A844 t842.2.2.l.length c845, .int .i64 t842.2.2.last] 47 (0, 0)), Row r_status_writer 49 (.slice A844 t842.2.2.l.length c845) t842.2.2.l] := S
                        refine W_yes (congrArg some hb1033) ?_
                        refine W_v (.bool (decide (t1008.2 ≤ t1036))) (x_ibin rfl rfl rfl rfl) rfl ?_
                        refine W_v (.bool (decide (t1008.2 ≤ t1036))) (x_pick (k := true) (congrArg Value.bool hb1033) rfl) rfl ?_
                        refine Wl_nil ?_
                        exact ⟨(decide (t1008.2 ≤ t1036)), Option.some.inj H, ⟨rfl, rfl, rfl, rfl, rfl, rfl, rfl, rfl, trivial⟩, E, S.pick [0, 1, 2, 3] (by decide)⟩
                      · skip
                        refine W_no (skT hb1033) rfl ?_
                        refine W_no (skT hb1033) rfl ?_
                        refine W_no (skT hb1033) rfl ?_
                        refine W_no (skT hb1033) rfl ?_
                        refine W_v (.bool false) (x_pick (k := false) (congrArg Value.bool hb1033) rfl) rfl ?_
                        refine Wl_nil ?_
                        exact ⟨false, Option.some.inj H, ⟨rfl, rfl, rfl, rfl, rfl, rfl, rfl, rfl, trivial⟩, E, S.pick [2, 3, 0, 1] (by decide)⟩
                    clear o1035h
                    rintro ρ w1041 ⟨x1034, rfl, hρ, E, S⟩
                    rw [agree_eta hρ]
                    clear hρ
                    have H := o1035H
                    clear o1035H
                    refine Wl_nil ?_
                    refine tn ?_
                    rcases iteS H with ⟨hb1042, H⟩ | ⟨hb1042, H⟩
                    · refine Wp_cond_true (congrArg Value.bool hb1042) ?_
                      refine Wp_seq ?_
                      refine Wp_region_lit ?_
                      refine W_v (.bool false) (x_assign rfl) rfl ?_
                      refine Wl_nil ?_
                      refine tn ?_
                      refine Wp_ret ?_
                      refine br (tr (tr (br (tr (tr (br (tr (tr (br (tr (tr (?_))))))))))))
                      obtain rfl := Option.some.inj H
                      have H := o995H
                      replace H := elimL H
                      obtain rfl := Option.some.inj H
                      have H := o819H
                      replace H := elimL H
                      obtain rfl := Option.some.inj H
                      exact ⟨_, _, _, fun w1 e1 => run_resR (vs := [.bool false]) (FA.cons (rfl) (FA.nil)), HM, E, S.pick [] (by decide), ⟨rfl, rfl⟩⟩
                    refine Wp_cond_false (congrArg Value.bool hb1042) ?_
                    refine Wp_skip ?_
                    refine bn ?_
                    refine tn ?_
                    refine Wp_region_lit ?_
                    refine W_v (.int .i64 x947) (x_move rfl) rfl ?_
                    refine W_v (.int .i64 (IntKind.i64.wrap (x947 + (1 : Int)))) (x_ibin rfl rfl rfl rfl) rfl ?_
                    refine W_v (.int .i64 (IntKind.i64.wrap (x947 + (1 : Int)))) (x_assign rfl) rfl ?_
                    refine Wl_nil ?_
                    refine tn ?_
                    exact ⟨k, Nat.lt_succ_self k, ⟨(IntKind.i64.wrap (x946 + (1 : Int))), (IntKind.i64.wrap (x947 + (1 : Int))), H, ⟨rfl, rfl, rfl, rfl, rfl, rfl, rfl, trivial⟩, E, S.pick [2, 3, 0, 1] (by decide)⟩⟩
                  refine Wp_cond_false (congrArg Value.bool hb1022) ?_
                  refine Wp_skip ?_
                  refine bn ?_
                  refine tn ?_
                  refine Wp_region_lit ?_
                  refine W_v (.int .i64 x947) (x_move rfl) rfl ?_
                  refine W_v (.int .i64 (IntKind.i64.wrap (x947 + (1 : Int)))) (x_ibin rfl rfl rfl rfl) rfl ?_
                  refine W_v (.int .i64 (IntKind.i64.wrap (x947 + (1 : Int)))) (x_assign rfl) rfl ?_
                  refine Wl_nil ?_
                  refine tn ?_
                  exact ⟨k, Nat.lt_succ_self k, ⟨x946, (IntKind.i64.wrap (x947 + (1 : Int))), H, ⟨rfl, rfl, rfl, rfl, rfl, rfl, rfl, trivial⟩, E, S.pick [0, 1, 2, 3] (by decide)⟩⟩
                refine Wp_cond_false (congrArg Value.bool hb1002) ?_
                refine Wp_exit ?_
                refine tx (tx (bsm (?_)))
                refine tn ?_
                exact ⟨x946, Option.some.inj H, ⟨rfl, rfl, rfl, rfl, rfl, rfl, trivial⟩, E, S.pick [0, 1, 2, 3] (by decide)⟩
          clear o995h
          rintro ρ w1043 ⟨x994, rfl, hρ, E, S⟩
          rw [agree_eta hρ]
          clear hρ
          have H := o995H
          clear o995H
          replace H := elimR H
          refine tn ?_
          refine Wp_seq ?_
          refine Wp_region_lit ?_
          refine W_v (.int .i64 x994) (x_move rfl) rfl ?_
          refine W_v (.bool (decide (x994 > (1 : Int)))) (x_ibin rfl rfl rfl rfl) rfl ?_
          refine W_v (.bool (decide (x994 > (1 : Int)))) (x_move rfl) rfl ?_
          refine Wl_cutN 6 (fun ρ w' => Agree ρ [(0, .slice A0 a0.length c0), (3, .pointer (some ⟨b11, 0, none⟩)), (4, .int .i64 x549), (5, .pointer (some ⟨b824, 0, none⟩)), (105, .bool ((decide (x994 > (1 : Int))) || (!((t842.2.1 == (0 : Int)) == (x994 == (1 : Int))))))] ∧ w1043 = w') ?_ ?_
          · rcases boolCases (decide (x994 > (1 : Int))) with hb1044 | hb1044
            · skip
              refine W_yes (congrArg some hb1044) ?_
              refine W_v (.int .i64 t842.2.1) (x_move rfl) rfl ?_
              refine W_yes (congrArg some hb1044) ?_
              refine W_v (.bool (t842.2.1 == (0 : Int))) (x_ibin rfl rfl rfl rfl) rfl ?_
              refine W_yes (congrArg some hb1044) ?_
              refine W_v (.int .i64 x994) (x_move rfl) rfl ?_
              refine W_yes (congrArg some hb1044) ?_
              refine W_v (.bool (x994 == (1 : Int))) (x_ibin rfl rfl rfl rfl) rfl ?_
              refine W_yes (congrArg some hb1044) ?_
              refine W_v (.bool (!((t842.2.1 == (0 : Int)) == (x994 == (1 : Int))))) (x_bne Tryd.underlying4 rfl rfl) rfl ?_
              refine W_v (.bool (!((t842.2.1 == (0 : Int)) == (x994 == (1 : Int))))) (x_pick (k := false) (congrArg Value.bool hb1044) rfl) rfl ?_
              refine Wl_nil ?_
              exact ⟨⟨rfl, rfl, rfl, rfl, (by first | rfl | (rw [hb1044]; rfl) | (simp only [hb1044]; rfl)), trivial⟩, rfl⟩
            · skip
              refine W_no (skF hb1044) rfl ?_
              refine W_no (skF hb1044) rfl ?_
              refine W_no (skF hb1044) rfl ?_
              refine W_no (skF hb1044) rfl ?_
              refine W_no (skF hb1044) rfl ?_
              refine W_v (.bool true) (x_pick (k := true) (congrArg Value.bool hb1044) rfl) rfl ?_
              refine Wl_nil ?_
              exact ⟨⟨rfl, rfl, rfl, rfl, (by first | rfl | (rw [hb1044]; rfl) | (simp only [hb1044]; rfl)), trivial⟩, rfl⟩
          rintro ρ _ ⟨hρ, rfl⟩
          rw [agree_eta hρ]
          clear hρ
          refine W_v (.bool ((decide (x994 > (1 : Int))) || (!((t842.2.1 == (0 : Int)) == (x994 == (1 : Int)))))) (x_move rfl) rfl ?_
          obtain ⟨o1067, o1067h, o1067H⟩ := bindS H
          clear H
          refine Wl_cutN 6 (fun ρ w' => ∃ (x1066 : Bool), (x1066) = o1067 ∧ Agree ρ [(0, .slice A0 a0.length c0), (3, .pointer (some ⟨b11, 0, none⟩)), (4, .int .i64 x549), (112, .bool x1066)] ∧ Ext w w' ∧ St w' M F [Blk b11 (.cells #[.slice A844 t842.2.2.l.length c845, .int .i64 t842.2.2.last] 47 (0, 0)), Row r_status_writer 49 (.slice A844 t842.2.2.l.length c845) t842.2.2.l]) ?_ ?_
          · have H := o1067h
            rcases iteS H with ⟨hb1065, H⟩ | ⟨hb1065, H⟩
            · skip
              refine W_no (skF hb1065) rfl ?_
              refine W_no (skF hb1065) rfl ?_
              refine W_no (skF hb1065) rfl ?_
              refine W_no (skF hb1065) rfl ?_
              refine W_no (skF hb1065) rfl ?_
              refine W_v (.bool true) (x_pick (k := true) (congrArg Value.bool hb1065) rfl) rfl ?_
              refine Wl_nil ?_
              exact ⟨true, Option.some.inj H, ⟨rfl, rfl, rfl, rfl, trivial⟩, E, S.pick [2, 3] (by decide)⟩
            · skip
              refine W_yes (congrArg some hb1065) ?_
              refine W_v (.pointer (some ⟨b11, 0, none⟩)) (x_move rfl) rfl ?_
              refine W_yes (congrArg some hb1065) ?_
              obtain ⟨t1068, ht1069, H⟩ := bindS H
              replace S : St w1043 M F [Blk b11 (.cells #[.slice A844 t842.2.2.l.length c845, .int .i64 t842.2.2.last] 47 (0, 0)), Row r_status_writer 49 (.slice A844 t842.2.2.l.length c845) t842.2.2.l, Blk b824 (.cells #[.slice A826 t822.l.length c827, .int .i64 t822.last] 47 (0, 0)), Row r_status_writer 49 (.slice A826 t822.l.length c827) t822.l] := S.pick [2, 3, 0, 1] (by decide)
              refine W_callF2 fn21 (status_Writers_Last_PO.con k M A844 c845 t842.2.2 b11 t1068 hg0 ht1069) (Γ1 := [Blk b11 (.cells #[.slice A844 t842.2.2.l.length c845, .int .i64 t842.2.2.last] 47 (0, 0)), Row r_status_writer 49 (.slice A844 t842.2.2.l.length c845) t842.2.2.l]) (Γ2 := [Blk b824 (.cells #[.slice A826 t822.l.length c827, .int .i64 t822.last] 47 (0, 0)), Row r_status_writer 49 (.slice A826 t822.l.length c827) t822.l]) S rfl rfl (by rintro _ _ _ ⟨rfl, rfl⟩; exact (flat_cons flat_blk (flat_cons (flat_row (fun _ _ _ _ h => h)) flat_nil))) ?_
              rintro _ w1070 _ Γ' E' S ⟨rfl, rfl⟩
              replace E := E.trans E'
              clear E'
              replace S : St w1070 M F [Blk b11 (.cells #[.slice A844 t842.2.2.l.length c845, .int .i64 t842.2.2.last] 47 (0, 0)), Row r_status_writer 49 (.slice A844 t842.2.2.l.length c845) t842.2.2.l, Blk b824 (.cells #[.slice A826 t822.l.length c827, .int .i64 t822.last] 47 (0, 0)), Row r_status_writer 49 (.slice A826 t822.l.length c827) t822.l] := S
              refine W_yes (congrArg some hb1065) ?_
              refine W_v (.pointer (some ⟨b824, 0, none⟩)) (x_move rfl) rfl ?_
              refine W_yes (congrArg some hb1065) ?_
              obtain ⟨t1073, ht1074, H⟩ := bindS H
              replace S : St w1070 M F [Blk b824 (.cells #[.slice A826 t822.l.length c827, .int .i64 t822.last] 47 (0, 0)), Row r_status_writer 49 (.slice A826 t822.l.length c827) t822.l, Blk b11 (.cells #[.slice A844 t842.2.2.l.length c845, .int .i64 t842.2.2.last] 47 (0, 0)), Row r_status_writer 49 (.slice A844 t842.2.2.l.length c845) t842.2.2.l] := S.pick [2, 3, 0, 1] (by decide)
              refine W_callF2 fn21 (status_Writers_Last_PO.con k M A826 c827 t822 b824 t1073 hg0 ht1074) (Γ1 := [Blk b824 (.cells #[.slice A826 t822.l.length c827, .int .i64 t822.last] 47 (0, 0)), Row r_status_writer 49 (.slice A826 t822.l.length c827) t822.l]) (Γ2 := [Blk b11 (.cells #[.slice A844 t842.2.2.l.length c845, .int .i64 t842.2.2.last] 47 (0, 0)), Row r_status_writer 49 (.slice A844 t842.2.2.l.length c845) t842.2.2.l]) S rfl rfl (by rintro _ _ _ ⟨rfl, rfl⟩; exact (flat_cons flat_blk (flat_cons (flat_row (fun _ _ _ _ h => h)) flat_nil))) ?_
              rintro _ w1075 _ Γ' E' S ⟨rfl, rfl⟩
              replace E := E.trans E'
              clear E'
              replace S : St w1075 M F [Blk b824 (.cells #[.slice A826 t822.l.length c827, .int .i64 t822.last] 47 (0, 0)), Row r_status_writer 49 (.slice A826 t822.l.length c827) t822.l, Blk b11 (.cells #[.slice A844 t842.2.2.l.length c845, .int .i64 t842.2.2.last] 47 (0, 0)), Row r_status_writer 49 (.slice A844 t842.2.2.l.length c845) t842.2.2.l] := S
              refine W_yes (congrArg some hb1065) ?_
              refine W_v (.bool (decide (t1068 < t1073))) (x_ibin rfl rfl rfl rfl) rfl ?_
              refine W_v (.bool (decide (t1068 < t1073))) (x_pick (k := false) (congrArg Value.bool hb1065) rfl) rfl ?_
              refine Wl_nil ?_
              exact ⟨(decide (t1068 < t1073)), Option.some.inj H, ⟨rfl, rfl, rfl, rfl, trivial⟩, E, S.pick [2, 3] (by decide)⟩
          clear o1067h
          rintro ρ w1078 ⟨x1066, rfl, hρ, E, S⟩
          rw [agree_eta hρ]
          clear hρ
          have H := o1067H
          clear o1067H
          refine Wl_nil ?_
          refine tn ?_
          rcases iteS H with ⟨hb1079, H⟩ | ⟨hb1079, H⟩
          · refine Wp_cond_true (congrArg Value.bool hb1079) ?_
            refine Wp_seq ?_
            refine Wp_region_lit ?_
            refine W_v (.bool false) (x_assign rfl) rfl ?_
            refine Wl_nil ?_
            refine tn ?_
            refine Wp_ret ?_
            refine br (tr (tr (br (tr (tr (?_))))))
            obtain rfl := Option.some.inj H
            have H := o819H
            replace H := elimL H
            obtain rfl := Option.some.inj H
            exact ⟨_, _, _, fun w1 e1 => run_resR (vs := [.bool false]) (FA.cons (rfl) (FA.nil)), HM, E, S.pick [] (by decide), ⟨rfl, rfl⟩⟩
          refine Wp_cond_false (congrArg Value.bool hb1079) ?_
          refine Wp_skip ?_
          refine bn ?_
          refine tn ?_
          refine Wp_region_lit ?_
          refine W_v (.int .i64 x549) (x_move rfl) rfl ?_
          refine W_v (.int .i64 (IntKind.i64.wrap (x549 + (1 : Int)))) (x_ibin rfl rfl rfl rfl) rfl ?_
          refine W_v (.int .i64 (IntKind.i64.wrap (x549 + (1 : Int)))) (x_assign rfl) rfl ?_
          refine Wl_nil ?_
          refine tn ?_
          exact ⟨k, Nat.lt_succ_self k, ⟨(IntKind.i64.wrap (x549 + (1 : Int))), t842.2.2.l, t842.2.2.last, A844, c845, H, ⟨rfl, rfl, rfl, trivial⟩, E, S.pick [1, 0] (by decide)⟩⟩
        refine Wp_cond_false (congrArg Value.bool hb821) ?_
        refine Wp_exit ?_
        refine tx (tx (bsm (?_)))
        refine tn ?_
        exact ⟨x550, x554, A551, c552, Option.some.inj H, ⟨rfl, trivial⟩, E, S.pick [0, 1] (by decide)⟩
  clear o819h
  rintro ρ w1080 ⟨x814, x818, A815, c816, rfl, hρ, E, S⟩
  rw [agree_eta hρ]
  clear hρ
  have H := o819H
  clear o819H
  replace H := elimR H
  refine tn ?_
  refine Wp_seq ?_
  refine Wp_seq ?_
  refine Wp_region_lit ?_
  refine W_v (.int .i64 1) (x_assign rfl) rfl ?_
  refine Wl_nil ?_
  refine tn ?_
  obtain ⟨o1459, o1459h, o1459H⟩ := bindS H
  clear H
  refine Wp_blockJ (fun ρ w' => .inr () = o1459 ∧ Agree ρ [] ∧ Ext w w' ∧ St w' M F []) ?_ ?_
  · skip
    refine Wp_loop (fun n ρ w' => ∃ (x1333 : Int), ferrymanlaw08_StatusRises_l7 x814 x818 n x1333 = some o1459 ∧ Agree ρ [(3, .pointer (some ⟨b11, 0, none⟩)), (14, .int .i64 x1333)] ∧ Ext w w' ∧ St w' M F [Row r_status_writer 49 (.slice A815 x814.length c816) x814, Blk b11 (.cells #[.slice A815 x814.length c816, .int .i64 x818] 47 (0, 0))]) k ?_ ?_
    · skip
      exact ⟨(1 : Int), o1459h, ⟨rfl, rfl, trivial⟩, E, S.pick [0, 1] (by decide)⟩
    · intro n
      rintro ρ w1460 ⟨x1333, H, hρ, E, S⟩
      rw [agree_eta hρ]
      clear hρ
      cases n with
      | zero => cases H
      | succ k =>
        rw [ferrymanlaw08_StatusRises_l7.eq_2] at H
        refine Wp_seq ?_
        refine Wp_seq ?_
        refine Wp_region_lit ?_
        refine W_v (.int .i64 x1333) (x_move rfl) rfl ?_
        refine W_v (.pointer (some ⟨b11, 0, none⟩)) (x_move rfl) rfl ?_
        obtain ⟨t1461, ht1462, H⟩ := bindS H
        replace S : St w1460 M F [Blk b11 (.cells #[.slice A815 x814.length c816, .int .i64 x818] 47 (0, 0)), Row r_status_writer 49 (.slice A815 x814.length c816) x814] := S.pick [1, 0] (by decide)
        refine W_callF2 fn10 (status_Writers_High_PO.con k M A815 c816 (⟨x814, x818⟩ : status_Writers) b11 t1461 hg0 ht1462) (Γ1 := [Blk b11 (.cells #[.slice A815 x814.length c816, .int .i64 x818] 47 (0, 0)), Row r_status_writer 49 (.slice A815 x814.length c816) x814]) (Γ2 := []) S rfl rfl (by rintro _ _ _ ⟨rfl, rfl⟩; exact (flat_cons flat_blk (flat_cons (flat_row (fun _ _ _ _ h => h)) flat_nil))) ?_
        rintro _ w1463 _ Γ' E' S ⟨rfl, rfl⟩
        replace E := E.trans E'
        clear E'
        replace S : St w1463 M F [Blk b11 (.cells #[.slice A815 x814.length c816, .int .i64 x818] 47 (0, 0)), Row r_status_writer 49 (.slice A815 x814.length c816) x814] := S
        refine W_v (.bool (decide (x1333 < t1461))) (x_ibin rfl rfl rfl rfl) rfl ?_
        refine Wl_nil ?_
        refine tn ?_
        rcases iteS H with ⟨hb1466, H⟩ | ⟨hb1466, H⟩
        · refine Wp_cond_true (congrArg Value.bool hb1466) ?_
          refine Wp_skip ?_
          refine tn ?_
          refine Wp_seq ?_
          refine Wp_block ?_
          refine Wp_seq ?_
          refine Wp_region_lit ?_
          refine W_v (.pointer (some ⟨b11, 0, none⟩)) (x_move rfl) rfl ?_
          refine W_v (.int .i64 x1333) (x_move rfl) rfl ?_
          obtain ⟨t1467, ht1468, H⟩ := bindS H
          refine W_callF2 fn12 (status_Writers_Of_PO.con k M A815 c816 (⟨x814, x818⟩ : status_Writers) x1333 b11 t1467 hg0 ht1468) (Γ1 := [Blk b11 (.cells #[.slice A815 x814.length c816, .int .i64 x818] 47 (0, 0)), Row r_status_writer 49 (.slice A815 x814.length c816) x814]) (Γ2 := []) S rfl rfl (by rintro _ _ _ ⟨rfl, rfl⟩; exact (flat_cons flat_blk (flat_cons (flat_row (fun _ _ _ _ h => h)) flat_nil))) ?_
          rintro _ w1469 _ Γ' E' S ⟨rfl, rfl⟩
          replace E := E.trans E'
          clear E'
          replace S : St w1469 M F [Blk b11 (.cells #[.slice A815 x814.length c816, .int .i64 x818] 47 (0, 0)), Row r_status_writer 49 (.slice A815 x814.length c816) x814] := S
          refine W_v (.tuple #[.int .u8 t1467.1, .int .i64 t1467.2]) (x_move rfl) rfl ?_
          refine W_v (.int .u8 t1467.1) (x_extract rfl rfl) rfl ?_
          refine W_v (.int .i64 t1467.2) (x_extract rfl rfl) rfl ?_
          refine W_v (.int .u8 t1467.1) (x_assign rfl) rfl ?_
          refine W_v (.int .i64 t1467.2) (x_assign rfl) rfl ?_
          refine Wl_nil ?_
          refine tn ?_
          refine Wp_seq ?_
          refine Wp_region_lit ?_
          refine W_v (.int .i64 1) (x_assign rfl) rfl ?_
          refine Wl_nil ?_
          refine tn ?_
          obtain ⟨o1556, o1556h, o1556H⟩ := bindS H
          clear H
          refine Wp_blockJ (fun ρ w' => .inr () = o1556 ∧ Agree ρ [(3, .pointer (some ⟨b11, 0, none⟩)), (14, .int .i64 x1333)] ∧ Ext w w' ∧ St w' M F [Blk b11 (.cells #[.slice A815 x814.length c816, .int .i64 x818] 47 (0, 0)), Row r_status_writer 49 (.slice A815 x814.length c816) x814]) ?_ ?_
          · skip
            refine Wp_loop (fun n ρ w' => ∃ (x1528 : Int), ferrymanlaw08_StatusRises_l9 x814 x818 x1333 t1467 n x1528 = some o1556 ∧ Agree ρ [(3, .pointer (some ⟨b11, 0, none⟩)), (14, .int .i64 x1333), (16, .int .i64 t1467.2), (17, .int .i64 x1528)] ∧ Ext w w' ∧ St w' M F [Blk b11 (.cells #[.slice A815 x814.length c816, .int .i64 x818] 47 (0, 0)), Row r_status_writer 49 (.slice A815 x814.length c816) x814]) k ?_ ?_
            · skip
              exact ⟨(1 : Int), o1556h, ⟨rfl, rfl, rfl, rfl, trivial⟩, E, S.pick [0, 1] (by decide)⟩
            · intro n
              rintro ρ w1557 ⟨x1528, H, hρ, E, S⟩
              rw [agree_eta hρ]
              clear hρ
              cases n with
              | zero => cases H
              | succ k =>
                rw [ferrymanlaw08_StatusRises_l9.eq_2] at H
                refine Wp_seq ?_
                refine Wp_seq ?_
                refine Wp_region_lit ?_
                refine W_v (.int .i64 x1528) (x_move rfl) rfl ?_
                refine W_v (.int .i64 x1333) (x_move rfl) rfl ?_
                refine W_v (.bool (decide (x1528 < x1333))) (x_ibin rfl rfl rfl rfl) rfl ?_
                refine Wl_nil ?_
                refine tn ?_
                rcases iteS H with ⟨hb1558, H⟩ | ⟨hb1558, H⟩
                · refine Wp_cond_true (congrArg Value.bool hb1558) ?_
                  refine Wp_skip ?_
                  refine tn ?_
                  refine Wp_seq ?_
                  refine Wp_block ?_
                  refine Wp_seq ?_
                  refine Wp_region_lit ?_
                  refine W_v (.pointer (some ⟨b11, 0, none⟩)) (x_move rfl) rfl ?_
                  refine W_v (.int .i64 x1528) (x_move rfl) rfl ?_
                  obtain ⟨t1559, ht1560, H⟩ := bindS H
                  refine W_callF2 fn12 (status_Writers_Of_PO.con k M A815 c816 (⟨x814, x818⟩ : status_Writers) x1528 b11 t1559 hg0 ht1560) (Γ1 := [Blk b11 (.cells #[.slice A815 x814.length c816, .int .i64 x818] 47 (0, 0)), Row r_status_writer 49 (.slice A815 x814.length c816) x814]) (Γ2 := []) S rfl rfl (by rintro _ _ _ ⟨rfl, rfl⟩; exact (flat_cons flat_blk (flat_cons (flat_row (fun _ _ _ _ h => h)) flat_nil))) ?_
                  rintro _ w1561 _ Γ' E' S ⟨rfl, rfl⟩
                  replace E := E.trans E'
                  clear E'
                  replace S : St w1561 M F [Blk b11 (.cells #[.slice A815 x814.length c816, .int .i64 x818] 47 (0, 0)), Row r_status_writer 49 (.slice A815 x814.length c816) x814] := S
                  refine W_v (.tuple #[.int .u8 t1559.1, .int .i64 t1559.2]) (x_move rfl) rfl ?_
                  refine W_v (.int .u8 t1559.1) (x_extract rfl rfl) rfl ?_
                  refine W_v (.int .i64 t1559.2) (x_extract rfl rfl) rfl ?_
                  refine W_v (.int .u8 t1559.1) (x_assign rfl) rfl ?_
                  refine W_v (.int .i64 t1559.2) (x_assign rfl) rfl ?_
                  refine Wl_nil ?_
                  refine tn ?_
                  refine Wp_seq ?_
                  refine Wp_region_lit ?_
                  refine W_v (.int .i64 t1467.2) (x_move rfl) rfl ?_
                  refine W_v (.int .i64 t1559.2) (x_move rfl) rfl ?_
                  refine W_v (.bool (t1467.2 == t1559.2)) (x_ibin rfl rfl rfl rfl) rfl ?_
                  refine W_v (.bool (t1467.2 == t1559.2)) (x_move rfl) rfl ?_
                  refine Wl_cutN 3 (fun ρ w' => Agree ρ [(3, .pointer (some ⟨b11, 0, none⟩)), (14, .int .i64 x1333), (16, .int .i64 t1467.2), (17, .int .i64 x1528), (142, .bool ((t1467.2 == t1559.2) && (t1467.2 != (0 : Int))))] ∧ w1561 = w') ?_ ?_
                  · rcases boolCases (t1467.2 == t1559.2) with hb1564 | hb1564
                    · skip
                      refine W_no (skT hb1564) rfl ?_
                      refine W_no (skT hb1564) rfl ?_
                      refine W_v (.bool false) (x_pick (k := false) (congrArg Value.bool hb1564) rfl) rfl ?_
                      refine Wl_nil ?_
                      exact ⟨⟨rfl, rfl, rfl, rfl, (by first | rfl | (rw [hb1564]; rfl) | (simp only [hb1564]; rfl)), trivial⟩, rfl⟩
                    · skip
                      refine W_yes (congrArg some hb1564) ?_
                      refine W_v (.int .i64 t1467.2) (x_move rfl) rfl ?_
                      refine W_yes (congrArg some hb1564) ?_
                      refine W_v (.bool (t1467.2 != (0 : Int))) (x_ibin rfl rfl rfl rfl) rfl ?_
                      refine W_v (.bool (t1467.2 != (0 : Int))) (x_pick (k := true) (congrArg Value.bool hb1564) rfl) rfl ?_
                      refine Wl_nil ?_
                      exact ⟨⟨rfl, rfl, rfl, rfl, (by first | rfl | (rw [hb1564]; rfl) | (simp only [hb1564]; rfl)), trivial⟩, rfl⟩
                  rintro ρ _ ⟨hρ, rfl⟩
                  rw [agree_eta hρ]
                  clear hρ
                  refine W_v (.bool ((t1467.2 == t1559.2) && (t1467.2 != (0 : Int)))) (x_move rfl) rfl ?_
                  obtain ⟨o1577, o1577h, o1577H⟩ := bindS H
                  clear H
                  refine Wl_cutN 5 (fun ρ w' => ∃ (x1576 : Bool), (x1576) = o1577 ∧ Agree ρ [(3, .pointer (some ⟨b11, 0, none⟩)), (14, .int .i64 x1333), (16, .int .i64 t1467.2), (17, .int .i64 x1528), (148, .bool x1576)] ∧ Ext w w' ∧ St w' M F [Blk b11 (.cells #[.slice A815 x814.length c816, .int .i64 x818] 47 (0, 0)), Row r_status_writer 49 (.slice A815 x814.length c816) x814]) ?_ ?_
                  · have H := o1577h
                    rcases iteS H with ⟨hb1575, H⟩ | ⟨hb1575, H⟩
                    · skip
                      refine W_no (skF hb1575) rfl ?_
                      refine W_no (skF hb1575) rfl ?_
                      refine W_no (skF hb1575) rfl ?_
                      refine W_no (skF hb1575) rfl ?_
                      refine W_v (.bool true) (x_pick (k := true) (congrArg Value.bool hb1575) rfl) rfl ?_
                      refine Wl_nil ?_
                      exact ⟨true, Option.some.inj H, ⟨rfl, rfl, rfl, rfl, rfl, trivial⟩, E, S.pick [0, 1] (by decide)⟩
                    · skip
                      refine W_yes (congrArg some hb1575) ?_
                      refine W_v (.int .i64 t1467.2) (x_move rfl) rfl ?_
                      refine W_yes (congrArg some hb1575) ?_
                      refine W_v (.pointer (some ⟨b11, 0, none⟩)) (x_move rfl) rfl ?_
                      refine W_yes (congrArg some hb1575) ?_
                      obtain ⟨t1578, ht1579, H⟩ := bindS H
                      refine W_callF2 fn21 (status_Writers_Last_PO.con k M A815 c816 (⟨x814, x818⟩ : status_Writers) b11 t1578 hg0 ht1579) (Γ1 := [Blk b11 (.cells #[.slice A815 x814.length c816, .int .i64 x818] 47 (0, 0)), Row r_status_writer 49 (.slice A815 x814.length c816) x814]) (Γ2 := []) S rfl rfl (by rintro _ _ _ ⟨rfl, rfl⟩; exact (flat_cons flat_blk (flat_cons (flat_row (fun _ _ _ _ h => h)) flat_nil))) ?_
                      rintro _ w1580 _ Γ' E' S ⟨rfl, rfl⟩
                      replace E := E.trans E'
                      clear E'
                      replace S : St w1580 M F [Blk b11 (.cells #[.slice A815 x814.length c816, .int .i64 x818] 47 (0, 0)), Row r_status_writer 49 (.slice A815 x814.length c816) x814] := S
                      refine W_yes (congrArg some hb1575) ?_
                      refine W_v (.bool (decide (t1467.2 > t1578))) (x_ibin rfl rfl rfl rfl) rfl ?_
                      refine W_v (.bool (decide (t1467.2 > t1578))) (x_pick (k := false) (congrArg Value.bool hb1575) rfl) rfl ?_
                      refine Wl_nil ?_
                      exact ⟨(decide (t1467.2 > t1578)), Option.some.inj H, ⟨rfl, rfl, rfl, rfl, rfl, trivial⟩, E, S.pick [0, 1] (by decide)⟩
                  clear o1577h
                  rintro ρ w1583 ⟨x1576, rfl, hρ, E, S⟩
                  rw [agree_eta hρ]
                  clear hρ
                  have H := o1577H
                  clear o1577H
                  refine Wl_nil ?_
                  refine tn ?_
                  rcases iteS H with ⟨hb1584, H⟩ | ⟨hb1584, H⟩
                  · refine Wp_cond_true (congrArg Value.bool hb1584) ?_
                    refine Wp_seq ?_
                    refine Wp_region_lit ?_
                    refine W_v (.bool false) (x_assign rfl) rfl ?_
                    refine Wl_nil ?_
                    refine tn ?_
                    refine Wp_ret ?_
                    refine br (tr (tr (br (tr (br (tr (tr (br (tr (tr (?_)))))))))))
                    obtain rfl := Option.some.inj H
                    have H := o1556H
                    replace H := elimL H
                    obtain rfl := Option.some.inj H
                    have H := o1459H
                    replace H := elimL H
                    obtain rfl := Option.some.inj H
                    exact ⟨_, _, _, fun w1 e1 => run_resR (vs := [.bool false]) (FA.cons (rfl) (FA.nil)), HM, E, S.pick [] (by decide), ⟨rfl, rfl⟩⟩
                  refine Wp_cond_false (congrArg Value.bool hb1584) ?_
                  refine Wp_skip ?_
                  refine bn ?_
                  refine tn ?_
                  refine Wp_region_lit ?_
                  refine W_v (.int .i64 x1528) (x_move rfl) rfl ?_
                  refine W_v (.int .i64 (IntKind.i64.wrap (x1528 + (1 : Int)))) (x_ibin rfl rfl rfl rfl) rfl ?_
                  refine W_v (.int .i64 (IntKind.i64.wrap (x1528 + (1 : Int)))) (x_assign rfl) rfl ?_
                  refine Wl_nil ?_
                  refine tn ?_
                  exact ⟨k, Nat.lt_succ_self k, ⟨(IntKind.i64.wrap (x1528 + (1 : Int))), H, ⟨rfl, rfl, rfl, rfl, trivial⟩, E, S.pick [0, 1] (by decide)⟩⟩
                refine Wp_cond_false (congrArg Value.bool hb1558) ?_
                refine Wp_exit ?_
                refine tx (tx (bsm (?_)))
                refine tn ?_
                exact ⟨Option.some.inj H, ⟨rfl, rfl, trivial⟩, E, S.pick [0, 1] (by decide)⟩
          clear o1556h
          rintro ρ w1585 ⟨rfl, hρ, E, S⟩
          rw [agree_eta hρ]
          clear hρ
          have H := o1556H
          clear o1556H
          replace H := elimR H
          refine bn ?_
          refine tn ?_
          refine Wp_region_lit ?_
          refine W_v (.int .i64 x1333) (x_move rfl) rfl ?_
          refine W_v (.int .i64 (IntKind.i64.wrap (x1333 + (1 : Int)))) (x_ibin rfl rfl rfl rfl) rfl ?_
          refine W_v (.int .i64 (IntKind.i64.wrap (x1333 + (1 : Int)))) (x_assign rfl) rfl ?_
          refine Wl_nil ?_
          refine tn ?_
          exact ⟨k, Nat.lt_succ_self k, ⟨(IntKind.i64.wrap (x1333 + (1 : Int))), H, ⟨rfl, rfl, trivial⟩, E, S.pick [1, 0] (by decide)⟩⟩
        refine Wp_cond_false (congrArg Value.bool hb1466) ?_
        refine Wp_exit ?_
        refine tx (tx (bsm (?_)))
        refine tn ?_
        exact ⟨Option.some.inj H, trivial, E, S.pick [] (by decide)⟩
  clear o1459h
  rintro ρ w1586 ⟨rfl, hρ, E, S⟩
  rw [agree_eta hρ]
  clear hρ
  have H := o1459H
  clear o1459H
  replace H := elimR H
  refine tn ?_
  refine Wp_seq ?_
  refine Wp_region_lit ?_
  refine W_v (.bool true) (x_assign rfl) rfl ?_
  refine Wl_nil ?_
  refine tn ?_
  refine Wp_ret ?_
  obtain rfl := Option.some.inj H
  exact ⟨_, _, _, fun w1 e1 => run_resR (vs := [.bool true]) (FA.cons (rfl) (FA.nil)), HM, E, S.pick [] (by decide), ⟨rfl, rfl⟩⟩
end Go.Proofs.YtbdelepfpnneoaaDoor
