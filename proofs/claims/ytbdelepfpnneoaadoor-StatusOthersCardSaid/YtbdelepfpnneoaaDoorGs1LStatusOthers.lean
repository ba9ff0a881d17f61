import Derived.Test.YtbdelepfpnneoaaDoorGs1
namespace Go.Proofs.YtbdelepfpnneoaaDoor
open Go
set_option linter.unusedVariables false
set_option linter.unusedSimpArgs false
/-! ### ferryman/ferrymanlaw08.StatusOthers: function 7 -/
def ferrymanlaw08_StatusOthers_l5 (a1 : (List ferrymanlaw08_Step)) (x552 : Int) (t765 : status_Writers) (t785 : Int × Int × status_Writers) : Nat → Int → Option ((Bool) ⊕ (Unit))
  | 0, _ => none
  | k + 1, x877 => (Option.bind (status_Writers_High_PO k t765) (fun t921 => (if (decide (x877 < t921)) = true then (Option.bind (status_Writers_Of_PO k t765 x877) (fun t927 => (if 0 ≤ x552 ∧ x552 < (a1.length : Int) then (Option.bind (α := Bool) (if (x877 != (rd a1 x552).W) = true then (Option.bind (ferrymanlaw08_is_PO k t785.2.2 x877 (IntKind.i64.wrap t927.1) t927.2) (fun t955 => some ((!t955)))) else some (false)) (fun x953 => (if x953 = true then some (.inl false) else ferrymanlaw08_StatusOthers_l5 a1 x552 t765 t785 k (IntKind.i64.wrap (x877 + (1 : Int)))))) else none))) else some (.inr ()))))
set_option maxHeartbeats 2000000 in
theorem ferrymanlaw08_StatusOthers_l5.mono {a1 : (List ferrymanlaw08_Step)} {x552 : Int} {t765 : status_Writers} {t785 : Int × Int × status_Writers} : ∀ {k : Nat} {x0}, OLe (ferrymanlaw08_StatusOthers_l5 a1 x552 t765 t785 k x0) (ferrymanlaw08_StatusOthers_l5 a1 x552 t765 t785 (k + 1) x0) := by
  intro k
  induction k with
  | zero => intros; exact OLe.none
  | succ k ih =>
    intros
    rw [ferrymanlaw08_StatusOthers_l5.eq_2, ferrymanlaw08_StatusOthers_l5.eq_2]
    repeat' (first | with_reducible exact OLe.none | with_reducible exact OLe.some | with_reducible refine OLe.ite ?_ ?_ | with_reducible refine OLe.bind ?_ (fun _ => ?_) | with_reducible exact ferrymanlaw08_is_PO.mono | with_reducible exact status_Writers_High_PO.mono | with_reducible exact status_Writers_Of_PO.mono | exact ih | refine OLe.bind ?_ (fun _ => ?_) | refine OLe.ite ?_ ?_ | refine OLe.elim (fun _ => ?_) (fun _ => ?_) | split)
def ferrymanlaw08_StatusOthers_l7 (a1 : (List ferrymanlaw08_Step)) : Nat → Int → List status_writer → Int → Option ((List status_writer × Int))
  | 0, _, _, _ => none
  | k + 1, x1088, x1089, x1093 => (if (decide (x1088 < (a1.length : Int))) = true then (if 0 ≤ x1088 ∧ x1088 < (a1.length : Int) then (Option.bind (ferrymanlaw08_Step_do_PO k (rd a1 x1088) (⟨x1089, x1093⟩ : status_Writers)) (fun t1131 => ferrymanlaw08_StatusOthers_l7 a1 k (IntKind.i64.wrap (x1088 + (1 : Int))) t1131.2.2.l t1131.2.2.last)) else none) else some (x1089, x1093))
set_option maxHeartbeats 2000000 in
theorem ferrymanlaw08_StatusOthers_l7.mono {a1 : (List ferrymanlaw08_Step)} : ∀ {k : Nat} {x0 x1 x2}, OLe (ferrymanlaw08_StatusOthers_l7 a1 k x0 x1 x2) (ferrymanlaw08_StatusOthers_l7 a1 (k + 1) x0 x1 x2) := by
  intro k
  induction k with
  | zero => intros; exact OLe.none
  | succ k ih =>
    intros
    rw [ferrymanlaw08_StatusOthers_l7.eq_2, ferrymanlaw08_StatusOthers_l7.eq_2]
    repeat' (first | with_reducible exact OLe.none | with_reducible exact OLe.some | with_reducible refine OLe.ite ?_ ?_ | with_reducible refine OLe.bind ?_ (fun _ => ?_) | with_reducible exact ferrymanlaw08_Step_do_PO.mono | exact ih | refine OLe.bind ?_ (fun _ => ?_) | refine OLe.ite ?_ ?_ | refine OLe.elim (fun _ => ?_) (fun _ => ?_) | split)
def ferrymanlaw08_StatusOthers_l6 (x95 : List status_writer) (x99 : Int) (t132 : status_Writers) : Nat → Int → Option ((Bool) ⊕ (Unit))
  | 0, _ => none
  | k + 1, x1000 => (Option.bind (status_Writers_High_PO k (⟨x95, x99⟩ : status_Writers)) (fun t1020 => (if (decide (x1000 ≤ t1020)) = true then (Option.bind (status_Writers_Of_PO k t132 x1000) (fun t1026 => (Option.bind (ferrymanlaw08_is_PO k (⟨x95, x99⟩ : status_Writers) x1000 (IntKind.i64.wrap t1026.1) t1026.2) (fun t1031 => (if (!t1031) = true then some (.inl false) else ferrymanlaw08_StatusOthers_l6 x95 x99 t132 k (IntKind.i64.wrap (x1000 + (1 : Int)))))))) else some (.inr ()))))
set_option maxHeartbeats 2000000 in
theorem ferrymanlaw08_StatusOthers_l6.mono {x95 : List status_writer} {x99 : Int} {t132 : status_Writers} : ∀ {k : Nat} {x0}, OLe (ferrymanlaw08_StatusOthers_l6 x95 x99 t132 k x0) (ferrymanlaw08_StatusOthers_l6 x95 x99 t132 (k + 1) x0) := by
  intro k
  induction k with
  | zero => intros; exact OLe.none
  | succ k ih =>
    intros
    rw [ferrymanlaw08_StatusOthers_l6.eq_2, ferrymanlaw08_StatusOthers_l6.eq_2]
    repeat' (first | with_reducible exact OLe.none | with_reducible exact OLe.some | with_reducible refine OLe.ite ?_ ?_ | with_reducible refine OLe.bind ?_ (fun _ => ?_) | with_reducible exact ferrymanlaw08_is_PO.mono | with_reducible exact status_Writers_High_PO.mono | with_reducible exact status_Writers_Of_PO.mono | exact ih | refine OLe.bind ?_ (fun _ => ?_) | refine OLe.ite ?_ ?_ | refine OLe.elim (fun _ => ?_) (fun _ => ?_) | split)
def ferrymanlaw08_StatusOthers_l3 (a1 : (List ferrymanlaw08_Step)) : Nat → Int → List status_writer → Int → Option ((Bool) ⊕ (List status_writer × Int))
  | 0, _, _, _ => none
  | k + 1, x552, x553, x557 => (if (decide (x552 < (a1.length : Int))) = true then (Option.bind (status_Writers_Copy_PO k (⟨x553, x557⟩ : status_Writers)) (fun t765 => (if 0 ≤ x552 ∧ x552 < (a1.length : Int) then (Option.bind (ferrymanlaw08_Step_do_PO k (rd a1 x552) (⟨x553, x557⟩ : status_Writers)) (fun t785 => (Option.bind (ferrymanlaw08_StatusOthers_l5 a1 x552 t765 t785 k (1 : Int)) (fun o919o => Sum.elim (fun r' => some (.inl r')) (fun _ => ferrymanlaw08_StatusOthers_l3 a1 k (IntKind.i64.wrap (x552 + (1 : Int))) t785.2.2.l t785.2.2.last) o919o)))) else none))) else some (.inr (x553, x557)))
set_option maxHeartbeats 2000000 in
theorem ferrymanlaw08_StatusOthers_l3.mono {a1 : (List ferrymanlaw08_Step)} : ∀ {k : Nat} {x0 x1 x2}, OLe (ferrymanlaw08_StatusOthers_l3 a1 k x0 x1 x2) (ferrymanlaw08_StatusOthers_l3 a1 (k + 1) x0 x1 x2) := by
  intro k
  induction k with
  | zero => intros; exact OLe.none
  | succ k ih =>
    intros
    rw [ferrymanlaw08_StatusOthers_l3.eq_2, ferrymanlaw08_StatusOthers_l3.eq_2]
    repeat' (first | with_reducible exact OLe.none | with_reducible exact OLe.some | with_reducible refine OLe.ite ?_ ?_ | with_reducible refine OLe.bind ?_ (fun _ => ?_) | with_reducible exact ferrymanlaw08_StatusOthers_l5.mono | with_reducible exact ferrymanlaw08_Step_do_PO.mono | with_reducible exact status_Writers_Copy_PO.mono | exact ih | refine OLe.bind ?_ (fun _ => ?_) | refine OLe.ite ?_ ?_ | refine OLe.elim (fun _ => ?_) (fun _ => ?_) | split)
def ferrymanlaw08_StatusOthers_l0 (a0 : (List ferrymanlaw08_Step)) : Nat → Int → List status_writer → Int → Option ((List status_writer × Int))
  | 0, _, _, _ => none
  | k + 1, x70, x71, x75 => (if (decide (x70 < (a0.length : Int))) = true then (if 0 ≤ x70 ∧ x70 < (a0.length : Int) then (Option.bind (ferrymanlaw08_Step_do_PO k (rd a0 x70) (⟨x71, x75⟩ : status_Writers)) (fun t113 => ferrymanlaw08_StatusOthers_l0 a0 k (IntKind.i64.wrap (x70 + (1 : Int))) t113.2.2.l t113.2.2.last)) else none) else some (x71, x75))
set_option maxHeartbeats 2000000 in
theorem ferrymanlaw08_StatusOthers_l0.mono {a0 : (List ferrymanlaw08_Step)} : ∀ {k : Nat} {x0 x1 x2}, OLe (ferrymanlaw08_StatusOthers_l0 a0 k x0 x1 x2) (ferrymanlaw08_StatusOthers_l0 a0 (k + 1) x0 x1 x2) := by
  intro k
  induction k with
  | zero => intros; exact OLe.none
  | succ k ih =>
    intros
    rw [ferrymanlaw08_StatusOthers_l0.eq_2, ferrymanlaw08_StatusOthers_l0.eq_2]
    repeat' (first | with_reducible exact OLe.none | with_reducible exact OLe.some | with_reducible refine OLe.ite ?_ ?_ | with_reducible refine OLe.bind ?_ (fun _ => ?_) | with_reducible exact ferrymanlaw08_Step_do_PO.mono | exact ih | refine OLe.bind ?_ (fun _ => ?_) | refine OLe.ite ?_ ?_ | refine OLe.elim (fun _ => ?_) (fun _ => ?_) | split)
def ferrymanlaw08_StatusOthers (k : Nat) (a0 : (List ferrymanlaw08_Step)) (a1 : (List ferrymanlaw08_Step)) : Option (Bool) :=
  (Option.bind (ferrymanlaw08_works k ) (fun t1 => (if (((!t1) || (decide ((a0.length : Int) > (60 : Int)))) || (decide ((a1.length : Int) > (60 : Int)))) = true then (Option.bind (ferrymanlaw08_works k ) (fun t7 => some t7)) else (Option.bind (status_New k ) (fun t10 => (Option.bind (ferrymanlaw08_StatusOthers_l0 a0 k (0 : Int) t10.l t10.last) (fun ⟨x95, x99⟩ => (Option.bind (status_Writers_Copy_PO k (⟨x95, x99⟩ : status_Writers)) (fun t122 => (Option.bind (status_Writers_Copy_PO k (⟨x95, x99⟩ : status_Writers)) (fun t132 => (Option.bind (ferrymanlaw08_StatusOthers_l3 a1 k (0 : Int) t122.l t122.last) (fun o762o => Sum.elim (fun r' => some r') (fun ⟨x757, x761⟩ => (Option.bind (ferrymanlaw08_StatusOthers_l6 x95 x99 t132 k (0 : Int)) (fun o1018o => Sum.elim (fun r' => some r') (fun _ => (Option.bind (ferrymanlaw08_StatusOthers_l7 a1 k (0 : Int) x95 x99) (fun ⟨x1113, x1117⟩ => (Option.bind (status_Writers_Busy_PO k (⟨x1113, x1117⟩ : status_Writers)) (fun t1140 => (Option.bind (status_Writers_Busy_PO k (⟨x757, x761⟩ : status_Writers)) (fun t1148 => (Option.bind (ferrymanref08_Ints k t1140 t1148) (fun t1156 => (Option.bind (α := Bool) (if t1156 = true then (Option.bind (status_Writers_High_PO k (⟨x1113, x1117⟩ : status_Writers)) (fun t1182 => (Option.bind (status_Writers_High_PO k (⟨x757, x761⟩ : status_Writers)) (fun t1187 => some ((t1182 == t1187)))))) else some (false)) (fun x1180 => (Option.bind (α := Bool) (if x1180 = true then (Option.bind (status_Writers_Last_PO k (⟨x1113, x1117⟩ : status_Writers)) (fun t1216 => (Option.bind (status_Writers_Last_PO k (⟨x757, x761⟩ : status_Writers)) (fun t1221 => some ((t1216 == t1221)))))) else some (false)) (fun x1214 => some x1214))))))))))))) o1018o))) o762o)))))))))))))
set_option maxHeartbeats 2000000 in
theorem ferrymanlaw08_StatusOthers.mono {k : Nat} {a0 : (List ferrymanlaw08_Step)} {a1 : (List ferrymanlaw08_Step)} : OLe (ferrymanlaw08_StatusOthers k a0 a1) (ferrymanlaw08_StatusOthers (k + 1) a0 a1) := by
  unfold ferrymanlaw08_StatusOthers
  repeat' (first | with_reducible exact OLe.none | with_reducible exact OLe.some | with_reducible refine OLe.ite ?_ ?_ | with_reducible refine OLe.bind ?_ (fun _ => ?_) | with_reducible exact ferrymanlaw08_StatusOthers_l0.mono | with_reducible exact ferrymanlaw08_StatusOthers_l3.mono | with_reducible exact ferrymanlaw08_StatusOthers_l6.mono | with_reducible exact ferrymanlaw08_StatusOthers_l7.mono | with_reducible exact ferrymanlaw08_works.mono | with_reducible exact ferrymanref08_Ints.mono | with_reducible exact status_New.mono | with_reducible exact status_Writers_Busy_PO.mono | with_reducible exact status_Writers_Copy_PO.mono | with_reducible exact status_Writers_High_PO.mono | with_reducible exact status_Writers_Last_PO.mono | refine OLe.bind ?_ (fun _ => ?_) | refine OLe.ite ?_ ?_ | refine OLe.elim (fun _ => ?_) (fun _ => ?_) | split)
set_option maxHeartbeats 8000000 in
set_option maxRecDepth 100000 in
theorem ferrymanlaw08_StatusOthers.con (k : Nat) (M : Hp) (A0 : Option Addr) (c0 : Nat) (a0 : (List ferrymanlaw08_Step)) (A1 : Option Addr) (c1 : Nat) (a1 : (List ferrymanlaw08_Step)) (r : Bool) (hr0 : SlR r_ferrymanlaw08_Step M (.slice A0 a0.length c0) a0) (hr1 : SlR r_ferrymanlaw08_Step M (.slice A1 a1.length c1) a1) (hg0 : ∃ gt fr, M 0 = some (.cells #[.int .u8 0, .int .u8 0, .int .u8 1, .int .u8 1, .int .u8 2] gt fr)) (h : ferrymanlaw08_StatusOthers k a0 a1 = some r) : Con Tryd.prog 7 #[.slice A0 a0.length c0, .slice A1 a1.length c1] M [] (fun v M' Γ' => v = .bool r ∧ Γ' = []) := by
  refine con_of_wp Tryd.func7 rfl Tryd.ntmps7 Tryd.results7 rfl ?_
  intro w F rn S hrn
  have E := Ext.refl w
  have HM := Hp.le_refl M
  have H := h
  unfold ferrymanlaw08_StatusOthers at H
  refine Wp_seq ?_
  refine Wp_region_lit ?_
  refine W_v (.bool false) (x_assign rfl) rfl ?_
  refine Wl_nil ?_
  refine tn ?_
  refine Wp_seq ?_
  refine Wp_seq ?_
  refine Wp_region_lit ?_
  obtain ⟨t1, ht2, H⟩ := bindS H
  refine W_callF fn8 (ferrymanlaw08_works.con k M  t1 hg0 ht2) S rfl rfl (by rintro _ _ _ ⟨_, rfl⟩; exact flat_nil) ?_
  rintro _ w3 _ Γ' E' S ⟨rfl, rfl⟩
  replace E := E.trans E'
  clear E'
  refine W_v (.bool (!t1)) (x_not rfl) rfl ?_
  refine W_v (.bool (!t1)) (x_move rfl) rfl ?_
  refine Wl_cutN 4 (fun ρ w' => Agree ρ [(0, .slice A0 a0.length c0), (1, .slice A1 a1.length c1), (24, .bool ((!t1) || (decide ((a0.length : Int) > (60 : Int)))))] ∧ w3 = w') ?_ ?_
  · rcases boolCases (!t1) with hb4 | hb4
    · skip
      refine W_yes (congrArg some hb4) ?_
      refine W_v (.slice A0 a0.length c0) (x_move rfl) rfl ?_
      refine W_yes (congrArg some hb4) ?_
      refine W_v (.int .i64 (a0.length : Int)) (x_len_slice (n := a0.length) Tryd.underlying22 rfl) rfl ?_
      refine W_yes (congrArg some hb4) ?_
      refine W_v (.bool (decide ((a0.length : Int) > (60 : Int)))) (x_ibin rfl rfl rfl rfl) rfl ?_
      refine W_v (.bool (decide ((a0.length : Int) > (60 : Int)))) (x_pick (k := false) (congrArg Value.bool hb4) rfl) rfl ?_
      refine Wl_nil ?_
      exact ⟨⟨rfl, rfl, (by first | rfl | (rw [hb4]; rfl) | (simp only [hb4]; rfl)), trivial⟩, rfl⟩
    · skip
      refine W_no (skF hb4) rfl ?_
      refine W_no (skF hb4) rfl ?_
      refine W_no (skF hb4) rfl ?_
      refine W_v (.bool true) (x_pick (k := true) (congrArg Value.bool hb4) rfl) rfl ?_
      refine Wl_nil ?_
      exact ⟨⟨rfl, rfl, (by first | rfl | (rw [hb4]; rfl) | (simp only [hb4]; rfl)), trivial⟩, rfl⟩
  rintro ρ _ ⟨hρ, rfl⟩
  rw [agree_eta hρ]
  clear hρ
  refine W_v (.bool ((!t1) || (decide ((a0.length : Int) > (60 : Int))))) (x_move rfl) rfl ?_
  refine Wl_cutN 4 (fun ρ w' => Agree ρ [(0, .slice A0 a0.length c0), (1, .slice A1 a1.length c1), (29, .bool (((!t1) || (decide ((a0.length : Int) > (60 : Int)))) || (decide ((a1.length : Int) > (60 : Int)))))] ∧ w3 = w') ?_ ?_
  · rcases boolCases ((!t1) || (decide ((a0.length : Int) > (60 : Int)))) with hb5 | hb5
    · skip
      refine W_yes (congrArg some hb5) ?_
      refine W_v (.slice A1 a1.length c1) (x_move rfl) rfl ?_
      refine W_yes (congrArg some hb5) ?_
      refine W_v (.int .i64 (a1.length : Int)) (x_len_slice (n := a1.length) Tryd.underlying22 rfl) rfl ?_
      refine W_yes (congrArg some hb5) ?_
      refine W_v (.bool (decide ((a1.length : Int) > (60 : Int)))) (x_ibin rfl rfl rfl rfl) rfl ?_
      refine W_v (.bool (decide ((a1.length : Int) > (60 : Int)))) (x_pick (k := false) (congrArg Value.bool hb5) rfl) rfl ?_
      refine Wl_nil ?_
      exact ⟨⟨rfl, rfl, (by first | rfl | (rw [hb5]; rfl) | (simp only [hb5]; rfl)), trivial⟩, rfl⟩
    · skip
      refine W_no (skF hb5) rfl ?_
      refine W_no (skF hb5) rfl ?_
      refine W_no (skF hb5) rfl ?_
      refine W_v (.bool true) (x_pick (k := true) (congrArg Value.bool hb5) rfl) rfl ?_
      refine Wl_nil ?_
      exact ⟨⟨rfl, rfl, (by first | rfl | (rw [hb5]; rfl) | (simp only [hb5]; rfl)), trivial⟩, rfl⟩
  rintro ρ _ ⟨hρ, rfl⟩
  rw [agree_eta hρ]
  clear hρ
  refine Wl_nil ?_
  refine tn ?_
  rcases iteS H with ⟨hb6, H⟩ | ⟨hb6, H⟩
  · refine Wp_cond_true (congrArg Value.bool hb6) ?_
    refine Wp_seq ?_
    refine Wp_region_lit ?_
    obtain ⟨t7, ht8, H⟩ := bindS H
    refine W_callF fn8 (ferrymanlaw08_works.con k M  t7 hg0 ht8) S rfl rfl (by rintro _ _ _ ⟨_, rfl⟩; exact flat_nil) ?_
    rintro _ w9 _ Γ' E' S ⟨rfl, rfl⟩
    replace E := E.trans E'
    clear E'
    refine W_v (.bool t7) (x_assign rfl) rfl ?_
    refine Wl_nil ?_
    refine tn ?_
    refine Wp_ret ?_
    refine tr (?_)
    obtain rfl := Option.some.inj H
    exact ⟨_, _, _, fun w1 e1 => run_resR (vs := [.bool t7]) (FA.cons (rfl) (FA.nil)), HM, E, S.pick [] (by decide), ⟨rfl, rfl⟩⟩
  refine Wp_cond_false (congrArg Value.bool hb6) ?_
  refine Wp_skip ?_
  refine tn ?_
  refine Wp_seq ?_
  refine Wp_region_lit ?_
  obtain ⟨t10, ht11, H⟩ := bindS H
  refine W_callF2 fn9 (status_New.con k M  t10 hg0 ht11) (Γ1 := []) (Γ2 := []) S rfl rfl (by rintro _ _ _ ⟨_, _, _, rfl, rfl⟩; exact (flat_cons flat_blk (flat_cons (flat_row (fun _ _ _ _ h => h)) flat_nil))) ?_
  rintro _ w17 _ Γ' E' S ⟨b12, A14, c15, rfl, rfl⟩
  replace E := E.trans E'
  clear E'
  replace S : St w17 M F [Blk b12 (.cells #[.slice A14 t10.l.length c15, .int .i64 t10.last] 47 (0, 0)), Row r_status_writer 49 (.slice A14 t10.l.length c15) t10.l] := S
  refine W_v (.pointer (some ⟨b12, 0, none⟩)) (x_assign rfl) rfl ?_
  refine Wl_nil ?_
  refine tn ?_
  refine Wp_seq ?_
  refine Wp_seq ?_
  refine Wp_region_lit ?_
  refine W_v (.int .i64 0) (x_assign rfl) rfl ?_
  refine Wl_nil ?_
  refine tn ?_
  obtain ⟨o100, o100h, o100H⟩ := bindS H
  clear H
  refine Wp_blockJ (fun ρ w' => ∃ (x95 : List status_writer) (x99 : Int) (A96 : Option Addr) (c97 : Nat), (x95, x99) = o100 ∧ Agree ρ [(1, .slice A1 a1.length c1), (5, .pointer (some ⟨b12, 0, none⟩))] ∧ Ext w w' ∧ St w' M F [Row r_status_writer 49 (.slice A96 x95.length c97) x95, Blk b12 (.cells #[.slice A96 x95.length c97, .int .i64 x99] 47 (0, 0))]) ?_ ?_
  · skip
    refine Wp_loop (fun n ρ w' => ∃ (x70 : Int) (x71 : List status_writer) (x75 : Int) (A72 : Option Addr) (c73 : Nat), ferrymanlaw08_StatusOthers_l0 a0 n x70 x71 x75 = some o100 ∧ Agree ρ [(0, .slice A0 a0.length c0), (1, .slice A1 a1.length c1), (5, .pointer (some ⟨b12, 0, none⟩)), (6, .int .i64 x70)] ∧ Ext w w' ∧ St w' M F [Row r_status_writer 49 (.slice A72 x71.length c73) x71, Blk b12 (.cells #[.slice A72 x71.length c73, .int .i64 x75] 47 (0, 0))]) k ?_ ?_
    · skip
      exact ⟨(0 : Int), t10.l, t10.last, A14, c15, o100h, ⟨rfl, rfl, rfl, rfl, trivial⟩, E, S.pick [1, 0] (by decide)⟩
    · intro n
      rintro ρ w101 ⟨x70, x71, x75, A72, c73, H, hρ, E, S⟩
      rw [agree_eta hρ]
      clear hρ
      cases n with
      | zero => cases H
      | succ k =>
        rw [ferrymanlaw08_StatusOthers_l0.eq_2] at H
        refine Wp_seq ?_
        refine Wp_seq ?_
        refine Wp_region_lit ?_
        refine W_v (.int .i64 x70) (x_move rfl) rfl ?_
        refine W_v (.slice A0 a0.length c0) (x_move rfl) rfl ?_
        refine W_v (.int .i64 (a0.length : Int)) (x_len_slice (n := a0.length) Tryd.underlying22 rfl) rfl ?_
        refine W_v (.bool (decide (x70 < (a0.length : Int)))) (x_ibin rfl rfl rfl rfl) rfl ?_
        refine Wl_nil ?_
        refine tn ?_
        rcases iteS H with ⟨hb102, H⟩ | ⟨hb102, H⟩
        · refine Wp_cond_true (congrArg Value.bool hb102) ?_
          refine Wp_skip ?_
          refine tn ?_
          refine Wp_seq ?_
          refine Wp_block ?_
          refine Wp_region_lit ?_
          refine W_v (.slice A0 a0.length c0) (x_move rfl) rfl ?_
          refine W_v (.int .i64 x70) (x_move rfl) rfl ?_
          obtain ⟨⟨p103, p104⟩, H⟩ := chkS H
          obtain ⟨b105, o106, cs107, _, _, ee112, hb108, vs109, hR110, hc111⟩ := SlW.at' hr0 p103 p104
          obtain rfl : vs109 = _ := hR110
          refine W_v (.pointer (some ⟨b105, o106 + x70.toNat * 3, none⟩)) (x_indexAddr Tryd.underlying22 ty30 (slA ee112) rfl p103 p104) rfl ?_
          refine W_v (.agg #[.int .u8 ((rd a0 x70).What), .int .i64 ((rd a0 x70).W), .int .i64 ((rd a0 x70).TS)]) (x_loadA (S.frz hb108) ty30 rfl (sub_el hc111 0 rfl) rfl rfl) rfl ?_
          refine W_v (.pointer (some ⟨b12, 0, none⟩)) (x_move rfl) rfl ?_
          obtain ⟨t113, ht114, H⟩ := bindS H
          replace S : St w101 M F [Blk b12 (.cells #[.slice A72 x71.length c73, .int .i64 x75] 47 (0, 0)), Row r_status_writer 49 (.slice A72 x71.length c73) x71] := S.pick [1, 0] (by decide)
          refine W_callF2 fn11 (ferrymanlaw08_Step_do_PO.con k M (rd a0 x70) A72 c73 (⟨x71, x75⟩ : status_Writers) b12 t113 hg0 ht114) (Γ1 := [Blk b12 (.cells #[.slice A72 x71.length c73, .int .i64 x75] 47 (0, 0)), Row r_status_writer 49 (.slice A72 x71.length c73) x71]) (Γ2 := []) S rfl rfl (by rintro _ _ _ ⟨_, _, rfl, rfl⟩; exact (flat_cons flat_blk (flat_cons (flat_row (fun _ _ _ _ h => h)) flat_nil))) ?_
          rintro _ w118 _ Γ' E' S ⟨A115, c116, rfl, rfl⟩
          replace E := E.trans E'
          clear E'
          replace S : St w118 M F [Blk b12 (.cells #[.slice A115 t113.2.2.l.length c116, .int .i64 t113.2.2.last] 47 (0, 0)), Row r_status_writer 49 (.slice A115 t113.2.2.l.length c116) t113.2.2.l] := S
          refine Wl_nil ?_
          refine bn ?_
          refine tn ?_
          refine Wp_region_lit ?_
          refine W_v (.int .i64 x70) (x_move rfl) rfl ?_
          refine W_v (.int .i64 (IntKind.i64.wrap (x70 + (1 : Int)))) (x_ibin rfl rfl rfl rfl) rfl ?_
          refine W_v (.int .i64 (IntKind.i64.wrap (x70 + (1 : Int)))) (x_assign rfl) rfl ?_
          refine Wl_nil ?_
          refine tn ?_
          exact ⟨k, Nat.lt_succ_self k, ⟨(IntKind.i64.wrap (x70 + (1 : Int))), t113.2.2.l, t113.2.2.last, A115, c116, H, ⟨rfl, rfl, rfl, rfl, trivial⟩, E, S.pick [1, 0] (by decide)⟩⟩
        refine Wp_cond_false (congrArg Value.bool hb102) ?_
        refine Wp_exit ?_
        refine tx (tx (bsm (?_)))
        refine tn ?_
        exact ⟨x71, x75, A72, c73, Option.some.inj H, ⟨rfl, rfl, trivial⟩, E, S.pick [0, 1] (by decide)⟩
  clear o100h
  rintro ρ w121 ⟨x95, x99, A96, c97, rfl, hρ, E, S⟩
  rw [agree_eta hρ]
  clear hρ
  have H := o100H
  clear o100H
  refine tn ?_
  refine Wp_seq ?_
  refine Wp_region_lit ?_
  refine W_v (.pointer (some ⟨b12, 0, none⟩)) (x_move rfl) rfl ?_
  obtain ⟨t122, ht123, H⟩ := bindS H
  replace S : St w121 M F [Blk b12 (.cells #[.slice A96 x95.length c97, .int .i64 x99] 47 (0, 0)), Row r_status_writer 49 (.slice A96 x95.length c97) x95] := S.pick [1, 0] (by decide)
  refine W_callF2 fn22 (status_Writers_Copy_PO.con k M A96 c97 (⟨x95, x99⟩ : status_Writers) b12 t122 hg0 ht123) (Γ1 := [Blk b12 (.cells #[.slice A96 x95.length c97, .int .i64 x99] 47 (0, 0)), Row r_status_writer 49 (.slice A96 x95.length c97) x95]) (Γ2 := []) S rfl rfl (by rintro _ _ _ ⟨_, _, _, rfl, rfl⟩; exact (flat_cons flat_blk (flat_cons (flat_row (fun _ _ _ _ h => h)) (flat_cons flat_blk (flat_cons (flat_row (fun _ _ _ _ h => h)) flat_nil))))) ?_
  rintro _ w129 _ Γ' E' S ⟨b124, A126, c127, rfl, rfl⟩
  replace E := E.trans E'
  clear E'
  replace S : St w129 M F [Blk b124 (.cells #[.slice A126 t122.l.length c127, .int .i64 t122.last] 47 (0, 0)), Row r_status_writer 49 (.slice A126 t122.l.length c127) t122.l, Blk b12 (.cells #[.slice A96 x95.length c97, .int .i64 x99] 47 (0, 0)), Row r_status_writer 49 (.slice A96 x95.length c97) x95] := S
  refine W_v (.pointer (some ⟨b12, 0, none⟩)) (x_move rfl) rfl ?_
  obtain ⟨t132, ht133, H⟩ := bindS H
  replace S : St w129 M F [Blk b12 (.cells #[.slice A96 x95.length c97, .int .i64 x99] 47 (0, 0)), Row r_status_writer 49 (.slice A96 x95.length c97) x95, Blk b124 (.cells #[.slice A126 t122.l.length c127, .int .i64 t122.last] 47 (0, 0)), Row r_status_writer 49 (.slice A126 t122.l.length c127) t122.l] := S.pick [2, 3, 0, 1] (by decide)
  refine W_callF2 fn22 (status_Writers_Copy_PO.con k M A96 c97 (⟨x95, x99⟩ : status_Writers) b12 t132 hg0 ht133) (Γ1 := [Blk b12 (.cells #[.slice A96 x95.length c97, .int .i64 x99] 47 (0, 0)), Row r_status_writer 49 (.slice A96 x95.length c97) x95]) (Γ2 := [Blk b124 (.cells #[.slice A126 t122.l.length c127, .int .i64 t122.last] 47 (0, 0)), Row r_status_writer 49 (.slice A126 t122.l.length c127) t122.l]) S rfl rfl (by rintro _ _ _ ⟨_, _, _, rfl, rfl⟩; exact (flat_cons flat_blk (flat_cons (flat_row (fun _ _ _ _ h => h)) (flat_cons flat_blk (flat_cons (flat_row (fun _ _ _ _ h => h)) flat_nil))))) ?_
  rintro _ w139 _ Γ' E' S ⟨b134, A136, c137, rfl, rfl⟩
  replace E := E.trans E'
  clear E'
  replace S : St w139 M F [Blk b134 (.cells #[.slice A136 t132.l.length c137, .int .i64 t132.last] 47 (0, 0)), Row r_status_writer 49 (.slice A136 t132.l.length c137) t132.l, Blk b12 (.cells #[.slice A96 x95.length c97, .int .i64 x99] 47 (0, 0)), Row r_status_writer 49 (.slice A96 x95.length c97) x95, Blk b124 (.cells #[.slice A126 t122.l.length c127, .int .i64 t122.last] 47 (0, 0)), Row r_status_writer 49 (.slice A126 t122.l.length c127) t122.l] := S
  refine W_v (.pointer (some ⟨b124, 0, none⟩)) (x_assign rfl) rfl ?_
  refine W_v (.pointer (some ⟨b134, 0, none⟩)) (x_assign rfl) rfl ?_
  refine Wl_nil ?_
  refine tn ?_
  refine Wp_seq ?_
  refine Wp_seq ?_
  refine Wp_region_lit ?_
  refine W_v (.int .i64 0) (x_assign rfl) rfl ?_
  refine Wl_nil ?_
  refine tn ?_
  obtain ⟨o762, o762h, o762H⟩ := bindS H
  clear H
  refine Wp_blockJ (fun ρ w' => ∃ (x757 : List status_writer) (x761 : Int) (A758 : Option Addr) (c759 : Nat), .inr (x757, x761) = o762 ∧ Agree ρ [(1, .slice A1 a1.length c1), (5, .pointer (some ⟨b12, 0, none⟩)), (7, .pointer (some ⟨b124, 0, none⟩)), (8, .pointer (some ⟨b134, 0, none⟩))] ∧ Ext w w' ∧ St w' M F [Row r_status_writer 49 (.slice A758 x757.length c759) x757, Blk b134 (.cells #[.slice A136 t132.l.length c137, .int .i64 t132.last] 47 (0, 0)), Row r_status_writer 49 (.slice A136 t132.l.length c137) t132.l, Blk b12 (.cells #[.slice A96 x95.length c97, .int .i64 x99] 47 (0, 0)), Row r_status_writer 49 (.slice A96 x95.length c97) x95, Blk b124 (.cells #[.slice A758 x757.length c759, .int .i64 x761] 47 (0, 0))]) ?_ ?_
  · skip
    refine Wp_loop (fun n ρ w' => ∃ (x552 : Int) (x553 : List status_writer) (x557 : Int) (A554 : Option Addr) (c555 : Nat), ferrymanlaw08_StatusOthers_l3 a1 n x552 x553 x557 = some o762 ∧ Agree ρ [(1, .slice A1 a1.length c1), (5, .pointer (some ⟨b12, 0, none⟩)), (7, .pointer (some ⟨b124, 0, none⟩)), (8, .pointer (some ⟨b134, 0, none⟩)), (9, .int .i64 x552)] ∧ Ext w w' ∧ St w' M F [Row r_status_writer 49 (.slice A554 x553.length c555) x553, Blk b134 (.cells #[.slice A136 t132.l.length c137, .int .i64 t132.last] 47 (0, 0)), Row r_status_writer 49 (.slice A136 t132.l.length c137) t132.l, Blk b12 (.cells #[.slice A96 x95.length c97, .int .i64 x99] 47 (0, 0)), Row r_status_writer 49 (.slice A96 x95.length c97) x95, Blk b124 (.cells #[.slice A554 x553.length c555, .int .i64 x557] 47 (0, 0))]) k ?_ ?_
    · skip
      exact ⟨(0 : Int), t122.l, t122.last, A126, c127, o762h, ⟨rfl, rfl, rfl, rfl, rfl, trivial⟩, E, S.pick [5, 0, 1, 2, 3, 4] (by decide)⟩
    · intro n
      rintro ρ w763 ⟨x552, x553, x557, A554, c555, H, hρ, E, S⟩
      rw [agree_eta hρ]
      clear hρ
      cases n with
      | zero => cases H
      | succ k =>
        rw [ferrymanlaw08_StatusOthers_l3.eq_2] at H
        refine Wp_seq ?_
        refine Wp_seq ?_
        refine Wp_region_lit ?_
        refine W_v (.int .i64 x552) (x_move rfl) rfl ?_
        refine W_v (.slice A1 a1.length c1) (x_move rfl) rfl ?_
        refine W_v (.int .i64 (a1.length : Int)) (x_len_slice (n := a1.length) Tryd.underlying22 rfl) rfl ?_
        refine W_v (.bool (decide (x552 < (a1.length : Int)))) (x_ibin rfl rfl rfl rfl) rfl ?_
        refine Wl_nil ?_
        refine tn ?_
        rcases iteS H with ⟨hb764, H⟩ | ⟨hb764, H⟩
        · refine Wp_cond_true (congrArg Value.bool hb764) ?_
          refine Wp_skip ?_
          refine tn ?_
          refine Wp_seq ?_
          refine Wp_block ?_
          refine Wp_seq ?_
          refine Wp_region_lit ?_
          refine W_v (.pointer (some ⟨b124, 0, none⟩)) (x_move rfl) rfl ?_
          obtain ⟨t765, ht766, H⟩ := bindS H
          replace S : St w763 M F [Blk b124 (.cells #[.slice A554 x553.length c555, .int .i64 x557] 47 (0, 0)), Row r_status_writer 49 (.slice A554 x553.length c555) x553, Blk b134 (.cells #[.slice A136 t132.l.length c137, .int .i64 t132.last] 47 (0, 0)), Row r_status_writer 49 (.slice A136 t132.l.length c137) t132.l, Blk b12 (.cells #[.slice A96 x95.length c97, .int .i64 x99] 47 (0, 0)), Row r_status_writer 49 (.slice A96 x95.length c97) x95] := S.pick [5, 0, 1, 2, 3, 4] (by decide)
          refine W_callF2 fn22 (status_Writers_Copy_PO.con k M A554 c555 (⟨x553, x557⟩ : status_Writers) b124 t765 hg0 ht766) (Γ1 := [Blk b124 (.cells #[.slice A554 x553.length c555, .int .i64 x557] 47 (0, 0)), Row r_status_writer 49 (.slice A554 x553.length c555) x553]) (Γ2 := [Blk b134 (.cells #[.slice A136 t132.l.length c137, .int .i64 t132.last] 47 (0, 0)), Row r_status_writer 49 (.slice A136 t132.l.length c137) t132.l, Blk b12 (.cells #[.slice A96 x95.length c97, .int .i64 x99] 47 (0, 0)), Row r_status_writer 49 (.slice A96 x95.length c97) x95]) S rfl rfl (by rintro _ _ _ ⟨_, _, _, rfl, rfl⟩; exact (flat_cons flat_blk (flat_cons (flat_row (fun _ _ _ _ h => h)) (flat_cons flat_blk (flat_cons (flat_row (fun _ _ _ _ h => h)) flat_nil))))) ?_
          rintro _ w772 _ Γ' E' S ⟨b767, A769, c770, rfl, rfl⟩
          replace E := E.trans E'
          clear E'
          replace S : St w772 M F [Blk b767 (.cells #[.slice A769 t765.l.length c770, .int .i64 t765.last] 47 (0, 0)), Row r_status_writer 49 (.slice A769 t765.l.length c770) t765.l, Blk b124 (.cells #[.slice A554 x553.length c555, .int .i64 x557] 47 (0, 0)), Row r_status_writer 49 (.slice A554 x553.length c555) x553, Blk b134 (.cells #[.slice A136 t132.l.length c137, .int .i64 t132.last] 47 (0, 0)), Row r_status_writer 49 (.slice A136 t132.l.length c137) t132.l, Blk b12 (.cells #[.slice A96 x95.length c97, .int .i64 x99] 47 (0, 0)), Row r_status_writer 49 (.slice A96 x95.length c97) x95] := S
          refine W_v (.pointer (some ⟨b767, 0, none⟩)) (x_assign rfl) rfl ?_
          refine Wl_nil ?_
          refine tn ?_
          refine Wp_seq ?_
          refine Wp_region_lit ?_
          refine W_v (.slice A1 a1.length c1) (x_move rfl) rfl ?_
          refine W_v (.int .i64 x552) (x_move rfl) rfl ?_
          obtain ⟨⟨p775, p776⟩, H⟩ := chkS H
          obtain ⟨b777, o778, cs779, _, _, ee784, hb780, vs781, hR782, hc783⟩ := SlW.at' hr1 p775 p776
          obtain rfl : vs781 = _ := hR782
          refine W_v (.pointer (some ⟨b777, o778 + x552.toNat * 3, none⟩)) (x_indexAddr Tryd.underlying22 ty30 (slA ee784) rfl p775 p776) rfl ?_
          refine W_v (.agg #[.int .u8 ((rd a1 x552).What), .int .i64 ((rd a1 x552).W), .int .i64 ((rd a1 x552).TS)]) (x_loadA (S.frz hb780) ty30 rfl (sub_el hc783 0 rfl) rfl rfl) rfl ?_
          refine W_v (.pointer (some ⟨b124, 0, none⟩)) (x_move rfl) rfl ?_
          obtain ⟨t785, ht786, H⟩ := bindS H
          replace S : St w772 M F [Blk b124 (.cells #[.slice A554 x553.length c555, .int .i64 x557] 47 (0, 0)), Row r_status_writer 49 (.slice A554 x553.length c555) x553, Blk b767 (.cells #[.slice A769 t765.l.length c770, .int .i64 t765.last] 47 (0, 0)), Row r_status_writer 49 (.slice A769 t765.l.length c770) t765.l, Blk b134 (.cells #[.slice A136 t132.l.length c137, .int .i64 t132.last] 47 (0, 0)), Row r_status_writer 49 (.slice A136 t132.l.length c137) t132.l, Blk b12 (.cells #[.slice A96 x95.length c97, .int .i64 x99] 47 (0, 0)), Row r_status_writer 49 (.slice A96 x95.length c97) x95] := S.pick [2, 3, 0, 1, 4, 5, 6, 7] (by decide)
          refine W_callF2 fn11 (ferrymanlaw08_Step_do_PO.con k M (rd a1 x552) A554 c555 (⟨x553, x557⟩ : status_Writers) b124 t785 hg0 ht786) (Γ1 := [Blk b124 (.cells #[.slice A554 x553.length c555, .int .i64 x557] 47 (0, 0)), Row r_status_writer 49 (.slice A554 x553.length c555) x553]) (Γ2 := [Blk b767 (.cells #[.slice A769 t765.l.length c770, .int .i64 t765.last] 47 (0, 0)), Row r_status_writer 49 (.slice A769 t765.l.length c770) t765.l, Blk b134 (.cells #[.slice A136 t132.l.length c137, .int .i64 t132.last] 47 (0, 0)), Row r_status_writer 49 (.slice A136 t132.l.length c137) t132.l, Blk b12 (.cells #[.slice A96 x95.length c97, .int .i64 x99] 47 (0, 0)), Row r_status_writer 49 (.slice A96 x95.length c97) x95]) S rfl rfl (by rintro _ _ _ ⟨_, _, rfl, rfl⟩; exact (flat_cons flat_blk (flat_cons (flat_row (fun _ _ _ _ h => h)) flat_nil))) ?_
          rintro _ w790 _ Γ' E' S ⟨A787, c788, rfl, rfl⟩
          replace E := E.trans E'
          clear E'
          replace S : St w790 M F [Blk b124 (.cells #[.slice A787 t785.2.2.l.length c788, .int .i64 t785.2.2.last] 47 (0, 0)), Row r_status_writer 49 (.slice A787 t785.2.2.l.length c788) t785.2.2.l, Blk b767 (.cells #[.slice A769 t765.l.length c770, .int .i64 t765.last] 47 (0, 0)), Row r_status_writer 49 (.slice A769 t765.l.length c770) t765.l, Blk b134 (.cells #[.slice A136 t132.l.length c137, .int .i64 t132.last] 47 (0, 0)), Row r_status_writer 49 (.slice A136 t132.l.length c137) t132.l, Blk b12 (.cells #[.slice A96 x95.length c97, .int .i64 x99] 47 (0, 0)), Row r_status_writer 49 (.slice A96 x95.length c97) x95] := S
          refine Wl_nil ?_
          refine tn ?_
          refine Wp_seq ?_
          refine Wp_region_lit ?_
          refine W_v (.int .i64 1) (x_assign rfl) rfl ?_
          refine Wl_nil ?_
          refine tn ?_
          obtain ⟨o919, o919h, o919H⟩ := bindS H
          clear H
          refine Wp_blockJ (fun ρ w' => .inr () = o919 ∧ Agree ρ [(1, .slice A1 a1.length c1), (5, .pointer (some ⟨b12, 0, none⟩)), (7, .pointer (some ⟨b124, 0, none⟩)), (8, .pointer (some ⟨b134, 0, none⟩)), (9, .int .i64 x552)] ∧ Ext w w' ∧ St w' M F [Blk b124 (.cells #[.slice A787 t785.2.2.l.length c788, .int .i64 t785.2.2.last] 47 (0, 0)), Row r_status_writer 49 (.slice A787 t785.2.2.l.length c788) t785.2.2.l, Blk b134 (.cells #[.slice A136 t132.l.length c137, .int .i64 t132.last] 47 (0, 0)), Row r_status_writer 49 (.slice A136 t132.l.length c137) t132.l, Blk b12 (.cells #[.slice A96 x95.length c97, .int .i64 x99] 47 (0, 0)), Row r_status_writer 49 (.slice A96 x95.length c97) x95]) ?_ ?_
          · skip
            refine Wp_loop (fun n ρ w' => ∃ (x877 : Int), ferrymanlaw08_StatusOthers_l5 a1 x552 t765 t785 n x877 = some o919 ∧ Agree ρ [(1, .slice A1 a1.length c1), (5, .pointer (some ⟨b12, 0, none⟩)), (7, .pointer (some ⟨b124, 0, none⟩)), (8, .pointer (some ⟨b134, 0, none⟩)), (9, .int .i64 x552), (10, .pointer (some ⟨b767, 0, none⟩)), (11, .int .i64 x877)] ∧ Ext w w' ∧ St w' M F [Blk b124 (.cells #[.slice A787 t785.2.2.l.length c788, .int .i64 t785.2.2.last] 47 (0, 0)), Row r_status_writer 49 (.slice A787 t785.2.2.l.length c788) t785.2.2.l, Blk b767 (.cells #[.slice A769 t765.l.length c770, .int .i64 t765.last] 47 (0, 0)), Row r_status_writer 49 (.slice A769 t765.l.length c770) t765.l, Blk b134 (.cells #[.slice A136 t132.l.length c137, .int .i64 t132.last] 47 (0, 0)), Row r_status_writer 49 (.slice A136 t132.l.length c137) t132.l, Blk b12 (.cells #[.slice A96 x95.length c97, .int .i64 x99] 47 (0, 0)), Row r_status_writer 49 (.slice A96 x95.length c97) x95]) k ?_ ?_
            · skip
              exact ⟨(1 : Int), o919h, ⟨rfl, rfl, rfl, rfl, rfl, rfl, rfl, trivial⟩, E, S.pick [0, 1, 2, 3, 4, 5, 6, 7] (by decide)⟩
            · intro n
              rintro ρ w920 ⟨x877, H, hρ, E, S⟩
              rw [agree_eta hρ]
              clear hρ
              cases n with
              | zero => cases H
              | succ k =>
                rw [ferrymanlaw08_StatusOthers_l5.eq_2] at H
                refine Wp_seq ?_
                refine Wp_seq ?_
                refine Wp_region_lit ?_
                refine W_v (.int .i64 x877) (x_move rfl) rfl ?_
                refine W_v (.pointer (some ⟨b767, 0, none⟩)) (x_move rfl) rfl ?_
                obtain ⟨t921, ht922, H⟩ := bindS H
                replace S : St w920 M F [Blk b767 (.cells #[.slice A769 t765.l.length c770, .int .i64 t765.last] 47 (0, 0)), Row r_status_writer 49 (.slice A769 t765.l.length c770) t765.l, Blk b124 (.cells #[.slice A787 t785.2.2.l.length c788, .int .i64 t785.2.2.last] 47 (0, 0)), Row r_status_writer 49 (.slice A787 t785.2.2.l.length c788) t785.2.2.l, Blk b134 (.cells #[.slice A136 t132.l.length c137, .int .i64 t132.last] 47 (0, 0)), Row r_status_writer 49 (.slice A136 t132.l.length c137) t132.l, Blk b12 (.cells #[.slice A96 x95.length c97, .int .i64 x99] 47 (0, 0)), Row r_status_writer 49 (.slice A96 x95.length c97) x95] := S.pick [2, 3, 0, 1, 4, 5, 6, 7] (by decide)
                refine W_callF2 fn10 (status_Writers_High_PO.con k M A769 c770 t765 b767 t921 hg0 ht922) (Γ1 := [Blk b767 (.cells #[.slice A769 t765.l.length c770, .int .i64 t765.last] 47 (0, 0)), Row r_status_writer 49 (.slice A769 t765.l.length c770) t765.l]) (Γ2 := [Blk b124 (.cells #[.slice A787 t785.2.2.l.length c788, .int .i64 t785.2.2.last] 47 (0, 0)), Row r_status_writer 49 (.slice A787 t785.2.2.l.length c788) t785.2.2.l, Blk b134 (.cells #[.slice A136 t132.l.length c137, .int .i64 t132.last] 47 (0, 0)), Row r_status_writer 49 (.slice A136 t132.l.length c137) t132.l, Blk b12 (.cells #[.slice A96 x95.length c97, .int .i64 x99] 47 (0, 0)), Row r_status_writer 49 (.slice A96 x95.length c97) x95]) S rfl rfl (by rintro _ _ _ ⟨rfl, rfl⟩; exact (flat_cons flat_blk (flat_cons (flat_row (fun _ _ _ _ h => h)) flat_nil))) ?_
                rintro _ w923 _ Γ' E' S ⟨rfl, rfl⟩
                replace E := E.trans E'
                clear E'
                replace S : St w923 M F [Blk b767 (.cells #[.slice A769 t765.l.length c770, .int .i64 t765.last] 47 (0, 0)), Row r_status_writer 49 (.slice A769 t765.l.length c770) t765.l, Blk b124 (.cells #[.slice A787 t785.2.2.l.length c788, .int .i64 t785.2.2.last] 47 (0, 0)), Row r_status_writer 49 (.slice A787 t785.2.2.l.length c788) t785.2.2.l, Blk b134 (.cells #[.slice A136 t132.l.length c137, .int .i64 t132.last] 47 (0, 0)), Row r_status_writer 49 (.slice A136 t132.l.length c137) t132.l, Blk b12 (.cells #[.slice A96 x95.length c97, .int .i64 x99] 47 (0, 0)), Row r_status_writer 49 (.slice A96 x95.length c97) x95] := S
                refine W_v (.bool (decide (x877 < t921))) (x_ibin rfl rfl rfl rfl) rfl ?_
                refine Wl_nil ?_
                refine tn ?_
                rcases iteS H with ⟨hb926, H⟩ | ⟨hb926, H⟩
                · refine Wp_cond_true (congrArg Value.bool hb926) ?_
                  refine Wp_skip ?_
                  refine tn ?_
                  refine Wp_seq ?_
                  refine Wp_block ?_
                  refine Wp_seq ?_
                  refine Wp_region_lit ?_
                  refine W_v (.pointer (some ⟨b767, 0, none⟩)) (x_move rfl) rfl ?_
                  refine W_v (.int .i64 x877) (x_move rfl) rfl ?_
                  obtain ⟨t927, ht928, H⟩ := bindS H
                  refine W_callF2 fn12 (status_Writers_Of_PO.con k M A769 c770 t765 x877 b767 t927 hg0 ht928) (Γ1 := [Blk b767 (.cells #[.slice A769 t765.l.length c770, .int .i64 t765.last] 47 (0, 0)), Row r_status_writer 49 (.slice A769 t765.l.length c770) t765.l]) (Γ2 := [Blk b124 (.cells #[.slice A787 t785.2.2.l.length c788, .int .i64 t785.2.2.last] 47 (0, 0)), Row r_status_writer 49 (.slice A787 t785.2.2.l.length c788) t785.2.2.l, Blk b134 (.cells #[.slice A136 t132.l.length c137, .int .i64 t132.last] 47 (0, 0)), Row r_status_writer 49 (.slice A136 t132.l.length c137) t132.l, Blk b12 (.cells #[.slice A96 x95.length c97, .int .i64 x99] 47 (0, 0)), Row r_status_writer 49 (.slice A96 x95.length c97) x95]) S rfl rfl (by rintro _ _ _ ⟨rfl, rfl⟩; exact (flat_cons flat_blk (flat_cons (flat_row (fun _ _ _ _ h => h)) flat_nil))) ?_
                  rintro _ w929 _ Γ' E' S ⟨rfl, rfl⟩
                  replace E := E.trans E'
                  clear E'
                  replace S : St w929 M F [Blk b767 (.cells #[.slice A769 t765.l.length c770, .int .i64 t765.last] 47 (0, 0)), Row r_status_writer 49 (.slice A769 t765.l.length c770) t765.l, Blk b124 (.cells #[.slice A787 t785.2.2.l.length c788, .int .i64 t785.2.2.last] 47 (0, 0)), Row r_status_writer 49 (.slice A787 t785.2.2.l.length c788) t785.2.2.l, Blk b134 (.cells #[.slice A136 t132.l.length c137, .int .i64 t132.last] 47 (0, 0)), Row r_status_writer 49 (.slice A136 t132.l.length c137) t132.l, Blk b12 (.cells #[.slice A96 x95.length c97, .int .i64 x99] 47 (0, 0)), Row r_status_writer 49 (.slice A96 x95.length c97) x95] := S
                  refine W_v (.tuple #[.int .u8 t927.1, .int .i64 t927.2]) (x_move rfl) rfl ?_
                  refine W_v (.int .u8 t927.1) (x_extract rfl rfl) rfl ?_
                  refine W_v (.int .i64 t927.2) (x_extract rfl rfl) rfl ?_
                  refine W_v (.int .u8 t927.1) (x_assign rfl) rfl ?_
                  refine W_v (.int .i64 t927.2) (x_assign rfl) rfl ?_
                  refine Wl_nil ?_
                  refine tn ?_
                  refine Wp_seq ?_
                  refine Wp_region_lit ?_
                  refine W_v (.int .i64 x877) (x_move rfl) rfl ?_
                  refine W_v (.slice A1 a1.length c1) (x_move rfl) rfl ?_
                  refine W_v (.int .i64 x552) (x_move rfl) rfl ?_
                  obtain ⟨⟨p932, p933⟩, H⟩ := chkS H
                  obtain ⟨b934, o935, cs936, _, _, ee941, hb937, vs938, hR939, hc940⟩ := SlW.at' hr1 p932 p933
                  obtain rfl : vs938 = _ := hR939
                  refine W_v (.pointer (some ⟨b934, o935 + x552.toNat * 3, none⟩)) (x_indexAddr Tryd.underlying22 ty30 (slA ee941) rfl p932 p933) rfl ?_
                  refine W_v (.pointer (some ⟨b934, o935 + x552.toNat * 3 + 1, none⟩)) (x_fieldAddr (o := o935 + x552.toNat * 3) (off := 1) Tryd.underlying30 rfl ty3 rfl rfl) rfl ?_
                  refine W_v (.int .i64 ((rd a1 x552).W)) (x_load (S.frz hb937) ty3 rfl (hc940 1 _ rfl)) rfl ?_
                  refine W_v (.bool (x877 != (rd a1 x552).W)) (x_ibin rfl rfl rfl rfl) rfl ?_
                  refine W_v (.bool (x877 != (rd a1 x552).W)) (x_move rfl) rfl ?_
                  obtain ⟨o954, o954h, o954H⟩ := bindS H
                  clear H
                  refine Wl_cutN 8 (fun ρ w' => ∃ (x953 : Bool), (x953) = o954 ∧ Agree ρ [(1, .slice A1 a1.length c1), (5, .pointer (some ⟨b12, 0, none⟩)), (7, .pointer (some ⟨b124, 0, none⟩)), (8, .pointer (some ⟨b134, 0, none⟩)), (9, .int .i64 x552), (10, .pointer (some ⟨b767, 0, none⟩)), (11, .int .i64 x877), (89, .bool x953)] ∧ Ext w w' ∧ St w' M F [Blk b124 (.cells #[.slice A787 t785.2.2.l.length c788, .int .i64 t785.2.2.last] 47 (0, 0)), Row r_status_writer 49 (.slice A787 t785.2.2.l.length c788) t785.2.2.l, Blk b767 (.cells #[.slice A769 t765.l.length c770, .int .i64 t765.last] 47 (0, 0)), Row r_status_writer 49 (.slice A769 t765.l.length c770) t765.l, Blk b134 (.cells #[.slice A136 t132.l.length c137, .int .i64 t132.last] 47 (0, 0)), Row r_status_writer 49 (.slice A136 t132.l.length c137) t132.l, Blk b12 (.cells #[.slice A96 x95.length c97, .int .i64 x99] 47 (0, 0)), Row r_status_writer 49 (.slice A96 x95.length c97) x95]) ?_ ?_
                  · have H := o954h
                    rcases iteS H with ⟨hb952, H⟩ | ⟨hb952, H⟩
                    · skip
                      refine W_yes (congrArg some hb952) ?_
                      refine W_v (.pointer (some ⟨b124, 0, none⟩)) (x_move rfl) rfl ?_
                      refine W_yes (congrArg some hb952) ?_
                      refine W_v (.int .i64 x877) (x_move rfl) rfl ?_
                      refine W_yes (congrArg some hb952) ?_
                      refine W_v (.int .u8 t927.1) (x_move rfl) rfl ?_
                      refine W_yes (congrArg some hb952) ?_
                      refine W_v (.int .i64 (IntKind.i64.wrap t927.1)) (x_conv_int Tryd.underlying5 Tryd.underlying3 rfl) rfl ?_
                      refine W_yes (congrArg some hb952) ?_
                      refine W_v (.int .i64 t927.2) (x_move rfl) rfl ?_
                      refine W_yes (congrArg some hb952) ?_
                      obtain ⟨t955, ht956, H⟩ := bindS H
                      replace S : St w929 M F [Blk b124 (.cells #[.slice A787 t785.2.2.l.length c788, .int .i64 t785.2.2.last] 47 (0, 0)), Row r_status_writer 49 (.slice A787 t785.2.2.l.length c788) t785.2.2.l, Blk b767 (.cells #[.slice A769 t765.l.length c770, .int .i64 t765.last] 47 (0, 0)), Row r_status_writer 49 (.slice A769 t765.l.length c770) t765.l, Blk b134 (.cells #[.slice A136 t132.l.length c137, .int .i64 t132.last] 47 (0, 0)), Row r_status_writer 49 (.slice A136 t132.l.length c137) t132.l, Blk b12 (.cells #[.slice A96 x95.length c97, .int .i64 x99] 47 (0, 0)), Row r_status_writer 49 (.slice A96 x95.length c97) x95] := S.pick [2, 3, 0, 1, 4, 5, 6, 7] (by decide)
                      refine W_callF2 fn20 (ferrymanlaw08_is_PO.con k M A787 c788 t785.2.2 x877 (IntKind.i64.wrap t927.1) t927.2 b124 t955 hg0 ht956) (Γ1 := [Blk b124 (.cells #[.slice A787 t785.2.2.l.length c788, .int .i64 t785.2.2.last] 47 (0, 0)), Row r_status_writer 49 (.slice A787 t785.2.2.l.length c788) t785.2.2.l]) (Γ2 := [Blk b767 (.cells #[.slice A769 t765.l.length c770, .int .i64 t765.last] 47 (0, 0)), Row r_status_writer 49 (.slice A769 t765.l.length c770) t765.l, Blk b134 (.cells #[.slice A136 t132.l.length c137, .int .i64 t132.last] 47 (0, 0)), Row r_status_writer 49 (.slice A136 t132.l.length c137) t132.l, Blk b12 (.cells #[.slice A96 x95.length c97, .int .i64 x99] 47 (0, 0)), Row r_status_writer 49 (.slice A96 x95.length c97) x95]) S rfl rfl (by rintro _ _ _ ⟨rfl, rfl⟩; exact (flat_cons flat_blk (flat_cons (flat_row (fun _ _ _ _ h => h)) flat_nil))) ?_
                      rintro _ w957 _ Γ' E' S ⟨rfl, rfl⟩
                      replace E := E.trans E'
                      clear E'
                      replace S : St w957 M F [Blk b124 (.cells #[.slice A787 t785.2.2.l.length c788, .int .i64 t785.2.2.last] 47 (0, 0)), Row r_status_writer 49 (.slice A787 t785.2.2.l.length c788) t785.2.2.l, Blk b767 (.cells #[.slice A769 t765.l.length c770, .int .i64 t765.last] 47 (0, 0)), Row r_status_writer 49 (.slice A769 t765.l.length c770) t765.l, Blk b134 (.cells #[.slice A136 t132.l.length c137, .int .i64 t132.last] 47 (0, 0)), Row r_status_writer 49 (.slice A136 t132.l.length c137) t132.l, Blk b12 (.cells #[.slice A96 x95.length c97, .int .i64 x99] 47 (0, 0)), Row r_status_writer 49 (.slice A96 x95.length c97) x95] := S
                      refine W_yes (congrArg some hb952) ?_
                      refine W_v (.bool (!t955)) (x_not rfl) rfl ?_
                      refine W_v (.bool (!t955)) (x_pick (k := true) (congrArg Value.bool hb952) rfl) rfl ?_
                      refine Wl_nil ?_
                      exact ⟨(!t955), Option.some.inj H, ⟨rfl, rfl, rfl, rfl, rfl, rfl, rfl, rfl, trivial⟩, E, S.pick [0, 1, 2, 3, 4, 5, 6, 7] (by decide)⟩
                    · skip
                      refine W_no (skT hb952) rfl ?_
                      refine W_no (skT hb952) rfl ?_
                      refine W_no (skT hb952) rfl ?_
                      refine W_no (skT hb952) rfl ?_
                      refine W_no (skT hb952) rfl ?_
                      refine W_no (skT hb952) rfl ?_
                      refine W_no (skT hb952) rfl ?_
                      refine W_v (.bool false) (x_pick (k := false) (congrArg Value.bool hb952) rfl) rfl ?_
                      refine Wl_nil ?_
                      exact ⟨false, Option.some.inj H, ⟨rfl, rfl, rfl, rfl, rfl, rfl, rfl, rfl, trivial⟩, E, S.pick [2, 3, 0, 1, 4, 5, 6, 7] (by decide)⟩
                  clear o954h
                  rintro ρ w960 ⟨x953, rfl, hρ, E, S⟩
                  rw [agree_eta hρ]
                  clear hρ
                  have H := o954H
                  clear o954H
                  refine Wl_nil ?_
                  refine tn ?_
                  rcases iteS H with ⟨hb961, H⟩ | ⟨hb961, H⟩
                  · refine Wp_cond_true (congrArg Value.bool hb961) ?_
                    refine Wp_seq ?_
                    refine Wp_region_lit ?_
                    refine W_v (.bool false) (x_assign rfl) rfl ?_
                    refine Wl_nil ?_
                    refine tn ?_
                    refine Wp_ret ?_
                    refine br (tr (tr (br (tr (br (tr (tr (br (tr (tr (?_)))))))))))
                    obtain rfl := Option.some.inj H
                    have H := o919H
                    replace H := elimL H
                    obtain rfl := Option.some.inj H
                    have H := o762H
                    replace H := elimL H
                    obtain rfl := Option.some.inj H
                    exact ⟨_, _, _, fun w1 e1 => run_resR (vs := [.bool false]) (FA.cons (rfl) (FA.nil)), HM, E, S.pick [] (by decide), ⟨rfl, rfl⟩⟩
                  refine Wp_cond_false (congrArg Value.bool hb961) ?_
                  refine Wp_skip ?_
                  refine bn ?_
                  refine tn ?_
                  refine Wp_region_lit ?_
                  refine W_v (.int .i64 x877) (x_move rfl) rfl ?_
                  refine W_v (.int .i64 (IntKind.i64.wrap (x877 + (1 : Int)))) (x_ibin rfl rfl rfl rfl) rfl ?_
                  refine W_v (.int .i64 (IntKind.i64.wrap (x877 + (1 : Int)))) (x_assign rfl) rfl ?_
                  refine Wl_nil ?_
                  refine tn ?_
                  exact ⟨k, Nat.lt_succ_self k, ⟨(IntKind.i64.wrap (x877 + (1 : Int))), H, ⟨rfl, rfl, rfl, rfl, rfl, rfl, rfl, trivial⟩, E, S.pick [0, 1, 2, 3, 4, 5, 6, 7] (by decide)⟩⟩
                refine Wp_cond_false (congrArg Value.bool hb926) ?_
                refine Wp_exit ?_
                refine tx (tx (bsm (?_)))
                refine tn ?_
                exact ⟨Option.some.inj H, ⟨rfl, rfl, rfl, rfl, rfl, trivial⟩, E, S.pick [2, 3, 4, 5, 6, 7] (by decide)⟩
          clear o919h
          rintro ρ w962 ⟨rfl, hρ, E, S⟩
          rw [agree_eta hρ]
          clear hρ
          have H := o919H
          clear o919H
          replace H := elimR H
          refine bn ?_
          refine tn ?_
          refine Wp_region_lit ?_
          refine W_v (.int .i64 x552) (x_move rfl) rfl ?_
          refine W_v (.int .i64 (IntKind.i64.wrap (x552 + (1 : Int)))) (x_ibin rfl rfl rfl rfl) rfl ?_
          refine W_v (.int .i64 (IntKind.i64.wrap (x552 + (1 : Int)))) (x_assign rfl) rfl ?_
          refine Wl_nil ?_
          refine tn ?_
          exact ⟨k, Nat.lt_succ_self k, ⟨(IntKind.i64.wrap (x552 + (1 : Int))), t785.2.2.l, t785.2.2.last, A787, c788, H, ⟨rfl, rfl, rfl, rfl, rfl, trivial⟩, E, S.pick [1, 2, 3, 4, 5, 0] (by decide)⟩⟩
        refine Wp_cond_false (congrArg Value.bool hb764) ?_
        refine Wp_exit ?_
        refine tx (tx (bsm (?_)))
        refine tn ?_
        exact ⟨x553, x557, A554, c555, Option.some.inj H, ⟨rfl, rfl, rfl, rfl, trivial⟩, E, S.pick [0, 1, 2, 3, 4, 5] (by decide)⟩
  clear o762h
  rintro ρ w963 ⟨x757, x761, A758, c759, rfl, hρ, E, S⟩
  rw [agree_eta hρ]
  clear hρ
  have H := o762H
  clear o762H
  replace H := elimR H
  refine tn ?_
  refine Wp_seq ?_
  refine Wp_seq ?_
  refine Wp_region_lit ?_
  refine W_v (.int .i64 0) (x_assign rfl) rfl ?_
  refine Wl_nil ?_
  refine tn ?_
  obtain ⟨o1018, o1018h, o1018H⟩ := bindS H
  clear H
  refine Wp_blockJ (fun ρ w' => .inr () = o1018 ∧ Agree ρ [(1, .slice A1 a1.length c1), (5, .pointer (some ⟨b12, 0, none⟩)), (7, .pointer (some ⟨b124, 0, none⟩))] ∧ Ext w w' ∧ St w' M F [Blk b12 (.cells #[.slice A96 x95.length c97, .int .i64 x99] 47 (0, 0)), Row r_status_writer 49 (.slice A96 x95.length c97) x95, Row r_status_writer 49 (.slice A758 x757.length c759) x757, Blk b124 (.cells #[.slice A758 x757.length c759, .int .i64 x761] 47 (0, 0))]) ?_ ?_
  · skip
    refine Wp_loop (fun n ρ w' => ∃ (x1000 : Int), ferrymanlaw08_StatusOthers_l6 x95 x99 t132 n x1000 = some o1018 ∧ Agree ρ [(1, .slice A1 a1.length c1), (5, .pointer (some ⟨b12, 0, none⟩)), (7, .pointer (some ⟨b124, 0, none⟩)), (8, .pointer (some ⟨b134, 0, none⟩)), (14, .int .i64 x1000)] ∧ Ext w w' ∧ St w' M F [Row r_status_writer 49 (.slice A758 x757.length c759) x757, Blk b134 (.cells #[.slice A136 t132.l.length c137, .int .i64 t132.last] 47 (0, 0)), Row r_status_writer 49 (.slice A136 t132.l.length c137) t132.l, Blk b12 (.cells #[.slice A96 x95.length c97, .int .i64 x99] 47 (0, 0)), Row r_status_writer 49 (.slice A96 x95.length c97) x95, Blk b124 (.cells #[.slice A758 x757.length c759, .int .i64 x761] 47 (0, 0))]) k ?_ ?_
    · skip
      exact ⟨(0 : Int), o1018h, ⟨rfl, rfl, rfl, rfl, rfl, trivial⟩, E, S.pick [0, 1, 2, 3, 4, 5] (by decide)⟩
    · intro n
      rintro ρ w1019 ⟨x1000, H, hρ, E, S⟩
      rw [agree_eta hρ]
      clear hρ
      cases n with
      | zero => cases H
      | succ k =>
        rw [ferrymanlaw08_StatusOthers_l6.eq_2] at H
        refine Wp_seq ?_
        refine Wp_seq ?_
        refine Wp_region_lit ?_
        refine W_v (.int .i64 x1000) (x_move rfl) rfl ?_
        refine W_v (.pointer (some ⟨b12, 0, none⟩)) (x_move rfl) rfl ?_
        obtain ⟨t1020, ht1021, H⟩ := bindS H
        replace S : St w1019 M F [Blk b12 (.cells #[.slice A96 x95.length c97, .int .i64 x99] 47 (0, 0)), Row r_status_writer 49 (.slice A96 x95.length c97) x95, Row r_status_writer 49 (.slice A758 x757.length c759) x757, Blk b134 (.cells #[.slice A136 t132.l.length c137, .int .i64 t132.last] 47 (0, 0)), Row r_status_writer 49 (.slice A136 t132.l.length c137) t132.l, Blk b124 (.cells #[.slice A758 x757.length c759, .int .i64 x761] 47 (0, 0))] := S.pick [3, 4, 0, 1, 2, 5] (by decide)
        refine W_callF2 fn10 (status_Writers_High_PO.con k M A96 c97 (⟨x95, x99⟩ : status_Writers) b12 t1020 hg0 ht1021) (Γ1 := [Blk b12 (.cells #[.slice A96 x95.length c97, .int .i64 x99] 47 (0, 0)), Row r_status_writer 49 (.slice A96 x95.length c97) x95]) (Γ2 := [Row r_status_writer 49 (.slice A758 x757.length c759) x757, Blk b134 (.cells #[.slice A136 t132.l.length c137, .int .i64 t132.last] 47 (0, 0)), Row r_status_writer 49 (.slice A136 t132.l.length c137) t132.l, Blk b124 (.cells #[.slice A758 x757.length c759, .int .i64 x761] 47 (0, 0))]) S rfl rfl (by rintro _ _ _ ⟨rfl, rfl⟩; exact (flat_cons flat_blk (flat_cons (flat_row (fun _ _ _ _ h => h)) flat_nil))) ?_
        rintro _ w1022 _ Γ' E' S ⟨rfl, rfl⟩
        replace E := E.trans E'
        clear E'
        replace S : St w1022 M F [Blk b12 (.cells #[.slice A96 x95.length c97, .int .i64 x99] 47 (0, 0)), Row r_status_writer 49 (.slice A96 x95.length c97) x95, Row r_status_writer 49 (.slice A758 x757.length c759) x757, Blk b134 (.cells #[.slice A136 t132.l.length c137, .int .i64 t132.last] 47 (0, 0)), Row r_status_writer 49 (.slice A136 t132.l.length c137) t132.l, Blk b124 (.cells #[.slice A758 x757.length c759, .int .i64 x761] 47 (0, 0))] := S
        refine W_v (.bool (decide (x1000 ≤ t1020))) (x_ibin rfl rfl rfl rfl) rfl ?_
        refine Wl_nil ?_
        refine tn ?_
        rcases iteS H with ⟨hb1025, H⟩ | ⟨hb1025, H⟩
        · refine Wp_cond_true (congrArg Value.bool hb1025) ?_
          refine Wp_skip ?_
          refine tn ?_
          refine Wp_seq ?_
          refine Wp_block ?_
          refine Wp_seq ?_
          refine Wp_region_lit ?_
          refine W_v (.pointer (some ⟨b134, 0, none⟩)) (x_move rfl) rfl ?_
          refine W_v (.int .i64 x1000) (x_move rfl) rfl ?_
          obtain ⟨t1026, ht1027, H⟩ := bindS H
          replace S : St w1022 M F [Blk b134 (.cells #[.slice A136 t132.l.length c137, .int .i64 t132.last] 47 (0, 0)), Row r_status_writer 49 (.slice A136 t132.l.length c137) t132.l, Blk b12 (.cells #[.slice A96 x95.length c97, .int .i64 x99] 47 (0, 0)), Row r_status_writer 49 (.slice A96 x95.length c97) x95, Row r_status_writer 49 (.slice A758 x757.length c759) x757, Blk b124 (.cells #[.slice A758 x757.length c759, .int .i64 x761] 47 (0, 0))] := S.pick [3, 4, 0, 1, 2, 5] (by decide)
          refine W_callF2 fn12 (status_Writers_Of_PO.con k M A136 c137 t132 x1000 b134 t1026 hg0 ht1027) (Γ1 := [Blk b134 (.cells #[.slice A136 t132.l.length c137, .int .i64 t132.last] 47 (0, 0)), Row r_status_writer 49 (.slice A136 t132.l.length c137) t132.l]) (Γ2 := [Blk b12 (.cells #[.slice A96 x95.length c97, .int .i64 x99] 47 (0, 0)), Row r_status_writer 49 (.slice A96 x95.length c97) x95, Row r_status_writer 49 (.slice A758 x757.length c759) x757, Blk b124 (.cells #[.slice A758 x757.length c759, .int .i64 x761] 47 (0, 0))]) S rfl rfl (by rintro _ _ _ ⟨rfl, rfl⟩; exact (flat_cons flat_blk (flat_cons (flat_row (fun _ _ _ _ h => h)) flat_nil))) ?_
          rintro _ w1028 _ Γ' E' S ⟨rfl, rfl⟩
          replace E := E.trans E'
          clear E'
          replace S : St w1028 M F [Blk b134 (.cells #[.slice A136 t132.l.length c137, .int .i64 t132.last] 47 (0, 0)), Row r_status_writer 49 (.slice A136 t132.l.length c137) t132.l, Blk b12 (.cells #[.slice A96 x95.length c97, .int .i64 x99] 47 (0, 0)), Row r_status_writer 49 (.slice A96 x95.length c97) x95, Row r_status_writer 49 (.slice A758 x757.length c759) x757, Blk b124 (.cells #[.slice A758 x757.length c759, .int .i64 x761] 47 (0, 0))] := S
          refine W_v (.tuple #[.int .u8 t1026.1, .int .i64 t1026.2]) (x_move rfl) rfl ?_
          refine W_v (.int .u8 t1026.1) (x_extract rfl rfl) rfl ?_
          refine W_v (.int .i64 t1026.2) (x_extract rfl rfl) rfl ?_
          refine W_v (.int .u8 t1026.1) (x_assign rfl) rfl ?_
          refine W_v (.int .i64 t1026.2) (x_assign rfl) rfl ?_
          refine Wl_nil ?_
          refine tn ?_
          refine Wp_seq ?_
          refine Wp_region_lit ?_
          refine W_v (.pointer (some ⟨b12, 0, none⟩)) (x_move rfl) rfl ?_
          refine W_v (.int .i64 x1000) (x_move rfl) rfl ?_
          refine W_v (.int .u8 t1026.1) (x_move rfl) rfl ?_
          refine W_v (.int .i64 (IntKind.i64.wrap t1026.1)) (x_conv_int Tryd.underlying5 Tryd.underlying3 rfl) rfl ?_
          refine W_v (.int .i64 t1026.2) (x_move rfl) rfl ?_
          obtain ⟨t1031, ht1032, H⟩ := bindS H
          replace S : St w1028 M F [Blk b12 (.cells #[.slice A96 x95.length c97, .int .i64 x99] 47 (0, 0)), Row r_status_writer 49 (.slice A96 x95.length c97) x95, Blk b134 (.cells #[.slice A136 t132.l.length c137, .int .i64 t132.last] 47 (0, 0)), Row r_status_writer 49 (.slice A136 t132.l.length c137) t132.l, Row r_status_writer 49 (.slice A758 x757.length c759) x757, Blk b124 (.cells #[.slice A758 x757.length c759, .int .i64 x761] 47 (0, 0))] := S.pick [2, 3, 0, 1, 4, 5] (by decide)
          refine W_callF2 fn20 (ferrymanlaw08_is_PO.con k M A96 c97 (⟨x95, x99⟩ : status_Writers) x1000 (IntKind.i64.wrap t1026.1) t1026.2 b12 t1031 hg0 ht1032) (Γ1 := [Blk b12 (.cells #[.slice A96 x95.length c97, .int .i64 x99] 47 (0, 0)), Row r_status_writer 49 (.slice A96 x95.length c97) x95]) (Γ2 := [Blk b134 (.cells #[.slice A136 t132.l.length c137, .int .i64 t132.last] 47 (0, 0)), Row r_status_writer 49 (.slice A136 t132.l.length c137) t132.l, Row r_status_writer 49 (.slice A758 x757.length c759) x757, Blk b124 (.cells #[.slice A758 x757.length c759, .int .i64 x761] 47 (0, 0))]) S rfl rfl (by rintro _ _ _ ⟨rfl, rfl⟩; exact (flat_cons flat_blk (flat_cons (flat_row (fun _ _ _ _ h => h)) flat_nil))) ?_
          rintro _ w1033 _ Γ' E' S ⟨rfl, rfl⟩
          replace E := E.trans E'
          clear E'
          replace S : St w1033 M F [Blk b12 (.cells #[.slice A96 x95.length c97, .int .i64 x99] 47 (0, 0)), Row r_status_writer 49 (.slice A96 x95.length c97) x95, Blk b134 (.cells #[.slice A136 t132.l.length c137, .int .i64 t132.last] 47 (0, 0)), Row r_status_writer 49 (.slice A136 t132.l.length c137) t132.l, Row r_status_writer 49 (.slice A758 x757.length c759) x757, Blk b124 (.cells #[.slice A758 x757.length c759, .int .i64 x761] 47 (0, 0))] := S
          refine W_v (.bool (!t1031)) (x_not rfl) rfl ?_
          refine Wl_nil ?_
          refine tn ?_
          rcases iteS H with ⟨hb1036, H⟩ | ⟨hb1036, H⟩
          · refine Wp_cond_true (congrArg Value.bool hb1036) ?_
            refine Wp_seq ?_
            refine Wp_region_lit ?_
            refine W_v (.bool false) (x_assign rfl) rfl ?_
            refine Wl_nil ?_
            refine tn ?_
            refine Wp_ret ?_
            refine br (tr (tr (br (tr (tr (?_))))))
            obtain rfl := Option.some.inj H
            have H := o1018H
            replace H := elimL H
            obtain rfl := Option.some.inj H
            exact ⟨_, _, _, fun w1 e1 => run_resR (vs := [.bool false]) (FA.cons (rfl) (FA.nil)), HM, E, S.pick [] (by decide), ⟨rfl, rfl⟩⟩
          refine Wp_cond_false (congrArg Value.bool hb1036) ?_
          refine Wp_skip ?_
          refine bn ?_
          refine tn ?_
          refine Wp_region_lit ?_
          refine W_v (.int .i64 x1000) (x_move rfl) rfl ?_
          refine W_v (.int .i64 (IntKind.i64.wrap (x1000 + (1 : Int)))) (x_ibin rfl rfl rfl rfl) rfl ?_
          refine W_v (.int .i64 (IntKind.i64.wrap (x1000 + (1 : Int)))) (x_assign rfl) rfl ?_
          refine Wl_nil ?_
          refine tn ?_
          exact ⟨k, Nat.lt_succ_self k, ⟨(IntKind.i64.wrap (x1000 + (1 : Int))), H, ⟨rfl, rfl, rfl, rfl, rfl, trivial⟩, E, S.pick [4, 2, 3, 0, 1, 5] (by decide)⟩⟩
        refine Wp_cond_false (congrArg Value.bool hb1025) ?_
        refine Wp_exit ?_
        refine tx (tx (bsm (?_)))
        refine tn ?_
        exact ⟨Option.some.inj H, ⟨rfl, rfl, rfl, trivial⟩, E, S.pick [0, 1, 2, 5] (by decide)⟩
  clear o1018h
  rintro ρ w1037 ⟨rfl, hρ, E, S⟩
  rw [agree_eta hρ]
  clear hρ
  have H := o1018H
  clear o1018H
  replace H := elimR H
  refine tn ?_
  refine Wp_seq ?_
  refine Wp_seq ?_
  refine Wp_region_lit ?_
  refine W_v (.int .i64 0) (x_assign rfl) rfl ?_
  refine Wl_nil ?_
  refine tn ?_
  obtain ⟨o1118, o1118h, o1118H⟩ := bindS H
  clear H
  refine Wp_blockJ (fun ρ w' => ∃ (x1113 : List status_writer) (x1117 : Int) (A1114 : Option Addr) (c1115 : Nat), (x1113, x1117) = o1118 ∧ Agree ρ [(5, .pointer (some ⟨b12, 0, none⟩)), (7, .pointer (some ⟨b124, 0, none⟩))] ∧ Ext w w' ∧ St w' M F [Row r_status_writer 49 (.slice A1114 x1113.length c1115) x1113, Blk b12 (.cells #[.slice A1114 x1113.length c1115, .int .i64 x1117] 47 (0, 0)), Row r_status_writer 49 (.slice A758 x757.length c759) x757, Blk b124 (.cells #[.slice A758 x757.length c759, .int .i64 x761] 47 (0, 0))]) ?_ ?_
  · skip
    refine Wp_loop (fun n ρ w' => ∃ (x1088 : Int) (x1089 : List status_writer) (x1093 : Int) (A1090 : Option Addr) (c1091 : Nat), ferrymanlaw08_StatusOthers_l7 a1 n x1088 x1089 x1093 = some o1118 ∧ Agree ρ [(1, .slice A1 a1.length c1), (5, .pointer (some ⟨b12, 0, none⟩)), (7, .pointer (some ⟨b124, 0, none⟩)), (17, .int .i64 x1088)] ∧ Ext w w' ∧ St w' M F [Row r_status_writer 49 (.slice A1090 x1089.length c1091) x1089, Blk b12 (.cells #[.slice A1090 x1089.length c1091, .int .i64 x1093] 47 (0, 0)), Row r_status_writer 49 (.slice A758 x757.length c759) x757, Blk b124 (.cells #[.slice A758 x757.length c759, .int .i64 x761] 47 (0, 0))]) k ?_ ?_
    · skip
      exact ⟨(0 : Int), x95, x99, A96, c97, o1118h, ⟨rfl, rfl, rfl, rfl, trivial⟩, E, S.pick [1, 0, 2, 3] (by decide)⟩
    · intro n
      rintro ρ w1119 ⟨x1088, x1089, x1093, A1090, c1091, H, hρ, E, S⟩
      rw [agree_eta hρ]
      clear hρ
      cases n with
      | zero => cases H
      | succ k =>
        rw [ferrymanlaw08_StatusOthers_l7.eq_2] at H
        refine Wp_seq ?_
        refine Wp_seq ?_
        refine Wp_region_lit ?_
        refine W_v (.int .i64 x1088) (x_move rfl) rfl ?_
        refine W_v (.slice A1 a1.length c1) (x_move rfl) rfl ?_
        refine W_v (.int .i64 (a1.length : Int)) (x_len_slice (n := a1.length) Tryd.underlying22 rfl) rfl ?_
        refine W_v (.bool (decide (x1088 < (a1.length : Int)))) (x_ibin rfl rfl rfl rfl) rfl ?_
        refine Wl_nil ?_
        refine tn ?_
        rcases iteS H with ⟨hb1120, H⟩ | ⟨hb1120, H⟩
        · refine Wp_cond_true (congrArg Value.bool hb1120) ?_
          refine Wp_skip ?_
          refine tn ?_
          refine Wp_seq ?_
          refine Wp_block ?_
          refine Wp_region_lit ?_
          refine W_v (.slice A1 a1.length c1) (x_move rfl) rfl ?_
          refine W_v (.int .i64 x1088) (x_move rfl) rfl ?_
          obtain ⟨⟨p1121, p1122⟩, H⟩ := chkS H
          obtain ⟨b1123, o1124, cs1125, _, _, ee1130, hb1126, vs1127, hR1128, hc1129⟩ := SlW.at' hr1 p1121 p1122
          obtain rfl : vs1127 = _ := hR1128
          refine W_v (.pointer (some ⟨b1123, o1124 + x1088.toNat * 3, none⟩)) (x_indexAddr Tryd.underlying22 ty30 (slA ee1130) rfl p1121 p1122) rfl ?_
          refine W_v (.agg #[.int .u8 ((rd a1 x1088).What), .int .i64 ((rd a1 x1088).W), .int .i64 ((rd a1 x1088).TS)]) (x_loadA (S.frz hb1126) ty30 rfl (sub_el hc1129 0 rfl) rfl rfl) rfl ?_
          refine W_v (.pointer (some ⟨b12, 0, none⟩)) (x_move rfl) rfl ?_
          obtain ⟨t1131, ht1132, H⟩ := bindS H
          replace S : St w1119 M F [Blk b12 (.cells #[.slice A1090 x1089.length c1091, .int .i64 x1093] 47 (0, 0)), Row r_status_writer 49 (.slice A1090 x1089.length c1091) x1089, Row r_status_writer 49 (.slice A758 x757.length c759) x757, Blk b124 (.cells #[.slice A758 x757.length c759, .int .i64 x761] 47 (0, 0))] := S.pick [1, 0, 2, 3] (by decide)
          refine W_callF2 fn11 (ferrymanlaw08_Step_do_PO.con k M (rd a1 x1088) A1090 c1091 (⟨x1089, x1093⟩ : status_Writers) b12 t1131 hg0 ht1132) (Γ1 := [Blk b12 (.cells #[.slice A1090 x1089.length c1091, .int .i64 x1093] 47 (0, 0)), Row r_status_writer 49 (.slice A1090 x1089.length c1091) x1089]) (Γ2 := [Row r_status_writer 49 (.slice A758 x757.length c759) x757, Blk b124 (.cells #[.slice A758 x757.length c759, .int .i64 x761] 47 (0, 0))]) S rfl rfl (by rintro _ _ _ ⟨_, _, rfl, rfl⟩; exact (flat_cons flat_blk (flat_cons (flat_row (fun _ _ _ _ h => h)) flat_nil))) ?_
          rintro _ w1136 _ Γ' E' S ⟨A1133, c1134, rfl, rfl⟩
          replace E := E.trans E'
          clear E'
          replace S : St w1136 M F [Blk b12 (.cells #[.slice A1133 t1131.2.2.l.length c1134, .int .i64 t1131.2.2.last] 47 (0, 0)), Row r_status_writer 49 (.slice A1133 t1131.2.2.l.length c1134) t1131.2.2.l, Row r_status_writer 49 (.slice A758 x757.length c759) x757, Blk b124 (.cells #[.slice A758 x757.length c759, .int .i64 x761] 47 (0, 0))] := S
          refine Wl_nil ?_
          refine bn ?_
          refine tn ?_
          refine Wp_region_lit ?_
          refine W_v (.int .i64 x1088) (x_move rfl) rfl ?_
          refine W_v (.int .i64 (IntKind.i64.wrap (x1088 + (1 : Int)))) (x_ibin rfl rfl rfl rfl) rfl ?_
          refine W_v (.int .i64 (IntKind.i64.wrap (x1088 + (1 : Int)))) (x_assign rfl) rfl ?_
          refine Wl_nil ?_
          refine tn ?_
          exact ⟨k, Nat.lt_succ_self k, ⟨(IntKind.i64.wrap (x1088 + (1 : Int))), t1131.2.2.l, t1131.2.2.last, A1133, c1134, H, ⟨rfl, rfl, rfl, rfl, trivial⟩, E, S.pick [1, 0, 2, 3] (by decide)⟩⟩
        refine Wp_cond_false (congrArg Value.bool hb1120) ?_
        refine Wp_exit ?_
        refine tx (tx (bsm (?_)))
        refine tn ?_
        exact ⟨x1089, x1093, A1090, c1091, Option.some.inj H, ⟨rfl, rfl, trivial⟩, E, S.pick [0, 1, 2, 3] (by decide)⟩
  clear o1118h
  rintro ρ w1139 ⟨x1113, x1117, A1114, c1115, rfl, hρ, E, S⟩
  rw [agree_eta hρ]
  clear hρ
  have H := o1118H
  clear o1118H
  refine tn ?_
  refine Wp_seq ?_
  refine Wp_region_lit ?_
  refine W_v (.pointer (some ⟨b12, 0, none⟩)) (x_move rfl) rfl ?_
  obtain ⟨t1140, ht1141, H⟩ := bindS H
  replace S : St w1139 M F [Blk b12 (.cells #[.slice A1114 x1113.length c1115, .int .i64 x1117] 47 (0, 0)), Row r_status_writer 49 (.slice A1114 x1113.length c1115) x1113, Row r_status_writer 49 (.slice A758 x757.length c759) x757, Blk b124 (.cells #[.slice A758 x757.length c759, .int .i64 x761] 47 (0, 0))] := S.pick [1, 0, 2, 3] (by decide)
  refine W_callF2 fn14 (status_Writers_Busy_PO.con k M A1114 c1115 (⟨x1113, x1117⟩ : status_Writers) b12 t1140 hg0 ht1141) (Γ1 := [Blk b12 (.cells #[.slice A1114 x1113.length c1115, .int .i64 x1117] 47 (0, 0)), Row r_status_writer 49 (.slice A1114 x1113.length c1115) x1113]) (Γ2 := [Row r_status_writer 49 (.slice A758 x757.length c759) x757, Blk b124 (.cells #[.slice A758 x757.length c759, .int .i64 x761] 47 (0, 0))]) S rfl rfl (by rintro _ _ _ ⟨_, _, rfl, rfl⟩; exact (flat_cons (flat_row (fun _ _ _ _ h => h)) (flat_cons flat_blk (flat_cons (flat_row (fun _ _ _ _ h => h)) flat_nil)))) ?_
  rintro _ w1145 _ Γ' E' S ⟨A1142, c1143, rfl, rfl⟩
  replace E := E.trans E'
  clear E'
  replace S : St w1145 M F [Row (rInt .i64) 3 (.slice A1142 t1140.length c1143) t1140, Blk b12 (.cells #[.slice A1114 x1113.length c1115, .int .i64 x1117] 47 (0, 0)), Row r_status_writer 49 (.slice A1114 x1113.length c1115) x1113, Row r_status_writer 49 (.slice A758 x757.length c759) x757, Blk b124 (.cells #[.slice A758 x757.length c759, .int .i64 x761] 47 (0, 0))] := S
  refine W_v (.pointer (some ⟨b124, 0, none⟩)) (x_move rfl) rfl ?_
  obtain ⟨t1148, ht1149, H⟩ := bindS H
  replace S : St w1145 M F [Blk b124 (.cells #[.slice A758 x757.length c759, .int .i64 x761] 47 (0, 0)), Row r_status_writer 49 (.slice A758 x757.length c759) x757, Row (rInt .i64) 3 (.slice A1142 t1140.length c1143) t1140, Blk b12 (.cells #[.slice A1114 x1113.length c1115, .int .i64 x1117] 47 (0, 0)), Row r_status_writer 49 (.slice A1114 x1113.length c1115) x1113] := S.pick [4, 3, 0, 1, 2] (by decide)
  refine W_callF2 fn14 (status_Writers_Busy_PO.con k M A758 c759 (⟨x757, x761⟩ : status_Writers) b124 t1148 hg0 ht1149) (Γ1 := [Blk b124 (.cells #[.slice A758 x757.length c759, .int .i64 x761] 47 (0, 0)), Row r_status_writer 49 (.slice A758 x757.length c759) x757]) (Γ2 := [Row (rInt .i64) 3 (.slice A1142 t1140.length c1143) t1140, Blk b12 (.cells #[.slice A1114 x1113.length c1115, .int .i64 x1117] 47 (0, 0)), Row r_status_writer 49 (.slice A1114 x1113.length c1115) x1113]) S rfl rfl (by rintro _ _ _ ⟨_, _, rfl, rfl⟩; exact (flat_cons (flat_row (fun _ _ _ _ h => h)) (flat_cons flat_blk (flat_cons (flat_row (fun _ _ _ _ h => h)) flat_nil)))) ?_
  rintro _ w1153 _ Γ' E' S ⟨A1150, c1151, rfl, rfl⟩
  replace E := E.trans E'
  clear E'
  replace S : St w1153 M F [Row (rInt .i64) 3 (.slice A1150 t1148.length c1151) t1148, Blk b124 (.cells #[.slice A758 x757.length c759, .int .i64 x761] 47 (0, 0)), Row r_status_writer 49 (.slice A758 x757.length c759) x757, Row (rInt .i64) 3 (.slice A1142 t1140.length c1143) t1140, Blk b12 (.cells #[.slice A1114 x1113.length c1115, .int .i64 x1117] 47 (0, 0)), Row r_status_writer 49 (.slice A1114 x1113.length c1115) x1113] := S
  replace S : St w1153 M F [Row (rInt .i64) 3 (.slice A1142 t1140.length c1143) t1140, Row (rInt .i64) 3 (.slice A1150 t1148.length c1151) t1148, Blk b124 (.cells #[.slice A758 x757.length c759, .int .i64 x761] 47 (0, 0)), Row r_status_writer 49 (.slice A758 x757.length c759) x757, Blk b12 (.cells #[.slice A1114 x1113.length c1115, .int .i64 x1117] 47 (0, 0)), Row r_status_writer 49 (.slice A1114 x1113.length c1115) x1113] := S.pick [3, 0, 1, 2, 4, 5] (by decide)
  obtain ⟨t1156, ht1157, H⟩ := bindS H
  refine W_callN 2 fn13 (fun h9 hs9 hd9 => ferrymanref08_Ints.con k _ A1142 c1143 t1140 A1150 c1151 t1148 t1156 (Sats.row hs9 hd9 0 rfl) (Sats.row hs9 hd9 1 rfl) (let ⟨gt, fr, h8⟩ := hg0; ⟨gt, fr, Hp.le_union_left _ _ _ _ h8⟩) ht1157) S rfl rfl (by rintro _ _ _ ⟨_, rfl⟩; exact flat_nil) ?_
  rintro _ w1158 _ Γ' E' S ⟨rfl, rfl⟩
  replace E := E.trans E'
  clear E'
  refine W_v (.bool t1156) (x_move rfl) rfl ?_
  obtain ⟨o1181, o1181h, o1181H⟩ := bindS H
  clear H
  refine Wl_cutN 6 (fun ρ w' => ∃ (x1180 : Bool), (x1180) = o1181 ∧ Agree ρ [(5, .pointer (some ⟨b12, 0, none⟩)), (7, .pointer (some ⟨b124, 0, none⟩)), (132, .bool x1180)] ∧ Ext w w' ∧ St w' M F [Blk b124 (.cells #[.slice A758 x757.length c759, .int .i64 x761] 47 (0, 0)), Row r_status_writer 49 (.slice A758 x757.length c759) x757, Blk b12 (.cells #[.slice A1114 x1113.length c1115, .int .i64 x1117] 47 (0, 0)), Row r_status_writer 49 (.slice A1114 x1113.length c1115) x1113]) ?_ ?_
  · have H := o1181h
    rcases iteS H with ⟨hb1179, H⟩ | ⟨hb1179, H⟩
    · skip
      refine W_yes (congrArg some hb1179) ?_
      refine W_v (.pointer (some ⟨b12, 0, none⟩)) (x_move rfl) rfl ?_
      refine W_yes (congrArg some hb1179) ?_
      obtain ⟨t1182, ht1183, H⟩ := bindS H
      replace S : St w1158 M F [Blk b12 (.cells #[.slice A1114 x1113.length c1115, .int .i64 x1117] 47 (0, 0)), Row r_status_writer 49 (.slice A1114 x1113.length c1115) x1113, Row (rInt .i64) 3 (.slice A1142 t1140.length c1143) t1140, Row (rInt .i64) 3 (.slice A1150 t1148.length c1151) t1148, Blk b124 (.cells #[.slice A758 x757.length c759, .int .i64 x761] 47 (0, 0)), Row r_status_writer 49 (.slice A758 x757.length c759) x757] := S.pick [4, 5, 0, 1, 2, 3] (by decide)
      refine W_callF2 fn10 (status_Writers_High_PO.con k M A1114 c1115 (⟨x1113, x1117⟩ : status_Writers) b12 t1182 hg0 ht1183) (Γ1 := [Blk b12 (.cells #[.slice A1114 x1113.length c1115, .int .i64 x1117] 47 (0, 0)), Row r_status_writer 49 (.slice A1114 x1113.length c1115) x1113]) (Γ2 := [Row (rInt .i64) 3 (.slice A1142 t1140.length c1143) t1140, Row (rInt .i64) 3 (.slice A1150 t1148.length c1151) t1148, Blk b124 (.cells #[.slice A758 x757.length c759, .int .i64 x761] 47 (0, 0)), Row r_status_writer 49 (.slice A758 x757.length c759) x757]) S rfl rfl (by rintro _ _ _ ⟨rfl, rfl⟩; exact (flat_cons flat_blk (flat_cons (flat_row (fun _ _ _ _ h => h)) flat_nil))) ?_
      rintro _ w1184 _ Γ' E' S ⟨rfl, rfl⟩
      replace E := E.trans E'
      clear E'
      replace S : St w1184 M F [Blk b12 (.cells #[.slice A1114 x1113.length c1115, .int .i64 x1117] 47 (0, 0)), Row r_status_writer 49 (.slice A1114 x1113.length c1115) x1113, Row (rInt .i64) 3 (.slice A1142 t1140.length c1143) t1140, Row (rInt .i64) 3 (.slice A1150 t1148.length c1151) t1148, Blk b124 (.cells #[.slice A758 x757.length c759, .int .i64 x761] 47 (0, 0)), Row r_status_writer 49 (.slice A758 x757.length c759) x757] := S
      refine W_yes (congrArg some hb1179) ?_
      refine W_v (.pointer (some ⟨b124, 0, none⟩)) (x_move rfl) rfl ?_
      refine W_yes (congrArg some hb1179) ?_
      obtain ⟨t1187, ht1188, H⟩ := bindS H
      replace S : St w1184 M F [Blk b124 (.cells #[.slice A758 x757.length c759, .int .i64 x761] 47 (0, 0)), Row r_status_writer 49 (.slice A758 x757.length c759) x757, Blk b12 (.cells #[.slice A1114 x1113.length c1115, .int .i64 x1117] 47 (0, 0)), Row r_status_writer 49 (.slice A1114 x1113.length c1115) x1113, Row (rInt .i64) 3 (.slice A1142 t1140.length c1143) t1140, Row (rInt .i64) 3 (.slice A1150 t1148.length c1151) t1148] := S.pick [4, 5, 0, 1, 2, 3] (by decide)
      refine W_callF2 fn10 (status_Writers_High_PO.con k M A758 c759 (⟨x757, x761⟩ : status_Writers) b124 t1187 hg0 ht1188) (Γ1 := [Blk b124 (.cells #[.slice A758 x757.length c759, .int .i64 x761] 47 (0, 0)), Row r_status_writer 49 (.slice A758 x757.length c759) x757]) (Γ2 := [Blk b12 (.cells #[.slice A1114 x1113.length c1115, .int .i64 x1117] 47 (0, 0)), Row r_status_writer 49 (.slice A1114 x1113.length c1115) x1113, Row (rInt .i64) 3 (.slice A1142 t1140.length c1143) t1140, Row (rInt .i64) 3 (.slice A1150 t1148.length c1151) t1148]) S rfl rfl (by rintro _ _ _ ⟨rfl, rfl⟩; exact (flat_cons flat_blk (flat_cons (flat_row (fun _ _ _ _ h => h)) flat_nil))) ?_
      rintro _ w1189 _ Γ' E' S ⟨rfl, rfl⟩
      replace E := E.trans E'
      clear E'
      replace S : St w1189 M F [Blk b124 (.cells #[.slice A758 x757.length c759, .int .i64 x761] 47 (0, 0)), Row r_status_writer 49 (.slice A758 x757.length c759) x757, Blk b12 (.cells #[.slice A1114 x1113.length c1115, .int .i64 x1117] 47 (0, 0)), Row r_status_writer 49 (.slice A1114 x1113.length c1115) x1113, Row (rInt .i64) 3 (.slice A1142 t1140.length c1143) t1140, Row (rInt .i64) 3 (.slice A1150 t1148.length c1151) t1148] := S
      refine W_yes (congrArg some hb1179) ?_
      refine W_v (.bool (t1182 == t1187)) (x_ibin rfl rfl rfl rfl) rfl ?_
      refine W_v (.bool (t1182 == t1187)) (x_pick (k := true) (congrArg Value.bool hb1179) rfl) rfl ?_
      refine Wl_nil ?_
      exact ⟨(t1182 == t1187), Option.some.inj H, ⟨rfl, rfl, rfl, trivial⟩, E, S.pick [0, 1, 2, 3] (by decide)⟩
    · skip
      refine W_no (skT hb1179) rfl ?_
      refine W_no (skT hb1179) rfl ?_
      refine W_no (skT hb1179) rfl ?_
      refine W_no (skT hb1179) rfl ?_
      refine W_no (skT hb1179) rfl ?_
      refine W_v (.bool false) (x_pick (k := false) (congrArg Value.bool hb1179) rfl) rfl ?_
      refine Wl_nil ?_
      exact ⟨false, Option.some.inj H, ⟨rfl, rfl, rfl, trivial⟩, E, S.pick [2, 3, 4, 5] (by decide)⟩
  clear o1181h
  rintro ρ w1192 ⟨x1180, rfl, hρ, E, S⟩
  rw [agree_eta hρ]
  clear hρ
  have H := o1181H
  clear o1181H
  refine W_v (.bool x1180) (x_move rfl) rfl ?_
  obtain ⟨o1215, o1215h, o1215H⟩ := bindS H
  clear H
  refine Wl_cutN 6 (fun ρ w' => ∃ (x1214 : Bool), (x1214) = o1215 ∧ Agree ρ [(139, .bool x1214)] ∧ Ext w w' ∧ St w' M F []) ?_ ?_
  · have H := o1215h
    rcases iteS H with ⟨hb1213, H⟩ | ⟨hb1213, H⟩
    · skip
      refine W_yes (congrArg some hb1213) ?_
      refine W_v (.pointer (some ⟨b12, 0, none⟩)) (x_move rfl) rfl ?_
      refine W_yes (congrArg some hb1213) ?_
      obtain ⟨t1216, ht1217, H⟩ := bindS H
      replace S : St w1192 M F [Blk b12 (.cells #[.slice A1114 x1113.length c1115, .int .i64 x1117] 47 (0, 0)), Row r_status_writer 49 (.slice A1114 x1113.length c1115) x1113, Blk b124 (.cells #[.slice A758 x757.length c759, .int .i64 x761] 47 (0, 0)), Row r_status_writer 49 (.slice A758 x757.length c759) x757] := S.pick [2, 3, 0, 1] (by decide)
      refine W_callF2 fn21 (status_Writers_Last_PO.con k M A1114 c1115 (⟨x1113, x1117⟩ : status_Writers) b12 t1216 hg0 ht1217) (Γ1 := [Blk b12 (.cells #[.slice A1114 x1113.length c1115, .int .i64 x1117] 47 (0, 0)), Row r_status_writer 49 (.slice A1114 x1113.length c1115) x1113]) (Γ2 := [Blk b124 (.cells #[.slice A758 x757.length c759, .int .i64 x761] 47 (0, 0)), Row r_status_writer 49 (.slice A758 x757.length c759) x757]) S rfl rfl (by rintro _ _ _ ⟨rfl, rfl⟩; exact (flat_cons flat_blk (flat_cons (flat_row (fun _ _ _ _ h => h)) flat_nil))) ?_
      rintro _ w1218 _ Γ' E' S ⟨rfl, rfl⟩
      replace E := E.trans E'
      clear E'
      replace S : St w1218 M F [Blk b12 (.cells #[.slice A1114 x1113.length c1115, .int .i64 x1117] 47 (0, 0)), Row r_status_writer 49 (.slice A1114 x1113.length c1115) x1113, Blk b124 (.cells #[.slice A758 x757.length c759, .int .i64 x761] 47 (0, 0)), Row r_status_writer 49 (.slice A758 x757.length c759) x757] := S
      refine W_yes (congrArg some hb1213) ?_
      refine W_v (.pointer (some ⟨b124, 0, none⟩)) (x_move rfl) rfl ?_
      refine W_yes (congrArg some hb1213) ?_
      obtain ⟨t1221, ht1222, H⟩ := bindS H
      replace S : St w1218 M F [Blk b124 (.cells #[.slice A758 x757.length c759, .int .i64 x761] 47 (0, 0)), Row r_status_writer 49 (.slice A758 x757.length c759) x757, Blk b12 (.cells #[.slice A1114 x1113.length c1115, .int .i64 x1117] 47 (0, 0)), Row r_status_writer 49 (.slice A1114 x1113.length c1115) x1113] := S.pick [2, 3, 0, 1] (by decide)
      refine W_callF2 fn21 (status_Writers_Last_PO.con k M A758 c759 (⟨x757, x761⟩ : status_Writers) b124 t1221 hg0 ht1222) (Γ1 := [Blk b124 (.cells #[.slice A758 x757.length c759, .int .i64 x761] 47 (0, 0)), Row r_status_writer 49 (.slice A758 x757.length c759) x757]) (Γ2 := [Blk b12 (.cells #[.slice A1114 x1113.length c1115, .int .i64 x1117] 47 (0, 0)), Row r_status_writer 49 (.slice A1114 x1113.length c1115) x1113]) S rfl rfl (by rintro _ _ _ ⟨rfl, rfl⟩; exact (flat_cons flat_blk (flat_cons (flat_row (fun _ _ _ _ h => h)) flat_nil))) ?_
      rintro _ w1223 _ Γ' E' S ⟨rfl, rfl⟩
      replace E := E.trans E'
      clear E'
      replace S : St w1223 M F [Blk b124 (.cells #[.slice A758 x757.length c759, .int .i64 x761] 47 (0, 0)), Row r_status_writer 49 (.slice A758 x757.length c759) x757, Blk b12 (.cells #[.slice A1114 x1113.length c1115, .int .i64 x1117] 47 (0, 0)), Row r_status_writer 49 (.slice A1114 x1113.length c1115) x1113] := S
      refine W_yes (congrArg some hb1213) ?_
      refine W_v (.bool (t1216 == t1221)) (x_ibin rfl rfl rfl rfl) rfl ?_
      refine W_v (.bool (t1216 == t1221)) (x_pick (k := true) (congrArg Value.bool hb1213) rfl) rfl ?_
      refine Wl_nil ?_
      exact ⟨(t1216 == t1221), Option.some.inj H, ⟨rfl, trivial⟩, E, S.pick [] (by decide)⟩
    · skip
      refine W_no (skT hb1213) rfl ?_
      refine W_no (skT hb1213) rfl ?_
      refine W_no (skT hb1213) rfl ?_
      refine W_no (skT hb1213) rfl ?_
      refine W_no (skT hb1213) rfl ?_
      refine W_v (.bool false) (x_pick (k := false) (congrArg Value.bool hb1213) rfl) rfl ?_
      refine Wl_nil ?_
      exact ⟨false, Option.some.inj H, ⟨rfl, trivial⟩, E, S.pick [] (by decide)⟩
  clear o1215h
  rintro ρ w1226 ⟨x1214, rfl, hρ, E, S⟩
  rw [agree_eta hρ]
  clear hρ
  have H := o1215H
  clear o1215H
  refine W_v (.bool x1214) (x_assign rfl) rfl ?_
  refine Wl_nil ?_
  refine tn ?_
  refine Wp_ret ?_
  obtain rfl := Option.some.inj H
  exact ⟨_, _, _, fun w1 e1 => run_resR (vs := [.bool x1214]) (FA.cons (rfl) (FA.nil)), HM, E, S.pick [] (by decide), ⟨rfl, rfl⟩⟩
end Go.Proofs.YtbdelepfpnneoaaDoor
