import Derived.Test.YtbdelepfpnneoaaDoorGs1
namespace Go.Proofs.YtbdelepfpnneoaaDoor
open Go
set_option linter.unusedVariables false
set_option linter.unusedSimpArgs false
/-! ### ferryman/ferrymanlaw08.StatusPlays: function 5 -/
def ferrymanlaw08_StatusPlays_l6 : Nat → List Int → Int → Option ((Unit))
  | 0, _, _ => none
  | k + 1, x11450, x11454 => (if (decide (x11454 < (x11450.length : Int))) = true then (if 0 ≤ x11454 ∧ x11454 < (x11450.length : Int) then (Option.bind (α := List Int) (some (List.set x11450 x11454.toNat (-7 : Int))) (fun x11484 => ferrymanlaw08_StatusPlays_l6 k x11484 (IntKind.i64.wrap (x11454 + (1 : Int))))) else none) else some ())
set_option maxHeartbeats 2000000 in
theorem ferrymanlaw08_StatusPlays_l6.mono  : ∀ {k : Nat} {x0 x1}, OLe (ferrymanlaw08_StatusPlays_l6  k x0 x1) (ferrymanlaw08_StatusPlays_l6  (k + 1) x0 x1) := by
  intro k
  induction k with
  | zero => intros; exact OLe.none
  | succ k ih =>
    intros
    rw [ferrymanlaw08_StatusPlays_l6.eq_2, ferrymanlaw08_StatusPlays_l6.eq_2]
    repeat' (first | with_reducible exact OLe.none | with_reducible exact OLe.some | with_reducible refine OLe.ite ?_ ?_ | with_reducible refine OLe.bind ?_ (fun _ => ?_) | exact ih | refine OLe.bind ?_ (fun _ => ?_) | refine OLe.ite ?_ ?_ | refine OLe.elim (fun _ => ?_) (fun _ => ?_) | split)
def ferrymanlaw08_StatusPlays_l4 (a0 : (List ferrymanlaw08_Step)) : Nat → Int → List ferrymanref08_Writer → List status_writer → Int → Option ((Bool) ⊕ (List ferrymanref08_Writer × List status_writer × Int))
  | 0, _, _, _, _ => none
  | k + 1, x7667, x7668, x7672, x7676 => (if (decide (x7667 < (a0.length : Int))) = true then (Option.bind (status_Writers_Copy_PO k (⟨x7672, x7676⟩ : status_Writers)) (fun t9590 => (Option.bind (ferrymanref08_Writers_Copy_PR k (⟨x7668⟩ : ferrymanref08_Writers)) (fun t9600 => (if 0 ≤ x7667 ∧ x7667 < (a0.length : Int) then (Option.bind (ferrymanlaw08_Step_do_PO k (rd a0 x7667) (⟨x7672, x7676⟩ : status_Writers)) (fun t9624 => (Option.bind (α := Int × Int × List ferrymanref08_Writer) (Option.bind (α := Int × Int × List ferrymanref08_Writer) (if ((rd a0 x7667).What == (0 : Int)) = true then (Option.bind (ferrymanref08_Writers_Begin_PR k (⟨x7668⟩ : ferrymanref08_Writers)) (fun t10932 => some (t10932.1, (0 : Int), t10932.2.L))) else (Option.bind (α := Int × List ferrymanref08_Writer) (if ((rd a0 x7667).What == (1 : Int)) = true then (Option.bind (ferrymanref08_Writers_Commit_PR k (⟨x7668⟩ : ferrymanref08_Writers) ((rd a0 x7667).W) ((rd a0 x7667).TS)) (fun t11152 => some (t11152.1, t11152.2.L))) else (Option.bind (α := Int × List ferrymanref08_Writer) (if ((rd a0 x7667).What == (2 : Int)) = true then (Option.bind (ferrymanref08_Writers_Fall_PR k (⟨x7668⟩ : ferrymanref08_Writers) ((rd a0 x7667).W)) (fun t11259 => some (t11259.1, t11259.2.L))) else (Option.bind (α := Int × List ferrymanref08_Writer) (if ((rd a0 x7667).What == (3 : Int)) = true then (Option.bind (ferrymanref08_Writers_Fallen_PR k (⟨x7668⟩ : ferrymanref08_Writers) ((rd a0 x7667).W)) (fun t11311 => some (t11311.1, t11311.2.L))) else (Option.bind (ferrymanref08_Writers_Last_PR k (⟨x7668⟩ : ferrymanref08_Writers)) (fun t11334 => (Option.bind (ferrymanref08_Writers_Commit_PR k (⟨x7668⟩ : ferrymanref08_Writers) ((rd a0 x7667).W) (IntKind.i64.wrap (t11334 + (1 : Int)))) (fun t11339 => some (t11339.1, t11339.2.L)))))) (fun ⟨x11304, x11305⟩ => some (x11304, x11305)))) (fun ⟨x11252, x11253⟩ => some (x11252, x11253)))) (fun ⟨x11145, x11146⟩ => some ((0 : Int), x11145, x11146)))) (fun ⟨x10924, x10925, x10926⟩ => some (x10924, x10925, x10926))) (fun ⟨x10494, x10495, x10496⟩ => (Option.bind (α := Bool) (if ((t9624.1 != x10494) || (t9624.2.1 != x10495)) = true then some (true) else (Option.bind (ferrymanlaw08_like_PO_PR k t9624.2.2 (⟨x10496⟩ : ferrymanref08_Writers)) (fun t11376 => some ((!t11376))))) (fun x11374 => (Option.bind (α := Bool) (if x11374 = true then some (true) else (Option.bind (ferrymanlaw08_like_PO_PR k t9590 t9600) (fun t11395 => some ((!t11395))))) (fun x11393 => (if x11393 = true then some (.inl false) else (Option.bind (status_Writers_Busy_PO k t9624.2.2) (fun t11402 => (Option.bind (ferrymanlaw08_StatusPlays_l6 k t11402 (0 : Int)) (fun _ => ferrymanlaw08_StatusPlays_l4 a0 k (IntKind.i64.wrap (x7667 + (1 : Int))) x10496 t9624.2.2.l t9624.2.2.last))))))))))))) else none))))) else some (.inr (x7668, x7672, x7676)))
set_option maxHeartbeats 2000000 in
theorem ferrymanlaw08_StatusPlays_l4.mono {a0 : (List ferrymanlaw08_Step)} : ∀ {k : Nat} {x0 x1 x2 x3}, OLe (ferrymanlaw08_StatusPlays_l4 a0 k x0 x1 x2 x3) (ferrymanlaw08_StatusPlays_l4 a0 (k + 1) x0 x1 x2 x3) := by
  intro k
  induction k with
  | zero => intros; exact OLe.none
  | succ k ih =>
    intros
    rw [ferrymanlaw08_StatusPlays_l4.eq_2, ferrymanlaw08_StatusPlays_l4.eq_2]
    repeat' (first | with_reducible exact OLe.none | with_reducible exact OLe.some | with_reducible refine OLe.ite ?_ ?_ | with_reducible refine OLe.bind ?_ (fun _ => ?_) | with_reducible exact ferrymanlaw08_StatusPlays_l6.mono | with_reducible exact ferrymanlaw08_Step_do_PO.mono | with_reducible exact ferrymanlaw08_like_PO_PR.mono | with_reducible exact ferrymanref08_Writers_Begin_PR.mono | with_reducible exact ferrymanref08_Writers_Commit_PR.mono | with_reducible exact ferrymanref08_Writers_Copy_PR.mono | with_reducible exact ferrymanref08_Writers_Fall_PR.mono | with_reducible exact ferrymanref08_Writers_Fallen_PR.mono | with_reducible exact ferrymanref08_Writers_Last_PR.mono | with_reducible exact status_Writers_Busy_PO.mono | with_reducible exact status_Writers_Copy_PO.mono | exact ih | refine OLe.bind ?_ (fun _ => ?_) | refine OLe.ite ?_ ?_ | refine OLe.elim (fun _ => ?_) (fun _ => ?_) | split)
def ferrymanlaw08_StatusPlays (k : Nat) (a0 : (List ferrymanlaw08_Step)) : Option (Bool) :=
  (if (decide ((a0.length : Int) > (120 : Int))) = true then (Option.bind (ferrymanlaw08_works k ) (fun t2 => some t2)) else (Option.bind (status_New k ) (fun t5 => (Option.bind (ferrymanref08_New k ) (fun t15 => (Option.bind (ferrymanlaw08_StatusPlays_l4 a0 k (0 : Int) t15.L t5.l t5.last) (fun o9585o => Sum.elim (fun r' => some r') (fun ⟨x9576, x9580, x9584⟩ => (Option.bind (ferrymanlaw08_like_PO_PR k (⟨x9580, x9584⟩ : status_Writers) (⟨x9576⟩ : ferrymanref08_Writers)) (fun t11491 => (Option.bind (α := Bool) (if t11491 = true then (Option.bind (ferrymanlaw08_works k ) (fun t11505 => some (t11505))) else some (false)) (fun x11503 => some x11503))))) o9585o)))))))
set_option maxHeartbeats 2000000 in
theorem ferrymanlaw08_StatusPlays.mono {k : Nat} {a0 : (List ferrymanlaw08_Step)} : OLe (ferrymanlaw08_StatusPlays k a0) (ferrymanlaw08_StatusPlays (k + 1) a0) := by
  unfold ferrymanlaw08_StatusPlays
  repeat' (first | with_reducible exact OLe.none | with_reducible exact OLe.some | with_reducible refine OLe.ite ?_ ?_ | with_reducible refine OLe.bind ?_ (fun _ => ?_) | with_reducible exact ferrymanlaw08_StatusPlays_l4.mono | with_reducible exact ferrymanlaw08_like_PO_PR.mono | with_reducible exact ferrymanlaw08_works.mono | with_reducible exact ferrymanref08_New.mono | with_reducible exact status_New.mono | refine OLe.bind ?_ (fun _ => ?_) | refine OLe.ite ?_ ?_ | refine OLe.elim (fun _ => ?_) (fun _ => ?_) | split)
set_option maxHeartbeats 8000000 in
set_option maxRecDepth 100000 in
theorem ferrymanlaw08_StatusPlays.con (k : Nat) (M : Hp) (A0 : Option Addr) (c0 : Nat) (a0 : (List ferrymanlaw08_Step)) (r : Bool) (hr0 : SlR r_ferrymanlaw08_Step M (.slice A0 a0.length c0) a0) (hg0 : ∃ gt fr, M 0 = some (.cells #[.int .u8 0, .int .u8 0, .int .u8 1, .int .u8 1, .int .u8 2] gt fr)) (h : ferrymanlaw08_StatusPlays k a0 = some r) : Con Tryd.prog 5 #[.slice A0 a0.length c0] M [] (fun v M' Γ' => v = .bool r ∧ Γ' = []) := by
  refine con_of_wp Tryd.func5 rfl Tryd.ntmps5 Tryd.results5 rfl ?_
  intro w F rn S hrn
  have E := Ext.refl w
  have HM := Hp.le_refl M
  have H := h
  unfold ferrymanlaw08_StatusPlays at H
  refine Wp_seq ?_
  refine Wp_region_lit ?_
  refine W_v (.bool false) (x_assign rfl) rfl ?_
  refine Wl_nil ?_
  refine tn ?_
  refine Wp_seq ?_
  refine Wp_seq ?_
  refine Wp_region_lit ?_
  refine W_v (.slice A0 a0.length c0) (x_move rfl) rfl ?_
  refine W_v (.int .i64 (a0.length : Int)) (x_len_slice (n := a0.length) Tryd.underlying22 rfl) rfl ?_
  refine W_v (.bool (decide ((a0.length : Int) > (120 : Int)))) (x_ibin rfl rfl rfl rfl) rfl ?_
  refine Wl_nil ?_
  refine tn ?_
  rcases iteS H with ⟨hb1, H⟩ | ⟨hb1, H⟩
  · refine Wp_cond_true (congrArg Value.bool hb1) ?_
    refine Wp_seq ?_
    refine Wp_region_lit ?_
    obtain ⟨t2, ht3, H⟩ := bindS H
    refine W_callF fn8 (ferrymanlaw08_works.con k M  t2 hg0 ht3) S rfl rfl (by rintro _ _ _ ⟨_, rfl⟩; exact flat_nil) ?_
    rintro _ w4 _ Γ' E' S ⟨rfl, rfl⟩
    replace E := E.trans E'
    clear E'
    refine W_v (.bool t2) (x_assign rfl) rfl ?_
    refine Wl_nil ?_
    refine tn ?_
    refine Wp_ret ?_
    refine tr (?_)
    obtain rfl := Option.some.inj H
    exact ⟨_, _, _, fun w1 e1 => run_resR (vs := [.bool t2]) (FA.cons (rfl) (FA.nil)), HM, E, S.pick [] (by decide), ⟨rfl, rfl⟩⟩
  refine Wp_cond_false (congrArg Value.bool hb1) ?_
  refine Wp_skip ?_
  refine tn ?_
  refine Wp_seq ?_
  refine Wp_region_lit ?_
  obtain ⟨t5, ht6, H⟩ := bindS H
  refine W_callF2 fn9 (status_New.con k M  t5 hg0 ht6) (Γ1 := []) (Γ2 := []) S rfl rfl (by rintro _ _ _ ⟨_, _, _, rfl, rfl⟩; exact (flat_cons flat_blk (flat_cons (flat_row (fun _ _ _ _ h => h)) flat_nil))) ?_
  rintro _ w12 _ Γ' E' S ⟨b7, A9, c10, rfl, rfl⟩
  replace E := E.trans E'
  clear E'
  replace S : St w12 M F [Blk b7 (.cells #[.slice A9 t5.l.length c10, .int .i64 t5.last] 47 (0, 0)), Row r_status_writer 49 (.slice A9 t5.l.length c10) t5.l] := S
  obtain ⟨t15, ht16, H⟩ := bindS H
  refine W_callF2 fn23 (ferrymanref08_New.con k M  t15 hg0 ht16) (Γ1 := []) (Γ2 := [Blk b7 (.cells #[.slice A9 t5.l.length c10, .int .i64 t5.last] 47 (0, 0)), Row r_status_writer 49 (.slice A9 t5.l.length c10) t5.l]) S rfl rfl (by rintro _ _ _ ⟨_, _, _, rfl, rfl⟩; exact (flat_cons flat_blk (flat_cons (flat_row (fun _ _ _ _ h => h)) flat_nil))) ?_
  rintro _ w22 _ Γ' E' S ⟨b17, A19, c20, rfl, rfl⟩
  replace E := E.trans E'
  clear E'
  replace S : St w22 M F [Blk b17 (.cells #[.slice A19 t15.L.length c20] 58 (0, 0)), Row r_ferrymanref08_Writer 60 (.slice A19 t15.L.length c20) t15.L, Blk b7 (.cells #[.slice A9 t5.l.length c10, .int .i64 t5.last] 47 (0, 0)), Row r_status_writer 49 (.slice A9 t5.l.length c10) t5.l] := S
  refine W_v (.pointer (some ⟨b7, 0, none⟩)) (x_assign rfl) rfl ?_
  refine W_v (.pointer (some ⟨b17, 0, none⟩)) (x_assign rfl) rfl ?_
  refine Wl_nil ?_
  refine tn ?_
  refine Wp_seq ?_
  refine Wp_seq ?_
  refine Wp_region_lit ?_
  refine W_v (.int .i64 0) (x_assign rfl) rfl ?_
  refine Wl_nil ?_
  refine tn ?_
  obtain ⟨M3846, hM3847, hf3848, S⟩ := S.row_freeze 1 rfl
  replace hg0 : ∃ gt fr, _ := (let ⟨gt, fr, h8⟩ := hg0; ⟨gt, fr, hM3847 _ _ h8⟩)
  replace HM := Hp.le_trans HM hM3847
  replace hr0 := SlR.mono hr0 hM3847
  obtain ⟨o9585, o9585h, o9585H⟩ := bindS H
  clear H
  refine Wp_blockJ (fun ρ w' => ∃ (x9576 : List ferrymanref08_Writer) (x9580 : List status_writer) (x9584 : Int) (A9577 : Option Addr) (c9578 : Nat) (A9581 : Option Addr) (c9582 : Nat) (Mj : Hp), .inr (x9576, x9580, x9584) = o9585 ∧ Agree ρ [(3, .pointer (some ⟨b7, 0, none⟩)), (4, .pointer (some ⟨b17, 0, none⟩))] ∧ M3846.le Mj ∧ Ext w w' ∧ St w' Mj F [Row r_status_writer 49 (.slice A9581 x9580.length c9582) x9580, Blk b17 (.cells #[.slice A9577 x9576.length c9578] 58 (0, 0)), Blk b7 (.cells #[.slice A9581 x9580.length c9582, .int .i64 x9584] 47 (0, 0))] ∧ SlR r_ferrymanref08_Writer Mj (.slice A9577 x9576.length c9578) x9576) ?_ ?_
  · skip
    refine Wp_loop (fun n ρ w' => ∃ (x7667 : Int) (x7668 : List ferrymanref08_Writer) (x7672 : List status_writer) (x7676 : Int) (A7669 : Option Addr) (c7670 : Nat) (A7673 : Option Addr) (c7674 : Nat) (Mj : Hp), ferrymanlaw08_StatusPlays_l4 a0 n x7667 x7668 x7672 x7676 = some o9585 ∧ Agree ρ [(0, .slice A0 a0.length c0), (3, .pointer (some ⟨b7, 0, none⟩)), (4, .pointer (some ⟨b17, 0, none⟩)), (5, .int .i64 x7667)] ∧ M3846.le Mj ∧ Ext w w' ∧ St w' Mj F [Row r_status_writer 49 (.slice A7673 x7672.length c7674) x7672, Blk b17 (.cells #[.slice A7669 x7668.length c7670] 58 (0, 0)), Blk b7 (.cells #[.slice A7673 x7672.length c7674, .int .i64 x7676] 47 (0, 0))] ∧ SlR r_ferrymanref08_Writer Mj (.slice A7669 x7668.length c7670) x7668) k ?_ ?_
    · skip
      exact ⟨(0 : Int), t15.L, t5.l, t5.last, A19, c20, A9, c10, M3846, o9585h, ⟨rfl, rfl, rfl, rfl, trivial⟩, (Hp.le_refl M3846), E, S.pick [2, 0, 1] (by decide), hf3848⟩
    · intro n
      rintro ρ w9586 ⟨x7667, x7668, x7672, x7676, A7669, c7670, A7673, c7674, M9587, H, hρ, hM9588, E, S, hs7671⟩
      rw [agree_eta hρ]
      clear hρ
      replace hg0 : ∃ gt fr, _ := (let ⟨gt, fr, h8⟩ := hg0; ⟨gt, fr, hM9588 _ _ h8⟩)
      replace HM := Hp.le_trans HM hM9588
      replace hr0 := SlR.mono hr0 hM9588
      replace hf3848 := SlR.mono hf3848 hM9588
      cases n with
      | zero => cases H
      | succ k =>
        rw [ferrymanlaw08_StatusPlays_l4.eq_2] at H
        refine Wp_seq ?_
        refine Wp_seq ?_
        refine Wp_region_lit ?_
        refine W_v (.int .i64 x7667) (x_move rfl) rfl ?_
        refine W_v (.slice A0 a0.length c0) (x_move rfl) rfl ?_
        refine W_v (.int .i64 (a0.length : Int)) (x_len_slice (n := a0.length) Tryd.underlying22 rfl) rfl ?_
        refine W_v (.bool (decide (x7667 < (a0.length : Int)))) (x_ibin rfl rfl rfl rfl) rfl ?_
        refine Wl_nil ?_
        refine tn ?_
        rcases iteS H with ⟨hb9589, H⟩ | ⟨hb9589, H⟩
        · refine Wp_cond_true (congrArg Value.bool hb9589) ?_
          refine Wp_skip ?_
          refine tn ?_
          refine Wp_seq ?_
          refine Wp_block ?_
          refine Wp_seq ?_
          refine Wp_region_lit ?_
          refine W_v (.pointer (some ⟨b7, 0, none⟩)) (x_move rfl) rfl ?_
          obtain ⟨t9590, ht9591, H⟩ := bindS H
          replace S : St w9586 M9587 F [Blk b7 (.cells #[.slice A7673 x7672.length c7674, .int .i64 x7676] 47 (0, 0)), Row r_status_writer 49 (.slice A7673 x7672.length c7674) x7672, Blk b17 (.cells #[.slice A7669 x7668.length c7670] 58 (0, 0))] := S.pick [2, 0, 1] (by decide)
          refine W_callF2 fn22 (status_Writers_Copy_PO.con k M9587 A7673 c7674 (⟨x7672, x7676⟩ : status_Writers) b7 t9590 hg0 ht9591) (Γ1 := [Blk b7 (.cells #[.slice A7673 x7672.length c7674, .int .i64 x7676] 47 (0, 0)), Row r_status_writer 49 (.slice A7673 x7672.length c7674) x7672]) (Γ2 := [Blk b17 (.cells #[.slice A7669 x7668.length c7670] 58 (0, 0))]) S rfl rfl (by rintro _ _ _ ⟨_, _, _, rfl, rfl⟩; exact (flat_cons flat_blk (flat_cons (flat_row (fun _ _ _ _ h => h)) (flat_cons flat_blk (flat_cons (flat_row (fun _ _ _ _ h => h)) flat_nil))))) ?_
          rintro _ w9597 _ Γ' E' S ⟨b9592, A9594, c9595, rfl, rfl⟩
          replace E := E.trans E'
          clear E'
          replace S : St w9597 M9587 F [Blk b9592 (.cells #[.slice A9594 t9590.l.length c9595, .int .i64 t9590.last] 47 (0, 0)), Row r_status_writer 49 (.slice A9594 t9590.l.length c9595) t9590.l, Blk b7 (.cells #[.slice A7673 x7672.length c7674, .int .i64 x7676] 47 (0, 0)), Row r_status_writer 49 (.slice A7673 x7672.length c7674) x7672, Blk b17 (.cells #[.slice A7669 x7668.length c7670] 58 (0, 0))] := S
          refine W_v (.pointer (some ⟨b17, 0, none⟩)) (x_move rfl) rfl ?_
          obtain ⟨t9600, ht9601, H⟩ := bindS H
          replace S : St w9597 M9587 F [Blk b17 (.cells #[.slice A7669 x7668.length c7670] 58 (0, 0)), Blk b9592 (.cells #[.slice A9594 t9590.l.length c9595, .int .i64 t9590.last] 47 (0, 0)), Row r_status_writer 49 (.slice A9594 t9590.l.length c9595) t9590.l, Blk b7 (.cells #[.slice A7673 x7672.length c7674, .int .i64 x7676] 47 (0, 0)), Row r_status_writer 49 (.slice A7673 x7672.length c7674) x7672] := S.pick [4, 0, 1, 2, 3] (by decide)
          refine W_call fn24 (ferrymanref08_Writers_Copy_PR.con k M9587 A7669 c7670 (⟨x7668⟩ : ferrymanref08_Writers) b17 t9600 hs7671 hg0 ht9601) (Γ1 := [Blk b17 (.cells #[.slice A7669 x7668.length c7670] 58 (0, 0))]) (Γ2 := [Blk b9592 (.cells #[.slice A9594 t9590.l.length c9595, .int .i64 t9590.last] 47 (0, 0)), Row r_status_writer 49 (.slice A9594 t9590.l.length c9595) t9590.l, Blk b7 (.cells #[.slice A7673 x7672.length c7674, .int .i64 x7676] 47 (0, 0)), Row r_status_writer 49 (.slice A7673 x7672.length c7674) x7672]) S rfl rfl ?_
          rintro _ w9607 M9608 Γ' hM9609 E' S ⟨b9602, A9604, c9605, rfl, hs9606, rfl⟩
          replace hg0 : ∃ gt fr, _ := (let ⟨gt, fr, h8⟩ := hg0; ⟨gt, fr, hM9609 _ _ h8⟩)
          replace HM := Hp.le_trans HM hM9609
          replace hM9588 := Hp.le_trans hM9588 hM9609
          replace hr0 := SlR.mono hr0 hM9609
          replace hf3848 := SlR.mono hf3848 hM9609
          replace hs7671 := SlR.mono hs7671 hM9609
          replace E := E.trans E'
          clear E'
          replace S : St w9607 M9608 F [Blk b9602 (.cells #[.slice A9604 t9600.L.length c9605] 58 (0, 0)), Blk b17 (.cells #[.slice A7669 x7668.length c7670] 58 (0, 0)), Blk b9592 (.cells #[.slice A9594 t9590.l.length c9595, .int .i64 t9590.last] 47 (0, 0)), Row r_status_writer 49 (.slice A9594 t9590.l.length c9595) t9590.l, Blk b7 (.cells #[.slice A7673 x7672.length c7674, .int .i64 x7676] 47 (0, 0)), Row r_status_writer 49 (.slice A7673 x7672.length c7674) x7672] := S
          refine W_v (.pointer (some ⟨b9592, 0, none⟩)) (x_assign rfl) rfl ?_
          refine W_v (.pointer (some ⟨b9602, 0, none⟩)) (x_assign rfl) rfl ?_
          refine Wl_nil ?_
          refine tn ?_
          refine Wp_seq ?_
          refine Wp_region_lit ?_
          refine W_v (.slice A0 a0.length c0) (x_move rfl) rfl ?_
          refine W_v (.int .i64 x7667) (x_move rfl) rfl ?_
          obtain ⟨⟨p9610, p9611⟩, H⟩ := chkS H
          obtain ⟨b9612, o9613, cs9614, _, _, ee9619, hb9615, vs9616, hR9617, hc9618⟩ := SlW.at' hr0 p9610 p9611
          obtain rfl : vs9616 = _ := hR9617
          refine W_v (.pointer (some ⟨b9612, o9613 + x7667.toNat * 3, none⟩)) (x_indexAddr Tryd.underlying22 ty30 (slA ee9619) rfl p9610 p9611) rfl ?_
          refine W_v (.agg #[.int .u8 ((rd a0 x7667).What), .int .i64 ((rd a0 x7667).W), .int .i64 ((rd a0 x7667).TS)]) (x_loadA (S.frz hb9615) ty30 rfl (sub_el hc9618 0 rfl) rfl rfl) rfl ?_
          refine W_alloc S #[.int .u8 0, .int .i64 0, .int .i64 0] ty30 rfl rfl ?_
          intro b9620 w9621 E' S
          replace E := E.trans E'
          clear E'
          refine W_store S 0 rfl ty30 rfl rfl [.int .u8 ((rd a0 x7667).What), .int .i64 ((rd a0 x7667).W), .int .i64 ((rd a0 x7667).TS)] rfl rfl rfl #[.int .u8 ((rd a0 x7667).What), .int .i64 ((rd a0 x7667).W), .int .i64 ((rd a0 x7667).TS)] rfl rfl ?_
          intro w9623 E' S
          replace E := E.trans E'
          clear E'
          refine Wl_nil ?_
          refine tn ?_
          refine Wp_seq ?_
          refine Wp_region_lit ?_
          refine W_v (.agg #[.int .u8 ((rd a0 x7667).What), .int .i64 ((rd a0 x7667).W), .int .i64 ((rd a0 x7667).TS)]) (x_loadA (S.blk 0 rfl) ty30 rfl (sub_of_extract rfl) rfl rfl) rfl ?_
          refine W_v (.pointer (some ⟨b7, 0, none⟩)) (x_move rfl) rfl ?_
          obtain ⟨t9624, ht9625, H⟩ := bindS H
          replace S : St w9623 M9608 F [Blk b7 (.cells #[.slice A7673 x7672.length c7674, .int .i64 x7676] 47 (0, 0)), Row r_status_writer 49 (.slice A7673 x7672.length c7674) x7672, Blk b9620 (.cells #[.int .u8 ((rd a0 x7667).What), .int .i64 ((rd a0 x7667).W), .int .i64 ((rd a0 x7667).TS)] 30 (0, 0)), Blk b9602 (.cells #[.slice A9604 t9600.L.length c9605] 58 (0, 0)), Blk b17 (.cells #[.slice A7669 x7668.length c7670] 58 (0, 0)), Blk b9592 (.cells #[.slice A9594 t9590.l.length c9595, .int .i64 t9590.last] 47 (0, 0)), Row r_status_writer 49 (.slice A9594 t9590.l.length c9595) t9590.l] := S.pick [5, 6, 0, 1, 2, 3, 4] (by decide)
          refine W_callF2 fn11 (ferrymanlaw08_Step_do_PO.con k M9608 (rd a0 x7667) A7673 c7674 (⟨x7672, x7676⟩ : status_Writers) b7 t9624 hg0 ht9625) (Γ1 := [Blk b7 (.cells #[.slice A7673 x7672.length c7674, .int .i64 x7676] 47 (0, 0)), Row r_status_writer 49 (.slice A7673 x7672.length c7674) x7672]) (Γ2 := [Blk b9620 (.cells #[.int .u8 ((rd a0 x7667).What), .int .i64 ((rd a0 x7667).W), .int .i64 ((rd a0 x7667).TS)] 30 (0, 0)), Blk b9602 (.cells #[.slice A9604 t9600.L.length c9605] 58 (0, 0)), Blk b17 (.cells #[.slice A7669 x7668.length c7670] 58 (0, 0)), Blk b9592 (.cells #[.slice A9594 t9590.l.length c9595, .int .i64 t9590.last] 47 (0, 0)), Row r_status_writer 49 (.slice A9594 t9590.l.length c9595) t9590.l]) S rfl rfl (by rintro _ _ _ ⟨_, _, rfl, rfl⟩; exact (flat_cons flat_blk (flat_cons (flat_row (fun _ _ _ _ h => h)) flat_nil))) ?_
          rintro _ w9629 _ Γ' E' S ⟨A9626, c9627, rfl, rfl⟩
          replace E := E.trans E'
          clear E'
          replace S : St w9629 M9608 F [Blk b7 (.cells #[.slice A9626 t9624.2.2.l.length c9627, .int .i64 t9624.2.2.last] 47 (0, 0)), Row r_status_writer 49 (.slice A9626 t9624.2.2.l.length c9627) t9624.2.2.l, Blk b9620 (.cells #[.int .u8 ((rd a0 x7667).What), .int .i64 ((rd a0 x7667).W), .int .i64 ((rd a0 x7667).TS)] 30 (0, 0)), Blk b9602 (.cells #[.slice A9604 t9600.L.length c9605] 58 (0, 0)), Blk b17 (.cells #[.slice A7669 x7668.length c7670] 58 (0, 0)), Blk b9592 (.cells #[.slice A9594 t9590.l.length c9595, .int .i64 t9590.last] 47 (0, 0)), Row r_status_writer 49 (.slice A9594 t9590.l.length c9595) t9590.l] := S
          refine W_v (.tuple #[.int .i64 t9624.1, .int .i64 t9624.2.1]) (x_move rfl) rfl ?_
          refine W_v (.int .i64 t9624.1) (x_extract rfl rfl) rfl ?_
          refine W_v (.int .i64 t9624.2.1) (x_extract rfl rfl) rfl ?_
          refine W_v (.int .i64 t9624.1) (x_assign rfl) rfl ?_
          refine W_v (.int .i64 t9624.2.1) (x_assign rfl) rfl ?_
          refine Wl_nil ?_
          refine tn ?_
          refine Wp_seq ?_
          refine Wp_region_lit ?_
          refine W_v (.int .i64 0) (x_assign rfl) rfl ?_
          refine W_v (.int .i64 0) (x_assign rfl) rfl ?_
          refine Wl_nil ?_
          refine tn ?_
          refine Wp_seq ?_
          refine Wp_seq ?_
          refine Wp_region_lit ?_
          refine W_v (.pointer (some ⟨b9620, 0, none⟩)) (x_fieldAddr (o := 0) (off := 0) Tryd.underlying30 rfl ty5 rfl rfl) rfl ?_
          refine W_v (.int .u8 ((rd a0 x7667).What)) (x_load (S.blk 2 rfl) ty5 rfl rfl) rfl ?_
          refine Wl_nil ?_
          refine tn ?_
          obtain ⟨o10500, o10500h, o10500H⟩ := bindS H
          refine Wp_cut (fun ρ w' => ∃ (x10494 : Int) (x10495 : Int) (x10496 : List ferrymanref08_Writer) (A10497 : Option Addr) (c10498 : Nat) (Mj : Hp), (x10494, x10495, x10496) = o10500 ∧ Agree ρ [(0, .slice A0 a0.length c0), (3, .pointer (some ⟨b7, 0, none⟩)), (4, .pointer (some ⟨b17, 0, none⟩)), (5, .int .i64 x7667), (6, .pointer (some ⟨b9592, 0, none⟩)), (7, .pointer (some ⟨b9602, 0, none⟩)), (9, .int .i64 t9624.1), (10, .int .i64 t9624.2.1), (11, .int .i64 x10494), (12, .int .i64 x10495)] ∧ M9608.le Mj ∧ Ext w w' ∧ St w' Mj F [Blk b17 (.cells #[.slice A10497 x10496.length c10498] 58 (0, 0)), Blk b7 (.cells #[.slice A9626 t9624.2.2.l.length c9627, .int .i64 t9624.2.2.last] 47 (0, 0)), Row r_status_writer 49 (.slice A9626 t9624.2.2.l.length c9627) t9624.2.2.l, Blk b9602 (.cells #[.slice A9604 t9600.L.length c9605] 58 (0, 0)), Blk b9592 (.cells #[.slice A9594 t9590.l.length c9595, .int .i64 t9590.last] 47 (0, 0)), Row r_status_writer 49 (.slice A9594 t9590.l.length c9595) t9590.l] ∧ SlR r_ferrymanref08_Writer Mj (.slice A10497 x10496.length c10498) x10496) ?_ ?_
          · clear o10500H
            have H := o10500h
            clear o10500h
            have LE10501 := Hp.le_refl M9608
            refine Wp_block ?_
            refine Wp_seq ?_
            refine Wp_region_lit ?_
            refine W_v (.bool ((rd a0 x7667).What == (0 : Int))) (x_ibin rfl rfl rfl rfl) rfl ?_
            refine W_v (.bool ((rd a0 x7667).What == (0 : Int))) (x_assign rfl) rfl ?_
            refine Wl_nil ?_
            refine tn ?_
            obtain ⟨o10930, o10930h, o10930H⟩ := bindS H
            refine Wp_cut (fun ρ w' => ∃ (x10924 : Int) (x10925 : Int) (x10926 : List ferrymanref08_Writer) (A10927 : Option Addr) (c10928 : Nat) (Mj : Hp), (x10924, x10925, x10926) = o10930 ∧ Agree ρ [(0, .slice A0 a0.length c0), (3, .pointer (some ⟨b7, 0, none⟩)), (4, .pointer (some ⟨b17, 0, none⟩)), (5, .int .i64 x7667), (6, .pointer (some ⟨b9592, 0, none⟩)), (7, .pointer (some ⟨b9602, 0, none⟩)), (9, .int .i64 t9624.1), (10, .int .i64 t9624.2.1), (11, .int .i64 x10924), (12, .int .i64 x10925)] ∧ M9608.le Mj ∧ Ext w w' ∧ St w' Mj F [Blk b17 (.cells #[.slice A10927 x10926.length c10928] 58 (0, 0)), Blk b7 (.cells #[.slice A9626 t9624.2.2.l.length c9627, .int .i64 t9624.2.2.last] 47 (0, 0)), Row r_status_writer 49 (.slice A9626 t9624.2.2.l.length c9627) t9624.2.2.l, Blk b9602 (.cells #[.slice A9604 t9600.L.length c9605] 58 (0, 0)), Blk b9592 (.cells #[.slice A9594 t9590.l.length c9595, .int .i64 t9590.last] 47 (0, 0)), Row r_status_writer 49 (.slice A9594 t9590.l.length c9595) t9590.l] ∧ SlR r_ferrymanref08_Writer Mj (.slice A10927 x10926.length c10928) x10926) ?_ ?_
            · clear o10930H
              have H := o10930h
              clear o10930h
              rcases iteS H with ⟨hb10931, H⟩ | ⟨hb10931, H⟩
              · refine Wp_cond_true (congrArg Value.bool hb10931) ?_
                refine Wp_region_lit ?_
                refine W_v (.pointer (some ⟨b17, 0, none⟩)) (x_move rfl) rfl ?_
                obtain ⟨t10932, ht10933, H⟩ := bindS H
                replace S : St w9629 M9608 F [Blk b17 (.cells #[.slice A7669 x7668.length c7670] 58 (0, 0)), Blk b7 (.cells #[.slice A9626 t9624.2.2.l.length c9627, .int .i64 t9624.2.2.last] 47 (0, 0)), Row r_status_writer 49 (.slice A9626 t9624.2.2.l.length c9627) t9624.2.2.l, Blk b9620 (.cells #[.int .u8 ((rd a0 x7667).What), .int .i64 ((rd a0 x7667).W), .int .i64 ((rd a0 x7667).TS)] 30 (0, 0)), Blk b9602 (.cells #[.slice A9604 t9600.L.length c9605] 58 (0, 0)), Blk b9592 (.cells #[.slice A9594 t9590.l.length c9595, .int .i64 t9590.last] 47 (0, 0)), Row r_status_writer 49 (.slice A9594 t9590.l.length c9595) t9590.l] := S.pick [4, 0, 1, 2, 3, 5, 6] (by decide)
                refine W_callF2 fn25 (ferrymanref08_Writers_Begin_PR.con k M9608 A7669 c7670 (⟨x7668⟩ : ferrymanref08_Writers) b17 t10932 hs7671 hg0 ht10933) (Γ1 := [Blk b17 (.cells #[.slice A7669 x7668.length c7670] 58 (0, 0))]) (Γ2 := [Blk b7 (.cells #[.slice A9626 t9624.2.2.l.length c9627, .int .i64 t9624.2.2.last] 47 (0, 0)), Row r_status_writer 49 (.slice A9626 t9624.2.2.l.length c9627) t9624.2.2.l, Blk b9620 (.cells #[.int .u8 ((rd a0 x7667).What), .int .i64 ((rd a0 x7667).W), .int .i64 ((rd a0 x7667).TS)] 30 (0, 0)), Blk b9602 (.cells #[.slice A9604 t9600.L.length c9605] 58 (0, 0)), Blk b9592 (.cells #[.slice A9594 t9590.l.length c9595, .int .i64 t9590.last] 47 (0, 0)), Row r_status_writer 49 (.slice A9594 t9590.l.length c9595) t9590.l]) S rfl rfl (by rintro _ _ _ ⟨_, _, rfl, rfl⟩; exact (flat_cons flat_blk (flat_cons (flat_row (fun _ _ _ _ h => h)) flat_nil))) ?_
                rintro _ w10937 _ Γ' E' S ⟨A10934, c10935, rfl, rfl⟩
                replace E := E.trans E'
                clear E'
                replace S : St w10937 M9608 F [Blk b17 (.cells #[.slice A10934 t10932.2.L.length c10935] 58 (0, 0)), Row r_ferrymanref08_Writer 60 (.slice A10934 t10932.2.L.length c10935) t10932.2.L, Blk b7 (.cells #[.slice A9626 t9624.2.2.l.length c9627, .int .i64 t9624.2.2.last] 47 (0, 0)), Row r_status_writer 49 (.slice A9626 t9624.2.2.l.length c9627) t9624.2.2.l, Blk b9620 (.cells #[.int .u8 ((rd a0 x7667).What), .int .i64 ((rd a0 x7667).W), .int .i64 ((rd a0 x7667).TS)] 30 (0, 0)), Blk b9602 (.cells #[.slice A9604 t9600.L.length c9605] 58 (0, 0)), Blk b9592 (.cells #[.slice A9594 t9590.l.length c9595, .int .i64 t9590.last] 47 (0, 0)), Row r_status_writer 49 (.slice A9594 t9590.l.length c9595) t9590.l] := S
                refine W_v (.int .i64 t10932.1) (x_assign rfl) rfl ?_
                refine Wl_nil ?_
                refine tn ?_
                obtain ⟨M10940, hM10941, hf10942, S⟩ := S.row_freeze 1 rfl
                replace hg0 : ∃ gt fr, _ := (let ⟨gt, fr, h8⟩ := hg0; ⟨gt, fr, hM10941 _ _ h8⟩)
                replace HM := Hp.le_trans HM hM10941
                replace hM9588 := Hp.le_trans hM9588 hM10941
                replace LE10501 := Hp.le_trans LE10501 hM10941
                replace hr0 := SlR.mono hr0 hM10941
                replace hf3848 := SlR.mono hf3848 hM10941
                replace hs7671 := SlR.mono hs7671 hM10941
                replace hs9606 := SlR.mono hs9606 hM10941
                replace hb9615 := hM10941 _ _ hb9615
                exact ⟨t10932.1, (0 : Int), t10932.2.L, A10934, c10935, M10940, Option.some.inj H, ⟨rfl, rfl, rfl, rfl, rfl, rfl, rfl, rfl, rfl, rfl, trivial⟩, LE10501, E, S.pick [0, 1, 2, 4, 5, 6] (by decide), hf10942⟩
              refine Wp_cond_false (congrArg Value.bool hb10931) ?_
              refine Wp_seq ?_
              refine Wp_region_lit ?_
              refine W_v (.bool ((rd a0 x7667).What == (1 : Int))) (x_ibin rfl rfl rfl rfl) rfl ?_
              refine W_v (.bool ((rd a0 x7667).What == (1 : Int))) (x_assign rfl) rfl ?_
              refine Wl_nil ?_
              refine tn ?_
              obtain ⟨o11150, o11150h, o11150H⟩ := bindS H
              refine Wp_cut (fun ρ w' => ∃ (x11145 : Int) (x11146 : List ferrymanref08_Writer) (A11147 : Option Addr) (c11148 : Nat) (Mj : Hp), (x11145, x11146) = o11150 ∧ Agree ρ [(0, .slice A0 a0.length c0), (3, .pointer (some ⟨b7, 0, none⟩)), (4, .pointer (some ⟨b17, 0, none⟩)), (5, .int .i64 x7667), (6, .pointer (some ⟨b9592, 0, none⟩)), (7, .pointer (some ⟨b9602, 0, none⟩)), (9, .int .i64 t9624.1), (10, .int .i64 t9624.2.1), (11, .int .i64 0), (12, .int .i64 x11145)] ∧ M9608.le Mj ∧ Ext w w' ∧ St w' Mj F [Blk b17 (.cells #[.slice A11147 x11146.length c11148] 58 (0, 0)), Blk b7 (.cells #[.slice A9626 t9624.2.2.l.length c9627, .int .i64 t9624.2.2.last] 47 (0, 0)), Row r_status_writer 49 (.slice A9626 t9624.2.2.l.length c9627) t9624.2.2.l, Blk b9602 (.cells #[.slice A9604 t9600.L.length c9605] 58 (0, 0)), Blk b9592 (.cells #[.slice A9594 t9590.l.length c9595, .int .i64 t9590.last] 47 (0, 0)), Row r_status_writer 49 (.slice A9594 t9590.l.length c9595) t9590.l] ∧ SlR r_ferrymanref08_Writer Mj (.slice A11147 x11146.length c11148) x11146) ?_ ?_
              · clear o11150H
                have H := o11150h
                clear o11150h
                rcases iteS H with ⟨hb11151, H⟩ | ⟨hb11151, H⟩
                · refine Wp_cond_true (congrArg Value.bool hb11151) ?_
                  refine Wp_region_lit ?_
                  refine W_v (.pointer (some ⟨b17, 0, none⟩)) (x_move rfl) rfl ?_
                  refine W_v (.pointer (some ⟨b9620, 1, none⟩)) (x_fieldAddr (o := 0) (off := 1) Tryd.underlying30 rfl ty3 rfl rfl) rfl ?_
                  refine W_v (.int .i64 ((rd a0 x7667).W)) (x_load (S.blk 2 rfl) ty3 rfl rfl) rfl ?_
                  refine W_v (.pointer (some ⟨b9620, 2, none⟩)) (x_fieldAddr (o := 0) (off := 2) Tryd.underlying30 rfl ty3 rfl rfl) rfl ?_
                  refine W_v (.int .i64 ((rd a0 x7667).TS)) (x_load (S.blk 2 rfl) ty3 rfl rfl) rfl ?_
                  obtain ⟨t11152, ht11153, H⟩ := bindS H
                  replace S : St w9629 M9608 F [Blk b17 (.cells #[.slice A7669 x7668.length c7670] 58 (0, 0)), Blk b7 (.cells #[.slice A9626 t9624.2.2.l.length c9627, .int .i64 t9624.2.2.last] 47 (0, 0)), Row r_status_writer 49 (.slice A9626 t9624.2.2.l.length c9627) t9624.2.2.l, Blk b9620 (.cells #[.int .u8 ((rd a0 x7667).What), .int .i64 ((rd a0 x7667).W), .int .i64 ((rd a0 x7667).TS)] 30 (0, 0)), Blk b9602 (.cells #[.slice A9604 t9600.L.length c9605] 58 (0, 0)), Blk b9592 (.cells #[.slice A9594 t9590.l.length c9595, .int .i64 t9590.last] 47 (0, 0)), Row r_status_writer 49 (.slice A9594 t9590.l.length c9595) t9590.l] := S.pick [4, 0, 1, 2, 3, 5, 6] (by decide)
                  refine W_call fn26 (ferrymanref08_Writers_Commit_PR.con k M9608 A7669 c7670 (⟨x7668⟩ : ferrymanref08_Writers) ((rd a0 x7667).W) ((rd a0 x7667).TS) b17 t11152 hs7671 hg0 ht11153) (Γ1 := [Blk b17 (.cells #[.slice A7669 x7668.length c7670] 58 (0, 0))]) (Γ2 := [Blk b7 (.cells #[.slice A9626 t9624.2.2.l.length c9627, .int .i64 t9624.2.2.last] 47 (0, 0)), Row r_status_writer 49 (.slice A9626 t9624.2.2.l.length c9627) t9624.2.2.l, Blk b9620 (.cells #[.int .u8 ((rd a0 x7667).What), .int .i64 ((rd a0 x7667).W), .int .i64 ((rd a0 x7667).TS)] 30 (0, 0)), Blk b9602 (.cells #[.slice A9604 t9600.L.length c9605] 58 (0, 0)), Blk b9592 (.cells #[.slice A9594 t9590.l.length c9595, .int .i64 t9590.last] 47 (0, 0)), Row r_status_writer 49 (.slice A9594 t9590.l.length c9595) t9590.l]) S rfl rfl ?_
                  rintro _ w11157 M11158 Γ' hM11159 E' S ⟨A11154, c11155, rfl, hs11156, rfl⟩
                  replace hg0 : ∃ gt fr, _ := (let ⟨gt, fr, h8⟩ := hg0; ⟨gt, fr, hM11159 _ _ h8⟩)
                  replace HM := Hp.le_trans HM hM11159
                  replace hM9588 := Hp.le_trans hM9588 hM11159
                  replace LE10501 := Hp.le_trans LE10501 hM11159
                  replace hr0 := SlR.mono hr0 hM11159
                  replace hf3848 := SlR.mono hf3848 hM11159
                  replace hs7671 := SlR.mono hs7671 hM11159
                  replace hs9606 := SlR.mono hs9606 hM11159
                  replace hb9615 := hM11159 _ _ hb9615
                  replace E := E.trans E'
                  clear E'
                  replace S : St w11157 M11158 F [Blk b17 (.cells #[.slice A11154 t11152.2.L.length c11155] 58 (0, 0)), Blk b7 (.cells #[.slice A9626 t9624.2.2.l.length c9627, .int .i64 t9624.2.2.last] 47 (0, 0)), Row r_status_writer 49 (.slice A9626 t9624.2.2.l.length c9627) t9624.2.2.l, Blk b9620 (.cells #[.int .u8 ((rd a0 x7667).What), .int .i64 ((rd a0 x7667).W), .int .i64 ((rd a0 x7667).TS)] 30 (0, 0)), Blk b9602 (.cells #[.slice A9604 t9600.L.length c9605] 58 (0, 0)), Blk b9592 (.cells #[.slice A9594 t9590.l.length c9595, .int .i64 t9590.last] 47 (0, 0)), Row r_status_writer 49 (.slice A9594 t9590.l.length c9595) t9590.l] := S
                  refine W_v (.int .i64 t11152.1) (x_assign rfl) rfl ?_
                  refine Wl_nil ?_
                  refine tn ?_
                  exact ⟨t11152.1, t11152.2.L, A11154, c11155, M11158, Option.some.inj H, ⟨rfl, rfl, rfl, rfl, rfl, rfl, rfl, rfl, rfl, rfl, trivial⟩, LE10501, E, S.pick [0, 1, 2, 4, 5, 6] (by decide), hs11156⟩
                refine Wp_cond_false (congrArg Value.bool hb11151) ?_
                refine Wp_seq ?_
                refine Wp_region_lit ?_
                refine W_v (.bool ((rd a0 x7667).What == (2 : Int))) (x_ibin rfl rfl rfl rfl) rfl ?_
                refine W_v (.bool ((rd a0 x7667).What == (2 : Int))) (x_assign rfl) rfl ?_
                refine Wl_nil ?_
                refine tn ?_
                obtain ⟨o11257, o11257h, o11257H⟩ := bindS H
                refine Wp_cut (fun ρ w' => ∃ (x11252 : Int) (x11253 : List ferrymanref08_Writer) (A11254 : Option Addr) (c11255 : Nat) (Mj : Hp), (x11252, x11253) = o11257 ∧ Agree ρ [(0, .slice A0 a0.length c0), (3, .pointer (some ⟨b7, 0, none⟩)), (4, .pointer (some ⟨b17, 0, none⟩)), (5, .int .i64 x7667), (6, .pointer (some ⟨b9592, 0, none⟩)), (7, .pointer (some ⟨b9602, 0, none⟩)), (9, .int .i64 t9624.1), (10, .int .i64 t9624.2.1), (11, .int .i64 0), (12, .int .i64 x11252)] ∧ M9608.le Mj ∧ Ext w w' ∧ St w' Mj F [Blk b17 (.cells #[.slice A11254 x11253.length c11255] 58 (0, 0)), Blk b7 (.cells #[.slice A9626 t9624.2.2.l.length c9627, .int .i64 t9624.2.2.last] 47 (0, 0)), Row r_status_writer 49 (.slice A9626 t9624.2.2.l.length c9627) t9624.2.2.l, Blk b9602 (.cells #[.slice A9604 t9600.L.length c9605] 58 (0, 0)), Blk b9592 (.cells #[.slice A9594 t9590.l.length c9595, .int .i64 t9590.last] 47 (0, 0)), Row r_status_writer 49 (.slice A9594 t9590.l.length c9595) t9590.l] ∧ SlR r_ferrymanref08_Writer Mj (.slice A11254 x11253.length c11255) x11253) ?_ ?_
                · clear o11257H
                  have H := o11257h
                  clear o11257h
                  rcases iteS H with ⟨hb11258, H⟩ | ⟨hb11258, H⟩
                  · refine Wp_cond_true (congrArg Value.bool hb11258) ?_
                    refine Wp_region_lit ?_
                    refine W_v (.pointer (some ⟨b17, 0, none⟩)) (x_move rfl) rfl ?_
                    refine W_v (.pointer (some ⟨b9620, 1, none⟩)) (x_fieldAddr (o := 0) (off := 1) Tryd.underlying30 rfl ty3 rfl rfl) rfl ?_
                    refine W_v (.int .i64 ((rd a0 x7667).W)) (x_load (S.blk 2 rfl) ty3 rfl rfl) rfl ?_
                    obtain ⟨t11259, ht11260, H⟩ := bindS H
                    replace S : St w9629 M9608 F [Blk b17 (.cells #[.slice A7669 x7668.length c7670] 58 (0, 0)), Blk b7 (.cells #[.slice A9626 t9624.2.2.l.length c9627, .int .i64 t9624.2.2.last] 47 (0, 0)), Row r_status_writer 49 (.slice A9626 t9624.2.2.l.length c9627) t9624.2.2.l, Blk b9620 (.cells #[.int .u8 ((rd a0 x7667).What), .int .i64 ((rd a0 x7667).W), .int .i64 ((rd a0 x7667).TS)] 30 (0, 0)), Blk b9602 (.cells #[.slice A9604 t9600.L.length c9605] 58 (0, 0)), Blk b9592 (.cells #[.slice A9594 t9590.l.length c9595, .int .i64 t9590.last] 47 (0, 0)), Row r_status_writer 49 (.slice A9594 t9590.l.length c9595) t9590.l] := S.pick [4, 0, 1, 2, 3, 5, 6] (by decide)
                    refine W_call fn27 (ferrymanref08_Writers_Fall_PR.con k M9608 A7669 c7670 (⟨x7668⟩ : ferrymanref08_Writers) ((rd a0 x7667).W) b17 t11259 hs7671 hg0 ht11260) (Γ1 := [Blk b17 (.cells #[.slice A7669 x7668.length c7670] 58 (0, 0))]) (Γ2 := [Blk b7 (.cells #[.slice A9626 t9624.2.2.l.length c9627, .int .i64 t9624.2.2.last] 47 (0, 0)), Row r_status_writer 49 (.slice A9626 t9624.2.2.l.length c9627) t9624.2.2.l, Blk b9620 (.cells #[.int .u8 ((rd a0 x7667).What), .int .i64 ((rd a0 x7667).W), .int .i64 ((rd a0 x7667).TS)] 30 (0, 0)), Blk b9602 (.cells #[.slice A9604 t9600.L.length c9605] 58 (0, 0)), Blk b9592 (.cells #[.slice A9594 t9590.l.length c9595, .int .i64 t9590.last] 47 (0, 0)), Row r_status_writer 49 (.slice A9594 t9590.l.length c9595) t9590.l]) S rfl rfl ?_
                    rintro _ w11264 M11265 Γ' hM11266 E' S ⟨A11261, c11262, rfl, hs11263, rfl⟩
                    replace hg0 : ∃ gt fr, _ := (let ⟨gt, fr, h8⟩ := hg0; ⟨gt, fr, hM11266 _ _ h8⟩)
                    replace HM := Hp.le_trans HM hM11266
                    replace hM9588 := Hp.le_trans hM9588 hM11266
                    replace LE10501 := Hp.le_trans LE10501 hM11266
                    replace hr0 := SlR.mono hr0 hM11266
                    replace hf3848 := SlR.mono hf3848 hM11266
                    replace hs7671 := SlR.mono hs7671 hM11266
                    replace hs9606 := SlR.mono hs9606 hM11266
                    replace hb9615 := hM11266 _ _ hb9615
                    replace E := E.trans E'
                    clear E'
                    replace S : St w11264 M11265 F [Blk b17 (.cells #[.slice A11261 t11259.2.L.length c11262] 58 (0, 0)), Blk b7 (.cells #[.slice A9626 t9624.2.2.l.length c9627, .int .i64 t9624.2.2.last] 47 (0, 0)), Row r_status_writer 49 (.slice A9626 t9624.2.2.l.length c9627) t9624.2.2.l, Blk b9620 (.cells #[.int .u8 ((rd a0 x7667).What), .int .i64 ((rd a0 x7667).W), .int .i64 ((rd a0 x7667).TS)] 30 (0, 0)), Blk b9602 (.cells #[.slice A9604 t9600.L.length c9605] 58 (0, 0)), Blk b9592 (.cells #[.slice A9594 t9590.l.length c9595, .int .i64 t9590.last] 47 (0, 0)), Row r_status_writer 49 (.slice A9594 t9590.l.length c9595) t9590.l] := S
                    refine W_v (.int .i64 t11259.1) (x_assign rfl) rfl ?_
                    refine Wl_nil ?_
                    refine tn ?_
                    exact ⟨t11259.1, t11259.2.L, A11261, c11262, M11265, Option.some.inj H, ⟨rfl, rfl, rfl, rfl, rfl, rfl, rfl, rfl, rfl, rfl, trivial⟩, LE10501, E, S.pick [0, 1, 2, 4, 5, 6] (by decide), hs11263⟩
                  refine Wp_cond_false (congrArg Value.bool hb11258) ?_
                  refine Wp_seq ?_
                  refine Wp_region_lit ?_
                  refine W_v (.bool ((rd a0 x7667).What == (3 : Int))) (x_ibin rfl rfl rfl rfl) rfl ?_
                  refine W_v (.bool ((rd a0 x7667).What == (3 : Int))) (x_assign rfl) rfl ?_
                  refine Wl_nil ?_
                  refine tn ?_
                  obtain ⟨o11309, o11309h, o11309H⟩ := bindS H
                  refine Wp_cut (fun ρ w' => ∃ (x11304 : Int) (x11305 : List ferrymanref08_Writer) (A11306 : Option Addr) (c11307 : Nat) (Mj : Hp), (x11304, x11305) = o11309 ∧ Agree ρ [(0, .slice A0 a0.length c0), (3, .pointer (some ⟨b7, 0, none⟩)), (4, .pointer (some ⟨b17, 0, none⟩)), (5, .int .i64 x7667), (6, .pointer (some ⟨b9592, 0, none⟩)), (7, .pointer (some ⟨b9602, 0, none⟩)), (9, .int .i64 t9624.1), (10, .int .i64 t9624.2.1), (11, .int .i64 0), (12, .int .i64 x11304)] ∧ M9608.le Mj ∧ Ext w w' ∧ St w' Mj F [Blk b17 (.cells #[.slice A11306 x11305.length c11307] 58 (0, 0)), Blk b7 (.cells #[.slice A9626 t9624.2.2.l.length c9627, .int .i64 t9624.2.2.last] 47 (0, 0)), Row r_status_writer 49 (.slice A9626 t9624.2.2.l.length c9627) t9624.2.2.l, Blk b9602 (.cells #[.slice A9604 t9600.L.length c9605] 58 (0, 0)), Blk b9592 (.cells #[.slice A9594 t9590.l.length c9595, .int .i64 t9590.last] 47 (0, 0)), Row r_status_writer 49 (.slice A9594 t9590.l.length c9595) t9590.l] ∧ SlR r_ferrymanref08_Writer Mj (.slice A11306 x11305.length c11307) x11305) ?_ ?_
                  · clear o11309H
                    have H := o11309h
                    clear o11309h
                    rcases iteS H with ⟨hb11310, H⟩ | ⟨hb11310, H⟩
                    · refine Wp_cond_true (congrArg Value.bool hb11310) ?_
                      refine Wp_region_lit ?_
                      refine W_v (.pointer (some ⟨b17, 0, none⟩)) (x_move rfl) rfl ?_
                      refine W_v (.pointer (some ⟨b9620, 1, none⟩)) (x_fieldAddr (o := 0) (off := 1) Tryd.underlying30 rfl ty3 rfl rfl) rfl ?_
                      refine W_v (.int .i64 ((rd a0 x7667).W)) (x_load (S.blk 2 rfl) ty3 rfl rfl) rfl ?_
                      obtain ⟨t11311, ht11312, H⟩ := bindS H
                      replace S : St w9629 M9608 F [Blk b17 (.cells #[.slice A7669 x7668.length c7670] 58 (0, 0)), Blk b7 (.cells #[.slice A9626 t9624.2.2.l.length c9627, .int .i64 t9624.2.2.last] 47 (0, 0)), Row r_status_writer 49 (.slice A9626 t9624.2.2.l.length c9627) t9624.2.2.l, Blk b9620 (.cells #[.int .u8 ((rd a0 x7667).What), .int .i64 ((rd a0 x7667).W), .int .i64 ((rd a0 x7667).TS)] 30 (0, 0)), Blk b9602 (.cells #[.slice A9604 t9600.L.length c9605] 58 (0, 0)), Blk b9592 (.cells #[.slice A9594 t9590.l.length c9595, .int .i64 t9590.last] 47 (0, 0)), Row r_status_writer 49 (.slice A9594 t9590.l.length c9595) t9590.l] := S.pick [4, 0, 1, 2, 3, 5, 6] (by decide)
                      refine W_call fn28 (ferrymanref08_Writers_Fallen_PR.con k M9608 A7669 c7670 (⟨x7668⟩ : ferrymanref08_Writers) ((rd a0 x7667).W) b17 t11311 hs7671 hg0 ht11312) (Γ1 := [Blk b17 (.cells #[.slice A7669 x7668.length c7670] 58 (0, 0))]) (Γ2 := [Blk b7 (.cells #[.slice A9626 t9624.2.2.l.length c9627, .int .i64 t9624.2.2.last] 47 (0, 0)), Row r_status_writer 49 (.slice A9626 t9624.2.2.l.length c9627) t9624.2.2.l, Blk b9620 (.cells #[.int .u8 ((rd a0 x7667).What), .int .i64 ((rd a0 x7667).W), .int .i64 ((rd a0 x7667).TS)] 30 (0, 0)), Blk b9602 (.cells #[.slice A9604 t9600.L.length c9605] 58 (0, 0)), Blk b9592 (.cells #[.slice A9594 t9590.l.length c9595, .int .i64 t9590.last] 47 (0, 0)), Row r_status_writer 49 (.slice A9594 t9590.l.length c9595) t9590.l]) S rfl rfl ?_
                      rintro _ w11316 M11317 Γ' hM11318 E' S ⟨A11313, c11314, rfl, hs11315, rfl⟩
                      replace hg0 : ∃ gt fr, _ := (let ⟨gt, fr, h8⟩ := hg0; ⟨gt, fr, hM11318 _ _ h8⟩)
                      replace HM := Hp.le_trans HM hM11318
                      replace hM9588 := Hp.le_trans hM9588 hM11318
                      replace LE10501 := Hp.le_trans LE10501 hM11318
                      replace hr0 := SlR.mono hr0 hM11318
                      replace hf3848 := SlR.mono hf3848 hM11318
                      replace hs7671 := SlR.mono hs7671 hM11318
                      replace hs9606 := SlR.mono hs9606 hM11318
                      replace hb9615 := hM11318 _ _ hb9615
                      replace E := E.trans E'
                      clear E'
                      replace S : St w11316 M11317 F [Blk b17 (.cells #[.slice A11313 t11311.2.L.length c11314] 58 (0, 0)), Blk b7 (.cells #[.slice A9626 t9624.2.2.l.length c9627, .int .i64 t9624.2.2.last] 47 (0, 0)), Row r_status_writer 49 (.slice A9626 t9624.2.2.l.length c9627) t9624.2.2.l, Blk b9620 (.cells #[.int .u8 ((rd a0 x7667).What), .int .i64 ((rd a0 x7667).W), .int .i64 ((rd a0 x7667).TS)] 30 (0, 0)), Blk b9602 (.cells #[.slice A9604 t9600.L.length c9605] 58 (0, 0)), Blk b9592 (.cells #[.slice A9594 t9590.l.length c9595, .int .i64 t9590.last] 47 (0, 0)), Row r_status_writer 49 (.slice A9594 t9590.l.length c9595) t9590.l] := S
                      refine W_v (.int .i64 t11311.1) (x_assign rfl) rfl ?_
                      refine Wl_nil ?_
                      refine tn ?_
                      exact ⟨t11311.1, t11311.2.L, A11313, c11314, M11317, Option.some.inj H, ⟨rfl, rfl, rfl, rfl, rfl, rfl, rfl, rfl, rfl, rfl, trivial⟩, LE10501, E, S.pick [0, 1, 2, 4, 5, 6] (by decide), hs11315⟩
                    refine Wp_cond_false (congrArg Value.bool hb11310) ?_
                    refine Wp_region_any (S := fun w' => ∃ Mx, M9608.le Mx ∧ St w' Mx F [Blk b7 (.cells #[.slice A9626 t9624.2.2.l.length c9627, .int .i64 t9624.2.2.last] 47 (0, 0)), Row r_status_writer 49 (.slice A9626 t9624.2.2.l.length c9627) t9624.2.2.l, Blk b9620 (.cells #[.int .u8 ((rd a0 x7667).What), .int .i64 ((rd a0 x7667).W), .int .i64 ((rd a0 x7667).TS)] 30 (0, 0)), Blk b9602 (.cells #[.slice A9604 t9600.L.length c9605] 58 (0, 0)), Blk b9592 (.cells #[.slice A9594 t9590.l.length c9595, .int .i64 t9590.last] 47 (0, 0)), Row r_status_writer 49 (.slice A9594 t9590.l.length c9595) t9590.l]) mixed ?_
                    intro w11332 hw11333 E'
                    replace S := S.heap hw11333
                    replace E := E.trans E'
                    clear E'
                    have hr0z := hr0
                    have hf3848z := hf3848
                    have hs7671z := hs7671
                    have hs9606z := hs9606
                    refine Wa_take (i := 0) rfl (by kernel_rfl) rfl rfl (.pointer (some ⟨b17, 0, none⟩)) rfl (fun w' h' => x_move rfl) (⟨M9608, Hp.le_refl M9608, S.pick [0, 1, 2, 3, 5, 6] (by decide)⟩) ?_
                    refine Wa_take (i := 1) rfl (by kernel_rfl) rfl rfl (.pointer (some ⟨b9620, 1, none⟩)) rfl (fun w' h' => x_fieldAddr (o := 0) (off := 1) Tryd.underlying30 rfl ty3 rfl rfl) (⟨M9608, Hp.le_refl M9608, S.pick [0, 1, 2, 3, 5, 6] (by decide)⟩) ?_
                    refine Wa_take (i := 2) rfl (by kernel_rfl) rfl rfl (.int .i64 ((rd a0 x7667).W)) rfl (fun w' h' => x_load (cls_blk h' 2 rfl) ty3 rfl rfl) (⟨M9608, Hp.le_refl M9608, S.pick [0, 1, 2, 3, 5, 6] (by decide)⟩) ?_
                    refine Wa_take (i := 3) rfl (by kernel_rfl) rfl rfl (.pointer (some ⟨b17, 0, none⟩)) rfl (fun w' h' => x_move rfl) (⟨M9608, Hp.le_refl M9608, S.pick [0, 1, 2, 3, 5, 6] (by decide)⟩) ?_
                    refine Wa_solo (i := 4) rfl (by kernel_rfl) ?_
                    obtain ⟨t11334, ht11335, H⟩ := bindS H
                    replace S : St w11332 M9608 F [Blk b17 (.cells #[.slice A7669 x7668.length c7670] 58 (0, 0)), Blk b7 (.cells #[.slice A9626 t9624.2.2.l.length c9627, .int .i64 t9624.2.2.last] 47 (0, 0)), Row r_status_writer 49 (.slice A9626 t9624.2.2.l.length c9627) t9624.2.2.l, Blk b9620 (.cells #[.int .u8 ((rd a0 x7667).What), .int .i64 ((rd a0 x7667).W), .int .i64 ((rd a0 x7667).TS)] 30 (0, 0)), Blk b9602 (.cells #[.slice A9604 t9600.L.length c9605] 58 (0, 0)), Blk b9592 (.cells #[.slice A9594 t9590.l.length c9595, .int .i64 t9590.last] 47 (0, 0)), Row r_status_writer 49 (.slice A9594 t9590.l.length c9595) t9590.l] := S.pick [4, 0, 1, 2, 3, 5, 6] (by decide)
                    refine W_callF2 fn29 (ferrymanref08_Writers_Last_PR.con k M9608 A7669 c7670 (⟨x7668⟩ : ferrymanref08_Writers) b17 t11334 hs7671 hg0 ht11335) (Γ1 := [Blk b17 (.cells #[.slice A7669 x7668.length c7670] 58 (0, 0))]) (Γ2 := [Blk b7 (.cells #[.slice A9626 t9624.2.2.l.length c9627, .int .i64 t9624.2.2.last] 47 (0, 0)), Row r_status_writer 49 (.slice A9626 t9624.2.2.l.length c9627) t9624.2.2.l, Blk b9620 (.cells #[.int .u8 ((rd a0 x7667).What), .int .i64 ((rd a0 x7667).W), .int .i64 ((rd a0 x7667).TS)] 30 (0, 0)), Blk b9602 (.cells #[.slice A9604 t9600.L.length c9605] 58 (0, 0)), Blk b9592 (.cells #[.slice A9594 t9590.l.length c9595, .int .i64 t9590.last] 47 (0, 0)), Row r_status_writer 49 (.slice A9594 t9590.l.length c9595) t9590.l]) S rfl rfl (by rintro _ _ _ ⟨rfl, rfl⟩; exact (flat_cons flat_blk flat_nil)) ?_
                    rintro _ w11336 _ Γ' E' S ⟨rfl, rfl⟩
                    replace E := E.trans E'
                    clear E'
                    replace S : St w11336 M9608 F [Blk b17 (.cells #[.slice A7669 x7668.length c7670] 58 (0, 0)), Blk b7 (.cells #[.slice A9626 t9624.2.2.l.length c9627, .int .i64 t9624.2.2.last] 47 (0, 0)), Row r_status_writer 49 (.slice A9626 t9624.2.2.l.length c9627) t9624.2.2.l, Blk b9620 (.cells #[.int .u8 ((rd a0 x7667).What), .int .i64 ((rd a0 x7667).W), .int .i64 ((rd a0 x7667).TS)] 30 (0, 0)), Blk b9602 (.cells #[.slice A9604 t9600.L.length c9605] 58 (0, 0)), Blk b9592 (.cells #[.slice A9594 t9590.l.length c9595, .int .i64 t9590.last] 47 (0, 0)), Row r_status_writer 49 (.slice A9594 t9590.l.length c9595) t9590.l] := S
                    refine Wl_nil (on_n ⟨⟨M9608, Hp.le_refl M9608, S.pick [1, 2, 3, 4, 5, 6] (by decide)⟩, ?_⟩)
                    refine Wa_take (i := 5) rfl (by kernel_rfl) rfl rfl (.int .i64 (IntKind.i64.wrap (t11334 + (1 : Int)))) rfl (fun w' h' => x_ibin rfl rfl rfl rfl) (⟨M9608, Hp.le_refl M9608, S.pick [1, 2, 3, 4, 5, 6] (by decide)⟩) ?_
                    refine Wa_solo (i := 6) rfl (by kernel_rfl) ?_
                    obtain ⟨t11339, ht11340, H⟩ := bindS H
                    refine W_call fn26 (ferrymanref08_Writers_Commit_PR.con k M9608 A7669 c7670 (⟨x7668⟩ : ferrymanref08_Writers) ((rd a0 x7667).W) (IntKind.i64.wrap (t11334 + (1 : Int))) b17 t11339 hs7671 hg0 ht11340) (Γ1 := [Blk b17 (.cells #[.slice A7669 x7668.length c7670] 58 (0, 0))]) (Γ2 := [Blk b7 (.cells #[.slice A9626 t9624.2.2.l.length c9627, .int .i64 t9624.2.2.last] 47 (0, 0)), Row r_status_writer 49 (.slice A9626 t9624.2.2.l.length c9627) t9624.2.2.l, Blk b9620 (.cells #[.int .u8 ((rd a0 x7667).What), .int .i64 ((rd a0 x7667).W), .int .i64 ((rd a0 x7667).TS)] 30 (0, 0)), Blk b9602 (.cells #[.slice A9604 t9600.L.length c9605] 58 (0, 0)), Blk b9592 (.cells #[.slice A9594 t9590.l.length c9595, .int .i64 t9590.last] 47 (0, 0)), Row r_status_writer 49 (.slice A9594 t9590.l.length c9595) t9590.l]) S rfl rfl ?_
                    rintro _ w11344 M11345 Γ' hM11346 E' S ⟨A11341, c11342, rfl, hs11343, rfl⟩
                    replace hg0 : ∃ gt fr, _ := (let ⟨gt, fr, h8⟩ := hg0; ⟨gt, fr, hM11346 _ _ h8⟩)
                    replace HM := Hp.le_trans HM hM11346
                    replace hM9588 := Hp.le_trans hM9588 hM11346
                    replace LE10501 := Hp.le_trans LE10501 hM11346
                    replace hr0 := SlR.mono hr0 hM11346
                    replace hf3848 := SlR.mono hf3848 hM11346
                    replace hs7671 := SlR.mono hs7671 hM11346
                    replace hs9606 := SlR.mono hs9606 hM11346
                    replace hb9615 := hM11346 _ _ hb9615
                    replace E := E.trans E'
                    clear E'
                    replace S : St w11344 M11345 F [Blk b17 (.cells #[.slice A11341 t11339.2.L.length c11342] 58 (0, 0)), Blk b7 (.cells #[.slice A9626 t9624.2.2.l.length c9627, .int .i64 t9624.2.2.last] 47 (0, 0)), Row r_status_writer 49 (.slice A9626 t9624.2.2.l.length c9627) t9624.2.2.l, Blk b9620 (.cells #[.int .u8 ((rd a0 x7667).What), .int .i64 ((rd a0 x7667).W), .int .i64 ((rd a0 x7667).TS)] 30 (0, 0)), Blk b9602 (.cells #[.slice A9604 t9600.L.length c9605] 58 (0, 0)), Blk b9592 (.cells #[.slice A9594 t9590.l.length c9595, .int .i64 t9590.last] 47 (0, 0)), Row r_status_writer 49 (.slice A9594 t9590.l.length c9595) t9590.l] := S
                    refine Wl_nil (on_n ⟨⟨M11345, LE10501, S.pick [1, 2, 3, 4, 5, 6] (by decide)⟩, ?_⟩)
                    refine Wa_take (i := 7) rfl (by kernel_rfl) rfl rfl (.int .i64 t11339.1) rfl (fun w' h' => x_assign rfl) (⟨M11345, LE10501, S.pick [1, 2, 3, 4, 5, 6] (by decide)⟩) ?_
                    refine Wa_done (by kernel_rfl) ?_
                    refine tn ?_
                    exact ⟨t11339.1, t11339.2.L, A11341, c11342, M11345, Option.some.inj H, ⟨rfl, rfl, rfl, rfl, rfl, rfl, rfl, rfl, rfl, rfl, trivial⟩, LE10501, E, S.pick [0, 1, 2, 4, 5, 6] (by decide), hs11343⟩
                  clear o11309h
                  rintro ρ w11347 ⟨x11304, x11305, A11306, c11307, M11348, rfl, hρ, hM11349, E, S, hs11308⟩
                  rw [agree_eta hρ]
                  clear hρ
                  replace hg0 : ∃ gt fr, _ := (let ⟨gt, fr, h8⟩ := hg0; ⟨gt, fr, hM11349 _ _ h8⟩)
                  replace HM := Hp.le_trans HM hM11349
                  replace hM9588 := Hp.le_trans hM9588 hM11349
                  replace LE10501 := Hp.le_trans LE10501 hM11349
                  replace hr0 := SlR.mono hr0 hM11349
                  replace hf3848 := SlR.mono hf3848 hM11349
                  replace hs7671 := SlR.mono hs7671 hM11349
                  replace hs9606 := SlR.mono hs9606 hM11349
                  replace hb9615 := hM11349 _ _ hb9615
                  have H := o11309H
                  clear o11309H
                  refine tn ?_
                  exact ⟨x11304, x11305, A11306, c11307, M11348, Option.some.inj H, ⟨rfl, rfl, rfl, rfl, rfl, rfl, rfl, rfl, rfl, rfl, trivial⟩, hM11349, E, S.pick [0, 1, 2, 3, 4, 5] (by decide), hs11308⟩
                clear o11257h
                rintro ρ w11350 ⟨x11252, x11253, A11254, c11255, M11351, rfl, hρ, hM11352, E, S, hs11256⟩
                rw [agree_eta hρ]
                clear hρ
                replace hg0 : ∃ gt fr, _ := (let ⟨gt, fr, h8⟩ := hg0; ⟨gt, fr, hM11352 _ _ h8⟩)
                replace HM := Hp.le_trans HM hM11352
                replace hM9588 := Hp.le_trans hM9588 hM11352
                replace LE10501 := Hp.le_trans LE10501 hM11352
                replace hr0 := SlR.mono hr0 hM11352
                replace hf3848 := SlR.mono hf3848 hM11352
                replace hs7671 := SlR.mono hs7671 hM11352
                replace hs9606 := SlR.mono hs9606 hM11352
                replace hb9615 := hM11352 _ _ hb9615
                have H := o11257H
                clear o11257H
                refine tn ?_
                exact ⟨x11252, x11253, A11254, c11255, M11351, Option.some.inj H, ⟨rfl, rfl, rfl, rfl, rfl, rfl, rfl, rfl, rfl, rfl, trivial⟩, hM11352, E, S.pick [0, 1, 2, 3, 4, 5] (by decide), hs11256⟩
              clear o11150h
              rintro ρ w11353 ⟨x11145, x11146, A11147, c11148, M11354, rfl, hρ, hM11355, E, S, hs11149⟩
              rw [agree_eta hρ]
              clear hρ
              replace hg0 : ∃ gt fr, _ := (let ⟨gt, fr, h8⟩ := hg0; ⟨gt, fr, hM11355 _ _ h8⟩)
              replace HM := Hp.le_trans HM hM11355
              replace hM9588 := Hp.le_trans hM9588 hM11355
              replace LE10501 := Hp.le_trans LE10501 hM11355
              replace hr0 := SlR.mono hr0 hM11355
              replace hf3848 := SlR.mono hf3848 hM11355
              replace hs7671 := SlR.mono hs7671 hM11355
              replace hs9606 := SlR.mono hs9606 hM11355
              replace hb9615 := hM11355 _ _ hb9615
              have H := o11150H
              clear o11150H
              refine tn ?_
              exact ⟨(0 : Int), x11145, x11146, A11147, c11148, M11354, Option.some.inj H, ⟨rfl, rfl, rfl, rfl, rfl, rfl, rfl, rfl, rfl, rfl, trivial⟩, hM11355, E, S.pick [0, 1, 2, 3, 4, 5] (by decide), hs11149⟩
            clear o10930h
            rintro ρ w11356 ⟨x10924, x10925, x10926, A10927, c10928, M11357, rfl, hρ, hM11358, E, S, hs10929⟩
            rw [agree_eta hρ]
            clear hρ
            replace hg0 : ∃ gt fr, _ := (let ⟨gt, fr, h8⟩ := hg0; ⟨gt, fr, hM11358 _ _ h8⟩)
            replace HM := Hp.le_trans HM hM11358
            replace hM9588 := Hp.le_trans hM9588 hM11358
            replace LE10501 := Hp.le_trans LE10501 hM11358
            replace hr0 := SlR.mono hr0 hM11358
            replace hf3848 := SlR.mono hf3848 hM11358
            replace hs7671 := SlR.mono hs7671 hM11358
            replace hs9606 := SlR.mono hs9606 hM11358
            replace hb9615 := hM11358 _ _ hb9615
            have H := o10930H
            clear o10930H
            refine bn ?_
            refine tn ?_
            exact ⟨x10924, x10925, x10926, A10927, c10928, M11357, Option.some.inj H, ⟨rfl, rfl, rfl, rfl, rfl, rfl, rfl, rfl, rfl, rfl, trivial⟩, hM11358, E, S.pick [0, 1, 2, 3, 4, 5] (by decide), hs10929⟩
          clear o10500h
          rintro ρ w11359 ⟨x10494, x10495, x10496, A10497, c10498, M11360, rfl, hρ, hM11361, E, S, hs10499⟩
          rw [agree_eta hρ]
          clear hρ
          replace hg0 : ∃ gt fr, _ := (let ⟨gt, fr, h8⟩ := hg0; ⟨gt, fr, hM11361 _ _ h8⟩)
          replace HM := Hp.le_trans HM hM11361
          replace hM9588 := Hp.le_trans hM9588 hM11361
          replace hr0 := SlR.mono hr0 hM11361
          replace hf3848 := SlR.mono hf3848 hM11361
          replace hs7671 := SlR.mono hs7671 hM11361
          replace hs9606 := SlR.mono hs9606 hM11361
          replace hb9615 := hM11361 _ _ hb9615
          have H := o10500H
          clear o10500H
          refine tn ?_
          refine Wp_seq ?_
          refine Wp_seq ?_
          refine Wp_region_lit ?_
          refine W_v (.int .i64 t9624.1) (x_move rfl) rfl ?_
          refine W_v (.int .i64 x10494) (x_move rfl) rfl ?_
          refine W_v (.bool (t9624.1 != x10494)) (x_ibin rfl rfl rfl rfl) rfl ?_
          refine W_v (.bool (t9624.1 != x10494)) (x_move rfl) rfl ?_
          refine Wl_cutN 4 (fun ρ w' => Agree ρ [(0, .slice A0 a0.length c0), (3, .pointer (some ⟨b7, 0, none⟩)), (4, .pointer (some ⟨b17, 0, none⟩)), (5, .int .i64 x7667), (6, .pointer (some ⟨b9592, 0, none⟩)), (7, .pointer (some ⟨b9602, 0, none⟩)), (81, .bool ((t9624.1 != x10494) || (t9624.2.1 != x10495)))] ∧ w11359 = w') ?_ ?_
          · rcases boolCases (t9624.1 != x10494) with hb11362 | hb11362
            · skip
              refine W_yes (congrArg some hb11362) ?_
              refine W_v (.int .i64 t9624.2.1) (x_move rfl) rfl ?_
              refine W_yes (congrArg some hb11362) ?_
              refine W_v (.int .i64 x10495) (x_move rfl) rfl ?_
              refine W_yes (congrArg some hb11362) ?_
              refine W_v (.bool (t9624.2.1 != x10495)) (x_ibin rfl rfl rfl rfl) rfl ?_
              refine W_v (.bool (t9624.2.1 != x10495)) (x_pick (k := false) (congrArg Value.bool hb11362) rfl) rfl ?_
              refine Wl_nil ?_
              exact ⟨⟨rfl, rfl, rfl, rfl, rfl, rfl, (by first | rfl | (rw [hb11362]; rfl) | (simp only [hb11362]; rfl)), trivial⟩, rfl⟩
            · skip
              refine W_no (skF hb11362) rfl ?_
              refine W_no (skF hb11362) rfl ?_
              refine W_no (skF hb11362) rfl ?_
              refine W_v (.bool true) (x_pick (k := true) (congrArg Value.bool hb11362) rfl) rfl ?_
              refine Wl_nil ?_
              exact ⟨⟨rfl, rfl, rfl, rfl, rfl, rfl, (by first | rfl | (rw [hb11362]; rfl) | (simp only [hb11362]; rfl)), trivial⟩, rfl⟩
          rintro ρ _ ⟨hρ, rfl⟩
          rw [agree_eta hρ]
          clear hρ
          refine W_v (.bool ((t9624.1 != x10494) || (t9624.2.1 != x10495))) (x_move rfl) rfl ?_
          obtain ⟨o11375, o11375h, o11375H⟩ := bindS H
          clear H
          refine Wl_cutN 5 (fun ρ w' => ∃ (x11374 : Bool), (x11374) = o11375 ∧ Agree ρ [(0, .slice A0 a0.length c0), (3, .pointer (some ⟨b7, 0, none⟩)), (4, .pointer (some ⟨b17, 0, none⟩)), (5, .int .i64 x7667), (6, .pointer (some ⟨b9592, 0, none⟩)), (7, .pointer (some ⟨b9602, 0, none⟩)), (87, .bool x11374)] ∧ Ext w w' ∧ St w' M11360 F [Blk b17 (.cells #[.slice A10497 x10496.length c10498] 58 (0, 0)), Blk b7 (.cells #[.slice A9626 t9624.2.2.l.length c9627, .int .i64 t9624.2.2.last] 47 (0, 0)), Row r_status_writer 49 (.slice A9626 t9624.2.2.l.length c9627) t9624.2.2.l, Blk b9602 (.cells #[.slice A9604 t9600.L.length c9605] 58 (0, 0)), Blk b9592 (.cells #[.slice A9594 t9590.l.length c9595, .int .i64 t9590.last] 47 (0, 0)), Row r_status_writer 49 (.slice A9594 t9590.l.length c9595) t9590.l]) ?_ ?_
          · have H := o11375h
            rcases iteS H with ⟨hb11373, H⟩ | ⟨hb11373, H⟩
            · skip
              refine W_no (skF hb11373) rfl ?_
              refine W_no (skF hb11373) rfl ?_
              refine W_no (skF hb11373) rfl ?_
              refine W_no (skF hb11373) rfl ?_
              refine W_v (.bool true) (x_pick (k := true) (congrArg Value.bool hb11373) rfl) rfl ?_
              refine Wl_nil ?_
              exact ⟨true, Option.some.inj H, ⟨rfl, rfl, rfl, rfl, rfl, rfl, rfl, trivial⟩, E, S.pick [0, 1, 2, 3, 4, 5] (by decide)⟩
            · skip
              refine W_yes (congrArg some hb11373) ?_
              refine W_v (.pointer (some ⟨b7, 0, none⟩)) (x_move rfl) rfl ?_
              refine W_yes (congrArg some hb11373) ?_
              refine W_v (.pointer (some ⟨b17, 0, none⟩)) (x_move rfl) rfl ?_
              refine W_yes (congrArg some hb11373) ?_
              obtain ⟨t11376, ht11377, H⟩ := bindS H
              replace S : St w11359 M11360 F [Blk b7 (.cells #[.slice A9626 t9624.2.2.l.length c9627, .int .i64 t9624.2.2.last] 47 (0, 0)), Row r_status_writer 49 (.slice A9626 t9624.2.2.l.length c9627) t9624.2.2.l, Blk b17 (.cells #[.slice A10497 x10496.length c10498] 58 (0, 0)), Blk b9602 (.cells #[.slice A9604 t9600.L.length c9605] 58 (0, 0)), Blk b9592 (.cells #[.slice A9594 t9590.l.length c9595, .int .i64 t9590.last] 47 (0, 0)), Row r_status_writer 49 (.slice A9594 t9590.l.length c9595) t9590.l] := S.pick [1, 2, 0, 3, 4, 5] (by decide)
              refine W_callF2 fn30 (ferrymanlaw08_like_PO_PR.con k M11360 A9626 c9627 t9624.2.2 A10497 c10498 (⟨x10496⟩ : ferrymanref08_Writers) b7 b17 t11376 hs10499 hg0 ht11377) (Γ1 := [Blk b7 (.cells #[.slice A9626 t9624.2.2.l.length c9627, .int .i64 t9624.2.2.last] 47 (0, 0)), Row r_status_writer 49 (.slice A9626 t9624.2.2.l.length c9627) t9624.2.2.l, Blk b17 (.cells #[.slice A10497 x10496.length c10498] 58 (0, 0))]) (Γ2 := [Blk b9602 (.cells #[.slice A9604 t9600.L.length c9605] 58 (0, 0)), Blk b9592 (.cells #[.slice A9594 t9590.l.length c9595, .int .i64 t9590.last] 47 (0, 0)), Row r_status_writer 49 (.slice A9594 t9590.l.length c9595) t9590.l]) S rfl rfl (by rintro _ _ _ ⟨rfl, rfl⟩; exact (flat_cons flat_blk (flat_cons (flat_row (fun _ _ _ _ h => h)) (flat_cons flat_blk flat_nil)))) ?_
              rintro _ w11378 _ Γ' E' S ⟨rfl, rfl⟩
              replace E := E.trans E'
              clear E'
              replace S : St w11378 M11360 F [Blk b7 (.cells #[.slice A9626 t9624.2.2.l.length c9627, .int .i64 t9624.2.2.last] 47 (0, 0)), Row r_status_writer 49 (.slice A9626 t9624.2.2.l.length c9627) t9624.2.2.l, Blk b17 (.cells #[.slice A10497 x10496.length c10498] 58 (0, 0)), Blk b9602 (.cells #[.slice A9604 t9600.L.length c9605] 58 (0, 0)), Blk b9592 (.cells #[.slice A9594 t9590.l.length c9595, .int .i64 t9590.last] 47 (0, 0)), Row r_status_writer 49 (.slice A9594 t9590.l.length c9595) t9590.l] := S
              refine W_yes (congrArg some hb11373) ?_
              refine W_v (.bool (!t11376)) (x_not rfl) rfl ?_
              refine W_v (.bool (!t11376)) (x_pick (k := false) (congrArg Value.bool hb11373) rfl) rfl ?_
              refine Wl_nil ?_
              exact ⟨(!t11376), Option.some.inj H, ⟨rfl, rfl, rfl, rfl, rfl, rfl, rfl, trivial⟩, E, S.pick [2, 0, 1, 3, 4, 5] (by decide)⟩
          clear o11375h
          rintro ρ w11381 ⟨x11374, rfl, hρ, E, S⟩
          rw [agree_eta hρ]
          clear hρ
          have H := o11375H
          clear o11375H
          refine W_v (.bool x11374) (x_move rfl) rfl ?_
          obtain ⟨o11394, o11394h, o11394H⟩ := bindS H
          clear H
          refine Wl_cutN 5 (fun ρ w' => ∃ (x11393 : Bool), (x11393) = o11394 ∧ Agree ρ [(0, .slice A0 a0.length c0), (3, .pointer (some ⟨b7, 0, none⟩)), (4, .pointer (some ⟨b17, 0, none⟩)), (5, .int .i64 x7667), (93, .bool x11393)] ∧ Ext w w' ∧ St w' M11360 F [Blk b17 (.cells #[.slice A10497 x10496.length c10498] 58 (0, 0)), Blk b7 (.cells #[.slice A9626 t9624.2.2.l.length c9627, .int .i64 t9624.2.2.last] 47 (0, 0)), Row r_status_writer 49 (.slice A9626 t9624.2.2.l.length c9627) t9624.2.2.l]) ?_ ?_
          · have H := o11394h
            rcases iteS H with ⟨hb11392, H⟩ | ⟨hb11392, H⟩
            · skip
              refine W_no (skF hb11392) rfl ?_
              refine W_no (skF hb11392) rfl ?_
              refine W_no (skF hb11392) rfl ?_
              refine W_no (skF hb11392) rfl ?_
              refine W_v (.bool true) (x_pick (k := true) (congrArg Value.bool hb11392) rfl) rfl ?_
              refine Wl_nil ?_
              exact ⟨true, Option.some.inj H, ⟨rfl, rfl, rfl, rfl, rfl, trivial⟩, E, S.pick [0, 1, 2] (by decide)⟩
            · skip
              refine W_yes (congrArg some hb11392) ?_
              refine W_v (.pointer (some ⟨b9592, 0, none⟩)) (x_move rfl) rfl ?_
              refine W_yes (congrArg some hb11392) ?_
              refine W_v (.pointer (some ⟨b9602, 0, none⟩)) (x_move rfl) rfl ?_
              refine W_yes (congrArg some hb11392) ?_
              obtain ⟨t11395, ht11396, H⟩ := bindS H
              replace S : St w11381 M11360 F [Blk b9592 (.cells #[.slice A9594 t9590.l.length c9595, .int .i64 t9590.last] 47 (0, 0)), Row r_status_writer 49 (.slice A9594 t9590.l.length c9595) t9590.l, Blk b9602 (.cells #[.slice A9604 t9600.L.length c9605] 58 (0, 0)), Blk b17 (.cells #[.slice A10497 x10496.length c10498] 58 (0, 0)), Blk b7 (.cells #[.slice A9626 t9624.2.2.l.length c9627, .int .i64 t9624.2.2.last] 47 (0, 0)), Row r_status_writer 49 (.slice A9626 t9624.2.2.l.length c9627) t9624.2.2.l] := S.pick [4, 5, 3, 0, 1, 2] (by decide)
              refine W_callF2 fn30 (ferrymanlaw08_like_PO_PR.con k M11360 A9594 c9595 t9590 A9604 c9605 t9600 b9592 b9602 t11395 hs9606 hg0 ht11396) (Γ1 := [Blk b9592 (.cells #[.slice A9594 t9590.l.length c9595, .int .i64 t9590.last] 47 (0, 0)), Row r_status_writer 49 (.slice A9594 t9590.l.length c9595) t9590.l, Blk b9602 (.cells #[.slice A9604 t9600.L.length c9605] 58 (0, 0))]) (Γ2 := [Blk b17 (.cells #[.slice A10497 x10496.length c10498] 58 (0, 0)), Blk b7 (.cells #[.slice A9626 t9624.2.2.l.length c9627, .int .i64 t9624.2.2.last] 47 (0, 0)), Row r_status_writer 49 (.slice A9626 t9624.2.2.l.length c9627) t9624.2.2.l]) S rfl rfl (by rintro _ _ _ ⟨rfl, rfl⟩; exact (flat_cons flat_blk (flat_cons (flat_row (fun _ _ _ _ h => h)) (flat_cons flat_blk flat_nil)))) ?_
              rintro _ w11397 _ Γ' E' S ⟨rfl, rfl⟩
              replace E := E.trans E'
              clear E'
              replace S : St w11397 M11360 F [Blk b9592 (.cells #[.slice A9594 t9590.l.length c9595, .int .i64 t9590.last] 47 (0, 0)), Row r_status_writer 49 (.slice A9594 t9590.l.length c9595) t9590.l, Blk b9602 (.cells #[.slice A9604 t9600.L.length c9605] 58 (0, 0)), Blk b17 (.cells #[.slice A10497 x10496.length c10498] 58 (0, 0)), Blk b7 (.cells #[.slice A9626 t9624.2.2.l.length c9627, .int .i64 t9624.2.2.last] 47 (0, 0)), Row r_status_writer 49 (.slice A9626 t9624.2.2.l.length c9627) t9624.2.2.l] := S
              refine W_yes (congrArg some hb11392) ?_
              refine W_v (.bool (!t11395)) (x_not rfl) rfl ?_
              refine W_v (.bool (!t11395)) (x_pick (k := false) (congrArg Value.bool hb11392) rfl) rfl ?_
              refine Wl_nil ?_
              exact ⟨(!t11395), Option.some.inj H, ⟨rfl, rfl, rfl, rfl, rfl, trivial⟩, E, S.pick [3, 4, 5] (by decide)⟩
          clear o11394h
          rintro ρ w11400 ⟨x11393, rfl, hρ, E, S⟩
          rw [agree_eta hρ]
          clear hρ
          have H := o11394H
          clear o11394H
          refine Wl_nil ?_
          refine tn ?_
          rcases iteS H with ⟨hb11401, H⟩ | ⟨hb11401, H⟩
          · refine Wp_cond_true (congrArg Value.bool hb11401) ?_
            refine Wp_seq ?_
            refine Wp_region_lit ?_
            refine W_v (.bool false) (x_assign rfl) rfl ?_
            refine Wl_nil ?_
            refine tn ?_
            refine Wp_ret ?_
            refine tr (br (tr (tr (br (tr (tr (?_)))))))
            obtain rfl := Option.some.inj H
            have H := o9585H
            replace H := elimL H
            obtain rfl := Option.some.inj H
            exact ⟨_, _, _, fun w1 e1 => run_resR (vs := [.bool false]) (FA.cons (rfl) (FA.nil)), HM, E, S.pick [] (by decide), ⟨rfl, rfl⟩⟩
          refine Wp_cond_false (congrArg Value.bool hb11401) ?_
          refine Wp_skip ?_
          refine tn ?_
          refine Wp_seq ?_
          refine Wp_region_lit ?_
          refine W_v (.pointer (some ⟨b7, 0, none⟩)) (x_move rfl) rfl ?_
          obtain ⟨t11402, ht11403, H⟩ := bindS H
          replace S : St w11400 M11360 F [Blk b7 (.cells #[.slice A9626 t9624.2.2.l.length c9627, .int .i64 t9624.2.2.last] 47 (0, 0)), Row r_status_writer 49 (.slice A9626 t9624.2.2.l.length c9627) t9624.2.2.l, Blk b17 (.cells #[.slice A10497 x10496.length c10498] 58 (0, 0))] := S.pick [1, 2, 0] (by decide)
          refine W_callF2 fn14 (status_Writers_Busy_PO.con k M11360 A9626 c9627 t9624.2.2 b7 t11402 hg0 ht11403) (Γ1 := [Blk b7 (.cells #[.slice A9626 t9624.2.2.l.length c9627, .int .i64 t9624.2.2.last] 47 (0, 0)), Row r_status_writer 49 (.slice A9626 t9624.2.2.l.length c9627) t9624.2.2.l]) (Γ2 := [Blk b17 (.cells #[.slice A10497 x10496.length c10498] 58 (0, 0))]) S rfl rfl (by rintro _ _ _ ⟨_, _, rfl, rfl⟩; exact (flat_cons (flat_row (fun _ _ _ _ h => h)) (flat_cons flat_blk (flat_cons (flat_row (fun _ _ _ _ h => h)) flat_nil)))) ?_
          rintro _ w11407 _ Γ' E' S ⟨A11404, c11405, rfl, rfl⟩
          replace E := E.trans E'
          clear E'
          replace S : St w11407 M11360 F [Row (rInt .i64) 3 (.slice A11404 t11402.length c11405) t11402, Blk b7 (.cells #[.slice A9626 t9624.2.2.l.length c9627, .int .i64 t9624.2.2.last] 47 (0, 0)), Row r_status_writer 49 (.slice A9626 t9624.2.2.l.length c9627) t9624.2.2.l, Blk b17 (.cells #[.slice A10497 x10496.length c10498] 58 (0, 0))] := S
          refine W_v (.slice A11404 t11402.length c11405) (x_assign rfl) rfl ?_
          refine Wl_nil ?_
          refine tn ?_
          refine Wp_seq ?_
          refine Wp_region_lit ?_
          refine W_v (.int .i64 0) (x_assign rfl) rfl ?_
          refine Wl_nil ?_
          refine tn ?_
          obtain ⟨o11470, o11470h, o11470H⟩ := bindS H
          clear H
          refine Wp_blockJ (fun ρ w' => () = o11470 ∧ Agree ρ [(0, .slice A0 a0.length c0), (3, .pointer (some ⟨b7, 0, none⟩)), (4, .pointer (some ⟨b17, 0, none⟩)), (5, .int .i64 x7667)] ∧ Ext w w' ∧ St w' M11360 F [Blk b7 (.cells #[.slice A9626 t9624.2.2.l.length c9627, .int .i64 t9624.2.2.last] 47 (0, 0)), Row r_status_writer 49 (.slice A9626 t9624.2.2.l.length c9627) t9624.2.2.l, Blk b17 (.cells #[.slice A10497 x10496.length c10498] 58 (0, 0))]) ?_ ?_
          · skip
            refine Wp_loop (fun n ρ w' => ∃ (x11450 : List Int) (x11454 : Int) (A11451 : Option Addr) (c11452 : Nat), ferrymanlaw08_StatusPlays_l6 n x11450 x11454 = some o11470 ∧ Agree ρ [(0, .slice A0 a0.length c0), (3, .pointer (some ⟨b7, 0, none⟩)), (4, .pointer (some ⟨b17, 0, none⟩)), (5, .int .i64 x7667), (13, .slice A11451 x11450.length c11452), (14, .int .i64 x11454)] ∧ Ext w w' ∧ St w' M11360 F [Row (rInt .i64) 3 (.slice A11451 x11450.length c11452) x11450, Blk b7 (.cells #[.slice A9626 t9624.2.2.l.length c9627, .int .i64 t9624.2.2.last] 47 (0, 0)), Row r_status_writer 49 (.slice A9626 t9624.2.2.l.length c9627) t9624.2.2.l, Blk b17 (.cells #[.slice A10497 x10496.length c10498] 58 (0, 0))]) k ?_ ?_
            · skip
              exact ⟨t11402, (0 : Int), A11404, c11405, o11470h, ⟨rfl, rfl, rfl, rfl, rfl, rfl, trivial⟩, E, S.pick [0, 1, 2, 3] (by decide)⟩
            · intro n
              rintro ρ w11471 ⟨x11450, x11454, A11451, c11452, H, hρ, E, S⟩
              rw [agree_eta hρ]
              clear hρ
              cases n with
              | zero => cases H
              | succ k =>
                rw [ferrymanlaw08_StatusPlays_l6.eq_2] at H
                refine Wp_seq ?_
                refine Wp_seq ?_
                refine Wp_region_lit ?_
                refine W_v (.int .i64 x11454) (x_move rfl) rfl ?_
                refine W_v (.slice A11451 x11450.length c11452) (x_move rfl) rfl ?_
                refine W_v (.int .i64 (x11450.length : Int)) (x_len_slice (n := x11450.length) Tryd.underlying32 rfl) rfl ?_
                refine W_v (.bool (decide (x11454 < (x11450.length : Int)))) (x_ibin rfl rfl rfl rfl) rfl ?_
                refine Wl_nil ?_
                refine tn ?_
                rcases iteS H with ⟨hb11472, H⟩ | ⟨hb11472, H⟩
                · refine Wp_cond_true (congrArg Value.bool hb11472) ?_
                  refine Wp_skip ?_
                  refine tn ?_
                  refine Wp_seq ?_
                  refine Wp_block ?_
                  refine Wp_region_lit ?_
                  refine W_v (.slice A11451 x11450.length c11452) (x_move rfl) rfl ?_
                  refine W_v (.int .i64 x11454) (x_move rfl) rfl ?_
                  obtain ⟨⟨p11473, p11474⟩, H⟩ := chkS H
                  obtain ⟨b11475, o11476, cs11477, _, _, ee11482, hb11478, vs11479, hR11480, hc11481⟩ := SlW.at' (S.row_read 0 rfl) p11473 p11474
                  obtain rfl : vs11479 = _ := hR11480
                  refine W_v (.pointer (some ⟨b11475, o11476 + x11454.toNat * 1, none⟩)) (x_indexAddr Tryd.underlying32 ty3 (slA ee11482) rfl p11473 p11474) rfl ?_
                  obtain ⟨x11484, he11485, H⟩ := bindS H
                  replace he11485 := Option.some.inj he11485
                  refine W_rowstore S 0 rfl rfl ee11482 (by first | exact p11473 | simpa using p11473) (by first | exact p11474 | simpa using p11474) 0 ty3 rfl rfl [.int .i64 (-7)] rfl rfl rfl rfl (-7 : Int) (by rintro _ rfl; rfl) he11485 ?_
                  intro w11483 E' S
                  replace E := E.trans E'
                  clear E'
                  have hs11486 : Value.slice A11451 x11450.length c11452 = Value.slice A11451 x11484.length c11452 := by rw [← he11485, List.length_set]
                  try rw [hs11486] at S
                  try rw [hs11486]
                  clear hs11486
                  refine Wl_nil ?_
                  refine bn ?_
                  refine tn ?_
                  refine Wp_region_lit ?_
                  refine W_v (.int .i64 x11454) (x_move rfl) rfl ?_
                  refine W_v (.int .i64 (IntKind.i64.wrap (x11454 + (1 : Int)))) (x_ibin rfl rfl rfl rfl) rfl ?_
                  refine W_v (.int .i64 (IntKind.i64.wrap (x11454 + (1 : Int)))) (x_assign rfl) rfl ?_
                  refine Wl_nil ?_
                  refine tn ?_
                  exact ⟨k, Nat.lt_succ_self k, ⟨x11484, (IntKind.i64.wrap (x11454 + (1 : Int))), A11451, c11452, H, ⟨rfl, rfl, rfl, rfl, rfl, rfl, trivial⟩, E, S.pick [0, 1, 2, 3] (by decide)⟩⟩
                refine Wp_cond_false (congrArg Value.bool hb11472) ?_
                refine Wp_exit ?_
                refine tx (tx (bsm (?_)))
                refine tn ?_
                exact ⟨Option.some.inj H, ⟨rfl, rfl, rfl, rfl, trivial⟩, E, S.pick [1, 2, 3] (by decide)⟩
          clear o11470h
          rintro ρ w11487 ⟨rfl, hρ, E, S⟩
          rw [agree_eta hρ]
          clear hρ
          have H := o11470H
          clear o11470H
          refine bn ?_
          refine tn ?_
          refine Wp_region_lit ?_
          refine W_v (.int .i64 x7667) (x_move rfl) rfl ?_
          refine W_v (.int .i64 (IntKind.i64.wrap (x7667 + (1 : Int)))) (x_ibin rfl rfl rfl rfl) rfl ?_
          refine W_v (.int .i64 (IntKind.i64.wrap (x7667 + (1 : Int)))) (x_assign rfl) rfl ?_
          refine Wl_nil ?_
          refine tn ?_
          exact ⟨k, Nat.lt_succ_self k, ⟨(IntKind.i64.wrap (x7667 + (1 : Int))), x10496, t9624.2.2.l, t9624.2.2.last, A10497, c10498, A9626, c9627, M11360, H, ⟨rfl, rfl, rfl, rfl, trivial⟩, hM9588, E, S.pick [1, 2, 0] (by decide), hs10499⟩⟩
        refine Wp_cond_false (congrArg Value.bool hb9589) ?_
        refine Wp_exit ?_
        refine tx (tx (bsm (?_)))
        refine tn ?_
        exact ⟨x7668, x7672, x7676, A7669, c7670, A7673, c7674, M9587, Option.some.inj H, ⟨rfl, rfl, trivial⟩, hM9588, E, S.pick [0, 1, 2] (by decide), hs7671⟩
  clear o9585h
  rintro ρ w11488 ⟨x9576, x9580, x9584, A9577, c9578, A9581, c9582, M11489, rfl, hρ, hM11490, E, S, hs9579⟩
  rw [agree_eta hρ]
  clear hρ
  replace hg0 : ∃ gt fr, _ := (let ⟨gt, fr, h8⟩ := hg0; ⟨gt, fr, hM11490 _ _ h8⟩)
  replace HM := Hp.le_trans HM hM11490
  replace hr0 := SlR.mono hr0 hM11490
  replace hf3848 := SlR.mono hf3848 hM11490
  have H := o9585H
  clear o9585H
  replace H := elimR H
  refine tn ?_
  refine Wp_seq ?_
  refine Wp_region_lit ?_
  refine W_v (.pointer (some ⟨b7, 0, none⟩)) (x_move rfl) rfl ?_
  refine W_v (.pointer (some ⟨b17, 0, none⟩)) (x_move rfl) rfl ?_
  obtain ⟨t11491, ht11492, H⟩ := bindS H
  replace S : St w11488 M11489 F [Blk b7 (.cells #[.slice A9581 x9580.length c9582, .int .i64 x9584] 47 (0, 0)), Row r_status_writer 49 (.slice A9581 x9580.length c9582) x9580, Blk b17 (.cells #[.slice A9577 x9576.length c9578] 58 (0, 0))] := S.pick [2, 0, 1] (by decide)
  refine W_callF2 fn30 (ferrymanlaw08_like_PO_PR.con k M11489 A9581 c9582 (⟨x9580, x9584⟩ : status_Writers) A9577 c9578 (⟨x9576⟩ : ferrymanref08_Writers) b7 b17 t11491 hs9579 hg0 ht11492) (Γ1 := [Blk b7 (.cells #[.slice A9581 x9580.length c9582, .int .i64 x9584] 47 (0, 0)), Row r_status_writer 49 (.slice A9581 x9580.length c9582) x9580, Blk b17 (.cells #[.slice A9577 x9576.length c9578] 58 (0, 0))]) (Γ2 := []) S rfl rfl (by rintro _ _ _ ⟨rfl, rfl⟩; exact (flat_cons flat_blk (flat_cons (flat_row (fun _ _ _ _ h => h)) (flat_cons flat_blk flat_nil)))) ?_
  rintro _ w11493 _ Γ' E' S ⟨rfl, rfl⟩
  replace E := E.trans E'
  clear E'
  replace S : St w11493 M11489 F [Blk b7 (.cells #[.slice A9581 x9580.length c9582, .int .i64 x9584] 47 (0, 0)), Row r_status_writer 49 (.slice A9581 x9580.length c9582) x9580, Blk b17 (.cells #[.slice A9577 x9576.length c9578] 58 (0, 0))] := S
  refine W_v (.bool t11491) (x_move rfl) rfl ?_
  obtain ⟨o11504, o11504h, o11504H⟩ := bindS H
  clear H
  refine Wl_cutN 2 (fun ρ w' => ∃ (x11503 : Bool), (x11503) = o11504 ∧ Agree ρ [(110, .bool x11503)] ∧ Ext w w' ∧ St w' M11489 F []) ?_ ?_
  · have H := o11504h
    rcases iteS H with ⟨hb11502, H⟩ | ⟨hb11502, H⟩
    · skip
      refine W_yes (congrArg some hb11502) ?_
      obtain ⟨t11505, ht11506, H⟩ := bindS H
      refine W_callF fn8 (ferrymanlaw08_works.con k M11489  t11505 hg0 ht11506) S rfl rfl (by rintro _ _ _ ⟨_, rfl⟩; exact flat_nil) ?_
      rintro _ w11507 _ Γ' E' S ⟨rfl, rfl⟩
      replace E := E.trans E'
      clear E'
      refine W_v (.bool t11505) (x_pick (k := true) (congrArg Value.bool hb11502) rfl) rfl ?_
      refine Wl_nil ?_
      exact ⟨t11505, Option.some.inj H, ⟨rfl, trivial⟩, E, S.pick [] (by decide)⟩
    · skip
      refine W_no (skT hb11502) rfl ?_
      refine W_v (.bool false) (x_pick (k := false) (congrArg Value.bool hb11502) rfl) rfl ?_
      refine Wl_nil ?_
      exact ⟨false, Option.some.inj H, ⟨rfl, trivial⟩, E, S.pick [] (by decide)⟩
  clear o11504h
  rintro ρ w11508 ⟨x11503, rfl, hρ, E, S⟩
  rw [agree_eta hρ]
  clear hρ
  have H := o11504H
  clear o11504H
  refine W_v (.bool x11503) (x_assign rfl) rfl ?_
  refine Wl_nil ?_
  refine tn ?_
  refine Wp_ret ?_
  obtain rfl := Option.some.inj H
  exact ⟨_, _, _, fun w1 e1 => run_resR (vs := [.bool x11503]) (FA.cons (rfl) (FA.nil)), HM, E, S.pick [] (by decide), ⟨rfl, rfl⟩⟩
end Go.Proofs.YtbdelepfpnneoaaDoor
