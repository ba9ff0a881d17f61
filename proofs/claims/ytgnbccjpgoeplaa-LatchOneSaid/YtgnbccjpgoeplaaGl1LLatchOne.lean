import Derived.Test.YtgnbccjpgoeplaaGl1
namespace Go.Proofs.Ytgnbccjpgoeplaa
open Go
set_option linter.unusedVariables false
set_option linter.unusedSimpArgs false
/-! ### ferryman/ferrymanlaw05.LatchOne: function 3 -/
def ferrymanlaw05_LatchOne_l0 (a0 : (List ferrymanlaw05_Step)) (a1 : latch_Name) : Nat → Int → Bool → Int → List (latch_Name × Int) → Option ((Bool) ⊕ (Unit))
  | 0, _, _, _, _ => none
  | k + 1, x207, x208, x209, x210 => (if (decide (x209 < (a0.length : Int))) = true then (if 0 ≤ x209 ∧ x209 < (a0.length : Int) then (if (rd a0 x209).Drop = true then (Option.bind (latch_Latches_Drop_PO k (⟨x210⟩ : latch_Latches) ((rd a0 x209).N) ((rd a0 x209).Task)) (fun t318 => (if ((((rd a0 x209).N.Kind == a1.Kind) && ((rd a0 x209).N.ID == a1.ID)) && (!(t318.1 == (x208 && (x207 == (rd a0 x209).Task))))) = true then some (.inl false) else (Option.bind (latch_Latches_Owner_PO k t318.2 a1) (fun t335 => (if (((!(t335.2 == (x208 && (!((((rd a0 x209).N.Kind == a1.Kind) && ((rd a0 x209).N.ID == a1.ID)) && t318.1))))) || (t335.2 && (t335.1 != x207))) || ((!t335.2) && (t335.1 != (0 : Int)))) = true then some (.inl false) else ferrymanlaw05_LatchOne_l0 a0 a1 k x207 (x208 && (!((((rd a0 x209).N.Kind == a1.Kind) && ((rd a0 x209).N.ID == a1.ID)) && t318.1))) (IntKind.i64.wrap (x209 + (1 : Int))) t318.2.by_)))))) else (Option.bind (latch_Latches_Try_PO k (⟨x210⟩ : latch_Latches) ((rd a0 x209).N) ((rd a0 x209).Task)) (fun t349 => (if ((((rd a0 x209).N.Kind == a1.Kind) && ((rd a0 x209).N.ID == a1.ID)) && (!(t349.1 == ((!x208) || (x207 == (rd a0 x209).Task))))) = true then some (.inl false) else (Option.bind (α := Int × Bool × (List (latch_Name × Int))) (if ((((rd a0 x209).N.Kind == a1.Kind) && ((rd a0 x209).N.ID == a1.ID)) && t349.1) = true then some ((rd a0 x209).Task, true, t349.2.by_) else some (x207, x208, t349.2.by_)) (fun ⟨x365, x366, x367⟩ => (Option.bind (latch_Latches_Owner_PO k (⟨x367⟩ : latch_Latches) a1) (fun t374 => (if (((!(t374.2 == x366)) || (t374.2 && (t374.1 != x365))) || ((!t374.2) && (t374.1 != (0 : Int)))) = true then some (.inl false) else ferrymanlaw05_LatchOne_l0 a0 a1 k x365 x366 (IntKind.i64.wrap (x209 + (1 : Int))) x367))))))))) else none) else some (.inr ()))
set_option maxHeartbeats 2000000 in
theorem ferrymanlaw05_LatchOne_l0.mono {a0 : (List ferrymanlaw05_Step)} {a1 : latch_Name} : ∀ {k : Nat} {x0 x1 x2 x3}, OLe (ferrymanlaw05_LatchOne_l0 a0 a1 k x0 x1 x2 x3) (ferrymanlaw05_LatchOne_l0 a0 a1 (k + 1) x0 x1 x2 x3) := by
  intro k
  induction k with
  | zero => intros; exact OLe.none
  | succ k ih =>
    intros
    rw [ferrymanlaw05_LatchOne_l0.eq_2, ferrymanlaw05_LatchOne_l0.eq_2]
    repeat' (first | with_reducible exact OLe.none | with_reducible exact OLe.some | with_reducible refine OLe.ite ?_ ?_ | with_reducible refine OLe.bind ?_ (fun _ => ?_) | with_reducible exact latch_Latches_Drop_PO.mono | with_reducible exact latch_Latches_Owner_PO.mono | with_reducible exact latch_Latches_Try_PO.mono | exact ih | refine OLe.bind ?_ (fun _ => ?_) | refine OLe.ite ?_ ?_ | refine OLe.elim (fun _ => ?_) (fun _ => ?_) | split)
def ferrymanlaw05_LatchOne (k : Nat) (a0 : (List ferrymanlaw05_Step)) (a1 : latch_Name) : Option (Bool) :=
  (Option.bind (α := Bool) (if (decide ((a0.length : Int) > (300 : Int))) = true then some (true) else (Option.bind (ferrymanlaw05_awake k ) (fun t13 => some ((!t13))))) (fun x11 => (if x11 = true then (Option.bind (ferrymanlaw05_awake k ) (fun t18 => some t18)) else (Option.bind (latch_New k ) (fun t21 => (Option.bind (ferrymanlaw05_LatchOne_l0 a0 a1 k (0 : Int) false (0 : Int) t21.by_) (fun o300o => Sum.elim (fun r' => some r') (fun _ => some true) o300o)))))))
set_option maxHeartbeats 2000000 in
theorem ferrymanlaw05_LatchOne.mono {k : Nat} {a0 : (List ferrymanlaw05_Step)} {a1 : latch_Name} : OLe (ferrymanlaw05_LatchOne k a0 a1) (ferrymanlaw05_LatchOne (k + 1) a0 a1) := by
  unfold ferrymanlaw05_LatchOne
  repeat' (first | with_reducible exact OLe.none | with_reducible exact OLe.some | with_reducible refine OLe.ite ?_ ?_ | with_reducible refine OLe.bind ?_ (fun _ => ?_) | with_reducible exact ferrymanlaw05_LatchOne_l0.mono | with_reducible exact ferrymanlaw05_awake.mono | with_reducible exact latch_New.mono | refine OLe.bind ?_ (fun _ => ?_) | refine OLe.ite ?_ ?_ | refine OLe.elim (fun _ => ?_) (fun _ => ?_) | split)
set_option maxHeartbeats 8000000 in
set_option maxRecDepth 100000 in
theorem ferrymanlaw05_LatchOne.con (k : Nat) (M : Hp) (A0 : Option Addr) (c0 : Nat) (a0 : (List ferrymanlaw05_Step)) (a1 : latch_Name) (r : Bool) (hr0 : SlR r_ferrymanlaw05_Step M (.slice A0 a0.length c0) a0) (h : ferrymanlaw05_LatchOne k a0 a1 = some r) : Con Try.prog 3 #[.slice A0 a0.length c0, .agg #[.int .u8 a1.Kind, .int .u64 a1.ID]] M [] (fun v M' Γ' => v = .bool r ∧ Γ' = []) := by
  refine con_of_wp Try.func3 rfl Try.ntmps3 Try.results3 rfl ?_
  intro w F rn S hrn
  have E := Ext.refl w
  have HM := Hp.le_refl M
  have H := h
  unfold ferrymanlaw05_LatchOne at H
  refine Wp_seq ?_
  refine Wp_region_lit ?_
  refine W_box S #[.int .u8 a1.Kind, .int .u64 a1.ID] rfl rfl rfl ?_
  intro b1 w2 E' S
  replace E := E.trans E'
  clear E'
  refine W_v (.bool false) (x_assign rfl) rfl ?_
  refine Wl_nil ?_
  refine tn ?_
  refine Wp_seq ?_
  refine Wp_seq ?_
  refine Wp_region_lit ?_
  refine W_v (.slice A0 a0.length c0) (x_move rfl) rfl ?_
  refine W_v (.int .i64 (a0.length : Int)) (x_len_slice (n := a0.length) Try.underlying22 rfl) rfl ?_
  refine W_v (.bool (decide ((a0.length : Int) > (300 : Int)))) (x_ibin rfl rfl rfl rfl) rfl ?_
  refine W_v (.bool (decide ((a0.length : Int) > (300 : Int)))) (x_move rfl) rfl ?_
  obtain ⟨o12, o12h, o12H⟩ := bindS H
  clear H
  refine Wl_cutN 3 (fun ρ w' => ∃ (x11 : Bool), (x11) = o12 ∧ Agree ρ [(0, .slice A0 a0.length c0), (3, .pointer (some ⟨b1, 0, none⟩)), (20, .bool x11)] ∧ Ext w w' ∧ St w' M F [Blk b1 (.cells #[.int .u8 a1.Kind, .int .u64 a1.ID] 25 (0, 0))]) ?_ ?_
  · have H := o12h
    rcases iteS H with ⟨hb10, H⟩ | ⟨hb10, H⟩
    · skip
      refine W_no (skF hb10) rfl ?_
      refine W_no (skF hb10) rfl ?_
      refine W_v (.bool true) (x_pick (k := true) (congrArg Value.bool hb10) rfl) rfl ?_
      refine Wl_nil ?_
      exact ⟨true, Option.some.inj H, ⟨rfl, rfl, rfl, trivial⟩, E, S.pick [0] (by decide)⟩
    · skip
      refine W_yes (congrArg some hb10) ?_
      obtain ⟨t13, ht14, H⟩ := bindS H
      refine W_callF fn9 (ferrymanlaw05_awake.con k M  t13  ht14) S rfl rfl (by rintro _ _ _ ⟨_, rfl⟩; exact flat_nil) ?_
      rintro _ w15 _ Γ' E' S ⟨rfl, rfl⟩
      replace E := E.trans E'
      clear E'
      refine W_yes (congrArg some hb10) ?_
      refine W_v (.bool (!t13)) (x_not rfl) rfl ?_
      refine W_v (.bool (!t13)) (x_pick (k := false) (congrArg Value.bool hb10) rfl) rfl ?_
      refine Wl_nil ?_
      exact ⟨(!t13), Option.some.inj H, ⟨rfl, rfl, rfl, trivial⟩, E, S.pick [0] (by decide)⟩
  clear o12h
  rintro ρ w16 ⟨x11, rfl, hρ, E, S⟩
  rw [agree_eta hρ]
  clear hρ
  have H := o12H
  clear o12H
  refine Wl_nil ?_
  refine tn ?_
  rcases iteS H with ⟨hb17, H⟩ | ⟨hb17, H⟩
  · refine Wp_cond_true (congrArg Value.bool hb17) ?_
    refine Wp_seq ?_
    refine Wp_region_lit ?_
    obtain ⟨t18, ht19, H⟩ := bindS H
    refine W_callF fn9 (ferrymanlaw05_awake.con k M  t18  ht19) S rfl rfl (by rintro _ _ _ ⟨_, rfl⟩; exact flat_nil) ?_
    rintro _ w20 _ Γ' E' S ⟨rfl, rfl⟩
    replace E := E.trans E'
    clear E'
    refine W_v (.bool t18) (x_assign rfl) rfl ?_
    refine Wl_nil ?_
    refine tn ?_
    refine Wp_ret ?_
    refine tr (?_)
    obtain rfl := Option.some.inj H
    exact ⟨_, _, _, fun w1 e1 => run_resR (vs := [.bool t18]) (FA.cons (rfl) (FA.nil)), HM, E, S.pick [] (by decide), ⟨rfl, rfl⟩⟩
  refine Wp_cond_false (congrArg Value.bool hb17) ?_
  refine Wp_skip ?_
  refine tn ?_
  refine Wp_seq ?_
  refine Wp_region_lit ?_
  obtain ⟨t21, ht22, H⟩ := bindS H
  refine W_callF2 fn10 (latch_New.con k M  t21  ht22) (Γ1 := []) (Γ2 := [Blk b1 (.cells #[.int .u8 a1.Kind, .int .u64 a1.ID] 25 (0, 0))]) S rfl rfl (by rintro _ _ _ ⟨_, _, _, rfl, rfl⟩; exact (flat_cons flat_blk (flat_cons flat_map flat_nil))) ?_
  rintro _ w28 _ Γ' E' S ⟨b23, A25, c26, rfl, rfl⟩
  replace E := E.trans E'
  clear E'
  replace S : St w28 M F [Blk b23 (.cells #[.map (mb A25)] 56 (0, 0)), MapC enc_latch_Name (Value.int .i64) A25 t21.by_, Blk b1 (.cells #[.int .u8 a1.Kind, .int .u64 a1.ID] 25 (0, 0))] := S
  refine W_v (.pointer (some ⟨b23, 0, none⟩)) (x_assign rfl) rfl ?_
  refine Wl_nil ?_
  refine tn ?_
  refine Wp_seq ?_
  refine Wp_region_lit ?_
  refine W_v (.int .i64 0) (x_assign rfl) rfl ?_
  refine W_v (.bool false) (x_assign rfl) rfl ?_
  refine Wl_nil ?_
  refine tn ?_
  refine Wp_seq ?_
  refine Wp_seq ?_
  refine Wp_region_lit ?_
  refine W_v (.int .i64 0) (x_assign rfl) rfl ?_
  refine Wl_nil ?_
  refine tn ?_
  obtain ⟨o300, o300h, o300H⟩ := bindS H
  clear H
  refine Wp_blockJ (fun ρ w' => .inr () = o300 ∧ Agree ρ [] ∧ Ext w w' ∧ St w' M F []) ?_ ?_
  · skip
    refine Wp_loop (fun n ρ w' => ∃ (x207 : Int) (x208 : Bool) (x209 : Int) (x210 : List (latch_Name × Int)) (A211 : Option Addr) (c212 : Nat), ferrymanlaw05_LatchOne_l0 a0 a1 n x207 x208 x209 x210 = some o300 ∧ Agree ρ [(0, .slice A0 a0.length c0), (3, .pointer (some ⟨b1, 0, none⟩)), (5, .pointer (some ⟨b23, 0, none⟩)), (6, .int .i64 x207), (7, .bool x208), (8, .int .i64 x209)] ∧ Ext w w' ∧ St w' M F [MapC enc_latch_Name (Value.int .i64) A211 x210, Blk b23 (.cells #[.map (mb A211)] 56 (0, 0)), Blk b1 (.cells #[.int .u8 a1.Kind, .int .u64 a1.ID] 25 (0, 0))]) k ?_ ?_
    · skip
      exact ⟨(0 : Int), false, (0 : Int), t21.by_, A25, c26, o300h, ⟨rfl, rfl, rfl, rfl, rfl, rfl, trivial⟩, E, S.pick [1, 0, 2] (by decide)⟩
    · intro n
      rintro ρ w301 ⟨x207, x208, x209, x210, A211, c212, H, hρ, E, S⟩
      rw [agree_eta hρ]
      clear hρ
      cases n with
      | zero => cases H
      | succ k =>
        rw [ferrymanlaw05_LatchOne_l0.eq_2] at H
        refine Wp_seq ?_
        refine Wp_seq ?_
        refine Wp_region_lit ?_
        refine W_v (.int .i64 x209) (x_move rfl) rfl ?_
        refine W_v (.slice A0 a0.length c0) (x_move rfl) rfl ?_
        refine W_v (.int .i64 (a0.length : Int)) (x_len_slice (n := a0.length) Try.underlying22 rfl) rfl ?_
        refine W_v (.bool (decide (x209 < (a0.length : Int)))) (x_ibin rfl rfl rfl rfl) rfl ?_
        refine Wl_nil ?_
        refine tn ?_
        rcases iteS H with ⟨hb302, H⟩ | ⟨hb302, H⟩
        · refine Wp_cond_true (congrArg Value.bool hb302) ?_
          refine Wp_skip ?_
          refine tn ?_
          refine Wp_seq ?_
          refine Wp_block ?_
          refine Wp_seq ?_
          refine Wp_region_lit ?_
          refine W_v (.slice A0 a0.length c0) (x_move rfl) rfl ?_
          refine W_v (.int .i64 x209) (x_move rfl) rfl ?_
          obtain ⟨⟨p303, p304⟩, H⟩ := chkS H
          obtain ⟨b305, o306, cs307, _, _, ee312, hb308, vs309, hR310, hc311⟩ := SlW.at' hr0 p303 p304
          obtain rfl : vs309 = _ := hR310
          refine W_v (.pointer (some ⟨b305, o306 + x209.toNat * 4, none⟩)) (x_indexAddr Try.underlying22 ty30 (slA ee312) rfl p303 p304) rfl ?_
          refine W_v (.agg #[.bool ((rd a0 x209).Drop), .int .u8 ((rd a0 x209).N.Kind), .int .u64 ((rd a0 x209).N.ID), .int .i64 ((rd a0 x209).Task)]) (x_loadA (S.frz hb308) ty30 rfl (sub_el hc311 0 rfl) rfl rfl) rfl ?_
          refine W_alloc S #[.bool false, .int .u8 0, .int .u64 0, .int .i64 0] ty30 rfl rfl ?_
          intro b313 w314 E' S
          replace E := E.trans E'
          clear E'
          refine W_store S 0 rfl ty30 rfl rfl [.bool ((rd a0 x209).Drop), .int .u8 ((rd a0 x209).N.Kind), .int .u64 ((rd a0 x209).N.ID), .int .i64 ((rd a0 x209).Task)] rfl rfl rfl #[.bool ((rd a0 x209).Drop), .int .u8 ((rd a0 x209).N.Kind), .int .u64 ((rd a0 x209).N.ID), .int .i64 ((rd a0 x209).Task)] rfl rfl ?_
          intro w316 E' S
          replace E := E.trans E'
          clear E'
          refine Wl_nil ?_
          refine tn ?_
          refine Wp_seq ?_
          refine Wp_seq ?_
          refine Wp_region_lit ?_
          refine W_v (.pointer (some ⟨b313, 0, none⟩)) (x_fieldAddr (o := 0) (off := 0) Try.underlying30 rfl ty4 rfl rfl) rfl ?_
          refine W_v (.bool ((rd a0 x209).Drop)) (x_load (S.blk 0 rfl) ty4 rfl rfl) rfl ?_
          refine Wl_nil ?_
          refine tn ?_
          rcases iteS H with ⟨hb317, H⟩ | ⟨hb317, H⟩
          · refine Wp_cond_true (congrArg Value.bool hb317) ?_
            refine Wp_seq ?_
            refine Wp_region_lit ?_
            refine W_v (.pointer (some ⟨b23, 0, none⟩)) (x_move rfl) rfl ?_
            refine W_v (.pointer (some ⟨b313, 1, none⟩)) (x_fieldAddr (o := 0) (off := 1) Try.underlying30 rfl ty25 rfl rfl) rfl ?_
            refine W_v (.agg #[.int .u8 ((rd a0 x209).N.Kind), .int .u64 ((rd a0 x209).N.ID)]) (x_loadA (S.blk 0 rfl) ty25 rfl (sub_of_extract rfl) rfl rfl) rfl ?_
            refine W_v (.pointer (some ⟨b313, 3, none⟩)) (x_fieldAddr (o := 0) (off := 3) Try.underlying30 rfl ty3 rfl rfl) rfl ?_
            refine W_v (.int .i64 ((rd a0 x209).Task)) (x_load (S.blk 0 rfl) ty3 rfl rfl) rfl ?_
            obtain ⟨t318, ht319, H⟩ := bindS H
            replace S : St w316 M F [Blk b23 (.cells #[.map (mb A211)] 56 (0, 0)), MapC enc_latch_Name (Value.int .i64) A211 x210, Blk b313 (.cells #[.bool ((rd a0 x209).Drop), .int .u8 ((rd a0 x209).N.Kind), .int .u64 ((rd a0 x209).N.ID), .int .i64 ((rd a0 x209).Task)] 30 (0, 0)), Blk b1 (.cells #[.int .u8 a1.Kind, .int .u64 a1.ID] 25 (0, 0))] := S.pick [2, 1, 0, 3] (by decide)
            refine W_callF2 fn11 (latch_Latches_Drop_PO.con k M A211 c212 (⟨x210⟩ : latch_Latches) ((rd a0 x209).N) ((rd a0 x209).Task) b23 t318  ht319) (Γ1 := [Blk b23 (.cells #[.map (mb A211)] 56 (0, 0)), MapC enc_latch_Name (Value.int .i64) A211 x210]) (Γ2 := [Blk b313 (.cells #[.bool ((rd a0 x209).Drop), .int .u8 ((rd a0 x209).N.Kind), .int .u64 ((rd a0 x209).N.ID), .int .i64 ((rd a0 x209).Task)] 30 (0, 0)), Blk b1 (.cells #[.int .u8 a1.Kind, .int .u64 a1.ID] 25 (0, 0))]) S rfl rfl (by rintro _ _ _ ⟨_, _, rfl, rfl⟩; exact (flat_cons flat_blk (flat_cons flat_map flat_nil))) ?_
            rintro _ w323 _ Γ' E' S ⟨A320, c321, rfl, rfl⟩
            replace E := E.trans E'
            clear E'
            replace S : St w323 M F [Blk b23 (.cells #[.map (mb A320)] 56 (0, 0)), MapC enc_latch_Name (Value.int .i64) A320 t318.2.by_, Blk b313 (.cells #[.bool ((rd a0 x209).Drop), .int .u8 ((rd a0 x209).N.Kind), .int .u64 ((rd a0 x209).N.ID), .int .i64 ((rd a0 x209).Task)] 30 (0, 0)), Blk b1 (.cells #[.int .u8 a1.Kind, .int .u64 a1.ID] 25 (0, 0))] := S
            refine W_v (.bool t318.1) (x_assign rfl) rfl ?_
            refine Wl_nil ?_
            refine tn ?_
            refine Wp_seq ?_
            refine Wp_seq ?_
            refine Wp_region_lit ?_
            refine W_v (.pointer (some ⟨b313, 1, none⟩)) (x_fieldAddr (o := 0) (off := 1) Try.underlying30 rfl ty25 rfl rfl) rfl ?_
            refine W_v (.agg #[.int .u8 ((rd a0 x209).N.Kind), .int .u64 ((rd a0 x209).N.ID)]) (x_loadA (S.blk 2 rfl) ty25 rfl (sub_of_extract rfl) rfl rfl) rfl ?_
            refine W_v (.agg #[.int .u8 a1.Kind, .int .u64 a1.ID]) (x_loadA (S.blk 3 rfl) ty25 rfl (sub_of_extract rfl) rfl rfl) rfl ?_
            refine W_v (.bool (((rd a0 x209).N.Kind == a1.Kind) && ((rd a0 x209).N.ID == a1.ID))) (x_eq_of (eg25 _ _ _ _) rfl (eq25 _ ((rd a0 x209).N.Kind) ((rd a0 x209).N.ID) a1.Kind a1.ID)) rfl ?_
            refine W_v (.bool (((rd a0 x209).N.Kind == a1.Kind) && ((rd a0 x209).N.ID == a1.ID))) (x_move rfl) rfl ?_
            refine Wl_cutN 10 (fun ρ w' => Agree ρ [(0, .slice A0 a0.length c0), (3, .pointer (some ⟨b1, 0, none⟩)), (5, .pointer (some ⟨b23, 0, none⟩)), (6, .int .i64 x207), (7, .bool x208), (8, .int .i64 x209), (9, .pointer (some ⟨b313, 0, none⟩)), (10, .bool t318.1), (55, .bool ((((rd a0 x209).N.Kind == a1.Kind) && ((rd a0 x209).N.ID == a1.ID)) && (!(t318.1 == (x208 && (x207 == (rd a0 x209).Task))))))] ∧ w323 = w') ?_ ?_
            · rcases boolCases (((rd a0 x209).N.Kind == a1.Kind) && ((rd a0 x209).N.ID == a1.ID)) with hb328 | hb328
              · skip
                refine W_no (skT hb328) rfl ?_
                refine W_no (skT hb328) rfl ?_
                refine W_no (skT hb328) rfl ?_
                refine W_no (rfl) rfl ?_
                refine W_no (rfl) rfl ?_
                refine W_no (rfl) rfl ?_
                refine W_no (rfl) rfl ?_
                refine W_no (skT hb328) rfl ?_
                refine W_no (skT hb328) rfl ?_
                refine W_v (.bool false) (x_pick (k := false) (congrArg Value.bool hb328) rfl) rfl ?_
                refine Wl_nil ?_
                exact ⟨⟨rfl, rfl, rfl, rfl, rfl, rfl, rfl, rfl, (by first | rfl | (rw [hb328]; rfl) | (simp only [hb328]; rfl)), trivial⟩, rfl⟩
              · skip
                refine W_yes (congrArg some hb328) ?_
                refine W_v (.bool t318.1) (x_move rfl) rfl ?_
                refine W_yes (congrArg some hb328) ?_
                refine W_v (.bool x208) (x_move rfl) rfl ?_
                refine W_yes (congrArg some hb328) ?_
                refine W_v (.bool x208) (x_move rfl) rfl ?_
                refine Wl_cutN 5 (fun ρ w' => Agree ρ [(0, .slice A0 a0.length c0), (3, .pointer (some ⟨b1, 0, none⟩)), (5, .pointer (some ⟨b23, 0, none⟩)), (6, .int .i64 x207), (7, .bool x208), (8, .int .i64 x209), (9, .pointer (some ⟨b313, 0, none⟩)), (10, .bool t318.1), (45, .bool (((rd a0 x209).N.Kind == a1.Kind) && ((rd a0 x209).N.ID == a1.ID))), (46, .bool t318.1), (47, .bool x208), (48, .bool x208), (53, .bool (x208 && (x207 == (rd a0 x209).Task)))] ∧ w323 = w') ?_ ?_
                · rcases boolCases x208 with hb329 | hb329
                  · skip
                    refine W_no (skT hb329) rfl ?_
                    refine W_no (skT hb329) rfl ?_
                    refine W_no (skT hb329) rfl ?_
                    refine W_no (skT hb329) rfl ?_
                    refine W_yes (congrArg some hb328) ?_
                    refine W_v (.bool false) (x_pick (k := false) (congrArg Value.bool hb329) rfl) rfl ?_
                    refine Wl_nil ?_
                    exact ⟨⟨rfl, rfl, rfl, rfl, rfl, rfl, rfl, rfl, rfl, rfl, rfl, rfl, (by first | rfl | (rw [hb329]; rfl) | (simp only [hb329]; rfl)), trivial⟩, rfl⟩
                  · skip
                    refine W_yes (congrArg some hb329) ?_
                    refine W_v (.int .i64 x207) (x_move rfl) rfl ?_
                    refine W_yes (congrArg some hb329) ?_
                    refine W_v (.pointer (some ⟨b313, 3, none⟩)) (x_fieldAddr (o := 0) (off := 3) Try.underlying30 rfl ty3 rfl rfl) rfl ?_
                    refine W_yes (congrArg some hb329) ?_
                    refine W_v (.int .i64 ((rd a0 x209).Task)) (x_load (S.blk 2 rfl) ty3 rfl rfl) rfl ?_
                    refine W_yes (congrArg some hb329) ?_
                    refine W_v (.bool (x207 == (rd a0 x209).Task)) (x_ibin rfl rfl rfl rfl) rfl ?_
                    refine W_yes (congrArg some hb328) ?_
                    refine W_v (.bool (x207 == (rd a0 x209).Task)) (x_pick (k := true) (congrArg Value.bool hb329) rfl) rfl ?_
                    refine Wl_nil ?_
                    exact ⟨⟨rfl, rfl, rfl, rfl, rfl, rfl, rfl, rfl, rfl, rfl, rfl, rfl, (by first | rfl | (rw [hb329]; rfl) | (simp only [hb329]; rfl)), trivial⟩, rfl⟩
                rintro ρ _ ⟨hρ, rfl⟩
                rw [agree_eta hρ]
                clear hρ
                refine W_yes (congrArg some hb328) ?_
                refine W_v (.bool (!(t318.1 == (x208 && (x207 == (rd a0 x209).Task))))) (x_bne Try.underlying4 rfl rfl) rfl ?_
                refine W_v (.bool (!(t318.1 == (x208 && (x207 == (rd a0 x209).Task))))) (x_pick (k := true) (congrArg Value.bool hb328) rfl) rfl ?_
                refine Wl_nil ?_
                exact ⟨⟨rfl, rfl, rfl, rfl, rfl, rfl, rfl, rfl, (by first | rfl | (rw [hb328]; rfl) | (simp only [hb328]; rfl)), trivial⟩, rfl⟩
            rintro ρ _ ⟨hρ, rfl⟩
            rw [agree_eta hρ]
            clear hρ
            refine Wl_nil ?_
            refine tn ?_
            rcases iteS H with ⟨hb330, H⟩ | ⟨hb330, H⟩
            · refine Wp_cond_true (congrArg Value.bool hb330) ?_
              refine Wp_seq ?_
              refine Wp_region_lit ?_
              refine W_v (.bool false) (x_assign rfl) rfl ?_
              refine Wl_nil ?_
              refine tn ?_
              refine Wp_ret ?_
              refine tr (tr (br (tr (tr (br (tr (tr (?_))))))))
              obtain rfl := Option.some.inj H
              have H := o300H
              replace H := elimL H
              obtain rfl := Option.some.inj H
              exact ⟨_, _, _, fun w1 e1 => run_resR (vs := [.bool false]) (FA.cons (rfl) (FA.nil)), HM, E, S.pick [] (by decide), ⟨rfl, rfl⟩⟩
            refine Wp_cond_false (congrArg Value.bool hb330) ?_
            refine Wp_skip ?_
            refine tn ?_
            refine Wp_region_lit ?_
            refine W_v (.bool x208) (x_move rfl) rfl ?_
            refine W_v (.bool x208) (x_move rfl) rfl ?_
            refine Wl_cutN 9 (fun ρ w' => Agree ρ [(0, .slice A0 a0.length c0), (3, .pointer (some ⟨b1, 0, none⟩)), (5, .pointer (some ⟨b23, 0, none⟩)), (6, .int .i64 x207), (8, .int .i64 x209), (66, .bool (x208 && (!((((rd a0 x209).N.Kind == a1.Kind) && ((rd a0 x209).N.ID == a1.ID)) && t318.1))))] ∧ w323 = w') ?_ ?_
            · rcases boolCases x208 with hb333 | hb333
              · skip
                refine W_no (skT hb333) rfl ?_
                refine W_no (skT hb333) rfl ?_
                refine W_no (skT hb333) rfl ?_
                refine W_no (skT hb333) rfl ?_
                refine W_no (skT hb333) rfl ?_
                refine W_no (rfl) rfl ?_
                refine W_no (skT hb333) rfl ?_
                refine W_no (skT hb333) rfl ?_
                refine W_v (.bool false) (x_pick (k := false) (congrArg Value.bool hb333) rfl) rfl ?_
                refine Wl_nil ?_
                exact ⟨⟨rfl, rfl, rfl, rfl, rfl, (by first | rfl | (rw [hb333]; rfl) | (simp only [hb333]; rfl)), trivial⟩, rfl⟩
              · skip
                refine W_yes (congrArg some hb333) ?_
                refine W_v (.pointer (some ⟨b313, 1, none⟩)) (x_fieldAddr (o := 0) (off := 1) Try.underlying30 rfl ty25 rfl rfl) rfl ?_
                refine W_yes (congrArg some hb333) ?_
                refine W_v (.agg #[.int .u8 ((rd a0 x209).N.Kind), .int .u64 ((rd a0 x209).N.ID)]) (x_loadA (S.blk 2 rfl) ty25 rfl (sub_of_extract rfl) rfl rfl) rfl ?_
                refine W_yes (congrArg some hb333) ?_
                refine W_v (.agg #[.int .u8 a1.Kind, .int .u64 a1.ID]) (x_loadA (S.blk 3 rfl) ty25 rfl (sub_of_extract rfl) rfl rfl) rfl ?_
                refine W_yes (congrArg some hb333) ?_
                refine W_v (.bool (((rd a0 x209).N.Kind == a1.Kind) && ((rd a0 x209).N.ID == a1.ID))) (x_eq_of (eg25 _ _ _ _) rfl (eq25 _ ((rd a0 x209).N.Kind) ((rd a0 x209).N.ID) a1.Kind a1.ID)) rfl ?_
                refine W_yes (congrArg some hb333) ?_
                refine W_v (.bool (((rd a0 x209).N.Kind == a1.Kind) && ((rd a0 x209).N.ID == a1.ID))) (x_move rfl) rfl ?_
                refine Wl_cutN 2 (fun ρ w' => Agree ρ [(0, .slice A0 a0.length c0), (3, .pointer (some ⟨b1, 0, none⟩)), (5, .pointer (some ⟨b23, 0, none⟩)), (6, .int .i64 x207), (8, .int .i64 x209), (57, .bool x208), (58, .pointer (some ⟨b313, 1, none⟩)), (59, .agg #[.int .u8 ((rd a0 x209).N.Kind), .int .u64 ((rd a0 x209).N.ID)]), (60, .agg #[.int .u8 a1.Kind, .int .u64 a1.ID]), (61, .bool (((rd a0 x209).N.Kind == a1.Kind) && ((rd a0 x209).N.ID == a1.ID))), (62, .bool (((rd a0 x209).N.Kind == a1.Kind) && ((rd a0 x209).N.ID == a1.ID))), (64, .bool ((((rd a0 x209).N.Kind == a1.Kind) && ((rd a0 x209).N.ID == a1.ID)) && t318.1))] ∧ w323 = w') ?_ ?_
                · rcases boolCases (((rd a0 x209).N.Kind == a1.Kind) && ((rd a0 x209).N.ID == a1.ID)) with hb334 | hb334
                  · skip
                    refine W_no (skT hb334) rfl ?_
                    refine W_yes (congrArg some hb333) ?_
                    refine W_v (.bool false) (x_pick (k := false) (congrArg Value.bool hb334) rfl) rfl ?_
                    refine Wl_nil ?_
                    exact ⟨⟨rfl, rfl, rfl, rfl, rfl, rfl, rfl, rfl, rfl, rfl, rfl, (by first | rfl | (rw [hb334]; rfl) | (simp only [hb334]; rfl)), trivial⟩, rfl⟩
                  · skip
                    refine W_yes (congrArg some hb334) ?_
                    refine W_v (.bool t318.1) (x_move rfl) rfl ?_
                    refine W_yes (congrArg some hb333) ?_
                    refine W_v (.bool t318.1) (x_pick (k := true) (congrArg Value.bool hb334) rfl) rfl ?_
                    refine Wl_nil ?_
                    exact ⟨⟨rfl, rfl, rfl, rfl, rfl, rfl, rfl, rfl, rfl, rfl, rfl, (by first | rfl | (rw [hb334]; rfl) | (simp only [hb334]; rfl)), trivial⟩, rfl⟩
                rintro ρ _ ⟨hρ, rfl⟩
                rw [agree_eta hρ]
                clear hρ
                refine W_yes (congrArg some hb333) ?_
                refine W_v (.bool (!((((rd a0 x209).N.Kind == a1.Kind) && ((rd a0 x209).N.ID == a1.ID)) && t318.1))) (x_not rfl) rfl ?_
                refine W_v (.bool (!((((rd a0 x209).N.Kind == a1.Kind) && ((rd a0 x209).N.ID == a1.ID)) && t318.1))) (x_pick (k := true) (congrArg Value.bool hb333) rfl) rfl ?_
                refine Wl_nil ?_
                exact ⟨⟨rfl, rfl, rfl, rfl, rfl, (by first | rfl | (rw [hb333]; rfl) | (simp only [hb333]; rfl)), trivial⟩, rfl⟩
            rintro ρ _ ⟨hρ, rfl⟩
            rw [agree_eta hρ]
            clear hρ
            refine W_v (.bool (x208 && (!((((rd a0 x209).N.Kind == a1.Kind) && ((rd a0 x209).N.ID == a1.ID)) && t318.1)))) (x_assign rfl) rfl ?_
            refine Wl_nil ?_
            refine tn ?_
            refine Wp_seq ?_
            refine Wp_region_lit ?_
            refine W_v (.pointer (some ⟨b23, 0, none⟩)) (x_move rfl) rfl ?_
            refine W_v (.agg #[.int .u8 a1.Kind, .int .u64 a1.ID]) (x_loadA (S.blk 3 rfl) ty25 rfl (sub_of_extract rfl) rfl rfl) rfl ?_
            obtain ⟨t335, ht336, H⟩ := bindS H
            refine W_callF2 fn13 (latch_Latches_Owner_PO.con k M A320 c321 t318.2 a1 b23 t335  ht336) (Γ1 := [Blk b23 (.cells #[.map (mb A320)] 56 (0, 0)), MapC enc_latch_Name (Value.int .i64) A320 t318.2.by_]) (Γ2 := [Blk b313 (.cells #[.bool ((rd a0 x209).Drop), .int .u8 ((rd a0 x209).N.Kind), .int .u64 ((rd a0 x209).N.ID), .int .i64 ((rd a0 x209).Task)] 30 (0, 0)), Blk b1 (.cells #[.int .u8 a1.Kind, .int .u64 a1.ID] 25 (0, 0))]) S rfl rfl (by rintro _ _ _ ⟨rfl, rfl⟩; exact (flat_cons flat_blk (flat_cons flat_map flat_nil))) ?_
            rintro _ w337 _ Γ' E' S ⟨rfl, rfl⟩
            replace E := E.trans E'
            clear E'
            replace S : St w337 M F [Blk b23 (.cells #[.map (mb A320)] 56 (0, 0)), MapC enc_latch_Name (Value.int .i64) A320 t318.2.by_, Blk b313 (.cells #[.bool ((rd a0 x209).Drop), .int .u8 ((rd a0 x209).N.Kind), .int .u64 ((rd a0 x209).N.ID), .int .i64 ((rd a0 x209).Task)] 30 (0, 0)), Blk b1 (.cells #[.int .u8 a1.Kind, .int .u64 a1.ID] 25 (0, 0))] := S
            refine W_v (.tuple #[.int .i64 t335.1, .bool t335.2]) (x_move rfl) rfl ?_
            refine W_v (.int .i64 t335.1) (x_extract rfl rfl) rfl ?_
            refine W_v (.bool t335.2) (x_extract rfl rfl) rfl ?_
            refine W_v (.int .i64 t335.1) (x_assign rfl) rfl ?_
            refine W_v (.bool t335.2) (x_assign rfl) rfl ?_
            refine Wl_nil ?_
            refine tn ?_
            refine Wp_seq ?_
            refine Wp_region_lit ?_
            refine W_v (.bool t335.2) (x_move rfl) rfl ?_
            refine W_v (.bool (x208 && (!((((rd a0 x209).N.Kind == a1.Kind) && ((rd a0 x209).N.ID == a1.ID)) && t318.1)))) (x_move rfl) rfl ?_
            refine W_v (.bool (!(t335.2 == (x208 && (!((((rd a0 x209).N.Kind == a1.Kind) && ((rd a0 x209).N.ID == a1.ID)) && t318.1)))))) (x_bne Try.underlying4 rfl rfl) rfl ?_
            refine W_v (.bool (!(t335.2 == (x208 && (!((((rd a0 x209).N.Kind == a1.Kind) && ((rd a0 x209).N.ID == a1.ID)) && t318.1)))))) (x_move rfl) rfl ?_
            refine Wl_cutN 7 (fun ρ w' => Agree ρ [(0, .slice A0 a0.length c0), (3, .pointer (some ⟨b1, 0, none⟩)), (5, .pointer (some ⟨b23, 0, none⟩)), (6, .int .i64 x207), (7, .bool (x208 && (!((((rd a0 x209).N.Kind == a1.Kind) && ((rd a0 x209).N.ID == a1.ID)) && t318.1)))), (8, .int .i64 x209), (12, .int .i64 t335.1), (13, .bool t335.2), (114, .bool ((!(t335.2 == (x208 && (!((((rd a0 x209).N.Kind == a1.Kind) && ((rd a0 x209).N.ID == a1.ID)) && t318.1))))) || (t335.2 && (t335.1 != x207))))] ∧ w337 = w') ?_ ?_
            · rcases boolCases (!(t335.2 == (x208 && (!((((rd a0 x209).N.Kind == a1.Kind) && ((rd a0 x209).N.ID == a1.ID)) && t318.1))))) with hb342 | hb342
              · skip
                refine W_yes (congrArg some hb342) ?_
                refine W_v (.bool t335.2) (x_move rfl) rfl ?_
                refine W_yes (congrArg some hb342) ?_
                refine W_v (.bool t335.2) (x_move rfl) rfl ?_
                refine Wl_cutN 4 (fun ρ w' => Agree ρ [(0, .slice A0 a0.length c0), (3, .pointer (some ⟨b1, 0, none⟩)), (5, .pointer (some ⟨b23, 0, none⟩)), (6, .int .i64 x207), (7, .bool (x208 && (!((((rd a0 x209).N.Kind == a1.Kind) && ((rd a0 x209).N.ID == a1.ID)) && t318.1)))), (8, .int .i64 x209), (12, .int .i64 t335.1), (13, .bool t335.2), (107, .bool (!(t335.2 == (x208 && (!((((rd a0 x209).N.Kind == a1.Kind) && ((rd a0 x209).N.ID == a1.ID)) && t318.1)))))), (108, .bool t335.2), (109, .bool t335.2), (113, .bool (t335.2 && (t335.1 != x207)))] ∧ w337 = w') ?_ ?_
                · rcases boolCases t335.2 with hb343 | hb343
                  · skip
                    refine W_no (skT hb343) rfl ?_
                    refine W_no (skT hb343) rfl ?_
                    refine W_no (skT hb343) rfl ?_
                    refine W_yes (congrArg some hb342) ?_
                    refine W_v (.bool false) (x_pick (k := false) (congrArg Value.bool hb343) rfl) rfl ?_
                    refine Wl_nil ?_
                    exact ⟨⟨rfl, rfl, rfl, rfl, rfl, rfl, rfl, rfl, rfl, rfl, rfl, (by first | rfl | (rw [hb343]; rfl) | (simp only [hb343]; rfl)), trivial⟩, rfl⟩
                  · skip
                    refine W_yes (congrArg some hb343) ?_
                    refine W_v (.int .i64 t335.1) (x_move rfl) rfl ?_
                    refine W_yes (congrArg some hb343) ?_
                    refine W_v (.int .i64 x207) (x_move rfl) rfl ?_
                    refine W_yes (congrArg some hb343) ?_
                    refine W_v (.bool (t335.1 != x207)) (x_ibin rfl rfl rfl rfl) rfl ?_
                    refine W_yes (congrArg some hb342) ?_
                    refine W_v (.bool (t335.1 != x207)) (x_pick (k := true) (congrArg Value.bool hb343) rfl) rfl ?_
                    refine Wl_nil ?_
                    exact ⟨⟨rfl, rfl, rfl, rfl, rfl, rfl, rfl, rfl, rfl, rfl, rfl, (by first | rfl | (rw [hb343]; rfl) | (simp only [hb343]; rfl)), trivial⟩, rfl⟩
                rintro ρ _ ⟨hρ, rfl⟩
                rw [agree_eta hρ]
                clear hρ
                refine W_v (.bool (t335.2 && (t335.1 != x207))) (x_pick (k := false) (congrArg Value.bool hb342) rfl) rfl ?_
                refine Wl_nil ?_
                exact ⟨⟨rfl, rfl, rfl, rfl, rfl, rfl, rfl, rfl, (by first | rfl | (rw [hb342]; rfl) | (simp only [hb342]; rfl)), trivial⟩, rfl⟩
              · skip
                refine W_no (skF hb342) rfl ?_
                refine W_no (skF hb342) rfl ?_
                refine W_no (rfl) rfl ?_
                refine W_no (rfl) rfl ?_
                refine W_no (rfl) rfl ?_
                refine W_no (skF hb342) rfl ?_
                refine W_v (.bool true) (x_pick (k := true) (congrArg Value.bool hb342) rfl) rfl ?_
                refine Wl_nil ?_
                exact ⟨⟨rfl, rfl, rfl, rfl, rfl, rfl, rfl, rfl, (by first | rfl | (rw [hb342]; rfl) | (simp only [hb342]; rfl)), trivial⟩, rfl⟩
            rintro ρ _ ⟨hρ, rfl⟩
            rw [agree_eta hρ]
            clear hρ
            refine W_v (.bool ((!(t335.2 == (x208 && (!((((rd a0 x209).N.Kind == a1.Kind) && ((rd a0 x209).N.ID == a1.ID)) && t318.1))))) || (t335.2 && (t335.1 != x207)))) (x_move rfl) rfl ?_
            refine Wl_cutN 7 (fun ρ w' => Agree ρ [(0, .slice A0 a0.length c0), (3, .pointer (some ⟨b1, 0, none⟩)), (5, .pointer (some ⟨b23, 0, none⟩)), (6, .int .i64 x207), (7, .bool (x208 && (!((((rd a0 x209).N.Kind == a1.Kind) && ((rd a0 x209).N.ID == a1.ID)) && t318.1)))), (8, .int .i64 x209), (122, .bool (((!(t335.2 == (x208 && (!((((rd a0 x209).N.Kind == a1.Kind) && ((rd a0 x209).N.ID == a1.ID)) && t318.1))))) || (t335.2 && (t335.1 != x207))) || ((!t335.2) && (t335.1 != (0 : Int)))))] ∧ w337 = w') ?_ ?_
            · rcases boolCases ((!(t335.2 == (x208 && (!((((rd a0 x209).N.Kind == a1.Kind) && ((rd a0 x209).N.ID == a1.ID)) && t318.1))))) || (t335.2 && (t335.1 != x207))) with hb346 | hb346
              · skip
                refine W_yes (congrArg some hb346) ?_
                refine W_v (.bool t335.2) (x_move rfl) rfl ?_
                refine W_yes (congrArg some hb346) ?_
                refine W_v (.bool (!t335.2)) (x_not rfl) rfl ?_
                refine W_yes (congrArg some hb346) ?_
                refine W_v (.bool (!t335.2)) (x_move rfl) rfl ?_
                refine Wl_cutN 3 (fun ρ w' => Agree ρ [(0, .slice A0 a0.length c0), (3, .pointer (some ⟨b1, 0, none⟩)), (5, .pointer (some ⟨b23, 0, none⟩)), (6, .int .i64 x207), (7, .bool (x208 && (!((((rd a0 x209).N.Kind == a1.Kind) && ((rd a0 x209).N.ID == a1.ID)) && t318.1)))), (8, .int .i64 x209), (115, .bool ((!(t335.2 == (x208 && (!((((rd a0 x209).N.Kind == a1.Kind) && ((rd a0 x209).N.ID == a1.ID)) && t318.1))))) || (t335.2 && (t335.1 != x207)))), (116, .bool t335.2), (117, .bool (!t335.2)), (118, .bool (!t335.2)), (121, .bool ((!t335.2) && (t335.1 != (0 : Int))))] ∧ w337 = w') ?_ ?_
                · rcases boolCases (!t335.2) with hb347 | hb347
                  · skip
                    refine W_no (skT hb347) rfl ?_
                    refine W_no (skT hb347) rfl ?_
                    refine W_yes (congrArg some hb346) ?_
                    refine W_v (.bool false) (x_pick (k := false) (congrArg Value.bool hb347) rfl) rfl ?_
                    refine Wl_nil ?_
                    exact ⟨⟨rfl, rfl, rfl, rfl, rfl, rfl, rfl, rfl, rfl, rfl, (by first | rfl | (rw [hb347]; rfl) | (simp only [hb347]; rfl)), trivial⟩, rfl⟩
                  · skip
                    refine W_yes (congrArg some hb347) ?_
                    refine W_v (.int .i64 t335.1) (x_move rfl) rfl ?_
                    refine W_yes (congrArg some hb347) ?_
                    refine W_v (.bool (t335.1 != (0 : Int))) (x_ibin rfl rfl rfl rfl) rfl ?_
                    refine W_yes (congrArg some hb346) ?_
                    refine W_v (.bool (t335.1 != (0 : Int))) (x_pick (k := true) (congrArg Value.bool hb347) rfl) rfl ?_
                    refine Wl_nil ?_
                    exact ⟨⟨rfl, rfl, rfl, rfl, rfl, rfl, rfl, rfl, rfl, rfl, (by first | rfl | (rw [hb347]; rfl) | (simp only [hb347]; rfl)), trivial⟩, rfl⟩
                rintro ρ _ ⟨hρ, rfl⟩
                rw [agree_eta hρ]
                clear hρ
                refine W_v (.bool ((!t335.2) && (t335.1 != (0 : Int)))) (x_pick (k := false) (congrArg Value.bool hb346) rfl) rfl ?_
                refine Wl_nil ?_
                exact ⟨⟨rfl, rfl, rfl, rfl, rfl, rfl, (by first | rfl | (rw [hb346]; rfl) | (simp only [hb346]; rfl)), trivial⟩, rfl⟩
              · skip
                refine W_no (skF hb346) rfl ?_
                refine W_no (skF hb346) rfl ?_
                refine W_no (skF hb346) rfl ?_
                refine W_no (rfl) rfl ?_
                refine W_no (rfl) rfl ?_
                refine W_no (skF hb346) rfl ?_
                refine W_v (.bool true) (x_pick (k := true) (congrArg Value.bool hb346) rfl) rfl ?_
                refine Wl_nil ?_
                exact ⟨⟨rfl, rfl, rfl, rfl, rfl, rfl, (by first | rfl | (rw [hb346]; rfl) | (simp only [hb346]; rfl)), trivial⟩, rfl⟩
            rintro ρ _ ⟨hρ, rfl⟩
            rw [agree_eta hρ]
            clear hρ
            refine Wl_nil ?_
            refine tn ?_
            rcases iteS H with ⟨hb348, H⟩ | ⟨hb348, H⟩
            · refine Wp_cond_true (congrArg Value.bool hb348) ?_
              refine Wp_seq ?_
              refine Wp_region_lit ?_
              refine W_v (.bool false) (x_assign rfl) rfl ?_
              refine Wl_nil ?_
              refine tn ?_
              refine Wp_ret ?_
              refine br (tr (tr (br (tr (tr (?_))))))
              obtain rfl := Option.some.inj H
              have H := o300H
              replace H := elimL H
              obtain rfl := Option.some.inj H
              exact ⟨_, _, _, fun w1 e1 => run_resR (vs := [.bool false]) (FA.cons (rfl) (FA.nil)), HM, E, S.pick [] (by decide), ⟨rfl, rfl⟩⟩
            refine Wp_cond_false (congrArg Value.bool hb348) ?_
            refine Wp_skip ?_
            refine bn ?_
            refine tn ?_
            refine Wp_region_lit ?_
            refine W_v (.int .i64 x209) (x_move rfl) rfl ?_
            refine W_v (.int .i64 (IntKind.i64.wrap (x209 + (1 : Int)))) (x_ibin rfl rfl rfl rfl) rfl ?_
            refine W_v (.int .i64 (IntKind.i64.wrap (x209 + (1 : Int)))) (x_assign rfl) rfl ?_
            refine Wl_nil ?_
            refine tn ?_
            exact ⟨k, Nat.lt_succ_self k, ⟨x207, (x208 && (!((((rd a0 x209).N.Kind == a1.Kind) && ((rd a0 x209).N.ID == a1.ID)) && t318.1))), (IntKind.i64.wrap (x209 + (1 : Int))), t318.2.by_, A320, c321, H, ⟨rfl, rfl, rfl, rfl, rfl, rfl, trivial⟩, E, S.pick [1, 0, 3] (by decide)⟩⟩
          refine Wp_cond_false (congrArg Value.bool hb317) ?_
          refine Wp_seq ?_
          refine Wp_region_lit ?_
          refine W_v (.pointer (some ⟨b23, 0, none⟩)) (x_move rfl) rfl ?_
          refine W_v (.pointer (some ⟨b313, 1, none⟩)) (x_fieldAddr (o := 0) (off := 1) Try.underlying30 rfl ty25 rfl rfl) rfl ?_
          refine W_v (.agg #[.int .u8 ((rd a0 x209).N.Kind), .int .u64 ((rd a0 x209).N.ID)]) (x_loadA (S.blk 0 rfl) ty25 rfl (sub_of_extract rfl) rfl rfl) rfl ?_
          refine W_v (.pointer (some ⟨b313, 3, none⟩)) (x_fieldAddr (o := 0) (off := 3) Try.underlying30 rfl ty3 rfl rfl) rfl ?_
          refine W_v (.int .i64 ((rd a0 x209).Task)) (x_load (S.blk 0 rfl) ty3 rfl rfl) rfl ?_
          obtain ⟨t349, ht350, H⟩ := bindS H
          replace S : St w316 M F [Blk b23 (.cells #[.map (mb A211)] 56 (0, 0)), MapC enc_latch_Name (Value.int .i64) A211 x210, Blk b313 (.cells #[.bool ((rd a0 x209).Drop), .int .u8 ((rd a0 x209).N.Kind), .int .u64 ((rd a0 x209).N.ID), .int .i64 ((rd a0 x209).Task)] 30 (0, 0)), Blk b1 (.cells #[.int .u8 a1.Kind, .int .u64 a1.ID] 25 (0, 0))] := S.pick [2, 1, 0, 3] (by decide)
          refine W_callF2 fn12 (latch_Latches_Try_PO.con k M A211 c212 (⟨x210⟩ : latch_Latches) ((rd a0 x209).N) ((rd a0 x209).Task) b23 t349  ht350) (Γ1 := [Blk b23 (.cells #[.map (mb A211)] 56 (0, 0)), MapC enc_latch_Name (Value.int .i64) A211 x210]) (Γ2 := [Blk b313 (.cells #[.bool ((rd a0 x209).Drop), .int .u8 ((rd a0 x209).N.Kind), .int .u64 ((rd a0 x209).N.ID), .int .i64 ((rd a0 x209).Task)] 30 (0, 0)), Blk b1 (.cells #[.int .u8 a1.Kind, .int .u64 a1.ID] 25 (0, 0))]) S rfl rfl (by rintro _ _ _ ⟨_, _, rfl, rfl⟩; exact (flat_cons flat_blk (flat_cons flat_map flat_nil))) ?_
          rintro _ w354 _ Γ' E' S ⟨A351, c352, rfl, rfl⟩
          replace E := E.trans E'
          clear E'
          replace S : St w354 M F [Blk b23 (.cells #[.map (mb A351)] 56 (0, 0)), MapC enc_latch_Name (Value.int .i64) A351 t349.2.by_, Blk b313 (.cells #[.bool ((rd a0 x209).Drop), .int .u8 ((rd a0 x209).N.Kind), .int .u64 ((rd a0 x209).N.ID), .int .i64 ((rd a0 x209).Task)] 30 (0, 0)), Blk b1 (.cells #[.int .u8 a1.Kind, .int .u64 a1.ID] 25 (0, 0))] := S
          refine W_v (.bool t349.1) (x_assign rfl) rfl ?_
          refine Wl_nil ?_
          refine tn ?_
          refine Wp_seq ?_
          refine Wp_seq ?_
          refine Wp_region_lit ?_
          refine W_v (.pointer (some ⟨b313, 1, none⟩)) (x_fieldAddr (o := 0) (off := 1) Try.underlying30 rfl ty25 rfl rfl) rfl ?_
          refine W_v (.agg #[.int .u8 ((rd a0 x209).N.Kind), .int .u64 ((rd a0 x209).N.ID)]) (x_loadA (S.blk 2 rfl) ty25 rfl (sub_of_extract rfl) rfl rfl) rfl ?_
          refine W_v (.agg #[.int .u8 a1.Kind, .int .u64 a1.ID]) (x_loadA (S.blk 3 rfl) ty25 rfl (sub_of_extract rfl) rfl rfl) rfl ?_
          refine W_v (.bool (((rd a0 x209).N.Kind == a1.Kind) && ((rd a0 x209).N.ID == a1.ID))) (x_eq_of (eg25 _ _ _ _) rfl (eq25 _ ((rd a0 x209).N.Kind) ((rd a0 x209).N.ID) a1.Kind a1.ID)) rfl ?_
          refine W_v (.bool (((rd a0 x209).N.Kind == a1.Kind) && ((rd a0 x209).N.ID == a1.ID))) (x_move rfl) rfl ?_
          refine Wl_cutN 11 (fun ρ w' => Agree ρ [(0, .slice A0 a0.length c0), (3, .pointer (some ⟨b1, 0, none⟩)), (5, .pointer (some ⟨b23, 0, none⟩)), (6, .int .i64 x207), (7, .bool x208), (8, .int .i64 x209), (9, .pointer (some ⟨b313, 0, none⟩)), (11, .bool t349.1), (88, .bool ((((rd a0 x209).N.Kind == a1.Kind) && ((rd a0 x209).N.ID == a1.ID)) && (!(t349.1 == ((!x208) || (x207 == (rd a0 x209).Task))))))] ∧ w354 = w') ?_ ?_
          · rcases boolCases (((rd a0 x209).N.Kind == a1.Kind) && ((rd a0 x209).N.ID == a1.ID)) with hb359 | hb359
            · skip
              refine W_no (skT hb359) rfl ?_
              refine W_no (skT hb359) rfl ?_
              refine W_no (skT hb359) rfl ?_
              refine W_no (skT hb359) rfl ?_
              refine W_no (rfl) rfl ?_
              refine W_no (rfl) rfl ?_
              refine W_no (rfl) rfl ?_
              refine W_no (rfl) rfl ?_
              refine W_no (skT hb359) rfl ?_
              refine W_no (skT hb359) rfl ?_
              refine W_v (.bool false) (x_pick (k := false) (congrArg Value.bool hb359) rfl) rfl ?_
              refine Wl_nil ?_
              exact ⟨⟨rfl, rfl, rfl, rfl, rfl, rfl, rfl, rfl, (by first | rfl | (rw [hb359]; rfl) | (simp only [hb359]; rfl)), trivial⟩, rfl⟩
            · skip
              refine W_yes (congrArg some hb359) ?_
              refine W_v (.bool t349.1) (x_move rfl) rfl ?_
              refine W_yes (congrArg some hb359) ?_
              refine W_v (.bool x208) (x_move rfl) rfl ?_
              refine W_yes (congrArg some hb359) ?_
              refine W_v (.bool (!x208)) (x_not rfl) rfl ?_
              refine W_yes (congrArg some hb359) ?_
              refine W_v (.bool (!x208)) (x_move rfl) rfl ?_
              refine Wl_cutN 5 (fun ρ w' => Agree ρ [(0, .slice A0 a0.length c0), (3, .pointer (some ⟨b1, 0, none⟩)), (5, .pointer (some ⟨b23, 0, none⟩)), (6, .int .i64 x207), (7, .bool x208), (8, .int .i64 x209), (9, .pointer (some ⟨b313, 0, none⟩)), (11, .bool t349.1), (77, .bool (((rd a0 x209).N.Kind == a1.Kind) && ((rd a0 x209).N.ID == a1.ID))), (78, .bool t349.1), (79, .bool x208), (80, .bool (!x208)), (81, .bool (!x208)), (86, .bool ((!x208) || (x207 == (rd a0 x209).Task)))] ∧ w354 = w') ?_ ?_
              · rcases boolCases (!x208) with hb360 | hb360
                · skip
                  refine W_yes (congrArg some hb360) ?_
                  refine W_v (.int .i64 x207) (x_move rfl) rfl ?_
                  refine W_yes (congrArg some hb360) ?_
                  refine W_v (.pointer (some ⟨b313, 3, none⟩)) (x_fieldAddr (o := 0) (off := 3) Try.underlying30 rfl ty3 rfl rfl) rfl ?_
                  refine W_yes (congrArg some hb360) ?_
                  refine W_v (.int .i64 ((rd a0 x209).Task)) (x_load (S.blk 2 rfl) ty3 rfl rfl) rfl ?_
                  refine W_yes (congrArg some hb360) ?_
                  refine W_v (.bool (x207 == (rd a0 x209).Task)) (x_ibin rfl rfl rfl rfl) rfl ?_
                  refine W_yes (congrArg some hb359) ?_
                  refine W_v (.bool (x207 == (rd a0 x209).Task)) (x_pick (k := false) (congrArg Value.bool hb360) rfl) rfl ?_
                  refine Wl_nil ?_
                  exact ⟨⟨rfl, rfl, rfl, rfl, rfl, rfl, rfl, rfl, rfl, rfl, rfl, rfl, rfl, (by first | rfl | (rw [hb360]; rfl) | (simp only [hb360]; rfl)), trivial⟩, rfl⟩
                · skip
                  refine W_no (skF hb360) rfl ?_
                  refine W_no (skF hb360) rfl ?_
                  refine W_no (skF hb360) rfl ?_
                  refine W_no (skF hb360) rfl ?_
                  refine W_yes (congrArg some hb359) ?_
                  refine W_v (.bool true) (x_pick (k := true) (congrArg Value.bool hb360) rfl) rfl ?_
                  refine Wl_nil ?_
                  exact ⟨⟨rfl, rfl, rfl, rfl, rfl, rfl, rfl, rfl, rfl, rfl, rfl, rfl, rfl, (by first | rfl | (rw [hb360]; rfl) | (simp only [hb360]; rfl)), trivial⟩, rfl⟩
              rintro ρ _ ⟨hρ, rfl⟩
              rw [agree_eta hρ]
              clear hρ
              refine W_yes (congrArg some hb359) ?_
              refine W_v (.bool (!(t349.1 == ((!x208) || (x207 == (rd a0 x209).Task))))) (x_bne Try.underlying4 rfl rfl) rfl ?_
              refine W_v (.bool (!(t349.1 == ((!x208) || (x207 == (rd a0 x209).Task))))) (x_pick (k := true) (congrArg Value.bool hb359) rfl) rfl ?_
              refine Wl_nil ?_
              exact ⟨⟨rfl, rfl, rfl, rfl, rfl, rfl, rfl, rfl, (by first | rfl | (rw [hb359]; rfl) | (simp only [hb359]; rfl)), trivial⟩, rfl⟩
          rintro ρ _ ⟨hρ, rfl⟩
          rw [agree_eta hρ]
          clear hρ
          refine Wl_nil ?_
          refine tn ?_
          rcases iteS H with ⟨hb361, H⟩ | ⟨hb361, H⟩
          · refine Wp_cond_true (congrArg Value.bool hb361) ?_
            refine Wp_seq ?_
            refine Wp_region_lit ?_
            refine W_v (.bool false) (x_assign rfl) rfl ?_
            refine Wl_nil ?_
            refine tn ?_
            refine Wp_ret ?_
            refine tr (tr (br (tr (tr (br (tr (tr (?_))))))))
            obtain rfl := Option.some.inj H
            have H := o300H
            replace H := elimL H
            obtain rfl := Option.some.inj H
            exact ⟨_, _, _, fun w1 e1 => run_resR (vs := [.bool false]) (FA.cons (rfl) (FA.nil)), HM, E, S.pick [] (by decide), ⟨rfl, rfl⟩⟩
          refine Wp_cond_false (congrArg Value.bool hb361) ?_
          refine Wp_skip ?_
          refine tn ?_
          refine Wp_seq ?_
          refine Wp_region_lit ?_
          refine W_v (.pointer (some ⟨b313, 1, none⟩)) (x_fieldAddr (o := 0) (off := 1) Try.underlying30 rfl ty25 rfl rfl) rfl ?_
          refine W_v (.agg #[.int .u8 ((rd a0 x209).N.Kind), .int .u64 ((rd a0 x209).N.ID)]) (x_loadA (S.blk 2 rfl) ty25 rfl (sub_of_extract rfl) rfl rfl) rfl ?_
          refine W_v (.agg #[.int .u8 a1.Kind, .int .u64 a1.ID]) (x_loadA (S.blk 3 rfl) ty25 rfl (sub_of_extract rfl) rfl rfl) rfl ?_
          refine W_v (.bool (((rd a0 x209).N.Kind == a1.Kind) && ((rd a0 x209).N.ID == a1.ID))) (x_eq_of (eg25 _ _ _ _) rfl (eq25 _ ((rd a0 x209).N.Kind) ((rd a0 x209).N.ID) a1.Kind a1.ID)) rfl ?_
          refine W_v (.bool (((rd a0 x209).N.Kind == a1.Kind) && ((rd a0 x209).N.ID == a1.ID))) (x_move rfl) rfl ?_
          refine Wl_cutN 2 (fun ρ w' => Agree ρ [(0, .slice A0 a0.length c0), (3, .pointer (some ⟨b1, 0, none⟩)), (5, .pointer (some ⟨b23, 0, none⟩)), (6, .int .i64 x207), (7, .bool x208), (8, .int .i64 x209), (9, .pointer (some ⟨b313, 0, none⟩)), (95, .bool ((((rd a0 x209).N.Kind == a1.Kind) && ((rd a0 x209).N.ID == a1.ID)) && t349.1))] ∧ w354 = w') ?_ ?_
          · rcases boolCases (((rd a0 x209).N.Kind == a1.Kind) && ((rd a0 x209).N.ID == a1.ID)) with hb362 | hb362
            · skip
              refine W_no (skT hb362) rfl ?_
              refine W_v (.bool false) (x_pick (k := false) (congrArg Value.bool hb362) rfl) rfl ?_
              refine Wl_nil ?_
              exact ⟨⟨rfl, rfl, rfl, rfl, rfl, rfl, rfl, (by first | rfl | (rw [hb362]; rfl) | (simp only [hb362]; rfl)), trivial⟩, rfl⟩
            · skip
              refine W_yes (congrArg some hb362) ?_
              refine W_v (.bool t349.1) (x_move rfl) rfl ?_
              refine W_v (.bool t349.1) (x_pick (k := true) (congrArg Value.bool hb362) rfl) rfl ?_
              refine Wl_nil ?_
              exact ⟨⟨rfl, rfl, rfl, rfl, rfl, rfl, rfl, (by first | rfl | (rw [hb362]; rfl) | (simp only [hb362]; rfl)), trivial⟩, rfl⟩
          rintro ρ _ ⟨hρ, rfl⟩
          rw [agree_eta hρ]
          clear hρ
          refine Wl_nil ?_
          refine tn ?_
          obtain ⟨o371, o371h, o371H⟩ := bindS H
          refine Wp_cut (fun ρ w' => ∃ (x365 : Int) (x366 : Bool) (x367 : List (latch_Name × Int)) (A368 : Option Addr) (c369 : Nat), (x365, x366, x367) = o371 ∧ Agree ρ [(0, .slice A0 a0.length c0), (3, .pointer (some ⟨b1, 0, none⟩)), (5, .pointer (some ⟨b23, 0, none⟩)), (6, .int .i64 x365), (7, .bool x366), (8, .int .i64 x209)] ∧ Ext w w' ∧ St w' M F [MapC enc_latch_Name (Value.int .i64) A368 x367, Blk b23 (.cells #[.map (mb A368)] 56 (0, 0)), Blk b1 (.cells #[.int .u8 a1.Kind, .int .u64 a1.ID] 25 (0, 0))]) ?_ ?_
          · clear o371H
            have H := o371h
            clear o371h
            rcases iteS H with ⟨hb372, H⟩ | ⟨hb372, H⟩
            · refine Wp_cond_true (congrArg Value.bool hb372) ?_
              refine Wp_region_lit ?_
              refine W_v (.pointer (some ⟨b313, 3, none⟩)) (x_fieldAddr (o := 0) (off := 3) Try.underlying30 rfl ty3 rfl rfl) rfl ?_
              refine W_v (.int .i64 ((rd a0 x209).Task)) (x_load (S.blk 2 rfl) ty3 rfl rfl) rfl ?_
              refine W_v (.int .i64 ((rd a0 x209).Task)) (x_assign rfl) rfl ?_
              refine W_v (.bool true) (x_assign rfl) rfl ?_
              refine Wl_nil ?_
              refine tn ?_
              exact ⟨((rd a0 x209).Task), true, t349.2.by_, A351, c352, Option.some.inj H, ⟨rfl, rfl, rfl, rfl, rfl, rfl, trivial⟩, E, S.pick [1, 0, 3] (by decide)⟩
            refine Wp_cond_false (congrArg Value.bool hb372) ?_
            refine Wp_skip ?_
            refine tn ?_
            exact ⟨x207, x208, t349.2.by_, A351, c352, Option.some.inj H, ⟨rfl, rfl, rfl, rfl, rfl, rfl, trivial⟩, E, S.pick [1, 0, 3] (by decide)⟩
          clear o371h
          rintro ρ w373 ⟨x365, x366, x367, A368, c369, rfl, hρ, E, S⟩
          rw [agree_eta hρ]
          clear hρ
          have H := o371H
          clear o371H
          refine tn ?_
          refine Wp_seq ?_
          refine Wp_region_lit ?_
          refine W_v (.pointer (some ⟨b23, 0, none⟩)) (x_move rfl) rfl ?_
          refine W_v (.agg #[.int .u8 a1.Kind, .int .u64 a1.ID]) (x_loadA (S.blk 2 rfl) ty25 rfl (sub_of_extract rfl) rfl rfl) rfl ?_
          obtain ⟨t374, ht375, H⟩ := bindS H
          replace S : St w373 M F [Blk b23 (.cells #[.map (mb A368)] 56 (0, 0)), MapC enc_latch_Name (Value.int .i64) A368 x367, Blk b1 (.cells #[.int .u8 a1.Kind, .int .u64 a1.ID] 25 (0, 0))] := S.pick [1, 0, 2] (by decide)
          refine W_callF2 fn13 (latch_Latches_Owner_PO.con k M A368 c369 (⟨x367⟩ : latch_Latches) a1 b23 t374  ht375) (Γ1 := [Blk b23 (.cells #[.map (mb A368)] 56 (0, 0)), MapC enc_latch_Name (Value.int .i64) A368 x367]) (Γ2 := [Blk b1 (.cells #[.int .u8 a1.Kind, .int .u64 a1.ID] 25 (0, 0))]) S rfl rfl (by rintro _ _ _ ⟨rfl, rfl⟩; exact (flat_cons flat_blk (flat_cons flat_map flat_nil))) ?_
          rintro _ w376 _ Γ' E' S ⟨rfl, rfl⟩
          replace E := E.trans E'
          clear E'
          replace S : St w376 M F [Blk b23 (.cells #[.map (mb A368)] 56 (0, 0)), MapC enc_latch_Name (Value.int .i64) A368 x367, Blk b1 (.cells #[.int .u8 a1.Kind, .int .u64 a1.ID] 25 (0, 0))] := S
          refine W_v (.tuple #[.int .i64 t374.1, .bool t374.2]) (x_move rfl) rfl ?_
          refine W_v (.int .i64 t374.1) (x_extract rfl rfl) rfl ?_
          refine W_v (.bool t374.2) (x_extract rfl rfl) rfl ?_
          refine W_v (.int .i64 t374.1) (x_assign rfl) rfl ?_
          refine W_v (.bool t374.2) (x_assign rfl) rfl ?_
          refine Wl_nil ?_
          refine tn ?_
          refine Wp_seq ?_
          refine Wp_region_lit ?_
          refine W_v (.bool t374.2) (x_move rfl) rfl ?_
          refine W_v (.bool x366) (x_move rfl) rfl ?_
          refine W_v (.bool (!(t374.2 == x366))) (x_bne Try.underlying4 rfl rfl) rfl ?_
          refine W_v (.bool (!(t374.2 == x366))) (x_move rfl) rfl ?_
          refine Wl_cutN 7 (fun ρ w' => Agree ρ [(0, .slice A0 a0.length c0), (3, .pointer (some ⟨b1, 0, none⟩)), (5, .pointer (some ⟨b23, 0, none⟩)), (6, .int .i64 x365), (7, .bool x366), (8, .int .i64 x209), (12, .int .i64 t374.1), (13, .bool t374.2), (114, .bool ((!(t374.2 == x366)) || (t374.2 && (t374.1 != x365))))] ∧ w376 = w') ?_ ?_
          · rcases boolCases (!(t374.2 == x366)) with hb381 | hb381
            · skip
              refine W_yes (congrArg some hb381) ?_
              refine W_v (.bool t374.2) (x_move rfl) rfl ?_
              refine W_yes (congrArg some hb381) ?_
              refine W_v (.bool t374.2) (x_move rfl) rfl ?_
              refine Wl_cutN 4 (fun ρ w' => Agree ρ [(0, .slice A0 a0.length c0), (3, .pointer (some ⟨b1, 0, none⟩)), (5, .pointer (some ⟨b23, 0, none⟩)), (6, .int .i64 x365), (7, .bool x366), (8, .int .i64 x209), (12, .int .i64 t374.1), (13, .bool t374.2), (107, .bool (!(t374.2 == x366))), (108, .bool t374.2), (109, .bool t374.2), (113, .bool (t374.2 && (t374.1 != x365)))] ∧ w376 = w') ?_ ?_
              · rcases boolCases t374.2 with hb382 | hb382
                · skip
                  refine W_no (skT hb382) rfl ?_
                  refine W_no (skT hb382) rfl ?_
                  refine W_no (skT hb382) rfl ?_
                  refine W_yes (congrArg some hb381) ?_
                  refine W_v (.bool false) (x_pick (k := false) (congrArg Value.bool hb382) rfl) rfl ?_
                  refine Wl_nil ?_
                  exact ⟨⟨rfl, rfl, rfl, rfl, rfl, rfl, rfl, rfl, rfl, rfl, rfl, (by first | rfl | (rw [hb382]; rfl) | (simp only [hb382]; rfl)), trivial⟩, rfl⟩
                · skip
                  refine W_yes (congrArg some hb382) ?_
                  refine W_v (.int .i64 t374.1) (x_move rfl) rfl ?_
                  refine W_yes (congrArg some hb382) ?_
                  refine W_v (.int .i64 x365) (x_move rfl) rfl ?_
                  refine W_yes (congrArg some hb382) ?_
                  refine W_v (.bool (t374.1 != x365)) (x_ibin rfl rfl rfl rfl) rfl ?_
                  refine W_yes (congrArg some hb381) ?_
                  refine W_v (.bool (t374.1 != x365)) (x_pick (k := true) (congrArg Value.bool hb382) rfl) rfl ?_
                  refine Wl_nil ?_
                  exact ⟨⟨rfl, rfl, rfl, rfl, rfl, rfl, rfl, rfl, rfl, rfl, rfl, (by first | rfl | (rw [hb382]; rfl) | (simp only [hb382]; rfl)), trivial⟩, rfl⟩
              rintro ρ _ ⟨hρ, rfl⟩
              rw [agree_eta hρ]
              clear hρ
              refine W_v (.bool (t374.2 && (t374.1 != x365))) (x_pick (k := false) (congrArg Value.bool hb381) rfl) rfl ?_
              refine Wl_nil ?_
              exact ⟨⟨rfl, rfl, rfl, rfl, rfl, rfl, rfl, rfl, (by first | rfl | (rw [hb381]; rfl) | (simp only [hb381]; rfl)), trivial⟩, rfl⟩
            · skip
              refine W_no (skF hb381) rfl ?_
              refine W_no (skF hb381) rfl ?_
              refine W_no (rfl) rfl ?_
              refine W_no (rfl) rfl ?_
              refine W_no (rfl) rfl ?_
              refine W_no (skF hb381) rfl ?_
              refine W_v (.bool true) (x_pick (k := true) (congrArg Value.bool hb381) rfl) rfl ?_
              refine Wl_nil ?_
              exact ⟨⟨rfl, rfl, rfl, rfl, rfl, rfl, rfl, rfl, (by first | rfl | (rw [hb381]; rfl) | (simp only [hb381]; rfl)), trivial⟩, rfl⟩
          rintro ρ _ ⟨hρ, rfl⟩
          rw [agree_eta hρ]
          clear hρ
          refine W_v (.bool ((!(t374.2 == x366)) || (t374.2 && (t374.1 != x365)))) (x_move rfl) rfl ?_
          refine Wl_cutN 7 (fun ρ w' => Agree ρ [(0, .slice A0 a0.length c0), (3, .pointer (some ⟨b1, 0, none⟩)), (5, .pointer (some ⟨b23, 0, none⟩)), (6, .int .i64 x365), (7, .bool x366), (8, .int .i64 x209), (122, .bool (((!(t374.2 == x366)) || (t374.2 && (t374.1 != x365))) || ((!t374.2) && (t374.1 != (0 : Int)))))] ∧ w376 = w') ?_ ?_
          · rcases boolCases ((!(t374.2 == x366)) || (t374.2 && (t374.1 != x365))) with hb385 | hb385
            · skip
              refine W_yes (congrArg some hb385) ?_
              refine W_v (.bool t374.2) (x_move rfl) rfl ?_
              refine W_yes (congrArg some hb385) ?_
              refine W_v (.bool (!t374.2)) (x_not rfl) rfl ?_
              refine W_yes (congrArg some hb385) ?_
              refine W_v (.bool (!t374.2)) (x_move rfl) rfl ?_
              refine Wl_cutN 3 (fun ρ w' => Agree ρ [(0, .slice A0 a0.length c0), (3, .pointer (some ⟨b1, 0, none⟩)), (5, .pointer (some ⟨b23, 0, none⟩)), (6, .int .i64 x365), (7, .bool x366), (8, .int .i64 x209), (115, .bool ((!(t374.2 == x366)) || (t374.2 && (t374.1 != x365)))), (116, .bool t374.2), (117, .bool (!t374.2)), (118, .bool (!t374.2)), (121, .bool ((!t374.2) && (t374.1 != (0 : Int))))] ∧ w376 = w') ?_ ?_
              · rcases boolCases (!t374.2) with hb386 | hb386
                · skip
                  refine W_no (skT hb386) rfl ?_
                  refine W_no (skT hb386) rfl ?_
                  refine W_yes (congrArg some hb385) ?_
                  refine W_v (.bool false) (x_pick (k := false) (congrArg Value.bool hb386) rfl) rfl ?_
                  refine Wl_nil ?_
                  exact ⟨⟨rfl, rfl, rfl, rfl, rfl, rfl, rfl, rfl, rfl, rfl, (by first | rfl | (rw [hb386]; rfl) | (simp only [hb386]; rfl)), trivial⟩, rfl⟩
                · skip
                  refine W_yes (congrArg some hb386) ?_
                  refine W_v (.int .i64 t374.1) (x_move rfl) rfl ?_
                  refine W_yes (congrArg some hb386) ?_
                  refine W_v (.bool (t374.1 != (0 : Int))) (x_ibin rfl rfl rfl rfl) rfl ?_
                  refine W_yes (congrArg some hb385) ?_
                  refine W_v (.bool (t374.1 != (0 : Int))) (x_pick (k := true) (congrArg Value.bool hb386) rfl) rfl ?_
                  refine Wl_nil ?_
                  exact ⟨⟨rfl, rfl, rfl, rfl, rfl, rfl, rfl, rfl, rfl, rfl, (by first | rfl | (rw [hb386]; rfl) | (simp only [hb386]; rfl)), trivial⟩, rfl⟩
              rintro ρ _ ⟨hρ, rfl⟩
              rw [agree_eta hρ]
              clear hρ
              refine W_v (.bool ((!t374.2) && (t374.1 != (0 : Int)))) (x_pick (k := false) (congrArg Value.bool hb385) rfl) rfl ?_
              refine Wl_nil ?_
              exact ⟨⟨rfl, rfl, rfl, rfl, rfl, rfl, (by first | rfl | (rw [hb385]; rfl) | (simp only [hb385]; rfl)), trivial⟩, rfl⟩
            · skip
              refine W_no (skF hb385) rfl ?_
              refine W_no (skF hb385) rfl ?_
              refine W_no (skF hb385) rfl ?_
              refine W_no (rfl) rfl ?_
              refine W_no (rfl) rfl ?_
              refine W_no (skF hb385) rfl ?_
              refine W_v (.bool true) (x_pick (k := true) (congrArg Value.bool hb385) rfl) rfl ?_
              refine Wl_nil ?_
              exact ⟨⟨rfl, rfl, rfl, rfl, rfl, rfl, (by first | rfl | (rw [hb385]; rfl) | (simp only [hb385]; rfl)), trivial⟩, rfl⟩
          rintro ρ _ ⟨hρ, rfl⟩
          rw [agree_eta hρ]
          clear hρ
          refine Wl_nil ?_
          refine tn ?_
          rcases iteS H with ⟨hb387, H⟩ | ⟨hb387, H⟩
          · refine Wp_cond_true (congrArg Value.bool hb387) ?_
            refine Wp_seq ?_
            refine Wp_region_lit ?_
            refine W_v (.bool false) (x_assign rfl) rfl ?_
            refine Wl_nil ?_
            refine tn ?_
            refine Wp_ret ?_
            refine br (tr (tr (br (tr (tr (?_))))))
            obtain rfl := Option.some.inj H
            have H := o300H
            replace H := elimL H
            obtain rfl := Option.some.inj H
            exact ⟨_, _, _, fun w1 e1 => run_resR (vs := [.bool false]) (FA.cons (rfl) (FA.nil)), HM, E, S.pick [] (by decide), ⟨rfl, rfl⟩⟩
          refine Wp_cond_false (congrArg Value.bool hb387) ?_
          refine Wp_skip ?_
          refine bn ?_
          refine tn ?_
          refine Wp_region_lit ?_
          refine W_v (.int .i64 x209) (x_move rfl) rfl ?_
          refine W_v (.int .i64 (IntKind.i64.wrap (x209 + (1 : Int)))) (x_ibin rfl rfl rfl rfl) rfl ?_
          refine W_v (.int .i64 (IntKind.i64.wrap (x209 + (1 : Int)))) (x_assign rfl) rfl ?_
          refine Wl_nil ?_
          refine tn ?_
          exact ⟨k, Nat.lt_succ_self k, ⟨x365, x366, (IntKind.i64.wrap (x209 + (1 : Int))), x367, A368, c369, H, ⟨rfl, rfl, rfl, rfl, rfl, rfl, trivial⟩, E, S.pick [1, 0, 2] (by decide)⟩⟩
        refine Wp_cond_false (congrArg Value.bool hb302) ?_
        refine Wp_exit ?_
        refine tx (tx (bsm (?_)))
        refine tn ?_
        exact ⟨Option.some.inj H, trivial, E, S.pick [] (by decide)⟩
  clear o300h
  rintro ρ w388 ⟨rfl, hρ, E, S⟩
  rw [agree_eta hρ]
  clear hρ
  have H := o300H
  clear o300H
  replace H := elimR H
  refine tn ?_
  refine Wp_seq ?_
  refine Wp_region_lit ?_
  refine W_v (.bool true) (x_assign rfl) rfl ?_
  refine Wl_nil ?_
  refine tn ?_
  refine Wp_ret ?_
  obtain rfl := Option.some.inj H
  exact ⟨_, _, _, fun w1 e1 => run_resR (vs := [.bool true]) (FA.cons (rfl) (FA.nil)), HM, E, S.pick [] (by decide), ⟨rfl, rfl⟩⟩
end Go.Proofs.Ytgnbccjpgoeplaa
