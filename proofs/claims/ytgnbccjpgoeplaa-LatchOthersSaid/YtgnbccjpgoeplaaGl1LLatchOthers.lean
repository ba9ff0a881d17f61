import Derived.Test.YtgnbccjpgoeplaaGl1
namespace Go.Proofs.Ytgnbccjpgoeplaa
open Go
set_option linter.unusedVariables false
set_option linter.unusedSimpArgs false
/-! ### ferryman/ferrymanlaw05.LatchOthers: function 4 -/
def ferrymanlaw05_LatchOthers_l0 (a0 : (List ferrymanlaw05_Step)) (a1 : ferrymanlaw05_Step) (x75 : Bool) (x76 : List (latch_Name × Int)) (x80 : List (latch_Name × Int)) : Nat → Int → Option ((Bool) ⊕ ((List (latch_Name × Int)) × (List (latch_Name × Int))))
  | 0, _ => none
  | k + 1, x229 => (if (decide (x229 < (a0.length : Int))) = true then (if 0 ≤ x229 ∧ x229 < (a0.length : Int) then (Option.bind (latch_Latches_Owner_PO k (⟨x80⟩ : latch_Latches) ((rd a0 x229).N)) (fun t313 => (if 0 ≤ x229 ∧ x229 < (a0.length : Int) then (Option.bind (latch_Latches_Owner_PO k (⟨x76⟩ : latch_Latches) ((rd a0 x229).N)) (fun t328 => (if 0 ≤ x229 ∧ x229 < (a0.length : Int) then (if (((!(((rd a0 x229).N.Kind == a1.N.Kind) && ((rd a0 x229).N.ID == a1.N.ID))) || (!x75)) && ((t313.1 != t328.1) || (!(t313.2 == t328.2)))) = true then some (.inl false) else ferrymanlaw05_LatchOthers_l0 a0 a1 x75 x76 x80 k (IntKind.i64.wrap (x229 + (1 : Int)))) else none))) else none))) else none) else some (.inr (x76, x80)))
set_option maxHeartbeats 2000000 in
theorem ferrymanlaw05_LatchOthers_l0.mono {a0 : (List ferrymanlaw05_Step)} {a1 : ferrymanlaw05_Step} {x75 : Bool} {x76 : List (latch_Name × Int)} {x80 : List (latch_Name × Int)} : ∀ {k : Nat} {x0}, OLe (ferrymanlaw05_LatchOthers_l0 a0 a1 x75 x76 x80 k x0) (ferrymanlaw05_LatchOthers_l0 a0 a1 x75 x76 x80 (k + 1) x0) := by
  intro k
  induction k with
  | zero => intros; exact OLe.none
  | succ k ih =>
    intros
    rw [ferrymanlaw05_LatchOthers_l0.eq_2, ferrymanlaw05_LatchOthers_l0.eq_2]
    repeat' (first | with_reducible exact OLe.none | with_reducible exact OLe.some | with_reducible refine OLe.ite ?_ ?_ | with_reducible refine OLe.bind ?_ (fun _ => ?_) | with_reducible exact latch_Latches_Owner_PO.mono | exact ih | refine OLe.bind ?_ (fun _ => ?_) | refine OLe.ite ?_ ?_ | refine OLe.elim (fun _ => ?_) (fun _ => ?_) | split)
def ferrymanlaw05_LatchOthers (k : Nat) (a0 : (List ferrymanlaw05_Step)) (a1 : ferrymanlaw05_Step) : Option (Bool) :=
  (Option.bind (α := Bool) (if (decide ((a0.length : Int) > (300 : Int))) = true then some (true) else (Option.bind (ferrymanlaw05_awake k ) (fun t13 => some ((!t13))))) (fun x11 => (if x11 = true then (Option.bind (ferrymanlaw05_awake k ) (fun t18 => some t18)) else (Option.bind (ferrymanlaw05_run k a0) (fun t21 => (Option.bind (ferrymanlaw05_run k a0) (fun t31 => (Option.bind (α := Bool × (List (latch_Name × Int)) × (List (latch_Name × Int))) (if a1.Drop = true then (Option.bind (latch_Latches_Drop_PO k t31 a1.N a1.Task) (fun t86 => some (t86.1, t86.2.by_, t21.by_))) else (Option.bind (latch_Latches_Try_PO k t31 a1.N a1.Task) (fun t94 => some (t94.1, t94.2.by_, t21.by_)))) (fun ⟨x75, x76, x80⟩ => (Option.bind (ferrymanlaw05_LatchOthers_l0 a0 a1 x75 x76 x80 k (0 : Int)) (fun o300o => Sum.elim (fun r' => some r') (fun ⟨x292, x296⟩ => (Option.bind (latch_Latches_Owner_PO k (⟨x292⟩ : latch_Latches) a1.N) (fun t365 => (Option.bind (α := Bool) (if (!x75) = true then (Option.bind (latch_Latches_All_PO k (⟨x296⟩ : latch_Latches)) (fun t393 => (Option.bind (latch_Latches_All_PO k (⟨x292⟩ : latch_Latches)) (fun t398 => some ((t393 == t398)))))) else some (false)) (fun x391 => some (x391 || (x75 && (!(t365.2 == a1.Drop))))))))) o300o)))))))))))
set_option maxHeartbeats 2000000 in
theorem ferrymanlaw05_LatchOthers.mono {k : Nat} {a0 : (List ferrymanlaw05_Step)} {a1 : ferrymanlaw05_Step} : OLe (ferrymanlaw05_LatchOthers k a0 a1) (ferrymanlaw05_LatchOthers (k + 1) a0 a1) := by
  unfold ferrymanlaw05_LatchOthers
  repeat' (first | with_reducible exact OLe.none | with_reducible exact OLe.some | with_reducible refine OLe.ite ?_ ?_ | with_reducible refine OLe.bind ?_ (fun _ => ?_) | with_reducible exact ferrymanlaw05_LatchOthers_l0.mono | with_reducible exact ferrymanlaw05_awake.mono | with_reducible exact ferrymanlaw05_run.mono | with_reducible exact latch_Latches_All_PO.mono | with_reducible exact latch_Latches_Drop_PO.mono | with_reducible exact latch_Latches_Owner_PO.mono | with_reducible exact latch_Latches_Try_PO.mono | refine OLe.bind ?_ (fun _ => ?_) | refine OLe.ite ?_ ?_ | refine OLe.elim (fun _ => ?_) (fun _ => ?_) | split)
set_option maxHeartbeats 1000000 in
set_option maxRecDepth 100000 in
theorem ferrymanlaw05_LatchOthers.con (k : Nat) (M : Hp) (A0 : Option Addr) (c0 : Nat) (a0 : (List ferrymanlaw05_Step)) (a1 : ferrymanlaw05_Step) (r : Bool) (hr0 : SlR r_ferrymanlaw05_Step M (.slice A0 a0.length c0) a0) (h : ferrymanlaw05_LatchOthers k a0 a1 = some r) : Con Try.prog 4 #[.slice A0 a0.length c0, .agg #[.bool a1.Drop, .int .u8 a1.N.Kind, .int .u64 a1.N.ID, .int .i64 a1.Task]] M [] (fun v M' Γ' => v = .bool r ∧ Γ' = []) := by
  refine con_of_wp Try.func4 rfl Try.ntmps4 Try.results4 rfl ?_
  intro w F rn S hrn
  have E := Ext.refl w
  have HM := Hp.le_refl M
  have H := h
  unfold ferrymanlaw05_LatchOthers at H
  refine Wp_seq ?_
  refine Wp_region_lit ?_
  refine W_box S #[.bool a1.Drop, .int .u8 a1.N.Kind, .int .u64 a1.N.ID, .int .i64 a1.Task] rfl rfl rfl ?_
  intro b1 w2 E' S
  replace E := E.trans E'
  clear E'
  refine W_v (.bool false) (x_assign rfl) rfl ?_
  refine Wl_nil ?_
  refine tn ?_
  refine Wp_seq ?_
  refine Wp_seq ?_
  refine Wp_region_lit ?_
  refine W_v (.slice A0 a0.length c0) (x_move rfl) rfl ?_
  refine W_v (.int .i64 (a0.length : Int)) (x_len_slice (n := a0.length) Try.underlying22 rfl) rfl ?_
  refine W_v (.bool (decide ((a0.length : Int) > (300 : Int)))) (x_ibin rfl rfl rfl rfl) rfl ?_
  refine W_v (.bool (decide ((a0.length : Int) > (300 : Int)))) (x_move rfl) rfl ?_
  obtain ⟨o12, o12h, o12H⟩ := bindS H
  clear H
  refine Wl_cutN 3 (fun ρ w' => ∃ (x11 : Bool), (x11) = o12 ∧ Agree ρ [(0, .slice A0 a0.length c0), (3, .pointer (some ⟨b1, 0, none⟩)), (21, .bool x11)] ∧ Ext w w' ∧ St w' M F [Blk b1 (.cells #[.bool a1.Drop, .int .u8 a1.N.Kind, .int .u64 a1.N.ID, .int .i64 a1.Task] 30 (0, 0))]) ?_ ?_
  · have H := o12h
    rcases iteS H with ⟨hb10, H⟩ | ⟨hb10, H⟩
    · skip
      refine W_no (skF hb10) rfl ?_
      refine W_no (skF hb10) rfl ?_
      refine W_v (.bool true) (x_pick (k := true) (congrArg Value.bool hb10) rfl) rfl ?_
      refine Wl_nil ?_
      exact ⟨true, Option.some.inj H, ⟨rfl, rfl, rfl, trivial⟩, E, S.pick [0] (by decide)⟩
    · skip
      refine W_yes (congrArg some hb10) ?_
      obtain ⟨t13, ht14, H⟩ := bindS H
      refine W_callF fn9 (ferrymanlaw05_awake.con k M  t13  ht14) S rfl rfl (by rintro _ _ _ ⟨_, rfl⟩; exact flat_nil) ?_
      rintro _ w15 _ Γ' E' S ⟨rfl, rfl⟩
      replace E := E.trans E'
      clear E'
      refine W_yes (congrArg some hb10) ?_
      refine W_v (.bool (!t13)) (x_not rfl) rfl ?_
      refine W_v (.bool (!t13)) (x_pick (k := false) (congrArg Value.bool hb10) rfl) rfl ?_
      refine Wl_nil ?_
      exact ⟨(!t13), Option.some.inj H, ⟨rfl, rfl, rfl, trivial⟩, E, S.pick [0] (by decide)⟩
  clear o12h
  rintro ρ w16 ⟨x11, rfl, hρ, E, S⟩
  rw [agree_eta hρ]
  clear hρ
  have H := o12H
  clear o12H
  refine Wl_nil ?_
  refine tn ?_
  rcases iteS H with ⟨hb17, H⟩ | ⟨hb17, H⟩
  · refine Wp_cond_true (congrArg Value.bool hb17) ?_
    refine Wp_seq ?_
    refine Wp_region_lit ?_
    obtain ⟨t18, ht19, H⟩ := bindS H
    refine W_callF fn9 (ferrymanlaw05_awake.con k M  t18  ht19) S rfl rfl (by rintro _ _ _ ⟨_, rfl⟩; exact flat_nil) ?_
    rintro _ w20 _ Γ' E' S ⟨rfl, rfl⟩
    replace E := E.trans E'
    clear E'
    refine W_v (.bool t18) (x_assign rfl) rfl ?_
    refine Wl_nil ?_
    refine tn ?_
    refine Wp_ret ?_
    refine tr (?_)
    obtain rfl := Option.some.inj H
    exact ⟨_, _, _, fun w1 e1 => run_resR (vs := [.bool t18]) (FA.cons (rfl) (FA.nil)), HM, E, S.pick [] (by decide), ⟨rfl, rfl⟩⟩
  refine Wp_cond_false (congrArg Value.bool hb17) ?_
  refine Wp_skip ?_
  refine tn ?_
  refine Wp_seq ?_
  refine Wp_region_lit ?_
  refine W_v (.slice A0 a0.length c0) (x_move rfl) rfl ?_
  obtain ⟨t21, ht22, H⟩ := bindS H
  refine W_callF2 fn14 (ferrymanlaw05_run.con k M A0 c0 a0 t21 hr0 ht22) (Γ1 := []) (Γ2 := [Blk b1 (.cells #[.bool a1.Drop, .int .u8 a1.N.Kind, .int .u64 a1.N.ID, .int .i64 a1.Task] 30 (0, 0))]) S rfl rfl (by rintro _ _ _ ⟨_, _, _, rfl, rfl⟩; exact (flat_cons flat_blk (flat_cons flat_map flat_nil))) ?_
  rintro _ w28 _ Γ' E' S ⟨b23, A25, c26, rfl, rfl⟩
  replace E := E.trans E'
  clear E'
  replace S : St w28 M F [Blk b23 (.cells #[.map (mb A25)] 56 (0, 0)), MapC enc_latch_Name (Value.int .i64) A25 t21.by_, Blk b1 (.cells #[.bool a1.Drop, .int .u8 a1.N.Kind, .int .u64 a1.N.ID, .int .i64 a1.Task] 30 (0, 0))] := S
  refine W_v (.slice A0 a0.length c0) (x_move rfl) rfl ?_
  obtain ⟨t31, ht32, H⟩ := bindS H
  refine W_callF2 fn14 (ferrymanlaw05_run.con k M A0 c0 a0 t31 hr0 ht32) (Γ1 := []) (Γ2 := [Blk b23 (.cells #[.map (mb A25)] 56 (0, 0)), MapC enc_latch_Name (Value.int .i64) A25 t21.by_, Blk b1 (.cells #[.bool a1.Drop, .int .u8 a1.N.Kind, .int .u64 a1.N.ID, .int .i64 a1.Task] 30 (0, 0))]) S rfl rfl (by rintro _ _ _ ⟨_, _, _, rfl, rfl⟩; exact (flat_cons flat_blk (flat_cons flat_map flat_nil))) ?_
  rintro _ w38 _ Γ' E' S ⟨b33, A35, c36, rfl, rfl⟩
  replace E := E.trans E'
  clear E'
  replace S : St w38 M F [Blk b33 (.cells #[.map (mb A35)] 56 (0, 0)), MapC enc_latch_Name (Value.int .i64) A35 t31.by_, Blk b23 (.cells #[.map (mb A25)] 56 (0, 0)), MapC enc_latch_Name (Value.int .i64) A25 t21.by_, Blk b1 (.cells #[.bool a1.Drop, .int .u8 a1.N.Kind, .int .u64 a1.N.ID, .int .i64 a1.Task] 30 (0, 0))] := S
  refine W_v (.pointer (some ⟨b23, 0, none⟩)) (x_assign rfl) rfl ?_
  refine W_v (.pointer (some ⟨b33, 0, none⟩)) (x_assign rfl) rfl ?_
  refine Wl_nil ?_
  refine tn ?_
  refine Wp_seq ?_
  refine Wp_region_lit ?_
  refine W_v (.bool false) (x_assign rfl) rfl ?_
  refine Wl_nil ?_
  refine tn ?_
  refine Wp_seq ?_
  refine Wp_seq ?_
  refine Wp_region_lit ?_
  refine W_v (.pointer (some ⟨b1, 0, none⟩)) (x_fieldAddr (o := 0) (off := 0) Try.underlying30 rfl ty4 rfl rfl) rfl ?_
  refine W_v (.bool a1.Drop) (x_load (S.blk 4 rfl) ty4 rfl rfl) rfl ?_
  refine Wl_nil ?_
  refine tn ?_
  obtain ⟨o84, o84h, o84H⟩ := bindS H
  refine Wp_cut (fun ρ w' => ∃ (x75 : Bool) (x76 : List (latch_Name × Int)) (x80 : List (latch_Name × Int)) (A77 : Option Addr) (c78 : Nat) (A81 : Option Addr) (c82 : Nat), (x75, x76, x80) = o84 ∧ Agree ρ [(0, .slice A0 a0.length c0), (3, .pointer (some ⟨b1, 0, none⟩)), (5, .pointer (some ⟨b23, 0, none⟩)), (6, .pointer (some ⟨b33, 0, none⟩)), (7, .bool x75)] ∧ Ext w w' ∧ St w' M F [MapC enc_latch_Name (Value.int .i64) A81 x80, MapC enc_latch_Name (Value.int .i64) A77 x76, Blk b33 (.cells #[.map (mb A77)] 56 (0, 0)), Blk b23 (.cells #[.map (mb A81)] 56 (0, 0)), Blk b1 (.cells #[.bool a1.Drop, .int .u8 a1.N.Kind, .int .u64 a1.N.ID, .int .i64 a1.Task] 30 (0, 0))]) ?_ ?_
  · clear o84H
    have H := o84h
    clear o84h
    rcases iteS H with ⟨hb85, H⟩ | ⟨hb85, H⟩
    · refine Wp_cond_true (congrArg Value.bool hb85) ?_
      refine Wp_region_lit ?_
      refine W_v (.pointer (some ⟨b33, 0, none⟩)) (x_move rfl) rfl ?_
      refine W_v (.pointer (some ⟨b1, 1, none⟩)) (x_fieldAddr (o := 0) (off := 1) Try.underlying30 rfl ty25 rfl rfl) rfl ?_
      refine W_v (.agg #[.int .u8 a1.N.Kind, .int .u64 a1.N.ID]) (x_loadA (S.blk 4 rfl) ty25 rfl (sub_of_extract rfl) rfl rfl) rfl ?_
      refine W_v (.pointer (some ⟨b1, 3, none⟩)) (x_fieldAddr (o := 0) (off := 3) Try.underlying30 rfl ty3 rfl rfl) rfl ?_
      refine W_v (.int .i64 a1.Task) (x_load (S.blk 4 rfl) ty3 rfl rfl) rfl ?_
      obtain ⟨t86, ht87, H⟩ := bindS H
      refine W_callF2 fn11 (latch_Latches_Drop_PO.con k M A35 c36 t31 a1.N a1.Task b33 t86  ht87) (Γ1 := [Blk b33 (.cells #[.map (mb A35)] 56 (0, 0)), MapC enc_latch_Name (Value.int .i64) A35 t31.by_]) (Γ2 := [Blk b23 (.cells #[.map (mb A25)] 56 (0, 0)), MapC enc_latch_Name (Value.int .i64) A25 t21.by_, Blk b1 (.cells #[.bool a1.Drop, .int .u8 a1.N.Kind, .int .u64 a1.N.ID, .int .i64 a1.Task] 30 (0, 0))]) S rfl rfl (by rintro _ _ _ ⟨_, _, rfl, rfl⟩; exact (flat_cons flat_blk (flat_cons flat_map flat_nil))) ?_
      rintro _ w91 _ Γ' E' S ⟨A88, c89, rfl, rfl⟩
      replace E := E.trans E'
      clear E'
      replace S : St w91 M F [Blk b33 (.cells #[.map (mb A88)] 56 (0, 0)), MapC enc_latch_Name (Value.int .i64) A88 t86.2.by_, Blk b23 (.cells #[.map (mb A25)] 56 (0, 0)), MapC enc_latch_Name (Value.int .i64) A25 t21.by_, Blk b1 (.cells #[.bool a1.Drop, .int .u8 a1.N.Kind, .int .u64 a1.N.ID, .int .i64 a1.Task] 30 (0, 0))] := S
      refine W_v (.bool t86.1) (x_assign rfl) rfl ?_
      refine Wl_nil ?_
      refine tn ?_
      exact ⟨t86.1, t86.2.by_, t21.by_, A88, c89, A25, c26, Option.some.inj H, ⟨rfl, rfl, rfl, rfl, rfl, trivial⟩, E, S.pick [3, 1, 0, 2, 4] (by decide)⟩
    refine Wp_cond_false (congrArg Value.bool hb85) ?_
    refine Wp_region_lit ?_
    refine W_v (.pointer (some ⟨b33, 0, none⟩)) (x_move rfl) rfl ?_
    refine W_v (.pointer (some ⟨b1, 1, none⟩)) (x_fieldAddr (o := 0) (off := 1) Try.underlying30 rfl ty25 rfl rfl) rfl ?_
    refine W_v (.agg #[.int .u8 a1.N.Kind, .int .u64 a1.N.ID]) (x_loadA (S.blk 4 rfl) ty25 rfl (sub_of_extract rfl) rfl rfl) rfl ?_
    refine W_v (.pointer (some ⟨b1, 3, none⟩)) (x_fieldAddr (o := 0) (off := 3) Try.underlying30 rfl ty3 rfl rfl) rfl ?_
    refine W_v (.int .i64 a1.Task) (x_load (S.blk 4 rfl) ty3 rfl rfl) rfl ?_
    obtain ⟨t94, ht95, H⟩ := bindS H
    refine W_callF2 fn12 (latch_Latches_Try_PO.con k M A35 c36 t31 a1.N a1.Task b33 t94  ht95) (Γ1 := [Blk b33 (.cells #[.map (mb A35)] 56 (0, 0)), MapC enc_latch_Name (Value.int .i64) A35 t31.by_]) (Γ2 := [Blk b23 (.cells #[.map (mb A25)] 56 (0, 0)), MapC enc_latch_Name (Value.int .i64) A25 t21.by_, Blk b1 (.cells #[.bool a1.Drop, .int .u8 a1.N.Kind, .int .u64 a1.N.ID, .int .i64 a1.Task] 30 (0, 0))]) S rfl rfl (by rintro _ _ _ ⟨_, _, rfl, rfl⟩; exact (flat_cons flat_blk (flat_cons flat_map flat_nil))) ?_
    rintro _ w99 _ Γ' E' S ⟨A96, c97, rfl, rfl⟩
    replace E := E.trans E'
    clear E'
    replace S : St w99 M F [Blk b33 (.cells #[.map (mb A96)] 56 (0, 0)), MapC enc_latch_Name (Value.int .i64) A96 t94.2.by_, Blk b23 (.cells #[.map (mb A25)] 56 (0, 0)), MapC enc_latch_Name (Value.int .i64) A25 t21.by_, Blk b1 (.cells #[.bool a1.Drop, .int .u8 a1.N.Kind, .int .u64 a1.N.ID, .int .i64 a1.Task] 30 (0, 0))] := S
    refine W_v (.bool t94.1) (x_assign rfl) rfl ?_
    refine Wl_nil ?_
    refine tn ?_
    exact ⟨t94.1, t94.2.by_, t21.by_, A96, c97, A25, c26, Option.some.inj H, ⟨rfl, rfl, rfl, rfl, rfl, trivial⟩, E, S.pick [3, 1, 0, 2, 4] (by decide)⟩
  clear o84h
  rintro ρ w102 ⟨x75, x76, x80, A77, c78, A81, c82, rfl, hρ, E, S⟩
  rw [agree_eta hρ]
  clear hρ
  have H := o84H
  clear o84H
  refine tn ?_
  refine Wp_seq ?_
  refine Wp_seq ?_
  refine Wp_region_lit ?_
  refine W_v (.int .i64 0) (x_assign rfl) rfl ?_
  refine Wl_nil ?_
  refine tn ?_
  obtain ⟨o300, o300h, o300H⟩ := bindS H
  clear H
  refine Wp_blockJ (fun ρ w' => ∃ (x292 : List (latch_Name × Int)) (x296 : List (latch_Name × Int)) (A293 : Option Addr) (c294 : Nat) (A297 : Option Addr) (c298 : Nat), .inr (x292, x296) = o300 ∧ Agree ρ [(3, .pointer (some ⟨b1, 0, none⟩)), (5, .pointer (some ⟨b23, 0, none⟩)), (6, .pointer (some ⟨b33, 0, none⟩)), (7, .bool x75)] ∧ Ext w w' ∧ St w' M F [MapC enc_latch_Name (Value.int .i64) A297 x296, MapC enc_latch_Name (Value.int .i64) A293 x292, Blk b33 (.cells #[.map (mb A293)] 56 (0, 0)), Blk b23 (.cells #[.map (mb A297)] 56 (0, 0)), Blk b1 (.cells #[.bool a1.Drop, .int .u8 a1.N.Kind, .int .u64 a1.N.ID, .int .i64 a1.Task] 30 (0, 0))]) ?_ ?_
  · skip
    refine Wp_loop (fun n ρ w' => ∃ (x229 : Int), ferrymanlaw05_LatchOthers_l0 a0 a1 x75 x76 x80 n x229 = some o300 ∧ Agree ρ [(0, .slice A0 a0.length c0), (3, .pointer (some ⟨b1, 0, none⟩)), (5, .pointer (some ⟨b23, 0, none⟩)), (6, .pointer (some ⟨b33, 0, none⟩)), (7, .bool x75), (8, .int .i64 x229)] ∧ Ext w w' ∧ St w' M F [MapC enc_latch_Name (Value.int .i64) A81 x80, MapC enc_latch_Name (Value.int .i64) A77 x76, Blk b33 (.cells #[.map (mb A77)] 56 (0, 0)), Blk b23 (.cells #[.map (mb A81)] 56 (0, 0)), Blk b1 (.cells #[.bool a1.Drop, .int .u8 a1.N.Kind, .int .u64 a1.N.ID, .int .i64 a1.Task] 30 (0, 0))]) k ?_ ?_
    · skip
      exact ⟨(0 : Int), o300h, ⟨rfl, rfl, rfl, rfl, rfl, rfl, trivial⟩, E, S.pick [0, 1, 2, 3, 4] (by decide)⟩
    · intro n
      rintro ρ w301 ⟨x229, H, hρ, E, S⟩
      rw [agree_eta hρ]
      clear hρ
      cases n with
      | zero => cases H
      | succ k =>
        rw [ferrymanlaw05_LatchOthers_l0.eq_2] at H
        refine Wp_seq ?_
        refine Wp_seq ?_
        refine Wp_region_lit ?_
        refine W_v (.int .i64 x229) (x_move rfl) rfl ?_
        refine W_v (.slice A0 a0.length c0) (x_move rfl) rfl ?_
        refine W_v (.int .i64 (a0.length : Int)) (x_len_slice (n := a0.length) Try.underlying22 rfl) rfl ?_
        refine W_v (.bool (decide (x229 < (a0.length : Int)))) (x_ibin rfl rfl rfl rfl) rfl ?_
        refine Wl_nil ?_
        refine tn ?_
        rcases iteS H with ⟨hb302, H⟩ | ⟨hb302, H⟩
        · refine Wp_cond_true (congrArg Value.bool hb302) ?_
          refine Wp_skip ?_
          refine tn ?_
          refine Wp_seq ?_
          refine Wp_block ?_
          refine Wp_seq ?_
          refine Wp_region_lit ?_
          refine W_v (.pointer (some ⟨b23, 0, none⟩)) (x_move rfl) rfl ?_
          refine W_v (.slice A0 a0.length c0) (x_move rfl) rfl ?_
          refine W_v (.int .i64 x229) (x_move rfl) rfl ?_
          obtain ⟨⟨p303, p304⟩, H⟩ := chkS H
          obtain ⟨b305, o306, cs307, _, _, ee312, hb308, vs309, hR310, hc311⟩ := SlW.at' hr0 p303 p304
          obtain rfl : vs309 = _ := hR310
          refine W_v (.pointer (some ⟨b305, o306 + x229.toNat * 4, none⟩)) (x_indexAddr Try.underlying22 ty30 (slA ee312) rfl p303 p304) rfl ?_
          refine W_v (.pointer (some ⟨b305, o306 + x229.toNat * 4 + 1, none⟩)) (x_fieldAddr (o := o306 + x229.toNat * 4) (off := 1) Try.underlying30 rfl ty25 rfl rfl) rfl ?_
          refine W_v (.agg #[.int .u8 ((rd a0 x229).N.Kind), .int .u64 ((rd a0 x229).N.ID)]) (x_loadA (S.frz hb308) ty25 rfl (sub_el hc311 1 rfl) rfl rfl) rfl ?_
          obtain ⟨t313, ht314, H⟩ := bindS H
          replace S : St w301 M F [Blk b23 (.cells #[.map (mb A81)] 56 (0, 0)), MapC enc_latch_Name (Value.int .i64) A81 x80, MapC enc_latch_Name (Value.int .i64) A77 x76, Blk b33 (.cells #[.map (mb A77)] 56 (0, 0)), Blk b1 (.cells #[.bool a1.Drop, .int .u8 a1.N.Kind, .int .u64 a1.N.ID, .int .i64 a1.Task] 30 (0, 0))] := S.pick [3, 0, 1, 2, 4] (by decide)
          refine W_callF2 fn13 (latch_Latches_Owner_PO.con k M A81 c82 (⟨x80⟩ : latch_Latches) ((rd a0 x229).N) b23 t313  ht314) (Γ1 := [Blk b23 (.cells #[.map (mb A81)] 56 (0, 0)), MapC enc_latch_Name (Value.int .i64) A81 x80]) (Γ2 := [MapC enc_latch_Name (Value.int .i64) A77 x76, Blk b33 (.cells #[.map (mb A77)] 56 (0, 0)), Blk b1 (.cells #[.bool a1.Drop, .int .u8 a1.N.Kind, .int .u64 a1.N.ID, .int .i64 a1.Task] 30 (0, 0))]) S rfl rfl (by rintro _ _ _ ⟨rfl, rfl⟩; exact (flat_cons flat_blk (flat_cons flat_map flat_nil))) ?_
          rintro _ w315 _ Γ' E' S ⟨rfl, rfl⟩
          replace E := E.trans E'
          clear E'
          replace S : St w315 M F [Blk b23 (.cells #[.map (mb A81)] 56 (0, 0)), MapC enc_latch_Name (Value.int .i64) A81 x80, MapC enc_latch_Name (Value.int .i64) A77 x76, Blk b33 (.cells #[.map (mb A77)] 56 (0, 0)), Blk b1 (.cells #[.bool a1.Drop, .int .u8 a1.N.Kind, .int .u64 a1.N.ID, .int .i64 a1.Task] 30 (0, 0))] := S
          refine W_v (.tuple #[.int .i64 t313.1, .bool t313.2]) (x_move rfl) rfl ?_
          refine W_v (.int .i64 t313.1) (x_extract rfl rfl) rfl ?_
          refine W_v (.bool t313.2) (x_extract rfl rfl) rfl ?_
          refine W_v (.int .i64 t313.1) (x_assign rfl) rfl ?_
          refine W_v (.bool t313.2) (x_assign rfl) rfl ?_
          refine Wl_nil ?_
          refine tn ?_
          refine Wp_seq ?_
          refine Wp_region_lit ?_
          refine W_v (.pointer (some ⟨b33, 0, none⟩)) (x_move rfl) rfl ?_
          refine W_v (.slice A0 a0.length c0) (x_move rfl) rfl ?_
          refine W_v (.int .i64 x229) (x_move rfl) rfl ?_
          obtain ⟨⟨p318, p319⟩, H⟩ := chkS H
          obtain ⟨b320, o321, cs322, _, _, ee327, hb323, vs324, hR325, hc326⟩ := SlW.at' hr0 p318 p319
          obtain rfl : vs324 = _ := hR325
          refine W_v (.pointer (some ⟨b320, o321 + x229.toNat * 4, none⟩)) (x_indexAddr Try.underlying22 ty30 (slA ee327) rfl p318 p319) rfl ?_
          refine W_v (.pointer (some ⟨b320, o321 + x229.toNat * 4 + 1, none⟩)) (x_fieldAddr (o := o321 + x229.toNat * 4) (off := 1) Try.underlying30 rfl ty25 rfl rfl) rfl ?_
          refine W_v (.agg #[.int .u8 ((rd a0 x229).N.Kind), .int .u64 ((rd a0 x229).N.ID)]) (x_loadA (S.frz hb323) ty25 rfl (sub_el hc326 1 rfl) rfl rfl) rfl ?_
          obtain ⟨t328, ht329, H⟩ := bindS H
          replace S : St w315 M F [Blk b33 (.cells #[.map (mb A77)] 56 (0, 0)), MapC enc_latch_Name (Value.int .i64) A77 x76, Blk b23 (.cells #[.map (mb A81)] 56 (0, 0)), MapC enc_latch_Name (Value.int .i64) A81 x80, Blk b1 (.cells #[.bool a1.Drop, .int .u8 a1.N.Kind, .int .u64 a1.N.ID, .int .i64 a1.Task] 30 (0, 0))] := S.pick [3, 2, 0, 1, 4] (by decide)
          refine W_callF2 fn13 (latch_Latches_Owner_PO.con k M A77 c78 (⟨x76⟩ : latch_Latches) ((rd a0 x229).N) b33 t328  ht329) (Γ1 := [Blk b33 (.cells #[.map (mb A77)] 56 (0, 0)), MapC enc_latch_Name (Value.int .i64) A77 x76]) (Γ2 := [Blk b23 (.cells #[.map (mb A81)] 56 (0, 0)), MapC enc_latch_Name (Value.int .i64) A81 x80, Blk b1 (.cells #[.bool a1.Drop, .int .u8 a1.N.Kind, .int .u64 a1.N.ID, .int .i64 a1.Task] 30 (0, 0))]) S rfl rfl (by rintro _ _ _ ⟨rfl, rfl⟩; exact (flat_cons flat_blk (flat_cons flat_map flat_nil))) ?_
          rintro _ w330 _ Γ' E' S ⟨rfl, rfl⟩
          replace E := E.trans E'
          clear E'
          replace S : St w330 M F [Blk b33 (.cells #[.map (mb A77)] 56 (0, 0)), MapC enc_latch_Name (Value.int .i64) A77 x76, Blk b23 (.cells #[.map (mb A81)] 56 (0, 0)), MapC enc_latch_Name (Value.int .i64) A81 x80, Blk b1 (.cells #[.bool a1.Drop, .int .u8 a1.N.Kind, .int .u64 a1.N.ID, .int .i64 a1.Task] 30 (0, 0))] := S
          refine W_v (.tuple #[.int .i64 t328.1, .bool t328.2]) (x_move rfl) rfl ?_
          refine W_v (.int .i64 t328.1) (x_extract rfl rfl) rfl ?_
          refine W_v (.bool t328.2) (x_extract rfl rfl) rfl ?_
          refine W_v (.int .i64 t328.1) (x_assign rfl) rfl ?_
          refine W_v (.bool t328.2) (x_assign rfl) rfl ?_
          refine Wl_nil ?_
          refine tn ?_
          refine Wp_seq ?_
          refine Wp_region_any (S := fun w' => ∃ Mx, M.le Mx ∧ St w' Mx F [Blk b33 (.cells #[.map (mb A77)] 56 (0, 0)), MapC enc_latch_Name (Value.int .i64) A77 x76, Blk b23 (.cells #[.map (mb A81)] 56 (0, 0)), MapC enc_latch_Name (Value.int .i64) A81 x80, Blk b1 (.cells #[.bool a1.Drop, .int .u8 a1.N.Kind, .int .u64 a1.N.ID, .int .i64 a1.Task] 30 (0, 0))]) (L := 22) mixed ?_
          intro w347 hw348 E'
          replace S := S.heap hw348
          replace E := E.trans E'
          clear E'
          refine Wa_take (i := 0) rfl (by kernel_rfl) rfl rfl (.slice A0 a0.length c0) rfl (fun w' h' => x_move rfl) (⟨M, Hp.le_refl M, S.pick [0, 1, 2, 3, 4] (by decide)⟩) ?_
          refine Wa_take (i := 1) rfl (by kernel_rfl) rfl rfl (.int .i64 x229) rfl (fun w' h' => x_move rfl) (⟨M, Hp.le_refl M, S.pick [0, 1, 2, 3, 4] (by decide)⟩) ?_
          obtain ⟨⟨p349, p350⟩, H⟩ := chkS H
          obtain ⟨b351, o352, cs353, _, _, ee358, hb354, vs355, hR356, hc357⟩ := SlW.at' hr0 p349 p350
          obtain rfl : vs355 = _ := hR356
          refine Wa_take (i := 2) rfl (by kernel_rfl) rfl rfl (.pointer (some ⟨b351, o352 + x229.toNat * 4, none⟩)) rfl (fun w' h' => x_indexAddr Try.underlying22 ty30 (slA ee358) rfl p349 p350) (⟨M, Hp.le_refl M, S.pick [0, 1, 2, 3, 4] (by decide)⟩) ?_
          refine Wa_take (i := 3) rfl (by kernel_rfl) rfl rfl (.pointer (some ⟨b351, o352 + x229.toNat * 4 + 1, none⟩)) rfl (fun w' h' => x_fieldAddr (o := o352 + x229.toNat * 4) (off := 1) Try.underlying30 rfl ty25 rfl rfl) (⟨M, Hp.le_refl M, S.pick [0, 1, 2, 3, 4] (by decide)⟩) ?_
          refine Wa_take (i := 4) rfl (by kernel_rfl) rfl rfl (.agg #[.int .u8 ((rd a0 x229).N.Kind), .int .u64 ((rd a0 x229).N.ID)]) rfl (fun w' h' => x_loadA (cls_frz h' hb354) ty25 rfl (sub_el hc357 1 rfl) rfl rfl) (⟨M, Hp.le_refl M, S.pick [0, 1, 2, 3, 4] (by decide)⟩) ?_
          refine Wa_take (i := 5) rfl (by kernel_rfl) rfl rfl (.pointer (some ⟨b1, 1, none⟩)) rfl (fun w' h' => x_fieldAddr (o := 0) (off := 1) Try.underlying30 rfl ty25 rfl rfl) (⟨M, Hp.le_refl M, S.pick [0, 1, 2, 3, 4] (by decide)⟩) ?_
          refine Wa_take (i := 6) rfl (by kernel_rfl) rfl rfl (.agg #[.int .u8 a1.N.Kind, .int .u64 a1.N.ID]) rfl (fun w' h' => x_loadA (cls_blk h' 4 rfl) ty25 rfl (sub_of_extract rfl) rfl rfl) (⟨M, Hp.le_refl M, S.pick [0, 1, 2, 3, 4] (by decide)⟩) ?_
          refine Wa_take (i := 7) rfl (by kernel_rfl) rfl rfl (.bool (!(((rd a0 x229).N.Kind == a1.N.Kind) && ((rd a0 x229).N.ID == a1.N.ID)))) rfl (fun w' h' => x_ne_of (en25 _ _ _ _) rfl (eq25 _ ((rd a0 x229).N.Kind) ((rd a0 x229).N.ID) a1.N.Kind a1.N.ID)) (⟨M, Hp.le_refl M, S.pick [0, 1, 2, 3, 4] (by decide)⟩) ?_
          refine Wa_take (i := 8) rfl (by kernel_rfl) rfl rfl (.bool (!(((rd a0 x229).N.Kind == a1.N.Kind) && ((rd a0 x229).N.ID == a1.N.ID)))) rfl (fun w' h' => x_move rfl) (⟨M, Hp.le_refl M, S.pick [0, 1, 2, 3, 4] (by decide)⟩) ?_
          refine Wa_join (fun ρ w' => Agree ρ [(0, .slice A0 a0.length c0), (3, .pointer (some ⟨b1, 0, none⟩)), (5, .pointer (some ⟨b23, 0, none⟩)), (6, .pointer (some ⟨b33, 0, none⟩)), (7, .bool x75), (8, .int .i64 x229), (9, .int .i64 t313.1), (10, .bool t313.2), (11, .int .i64 t328.1), (12, .bool t328.2), (78, .bool ((!(((rd a0 x229).N.Kind == a1.N.Kind) && ((rd a0 x229).N.ID == a1.N.ID))) || (!x75)))] ∧ w347 = w') 10 (Ls 22 [0, 1, 2, 3, 4, 5, 6, 7, 8, 9, 10, 11]) ?_ ?_
          rotate_left
          · intro hrest
            rcases boolCases (!(((rd a0 x229).N.Kind == a1.N.Kind) && ((rd a0 x229).N.ID == a1.N.ID))) with hb359 | hb359
            · skip
              refine Wa_takeY (i := 9) rfl (by kernel_rfl) rfl rfl (.bool x75) rfl (congrArg some hb359) (fun w' h' => x_move rfl) (⟨M, Hp.le_refl M, S.pick [0, 1, 2, 3, 4] (by decide)⟩) ?_
              refine Wa_takeY (i := 10) rfl (by kernel_rfl) rfl rfl (.bool (!x75)) rfl (congrArg some hb359) (fun w' h' => x_not rfl) (⟨M, Hp.le_refl M, S.pick [0, 1, 2, 3, 4] (by decide)⟩) ?_
              refine Wa_take (i := 11) rfl (by kernel_rfl) rfl rfl (.bool (!x75)) rfl (fun w' h' => x_pick (k := false) (congrArg Value.bool hb359) rfl) (⟨M, Hp.le_refl M, S.pick [0, 1, 2, 3, 4] (by decide)⟩) ?_
              exact hrest _ _ ⟨⟨rfl, rfl, rfl, rfl, rfl, rfl, rfl, rfl, rfl, rfl, (by first | rfl | (rw [hb359]; rfl) | (simp only [hb359]; rfl)), trivial⟩, rfl⟩
            · skip
              refine Wa_takeN (i := 9) rfl (by kernel_rfl) rfl rfl rfl (skF hb359) (⟨M, Hp.le_refl M, S.pick [0, 1, 2, 3, 4] (by decide)⟩) ?_
              refine Wa_takeN (i := 10) rfl (by kernel_rfl) rfl rfl rfl (skF hb359) (⟨M, Hp.le_refl M, S.pick [0, 1, 2, 3, 4] (by decide)⟩) ?_
              refine Wa_take (i := 11) rfl (by kernel_rfl) rfl rfl (.bool true) rfl (fun w' h' => x_pick (k := true) (congrArg Value.bool hb359) rfl) (⟨M, Hp.le_refl M, S.pick [0, 1, 2, 3, 4] (by decide)⟩) ?_
              exact hrest _ _ ⟨⟨rfl, rfl, rfl, rfl, rfl, rfl, rfl, rfl, rfl, rfl, (by first | rfl | (rw [hb359]; rfl) | (simp only [hb359]; rfl)), trivial⟩, rfl⟩
          rintro ρ _ ⟨hρ, rfl⟩
          rw [agree_eta hρ]
          clear hρ
          refine Wa_take (i := 12) rfl (by kernel_rfl) rfl rfl (.bool ((!(((rd a0 x229).N.Kind == a1.N.Kind) && ((rd a0 x229).N.ID == a1.N.ID))) || (!x75))) rfl (fun w' h' => x_move rfl) (⟨M, Hp.le_refl M, S.pick [0, 1, 2, 3, 4] (by decide)⟩) ?_
          refine Wa_join (fun ρ w' => Agree ρ [(0, .slice A0 a0.length c0), (3, .pointer (some ⟨b1, 0, none⟩)), (5, .pointer (some ⟨b23, 0, none⟩)), (6, .pointer (some ⟨b33, 0, none⟩)), (7, .bool x75), (8, .int .i64 x229), (88, .bool (((!(((rd a0 x229).N.Kind == a1.N.Kind) && ((rd a0 x229).N.ID == a1.N.ID))) || (!x75)) && ((t313.1 != t328.1) || (!(t313.2 == t328.2)))))] ∧ w347 = w') 0 (Ls 22 [0, 1, 2, 3, 4, 5, 6, 7, 8, 9, 10, 11, 12, 13, 14, 15, 16, 17, 18, 19, 20, 21]) ?_ ?_
          rotate_left
          · intro hrest
            rcases boolCases ((!(((rd a0 x229).N.Kind == a1.N.Kind) && ((rd a0 x229).N.ID == a1.N.ID))) || (!x75)) with hb361 | hb361
            · skip
              refine Wa_takeN (i := 13) rfl (by kernel_rfl) rfl rfl rfl (skT hb361) (⟨M, Hp.le_refl M, S.pick [0, 1, 2, 3, 4] (by decide)⟩) ?_
              refine Wa_takeN (i := 14) rfl (by kernel_rfl) rfl rfl rfl (skT hb361) (⟨M, Hp.le_refl M, S.pick [0, 1, 2, 3, 4] (by decide)⟩) ?_
              refine Wa_takeN (i := 15) rfl (by kernel_rfl) rfl rfl rfl (skT hb361) (⟨M, Hp.le_refl M, S.pick [0, 1, 2, 3, 4] (by decide)⟩) ?_
              refine Wa_takeN (i := 16) rfl (by kernel_rfl) rfl rfl rfl (skT hb361) (⟨M, Hp.le_refl M, S.pick [0, 1, 2, 3, 4] (by decide)⟩) ?_
              refine Wa_takeN (i := 17) rfl (by kernel_rfl) rfl rfl rfl (rfl) (⟨M, Hp.le_refl M, S.pick [0, 1, 2, 3, 4] (by decide)⟩) ?_
              refine Wa_takeN (i := 18) rfl (by kernel_rfl) rfl rfl rfl (rfl) (⟨M, Hp.le_refl M, S.pick [0, 1, 2, 3, 4] (by decide)⟩) ?_
              refine Wa_takeN (i := 19) rfl (by kernel_rfl) rfl rfl rfl (rfl) (⟨M, Hp.le_refl M, S.pick [0, 1, 2, 3, 4] (by decide)⟩) ?_
              refine Wa_takeN (i := 20) rfl (by kernel_rfl) rfl rfl rfl (skT hb361) (⟨M, Hp.le_refl M, S.pick [0, 1, 2, 3, 4] (by decide)⟩) ?_
              refine Wa_take (i := 21) rfl (by kernel_rfl) rfl rfl (.bool false) rfl (fun w' h' => x_pick (k := false) (congrArg Value.bool hb361) rfl) (⟨M, Hp.le_refl M, S.pick [0, 1, 2, 3, 4] (by decide)⟩) ?_
              exact hrest _ _ ⟨⟨rfl, rfl, rfl, rfl, rfl, rfl, (by first | rfl | (rw [hb361]; rfl) | (simp only [hb361]; rfl)), trivial⟩, rfl⟩
            · skip
              refine Wa_takeY (i := 13) rfl (by kernel_rfl) rfl rfl (.int .i64 t313.1) rfl (congrArg some hb361) (fun w' h' => x_move rfl) (⟨M, Hp.le_refl M, S.pick [0, 1, 2, 3, 4] (by decide)⟩) ?_
              refine Wa_takeY (i := 14) rfl (by kernel_rfl) rfl rfl (.int .i64 t328.1) rfl (congrArg some hb361) (fun w' h' => x_move rfl) (⟨M, Hp.le_refl M, S.pick [0, 1, 2, 3, 4] (by decide)⟩) ?_
              refine Wa_takeY (i := 15) rfl (by kernel_rfl) rfl rfl (.bool (t313.1 != t328.1)) rfl (congrArg some hb361) (fun w' h' => x_ibin rfl rfl rfl rfl) (⟨M, Hp.le_refl M, S.pick [0, 1, 2, 3, 4] (by decide)⟩) ?_
              refine Wa_takeY (i := 16) rfl (by kernel_rfl) rfl rfl (.bool (t313.1 != t328.1)) rfl (congrArg some hb361) (fun w' h' => x_move rfl) (⟨M, Hp.le_refl M, S.pick [0, 1, 2, 3, 4] (by decide)⟩) ?_
              refine Wa_join (fun ρ w' => Agree ρ [(0, .slice A0 a0.length c0), (3, .pointer (some ⟨b1, 0, none⟩)), (5, .pointer (some ⟨b23, 0, none⟩)), (6, .pointer (some ⟨b33, 0, none⟩)), (7, .bool x75), (8, .int .i64 x229), (79, .bool ((!(((rd a0 x229).N.Kind == a1.N.Kind) && ((rd a0 x229).N.ID == a1.N.ID))) || (!x75))), (80, .int .i64 t313.1), (81, .int .i64 t328.1), (82, .bool (t313.1 != t328.1)), (83, .bool (t313.1 != t328.1)), (87, .bool ((t313.1 != t328.1) || (!(t313.2 == t328.2))))] ∧ w347 = w') 1 (Ls 22 [0, 1, 2, 3, 4, 5, 6, 7, 8, 9, 10, 11, 12, 13, 14, 15, 16, 17, 18, 19, 20]) ?_ ?_
              rotate_left
              · intro hrest
                rcases boolCases (t313.1 != t328.1) with hb362 | hb362
                · skip
                  refine Wa_takeY (i := 17) rfl (by kernel_rfl) rfl rfl (.bool t313.2) rfl (congrArg some hb362) (fun w' h' => x_move rfl) (⟨M, Hp.le_refl M, S.pick [0, 1, 2, 3, 4] (by decide)⟩) ?_
                  refine Wa_takeY (i := 18) rfl (by kernel_rfl) rfl rfl (.bool t328.2) rfl (congrArg some hb362) (fun w' h' => x_move rfl) (⟨M, Hp.le_refl M, S.pick [0, 1, 2, 3, 4] (by decide)⟩) ?_
                  refine Wa_takeY (i := 19) rfl (by kernel_rfl) rfl rfl (.bool (!(t313.2 == t328.2))) rfl (congrArg some hb362) (fun w' h' => x_bne Try.underlying4 rfl rfl) (⟨M, Hp.le_refl M, S.pick [0, 1, 2, 3, 4] (by decide)⟩) ?_
                  refine Wa_takeY (i := 20) rfl (by kernel_rfl) rfl rfl (.bool (!(t313.2 == t328.2))) rfl (congrArg some hb361) (fun w' h' => x_pick (k := false) (congrArg Value.bool hb362) rfl) (⟨M, Hp.le_refl M, S.pick [0, 1, 2, 3, 4] (by decide)⟩) ?_
                  exact hrest _ _ ⟨⟨rfl, rfl, rfl, rfl, rfl, rfl, rfl, rfl, rfl, rfl, rfl, (by first | rfl | (rw [hb362]; rfl) | (simp only [hb362]; rfl)), trivial⟩, rfl⟩
                · skip
                  refine Wa_takeN (i := 17) rfl (by kernel_rfl) rfl rfl rfl (skF hb362) (⟨M, Hp.le_refl M, S.pick [0, 1, 2, 3, 4] (by decide)⟩) ?_
                  refine Wa_takeN (i := 18) rfl (by kernel_rfl) rfl rfl rfl (skF hb362) (⟨M, Hp.le_refl M, S.pick [0, 1, 2, 3, 4] (by decide)⟩) ?_
                  refine Wa_takeN (i := 19) rfl (by kernel_rfl) rfl rfl rfl (skF hb362) (⟨M, Hp.le_refl M, S.pick [0, 1, 2, 3, 4] (by decide)⟩) ?_
                  refine Wa_takeY (i := 20) rfl (by kernel_rfl) rfl rfl (.bool true) rfl (congrArg some hb361) (fun w' h' => x_pick (k := true) (congrArg Value.bool hb362) rfl) (⟨M, Hp.le_refl M, S.pick [0, 1, 2, 3, 4] (by decide)⟩) ?_
                  exact hrest _ _ ⟨⟨rfl, rfl, rfl, rfl, rfl, rfl, rfl, rfl, rfl, rfl, rfl, (by first | rfl | (rw [hb362]; rfl) | (simp only [hb362]; rfl)), trivial⟩, rfl⟩
              rintro ρ _ ⟨hρ, rfl⟩
              rw [agree_eta hρ]
              clear hρ
              refine Wa_take (i := 21) rfl (by kernel_rfl) rfl rfl (.bool ((t313.1 != t328.1) || (!(t313.2 == t328.2)))) rfl (fun w' h' => x_pick (k := true) (congrArg Value.bool hb361) rfl) (⟨M, Hp.le_refl M, S.pick [0, 1, 2, 3, 4] (by decide)⟩) ?_
              exact hrest _ _ ⟨⟨rfl, rfl, rfl, rfl, rfl, rfl, (by first | rfl | (rw [hb361]; rfl) | (simp only [hb361]; rfl)), trivial⟩, rfl⟩
          rintro ρ _ ⟨hρ, rfl⟩
          rw [agree_eta hρ]
          clear hρ
          refine Wa_done (by kernel_rfl) ?_
          refine tn ?_
          rcases iteS H with ⟨hb363, H⟩ | ⟨hb363, H⟩
          · refine Wp_cond_true (congrArg Value.bool hb363) ?_
            refine Wp_seq ?_
            refine Wp_region_lit ?_
            refine W_v (.bool false) (x_assign rfl) rfl ?_
            refine Wl_nil ?_
            refine tn ?_
            refine Wp_ret ?_
            refine br (tr (tr (br (tr (tr (?_))))))
            obtain rfl := Option.some.inj H
            have H := o300H
            replace H := elimL H
            obtain rfl := Option.some.inj H
            exact ⟨_, _, _, fun w1 e1 => run_resR (vs := [.bool false]) (FA.cons (rfl) (FA.nil)), HM, E, S.pick [] (by decide), ⟨rfl, rfl⟩⟩
          refine Wp_cond_false (congrArg Value.bool hb363) ?_
          refine Wp_skip ?_
          refine bn ?_
          refine tn ?_
          refine Wp_region_lit ?_
          refine W_v (.int .i64 x229) (x_move rfl) rfl ?_
          refine W_v (.int .i64 (IntKind.i64.wrap (x229 + (1 : Int)))) (x_ibin rfl rfl rfl rfl) rfl ?_
          refine W_v (.int .i64 (IntKind.i64.wrap (x229 + (1 : Int)))) (x_assign rfl) rfl ?_
          refine Wl_nil ?_
          refine tn ?_
          exact ⟨k, Nat.lt_succ_self k, ⟨(IntKind.i64.wrap (x229 + (1 : Int))), H, ⟨rfl, rfl, rfl, rfl, rfl, rfl, trivial⟩, E, S.pick [3, 1, 0, 2, 4] (by decide)⟩⟩
        refine Wp_cond_false (congrArg Value.bool hb302) ?_
        refine Wp_exit ?_
        refine tx (tx (bsm (?_)))
        refine tn ?_
        exact ⟨x76, x80, A77, c78, A81, c82, Option.some.inj H, ⟨rfl, rfl, rfl, rfl, trivial⟩, E, S.pick [0, 1, 2, 3, 4] (by decide)⟩
  clear o300h
  rintro ρ w364 ⟨x292, x296, A293, c294, A297, c298, rfl, hρ, E, S⟩
  rw [agree_eta hρ]
  clear hρ
  have H := o300H
  clear o300H
  replace H := elimR H
  refine tn ?_
  refine Wp_seq ?_
  refine Wp_region_lit ?_
  refine W_v (.pointer (some ⟨b33, 0, none⟩)) (x_move rfl) rfl ?_
  refine W_v (.pointer (some ⟨b1, 1, none⟩)) (x_fieldAddr (o := 0) (off := 1) Try.underlying30 rfl ty25 rfl rfl) rfl ?_
  refine W_v (.agg #[.int .u8 a1.N.Kind, .int .u64 a1.N.ID]) (x_loadA (S.blk 4 rfl) ty25 rfl (sub_of_extract rfl) rfl rfl) rfl ?_
  obtain ⟨t365, ht366, H⟩ := bindS H
  replace S : St w364 M F [Blk b33 (.cells #[.map (mb A293)] 56 (0, 0)), MapC enc_latch_Name (Value.int .i64) A293 x292, MapC enc_latch_Name (Value.int .i64) A297 x296, Blk b23 (.cells #[.map (mb A297)] 56 (0, 0)), Blk b1 (.cells #[.bool a1.Drop, .int .u8 a1.N.Kind, .int .u64 a1.N.ID, .int .i64 a1.Task] 30 (0, 0))] := S.pick [2, 1, 0, 3, 4] (by decide)
  refine W_callF2 fn13 (latch_Latches_Owner_PO.con k M A293 c294 (⟨x292⟩ : latch_Latches) a1.N b33 t365  ht366) (Γ1 := [Blk b33 (.cells #[.map (mb A293)] 56 (0, 0)), MapC enc_latch_Name (Value.int .i64) A293 x292]) (Γ2 := [MapC enc_latch_Name (Value.int .i64) A297 x296, Blk b23 (.cells #[.map (mb A297)] 56 (0, 0)), Blk b1 (.cells #[.bool a1.Drop, .int .u8 a1.N.Kind, .int .u64 a1.N.ID, .int .i64 a1.Task] 30 (0, 0))]) S rfl rfl (by rintro _ _ _ ⟨rfl, rfl⟩; exact (flat_cons flat_blk (flat_cons flat_map flat_nil))) ?_
  rintro _ w367 _ Γ' E' S ⟨rfl, rfl⟩
  replace E := E.trans E'
  clear E'
  replace S : St w367 M F [Blk b33 (.cells #[.map (mb A293)] 56 (0, 0)), MapC enc_latch_Name (Value.int .i64) A293 x292, MapC enc_latch_Name (Value.int .i64) A297 x296, Blk b23 (.cells #[.map (mb A297)] 56 (0, 0)), Blk b1 (.cells #[.bool a1.Drop, .int .u8 a1.N.Kind, .int .u64 a1.N.ID, .int .i64 a1.Task] 30 (0, 0))] := S
  refine W_v (.tuple #[.int .i64 t365.1, .bool t365.2]) (x_move rfl) rfl ?_
  refine W_v (.int .i64 t365.1) (x_extract rfl rfl) rfl ?_
  refine W_v (.bool t365.2) (x_extract rfl rfl) rfl ?_
  refine W_v (.int .i64 t365.1) (x_assign rfl) rfl ?_
  refine W_v (.bool t365.2) (x_assign rfl) rfl ?_
  refine Wl_nil ?_
  refine tn ?_
  refine Wp_seq ?_
  refine Wp_region_lit ?_
  refine W_v (.bool x75) (x_move rfl) rfl ?_
  refine W_v (.bool (!x75)) (x_not rfl) rfl ?_
  refine W_v (.bool (!x75)) (x_move rfl) rfl ?_
  obtain ⟨o392, o392h, o392H⟩ := bindS H
  clear H
  refine Wl_cutN 6 (fun ρ w' => ∃ (x391 : Bool), (x391) = o392 ∧ Agree ρ [(3, .pointer (some ⟨b1, 0, none⟩)), (7, .bool x75), (14, .bool t365.2), (104, .bool x391)] ∧ Ext w w' ∧ St w' M F [Blk b1 (.cells #[.bool a1.Drop, .int .u8 a1.N.Kind, .int .u64 a1.N.ID, .int .i64 a1.Task] 30 (0, 0))]) ?_ ?_
  · have H := o392h
    rcases iteS H with ⟨hb390, H⟩ | ⟨hb390, H⟩
    · skip
      refine W_yes (congrArg some hb390) ?_
      refine W_v (.pointer (some ⟨b23, 0, none⟩)) (x_move rfl) rfl ?_
      refine W_yes (congrArg some hb390) ?_
      obtain ⟨t393, ht394, H⟩ := bindS H
      replace S : St w367 M F [Blk b23 (.cells #[.map (mb A297)] 56 (0, 0)), MapC enc_latch_Name (Value.int .i64) A297 x296, Blk b33 (.cells #[.map (mb A293)] 56 (0, 0)), MapC enc_latch_Name (Value.int .i64) A293 x292, Blk b1 (.cells #[.bool a1.Drop, .int .u8 a1.N.Kind, .int .u64 a1.N.ID, .int .i64 a1.Task] 30 (0, 0))] := S.pick [3, 2, 0, 1, 4] (by decide)
      refine W_callF2 fn15 (latch_Latches_All_PO.con k M A297 c298 (⟨x296⟩ : latch_Latches) b23 t393  ht394) (Γ1 := [Blk b23 (.cells #[.map (mb A297)] 56 (0, 0)), MapC enc_latch_Name (Value.int .i64) A297 x296]) (Γ2 := [Blk b33 (.cells #[.map (mb A293)] 56 (0, 0)), MapC enc_latch_Name (Value.int .i64) A293 x292, Blk b1 (.cells #[.bool a1.Drop, .int .u8 a1.N.Kind, .int .u64 a1.N.ID, .int .i64 a1.Task] 30 (0, 0))]) S rfl rfl (by rintro _ _ _ ⟨rfl, rfl⟩; exact (flat_cons flat_blk (flat_cons flat_map flat_nil))) ?_
      rintro _ w395 _ Γ' E' S ⟨rfl, rfl⟩
      replace E := E.trans E'
      clear E'
      replace S : St w395 M F [Blk b23 (.cells #[.map (mb A297)] 56 (0, 0)), MapC enc_latch_Name (Value.int .i64) A297 x296, Blk b33 (.cells #[.map (mb A293)] 56 (0, 0)), MapC enc_latch_Name (Value.int .i64) A293 x292, Blk b1 (.cells #[.bool a1.Drop, .int .u8 a1.N.Kind, .int .u64 a1.N.ID, .int .i64 a1.Task] 30 (0, 0))] := S
      refine W_yes (congrArg some hb390) ?_
      refine W_v (.pointer (some ⟨b33, 0, none⟩)) (x_move rfl) rfl ?_
      refine W_yes (congrArg some hb390) ?_
      obtain ⟨t398, ht399, H⟩ := bindS H
      replace S : St w395 M F [Blk b33 (.cells #[.map (mb A293)] 56 (0, 0)), MapC enc_latch_Name (Value.int .i64) A293 x292, Blk b23 (.cells #[.map (mb A297)] 56 (0, 0)), MapC enc_latch_Name (Value.int .i64) A297 x296, Blk b1 (.cells #[.bool a1.Drop, .int .u8 a1.N.Kind, .int .u64 a1.N.ID, .int .i64 a1.Task] 30 (0, 0))] := S.pick [2, 3, 0, 1, 4] (by decide)
      refine W_callF2 fn15 (latch_Latches_All_PO.con k M A293 c294 (⟨x292⟩ : latch_Latches) b33 t398  ht399) (Γ1 := [Blk b33 (.cells #[.map (mb A293)] 56 (0, 0)), MapC enc_latch_Name (Value.int .i64) A293 x292]) (Γ2 := [Blk b23 (.cells #[.map (mb A297)] 56 (0, 0)), MapC enc_latch_Name (Value.int .i64) A297 x296, Blk b1 (.cells #[.bool a1.Drop, .int .u8 a1.N.Kind, .int .u64 a1.N.ID, .int .i64 a1.Task] 30 (0, 0))]) S rfl rfl (by rintro _ _ _ ⟨rfl, rfl⟩; exact (flat_cons flat_blk (flat_cons flat_map flat_nil))) ?_
      rintro _ w400 _ Γ' E' S ⟨rfl, rfl⟩
      replace E := E.trans E'
      clear E'
      replace S : St w400 M F [Blk b33 (.cells #[.map (mb A293)] 56 (0, 0)), MapC enc_latch_Name (Value.int .i64) A293 x292, Blk b23 (.cells #[.map (mb A297)] 56 (0, 0)), MapC enc_latch_Name (Value.int .i64) A297 x296, Blk b1 (.cells #[.bool a1.Drop, .int .u8 a1.N.Kind, .int .u64 a1.N.ID, .int .i64 a1.Task] 30 (0, 0))] := S
      refine W_yes (congrArg some hb390) ?_
      refine W_v (.bool (t393 == t398)) (x_ibin rfl rfl rfl rfl) rfl ?_
      refine W_v (.bool (t393 == t398)) (x_pick (k := true) (congrArg Value.bool hb390) rfl) rfl ?_
      refine Wl_nil ?_
      exact ⟨(t393 == t398), Option.some.inj H, ⟨rfl, rfl, rfl, rfl, trivial⟩, E, S.pick [4] (by decide)⟩
    · skip
      refine W_no (skT hb390) rfl ?_
      refine W_no (skT hb390) rfl ?_
      refine W_no (skT hb390) rfl ?_
      refine W_no (skT hb390) rfl ?_
      refine W_no (skT hb390) rfl ?_
      refine W_v (.bool false) (x_pick (k := false) (congrArg Value.bool hb390) rfl) rfl ?_
      refine Wl_nil ?_
      exact ⟨false, Option.some.inj H, ⟨rfl, rfl, rfl, rfl, trivial⟩, E, S.pick [4] (by decide)⟩
  clear o392h
  rintro ρ w403 ⟨x391, rfl, hρ, E, S⟩
  rw [agree_eta hρ]
  clear hρ
  have H := o392H
  clear o392H
  refine W_v (.bool x391) (x_move rfl) rfl ?_
  refine Wl_cutN 8 (fun ρ w' => Agree ρ [(113, .bool (x391 || (x75 && (!(t365.2 == a1.Drop)))))] ∧ w403 = w') ?_ ?_
  · rcases boolCases x391 with hb406 | hb406
    · skip
      refine W_yes (congrArg some hb406) ?_
      refine W_v (.bool x75) (x_move rfl) rfl ?_
      refine W_yes (congrArg some hb406) ?_
      refine W_v (.bool x75) (x_move rfl) rfl ?_
      refine Wl_cutN 5 (fun ρ w' => Agree ρ [(105, .bool x391), (112, .bool (x75 && (!(t365.2 == a1.Drop))))] ∧ w403 = w') ?_ ?_
      · rcases boolCases x75 with hb407 | hb407
        · skip
          refine W_no (skT hb407) rfl ?_
          refine W_no (skT hb407) rfl ?_
          refine W_no (skT hb407) rfl ?_
          refine W_no (skT hb407) rfl ?_
          refine W_yes (congrArg some hb406) ?_
          refine W_v (.bool false) (x_pick (k := false) (congrArg Value.bool hb407) rfl) rfl ?_
          refine Wl_nil ?_
          exact ⟨⟨rfl, (by first | rfl | (rw [hb407]; rfl) | (simp only [hb407]; rfl)), trivial⟩, rfl⟩
        · skip
          refine W_yes (congrArg some hb407) ?_
          refine W_v (.bool t365.2) (x_move rfl) rfl ?_
          refine W_yes (congrArg some hb407) ?_
          refine W_v (.pointer (some ⟨b1, 0, none⟩)) (x_fieldAddr (o := 0) (off := 0) Try.underlying30 rfl ty4 rfl rfl) rfl ?_
          refine W_yes (congrArg some hb407) ?_
          refine W_v (.bool a1.Drop) (x_load (S.blk 0 rfl) ty4 rfl rfl) rfl ?_
          refine W_yes (congrArg some hb407) ?_
          refine W_v (.bool (!(t365.2 == a1.Drop))) (x_bne Try.underlying4 rfl rfl) rfl ?_
          refine W_yes (congrArg some hb406) ?_
          refine W_v (.bool (!(t365.2 == a1.Drop))) (x_pick (k := true) (congrArg Value.bool hb407) rfl) rfl ?_
          refine Wl_nil ?_
          exact ⟨⟨rfl, (by first | rfl | (rw [hb407]; rfl) | (simp only [hb407]; rfl)), trivial⟩, rfl⟩
      rintro ρ _ ⟨hρ, rfl⟩
      rw [agree_eta hρ]
      clear hρ
      refine W_v (.bool (x75 && (!(t365.2 == a1.Drop)))) (x_pick (k := false) (congrArg Value.bool hb406) rfl) rfl ?_
      refine Wl_nil ?_
      exact ⟨⟨(by first | rfl | (rw [hb406]; rfl) | (simp only [hb406]; rfl)), trivial⟩, rfl⟩
    · skip
      refine W_no (skF hb406) rfl ?_
      refine W_no (skF hb406) rfl ?_
      refine W_no (rfl) rfl ?_
      refine W_no (rfl) rfl ?_
      refine W_no (rfl) rfl ?_
      refine W_no (rfl) rfl ?_
      refine W_no (skF hb406) rfl ?_
      refine W_v (.bool true) (x_pick (k := true) (congrArg Value.bool hb406) rfl) rfl ?_
      refine Wl_nil ?_
      exact ⟨⟨(by first | rfl | (rw [hb406]; rfl) | (simp only [hb406]; rfl)), trivial⟩, rfl⟩
  rintro ρ _ ⟨hρ, rfl⟩
  rw [agree_eta hρ]
  clear hρ
  refine W_v (.bool (x391 || (x75 && (!(t365.2 == a1.Drop))))) (x_assign rfl) rfl ?_
  refine Wl_nil ?_
  refine tn ?_
  refine Wp_ret ?_
  obtain rfl := Option.some.inj H
  exact ⟨_, _, _, fun w1 e1 => run_resR (vs := [.bool (x391 || (x75 && (!(t365.2 == a1.Drop))))]) (FA.cons (rfl) (FA.nil)), HM, E, S.pick [] (by decide), ⟨rfl, rfl⟩⟩
end Go.Proofs.Ytgnbccjpgoeplaa
