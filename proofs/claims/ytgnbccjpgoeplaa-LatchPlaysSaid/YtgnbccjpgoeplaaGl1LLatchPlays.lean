import Derived.Test.YtgnbccjpgoeplaaGl1
namespace Go.Proofs.Ytgnbccjpgoeplaa
open Go
set_option linter.unusedVariables false
set_option linter.unusedSimpArgs false
/-! ### ferryman/ferrymanlaw05.LatchPlays: function 7 -/
def ferrymanlaw05_LatchPlays_l7 (x7593 : List (latch_Name × Int)) : Nat → List latch_Name → Int → Option (((List (latch_Name × Int))))
  | 0, _, _ => none
  | k + 1, x7689, x7693 => (if (decide (x7693 < (x7689.length : Int))) = true then (if 0 ≤ x7693 ∧ x7693 < (x7689.length : Int) then (Option.bind (α := List latch_Name) (some (List.set x7689 x7693.toNat (⟨(rd x7689 x7693).Kind, (77 : Int)⟩ : latch_Name))) (fun x7727 => ferrymanlaw05_LatchPlays_l7 x7593 k x7727 (IntKind.i64.wrap (x7693 + (1 : Int))))) else none) else some (x7593))
set_option maxHeartbeats 2000000 in
theorem ferrymanlaw05_LatchPlays_l7.mono {x7593 : List (latch_Name × Int)} : ∀ {k : Nat} {x0 x1}, OLe (ferrymanlaw05_LatchPlays_l7 x7593 k x0 x1) (ferrymanlaw05_LatchPlays_l7 x7593 (k + 1) x0 x1) := by
  intro k
  induction k with
  | zero => intros; exact OLe.none
  | succ k ih =>
    intros
    rw [ferrymanlaw05_LatchPlays_l7.eq_2, ferrymanlaw05_LatchPlays_l7.eq_2]
    repeat' (first | with_reducible exact OLe.none | with_reducible exact OLe.some | with_reducible refine OLe.ite ?_ ?_ | with_reducible refine OLe.bind ?_ (fun _ => ?_) | exact ih | refine OLe.bind ?_ (fun _ => ?_) | refine OLe.ite ?_ ?_ | refine OLe.elim (fun _ => ?_) (fun _ => ?_) | split)
def ferrymanlaw05_LatchPlays_l8 (x8652 : List (latch_Name × Int)) : Nat → List latch_Name → Int → Option (((List (latch_Name × Int))))
  | 0, _, _ => none
  | k + 1, x8744, x8748 => (if (decide (x8748 < (x8744.length : Int))) = true then (if 0 ≤ x8748 ∧ x8748 < (x8744.length : Int) then (Option.bind (α := List latch_Name) (some (List.set x8744 x8748.toNat (⟨(rd x8744 x8748).Kind, (77 : Int)⟩ : latch_Name))) (fun x8782 => ferrymanlaw05_LatchPlays_l8 x8652 k x8782 (IntKind.i64.wrap (x8748 + (1 : Int))))) else none) else some (x8652))
set_option maxHeartbeats 2000000 in
theorem ferrymanlaw05_LatchPlays_l8.mono {x8652 : List (latch_Name × Int)} : ∀ {k : Nat} {x0 x1}, OLe (ferrymanlaw05_LatchPlays_l8 x8652 k x0 x1) (ferrymanlaw05_LatchPlays_l8 x8652 (k + 1) x0 x1) := by
  intro k
  induction k with
  | zero => intros; exact OLe.none
  | succ k ih =>
    intros
    rw [ferrymanlaw05_LatchPlays_l8.eq_2, ferrymanlaw05_LatchPlays_l8.eq_2]
    repeat' (first | with_reducible exact OLe.none | with_reducible exact OLe.some | with_reducible refine OLe.ite ?_ ?_ | with_reducible refine OLe.bind ?_ (fun _ => ?_) | exact ih | refine OLe.bind ?_ (fun _ => ?_) | refine OLe.ite ?_ ?_ | refine OLe.elim (fun _ => ?_) (fun _ => ?_) | split)
def ferrymanlaw05_LatchPlays_l4 (a0 : (List ferrymanlaw05_Step)) : Nat → Int → List ferrymanref05_Hold → List (latch_Name × Int) → Option ((Bool) ⊕ (Unit))
  | 0, _, _, _ => none
  | k + 1, x4412, x4413, x4417 => (if (decide (x4412 < (a0.length : Int))) = true then (if ((Int.tmod x4412 (7 : Int)) == (3 : Int)) = true then (Option.bind (latch_Latches_Copy_PO k (⟨x4417⟩ : latch_Latches)) (fun t6628 => (Option.bind (ferrymanref05_Latches_Copy_PO k (⟨x4413⟩ : ferrymanref05_Latches)) (fun t6638 => (if 0 ≤ x4412 ∧ x4412 < (a0.length : Int) then (if 0 ≤ x4412 ∧ x4412 < (a0.length : Int) then (Option.bind (α := Bool × Bool × List ferrymanref05_Hold × (List (latch_Name × Int)) × (List (latch_Name × Int))) (if (rd a0 x4412).Drop = true then (if 0 ≤ x4412 ∧ x4412 < (a0.length : Int) then (if 0 ≤ x4412 ∧ x4412 < (a0.length : Int) then (if 0 ≤ x4412 ∧ x4412 < (a0.length : Int) then (Option.bind (latch_Latches_Drop_PO k (⟨x4417⟩ : latch_Latches) ((rd a0 x4412).N) ((rd a0 x4412).Task)) (fun t7144 => (Option.bind (ferrymanref05_Latches_Drop_PO k (⟨x4413⟩ : ferrymanref05_Latches) (⟨((rd a0 x4412).N.Kind), ((rd a0 x4412).N.ID)⟩ : ferrymanref05_Name) ((rd a0 x4412).Task)) (fun t7152 => some (t7144.1, t7152.1, t7152.2.L, t7144.2.by_, t6628.by_))))) else none) else none) else none) else (if 0 ≤ x4412 ∧ x4412 < (a0.length : Int) then (if 0 ≤ x4412 ∧ x4412 < (a0.length : Int) then (if 0 ≤ x4412 ∧ x4412 < (a0.length : Int) then (Option.bind (latch_Latches_Try_PO k (⟨x4417⟩ : latch_Latches) ((rd a0 x4412).N) ((rd a0 x4412).Task)) (fun t7238 => (Option.bind (ferrymanref05_Latches_Try_PO k (⟨x4413⟩ : ferrymanref05_Latches) (⟨((rd a0 x4412).N.Kind), ((rd a0 x4412).N.ID)⟩ : ferrymanref05_Name) ((rd a0 x4412).Task)) (fun t7246 => some (t7238.1, t7246.1, t7246.2.L, t7238.2.by_, t6628.by_))))) else none) else none) else none)) (fun ⟨x7050, x7051, x7052, x7056, x7060⟩ => (if 0 ≤ x4412 ∧ x4412 < (a0.length : Int) then (Option.bind (latch_Latches_Owner_PO k (⟨x7056⟩ : latch_Latches) ((rd a0 x4412).N)) (fun t7265 => (Option.bind (ferrymanref05_Latches_Owner_PO k (⟨x7052⟩ : ferrymanref05_Latches) (⟨((rd a0 x4412).N.Kind), ((rd a0 x4412).N.ID)⟩ : ferrymanref05_Name)) (fun t7270 => (Option.bind (α := Bool × (List (latch_Name × Int)) × (List (latch_Name × Int))) (if (((!(x7050 == x7051)) || (t7265.1 != t7270.1)) || (!(t7265.2 == t7270.2))) = true then some (true, x7056, x7060) else (Option.bind (latch_Latches_All_PO k (⟨x7056⟩ : latch_Latches)) (fun t7341 => some ((t7341 != (x7052.length : Int)), x7056, x7060)))) (fun ⟨x7331, x7332, x7336⟩ => (Option.bind (α := Bool × (List (latch_Name × Int)) × (List (latch_Name × Int))) (if x7331 = true then some (true, x7332, x7336) else (Option.bind (latch_Latches_All_PO k (⟨x7336⟩ : latch_Latches)) (fun t7363 => some ((t7363 != (t6638.L.length : Int)), x7332, x7336)))) (fun ⟨x7353, x7354, x7358⟩ => (if x7353 = true then some (.inl false) else (if 0 ≤ x4412 ∧ x4412 < (a0.length : Int) then (Option.bind (latch_Latches_Held_PO k (⟨x7354⟩ : latch_Latches) ((rd a0 x4412).Task)) (fun t7380 => (if 0 ≤ x4412 ∧ x4412 < (a0.length : Int) then (Option.bind (ferrymanlaw05_names k t7380) (fun t7529 => (Option.bind (ferrymanref05_Latches_Held_PO k (⟨x7052⟩ : ferrymanref05_Latches) ((rd a0 x4412).Task)) (fun t7535 => (Option.bind (ferrymanref05_Names k t7529 t7535) (fun t7543 => (Option.bind (α := Bool × (List (latch_Name × Int)) × (List (latch_Name × Int))) (if (!t7543) = true then some (true, x7354, x7358) else (if 0 ≤ (0 : Int) ∧ (0 : Int) < (a0.length : Int) then (if 0 ≤ (0 : Int) ∧ (0 : Int) < (a0.length : Int) then (Option.bind (latch_Latches_Held_PO k (⟨x7358⟩ : latch_Latches) ((rd a0 (0 : Int)).Task)) (fun t7622 => (Option.bind (ferrymanlaw05_names k t7622) (fun t7630 => (Option.bind (ferrymanref05_Latches_Held_PO k t6638 ((rd a0 (0 : Int)).Task)) (fun t7636 => (Option.bind (ferrymanref05_Names k t7630 t7636) (fun t7644 => some ((!t7644), x7354, x7358))))))))) else none) else none)) (fun ⟨x7592, x7593, x7597⟩ => (if x7592 = true then some (.inl false) else (Option.bind (ferrymanlaw05_LatchPlays_l7 x7593 k t7380 (0 : Int)) (fun x7709 => ferrymanlaw05_LatchPlays_l4 a0 k (IntKind.i64.wrap (x4412 + (1 : Int))) x7052 x7709))))))))))) else none))) else none)))))))))) else none))) else none) else none))))) else (if 0 ≤ x4412 ∧ x4412 < (a0.length : Int) then (if 0 ≤ x4412 ∧ x4412 < (a0.length : Int) then (Option.bind (α := Bool × Bool × List ferrymanref05_Hold × (List (latch_Name × Int))) (if (rd a0 x4412).Drop = true then (if 0 ≤ x4412 ∧ x4412 < (a0.length : Int) then (if 0 ≤ x4412 ∧ x4412 < (a0.length : Int) then (if 0 ≤ x4412 ∧ x4412 < (a0.length : Int) then (Option.bind (latch_Latches_Drop_PO k (⟨x4417⟩ : latch_Latches) ((rd a0 x4412).N) ((rd a0 x4412).Task)) (fun t8223 => (Option.bind (ferrymanref05_Latches_Drop_PO k (⟨x4413⟩ : ferrymanref05_Latches) (⟨((rd a0 x4412).N.Kind), ((rd a0 x4412).N.ID)⟩ : ferrymanref05_Name) ((rd a0 x4412).Task)) (fun t8231 => some (t8223.1, t8231.1, t8231.2.L, t8223.2.by_))))) else none) else none) else none) else (if 0 ≤ x4412 ∧ x4412 < (a0.length : Int) then (if 0 ≤ x4412 ∧ x4412 < (a0.length : Int) then (if 0 ≤ x4412 ∧ x4412 < (a0.length : Int) then (Option.bind (latch_Latches_Try_PO k (⟨x4417⟩ : latch_Latches) ((rd a0 x4412).N) ((rd a0 x4412).Task)) (fun t8317 => (Option.bind (ferrymanref05_Latches_Try_PO k (⟨x4413⟩ : ferrymanref05_Latches) (⟨((rd a0 x4412).N.Kind), ((rd a0 x4412).N.ID)⟩ : ferrymanref05_Name) ((rd a0 x4412).Task)) (fun t8325 => some (t8317.1, t8325.1, t8325.2.L, t8317.2.by_))))) else none) else none) else none)) (fun ⟨x8133, x8134, x8135, x8139⟩ => (if 0 ≤ x4412 ∧ x4412 < (a0.length : Int) then (Option.bind (latch_Latches_Owner_PO k (⟨x8139⟩ : latch_Latches) ((rd a0 x4412).N)) (fun t8344 => (Option.bind (ferrymanref05_Latches_Owner_PO k (⟨x8135⟩ : ferrymanref05_Latches) (⟨((rd a0 x4412).N.Kind), ((rd a0 x4412).N.ID)⟩ : ferrymanref05_Name)) (fun t8349 => (Option.bind (α := Bool × (List (latch_Name × Int))) (if (((!(x8133 == x8134)) || (t8344.1 != t8349.1)) || (!(t8344.2 == t8349.2))) = true then some (true, x8139) else (Option.bind (latch_Latches_All_PO k (⟨x8139⟩ : latch_Latches)) (fun t8408 => some ((t8408 != (x8135.length : Int)), x8139)))) (fun ⟨x8402, x8403⟩ => (Option.bind (α := Bool × (List (latch_Name × Int))) (if x8402 = true then some (true, x8403) else (Option.bind (latch_Latches_All_PO k (⟨x8403⟩ : latch_Latches)) (fun t8426 => some ((t8426 != (x8135.length : Int)), x8403)))) (fun ⟨x8420, x8421⟩ => (if x8420 = true then some (.inl false) else (if 0 ≤ x4412 ∧ x4412 < (a0.length : Int) then (Option.bind (latch_Latches_Held_PO k (⟨x8421⟩ : latch_Latches) ((rd a0 x4412).Task)) (fun t8443 => (if 0 ≤ x4412 ∧ x4412 < (a0.length : Int) then (Option.bind (ferrymanlaw05_names k t8443) (fun t8588 => (Option.bind (ferrymanref05_Latches_Held_PO k (⟨x8135⟩ : ferrymanref05_Latches) ((rd a0 x4412).Task)) (fun t8594 => (Option.bind (ferrymanref05_Names k t8588 t8594) (fun t8602 => (Option.bind (α := Bool × (List (latch_Name × Int))) (if (!t8602) = true then some (true, x8421) else (if 0 ≤ (0 : Int) ∧ (0 : Int) < (a0.length : Int) then (if 0 ≤ (0 : Int) ∧ (0 : Int) < (a0.length : Int) then (Option.bind (latch_Latches_Held_PO k (⟨x8421⟩ : latch_Latches) ((rd a0 (0 : Int)).Task)) (fun t8677 => (Option.bind (ferrymanlaw05_names k t8677) (fun t8685 => (Option.bind (ferrymanref05_Latches_Held_PO k (⟨x8135⟩ : ferrymanref05_Latches) ((rd a0 (0 : Int)).Task)) (fun t8691 => (Option.bind (ferrymanref05_Names k t8685 t8691) (fun t8699 => some ((!t8699), x8421))))))))) else none) else none)) (fun ⟨x8651, x8652⟩ => (if x8651 = true then some (.inl false) else (Option.bind (ferrymanlaw05_LatchPlays_l8 x8652 k t8443 (0 : Int)) (fun x8764 => ferrymanlaw05_LatchPlays_l4 a0 k (IntKind.i64.wrap (x4412 + (1 : Int))) x8135 x8764))))))))))) else none))) else none)))))))))) else none))) else none) else none)) else some (.inr ()))
set_option maxHeartbeats 2000000 in
theorem ferrymanlaw05_LatchPlays_l4.mono {a0 : (List ferrymanlaw05_Step)} : ∀ {k : Nat} {x0 x1 x2}, OLe (ferrymanlaw05_LatchPlays_l4 a0 k x0 x1 x2) (ferrymanlaw05_LatchPlays_l4 a0 (k + 1) x0 x1 x2) := by
  intro k
  induction k with
  | zero => intros; exact OLe.none
  | succ k ih =>
    intros
    rw [ferrymanlaw05_LatchPlays_l4.eq_2, ferrymanlaw05_LatchPlays_l4.eq_2]
    repeat' (first | with_reducible exact OLe.none | with_reducible exact OLe.some | with_reducible refine OLe.ite ?_ ?_ | with_reducible refine OLe.bind ?_ (fun _ => ?_) | with_reducible exact ferrymanlaw05_LatchPlays_l7.mono | with_reducible exact ferrymanlaw05_LatchPlays_l8.mono | with_reducible exact ferrymanlaw05_names.mono | with_reducible exact ferrymanref05_Latches_Copy_PO.mono | with_reducible exact ferrymanref05_Latches_Drop_PO.mono | with_reducible exact ferrymanref05_Latches_Held_PO.mono | with_reducible exact ferrymanref05_Latches_Owner_PO.mono | with_reducible exact ferrymanref05_Latches_Try_PO.mono | with_reducible exact ferrymanref05_Names.mono | with_reducible exact latch_Latches_All_PO.mono | with_reducible exact latch_Latches_Copy_PO.mono | with_reducible exact latch_Latches_Drop_PO.mono | with_reducible exact latch_Latches_Held_PO.mono | with_reducible exact latch_Latches_Owner_PO.mono | with_reducible exact latch_Latches_Try_PO.mono | exact ih | refine OLe.bind ?_ (fun _ => ?_) | refine OLe.ite ?_ ?_ | refine OLe.elim (fun _ => ?_) (fun _ => ?_) | split)
def ferrymanlaw05_LatchPlays (k : Nat) (a0 : (List ferrymanlaw05_Step)) : Option (Bool) :=
  (if (decide ((a0.length : Int) > (300 : Int))) = true then (Option.bind (ferrymanlaw05_awake k ) (fun t2 => some t2)) else (Option.bind (latch_New k ) (fun t5 => (Option.bind (ferrymanlaw05_LatchPlays_l4 a0 k (0 : Int) ([] : List ferrymanref05_Hold) t5.by_) (fun o6602o => Sum.elim (fun r' => some r') (fun _ => (Option.bind (ferrymanlaw05_awake k ) (fun t8787 => some t8787))) o6602o)))))
set_option maxHeartbeats 2000000 in
theorem ferrymanlaw05_LatchPlays.mono {k : Nat} {a0 : (List ferrymanlaw05_Step)} : OLe (ferrymanlaw05_LatchPlays k a0) (ferrymanlaw05_LatchPlays (k + 1) a0) := by
  unfold ferrymanlaw05_LatchPlays
  repeat' (first | with_reducible exact OLe.none | with_reducible exact OLe.some | with_reducible refine OLe.ite ?_ ?_ | with_reducible refine OLe.bind ?_ (fun _ => ?_) | with_reducible exact ferrymanlaw05_LatchPlays_l4.mono | with_reducible exact ferrymanlaw05_awake.mono | with_reducible exact latch_New.mono | refine OLe.bind ?_ (fun _ => ?_) | refine OLe.ite ?_ ?_ | refine OLe.elim (fun _ => ?_) (fun _ => ?_) | split)
set_option maxHeartbeats 8000000 in
set_option maxRecDepth 100000 in
theorem ferrymanlaw05_LatchPlays.con (k : Nat) (M : Hp) (A0 : Option Addr) (c0 : Nat) (a0 : (List ferrymanlaw05_Step)) (r : Bool) (hr0 : SlR r_ferrymanlaw05_Step M (.slice A0 a0.length c0) a0) (h : ferrymanlaw05_LatchPlays k a0 = some r) : Con Try.prog 7 #[.slice A0 a0.length c0] M [] (fun v M' Γ' => v = .bool r ∧ Γ' = []) := by
  refine con_of_wp Try.func7 rfl Try.ntmps7 Try.results7 rfl ?_
  intro w F rn S hrn
  have E := Ext.refl w
  have HM := Hp.le_refl M
  have H := h
  unfold ferrymanlaw05_LatchPlays at H
  refine Wp_seq ?_
  refine Wp_region_lit ?_
  refine W_v (.bool false) (x_assign rfl) rfl ?_
  refine Wl_nil ?_
  refine tn ?_
  refine Wp_seq ?_
  refine Wp_seq ?_
  refine Wp_region_lit ?_
  refine W_v (.slice A0 a0.length c0) (x_move rfl) rfl ?_
  refine W_v (.int .i64 (a0.length : Int)) (x_len_slice (n := a0.length) Try.underlying22 rfl) rfl ?_
  refine W_v (.bool (decide ((a0.length : Int) > (300 : Int)))) (x_ibin rfl rfl rfl rfl) rfl ?_
  refine Wl_nil ?_
  refine tn ?_
  rcases iteS H with ⟨hb1, H⟩ | ⟨hb1, H⟩
  · refine Wp_cond_true (congrArg Value.bool hb1) ?_
    refine Wp_seq ?_
    refine Wp_region_lit ?_
    obtain ⟨t2, ht3, H⟩ := bindS H
    refine W_callF fn9 (ferrymanlaw05_awake.con k M  t2  ht3) S rfl rfl (by rintro _ _ _ ⟨_, rfl⟩; exact flat_nil) ?_
    rintro _ w4 _ Γ' E' S ⟨rfl, rfl⟩
    replace E := E.trans E'
    clear E'
    refine W_v (.bool t2) (x_assign rfl) rfl ?_
    refine Wl_nil ?_
    refine tn ?_
    refine Wp_ret ?_
    refine tr (?_)
    obtain rfl := Option.some.inj H
    exact ⟨_, _, _, fun w1 e1 => run_resR (vs := [.bool t2]) (FA.cons (rfl) (FA.nil)), HM, E, S.pick [] (by decide), ⟨rfl, rfl⟩⟩
  refine Wp_cond_false (congrArg Value.bool hb1) ?_
  refine Wp_skip ?_
  refine tn ?_
  refine Wp_seq ?_
  refine Wp_region_lit ?_
  obtain ⟨t5, ht6, H⟩ := bindS H
  refine W_callF2 fn10 (latch_New.con k M  t5  ht6) (Γ1 := []) (Γ2 := []) S rfl rfl (by rintro _ _ _ ⟨_, _, _, rfl, rfl⟩; exact (flat_cons flat_blk (flat_cons flat_map flat_nil))) ?_
  rintro _ w12 _ Γ' E' S ⟨b7, A9, c10, rfl, rfl⟩
  replace E := E.trans E'
  clear E'
  replace S : St w12 M F [Blk b7 (.cells #[.map (mb A9)] 56 (0, 0)), MapC enc_latch_Name (Value.int .i64) A9 t5.by_] := S
  refine W_v (.agg #[.slice none 0 0]) (x_build2 (pl := [(0, 1)]) #[.slice none 0 0] Try.underlying48 ty48 (by kernel_rfl) rfl (by kernel_rfl)) rfl ?_
  refine W_box S #[.slice none 0 0] rfl rfl rfl ?_
  intro b15 w16 E' S
  replace E := E.trans E'
  clear E'
  refine W_v (.pointer (some ⟨b7, 0, none⟩)) (x_assign rfl) rfl ?_
  refine W_v (.pointer (some ⟨b15, 0, none⟩)) (x_assign rfl) rfl ?_
  refine Wl_nil ?_
  refine tn ?_
  refine Wp_seq ?_
  refine Wp_seq ?_
  refine Wp_region_lit ?_
  refine W_v (.int .i64 0) (x_assign rfl) rfl ?_
  refine Wl_nil ?_
  refine tn ?_
  obtain ⟨o6602, o6602h, o6602H⟩ := bindS H
  clear H
  refine Wp_blockJ (fun ρ w' => .inr () = o6602 ∧ Agree ρ [] ∧ Ext w w' ∧ St w' M F []) ?_ ?_
  · skip
    refine Wp_loop (fun n ρ w' => ∃ (x4412 : Int) (x4413 : List ferrymanref05_Hold) (x4417 : List (latch_Name × Int)) (A4414 : Option Addr) (c4415 : Nat) (A4418 : Option Addr) (c4419 : Nat), ferrymanlaw05_LatchPlays_l4 a0 n x4412 x4413 x4417 = some o6602 ∧ Agree ρ [(0, .slice A0 a0.length c0), (3, .pointer (some ⟨b7, 0, none⟩)), (4, .pointer (some ⟨b15, 0, none⟩)), (5, .int .i64 x4412)] ∧ Ext w w' ∧ St w' M F [MapC enc_latch_Name (Value.int .i64) A4418 x4417, Row r_ferrymanref05_Hold 64 (.slice A4414 x4413.length c4415) x4413, Blk b15 (.cells #[.slice A4414 x4413.length c4415] 48 (0, 0)), Blk b7 (.cells #[.map (mb A4418)] 56 (0, 0))]) k ?_ ?_
    · skip
      replace S := S.row_nil r_ferrymanref05_Hold 64
      exact ⟨(0 : Int), ([] : List ferrymanref05_Hold), t5.by_, none, 0, A9, c10, o6602h, ⟨rfl, rfl, rfl, rfl, trivial⟩, E, S.pick [3, 0, 1, 2] (by decide)⟩
    · intro n
      rintro ρ w6604 ⟨x4412, x4413, x4417, A4414, c4415, A4418, c4419, H, hρ, E, S⟩
      rw [agree_eta hρ]
      clear hρ
      cases n with
      | zero => cases H
      | succ k =>
        rw [ferrymanlaw05_LatchPlays_l4.eq_2] at H
        refine Wp_seq ?_
        refine Wp_seq ?_
        refine Wp_region_lit ?_
        refine W_v (.int .i64 x4412) (x_move rfl) rfl ?_
        refine W_v (.slice A0 a0.length c0) (x_move rfl) rfl ?_
        refine W_v (.int .i64 (a0.length : Int)) (x_len_slice (n := a0.length) Try.underlying22 rfl) rfl ?_
        refine W_v (.bool (decide (x4412 < (a0.length : Int)))) (x_ibin rfl rfl rfl rfl) rfl ?_
        refine Wl_nil ?_
        refine tn ?_
        rcases iteS H with ⟨hb6605, H⟩ | ⟨hb6605, H⟩
        · refine Wp_cond_true (congrArg Value.bool hb6605) ?_
          refine Wp_skip ?_
          refine tn ?_
          refine Wp_seq ?_
          refine Wp_block ?_
          refine Wp_seq ?_
          refine Wp_region_lit ?_
          refine W_v (.pointer (some ⟨b7, 0, none⟩)) (x_move rfl) rfl ?_
          refine W_v (.pointer (some ⟨b15, 0, none⟩)) (x_move rfl) rfl ?_
          refine W_v (.pointer (some ⟨b7, 0, none⟩)) (x_assign rfl) rfl ?_
          refine W_v (.pointer (some ⟨b15, 0, none⟩)) (x_assign rfl) rfl ?_
          refine Wl_nil ?_
          refine tn ?_
          refine Wp_seq ?_
          refine Wp_seq ?_
          refine Wp_region_lit ?_
          refine W_v (.int .i64 x4412) (x_move rfl) rfl ?_
          refine W_v (.int .i64 (Int.tmod x4412 (7 : Int))) (x_rem rfl rfl (by decide)) rfl ?_
          refine W_v (.bool ((Int.tmod x4412 (7 : Int)) == (3 : Int))) (x_ibin rfl rfl rfl rfl) rfl ?_
          refine Wl_nil ?_
          refine tn ?_
          rcases iteS H with ⟨hb6627, H⟩ | ⟨hb6627, H⟩
          · refine Wp_cond_true (congrArg Value.bool hb6627) ?_
            refine Wp_region_lit ?_
            refine W_v (.pointer (some ⟨b7, 0, none⟩)) (x_move rfl) rfl ?_
            obtain ⟨t6628, ht6629, H⟩ := bindS H
            replace S : St w6604 M F [Blk b7 (.cells #[.map (mb A4418)] 56 (0, 0)), MapC enc_latch_Name (Value.int .i64) A4418 x4417, Row r_ferrymanref05_Hold 64 (.slice A4414 x4413.length c4415) x4413, Blk b15 (.cells #[.slice A4414 x4413.length c4415] 48 (0, 0))] := S.pick [3, 0, 1, 2] (by decide)
            refine W_callF2 fn17 (latch_Latches_Copy_PO.con k M A4418 c4419 (⟨x4417⟩ : latch_Latches) b7 t6628  ht6629) (Γ1 := [Blk b7 (.cells #[.map (mb A4418)] 56 (0, 0)), MapC enc_latch_Name (Value.int .i64) A4418 x4417]) (Γ2 := [Row r_ferrymanref05_Hold 64 (.slice A4414 x4413.length c4415) x4413, Blk b15 (.cells #[.slice A4414 x4413.length c4415] 48 (0, 0))]) S rfl rfl (by rintro _ _ _ ⟨_, _, _, rfl, rfl⟩; exact (flat_cons flat_blk (flat_cons flat_map (flat_cons flat_blk (flat_cons flat_map flat_nil))))) ?_
            rintro _ w6635 _ Γ' E' S ⟨b6630, A6632, c6633, rfl, rfl⟩
            replace E := E.trans E'
            clear E'
            replace S : St w6635 M F [Blk b6630 (.cells #[.map (mb A6632)] 56 (0, 0)), MapC enc_latch_Name (Value.int .i64) A6632 t6628.by_, Blk b7 (.cells #[.map (mb A4418)] 56 (0, 0)), MapC enc_latch_Name (Value.int .i64) A4418 x4417, Row r_ferrymanref05_Hold 64 (.slice A4414 x4413.length c4415) x4413, Blk b15 (.cells #[.slice A4414 x4413.length c4415] 48 (0, 0))] := S
            refine W_v (.pointer (some ⟨b15, 0, none⟩)) (x_move rfl) rfl ?_
            obtain ⟨t6638, ht6639, H⟩ := bindS H
            replace S : St w6635 M F [Blk b15 (.cells #[.slice A4414 x4413.length c4415] 48 (0, 0)), Row r_ferrymanref05_Hold 64 (.slice A4414 x4413.length c4415) x4413, Blk b6630 (.cells #[.map (mb A6632)] 56 (0, 0)), MapC enc_latch_Name (Value.int .i64) A6632 t6628.by_, Blk b7 (.cells #[.map (mb A4418)] 56 (0, 0)), MapC enc_latch_Name (Value.int .i64) A4418 x4417] := S.pick [5, 4, 0, 1, 2, 3] (by decide)
            refine W_callF2 fn20 (ferrymanref05_Latches_Copy_PO.con k M A4414 c4415 (⟨x4413⟩ : ferrymanref05_Latches) b15 t6638  ht6639) (Γ1 := [Blk b15 (.cells #[.slice A4414 x4413.length c4415] 48 (0, 0)), Row r_ferrymanref05_Hold 64 (.slice A4414 x4413.length c4415) x4413]) (Γ2 := [Blk b6630 (.cells #[.map (mb A6632)] 56 (0, 0)), MapC enc_latch_Name (Value.int .i64) A6632 t6628.by_, Blk b7 (.cells #[.map (mb A4418)] 56 (0, 0)), MapC enc_latch_Name (Value.int .i64) A4418 x4417]) S rfl rfl (by rintro _ _ _ ⟨_, _, _, rfl, rfl⟩; exact (flat_cons flat_blk (flat_cons (flat_row (fun _ _ _ _ h => h)) (flat_cons flat_blk (flat_cons (flat_row (fun _ _ _ _ h => h)) flat_nil))))) ?_
            rintro _ w6645 _ Γ' E' S ⟨b6640, A6642, c6643, rfl, rfl⟩
            replace E := E.trans E'
            clear E'
            replace S : St w6645 M F [Blk b6640 (.cells #[.slice A6642 t6638.L.length c6643] 48 (0, 0)), Row r_ferrymanref05_Hold 64 (.slice A6642 t6638.L.length c6643) t6638.L, Blk b15 (.cells #[.slice A4414 x4413.length c4415] 48 (0, 0)), Row r_ferrymanref05_Hold 64 (.slice A4414 x4413.length c4415) x4413, Blk b6630 (.cells #[.map (mb A6632)] 56 (0, 0)), MapC enc_latch_Name (Value.int .i64) A6632 t6628.by_, Blk b7 (.cells #[.map (mb A4418)] 56 (0, 0)), MapC enc_latch_Name (Value.int .i64) A4418 x4417] := S
            refine W_v (.pointer (some ⟨b6630, 0, none⟩)) (x_assign rfl) rfl ?_
            refine W_v (.pointer (some ⟨b6640, 0, none⟩)) (x_assign rfl) rfl ?_
            refine Wl_nil ?_
            refine tn ?_
            refine Wp_seq ?_
            refine Wp_region_lit ?_
            refine W_v (.slice A0 a0.length c0) (x_move rfl) rfl ?_
            refine W_v (.int .i64 x4412) (x_move rfl) rfl ?_
            obtain ⟨⟨p6648, p6649⟩, H⟩ := chkS H
            obtain ⟨b6650, o6651, cs6652, _, _, ee6657, hb6653, vs6654, hR6655, hc6656⟩ := SlW.at' hr0 p6648 p6649
            obtain rfl : vs6654 = _ := hR6655
            refine W_v (.pointer (some ⟨b6650, o6651 + x4412.toNat * 4, none⟩)) (x_indexAddr Try.underlying22 ty30 (slA ee6657) rfl p6648 p6649) rfl ?_
            refine W_v (.pointer (some ⟨b6650, o6651 + x4412.toNat * 4 + 1, none⟩)) (x_fieldAddr (o := o6651 + x4412.toNat * 4) (off := 1) Try.underlying30 rfl ty25 rfl rfl) rfl ?_
            refine W_v (.agg #[.int .u8 ((rd a0 x4412).N.Kind), .int .u64 ((rd a0 x4412).N.ID)]) (x_loadA (S.frz hb6653) ty25 rfl (sub_el hc6656 1 rfl) rfl rfl) rfl ?_
            refine W_alloc S #[.int .u8 0, .int .u64 0] ty44 rfl rfl ?_
            intro b6658 w6659 E' S
            replace E := E.trans E'
            clear E'
            refine W_store S 0 rfl ty44 rfl rfl [.int .u8 ((rd a0 x4412).N.Kind), .int .u64 ((rd a0 x4412).N.ID)] rfl rfl rfl #[.int .u8 ((rd a0 x4412).N.Kind), .int .u64 ((rd a0 x4412).N.ID)] rfl rfl ?_
            intro w6661 E' S
            replace E := E.trans E'
            clear E'
            refine Wl_nil ?_
            refine tn ?_
            refine Wp_seq ?_
            refine Wp_region_lit ?_
            refine W_v (.bool false) (x_assign rfl) rfl ?_
            refine W_v (.bool false) (x_assign rfl) rfl ?_
            refine Wl_nil ?_
            refine tn ?_
            refine Wp_seq ?_
            refine Wp_seq ?_
            refine Wp_region_lit ?_
            refine W_v (.slice A0 a0.length c0) (x_move rfl) rfl ?_
            refine W_v (.int .i64 x4412) (x_move rfl) rfl ?_
            obtain ⟨⟨p6662, p6663⟩, H⟩ := chkS H
            obtain ⟨b6664, o6665, cs6666, _, _, ee6671, hb6667, vs6668, hR6669, hc6670⟩ := SlW.at' hr0 p6662 p6663
            obtain rfl : vs6668 = _ := hR6669
            refine W_v (.pointer (some ⟨b6664, o6665 + x4412.toNat * 4, none⟩)) (x_indexAddr Try.underlying22 ty30 (slA ee6671) rfl p6662 p6663) rfl ?_
            refine W_v (.pointer (some ⟨b6664, o6665 + x4412.toNat * 4, none⟩)) (x_fieldAddr (o := o6665 + x4412.toNat * 4) (off := 0) Try.underlying30 rfl ty4 rfl rfl) rfl ?_
            refine W_v (.bool ((rd a0 x4412).Drop)) (x_load (S.frz hb6667) ty4 rfl (hc6670 0 _ rfl)) rfl ?_
            refine Wl_nil ?_
            refine tn ?_
            obtain ⟨o7064, o7064h, o7064H⟩ := bindS H
            refine Wp_cut (fun ρ w' => ∃ (x7050 : Bool) (x7051 : Bool) (x7052 : List ferrymanref05_Hold) (x7056 : List (latch_Name × Int)) (x7060 : List (latch_Name × Int)) (A7053 : Option Addr) (c7054 : Nat) (A7057 : Option Addr) (c7058 : Nat) (A7061 : Option Addr) (c7062 : Nat), (x7050, x7051, x7052, x7056, x7060) = o7064 ∧ Agree ρ [(0, .slice A0 a0.length c0), (3, .pointer (some ⟨b7, 0, none⟩)), (4, .pointer (some ⟨b15, 0, none⟩)), (5, .int .i64 x4412), (6, .pointer (some ⟨b6630, 0, none⟩)), (7, .pointer (some ⟨b6640, 0, none⟩)), (8, .pointer (some ⟨b6658, 0, none⟩)), (9, .bool x7050), (10, .bool x7051)] ∧ Ext w w' ∧ St w' M F [MapC enc_latch_Name (Value.int .i64) A7061 x7060, MapC enc_latch_Name (Value.int .i64) A7057 x7056, Row r_ferrymanref05_Hold 64 (.slice A7053 x7052.length c7054) x7052, Blk b15 (.cells #[.slice A7053 x7052.length c7054] 48 (0, 0)), Blk b7 (.cells #[.map (mb A7057)] 56 (0, 0)), Blk b6658 (.cells #[.int .u8 ((rd a0 x4412).N.Kind), .int .u64 ((rd a0 x4412).N.ID)] 44 (0, 0)), Blk b6640 (.cells #[.slice A6642 t6638.L.length c6643] 48 (0, 0)), Row r_ferrymanref05_Hold 64 (.slice A6642 t6638.L.length c6643) t6638.L, Blk b6630 (.cells #[.map (mb A7061)] 56 (0, 0))]) ?_ ?_
            · clear o7064H
              have H := o7064h
              clear o7064h
              rcases iteS H with ⟨hb7065, H⟩ | ⟨hb7065, H⟩
              · refine Wp_cond_true (congrArg Value.bool hb7065) ?_
                refine Wp_region_any (S := fun w' => ∃ Mx, M.le Mx ∧ St w' Mx F [Blk b6658 (.cells #[.int .u8 ((rd a0 x4412).N.Kind), .int .u64 ((rd a0 x4412).N.ID)] 44 (0, 0)), Blk b6640 (.cells #[.slice A6642 t6638.L.length c6643] 48 (0, 0)), Row r_ferrymanref05_Hold 64 (.slice A6642 t6638.L.length c6643) t6638.L, Blk b6630 (.cells #[.map (mb A6632)] 56 (0, 0)), MapC enc_latch_Name (Value.int .i64) A6632 t6628.by_]) (L := 22) mixed ?_
                intro w7112 hw7113 E'
                replace S := S.heap hw7113
                replace E := E.trans E'
                clear E'
                refine Wa_take (i := 0) rfl (by kernel_rfl) rfl rfl (.pointer (some ⟨b7, 0, none⟩)) rfl (fun w' h' => x_move rfl) (⟨M, Hp.le_refl M, S.pick [0, 1, 2, 5, 6] (by decide)⟩) ?_
                refine Wa_take (i := 1) rfl (by kernel_rfl) rfl rfl (.slice A0 a0.length c0) rfl (fun w' h' => x_move rfl) (⟨M, Hp.le_refl M, S.pick [0, 1, 2, 5, 6] (by decide)⟩) ?_
                refine Wa_take (i := 2) rfl (by kernel_rfl) rfl rfl (.int .i64 x4412) rfl (fun w' h' => x_move rfl) (⟨M, Hp.le_refl M, S.pick [0, 1, 2, 5, 6] (by decide)⟩) ?_
                obtain ⟨⟨p7114, p7115⟩, H⟩ := chkS H
                obtain ⟨b7116, o7117, cs7118, _, _, ee7123, hb7119, vs7120, hR7121, hc7122⟩ := SlW.at' hr0 p7114 p7115
                obtain rfl : vs7120 = _ := hR7121
                refine Wa_take (i := 3) rfl (by kernel_rfl) rfl rfl (.pointer (some ⟨b7116, o7117 + x4412.toNat * 4, none⟩)) rfl (fun w' h' => x_indexAddr Try.underlying22 ty30 (slA ee7123) rfl p7114 p7115) (⟨M, Hp.le_refl M, S.pick [0, 1, 2, 5, 6] (by decide)⟩) ?_
                refine Wa_take (i := 4) rfl (by kernel_rfl) rfl rfl (.pointer (some ⟨b7116, o7117 + x4412.toNat * 4 + 1, none⟩)) rfl (fun w' h' => x_fieldAddr (o := o7117 + x4412.toNat * 4) (off := 1) Try.underlying30 rfl ty25 rfl rfl) (⟨M, Hp.le_refl M, S.pick [0, 1, 2, 5, 6] (by decide)⟩) ?_
                refine Wa_take (i := 5) rfl (by kernel_rfl) rfl rfl (.agg #[.int .u8 ((rd a0 x4412).N.Kind), .int .u64 ((rd a0 x4412).N.ID)]) rfl (fun w' h' => x_loadA (cls_frz h' hb7119) ty25 rfl (sub_el hc7122 1 rfl) rfl rfl) (⟨M, Hp.le_refl M, S.pick [0, 1, 2, 5, 6] (by decide)⟩) ?_
                refine Wa_take (i := 6) rfl (by kernel_rfl) rfl rfl (.slice A0 a0.length c0) rfl (fun w' h' => x_move rfl) (⟨M, Hp.le_refl M, S.pick [0, 1, 2, 5, 6] (by decide)⟩) ?_
                refine Wa_take (i := 7) rfl (by kernel_rfl) rfl rfl (.int .i64 x4412) rfl (fun w' h' => x_move rfl) (⟨M, Hp.le_refl M, S.pick [0, 1, 2, 5, 6] (by decide)⟩) ?_
                obtain ⟨⟨p7124, p7125⟩, H⟩ := chkS H
                obtain ⟨b7126, o7127, cs7128, _, _, ee7133, hb7129, vs7130, hR7131, hc7132⟩ := SlW.at' hr0 p7124 p7125
                obtain rfl : vs7130 = _ := hR7131
                refine Wa_take (i := 8) rfl (by kernel_rfl) rfl rfl (.pointer (some ⟨b7126, o7127 + x4412.toNat * 4, none⟩)) rfl (fun w' h' => x_indexAddr Try.underlying22 ty30 (slA ee7133) rfl p7124 p7125) (⟨M, Hp.le_refl M, S.pick [0, 1, 2, 5, 6] (by decide)⟩) ?_
                refine Wa_take (i := 9) rfl (by kernel_rfl) rfl rfl (.pointer (some ⟨b7126, o7127 + x4412.toNat * 4 + 3, none⟩)) rfl (fun w' h' => x_fieldAddr (o := o7127 + x4412.toNat * 4) (off := 3) Try.underlying30 rfl ty3 rfl rfl) (⟨M, Hp.le_refl M, S.pick [0, 1, 2, 5, 6] (by decide)⟩) ?_
                refine Wa_take (i := 10) rfl (by kernel_rfl) rfl rfl (.int .i64 ((rd a0 x4412).Task)) rfl (fun w' h' => x_load (cls_frz h' hb7129) ty3 rfl (hc7132 3 _ rfl)) (⟨M, Hp.le_refl M, S.pick [0, 1, 2, 5, 6] (by decide)⟩) ?_
                refine Wa_take (i := 12) rfl (by kernel_rfl) rfl rfl (.pointer (some ⟨b15, 0, none⟩)) rfl (fun w' h' => x_move rfl) (⟨M, Hp.le_refl M, S.pick [0, 1, 2, 5, 6] (by decide)⟩) ?_
                refine Wa_take (i := 13) rfl (by kernel_rfl) rfl rfl (.agg #[.int .u8 ((rd a0 x4412).N.Kind), .int .u64 ((rd a0 x4412).N.ID)]) rfl (fun w' h' => x_loadA (cls_blk h' 0 rfl) ty44 rfl (sub_of_extract rfl) rfl rfl) (⟨M, Hp.le_refl M, S.pick [0, 1, 2, 5, 6] (by decide)⟩) ?_
                refine Wa_take (i := 14) rfl (by kernel_rfl) rfl rfl (.slice A0 a0.length c0) rfl (fun w' h' => x_move rfl) (⟨M, Hp.le_refl M, S.pick [0, 1, 2, 5, 6] (by decide)⟩) ?_
                refine Wa_take (i := 15) rfl (by kernel_rfl) rfl rfl (.int .i64 x4412) rfl (fun w' h' => x_move rfl) (⟨M, Hp.le_refl M, S.pick [0, 1, 2, 5, 6] (by decide)⟩) ?_
                obtain ⟨⟨p7134, p7135⟩, H⟩ := chkS H
                obtain ⟨b7136, o7137, cs7138, _, _, ee7143, hb7139, vs7140, hR7141, hc7142⟩ := SlW.at' hr0 p7134 p7135
                obtain rfl : vs7140 = _ := hR7141
                refine Wa_take (i := 16) rfl (by kernel_rfl) rfl rfl (.pointer (some ⟨b7136, o7137 + x4412.toNat * 4, none⟩)) rfl (fun w' h' => x_indexAddr Try.underlying22 ty30 (slA ee7143) rfl p7134 p7135) (⟨M, Hp.le_refl M, S.pick [0, 1, 2, 5, 6] (by decide)⟩) ?_
                refine Wa_take (i := 17) rfl (by kernel_rfl) rfl rfl (.pointer (some ⟨b7136, o7137 + x4412.toNat * 4 + 3, none⟩)) rfl (fun w' h' => x_fieldAddr (o := o7137 + x4412.toNat * 4) (off := 3) Try.underlying30 rfl ty3 rfl rfl) (⟨M, Hp.le_refl M, S.pick [0, 1, 2, 5, 6] (by decide)⟩) ?_
                refine Wa_take (i := 18) rfl (by kernel_rfl) rfl rfl (.int .i64 ((rd a0 x4412).Task)) rfl (fun w' h' => x_load (cls_frz h' hb7139) ty3 rfl (hc7142 3 _ rfl)) (⟨M, Hp.le_refl M, S.pick [0, 1, 2, 5, 6] (by decide)⟩) ?_
                refine Wa_solo (i := 11) rfl (by kernel_rfl) ?_
                obtain ⟨t7144, ht7145, H⟩ := bindS H
                replace S : St w7112 M F [Blk b7 (.cells #[.map (mb A4418)] 56 (0, 0)), MapC enc_latch_Name (Value.int .i64) A4418 x4417, Blk b6658 (.cells #[.int .u8 ((rd a0 x4412).N.Kind), .int .u64 ((rd a0 x4412).N.ID)] 44 (0, 0)), Blk b6640 (.cells #[.slice A6642 t6638.L.length c6643] 48 (0, 0)), Row r_ferrymanref05_Hold 64 (.slice A6642 t6638.L.length c6643) t6638.L, Blk b15 (.cells #[.slice A4414 x4413.length c4415] 48 (0, 0)), Row r_ferrymanref05_Hold 64 (.slice A4414 x4413.length c4415) x4413, Blk b6630 (.cells #[.map (mb A6632)] 56 (0, 0)), MapC enc_latch_Name (Value.int .i64) A6632 t6628.by_] := S.pick [7, 8, 0, 1, 2, 3, 4, 5, 6] (by decide)
                refine W_callF2 fn11 (latch_Latches_Drop_PO.con k M A4418 c4419 (⟨x4417⟩ : latch_Latches) ((rd a0 x4412).N) ((rd a0 x4412).Task) b7 t7144  ht7145) (Γ1 := [Blk b7 (.cells #[.map (mb A4418)] 56 (0, 0)), MapC enc_latch_Name (Value.int .i64) A4418 x4417]) (Γ2 := [Blk b6658 (.cells #[.int .u8 ((rd a0 x4412).N.Kind), .int .u64 ((rd a0 x4412).N.ID)] 44 (0, 0)), Blk b6640 (.cells #[.slice A6642 t6638.L.length c6643] 48 (0, 0)), Row r_ferrymanref05_Hold 64 (.slice A6642 t6638.L.length c6643) t6638.L, Blk b15 (.cells #[.slice A4414 x4413.length c4415] 48 (0, 0)), Row r_ferrymanref05_Hold 64 (.slice A4414 x4413.length c4415) x4413, Blk b6630 (.cells #[.map (mb A6632)] 56 (0, 0)), MapC enc_latch_Name (Value.int .i64) A6632 t6628.by_]) S rfl rfl (by rintro _ _ _ ⟨_, _, rfl, rfl⟩; exact (flat_cons flat_blk (flat_cons flat_map flat_nil))) ?_
                rintro _ w7149 _ Γ' E' S ⟨A7146, c7147, rfl, rfl⟩
                replace E := E.trans E'
                clear E'
                replace S : St w7149 M F [Blk b7 (.cells #[.map (mb A7146)] 56 (0, 0)), MapC enc_latch_Name (Value.int .i64) A7146 t7144.2.by_, Blk b6658 (.cells #[.int .u8 ((rd a0 x4412).N.Kind), .int .u64 ((rd a0 x4412).N.ID)] 44 (0, 0)), Blk b6640 (.cells #[.slice A6642 t6638.L.length c6643] 48 (0, 0)), Row r_ferrymanref05_Hold 64 (.slice A6642 t6638.L.length c6643) t6638.L, Blk b15 (.cells #[.slice A4414 x4413.length c4415] 48 (0, 0)), Row r_ferrymanref05_Hold 64 (.slice A4414 x4413.length c4415) x4413, Blk b6630 (.cells #[.map (mb A6632)] 56 (0, 0)), MapC enc_latch_Name (Value.int .i64) A6632 t6628.by_] := S
                refine Wl_nil (on_n ⟨.inr ⟨M, Hp.le_refl M, S.pick [2, 3, 4, 7, 8] (by decide)⟩, ?_⟩)
                refine Wa_solo (i := 19) rfl (by kernel_rfl) ?_
                obtain ⟨t7152, ht7153, H⟩ := bindS H
                replace S : St w7149 M F [Blk b15 (.cells #[.slice A4414 x4413.length c4415] 48 (0, 0)), Row r_ferrymanref05_Hold 64 (.slice A4414 x4413.length c4415) x4413, Blk b7 (.cells #[.map (mb A7146)] 56 (0, 0)), MapC enc_latch_Name (Value.int .i64) A7146 t7144.2.by_, Blk b6658 (.cells #[.int .u8 ((rd a0 x4412).N.Kind), .int .u64 ((rd a0 x4412).N.ID)] 44 (0, 0)), Blk b6640 (.cells #[.slice A6642 t6638.L.length c6643] 48 (0, 0)), Row r_ferrymanref05_Hold 64 (.slice A6642 t6638.L.length c6643) t6638.L, Blk b6630 (.cells #[.map (mb A6632)] 56 (0, 0)), MapC enc_latch_Name (Value.int .i64) A6632 t6628.by_] := S.pick [5, 6, 0, 1, 2, 3, 4, 7, 8] (by decide)
                refine W_callF2 fn21 (ferrymanref05_Latches_Drop_PO.con k M A4414 c4415 (⟨x4413⟩ : ferrymanref05_Latches) (⟨((rd a0 x4412).N.Kind), ((rd a0 x4412).N.ID)⟩ : ferrymanref05_Name) ((rd a0 x4412).Task) b15 t7152  ht7153) (Γ1 := [Blk b15 (.cells #[.slice A4414 x4413.length c4415] 48 (0, 0)), Row r_ferrymanref05_Hold 64 (.slice A4414 x4413.length c4415) x4413]) (Γ2 := [Blk b7 (.cells #[.map (mb A7146)] 56 (0, 0)), MapC enc_latch_Name (Value.int .i64) A7146 t7144.2.by_, Blk b6658 (.cells #[.int .u8 ((rd a0 x4412).N.Kind), .int .u64 ((rd a0 x4412).N.ID)] 44 (0, 0)), Blk b6640 (.cells #[.slice A6642 t6638.L.length c6643] 48 (0, 0)), Row r_ferrymanref05_Hold 64 (.slice A6642 t6638.L.length c6643) t6638.L, Blk b6630 (.cells #[.map (mb A6632)] 56 (0, 0)), MapC enc_latch_Name (Value.int .i64) A6632 t6628.by_]) S rfl rfl (by rintro _ _ _ ⟨_, _, rfl, rfl⟩; exact (flat_cons flat_blk (flat_cons (flat_row (fun _ _ _ _ h => h)) flat_nil))) ?_
                rintro _ w7157 _ Γ' E' S ⟨A7154, c7155, rfl, rfl⟩
                replace E := E.trans E'
                clear E'
                replace S : St w7157 M F [Blk b15 (.cells #[.slice A7154 t7152.2.L.length c7155] 48 (0, 0)), Row r_ferrymanref05_Hold 64 (.slice A7154 t7152.2.L.length c7155) t7152.2.L, Blk b7 (.cells #[.map (mb A7146)] 56 (0, 0)), MapC enc_latch_Name (Value.int .i64) A7146 t7144.2.by_, Blk b6658 (.cells #[.int .u8 ((rd a0 x4412).N.Kind), .int .u64 ((rd a0 x4412).N.ID)] 44 (0, 0)), Blk b6640 (.cells #[.slice A6642 t6638.L.length c6643] 48 (0, 0)), Row r_ferrymanref05_Hold 64 (.slice A6642 t6638.L.length c6643) t6638.L, Blk b6630 (.cells #[.map (mb A6632)] 56 (0, 0)), MapC enc_latch_Name (Value.int .i64) A6632 t6628.by_] := S
                refine Wl_nil (on_n ⟨.inr ⟨M, Hp.le_refl M, S.pick [4, 5, 6, 7, 8] (by decide)⟩, ?_⟩)
                refine Wa_take (i := 20) rfl (by kernel_rfl) rfl rfl (.bool t7144.1) rfl (fun w' h' => x_assign rfl) (⟨M, Hp.le_refl M, S.pick [4, 5, 6, 7, 8] (by decide)⟩) ?_
                refine Wa_take (i := 21) rfl (by kernel_rfl) rfl rfl (.bool t7152.1) rfl (fun w' h' => x_assign rfl) (⟨M, Hp.le_refl M, S.pick [4, 5, 6, 7, 8] (by decide)⟩) ?_
                refine Wa_done (by kernel_rfl) ?_
                refine tn ?_
                exact ⟨t7144.1, t7152.1, t7152.2.L, t7144.2.by_, t6628.by_, A7154, c7155, A7146, c7147, A6632, c6633, Option.some.inj H, ⟨rfl, rfl, rfl, rfl, rfl, rfl, rfl, rfl, rfl, trivial⟩, E, S.pick [8, 3, 1, 0, 2, 4, 5, 6, 7] (by decide)⟩
              refine Wp_cond_false (congrArg Value.bool hb7065) ?_
              refine Wp_region_any (S := fun w' => ∃ Mx, M.le Mx ∧ St w' Mx F [Blk b6658 (.cells #[.int .u8 ((rd a0 x4412).N.Kind), .int .u64 ((rd a0 x4412).N.ID)] 44 (0, 0)), Blk b6640 (.cells #[.slice A6642 t6638.L.length c6643] 48 (0, 0)), Row r_ferrymanref05_Hold 64 (.slice A6642 t6638.L.length c6643) t6638.L, Blk b6630 (.cells #[.map (mb A6632)] 56 (0, 0)), MapC enc_latch_Name (Value.int .i64) A6632 t6628.by_]) (L := 22) mixed ?_
              intro w7206 hw7207 E'
              replace S := S.heap hw7207
              replace E := E.trans E'
              clear E'
              refine Wa_take (i := 0) rfl (by kernel_rfl) rfl rfl (.pointer (some ⟨b7, 0, none⟩)) rfl (fun w' h' => x_move rfl) (⟨M, Hp.le_refl M, S.pick [0, 1, 2, 5, 6] (by decide)⟩) ?_
              refine Wa_take (i := 1) rfl (by kernel_rfl) rfl rfl (.slice A0 a0.length c0) rfl (fun w' h' => x_move rfl) (⟨M, Hp.le_refl M, S.pick [0, 1, 2, 5, 6] (by decide)⟩) ?_
              refine Wa_take (i := 2) rfl (by kernel_rfl) rfl rfl (.int .i64 x4412) rfl (fun w' h' => x_move rfl) (⟨M, Hp.le_refl M, S.pick [0, 1, 2, 5, 6] (by decide)⟩) ?_
              obtain ⟨⟨p7208, p7209⟩, H⟩ := chkS H
              obtain ⟨b7210, o7211, cs7212, _, _, ee7217, hb7213, vs7214, hR7215, hc7216⟩ := SlW.at' hr0 p7208 p7209
              obtain rfl : vs7214 = _ := hR7215
              refine Wa_take (i := 3) rfl (by kernel_rfl) rfl rfl (.pointer (some ⟨b7210, o7211 + x4412.toNat * 4, none⟩)) rfl (fun w' h' => x_indexAddr Try.underlying22 ty30 (slA ee7217) rfl p7208 p7209) (⟨M, Hp.le_refl M, S.pick [0, 1, 2, 5, 6] (by decide)⟩) ?_
              refine Wa_take (i := 4) rfl (by kernel_rfl) rfl rfl (.pointer (some ⟨b7210, o7211 + x4412.toNat * 4 + 1, none⟩)) rfl (fun w' h' => x_fieldAddr (o := o7211 + x4412.toNat * 4) (off := 1) Try.underlying30 rfl ty25 rfl rfl) (⟨M, Hp.le_refl M, S.pick [0, 1, 2, 5, 6] (by decide)⟩) ?_
              refine Wa_take (i := 5) rfl (by kernel_rfl) rfl rfl (.agg #[.int .u8 ((rd a0 x4412).N.Kind), .int .u64 ((rd a0 x4412).N.ID)]) rfl (fun w' h' => x_loadA (cls_frz h' hb7213) ty25 rfl (sub_el hc7216 1 rfl) rfl rfl) (⟨M, Hp.le_refl M, S.pick [0, 1, 2, 5, 6] (by decide)⟩) ?_
              refine Wa_take (i := 6) rfl (by kernel_rfl) rfl rfl (.slice A0 a0.length c0) rfl (fun w' h' => x_move rfl) (⟨M, Hp.le_refl M, S.pick [0, 1, 2, 5, 6] (by decide)⟩) ?_
              refine Wa_take (i := 7) rfl (by kernel_rfl) rfl rfl (.int .i64 x4412) rfl (fun w' h' => x_move rfl) (⟨M, Hp.le_refl M, S.pick [0, 1, 2, 5, 6] (by decide)⟩) ?_
              obtain ⟨⟨p7218, p7219⟩, H⟩ := chkS H
              obtain ⟨b7220, o7221, cs7222, _, _, ee7227, hb7223, vs7224, hR7225, hc7226⟩ := SlW.at' hr0 p7218 p7219
              obtain rfl : vs7224 = _ := hR7225
              refine Wa_take (i := 8) rfl (by kernel_rfl) rfl rfl (.pointer (some ⟨b7220, o7221 + x4412.toNat * 4, none⟩)) rfl (fun w' h' => x_indexAddr Try.underlying22 ty30 (slA ee7227) rfl p7218 p7219) (⟨M, Hp.le_refl M, S.pick [0, 1, 2, 5, 6] (by decide)⟩) ?_
              refine Wa_take (i := 9) rfl (by kernel_rfl) rfl rfl (.pointer (some ⟨b7220, o7221 + x4412.toNat * 4 + 3, none⟩)) rfl (fun w' h' => x_fieldAddr (o := o7221 + x4412.toNat * 4) (off := 3) Try.underlying30 rfl ty3 rfl rfl) (⟨M, Hp.le_refl M, S.pick [0, 1, 2, 5, 6] (by decide)⟩) ?_
              refine Wa_take (i := 10) rfl (by kernel_rfl) rfl rfl (.int .i64 ((rd a0 x4412).Task)) rfl (fun w' h' => x_load (cls_frz h' hb7223) ty3 rfl (hc7226 3 _ rfl)) (⟨M, Hp.le_refl M, S.pick [0, 1, 2, 5, 6] (by decide)⟩) ?_
              refine Wa_take (i := 12) rfl (by kernel_rfl) rfl rfl (.pointer (some ⟨b15, 0, none⟩)) rfl (fun w' h' => x_move rfl) (⟨M, Hp.le_refl M, S.pick [0, 1, 2, 5, 6] (by decide)⟩) ?_
              refine Wa_take (i := 13) rfl (by kernel_rfl) rfl rfl (.agg #[.int .u8 ((rd a0 x4412).N.Kind), .int .u64 ((rd a0 x4412).N.ID)]) rfl (fun w' h' => x_loadA (cls_blk h' 0 rfl) ty44 rfl (sub_of_extract rfl) rfl rfl) (⟨M, Hp.le_refl M, S.pick [0, 1, 2, 5, 6] (by decide)⟩) ?_
              refine Wa_take (i := 14) rfl (by kernel_rfl) rfl rfl (.slice A0 a0.length c0) rfl (fun w' h' => x_move rfl) (⟨M, Hp.le_refl M, S.pick [0, 1, 2, 5, 6] (by decide)⟩) ?_
              refine Wa_take (i := 15) rfl (by kernel_rfl) rfl rfl (.int .i64 x4412) rfl (fun w' h' => x_move rfl) (⟨M, Hp.le_refl M, S.pick [0, 1, 2, 5, 6] (by decide)⟩) ?_
              obtain ⟨⟨p7228, p7229⟩, H⟩ := chkS H
              obtain ⟨b7230, o7231, cs7232, _, _, ee7237, hb7233, vs7234, hR7235, hc7236⟩ := SlW.at' hr0 p7228 p7229
              obtain rfl : vs7234 = _ := hR7235
              refine Wa_take (i := 16) rfl (by kernel_rfl) rfl rfl (.pointer (some ⟨b7230, o7231 + x4412.toNat * 4, none⟩)) rfl (fun w' h' => x_indexAddr Try.underlying22 ty30 (slA ee7237) rfl p7228 p7229) (⟨M, Hp.le_refl M, S.pick [0, 1, 2, 5, 6] (by decide)⟩) ?_
              refine Wa_take (i := 17) rfl (by kernel_rfl) rfl rfl (.pointer (some ⟨b7230, o7231 + x4412.toNat * 4 + 3, none⟩)) rfl (fun w' h' => x_fieldAddr (o := o7231 + x4412.toNat * 4) (off := 3) Try.underlying30 rfl ty3 rfl rfl) (⟨M, Hp.le_refl M, S.pick [0, 1, 2, 5, 6] (by decide)⟩) ?_
              refine Wa_take (i := 18) rfl (by kernel_rfl) rfl rfl (.int .i64 ((rd a0 x4412).Task)) rfl (fun w' h' => x_load (cls_frz h' hb7233) ty3 rfl (hc7236 3 _ rfl)) (⟨M, Hp.le_refl M, S.pick [0, 1, 2, 5, 6] (by decide)⟩) ?_
              refine Wa_solo (i := 11) rfl (by kernel_rfl) ?_
              obtain ⟨t7238, ht7239, H⟩ := bindS H
              replace S : St w7206 M F [Blk b7 (.cells #[.map (mb A4418)] 56 (0, 0)), MapC enc_latch_Name (Value.int .i64) A4418 x4417, Blk b6658 (.cells #[.int .u8 ((rd a0 x4412).N.Kind), .int .u64 ((rd a0 x4412).N.ID)] 44 (0, 0)), Blk b6640 (.cells #[.slice A6642 t6638.L.length c6643] 48 (0, 0)), Row r_ferrymanref05_Hold 64 (.slice A6642 t6638.L.length c6643) t6638.L, Blk b15 (.cells #[.slice A4414 x4413.length c4415] 48 (0, 0)), Row r_ferrymanref05_Hold 64 (.slice A4414 x4413.length c4415) x4413, Blk b6630 (.cells #[.map (mb A6632)] 56 (0, 0)), MapC enc_latch_Name (Value.int .i64) A6632 t6628.by_] := S.pick [7, 8, 0, 1, 2, 3, 4, 5, 6] (by decide)
              refine W_callF2 fn12 (latch_Latches_Try_PO.con k M A4418 c4419 (⟨x4417⟩ : latch_Latches) ((rd a0 x4412).N) ((rd a0 x4412).Task) b7 t7238  ht7239) (Γ1 := [Blk b7 (.cells #[.map (mb A4418)] 56 (0, 0)), MapC enc_latch_Name (Value.int .i64) A4418 x4417]) (Γ2 := [Blk b6658 (.cells #[.int .u8 ((rd a0 x4412).N.Kind), .int .u64 ((rd a0 x4412).N.ID)] 44 (0, 0)), Blk b6640 (.cells #[.slice A6642 t6638.L.length c6643] 48 (0, 0)), Row r_ferrymanref05_Hold 64 (.slice A6642 t6638.L.length c6643) t6638.L, Blk b15 (.cells #[.slice A4414 x4413.length c4415] 48 (0, 0)), Row r_ferrymanref05_Hold 64 (.slice A4414 x4413.length c4415) x4413, Blk b6630 (.cells #[.map (mb A6632)] 56 (0, 0)), MapC enc_latch_Name (Value.int .i64) A6632 t6628.by_]) S rfl rfl (by rintro _ _ _ ⟨_, _, rfl, rfl⟩; exact (flat_cons flat_blk (flat_cons flat_map flat_nil))) ?_
              rintro _ w7243 _ Γ' E' S ⟨A7240, c7241, rfl, rfl⟩
              replace E := E.trans E'
              clear E'
              replace S : St w7243 M F [Blk b7 (.cells #[.map (mb A7240)] 56 (0, 0)), MapC enc_latch_Name (Value.int .i64) A7240 t7238.2.by_, Blk b6658 (.cells #[.int .u8 ((rd a0 x4412).N.Kind), .int .u64 ((rd a0 x4412).N.ID)] 44 (0, 0)), Blk b6640 (.cells #[.slice A6642 t6638.L.length c6643] 48 (0, 0)), Row r_ferrymanref05_Hold 64 (.slice A6642 t6638.L.length c6643) t6638.L, Blk b15 (.cells #[.slice A4414 x4413.length c4415] 48 (0, 0)), Row r_ferrymanref05_Hold 64 (.slice A4414 x4413.length c4415) x4413, Blk b6630 (.cells #[.map (mb A6632)] 56 (0, 0)), MapC enc_latch_Name (Value.int .i64) A6632 t6628.by_] := S
              refine Wl_nil (on_n ⟨.inr ⟨M, Hp.le_refl M, S.pick [2, 3, 4, 7, 8] (by decide)⟩, ?_⟩)
              refine Wa_solo (i := 19) rfl (by kernel_rfl) ?_
              obtain ⟨t7246, ht7247, H⟩ := bindS H
              replace S : St w7243 M F [Blk b15 (.cells #[.slice A4414 x4413.length c4415] 48 (0, 0)), Row r_ferrymanref05_Hold 64 (.slice A4414 x4413.length c4415) x4413, Blk b7 (.cells #[.map (mb A7240)] 56 (0, 0)), MapC enc_latch_Name (Value.int .i64) A7240 t7238.2.by_, Blk b6658 (.cells #[.int .u8 ((rd a0 x4412).N.Kind), .int .u64 ((rd a0 x4412).N.ID)] 44 (0, 0)), Blk b6640 (.cells #[.slice A6642 t6638.L.length c6643] 48 (0, 0)), Row r_ferrymanref05_Hold 64 (.slice A6642 t6638.L.length c6643) t6638.L, Blk b6630 (.cells #[.map (mb A6632)] 56 (0, 0)), MapC enc_latch_Name (Value.int .i64) A6632 t6628.by_] := S.pick [5, 6, 0, 1, 2, 3, 4, 7, 8] (by decide)
              refine W_callF2 fn22 (ferrymanref05_Latches_Try_PO.con k M A4414 c4415 (⟨x4413⟩ : ferrymanref05_Latches) (⟨((rd a0 x4412).N.Kind), ((rd a0 x4412).N.ID)⟩ : ferrymanref05_Name) ((rd a0 x4412).Task) b15 t7246  ht7247) (Γ1 := [Blk b15 (.cells #[.slice A4414 x4413.length c4415] 48 (0, 0)), Row r_ferrymanref05_Hold 64 (.slice A4414 x4413.length c4415) x4413]) (Γ2 := [Blk b7 (.cells #[.map (mb A7240)] 56 (0, 0)), MapC enc_latch_Name (Value.int .i64) A7240 t7238.2.by_, Blk b6658 (.cells #[.int .u8 ((rd a0 x4412).N.Kind), .int .u64 ((rd a0 x4412).N.ID)] 44 (0, 0)), Blk b6640 (.cells #[.slice A6642 t6638.L.length c6643] 48 (0, 0)), Row r_ferrymanref05_Hold 64 (.slice A6642 t6638.L.length c6643) t6638.L, Blk b6630 (.cells #[.map (mb A6632)] 56 (0, 0)), MapC enc_latch_Name (Value.int .i64) A6632 t6628.by_]) S rfl rfl (by rintro _ _ _ ⟨_, _, rfl, rfl⟩; exact (flat_cons flat_blk (flat_cons (flat_row (fun _ _ _ _ h => h)) flat_nil))) ?_
              rintro _ w7251 _ Γ' E' S ⟨A7248, c7249, rfl, rfl⟩
              replace E := E.trans E'
              clear E'
              replace S : St w7251 M F [Blk b15 (.cells #[.slice A7248 t7246.2.L.length c7249] 48 (0, 0)), Row r_ferrymanref05_Hold 64 (.slice A7248 t7246.2.L.length c7249) t7246.2.L, Blk b7 (.cells #[.map (mb A7240)] 56 (0, 0)), MapC enc_latch_Name (Value.int .i64) A7240 t7238.2.by_, Blk b6658 (.cells #[.int .u8 ((rd a0 x4412).N.Kind), .int .u64 ((rd a0 x4412).N.ID)] 44 (0, 0)), Blk b6640 (.cells #[.slice A6642 t6638.L.length c6643] 48 (0, 0)), Row r_ferrymanref05_Hold 64 (.slice A6642 t6638.L.length c6643) t6638.L, Blk b6630 (.cells #[.map (mb A6632)] 56 (0, 0)), MapC enc_latch_Name (Value.int .i64) A6632 t6628.by_] := S
              refine Wl_nil (on_n ⟨.inr ⟨M, Hp.le_refl M, S.pick [4, 5, 6, 7, 8] (by decide)⟩, ?_⟩)
              refine Wa_take (i := 20) rfl (by kernel_rfl) rfl rfl (.bool t7238.1) rfl (fun w' h' => x_assign rfl) (⟨M, Hp.le_refl M, S.pick [4, 5, 6, 7, 8] (by decide)⟩) ?_
              refine Wa_take (i := 21) rfl (by kernel_rfl) rfl rfl (.bool t7246.1) rfl (fun w' h' => x_assign rfl) (⟨M, Hp.le_refl M, S.pick [4, 5, 6, 7, 8] (by decide)⟩) ?_
              refine Wa_done (by kernel_rfl) ?_
              refine tn ?_
              exact ⟨t7238.1, t7246.1, t7246.2.L, t7238.2.by_, t6628.by_, A7248, c7249, A7240, c7241, A6632, c6633, Option.some.inj H, ⟨rfl, rfl, rfl, rfl, rfl, rfl, rfl, rfl, rfl, trivial⟩, E, S.pick [8, 3, 1, 0, 2, 4, 5, 6, 7] (by decide)⟩
            clear o7064h
            rintro ρ w7254 ⟨x7050, x7051, x7052, x7056, x7060, A7053, c7054, A7057, c7058, A7061, c7062, rfl, hρ, E, S⟩
            rw [agree_eta hρ]
            clear hρ
            have H := o7064H
            clear o7064H
            refine tn ?_
            refine Wp_seq ?_
            refine Wp_region_lit ?_
            refine W_v (.pointer (some ⟨b7, 0, none⟩)) (x_move rfl) rfl ?_
            refine W_v (.slice A0 a0.length c0) (x_move rfl) rfl ?_
            refine W_v (.int .i64 x4412) (x_move rfl) rfl ?_
            obtain ⟨⟨p7255, p7256⟩, H⟩ := chkS H
            obtain ⟨b7257, o7258, cs7259, _, _, ee7264, hb7260, vs7261, hR7262, hc7263⟩ := SlW.at' hr0 p7255 p7256
            obtain rfl : vs7261 = _ := hR7262
            refine W_v (.pointer (some ⟨b7257, o7258 + x4412.toNat * 4, none⟩)) (x_indexAddr Try.underlying22 ty30 (slA ee7264) rfl p7255 p7256) rfl ?_
            refine W_v (.pointer (some ⟨b7257, o7258 + x4412.toNat * 4 + 1, none⟩)) (x_fieldAddr (o := o7258 + x4412.toNat * 4) (off := 1) Try.underlying30 rfl ty25 rfl rfl) rfl ?_
            refine W_v (.agg #[.int .u8 ((rd a0 x4412).N.Kind), .int .u64 ((rd a0 x4412).N.ID)]) (x_loadA (S.frz hb7260) ty25 rfl (sub_el hc7263 1 rfl) rfl rfl) rfl ?_
            obtain ⟨t7265, ht7266, H⟩ := bindS H
            replace S : St w7254 M F [Blk b7 (.cells #[.map (mb A7057)] 56 (0, 0)), MapC enc_latch_Name (Value.int .i64) A7057 x7056, MapC enc_latch_Name (Value.int .i64) A7061 x7060, Row r_ferrymanref05_Hold 64 (.slice A7053 x7052.length c7054) x7052, Blk b15 (.cells #[.slice A7053 x7052.length c7054] 48 (0, 0)), Blk b6658 (.cells #[.int .u8 ((rd a0 x4412).N.Kind), .int .u64 ((rd a0 x4412).N.ID)] 44 (0, 0)), Blk b6640 (.cells #[.slice A6642 t6638.L.length c6643] 48 (0, 0)), Row r_ferrymanref05_Hold 64 (.slice A6642 t6638.L.length c6643) t6638.L, Blk b6630 (.cells #[.map (mb A7061)] 56 (0, 0))] := S.pick [4, 1, 0, 2, 3, 5, 6, 7, 8] (by decide)
            refine W_callF2 fn13 (latch_Latches_Owner_PO.con k M A7057 c7058 (⟨x7056⟩ : latch_Latches) ((rd a0 x4412).N) b7 t7265  ht7266) (Γ1 := [Blk b7 (.cells #[.map (mb A7057)] 56 (0, 0)), MapC enc_latch_Name (Value.int .i64) A7057 x7056]) (Γ2 := [MapC enc_latch_Name (Value.int .i64) A7061 x7060, Row r_ferrymanref05_Hold 64 (.slice A7053 x7052.length c7054) x7052, Blk b15 (.cells #[.slice A7053 x7052.length c7054] 48 (0, 0)), Blk b6658 (.cells #[.int .u8 ((rd a0 x4412).N.Kind), .int .u64 ((rd a0 x4412).N.ID)] 44 (0, 0)), Blk b6640 (.cells #[.slice A6642 t6638.L.length c6643] 48 (0, 0)), Row r_ferrymanref05_Hold 64 (.slice A6642 t6638.L.length c6643) t6638.L, Blk b6630 (.cells #[.map (mb A7061)] 56 (0, 0))]) S rfl rfl (by rintro _ _ _ ⟨rfl, rfl⟩; exact (flat_cons flat_blk (flat_cons flat_map flat_nil))) ?_
            rintro _ w7267 _ Γ' E' S ⟨rfl, rfl⟩
            replace E := E.trans E'
            clear E'
            replace S : St w7267 M F [Blk b7 (.cells #[.map (mb A7057)] 56 (0, 0)), MapC enc_latch_Name (Value.int .i64) A7057 x7056, MapC enc_latch_Name (Value.int .i64) A7061 x7060, Row r_ferrymanref05_Hold 64 (.slice A7053 x7052.length c7054) x7052, Blk b15 (.cells #[.slice A7053 x7052.length c7054] 48 (0, 0)), Blk b6658 (.cells #[.int .u8 ((rd a0 x4412).N.Kind), .int .u64 ((rd a0 x4412).N.ID)] 44 (0, 0)), Blk b6640 (.cells #[.slice A6642 t6638.L.length c6643] 48 (0, 0)), Row r_ferrymanref05_Hold 64 (.slice A6642 t6638.L.length c6643) t6638.L, Blk b6630 (.cells #[.map (mb A7061)] 56 (0, 0))] := S
            refine W_v (.tuple #[.int .i64 t7265.1, .bool t7265.2]) (x_move rfl) rfl ?_
            refine W_v (.int .i64 t7265.1) (x_extract rfl rfl) rfl ?_
            refine W_v (.bool t7265.2) (x_extract rfl rfl) rfl ?_
            refine W_v (.int .i64 t7265.1) (x_assign rfl) rfl ?_
            refine W_v (.bool t7265.2) (x_assign rfl) rfl ?_
            refine Wl_nil ?_
            refine tn ?_
            refine Wp_seq ?_
            refine Wp_region_lit ?_
            refine W_v (.pointer (some ⟨b15, 0, none⟩)) (x_move rfl) rfl ?_
            refine W_v (.agg #[.int .u8 ((rd a0 x4412).N.Kind), .int .u64 ((rd a0 x4412).N.ID)]) (x_loadA (S.blk 5 rfl) ty44 rfl (sub_of_extract rfl) rfl rfl) rfl ?_
            obtain ⟨t7270, ht7271, H⟩ := bindS H
            replace S : St w7267 M F [Blk b15 (.cells #[.slice A7053 x7052.length c7054] 48 (0, 0)), Row r_ferrymanref05_Hold 64 (.slice A7053 x7052.length c7054) x7052, Blk b7 (.cells #[.map (mb A7057)] 56 (0, 0)), MapC enc_latch_Name (Value.int .i64) A7057 x7056, MapC enc_latch_Name (Value.int .i64) A7061 x7060, Blk b6658 (.cells #[.int .u8 ((rd a0 x4412).N.Kind), .int .u64 ((rd a0 x4412).N.ID)] 44 (0, 0)), Blk b6640 (.cells #[.slice A6642 t6638.L.length c6643] 48 (0, 0)), Row r_ferrymanref05_Hold 64 (.slice A6642 t6638.L.length c6643) t6638.L, Blk b6630 (.cells #[.map (mb A7061)] 56 (0, 0))] := S.pick [4, 3, 0, 1, 2, 5, 6, 7, 8] (by decide)
            refine W_callF2 fn23 (ferrymanref05_Latches_Owner_PO.con k M A7053 c7054 (⟨x7052⟩ : ferrymanref05_Latches) (⟨((rd a0 x4412).N.Kind), ((rd a0 x4412).N.ID)⟩ : ferrymanref05_Name) b15 t7270  ht7271) (Γ1 := [Blk b15 (.cells #[.slice A7053 x7052.length c7054] 48 (0, 0)), Row r_ferrymanref05_Hold 64 (.slice A7053 x7052.length c7054) x7052]) (Γ2 := [Blk b7 (.cells #[.map (mb A7057)] 56 (0, 0)), MapC enc_latch_Name (Value.int .i64) A7057 x7056, MapC enc_latch_Name (Value.int .i64) A7061 x7060, Blk b6658 (.cells #[.int .u8 ((rd a0 x4412).N.Kind), .int .u64 ((rd a0 x4412).N.ID)] 44 (0, 0)), Blk b6640 (.cells #[.slice A6642 t6638.L.length c6643] 48 (0, 0)), Row r_ferrymanref05_Hold 64 (.slice A6642 t6638.L.length c6643) t6638.L, Blk b6630 (.cells #[.map (mb A7061)] 56 (0, 0))]) S rfl rfl (by rintro _ _ _ ⟨rfl, rfl⟩; exact (flat_cons flat_blk (flat_cons (flat_row (fun _ _ _ _ h => h)) flat_nil))) ?_
            rintro _ w7272 _ Γ' E' S ⟨rfl, rfl⟩
            replace E := E.trans E'
            clear E'
            replace S : St w7272 M F [Blk b15 (.cells #[.slice A7053 x7052.length c7054] 48 (0, 0)), Row r_ferrymanref05_Hold 64 (.slice A7053 x7052.length c7054) x7052, Blk b7 (.cells #[.map (mb A7057)] 56 (0, 0)), MapC enc_latch_Name (Value.int .i64) A7057 x7056, MapC enc_latch_Name (Value.int .i64) A7061 x7060, Blk b6658 (.cells #[.int .u8 ((rd a0 x4412).N.Kind), .int .u64 ((rd a0 x4412).N.ID)] 44 (0, 0)), Blk b6640 (.cells #[.slice A6642 t6638.L.length c6643] 48 (0, 0)), Row r_ferrymanref05_Hold 64 (.slice A6642 t6638.L.length c6643) t6638.L, Blk b6630 (.cells #[.map (mb A7061)] 56 (0, 0))] := S
            refine W_v (.tuple #[.int .i64 t7270.1, .bool t7270.2]) (x_move rfl) rfl ?_
            refine W_v (.int .i64 t7270.1) (x_extract rfl rfl) rfl ?_
            refine W_v (.bool t7270.2) (x_extract rfl rfl) rfl ?_
            refine W_v (.int .i64 t7270.1) (x_assign rfl) rfl ?_
            refine W_v (.bool t7270.2) (x_assign rfl) rfl ?_
            refine Wl_nil ?_
            refine tn ?_
            refine Wp_seq ?_
            refine Wp_seq ?_
            refine Wp_region_any (S := fun w' => ∃ Mx, M.le Mx ∧ St w' Mx F [Blk b15 (.cells #[.slice A7053 x7052.length c7054] 48 (0, 0)), Row r_ferrymanref05_Hold 64 (.slice A7053 x7052.length c7054) x7052, Blk b6658 (.cells #[.int .u8 ((rd a0 x4412).N.Kind), .int .u64 ((rd a0 x4412).N.ID)] 44 (0, 0)), Blk b6640 (.cells #[.slice A6642 t6638.L.length c6643] 48 (0, 0)), Row r_ferrymanref05_Hold 64 (.slice A6642 t6638.L.length c6643) t6638.L]) (L := 33) mixed ?_
            intro w7321 hw7322 E'
            replace S := S.heap hw7322
            replace E := E.trans E'
            clear E'
            refine Wa_take (i := 0) rfl (by kernel_rfl) rfl rfl (.bool x7050) rfl (fun w' h' => x_move rfl) (⟨M, Hp.le_refl M, S.pick [0, 1, 5, 6, 7] (by decide)⟩) ?_
            refine Wa_take (i := 1) rfl (by kernel_rfl) rfl rfl (.bool x7051) rfl (fun w' h' => x_move rfl) (⟨M, Hp.le_refl M, S.pick [0, 1, 5, 6, 7] (by decide)⟩) ?_
            refine Wa_take (i := 2) rfl (by kernel_rfl) rfl rfl (.bool (!(x7050 == x7051))) rfl (fun w' h' => x_bne Try.underlying4 rfl rfl) (⟨M, Hp.le_refl M, S.pick [0, 1, 5, 6, 7] (by decide)⟩) ?_
            refine Wa_take (i := 3) rfl (by kernel_rfl) rfl rfl (.bool (!(x7050 == x7051))) rfl (fun w' h' => x_move rfl) (⟨M, Hp.le_refl M, S.pick [0, 1, 5, 6, 7] (by decide)⟩) ?_
            refine Wa_join (fun ρ w' => Agree ρ [(0, .slice A0 a0.length c0), (3, .pointer (some ⟨b7, 0, none⟩)), (4, .pointer (some ⟨b15, 0, none⟩)), (5, .int .i64 x4412), (6, .pointer (some ⟨b6630, 0, none⟩)), (7, .pointer (some ⟨b6640, 0, none⟩)), (12, .bool t7265.2), (14, .bool t7270.2), (112, .bool ((!(x7050 == x7051)) || (t7265.1 != t7270.1)))] ∧ w7321 = w') 25 (Ls 33 [0, 1, 2, 3, 4, 5, 6, 7]) ?_ ?_
            rotate_left
            · intro hrest
              rcases boolCases (!(x7050 == x7051)) with hb7323 | hb7323
              · skip
                refine Wa_takeY (i := 4) rfl (by kernel_rfl) rfl rfl (.int .i64 t7265.1) rfl (congrArg some hb7323) (fun w' h' => x_move rfl) (⟨M, Hp.le_refl M, S.pick [0, 1, 5, 6, 7] (by decide)⟩) ?_
                refine Wa_takeY (i := 5) rfl (by kernel_rfl) rfl rfl (.int .i64 t7270.1) rfl (congrArg some hb7323) (fun w' h' => x_move rfl) (⟨M, Hp.le_refl M, S.pick [0, 1, 5, 6, 7] (by decide)⟩) ?_
                refine Wa_takeY (i := 6) rfl (by kernel_rfl) rfl rfl (.bool (t7265.1 != t7270.1)) rfl (congrArg some hb7323) (fun w' h' => x_ibin rfl rfl rfl rfl) (⟨M, Hp.le_refl M, S.pick [0, 1, 5, 6, 7] (by decide)⟩) ?_
                refine Wa_take (i := 7) rfl (by kernel_rfl) rfl rfl (.bool (t7265.1 != t7270.1)) rfl (fun w' h' => x_pick (k := false) (congrArg Value.bool hb7323) rfl) (⟨M, Hp.le_refl M, S.pick [0, 1, 5, 6, 7] (by decide)⟩) ?_
                exact hrest _ _ ⟨⟨rfl, rfl, rfl, rfl, rfl, rfl, rfl, rfl, (by first | rfl | (rw [hb7323]; rfl) | (simp only [hb7323]; rfl)), trivial⟩, rfl⟩
              · skip
                refine Wa_takeN (i := 4) rfl (by kernel_rfl) rfl rfl rfl (skF hb7323) (⟨M, Hp.le_refl M, S.pick [0, 1, 5, 6, 7] (by decide)⟩) ?_
                refine Wa_takeN (i := 5) rfl (by kernel_rfl) rfl rfl rfl (skF hb7323) (⟨M, Hp.le_refl M, S.pick [0, 1, 5, 6, 7] (by decide)⟩) ?_
                refine Wa_takeN (i := 6) rfl (by kernel_rfl) rfl rfl rfl (skF hb7323) (⟨M, Hp.le_refl M, S.pick [0, 1, 5, 6, 7] (by decide)⟩) ?_
                refine Wa_take (i := 7) rfl (by kernel_rfl) rfl rfl (.bool true) rfl (fun w' h' => x_pick (k := true) (congrArg Value.bool hb7323) rfl) (⟨M, Hp.le_refl M, S.pick [0, 1, 5, 6, 7] (by decide)⟩) ?_
                exact hrest _ _ ⟨⟨rfl, rfl, rfl, rfl, rfl, rfl, rfl, rfl, (by first | rfl | (rw [hb7323]; rfl) | (simp only [hb7323]; rfl)), trivial⟩, rfl⟩
            rintro ρ _ ⟨hρ, rfl⟩
            rw [agree_eta hρ]
            clear hρ
            refine Wa_take (i := 8) rfl (by kernel_rfl) rfl rfl (.bool ((!(x7050 == x7051)) || (t7265.1 != t7270.1))) rfl (fun w' h' => x_move rfl) (⟨M, Hp.le_refl M, S.pick [0, 1, 5, 6, 7] (by decide)⟩) ?_
            refine Wa_join (fun ρ w' => Agree ρ [(0, .slice A0 a0.length c0), (3, .pointer (some ⟨b7, 0, none⟩)), (4, .pointer (some ⟨b15, 0, none⟩)), (5, .int .i64 x4412), (6, .pointer (some ⟨b6630, 0, none⟩)), (7, .pointer (some ⟨b6640, 0, none⟩)), (117, .bool (((!(x7050 == x7051)) || (t7265.1 != t7270.1)) || (!(t7265.2 == t7270.2))))] ∧ w7321 = w') 20 (Ls 33 [0, 1, 2, 3, 4, 5, 6, 7, 8, 9, 10, 11, 12]) ?_ ?_
            rotate_left
            · intro hrest
              rcases boolCases ((!(x7050 == x7051)) || (t7265.1 != t7270.1)) with hb7324 | hb7324
              · skip
                refine Wa_takeY (i := 9) rfl (by kernel_rfl) rfl rfl (.bool t7265.2) rfl (congrArg some hb7324) (fun w' h' => x_move rfl) (⟨M, Hp.le_refl M, S.pick [0, 1, 5, 6, 7] (by decide)⟩) ?_
                refine Wa_takeY (i := 10) rfl (by kernel_rfl) rfl rfl (.bool t7270.2) rfl (congrArg some hb7324) (fun w' h' => x_move rfl) (⟨M, Hp.le_refl M, S.pick [0, 1, 5, 6, 7] (by decide)⟩) ?_
                refine Wa_takeY (i := 11) rfl (by kernel_rfl) rfl rfl (.bool (!(t7265.2 == t7270.2))) rfl (congrArg some hb7324) (fun w' h' => x_bne Try.underlying4 rfl rfl) (⟨M, Hp.le_refl M, S.pick [0, 1, 5, 6, 7] (by decide)⟩) ?_
                refine Wa_take (i := 12) rfl (by kernel_rfl) rfl rfl (.bool (!(t7265.2 == t7270.2))) rfl (fun w' h' => x_pick (k := false) (congrArg Value.bool hb7324) rfl) (⟨M, Hp.le_refl M, S.pick [0, 1, 5, 6, 7] (by decide)⟩) ?_
                exact hrest _ _ ⟨⟨rfl, rfl, rfl, rfl, rfl, rfl, (by first | rfl | (rw [hb7324]; rfl) | (simp only [hb7324]; rfl)), trivial⟩, rfl⟩
              · skip
                refine Wa_takeN (i := 9) rfl (by kernel_rfl) rfl rfl rfl (skF hb7324) (⟨M, Hp.le_refl M, S.pick [0, 1, 5, 6, 7] (by decide)⟩) ?_
                refine Wa_takeN (i := 10) rfl (by kernel_rfl) rfl rfl rfl (skF hb7324) (⟨M, Hp.le_refl M, S.pick [0, 1, 5, 6, 7] (by decide)⟩) ?_
                refine Wa_takeN (i := 11) rfl (by kernel_rfl) rfl rfl rfl (skF hb7324) (⟨M, Hp.le_refl M, S.pick [0, 1, 5, 6, 7] (by decide)⟩) ?_
                refine Wa_take (i := 12) rfl (by kernel_rfl) rfl rfl (.bool true) rfl (fun w' h' => x_pick (k := true) (congrArg Value.bool hb7324) rfl) (⟨M, Hp.le_refl M, S.pick [0, 1, 5, 6, 7] (by decide)⟩) ?_
                exact hrest _ _ ⟨⟨rfl, rfl, rfl, rfl, rfl, rfl, (by first | rfl | (rw [hb7324]; rfl) | (simp only [hb7324]; rfl)), trivial⟩, rfl⟩
            rintro ρ _ ⟨hρ, rfl⟩
            rw [agree_eta hρ]
            clear hρ
            refine Wa_take (i := 13) rfl (by kernel_rfl) rfl rfl (.bool (((!(x7050 == x7051)) || (t7265.1 != t7270.1)) || (!(t7265.2 == t7270.2)))) rfl (fun w' h' => x_move rfl) (⟨M, Hp.le_refl M, S.pick [0, 1, 5, 6, 7] (by decide)⟩) ?_
            obtain ⟨o7340, o7340h, o7340H⟩ := bindS H
            clear H
            refine Wa_join (fun ρ w' => ∃ (x7331 : Bool) (x7332 : List (latch_Name × Int)) (x7336 : List (latch_Name × Int)) (A7333 : Option Addr) (c7334 : Nat) (A7337 : Option Addr) (c7338 : Nat), (x7331, x7332, x7336) = o7340 ∧ Agree ρ [(0, .slice A0 a0.length c0), (3, .pointer (some ⟨b7, 0, none⟩)), (4, .pointer (some ⟨b15, 0, none⟩)), (5, .int .i64 x4412), (6, .pointer (some ⟨b6630, 0, none⟩)), (7, .pointer (some ⟨b6640, 0, none⟩)), (127, .bool x7331)] ∧ Ext w w' ∧ St w' M F [MapC enc_latch_Name (Value.int .i64) A7337 x7336, MapC enc_latch_Name (Value.int .i64) A7333 x7332, Blk b15 (.cells #[.slice A7053 x7052.length c7054] 48 (0, 0)), Row r_ferrymanref05_Hold 64 (.slice A7053 x7052.length c7054) x7052, Blk b7 (.cells #[.map (mb A7333)] 56 (0, 0)), Blk b6658 (.cells #[.int .u8 ((rd a0 x4412).N.Kind), .int .u64 ((rd a0 x4412).N.ID)] 44 (0, 0)), Blk b6640 (.cells #[.slice A6642 t6638.L.length c6643] 48 (0, 0)), Row r_ferrymanref05_Hold 64 (.slice A6642 t6638.L.length c6643) t6638.L, Blk b6630 (.cells #[.map (mb A7337)] 56 (0, 0))]) 10 (Ls 33 [0, 1, 2, 3, 4, 5, 6, 7, 8, 9, 10, 11, 12, 13, 14, 15, 16, 17, 18, 19, 20, 21, 22]) ?_ ?_
            rotate_left
            · intro hrest
              have H := o7340h
              clear o7340h o7340H
              rcases iteS H with ⟨hb7330, H⟩ | ⟨hb7330, H⟩
              · skip
                refine Wa_takeN (i := 14) rfl (by kernel_rfl) rfl rfl rfl (skF hb7330) (⟨M, Hp.le_refl M, S.pick [0, 1, 5, 6, 7] (by decide)⟩) ?_
                refine Wa_takeN (i := 15) rfl (by kernel_rfl) rfl rfl rfl (skF hb7330) (⟨M, Hp.le_refl M, S.pick [0, 1, 5, 6, 7] (by decide)⟩) ?_
                refine Wa_takeN (i := 16) rfl (by kernel_rfl) rfl rfl rfl (skF hb7330) (⟨M, Hp.le_refl M, S.pick [0, 1, 5, 6, 7] (by decide)⟩) ?_
                refine Wa_takeN (i := 17) rfl (by kernel_rfl) rfl rfl rfl (skF hb7330) (⟨M, Hp.le_refl M, S.pick [0, 1, 5, 6, 7] (by decide)⟩) ?_
                refine Wa_takeN (i := 18) rfl (by kernel_rfl) rfl rfl rfl (skF hb7330) (⟨M, Hp.le_refl M, S.pick [0, 1, 5, 6, 7] (by decide)⟩) ?_
                refine Wa_takeN (i := 19) rfl (by kernel_rfl) rfl rfl rfl (skF hb7330) (⟨M, Hp.le_refl M, S.pick [0, 1, 5, 6, 7] (by decide)⟩) ?_
                refine Wa_takeN (i := 20) rfl (by kernel_rfl) rfl rfl rfl (skF hb7330) (⟨M, Hp.le_refl M, S.pick [0, 1, 5, 6, 7] (by decide)⟩) ?_
                refine Wa_takeN (i := 21) rfl (by kernel_rfl) rfl rfl rfl (skF hb7330) (⟨M, Hp.le_refl M, S.pick [0, 1, 5, 6, 7] (by decide)⟩) ?_
                refine Wa_take (i := 22) rfl (by kernel_rfl) rfl rfl (.bool true) rfl (fun w' h' => x_pick (k := true) (congrArg Value.bool hb7330) rfl) (⟨M, Hp.le_refl M, S.pick [0, 1, 5, 6, 7] (by decide)⟩) ?_
                exact hrest _ _ ⟨true, x7056, x7060, A7057, c7058, A7061, c7062, Option.some.inj H, ⟨rfl, rfl, rfl, rfl, rfl, rfl, rfl, trivial⟩, E, S.pick [4, 3, 0, 1, 2, 5, 6, 7, 8] (by decide)⟩
              · skip
                refine Wa_takeY (i := 14) rfl (by kernel_rfl) rfl rfl (.pointer (some ⟨b7, 0, none⟩)) rfl (congrArg some hb7330) (fun w' h' => x_move rfl) (⟨M, Hp.le_refl M, S.pick [0, 1, 5, 6, 7] (by decide)⟩) ?_
                refine Wa_takeY (i := 16) rfl (by kernel_rfl) rfl rfl (.pointer (some ⟨b15, 0, none⟩)) rfl (congrArg some hb7330) (fun w' h' => x_move rfl) (⟨M, Hp.le_refl M, S.pick [0, 1, 5, 6, 7] (by decide)⟩) ?_
                refine Wa_takeY (i := 17) rfl (by kernel_rfl) rfl rfl (.pointer (some ⟨b15, 0, none⟩)) rfl (congrArg some hb7330) (fun w' h' => x_nilptr rfl) (⟨M, Hp.le_refl M, S.pick [0, 1, 5, 6, 7] (by decide)⟩) ?_
                refine Wa_takeY (i := 18) rfl (by kernel_rfl) rfl rfl (.pointer (some ⟨b15, 0, none⟩)) rfl (congrArg some hb7330) (fun w' h' => x_fieldAddr (o := 0) (off := 0) Try.underlying48 rfl ty46 rfl rfl) (⟨M, Hp.le_refl M, S.pick [0, 1, 5, 6, 7] (by decide)⟩) ?_
                refine Wa_takeY (i := 19) rfl (by kernel_rfl) rfl rfl (.slice A7053 x7052.length c7054) rfl (congrArg some hb7330) (fun w' h' => x_load (cls_blk h' 0 rfl) ty46 rfl rfl) (⟨M, Hp.le_refl M, S.pick [0, 1, 5, 6, 7] (by decide)⟩) ?_
                refine Wa_takeY (i := 20) rfl (by kernel_rfl) rfl rfl (.int .i64 (x7052.length : Int)) rfl (congrArg some hb7330) (fun w' h' => x_len_slice (n := x7052.length) Try.underlying46 rfl) (⟨M, Hp.le_refl M, S.pick [0, 1, 5, 6, 7] (by decide)⟩) ?_
                refine Wa_solo (i := 15) rfl (by kernel_rfl) ?_
                refine W_yes (congrArg some hb7330) ?_
                obtain ⟨t7341, ht7342, H⟩ := bindS H
                replace S : St w7321 M F [Blk b7 (.cells #[.map (mb A7057)] 56 (0, 0)), MapC enc_latch_Name (Value.int .i64) A7057 x7056, Blk b15 (.cells #[.slice A7053 x7052.length c7054] 48 (0, 0)), Row r_ferrymanref05_Hold 64 (.slice A7053 x7052.length c7054) x7052, MapC enc_latch_Name (Value.int .i64) A7061 x7060, Blk b6658 (.cells #[.int .u8 ((rd a0 x4412).N.Kind), .int .u64 ((rd a0 x4412).N.ID)] 44 (0, 0)), Blk b6640 (.cells #[.slice A6642 t6638.L.length c6643] 48 (0, 0)), Row r_ferrymanref05_Hold 64 (.slice A6642 t6638.L.length c6643) t6638.L, Blk b6630 (.cells #[.map (mb A7061)] 56 (0, 0))] := S.pick [2, 3, 0, 1, 4, 5, 6, 7, 8] (by decide)
                refine W_callF2 fn15 (latch_Latches_All_PO.con k M A7057 c7058 (⟨x7056⟩ : latch_Latches) b7 t7341  ht7342) (Γ1 := [Blk b7 (.cells #[.map (mb A7057)] 56 (0, 0)), MapC enc_latch_Name (Value.int .i64) A7057 x7056]) (Γ2 := [Blk b15 (.cells #[.slice A7053 x7052.length c7054] 48 (0, 0)), Row r_ferrymanref05_Hold 64 (.slice A7053 x7052.length c7054) x7052, MapC enc_latch_Name (Value.int .i64) A7061 x7060, Blk b6658 (.cells #[.int .u8 ((rd a0 x4412).N.Kind), .int .u64 ((rd a0 x4412).N.ID)] 44 (0, 0)), Blk b6640 (.cells #[.slice A6642 t6638.L.length c6643] 48 (0, 0)), Row r_ferrymanref05_Hold 64 (.slice A6642 t6638.L.length c6643) t6638.L, Blk b6630 (.cells #[.map (mb A7061)] 56 (0, 0))]) S rfl rfl (by rintro _ _ _ ⟨rfl, rfl⟩; exact (flat_cons flat_blk (flat_cons flat_map flat_nil))) ?_
                rintro _ w7343 _ Γ' E' S ⟨rfl, rfl⟩
                replace E := E.trans E'
                clear E'
                replace S : St w7343 M F [Blk b7 (.cells #[.map (mb A7057)] 56 (0, 0)), MapC enc_latch_Name (Value.int .i64) A7057 x7056, Blk b15 (.cells #[.slice A7053 x7052.length c7054] 48 (0, 0)), Row r_ferrymanref05_Hold 64 (.slice A7053 x7052.length c7054) x7052, MapC enc_latch_Name (Value.int .i64) A7061 x7060, Blk b6658 (.cells #[.int .u8 ((rd a0 x4412).N.Kind), .int .u64 ((rd a0 x4412).N.ID)] 44 (0, 0)), Blk b6640 (.cells #[.slice A6642 t6638.L.length c6643] 48 (0, 0)), Row r_ferrymanref05_Hold 64 (.slice A6642 t6638.L.length c6643) t6638.L, Blk b6630 (.cells #[.map (mb A7061)] 56 (0, 0))] := S
                refine Wl_nil (on_n ⟨.inr ⟨M, Hp.le_refl M, S.pick [2, 3, 5, 6, 7] (by decide)⟩, ?_⟩)
                refine Wa_takeY (i := 21) rfl (by kernel_rfl) rfl rfl (.bool (t7341 != (x7052.length : Int))) rfl (congrArg some hb7330) (fun w' h' => x_ibin rfl rfl rfl rfl) (⟨M, Hp.le_refl M, S.pick [2, 3, 5, 6, 7] (by decide)⟩) ?_
                refine Wa_take (i := 22) rfl (by kernel_rfl) rfl rfl (.bool (t7341 != (x7052.length : Int))) rfl (fun w' h' => x_pick (k := false) (congrArg Value.bool hb7330) rfl) (⟨M, Hp.le_refl M, S.pick [2, 3, 5, 6, 7] (by decide)⟩) ?_
                exact hrest _ _ ⟨(t7341 != (x7052.length : Int)), x7056, x7060, A7057, c7058, A7061, c7062, Option.some.inj H, ⟨rfl, rfl, rfl, rfl, rfl, rfl, rfl, trivial⟩, E, S.pick [4, 1, 2, 3, 0, 5, 6, 7, 8] (by decide)⟩
            clear o7340h
            rintro ρ w7346 ⟨x7331, x7332, x7336, A7333, c7334, A7337, c7338, rfl, hρ, E, S⟩
            rw [agree_eta hρ]
            clear hρ
            have H := o7340H
            clear o7340H
            refine Wa_take (i := 23) rfl (by kernel_rfl) rfl rfl (.bool x7331) rfl (fun w' h' => x_move rfl) (⟨M, Hp.le_refl M, S.pick [2, 3, 5, 6, 7] (by decide)⟩) ?_
            obtain ⟨o7362, o7362h, o7362H⟩ := bindS H
            clear H
            refine Wa_join (fun ρ w' => ∃ (x7353 : Bool) (x7354 : List (latch_Name × Int)) (x7358 : List (latch_Name × Int)) (A7355 : Option Addr) (c7356 : Nat) (A7359 : Option Addr) (c7360 : Nat), (x7353, x7354, x7358) = o7362 ∧ Agree ρ [(0, .slice A0 a0.length c0), (3, .pointer (some ⟨b7, 0, none⟩)), (4, .pointer (some ⟨b15, 0, none⟩)), (5, .int .i64 x4412), (6, .pointer (some ⟨b6630, 0, none⟩)), (7, .pointer (some ⟨b6640, 0, none⟩)), (137, .bool x7353)] ∧ Ext w w' ∧ St w' M F [MapC enc_latch_Name (Value.int .i64) A7359 x7358, MapC enc_latch_Name (Value.int .i64) A7355 x7354, Blk b15 (.cells #[.slice A7053 x7052.length c7054] 48 (0, 0)), Row r_ferrymanref05_Hold 64 (.slice A7053 x7052.length c7054) x7052, Blk b7 (.cells #[.map (mb A7355)] 56 (0, 0)), Blk b6658 (.cells #[.int .u8 ((rd a0 x4412).N.Kind), .int .u64 ((rd a0 x4412).N.ID)] 44 (0, 0)), Blk b6640 (.cells #[.slice A6642 t6638.L.length c6643] 48 (0, 0)), Row r_ferrymanref05_Hold 64 (.slice A6642 t6638.L.length c6643) t6638.L, Blk b6630 (.cells #[.map (mb A7359)] 56 (0, 0))]) 0 (Ls 33 [0, 1, 2, 3, 4, 5, 6, 7, 8, 9, 10, 11, 12, 13, 14, 15, 16, 17, 18, 19, 20, 21, 22, 23, 24, 25, 26, 27, 28, 29, 30, 31, 32]) ?_ ?_
            rotate_left
            · intro hrest
              have H := o7362h
              clear o7362h o7362H
              rcases iteS H with ⟨hb7352, H⟩ | ⟨hb7352, H⟩
              · skip
                refine Wa_takeN (i := 24) rfl (by kernel_rfl) rfl rfl rfl (skF hb7352) (⟨M, Hp.le_refl M, S.pick [2, 3, 5, 6, 7] (by decide)⟩) ?_
                refine Wa_takeN (i := 25) rfl (by kernel_rfl) rfl rfl rfl (skF hb7352) (⟨M, Hp.le_refl M, S.pick [2, 3, 5, 6, 7] (by decide)⟩) ?_
                refine Wa_takeN (i := 26) rfl (by kernel_rfl) rfl rfl rfl (skF hb7352) (⟨M, Hp.le_refl M, S.pick [2, 3, 5, 6, 7] (by decide)⟩) ?_
                refine Wa_takeN (i := 27) rfl (by kernel_rfl) rfl rfl rfl (skF hb7352) (⟨M, Hp.le_refl M, S.pick [2, 3, 5, 6, 7] (by decide)⟩) ?_
                refine Wa_takeN (i := 28) rfl (by kernel_rfl) rfl rfl rfl (skF hb7352) (⟨M, Hp.le_refl M, S.pick [2, 3, 5, 6, 7] (by decide)⟩) ?_
                refine Wa_takeN (i := 29) rfl (by kernel_rfl) rfl rfl rfl (skF hb7352) (⟨M, Hp.le_refl M, S.pick [2, 3, 5, 6, 7] (by decide)⟩) ?_
                refine Wa_takeN (i := 30) rfl (by kernel_rfl) rfl rfl rfl (skF hb7352) (⟨M, Hp.le_refl M, S.pick [2, 3, 5, 6, 7] (by decide)⟩) ?_
                refine Wa_takeN (i := 31) rfl (by kernel_rfl) rfl rfl rfl (skF hb7352) (⟨M, Hp.le_refl M, S.pick [2, 3, 5, 6, 7] (by decide)⟩) ?_
                refine Wa_take (i := 32) rfl (by kernel_rfl) rfl rfl (.bool true) rfl (fun w' h' => x_pick (k := true) (congrArg Value.bool hb7352) rfl) (⟨M, Hp.le_refl M, S.pick [2, 3, 5, 6, 7] (by decide)⟩) ?_
                exact hrest _ _ ⟨true, x7332, x7336, A7333, c7334, A7337, c7338, Option.some.inj H, ⟨rfl, rfl, rfl, rfl, rfl, rfl, rfl, trivial⟩, E, S.pick [0, 1, 2, 3, 4, 5, 6, 7, 8] (by decide)⟩
              · skip
                refine Wa_takeY (i := 24) rfl (by kernel_rfl) rfl rfl (.pointer (some ⟨b6630, 0, none⟩)) rfl (congrArg some hb7352) (fun w' h' => x_move rfl) (⟨M, Hp.le_refl M, S.pick [2, 3, 5, 6, 7] (by decide)⟩) ?_
                refine Wa_takeY (i := 26) rfl (by kernel_rfl) rfl rfl (.pointer (some ⟨b6640, 0, none⟩)) rfl (congrArg some hb7352) (fun w' h' => x_move rfl) (⟨M, Hp.le_refl M, S.pick [2, 3, 5, 6, 7] (by decide)⟩) ?_
                refine Wa_takeY (i := 27) rfl (by kernel_rfl) rfl rfl (.pointer (some ⟨b6640, 0, none⟩)) rfl (congrArg some hb7352) (fun w' h' => x_nilptr rfl) (⟨M, Hp.le_refl M, S.pick [2, 3, 5, 6, 7] (by decide)⟩) ?_
                refine Wa_takeY (i := 28) rfl (by kernel_rfl) rfl rfl (.pointer (some ⟨b6640, 0, none⟩)) rfl (congrArg some hb7352) (fun w' h' => x_fieldAddr (o := 0) (off := 0) Try.underlying48 rfl ty46 rfl rfl) (⟨M, Hp.le_refl M, S.pick [2, 3, 5, 6, 7] (by decide)⟩) ?_
                refine Wa_takeY (i := 29) rfl (by kernel_rfl) rfl rfl (.slice A6642 t6638.L.length c6643) rfl (congrArg some hb7352) (fun w' h' => x_load (cls_blk h' 3 rfl) ty46 rfl rfl) (⟨M, Hp.le_refl M, S.pick [2, 3, 5, 6, 7] (by decide)⟩) ?_
                refine Wa_takeY (i := 30) rfl (by kernel_rfl) rfl rfl (.int .i64 (t6638.L.length : Int)) rfl (congrArg some hb7352) (fun w' h' => x_len_slice (n := t6638.L.length) Try.underlying46 rfl) (⟨M, Hp.le_refl M, S.pick [2, 3, 5, 6, 7] (by decide)⟩) ?_
                refine Wa_solo (i := 25) rfl (by kernel_rfl) ?_
                refine W_yes (congrArg some hb7352) ?_
                obtain ⟨t7363, ht7364, H⟩ := bindS H
                replace S : St w7346 M F [Blk b6630 (.cells #[.map (mb A7337)] 56 (0, 0)), MapC enc_latch_Name (Value.int .i64) A7337 x7336, MapC enc_latch_Name (Value.int .i64) A7333 x7332, Blk b15 (.cells #[.slice A7053 x7052.length c7054] 48 (0, 0)), Row r_ferrymanref05_Hold 64 (.slice A7053 x7052.length c7054) x7052, Blk b7 (.cells #[.map (mb A7333)] 56 (0, 0)), Blk b6658 (.cells #[.int .u8 ((rd a0 x4412).N.Kind), .int .u64 ((rd a0 x4412).N.ID)] 44 (0, 0)), Blk b6640 (.cells #[.slice A6642 t6638.L.length c6643] 48 (0, 0)), Row r_ferrymanref05_Hold 64 (.slice A6642 t6638.L.length c6643) t6638.L] := S.pick [8, 0, 1, 2, 3, 4, 5, 6, 7] (by decide)
                refine W_callF2 fn15 (latch_Latches_All_PO.con k M A7337 c7338 (⟨x7336⟩ : latch_Latches) b6630 t7363  ht7364) (Γ1 := [Blk b6630 (.cells #[.map (mb A7337)] 56 (0, 0)), MapC enc_latch_Name (Value.int .i64) A7337 x7336]) (Γ2 := [MapC enc_latch_Name (Value.int .i64) A7333 x7332, Blk b15 (.cells #[.slice A7053 x7052.length c7054] 48 (0, 0)), Row r_ferrymanref05_Hold 64 (.slice A7053 x7052.length c7054) x7052, Blk b7 (.cells #[.map (mb A7333)] 56 (0, 0)), Blk b6658 (.cells #[.int .u8 ((rd a0 x4412).N.Kind), .int .u64 ((rd a0 x4412).N.ID)] 44 (0, 0)), Blk b6640 (.cells #[.slice A6642 t6638.L.length c6643] 48 (0, 0)), Row r_ferrymanref05_Hold 64 (.slice A6642 t6638.L.length c6643) t6638.L]) S rfl rfl (by rintro _ _ _ ⟨rfl, rfl⟩; exact (flat_cons flat_blk (flat_cons flat_map flat_nil))) ?_
                rintro _ w7365 _ Γ' E' S ⟨rfl, rfl⟩
                replace E := E.trans E'
                clear E'
                replace S : St w7365 M F [Blk b6630 (.cells #[.map (mb A7337)] 56 (0, 0)), MapC enc_latch_Name (Value.int .i64) A7337 x7336, MapC enc_latch_Name (Value.int .i64) A7333 x7332, Blk b15 (.cells #[.slice A7053 x7052.length c7054] 48 (0, 0)), Row r_ferrymanref05_Hold 64 (.slice A7053 x7052.length c7054) x7052, Blk b7 (.cells #[.map (mb A7333)] 56 (0, 0)), Blk b6658 (.cells #[.int .u8 ((rd a0 x4412).N.Kind), .int .u64 ((rd a0 x4412).N.ID)] 44 (0, 0)), Blk b6640 (.cells #[.slice A6642 t6638.L.length c6643] 48 (0, 0)), Row r_ferrymanref05_Hold 64 (.slice A6642 t6638.L.length c6643) t6638.L] := S
                refine Wl_nil (on_n ⟨.inr ⟨M, Hp.le_refl M, S.pick [3, 4, 6, 7, 8] (by decide)⟩, ?_⟩)
                refine Wa_takeY (i := 31) rfl (by kernel_rfl) rfl rfl (.bool (t7363 != (t6638.L.length : Int))) rfl (congrArg some hb7352) (fun w' h' => x_ibin rfl rfl rfl rfl) (⟨M, Hp.le_refl M, S.pick [3, 4, 6, 7, 8] (by decide)⟩) ?_
                refine Wa_take (i := 32) rfl (by kernel_rfl) rfl rfl (.bool (t7363 != (t6638.L.length : Int))) rfl (fun w' h' => x_pick (k := false) (congrArg Value.bool hb7352) rfl) (⟨M, Hp.le_refl M, S.pick [3, 4, 6, 7, 8] (by decide)⟩) ?_
                exact hrest _ _ ⟨(t7363 != (t6638.L.length : Int)), x7332, x7336, A7333, c7334, A7337, c7338, Option.some.inj H, ⟨rfl, rfl, rfl, rfl, rfl, rfl, rfl, trivial⟩, E, S.pick [1, 2, 3, 4, 5, 6, 7, 8, 0] (by decide)⟩
            clear o7362h
            rintro ρ w7368 ⟨x7353, x7354, x7358, A7355, c7356, A7359, c7360, rfl, hρ, E, S⟩
            rw [agree_eta hρ]
            clear hρ
            have H := o7362H
            clear o7362H
            refine Wa_done (by kernel_rfl) ?_
            refine tn ?_
            rcases iteS H with ⟨hb7369, H⟩ | ⟨hb7369, H⟩
            · refine Wp_cond_true (congrArg Value.bool hb7369) ?_
              refine Wp_seq ?_
              refine Wp_region_lit ?_
              refine W_v (.bool false) (x_assign rfl) rfl ?_
              refine Wl_nil ?_
              refine tn ?_
              refine Wp_ret ?_
              refine tr (br (tr (tr (br (tr (tr (?_)))))))
              obtain rfl := Option.some.inj H
              have H := o6602H
              replace H := elimL H
              obtain rfl := Option.some.inj H
              exact ⟨_, _, _, fun w1 e1 => run_resR (vs := [.bool false]) (FA.cons (rfl) (FA.nil)), HM, E, S.pick [] (by decide), ⟨rfl, rfl⟩⟩
            refine Wp_cond_false (congrArg Value.bool hb7369) ?_
            refine Wp_skip ?_
            refine tn ?_
            refine Wp_seq ?_
            refine Wp_region_lit ?_
            refine W_v (.pointer (some ⟨b7, 0, none⟩)) (x_move rfl) rfl ?_
            refine W_v (.slice A0 a0.length c0) (x_move rfl) rfl ?_
            refine W_v (.int .i64 x4412) (x_move rfl) rfl ?_
            obtain ⟨⟨p7370, p7371⟩, H⟩ := chkS H
            obtain ⟨b7372, o7373, cs7374, _, _, ee7379, hb7375, vs7376, hR7377, hc7378⟩ := SlW.at' hr0 p7370 p7371
            obtain rfl : vs7376 = _ := hR7377
            refine W_v (.pointer (some ⟨b7372, o7373 + x4412.toNat * 4, none⟩)) (x_indexAddr Try.underlying22 ty30 (slA ee7379) rfl p7370 p7371) rfl ?_
            refine W_v (.pointer (some ⟨b7372, o7373 + x4412.toNat * 4 + 3, none⟩)) (x_fieldAddr (o := o7373 + x4412.toNat * 4) (off := 3) Try.underlying30 rfl ty3 rfl rfl) rfl ?_
            refine W_v (.int .i64 ((rd a0 x4412).Task)) (x_load (S.frz hb7375) ty3 rfl (hc7378 3 _ rfl)) rfl ?_
            obtain ⟨t7380, ht7381, H⟩ := bindS H
            replace S : St w7368 M F [Blk b7 (.cells #[.map (mb A7355)] 56 (0, 0)), MapC enc_latch_Name (Value.int .i64) A7355 x7354, MapC enc_latch_Name (Value.int .i64) A7359 x7358, Blk b15 (.cells #[.slice A7053 x7052.length c7054] 48 (0, 0)), Row r_ferrymanref05_Hold 64 (.slice A7053 x7052.length c7054) x7052, Blk b6658 (.cells #[.int .u8 ((rd a0 x4412).N.Kind), .int .u64 ((rd a0 x4412).N.ID)] 44 (0, 0)), Blk b6640 (.cells #[.slice A6642 t6638.L.length c6643] 48 (0, 0)), Row r_ferrymanref05_Hold 64 (.slice A6642 t6638.L.length c6643) t6638.L, Blk b6630 (.cells #[.map (mb A7359)] 56 (0, 0))] := S.pick [4, 1, 0, 2, 3, 5, 6, 7, 8] (by decide)
            refine W_callF2 fn16 (latch_Latches_Held_PO.con k M A7355 c7356 (⟨x7354⟩ : latch_Latches) ((rd a0 x4412).Task) b7 t7380  ht7381) (Γ1 := [Blk b7 (.cells #[.map (mb A7355)] 56 (0, 0)), MapC enc_latch_Name (Value.int .i64) A7355 x7354]) (Γ2 := [MapC enc_latch_Name (Value.int .i64) A7359 x7358, Blk b15 (.cells #[.slice A7053 x7052.length c7054] 48 (0, 0)), Row r_ferrymanref05_Hold 64 (.slice A7053 x7052.length c7054) x7052, Blk b6658 (.cells #[.int .u8 ((rd a0 x4412).N.Kind), .int .u64 ((rd a0 x4412).N.ID)] 44 (0, 0)), Blk b6640 (.cells #[.slice A6642 t6638.L.length c6643] 48 (0, 0)), Row r_ferrymanref05_Hold 64 (.slice A6642 t6638.L.length c6643) t6638.L, Blk b6630 (.cells #[.map (mb A7359)] 56 (0, 0))]) S rfl rfl (by rintro _ _ _ ⟨_, _, rfl, rfl⟩; exact (flat_cons (flat_row (fun _ _ _ _ h => h)) (flat_cons flat_blk (flat_cons flat_map flat_nil)))) ?_
            rintro _ w7385 _ Γ' E' S ⟨A7382, c7383, rfl, rfl⟩
            replace E := E.trans E'
            clear E'
            replace S : St w7385 M F [Row r_latch_Name 25 (.slice A7382 t7380.length c7383) t7380, Blk b7 (.cells #[.map (mb A7355)] 56 (0, 0)), MapC enc_latch_Name (Value.int .i64) A7355 x7354, MapC enc_latch_Name (Value.int .i64) A7359 x7358, Blk b15 (.cells #[.slice A7053 x7052.length c7054] 48 (0, 0)), Row r_ferrymanref05_Hold 64 (.slice A7053 x7052.length c7054) x7052, Blk b6658 (.cells #[.int .u8 ((rd a0 x4412).N.Kind), .int .u64 ((rd a0 x4412).N.ID)] 44 (0, 0)), Blk b6640 (.cells #[.slice A6642 t6638.L.length c6643] 48 (0, 0)), Row r_ferrymanref05_Hold 64 (.slice A6642 t6638.L.length c6643) t6638.L, Blk b6630 (.cells #[.map (mb A7359)] 56 (0, 0))] := S
            refine W_v (.slice A7382 t7380.length c7383) (x_assign rfl) rfl ?_
            refine Wl_nil ?_
            refine tn ?_
            refine Wp_seq ?_
            refine Wp_seq ?_
            refine Wp_region_any (S := fun w' => ∃ Mx, M.le Mx ∧ St w' Mx F [Row r_latch_Name 25 (.slice A7382 t7380.length c7383) t7380, Blk b15 (.cells #[.slice A7053 x7052.length c7054] 48 (0, 0)), Row r_ferrymanref05_Hold 64 (.slice A7053 x7052.length c7054) x7052, Blk b6658 (.cells #[.int .u8 ((rd a0 x4412).N.Kind), .int .u64 ((rd a0 x4412).N.ID)] 44 (0, 0)), Blk b6640 (.cells #[.slice A6642 t6638.L.length c6643] 48 (0, 0)), Row r_ferrymanref05_Hold 64 (.slice A6642 t6638.L.length c6643) t6638.L]) (L := 28) mixed ?_
            intro w7517 hw7518 E'
            replace S := S.heap hw7518
            replace E := E.trans E'
            clear E'
            refine Wa_take (i := 0) rfl (by kernel_rfl) rfl rfl (.slice A7382 t7380.length c7383) rfl (fun w' h' => x_move rfl) (⟨M, Hp.le_refl M, S.pick [0, 4, 5, 6, 7, 8] (by decide)⟩) ?_
            refine Wa_take (i := 2) rfl (by kernel_rfl) rfl rfl (.pointer (some ⟨b15, 0, none⟩)) rfl (fun w' h' => x_move rfl) (⟨M, Hp.le_refl M, S.pick [0, 4, 5, 6, 7, 8] (by decide)⟩) ?_
            refine Wa_take (i := 3) rfl (by kernel_rfl) rfl rfl (.slice A0 a0.length c0) rfl (fun w' h' => x_move rfl) (⟨M, Hp.le_refl M, S.pick [0, 4, 5, 6, 7, 8] (by decide)⟩) ?_
            refine Wa_take (i := 4) rfl (by kernel_rfl) rfl rfl (.int .i64 x4412) rfl (fun w' h' => x_move rfl) (⟨M, Hp.le_refl M, S.pick [0, 4, 5, 6, 7, 8] (by decide)⟩) ?_
            obtain ⟨⟨p7519, p7520⟩, H⟩ := chkS H
            obtain ⟨b7521, o7522, cs7523, _, _, ee7528, hb7524, vs7525, hR7526, hc7527⟩ := SlW.at' hr0 p7519 p7520
            obtain rfl : vs7525 = _ := hR7526
            refine Wa_take (i := 5) rfl (by kernel_rfl) rfl rfl (.pointer (some ⟨b7521, o7522 + x4412.toNat * 4, none⟩)) rfl (fun w' h' => x_indexAddr Try.underlying22 ty30 (slA ee7528) rfl p7519 p7520) (⟨M, Hp.le_refl M, S.pick [0, 4, 5, 6, 7, 8] (by decide)⟩) ?_
            refine Wa_take (i := 6) rfl (by kernel_rfl) rfl rfl (.pointer (some ⟨b7521, o7522 + x4412.toNat * 4 + 3, none⟩)) rfl (fun w' h' => x_fieldAddr (o := o7522 + x4412.toNat * 4) (off := 3) Try.underlying30 rfl ty3 rfl rfl) (⟨M, Hp.le_refl M, S.pick [0, 4, 5, 6, 7, 8] (by decide)⟩) ?_
            refine Wa_take (i := 7) rfl (by kernel_rfl) rfl rfl (.int .i64 ((rd a0 x4412).Task)) rfl (fun w' h' => x_load (cls_frz h' hb7524) ty3 rfl (hc7527 3 _ rfl)) (⟨M, Hp.le_refl M, S.pick [0, 4, 5, 6, 7, 8] (by decide)⟩) ?_
            refine Wa_solo (i := 1) rfl (by kernel_rfl) ?_
            obtain ⟨t7529, ht7530, H⟩ := bindS H
            refine W_callN 1 fn19 (fun h9 hs9 hd9 => ferrymanlaw05_names.con k _ A7382 c7383 t7380 t7529 (Sats.row hs9 hd9 0 rfl) ht7530) S rfl rfl (by rintro _ _ _ ⟨_, _, _, rfl⟩; exact (flat_cons (flat_row (fun _ _ _ _ h => h)) flat_nil)) ?_
            rintro _ w7534 _ Γ' E' S ⟨A7531, c7532, rfl, rfl⟩
            replace E := E.trans E'
            clear E'
            refine Wl_nil (on_n ⟨.inr ⟨M, Hp.le_refl M, S.pick [1, 5, 6, 7, 8, 9] (by decide)⟩, ?_⟩)
            refine Wa_solo (i := 8) rfl (by kernel_rfl) ?_
            obtain ⟨t7535, ht7536, H⟩ := bindS H
            replace S : St w7534 M F [Blk b15 (.cells #[.slice A7053 x7052.length c7054] 48 (0, 0)), Row r_ferrymanref05_Hold 64 (.slice A7053 x7052.length c7054) x7052, Row r_ferrymanref05_Name 44 (.slice A7531 t7529.length c7532) t7529, Row r_latch_Name 25 (.slice A7382 t7380.length c7383) t7380, Blk b7 (.cells #[.map (mb A7355)] 56 (0, 0)), MapC enc_latch_Name (Value.int .i64) A7355 x7354, MapC enc_latch_Name (Value.int .i64) A7359 x7358, Blk b6658 (.cells #[.int .u8 ((rd a0 x4412).N.Kind), .int .u64 ((rd a0 x4412).N.ID)] 44 (0, 0)), Blk b6640 (.cells #[.slice A6642 t6638.L.length c6643] 48 (0, 0)), Row r_ferrymanref05_Hold 64 (.slice A6642 t6638.L.length c6643) t6638.L, Blk b6630 (.cells #[.map (mb A7359)] 56 (0, 0))] := S.pick [5, 6, 0, 1, 2, 3, 4, 7, 8, 9, 10] (by decide)
            refine W_callF2 fn24 (ferrymanref05_Latches_Held_PO.con k M A7053 c7054 (⟨x7052⟩ : ferrymanref05_Latches) ((rd a0 x4412).Task) b15 t7535  ht7536) (Γ1 := [Blk b15 (.cells #[.slice A7053 x7052.length c7054] 48 (0, 0)), Row r_ferrymanref05_Hold 64 (.slice A7053 x7052.length c7054) x7052]) (Γ2 := [Row r_ferrymanref05_Name 44 (.slice A7531 t7529.length c7532) t7529, Row r_latch_Name 25 (.slice A7382 t7380.length c7383) t7380, Blk b7 (.cells #[.map (mb A7355)] 56 (0, 0)), MapC enc_latch_Name (Value.int .i64) A7355 x7354, MapC enc_latch_Name (Value.int .i64) A7359 x7358, Blk b6658 (.cells #[.int .u8 ((rd a0 x4412).N.Kind), .int .u64 ((rd a0 x4412).N.ID)] 44 (0, 0)), Blk b6640 (.cells #[.slice A6642 t6638.L.length c6643] 48 (0, 0)), Row r_ferrymanref05_Hold 64 (.slice A6642 t6638.L.length c6643) t6638.L, Blk b6630 (.cells #[.map (mb A7359)] 56 (0, 0))]) S rfl rfl (by rintro _ _ _ ⟨_, _, rfl, rfl⟩; exact (flat_cons (flat_row (fun _ _ _ _ h => h)) (flat_cons flat_blk (flat_cons (flat_row (fun _ _ _ _ h => h)) flat_nil)))) ?_
            rintro _ w7540 _ Γ' E' S ⟨A7537, c7538, rfl, rfl⟩
            replace E := E.trans E'
            clear E'
            replace S : St w7540 M F [Row r_ferrymanref05_Name 44 (.slice A7537 t7535.length c7538) t7535, Blk b15 (.cells #[.slice A7053 x7052.length c7054] 48 (0, 0)), Row r_ferrymanref05_Hold 64 (.slice A7053 x7052.length c7054) x7052, Row r_ferrymanref05_Name 44 (.slice A7531 t7529.length c7532) t7529, Row r_latch_Name 25 (.slice A7382 t7380.length c7383) t7380, Blk b7 (.cells #[.map (mb A7355)] 56 (0, 0)), MapC enc_latch_Name (Value.int .i64) A7355 x7354, MapC enc_latch_Name (Value.int .i64) A7359 x7358, Blk b6658 (.cells #[.int .u8 ((rd a0 x4412).N.Kind), .int .u64 ((rd a0 x4412).N.ID)] 44 (0, 0)), Blk b6640 (.cells #[.slice A6642 t6638.L.length c6643] 48 (0, 0)), Row r_ferrymanref05_Hold 64 (.slice A6642 t6638.L.length c6643) t6638.L, Blk b6630 (.cells #[.map (mb A7359)] 56 (0, 0))] := S
            refine Wl_nil (on_n ⟨.inr ⟨M, Hp.le_refl M, S.pick [4, 1, 2, 8, 9, 10] (by decide)⟩, ?_⟩)
            refine Wa_solo (i := 9) rfl (by kernel_rfl) ?_
            replace S : St w7540 M F [Row r_ferrymanref05_Name 44 (.slice A7531 t7529.length c7532) t7529, Row r_ferrymanref05_Name 44 (.slice A7537 t7535.length c7538) t7535, Blk b15 (.cells #[.slice A7053 x7052.length c7054] 48 (0, 0)), Row r_ferrymanref05_Hold 64 (.slice A7053 x7052.length c7054) x7052, Row r_latch_Name 25 (.slice A7382 t7380.length c7383) t7380, Blk b7 (.cells #[.map (mb A7355)] 56 (0, 0)), MapC enc_latch_Name (Value.int .i64) A7355 x7354, MapC enc_latch_Name (Value.int .i64) A7359 x7358, Blk b6658 (.cells #[.int .u8 ((rd a0 x4412).N.Kind), .int .u64 ((rd a0 x4412).N.ID)] 44 (0, 0)), Blk b6640 (.cells #[.slice A6642 t6638.L.length c6643] 48 (0, 0)), Row r_ferrymanref05_Hold 64 (.slice A6642 t6638.L.length c6643) t6638.L, Blk b6630 (.cells #[.map (mb A7359)] 56 (0, 0))] := S.pick [3, 0, 1, 2, 4, 5, 6, 7, 8, 9, 10, 11] (by decide)
            obtain ⟨t7543, ht7544, H⟩ := bindS H
            refine W_callN 2 fn18 (fun h9 hs9 hd9 => ferrymanref05_Names.con k _ A7531 c7532 t7529 A7537 c7538 t7535 t7543 (Sats.row hs9 hd9 0 rfl) (Sats.row hs9 hd9 1 rfl) ht7544) S rfl rfl (by rintro _ _ _ ⟨_, rfl⟩; exact flat_nil) ?_
            rintro _ w7545 _ Γ' E' S ⟨rfl, rfl⟩
            replace E := E.trans E'
            clear E'
            refine Wl_nil (on_n ⟨.inr ⟨M, Hp.le_refl M, S.pick [4, 2, 3, 8, 9, 10] (by decide)⟩, ?_⟩)
            refine Wa_take (i := 10) rfl (by kernel_rfl) rfl rfl (.bool (!t7543)) rfl (fun w' h' => x_not rfl) (⟨M, Hp.le_refl M, S.pick [4, 2, 3, 8, 9, 10] (by decide)⟩) ?_
            refine Wa_take (i := 11) rfl (by kernel_rfl) rfl rfl (.bool (!t7543)) rfl (fun w' h' => x_move rfl) (⟨M, Hp.le_refl M, S.pick [4, 2, 3, 8, 9, 10] (by decide)⟩) ?_
            obtain ⟨o7601, o7601h, o7601H⟩ := bindS H
            clear H
            refine Wa_join (fun ρ w' => ∃ (x7592 : Bool) (x7593 : List (latch_Name × Int)) (x7597 : List (latch_Name × Int)) (A7594 : Option Addr) (c7595 : Nat) (A7598 : Option Addr) (c7599 : Nat), (x7592, x7593, x7597) = o7601 ∧ Agree ρ [(0, .slice A0 a0.length c0), (3, .pointer (some ⟨b7, 0, none⟩)), (4, .pointer (some ⟨b15, 0, none⟩)), (5, .int .i64 x4412), (15, .slice A7382 t7380.length c7383), (172, .bool x7592)] ∧ Ext w w' ∧ St w' M F [MapC enc_latch_Name (Value.int .i64) A7598 x7597, MapC enc_latch_Name (Value.int .i64) A7594 x7593, Blk b15 (.cells #[.slice A7053 x7052.length c7054] 48 (0, 0)), Row r_ferrymanref05_Hold 64 (.slice A7053 x7052.length c7054) x7052, Row r_latch_Name 25 (.slice A7382 t7380.length c7383) t7380, Blk b7 (.cells #[.map (mb A7594)] 56 (0, 0)), Blk b6658 (.cells #[.int .u8 ((rd a0 x4412).N.Kind), .int .u64 ((rd a0 x4412).N.ID)] 44 (0, 0)), Blk b6640 (.cells #[.slice A6642 t6638.L.length c6643] 48 (0, 0)), Row r_ferrymanref05_Hold 64 (.slice A6642 t6638.L.length c6643) t6638.L, Blk b6630 (.cells #[.map (mb A7598)] 56 (0, 0))]) 0 (Ls 28 [0, 2, 3, 4, 5, 6, 7, 1, 8, 9, 10, 11, 12, 13, 14, 15, 16, 17, 18, 19, 20, 21, 22, 23, 24, 25, 26, 27]) ?_ ?_
            rotate_left
            · intro hrest
              have H := o7601h
              clear o7601h o7601H
              rcases iteS H with ⟨hb7591, H⟩ | ⟨hb7591, H⟩
              · skip
                refine Wa_takeN (i := 12) rfl (by kernel_rfl) rfl rfl rfl (skF hb7591) (⟨M, Hp.le_refl M, S.pick [4, 2, 3, 8, 9, 10] (by decide)⟩) ?_
                refine Wa_takeN (i := 13) rfl (by kernel_rfl) rfl rfl rfl (skF hb7591) (⟨M, Hp.le_refl M, S.pick [4, 2, 3, 8, 9, 10] (by decide)⟩) ?_
                refine Wa_takeN (i := 14) rfl (by kernel_rfl) rfl rfl rfl (skF hb7591) (⟨M, Hp.le_refl M, S.pick [4, 2, 3, 8, 9, 10] (by decide)⟩) ?_
                refine Wa_takeN (i := 15) rfl (by kernel_rfl) rfl rfl rfl (skF hb7591) (⟨M, Hp.le_refl M, S.pick [4, 2, 3, 8, 9, 10] (by decide)⟩) ?_
                refine Wa_takeN (i := 16) rfl (by kernel_rfl) rfl rfl rfl (skF hb7591) (⟨M, Hp.le_refl M, S.pick [4, 2, 3, 8, 9, 10] (by decide)⟩) ?_
                refine Wa_takeN (i := 17) rfl (by kernel_rfl) rfl rfl rfl (skF hb7591) (⟨M, Hp.le_refl M, S.pick [4, 2, 3, 8, 9, 10] (by decide)⟩) ?_
                refine Wa_takeN (i := 18) rfl (by kernel_rfl) rfl rfl rfl (skF hb7591) (⟨M, Hp.le_refl M, S.pick [4, 2, 3, 8, 9, 10] (by decide)⟩) ?_
                refine Wa_takeN (i := 19) rfl (by kernel_rfl) rfl rfl rfl (skF hb7591) (⟨M, Hp.le_refl M, S.pick [4, 2, 3, 8, 9, 10] (by decide)⟩) ?_
                refine Wa_takeN (i := 20) rfl (by kernel_rfl) rfl rfl rfl (skF hb7591) (⟨M, Hp.le_refl M, S.pick [4, 2, 3, 8, 9, 10] (by decide)⟩) ?_
                refine Wa_takeN (i := 21) rfl (by kernel_rfl) rfl rfl rfl (skF hb7591) (⟨M, Hp.le_refl M, S.pick [4, 2, 3, 8, 9, 10] (by decide)⟩) ?_
                refine Wa_takeN (i := 22) rfl (by kernel_rfl) rfl rfl rfl (skF hb7591) (⟨M, Hp.le_refl M, S.pick [4, 2, 3, 8, 9, 10] (by decide)⟩) ?_
                refine Wa_takeN (i := 23) rfl (by kernel_rfl) rfl rfl rfl (skF hb7591) (⟨M, Hp.le_refl M, S.pick [4, 2, 3, 8, 9, 10] (by decide)⟩) ?_
                refine Wa_takeN (i := 24) rfl (by kernel_rfl) rfl rfl rfl (skF hb7591) (⟨M, Hp.le_refl M, S.pick [4, 2, 3, 8, 9, 10] (by decide)⟩) ?_
                refine Wa_takeN (i := 25) rfl (by kernel_rfl) rfl rfl rfl (skF hb7591) (⟨M, Hp.le_refl M, S.pick [4, 2, 3, 8, 9, 10] (by decide)⟩) ?_
                refine Wa_takeN (i := 26) rfl (by kernel_rfl) rfl rfl rfl (skF hb7591) (⟨M, Hp.le_refl M, S.pick [4, 2, 3, 8, 9, 10] (by decide)⟩) ?_
                refine Wa_take (i := 27) rfl (by kernel_rfl) rfl rfl (.bool true) rfl (fun w' h' => x_pick (k := true) (congrArg Value.bool hb7591) rfl) (⟨M, Hp.le_refl M, S.pick [4, 2, 3, 8, 9, 10] (by decide)⟩) ?_
                exact hrest _ _ ⟨true, x7354, x7358, A7355, c7356, A7359, c7360, Option.some.inj H, ⟨rfl, rfl, rfl, rfl, rfl, rfl, trivial⟩, E, S.pick [7, 6, 2, 3, 4, 5, 8, 9, 10, 11] (by decide)⟩
              · skip
                refine Wa_takeY (i := 12) rfl (by kernel_rfl) rfl rfl (.pointer (some ⟨b6630, 0, none⟩)) rfl (congrArg some hb7591) (fun w' h' => x_move rfl) (⟨M, Hp.le_refl M, S.pick [4, 2, 3, 8, 9, 10] (by decide)⟩) ?_
                refine Wa_takeY (i := 13) rfl (by kernel_rfl) rfl rfl (.slice A0 a0.length c0) rfl (congrArg some hb7591) (fun w' h' => x_move rfl) (⟨M, Hp.le_refl M, S.pick [4, 2, 3, 8, 9, 10] (by decide)⟩) ?_
                obtain ⟨⟨p7602, p7603⟩, H⟩ := chkS H
                obtain ⟨b7604, o7605, cs7606, _, _, ee7611, hb7607, vs7608, hR7609, hc7610⟩ := SlW.at' hr0 p7602 p7603
                obtain rfl : vs7608 = _ := hR7609
                refine Wa_takeY (i := 14) rfl (by kernel_rfl) rfl rfl (.pointer (some ⟨b7604, o7605 + (0 : Int).toNat * 4, none⟩)) rfl (congrArg some hb7591) (fun w' h' => x_indexAddr Try.underlying22 ty30 (slA ee7611) rfl p7602 p7603) (⟨M, Hp.le_refl M, S.pick [4, 2, 3, 8, 9, 10] (by decide)⟩) ?_
                refine Wa_takeY (i := 15) rfl (by kernel_rfl) rfl rfl (.pointer (some ⟨b7604, o7605 + (0 : Int).toNat * 4 + 3, none⟩)) rfl (congrArg some hb7591) (fun w' h' => x_fieldAddr (o := o7605 + (0 : Int).toNat * 4) (off := 3) Try.underlying30 rfl ty3 rfl rfl) (⟨M, Hp.le_refl M, S.pick [4, 2, 3, 8, 9, 10] (by decide)⟩) ?_
                refine Wa_takeY (i := 16) rfl (by kernel_rfl) rfl rfl (.int .i64 ((rd a0 (0 : Int)).Task)) rfl (congrArg some hb7591) (fun w' h' => x_load (cls_frz h' hb7607) ty3 rfl (hc7610 3 _ rfl)) (⟨M, Hp.le_refl M, S.pick [4, 2, 3, 8, 9, 10] (by decide)⟩) ?_
                refine Wa_takeY (i := 19) rfl (by kernel_rfl) rfl rfl (.pointer (some ⟨b6640, 0, none⟩)) rfl (congrArg some hb7591) (fun w' h' => x_move rfl) (⟨M, Hp.le_refl M, S.pick [4, 2, 3, 8, 9, 10] (by decide)⟩) ?_
                refine Wa_takeY (i := 20) rfl (by kernel_rfl) rfl rfl (.slice A0 a0.length c0) rfl (congrArg some hb7591) (fun w' h' => x_move rfl) (⟨M, Hp.le_refl M, S.pick [4, 2, 3, 8, 9, 10] (by decide)⟩) ?_
                obtain ⟨⟨p7612, p7613⟩, H⟩ := chkS H
                obtain ⟨b7614, o7615, cs7616, _, _, ee7621, hb7617, vs7618, hR7619, hc7620⟩ := SlW.at' hr0 p7612 p7613
                obtain rfl : vs7618 = _ := hR7619
                refine Wa_takeY (i := 21) rfl (by kernel_rfl) rfl rfl (.pointer (some ⟨b7614, o7615 + (0 : Int).toNat * 4, none⟩)) rfl (congrArg some hb7591) (fun w' h' => x_indexAddr Try.underlying22 ty30 (slA ee7621) rfl p7612 p7613) (⟨M, Hp.le_refl M, S.pick [4, 2, 3, 8, 9, 10] (by decide)⟩) ?_
                refine Wa_takeY (i := 22) rfl (by kernel_rfl) rfl rfl (.pointer (some ⟨b7614, o7615 + (0 : Int).toNat * 4 + 3, none⟩)) rfl (congrArg some hb7591) (fun w' h' => x_fieldAddr (o := o7615 + (0 : Int).toNat * 4) (off := 3) Try.underlying30 rfl ty3 rfl rfl) (⟨M, Hp.le_refl M, S.pick [4, 2, 3, 8, 9, 10] (by decide)⟩) ?_
                refine Wa_takeY (i := 23) rfl (by kernel_rfl) rfl rfl (.int .i64 ((rd a0 (0 : Int)).Task)) rfl (congrArg some hb7591) (fun w' h' => x_load (cls_frz h' hb7617) ty3 rfl (hc7620 3 _ rfl)) (⟨M, Hp.le_refl M, S.pick [4, 2, 3, 8, 9, 10] (by decide)⟩) ?_
                refine Wa_solo (i := 17) rfl (by kernel_rfl) ?_
                refine W_yes (congrArg some hb7591) ?_
                obtain ⟨t7622, ht7623, H⟩ := bindS H
                replace S : St w7545 M F [Blk b6630 (.cells #[.map (mb A7359)] 56 (0, 0)), MapC enc_latch_Name (Value.int .i64) A7359 x7358, Row r_ferrymanref05_Name 44 (.slice A7531 t7529.length c7532) t7529, Row r_ferrymanref05_Name 44 (.slice A7537 t7535.length c7538) t7535, Blk b15 (.cells #[.slice A7053 x7052.length c7054] 48 (0, 0)), Row r_ferrymanref05_Hold 64 (.slice A7053 x7052.length c7054) x7052, Row r_latch_Name 25 (.slice A7382 t7380.length c7383) t7380, Blk b7 (.cells #[.map (mb A7355)] 56 (0, 0)), MapC enc_latch_Name (Value.int .i64) A7355 x7354, Blk b6658 (.cells #[.int .u8 ((rd a0 x4412).N.Kind), .int .u64 ((rd a0 x4412).N.ID)] 44 (0, 0)), Blk b6640 (.cells #[.slice A6642 t6638.L.length c6643] 48 (0, 0)), Row r_ferrymanref05_Hold 64 (.slice A6642 t6638.L.length c6643) t6638.L] := S.pick [11, 7, 0, 1, 2, 3, 4, 5, 6, 8, 9, 10] (by decide)
                refine W_callF2 fn16 (latch_Latches_Held_PO.con k M A7359 c7360 (⟨x7358⟩ : latch_Latches) ((rd a0 (0 : Int)).Task) b6630 t7622  ht7623) (Γ1 := [Blk b6630 (.cells #[.map (mb A7359)] 56 (0, 0)), MapC enc_latch_Name (Value.int .i64) A7359 x7358]) (Γ2 := [Row r_ferrymanref05_Name 44 (.slice A7531 t7529.length c7532) t7529, Row r_ferrymanref05_Name 44 (.slice A7537 t7535.length c7538) t7535, Blk b15 (.cells #[.slice A7053 x7052.length c7054] 48 (0, 0)), Row r_ferrymanref05_Hold 64 (.slice A7053 x7052.length c7054) x7052, Row r_latch_Name 25 (.slice A7382 t7380.length c7383) t7380, Blk b7 (.cells #[.map (mb A7355)] 56 (0, 0)), MapC enc_latch_Name (Value.int .i64) A7355 x7354, Blk b6658 (.cells #[.int .u8 ((rd a0 x4412).N.Kind), .int .u64 ((rd a0 x4412).N.ID)] 44 (0, 0)), Blk b6640 (.cells #[.slice A6642 t6638.L.length c6643] 48 (0, 0)), Row r_ferrymanref05_Hold 64 (.slice A6642 t6638.L.length c6643) t6638.L]) S rfl rfl (by rintro _ _ _ ⟨_, _, rfl, rfl⟩; exact (flat_cons (flat_row (fun _ _ _ _ h => h)) (flat_cons flat_blk (flat_cons flat_map flat_nil)))) ?_
                rintro _ w7627 _ Γ' E' S ⟨A7624, c7625, rfl, rfl⟩
                replace E := E.trans E'
                clear E'
                replace S : St w7627 M F [Row r_latch_Name 25 (.slice A7624 t7622.length c7625) t7622, Blk b6630 (.cells #[.map (mb A7359)] 56 (0, 0)), MapC enc_latch_Name (Value.int .i64) A7359 x7358, Row r_ferrymanref05_Name 44 (.slice A7531 t7529.length c7532) t7529, Row r_ferrymanref05_Name 44 (.slice A7537 t7535.length c7538) t7535, Blk b15 (.cells #[.slice A7053 x7052.length c7054] 48 (0, 0)), Row r_ferrymanref05_Hold 64 (.slice A7053 x7052.length c7054) x7052, Row r_latch_Name 25 (.slice A7382 t7380.length c7383) t7380, Blk b7 (.cells #[.map (mb A7355)] 56 (0, 0)), MapC enc_latch_Name (Value.int .i64) A7355 x7354, Blk b6658 (.cells #[.int .u8 ((rd a0 x4412).N.Kind), .int .u64 ((rd a0 x4412).N.ID)] 44 (0, 0)), Blk b6640 (.cells #[.slice A6642 t6638.L.length c6643] 48 (0, 0)), Row r_ferrymanref05_Hold 64 (.slice A6642 t6638.L.length c6643) t6638.L] := S
                refine Wl_nil (on_n ⟨.inr ⟨M, Hp.le_refl M, S.pick [7, 5, 6, 10, 11, 12] (by decide)⟩, ?_⟩)
                refine Wa_solo (i := 18) rfl (by kernel_rfl) ?_
                refine W_yes (congrArg some hb7591) ?_
                obtain ⟨t7630, ht7631, H⟩ := bindS H
                refine W_callN 1 fn19 (fun h9 hs9 hd9 => ferrymanlaw05_names.con k _ A7624 c7625 t7622 t7630 (Sats.row hs9 hd9 0 rfl) ht7631) S rfl rfl (by rintro _ _ _ ⟨_, _, _, rfl⟩; exact (flat_cons (flat_row (fun _ _ _ _ h => h)) flat_nil)) ?_
                rintro _ w7635 _ Γ' E' S ⟨A7632, c7633, rfl, rfl⟩
                replace E := E.trans E'
                clear E'
                refine Wl_nil (on_n ⟨.inr ⟨M, Hp.le_refl M, S.pick [8, 6, 7, 11, 12, 13] (by decide)⟩, ?_⟩)
                refine Wa_solo (i := 24) rfl (by kernel_rfl) ?_
                refine W_yes (congrArg some hb7591) ?_
                obtain ⟨t7636, ht7637, H⟩ := bindS H
                replace S : St w7635 M F [Blk b6640 (.cells #[.slice A6642 t6638.L.length c6643] 48 (0, 0)), Row r_ferrymanref05_Hold 64 (.slice A6642 t6638.L.length c6643) t6638.L, Row r_ferrymanref05_Name 44 (.slice A7632 t7630.length c7633) t7630, Row r_latch_Name 25 (.slice A7624 t7622.length c7625) t7622, Blk b6630 (.cells #[.map (mb A7359)] 56 (0, 0)), MapC enc_latch_Name (Value.int .i64) A7359 x7358, Row r_ferrymanref05_Name 44 (.slice A7531 t7529.length c7532) t7529, Row r_ferrymanref05_Name 44 (.slice A7537 t7535.length c7538) t7535, Blk b15 (.cells #[.slice A7053 x7052.length c7054] 48 (0, 0)), Row r_ferrymanref05_Hold 64 (.slice A7053 x7052.length c7054) x7052, Row r_latch_Name 25 (.slice A7382 t7380.length c7383) t7380, Blk b7 (.cells #[.map (mb A7355)] 56 (0, 0)), MapC enc_latch_Name (Value.int .i64) A7355 x7354, Blk b6658 (.cells #[.int .u8 ((rd a0 x4412).N.Kind), .int .u64 ((rd a0 x4412).N.ID)] 44 (0, 0))] := S.pick [12, 13, 0, 1, 2, 3, 4, 5, 6, 7, 8, 9, 10, 11] (by decide)
                refine W_callF2 fn24 (ferrymanref05_Latches_Held_PO.con k M A6642 c6643 t6638 ((rd a0 (0 : Int)).Task) b6640 t7636  ht7637) (Γ1 := [Blk b6640 (.cells #[.slice A6642 t6638.L.length c6643] 48 (0, 0)), Row r_ferrymanref05_Hold 64 (.slice A6642 t6638.L.length c6643) t6638.L]) (Γ2 := [Row r_ferrymanref05_Name 44 (.slice A7632 t7630.length c7633) t7630, Row r_latch_Name 25 (.slice A7624 t7622.length c7625) t7622, Blk b6630 (.cells #[.map (mb A7359)] 56 (0, 0)), MapC enc_latch_Name (Value.int .i64) A7359 x7358, Row r_ferrymanref05_Name 44 (.slice A7531 t7529.length c7532) t7529, Row r_ferrymanref05_Name 44 (.slice A7537 t7535.length c7538) t7535, Blk b15 (.cells #[.slice A7053 x7052.length c7054] 48 (0, 0)), Row r_ferrymanref05_Hold 64 (.slice A7053 x7052.length c7054) x7052, Row r_latch_Name 25 (.slice A7382 t7380.length c7383) t7380, Blk b7 (.cells #[.map (mb A7355)] 56 (0, 0)), MapC enc_latch_Name (Value.int .i64) A7355 x7354, Blk b6658 (.cells #[.int .u8 ((rd a0 x4412).N.Kind), .int .u64 ((rd a0 x4412).N.ID)] 44 (0, 0))]) S rfl rfl (by rintro _ _ _ ⟨_, _, rfl, rfl⟩; exact (flat_cons (flat_row (fun _ _ _ _ h => h)) (flat_cons flat_blk (flat_cons (flat_row (fun _ _ _ _ h => h)) flat_nil)))) ?_
                rintro _ w7641 _ Γ' E' S ⟨A7638, c7639, rfl, rfl⟩
                replace E := E.trans E'
                clear E'
                replace S : St w7641 M F [Row r_ferrymanref05_Name 44 (.slice A7638 t7636.length c7639) t7636, Blk b6640 (.cells #[.slice A6642 t6638.L.length c6643] 48 (0, 0)), Row r_ferrymanref05_Hold 64 (.slice A6642 t6638.L.length c6643) t6638.L, Row r_ferrymanref05_Name 44 (.slice A7632 t7630.length c7633) t7630, Row r_latch_Name 25 (.slice A7624 t7622.length c7625) t7622, Blk b6630 (.cells #[.map (mb A7359)] 56 (0, 0)), MapC enc_latch_Name (Value.int .i64) A7359 x7358, Row r_ferrymanref05_Name 44 (.slice A7531 t7529.length c7532) t7529, Row r_ferrymanref05_Name 44 (.slice A7537 t7535.length c7538) t7535, Blk b15 (.cells #[.slice A7053 x7052.length c7054] 48 (0, 0)), Row r_ferrymanref05_Hold 64 (.slice A7053 x7052.length c7054) x7052, Row r_latch_Name 25 (.slice A7382 t7380.length c7383) t7380, Blk b7 (.cells #[.map (mb A7355)] 56 (0, 0)), MapC enc_latch_Name (Value.int .i64) A7355 x7354, Blk b6658 (.cells #[.int .u8 ((rd a0 x4412).N.Kind), .int .u64 ((rd a0 x4412).N.ID)] 44 (0, 0))] := S
                refine Wl_nil (on_n ⟨.inr ⟨M, Hp.le_refl M, S.pick [11, 9, 10, 14, 1, 2] (by decide)⟩, ?_⟩)
                refine Wa_solo (i := 25) rfl (by kernel_rfl) ?_
                refine W_yes (congrArg some hb7591) ?_
                replace S : St w7641 M F [Row r_ferrymanref05_Name 44 (.slice A7632 t7630.length c7633) t7630, Row r_ferrymanref05_Name 44 (.slice A7638 t7636.length c7639) t7636, Blk b6640 (.cells #[.slice A6642 t6638.L.length c6643] 48 (0, 0)), Row r_ferrymanref05_Hold 64 (.slice A6642 t6638.L.length c6643) t6638.L, Row r_latch_Name 25 (.slice A7624 t7622.length c7625) t7622, Blk b6630 (.cells #[.map (mb A7359)] 56 (0, 0)), MapC enc_latch_Name (Value.int .i64) A7359 x7358, Row r_ferrymanref05_Name 44 (.slice A7531 t7529.length c7532) t7529, Row r_ferrymanref05_Name 44 (.slice A7537 t7535.length c7538) t7535, Blk b15 (.cells #[.slice A7053 x7052.length c7054] 48 (0, 0)), Row r_ferrymanref05_Hold 64 (.slice A7053 x7052.length c7054) x7052, Row r_latch_Name 25 (.slice A7382 t7380.length c7383) t7380, Blk b7 (.cells #[.map (mb A7355)] 56 (0, 0)), MapC enc_latch_Name (Value.int .i64) A7355 x7354, Blk b6658 (.cells #[.int .u8 ((rd a0 x4412).N.Kind), .int .u64 ((rd a0 x4412).N.ID)] 44 (0, 0))] := S.pick [3, 0, 1, 2, 4, 5, 6, 7, 8, 9, 10, 11, 12, 13, 14] (by decide)
                obtain ⟨t7644, ht7645, H⟩ := bindS H
                refine W_callN 2 fn18 (fun h9 hs9 hd9 => ferrymanref05_Names.con k _ A7632 c7633 t7630 A7638 c7639 t7636 t7644 (Sats.row hs9 hd9 0 rfl) (Sats.row hs9 hd9 1 rfl) ht7645) S rfl rfl (by rintro _ _ _ ⟨_, rfl⟩; exact flat_nil) ?_
                rintro _ w7646 _ Γ' E' S ⟨rfl, rfl⟩
                replace E := E.trans E'
                clear E'
                refine Wl_nil (on_n ⟨.inr ⟨M, Hp.le_refl M, S.pick [11, 9, 10, 14, 2, 3] (by decide)⟩, ?_⟩)
                refine Wa_takeY (i := 26) rfl (by kernel_rfl) rfl rfl (.bool (!t7644)) rfl (congrArg some hb7591) (fun w' h' => x_not rfl) (⟨M, Hp.le_refl M, S.pick [11, 9, 10, 14, 2, 3] (by decide)⟩) ?_
                refine Wa_take (i := 27) rfl (by kernel_rfl) rfl rfl (.bool (!t7644)) rfl (fun w' h' => x_pick (k := false) (congrArg Value.bool hb7591) rfl) (⟨M, Hp.le_refl M, S.pick [11, 9, 10, 14, 2, 3] (by decide)⟩) ?_
                exact hrest _ _ ⟨(!t7644), x7354, x7358, A7355, c7356, A7359, c7360, Option.some.inj H, ⟨rfl, rfl, rfl, rfl, rfl, rfl, trivial⟩, E, S.pick [6, 13, 9, 10, 11, 12, 14, 2, 3, 5] (by decide)⟩
            clear o7601h
            rintro ρ w7647 ⟨x7592, x7593, x7597, A7594, c7595, A7598, c7599, rfl, hρ, E, S⟩
            rw [agree_eta hρ]
            clear hρ
            have H := o7601H
            clear o7601H
            refine Wa_done (by kernel_rfl) ?_
            refine tn ?_
            rcases iteS H with ⟨hb7648, H⟩ | ⟨hb7648, H⟩
            · refine Wp_cond_true (congrArg Value.bool hb7648) ?_
              refine Wp_seq ?_
              refine Wp_region_lit ?_
              refine W_v (.bool false) (x_assign rfl) rfl ?_
              refine Wl_nil ?_
              refine tn ?_
              refine Wp_ret ?_
              refine tr (br (tr (tr (br (tr (tr (?_)))))))
              obtain rfl := Option.some.inj H
              have H := o6602H
              replace H := elimL H
              obtain rfl := Option.some.inj H
              exact ⟨_, _, _, fun w1 e1 => run_resR (vs := [.bool false]) (FA.cons (rfl) (FA.nil)), HM, E, S.pick [] (by decide), ⟨rfl, rfl⟩⟩
            refine Wp_cond_false (congrArg Value.bool hb7648) ?_
            refine Wp_skip ?_
            refine tn ?_
            refine Wp_seq ?_
            refine Wp_region_lit ?_
            refine W_v (.int .i64 0) (x_assign rfl) rfl ?_
            refine Wl_nil ?_
            refine tn ?_
            obtain ⟨o7713, o7713h, o7713H⟩ := bindS H
            clear H
            refine Wp_blockJ (fun ρ w' => ∃ (x7709 : List (latch_Name × Int)) (A7710 : Option Addr) (c7711 : Nat), (x7709) = o7713 ∧ Agree ρ [(0, .slice A0 a0.length c0), (3, .pointer (some ⟨b7, 0, none⟩)), (4, .pointer (some ⟨b15, 0, none⟩)), (5, .int .i64 x4412)] ∧ Ext w w' ∧ St w' M F [MapC enc_latch_Name (Value.int .i64) A7710 x7709, Blk b15 (.cells #[.slice A7053 x7052.length c7054] 48 (0, 0)), Row r_ferrymanref05_Hold 64 (.slice A7053 x7052.length c7054) x7052, Blk b7 (.cells #[.map (mb A7710)] 56 (0, 0))]) ?_ ?_
            · skip
              refine Wp_loop (fun n ρ w' => ∃ (x7689 : List latch_Name) (x7693 : Int) (A7690 : Option Addr) (c7691 : Nat), ferrymanlaw05_LatchPlays_l7 x7593 n x7689 x7693 = some o7713 ∧ Agree ρ [(0, .slice A0 a0.length c0), (3, .pointer (some ⟨b7, 0, none⟩)), (4, .pointer (some ⟨b15, 0, none⟩)), (5, .int .i64 x4412), (15, .slice A7690 x7689.length c7691), (16, .int .i64 x7693)] ∧ Ext w w' ∧ St w' M F [Row r_latch_Name 25 (.slice A7690 x7689.length c7691) x7689, MapC enc_latch_Name (Value.int .i64) A7594 x7593, Blk b15 (.cells #[.slice A7053 x7052.length c7054] 48 (0, 0)), Row r_ferrymanref05_Hold 64 (.slice A7053 x7052.length c7054) x7052, Blk b7 (.cells #[.map (mb A7594)] 56 (0, 0))]) k ?_ ?_
              · skip
                exact ⟨t7380, (0 : Int), A7382, c7383, o7713h, ⟨rfl, rfl, rfl, rfl, rfl, rfl, trivial⟩, E, S.pick [4, 1, 2, 3, 5] (by decide)⟩
              · intro n
                rintro ρ w7714 ⟨x7689, x7693, A7690, c7691, H, hρ, E, S⟩
                rw [agree_eta hρ]
                clear hρ
                cases n with
                | zero => cases H
                | succ k =>
                  rw [ferrymanlaw05_LatchPlays_l7.eq_2] at H
                  refine Wp_seq ?_
                  refine Wp_seq ?_
                  refine Wp_region_lit ?_
                  refine W_v (.int .i64 x7693) (x_move rfl) rfl ?_
                  refine W_v (.slice A7690 x7689.length c7691) (x_move rfl) rfl ?_
                  refine W_v (.int .i64 (x7689.length : Int)) (x_len_slice (n := x7689.length) Try.underlying38 rfl) rfl ?_
                  refine W_v (.bool (decide (x7693 < (x7689.length : Int)))) (x_ibin rfl rfl rfl rfl) rfl ?_
                  refine Wl_nil ?_
                  refine tn ?_
                  rcases iteS H with ⟨hb7715, H⟩ | ⟨hb7715, H⟩
                  · refine Wp_cond_true (congrArg Value.bool hb7715) ?_
                    refine Wp_skip ?_
                    refine tn ?_
                    refine Wp_seq ?_
                    refine Wp_block ?_
                    refine Wp_region_lit ?_
                    refine W_v (.slice A7690 x7689.length c7691) (x_move rfl) rfl ?_
                    refine W_v (.int .i64 x7693) (x_move rfl) rfl ?_
                    obtain ⟨⟨p7716, p7717⟩, H⟩ := chkS H
                    obtain ⟨b7718, o7719, cs7720, _, _, ee7725, hb7721, vs7722, hR7723, hc7724⟩ := SlW.at' (S.row_read 0 rfl) p7716 p7717
                    obtain rfl : vs7722 = _ := hR7723
                    refine W_v (.pointer (some ⟨b7718, o7719 + x7693.toNat * 2, none⟩)) (x_indexAddr Try.underlying38 ty25 (slA ee7725) rfl p7716 p7717) rfl ?_
                    refine W_v (.pointer (some ⟨b7718, o7719 + x7693.toNat * 2 + 1, none⟩)) (x_fieldAddr (o := o7719 + x7693.toNat * 2) (off := 1) Try.underlying25 rfl ty23 rfl rfl) rfl ?_
                    obtain ⟨x7727, he7728, H⟩ := bindS H
                    replace he7728 := Option.some.inj he7728
                    refine W_rowstore S 0 rfl rfl ee7725 (by first | exact p7716 | simpa using p7716) (by first | exact p7717 | simpa using p7717) 1 ty23 rfl rfl [.int .u64 77] rfl rfl rfl rfl (⟨(rd x7689 x7693).Kind, (77 : Int)⟩ : latch_Name) (by rintro _ rfl; rfl) he7728 ?_
                    intro w7726 E' S
                    replace E := E.trans E'
                    clear E'
                    have hs7729 : Value.slice A7690 x7689.length c7691 = Value.slice A7690 x7727.length c7691 := by rw [← he7728, List.length_set]
                    try rw [hs7729] at S
                    try rw [hs7729]
                    clear hs7729
                    refine Wl_nil ?_
                    refine bn ?_
                    refine tn ?_
                    refine Wp_region_lit ?_
                    refine W_v (.int .i64 x7693) (x_move rfl) rfl ?_
                    refine W_v (.int .i64 (IntKind.i64.wrap (x7693 + (1 : Int)))) (x_ibin rfl rfl rfl rfl) rfl ?_
                    refine W_v (.int .i64 (IntKind.i64.wrap (x7693 + (1 : Int)))) (x_assign rfl) rfl ?_
                    refine Wl_nil ?_
                    refine tn ?_
                    exact ⟨k, Nat.lt_succ_self k, ⟨x7727, (IntKind.i64.wrap (x7693 + (1 : Int))), A7690, c7691, H, ⟨rfl, rfl, rfl, rfl, rfl, rfl, trivial⟩, E, S.pick [0, 1, 2, 3, 4] (by decide)⟩⟩
                  refine Wp_cond_false (congrArg Value.bool hb7715) ?_
                  refine Wp_exit ?_
                  refine tx (tx (bsm (?_)))
                  refine tn ?_
                  exact ⟨x7593, A7594, c7595, Option.some.inj H, ⟨rfl, rfl, rfl, rfl, trivial⟩, E, S.pick [1, 2, 3, 4] (by decide)⟩
            clear o7713h
            rintro ρ w7730 ⟨x7709, A7710, c7711, rfl, hρ, E, S⟩
            rw [agree_eta hρ]
            clear hρ
            have H := o7713H
            clear o7713H
            refine bn ?_
            refine tn ?_
            refine Wp_region_lit ?_
            refine W_v (.int .i64 x4412) (x_move rfl) rfl ?_
            refine W_v (.int .i64 (IntKind.i64.wrap (x4412 + (1 : Int)))) (x_ibin rfl rfl rfl rfl) rfl ?_
            refine W_v (.int .i64 (IntKind.i64.wrap (x4412 + (1 : Int)))) (x_assign rfl) rfl ?_
            refine Wl_nil ?_
            refine tn ?_
            exact ⟨k, Nat.lt_succ_self k, ⟨(IntKind.i64.wrap (x4412 + (1 : Int))), x7052, x7709, A7053, c7054, A7710, c7711, H, ⟨rfl, rfl, rfl, rfl, trivial⟩, E, S.pick [0, 2, 1, 3] (by decide)⟩⟩
          refine Wp_cond_false (congrArg Value.bool hb6627) ?_
          refine Wp_skip ?_
          refine tn ?_
          refine Wp_seq ?_
          refine Wp_region_lit ?_
          refine W_v (.slice A0 a0.length c0) (x_move rfl) rfl ?_
          refine W_v (.int .i64 x4412) (x_move rfl) rfl ?_
          obtain ⟨⟨p7731, p7732⟩, H⟩ := chkS H
          obtain ⟨b7733, o7734, cs7735, _, _, ee7740, hb7736, vs7737, hR7738, hc7739⟩ := SlW.at' hr0 p7731 p7732
          obtain rfl : vs7737 = _ := hR7738
          refine W_v (.pointer (some ⟨b7733, o7734 + x4412.toNat * 4, none⟩)) (x_indexAddr Try.underlying22 ty30 (slA ee7740) rfl p7731 p7732) rfl ?_
          refine W_v (.pointer (some ⟨b7733, o7734 + x4412.toNat * 4 + 1, none⟩)) (x_fieldAddr (o := o7734 + x4412.toNat * 4) (off := 1) Try.underlying30 rfl ty25 rfl rfl) rfl ?_
          refine W_v (.agg #[.int .u8 ((rd a0 x4412).N.Kind), .int .u64 ((rd a0 x4412).N.ID)]) (x_loadA (S.frz hb7736) ty25 rfl (sub_el hc7739 1 rfl) rfl rfl) rfl ?_
          refine W_alloc S #[.int .u8 0, .int .u64 0] ty44 rfl rfl ?_
          intro b7741 w7742 E' S
          replace E := E.trans E'
          clear E'
          refine W_store S 0 rfl ty44 rfl rfl [.int .u8 ((rd a0 x4412).N.Kind), .int .u64 ((rd a0 x4412).N.ID)] rfl rfl rfl #[.int .u8 ((rd a0 x4412).N.Kind), .int .u64 ((rd a0 x4412).N.ID)] rfl rfl ?_
          intro w7744 E' S
          replace E := E.trans E'
          clear E'
          refine Wl_nil ?_
          refine tn ?_
          refine Wp_seq ?_
          refine Wp_region_lit ?_
          refine W_v (.bool false) (x_assign rfl) rfl ?_
          refine W_v (.bool false) (x_assign rfl) rfl ?_
          refine Wl_nil ?_
          refine tn ?_
          refine Wp_seq ?_
          refine Wp_seq ?_
          refine Wp_region_lit ?_
          refine W_v (.slice A0 a0.length c0) (x_move rfl) rfl ?_
          refine W_v (.int .i64 x4412) (x_move rfl) rfl ?_
          obtain ⟨⟨p7745, p7746⟩, H⟩ := chkS H
          obtain ⟨b7747, o7748, cs7749, _, _, ee7754, hb7750, vs7751, hR7752, hc7753⟩ := SlW.at' hr0 p7745 p7746
          obtain rfl : vs7751 = _ := hR7752
          refine W_v (.pointer (some ⟨b7747, o7748 + x4412.toNat * 4, none⟩)) (x_indexAddr Try.underlying22 ty30 (slA ee7754) rfl p7745 p7746) rfl ?_
          refine W_v (.pointer (some ⟨b7747, o7748 + x4412.toNat * 4, none⟩)) (x_fieldAddr (o := o7748 + x4412.toNat * 4) (off := 0) Try.underlying30 rfl ty4 rfl rfl) rfl ?_
          refine W_v (.bool ((rd a0 x4412).Drop)) (x_load (S.frz hb7750) ty4 rfl (hc7753 0 _ rfl)) rfl ?_
          refine Wl_nil ?_
          refine tn ?_
          obtain ⟨o8143, o8143h, o8143H⟩ := bindS H
          refine Wp_cut (fun ρ w' => ∃ (x8133 : Bool) (x8134 : Bool) (x8135 : List ferrymanref05_Hold) (x8139 : List (latch_Name × Int)) (A8136 : Option Addr) (c8137 : Nat) (A8140 : Option Addr) (c8141 : Nat), (x8133, x8134, x8135, x8139) = o8143 ∧ Agree ρ [(0, .slice A0 a0.length c0), (3, .pointer (some ⟨b7, 0, none⟩)), (4, .pointer (some ⟨b15, 0, none⟩)), (5, .int .i64 x4412), (6, .pointer (some ⟨b7, 0, none⟩)), (7, .pointer (some ⟨b15, 0, none⟩)), (8, .pointer (some ⟨b7741, 0, none⟩)), (9, .bool x8133), (10, .bool x8134)] ∧ Ext w w' ∧ St w' M F [MapC enc_latch_Name (Value.int .i64) A8140 x8139, Row r_ferrymanref05_Hold 64 (.slice A8136 x8135.length c8137) x8135, Blk b15 (.cells #[.slice A8136 x8135.length c8137] 48 (0, 0)), Blk b7 (.cells #[.map (mb A8140)] 56 (0, 0)), Blk b7741 (.cells #[.int .u8 ((rd a0 x4412).N.Kind), .int .u64 ((rd a0 x4412).N.ID)] 44 (0, 0))]) ?_ ?_
          · clear o8143H
            have H := o8143h
            clear o8143h
            rcases iteS H with ⟨hb8144, H⟩ | ⟨hb8144, H⟩
            · refine Wp_cond_true (congrArg Value.bool hb8144) ?_
              refine Wp_region_any (S := fun w' => ∃ Mx, M.le Mx ∧ St w' Mx F [Blk b7741 (.cells #[.int .u8 ((rd a0 x4412).N.Kind), .int .u64 ((rd a0 x4412).N.ID)] 44 (0, 0))]) (L := 22) mixed ?_
              intro w8191 hw8192 E'
              replace S := S.heap hw8192
              replace E := E.trans E'
              clear E'
              refine Wa_take (i := 0) rfl (by kernel_rfl) rfl rfl (.pointer (some ⟨b7, 0, none⟩)) rfl (fun w' h' => x_move rfl) (⟨M, Hp.le_refl M, S.pick [0] (by decide)⟩) ?_
              refine Wa_take (i := 1) rfl (by kernel_rfl) rfl rfl (.slice A0 a0.length c0) rfl (fun w' h' => x_move rfl) (⟨M, Hp.le_refl M, S.pick [0] (by decide)⟩) ?_
              refine Wa_take (i := 2) rfl (by kernel_rfl) rfl rfl (.int .i64 x4412) rfl (fun w' h' => x_move rfl) (⟨M, Hp.le_refl M, S.pick [0] (by decide)⟩) ?_
              obtain ⟨⟨p8193, p8194⟩, H⟩ := chkS H
              obtain ⟨b8195, o8196, cs8197, _, _, ee8202, hb8198, vs8199, hR8200, hc8201⟩ := SlW.at' hr0 p8193 p8194
              obtain rfl : vs8199 = _ := hR8200
              refine Wa_take (i := 3) rfl (by kernel_rfl) rfl rfl (.pointer (some ⟨b8195, o8196 + x4412.toNat * 4, none⟩)) rfl (fun w' h' => x_indexAddr Try.underlying22 ty30 (slA ee8202) rfl p8193 p8194) (⟨M, Hp.le_refl M, S.pick [0] (by decide)⟩) ?_
              refine Wa_take (i := 4) rfl (by kernel_rfl) rfl rfl (.pointer (some ⟨b8195, o8196 + x4412.toNat * 4 + 1, none⟩)) rfl (fun w' h' => x_fieldAddr (o := o8196 + x4412.toNat * 4) (off := 1) Try.underlying30 rfl ty25 rfl rfl) (⟨M, Hp.le_refl M, S.pick [0] (by decide)⟩) ?_
              refine Wa_take (i := 5) rfl (by kernel_rfl) rfl rfl (.agg #[.int .u8 ((rd a0 x4412).N.Kind), .int .u64 ((rd a0 x4412).N.ID)]) rfl (fun w' h' => x_loadA (cls_frz h' hb8198) ty25 rfl (sub_el hc8201 1 rfl) rfl rfl) (⟨M, Hp.le_refl M, S.pick [0] (by decide)⟩) ?_
              refine Wa_take (i := 6) rfl (by kernel_rfl) rfl rfl (.slice A0 a0.length c0) rfl (fun w' h' => x_move rfl) (⟨M, Hp.le_refl M, S.pick [0] (by decide)⟩) ?_
              refine Wa_take (i := 7) rfl (by kernel_rfl) rfl rfl (.int .i64 x4412) rfl (fun w' h' => x_move rfl) (⟨M, Hp.le_refl M, S.pick [0] (by decide)⟩) ?_
              obtain ⟨⟨p8203, p8204⟩, H⟩ := chkS H
              obtain ⟨b8205, o8206, cs8207, _, _, ee8212, hb8208, vs8209, hR8210, hc8211⟩ := SlW.at' hr0 p8203 p8204
              obtain rfl : vs8209 = _ := hR8210
              refine Wa_take (i := 8) rfl (by kernel_rfl) rfl rfl (.pointer (some ⟨b8205, o8206 + x4412.toNat * 4, none⟩)) rfl (fun w' h' => x_indexAddr Try.underlying22 ty30 (slA ee8212) rfl p8203 p8204) (⟨M, Hp.le_refl M, S.pick [0] (by decide)⟩) ?_
              refine Wa_take (i := 9) rfl (by kernel_rfl) rfl rfl (.pointer (some ⟨b8205, o8206 + x4412.toNat * 4 + 3, none⟩)) rfl (fun w' h' => x_fieldAddr (o := o8206 + x4412.toNat * 4) (off := 3) Try.underlying30 rfl ty3 rfl rfl) (⟨M, Hp.le_refl M, S.pick [0] (by decide)⟩) ?_
              refine Wa_take (i := 10) rfl (by kernel_rfl) rfl rfl (.int .i64 ((rd a0 x4412).Task)) rfl (fun w' h' => x_load (cls_frz h' hb8208) ty3 rfl (hc8211 3 _ rfl)) (⟨M, Hp.le_refl M, S.pick [0] (by decide)⟩) ?_
              refine Wa_take (i := 12) rfl (by kernel_rfl) rfl rfl (.pointer (some ⟨b15, 0, none⟩)) rfl (fun w' h' => x_move rfl) (⟨M, Hp.le_refl M, S.pick [0] (by decide)⟩) ?_
              refine Wa_take (i := 13) rfl (by kernel_rfl) rfl rfl (.agg #[.int .u8 ((rd a0 x4412).N.Kind), .int .u64 ((rd a0 x4412).N.ID)]) rfl (fun w' h' => x_loadA (cls_blk h' 0 rfl) ty44 rfl (sub_of_extract rfl) rfl rfl) (⟨M, Hp.le_refl M, S.pick [0] (by decide)⟩) ?_
              refine Wa_take (i := 14) rfl (by kernel_rfl) rfl rfl (.slice A0 a0.length c0) rfl (fun w' h' => x_move rfl) (⟨M, Hp.le_refl M, S.pick [0] (by decide)⟩) ?_
              refine Wa_take (i := 15) rfl (by kernel_rfl) rfl rfl (.int .i64 x4412) rfl (fun w' h' => x_move rfl) (⟨M, Hp.le_refl M, S.pick [0] (by decide)⟩) ?_
              obtain ⟨⟨p8213, p8214⟩, H⟩ := chkS H
              obtain ⟨b8215, o8216, cs8217, _, _, ee8222, hb8218, vs8219, hR8220, hc8221⟩ := SlW.at' hr0 p8213 p8214
              obtain rfl : vs8219 = _ := hR8220
              refine Wa_take (i := 16) rfl (by kernel_rfl) rfl rfl (.pointer (some ⟨b8215, o8216 + x4412.toNat * 4, none⟩)) rfl (fun w' h' => x_indexAddr Try.underlying22 ty30 (slA ee8222) rfl p8213 p8214) (⟨M, Hp.le_refl M, S.pick [0] (by decide)⟩) ?_
              refine Wa_take (i := 17) rfl (by kernel_rfl) rfl rfl (.pointer (some ⟨b8215, o8216 + x4412.toNat * 4 + 3, none⟩)) rfl (fun w' h' => x_fieldAddr (o := o8216 + x4412.toNat * 4) (off := 3) Try.underlying30 rfl ty3 rfl rfl) (⟨M, Hp.le_refl M, S.pick [0] (by decide)⟩) ?_
              refine Wa_take (i := 18) rfl (by kernel_rfl) rfl rfl (.int .i64 ((rd a0 x4412).Task)) rfl (fun w' h' => x_load (cls_frz h' hb8218) ty3 rfl (hc8221 3 _ rfl)) (⟨M, Hp.le_refl M, S.pick [0] (by decide)⟩) ?_
              refine Wa_solo (i := 11) rfl (by kernel_rfl) ?_
              obtain ⟨t8223, ht8224, H⟩ := bindS H
              replace S : St w8191 M F [Blk b7 (.cells #[.map (mb A4418)] 56 (0, 0)), MapC enc_latch_Name (Value.int .i64) A4418 x4417, Blk b7741 (.cells #[.int .u8 ((rd a0 x4412).N.Kind), .int .u64 ((rd a0 x4412).N.ID)] 44 (0, 0)), Row r_ferrymanref05_Hold 64 (.slice A4414 x4413.length c4415) x4413, Blk b15 (.cells #[.slice A4414 x4413.length c4415] 48 (0, 0))] := S.pick [4, 1, 0, 2, 3] (by decide)
              refine W_callF2 fn11 (latch_Latches_Drop_PO.con k M A4418 c4419 (⟨x4417⟩ : latch_Latches) ((rd a0 x4412).N) ((rd a0 x4412).Task) b7 t8223  ht8224) (Γ1 := [Blk b7 (.cells #[.map (mb A4418)] 56 (0, 0)), MapC enc_latch_Name (Value.int .i64) A4418 x4417]) (Γ2 := [Blk b7741 (.cells #[.int .u8 ((rd a0 x4412).N.Kind), .int .u64 ((rd a0 x4412).N.ID)] 44 (0, 0)), Row r_ferrymanref05_Hold 64 (.slice A4414 x4413.length c4415) x4413, Blk b15 (.cells #[.slice A4414 x4413.length c4415] 48 (0, 0))]) S rfl rfl (by rintro _ _ _ ⟨_, _, rfl, rfl⟩; exact (flat_cons flat_blk (flat_cons flat_map flat_nil))) ?_
              rintro _ w8228 _ Γ' E' S ⟨A8225, c8226, rfl, rfl⟩
              replace E := E.trans E'
              clear E'
              replace S : St w8228 M F [Blk b7 (.cells #[.map (mb A8225)] 56 (0, 0)), MapC enc_latch_Name (Value.int .i64) A8225 t8223.2.by_, Blk b7741 (.cells #[.int .u8 ((rd a0 x4412).N.Kind), .int .u64 ((rd a0 x4412).N.ID)] 44 (0, 0)), Row r_ferrymanref05_Hold 64 (.slice A4414 x4413.length c4415) x4413, Blk b15 (.cells #[.slice A4414 x4413.length c4415] 48 (0, 0))] := S
              refine Wl_nil (on_n ⟨.inr ⟨M, Hp.le_refl M, S.pick [2] (by decide)⟩, ?_⟩)
              refine Wa_solo (i := 19) rfl (by kernel_rfl) ?_
              obtain ⟨t8231, ht8232, H⟩ := bindS H
              replace S : St w8228 M F [Blk b15 (.cells #[.slice A4414 x4413.length c4415] 48 (0, 0)), Row r_ferrymanref05_Hold 64 (.slice A4414 x4413.length c4415) x4413, Blk b7 (.cells #[.map (mb A8225)] 56 (0, 0)), MapC enc_latch_Name (Value.int .i64) A8225 t8223.2.by_, Blk b7741 (.cells #[.int .u8 ((rd a0 x4412).N.Kind), .int .u64 ((rd a0 x4412).N.ID)] 44 (0, 0))] := S.pick [4, 3, 0, 1, 2] (by decide)
              refine W_callF2 fn21 (ferrymanref05_Latches_Drop_PO.con k M A4414 c4415 (⟨x4413⟩ : ferrymanref05_Latches) (⟨((rd a0 x4412).N.Kind), ((rd a0 x4412).N.ID)⟩ : ferrymanref05_Name) ((rd a0 x4412).Task) b15 t8231  ht8232) (Γ1 := [Blk b15 (.cells #[.slice A4414 x4413.length c4415] 48 (0, 0)), Row r_ferrymanref05_Hold 64 (.slice A4414 x4413.length c4415) x4413]) (Γ2 := [Blk b7 (.cells #[.map (mb A8225)] 56 (0, 0)), MapC enc_latch_Name (Value.int .i64) A8225 t8223.2.by_, Blk b7741 (.cells #[.int .u8 ((rd a0 x4412).N.Kind), .int .u64 ((rd a0 x4412).N.ID)] 44 (0, 0))]) S rfl rfl (by rintro _ _ _ ⟨_, _, rfl, rfl⟩; exact (flat_cons flat_blk (flat_cons (flat_row (fun _ _ _ _ h => h)) flat_nil))) ?_
              rintro _ w8236 _ Γ' E' S ⟨A8233, c8234, rfl, rfl⟩
              replace E := E.trans E'
              clear E'
              replace S : St w8236 M F [Blk b15 (.cells #[.slice A8233 t8231.2.L.length c8234] 48 (0, 0)), Row r_ferrymanref05_Hold 64 (.slice A8233 t8231.2.L.length c8234) t8231.2.L, Blk b7 (.cells #[.map (mb A8225)] 56 (0, 0)), MapC enc_latch_Name (Value.int .i64) A8225 t8223.2.by_, Blk b7741 (.cells #[.int .u8 ((rd a0 x4412).N.Kind), .int .u64 ((rd a0 x4412).N.ID)] 44 (0, 0))] := S
              refine Wl_nil (on_n ⟨.inr ⟨M, Hp.le_refl M, S.pick [4] (by decide)⟩, ?_⟩)
              refine Wa_take (i := 20) rfl (by kernel_rfl) rfl rfl (.bool t8223.1) rfl (fun w' h' => x_assign rfl) (⟨M, Hp.le_refl M, S.pick [4] (by decide)⟩) ?_
              refine Wa_take (i := 21) rfl (by kernel_rfl) rfl rfl (.bool t8231.1) rfl (fun w' h' => x_assign rfl) (⟨M, Hp.le_refl M, S.pick [4] (by decide)⟩) ?_
              refine Wa_done (by kernel_rfl) ?_
              refine tn ?_
              exact ⟨t8223.1, t8231.1, t8231.2.L, t8223.2.by_, A8233, c8234, A8225, c8226, Option.some.inj H, ⟨rfl, rfl, rfl, rfl, rfl, rfl, rfl, rfl, rfl, trivial⟩, E, S.pick [3, 1, 0, 2, 4] (by decide)⟩
            refine Wp_cond_false (congrArg Value.bool hb8144) ?_
            refine Wp_region_any (S := fun w' => ∃ Mx, M.le Mx ∧ St w' Mx F [Blk b7741 (.cells #[.int .u8 ((rd a0 x4412).N.Kind), .int .u64 ((rd a0 x4412).N.ID)] 44 (0, 0))]) (L := 22) mixed ?_
            intro w8285 hw8286 E'
            replace S := S.heap hw8286
            replace E := E.trans E'
            clear E'
            refine Wa_take (i := 0) rfl (by kernel_rfl) rfl rfl (.pointer (some ⟨b7, 0, none⟩)) rfl (fun w' h' => x_move rfl) (⟨M, Hp.le_refl M, S.pick [0] (by decide)⟩) ?_
            refine Wa_take (i := 1) rfl (by kernel_rfl) rfl rfl (.slice A0 a0.length c0) rfl (fun w' h' => x_move rfl) (⟨M, Hp.le_refl M, S.pick [0] (by decide)⟩) ?_
            refine Wa_take (i := 2) rfl (by kernel_rfl) rfl rfl (.int .i64 x4412) rfl (fun w' h' => x_move rfl) (⟨M, Hp.le_refl M, S.pick [0] (by decide)⟩) ?_
            obtain ⟨⟨p8287, p8288⟩, H⟩ := chkS H
            obtain ⟨b8289, o8290, cs8291, _, _, ee8296, hb8292, vs8293, hR8294, hc8295⟩ := SlW.at' hr0 p8287 p8288
            obtain rfl : vs8293 = _ := hR8294
            refine Wa_take (i := 3) rfl (by kernel_rfl) rfl rfl (.pointer (some ⟨b8289, o8290 + x4412.toNat * 4, none⟩)) rfl (fun w' h' => x_indexAddr Try.underlying22 ty30 (slA ee8296) rfl p8287 p8288) (⟨M, Hp.le_refl M, S.pick [0] (by decide)⟩) ?_
            refine Wa_take (i := 4) rfl (by kernel_rfl) rfl rfl (.pointer (some ⟨b8289, o8290 + x4412.toNat * 4 + 1, none⟩)) rfl (fun w' h' => x_fieldAddr (o := o8290 + x4412.toNat * 4) (off := 1) Try.underlying30 rfl ty25 rfl rfl) (⟨M, Hp.le_refl M, S.pick [0] (by decide)⟩) ?_
            refine Wa_take (i := 5) rfl (by kernel_rfl) rfl rfl (.agg #[.int .u8 ((rd a0 x4412).N.Kind), .int .u64 ((rd a0 x4412).N.ID)]) rfl (fun w' h' => x_loadA (cls_frz h' hb8292) ty25 rfl (sub_el hc8295 1 rfl) rfl rfl) (⟨M, Hp.le_refl M, S.pick [0] (by decide)⟩) ?_
            refine Wa_take (i := 6) rfl (by kernel_rfl) rfl rfl (.slice A0 a0.length c0) rfl (fun w' h' => x_move rfl) (⟨M, Hp.le_refl M, S.pick [0] (by decide)⟩) ?_
            refine Wa_take (i := 7) rfl (by kernel_rfl) rfl rfl (.int .i64 x4412) rfl (fun w' h' => x_move rfl) (⟨M, Hp.le_refl M, S.pick [0] (by decide)⟩) ?_
            obtain ⟨⟨p8297, p8298⟩, H⟩ := chkS H
            obtain ⟨b8299, o8300, cs8301, _, _, ee8306, hb8302, vs8303, hR8304, hc8305⟩ := SlW.at' hr0 p8297 p8298
            obtain rfl : vs8303 = _ := hR8304
            refine Wa_take (i := 8) rfl (by kernel_rfl) rfl rfl (.pointer (some ⟨b8299, o8300 + x4412.toNat * 4, none⟩)) rfl (fun w' h' => x_indexAddr Try.underlying22 ty30 (slA ee8306) rfl p8297 p8298) (⟨M, Hp.le_refl M, S.pick [0] (by decide)⟩) ?_
            refine Wa_take (i := 9) rfl (by kernel_rfl) rfl rfl (.pointer (some ⟨b8299, o8300 + x4412.toNat * 4 + 3, none⟩)) rfl (fun w' h' => x_fieldAddr (o := o8300 + x4412.toNat * 4) (off := 3) Try.underlying30 rfl ty3 rfl rfl) (⟨M, Hp.le_refl M, S.pick [0] (by decide)⟩) ?_
            refine Wa_take (i := 10) rfl (by kernel_rfl) rfl rfl (.int .i64 ((rd a0 x4412).Task)) rfl (fun w' h' => x_load (cls_frz h' hb8302) ty3 rfl (hc8305 3 _ rfl)) (⟨M, Hp.le_refl M, S.pick [0] (by decide)⟩) ?_
            refine Wa_take (i := 12) rfl (by kernel_rfl) rfl rfl (.pointer (some ⟨b15, 0, none⟩)) rfl (fun w' h' => x_move rfl) (⟨M, Hp.le_refl M, S.pick [0] (by decide)⟩) ?_
            refine Wa_take (i := 13) rfl (by kernel_rfl) rfl rfl (.agg #[.int .u8 ((rd a0 x4412).N.Kind), .int .u64 ((rd a0 x4412).N.ID)]) rfl (fun w' h' => x_loadA (cls_blk h' 0 rfl) ty44 rfl (sub_of_extract rfl) rfl rfl) (⟨M, Hp.le_refl M, S.pick [0] (by decide)⟩) ?_
            refine Wa_take (i := 14) rfl (by kernel_rfl) rfl rfl (.slice A0 a0.length c0) rfl (fun w' h' => x_move rfl) (⟨M, Hp.le_refl M, S.pick [0] (by decide)⟩) ?_
            refine Wa_take (i := 15) rfl (by kernel_rfl) rfl rfl (.int .i64 x4412) rfl (fun w' h' => x_move rfl) (⟨M, Hp.le_refl M, S.pick [0] (by decide)⟩) ?_
            obtain ⟨⟨p8307, p8308⟩, H⟩ := chkS H
            obtain ⟨b8309, o8310, cs8311, _, _, ee8316, hb8312, vs8313, hR8314, hc8315⟩ := SlW.at' hr0 p8307 p8308
            obtain rfl : vs8313 = _ := hR8314
            refine Wa_take (i := 16) rfl (by kernel_rfl) rfl rfl (.pointer (some ⟨b8309, o8310 + x4412.toNat * 4, none⟩)) rfl (fun w' h' => x_indexAddr Try.underlying22 ty30 (slA ee8316) rfl p8307 p8308) (⟨M, Hp.le_refl M, S.pick [0] (by decide)⟩) ?_
            refine Wa_take (i := 17) rfl (by kernel_rfl) rfl rfl (.pointer (some ⟨b8309, o8310 + x4412.toNat * 4 + 3, none⟩)) rfl (fun w' h' => x_fieldAddr (o := o8310 + x4412.toNat * 4) (off := 3) Try.underlying30 rfl ty3 rfl rfl) (⟨M, Hp.le_refl M, S.pick [0] (by decide)⟩) ?_
            refine Wa_take (i := 18) rfl (by kernel_rfl) rfl rfl (.int .i64 ((rd a0 x4412).Task)) rfl (fun w' h' => x_load (cls_frz h' hb8312) ty3 rfl (hc8315 3 _ rfl)) (⟨M, Hp.le_refl M, S.pick [0] (by decide)⟩) ?_
            refine Wa_solo (i := 11) rfl (by kernel_rfl) ?_
            obtain ⟨t8317, ht8318, H⟩ := bindS H
            replace S : St w8285 M F [Blk b7 (.cells #[.map (mb A4418)] 56 (0, 0)), MapC enc_latch_Name (Value.int .i64) A4418 x4417, Blk b7741 (.cells #[.int .u8 ((rd a0 x4412).N.Kind), .int .u64 ((rd a0 x4412).N.ID)] 44 (0, 0)), Row r_ferrymanref05_Hold 64 (.slice A4414 x4413.length c4415) x4413, Blk b15 (.cells #[.slice A4414 x4413.length c4415] 48 (0, 0))] := S.pick [4, 1, 0, 2, 3] (by decide)
            refine W_callF2 fn12 (latch_Latches_Try_PO.con k M A4418 c4419 (⟨x4417⟩ : latch_Latches) ((rd a0 x4412).N) ((rd a0 x4412).Task) b7 t8317  ht8318) (Γ1 := [Blk b7 (.cells #[.map (mb A4418)] 56 (0, 0)), MapC enc_latch_Name (Value.int .i64) A4418 x4417]) (Γ2 := [Blk b7741 (.cells #[.int .u8 ((rd a0 x4412).N.Kind), .int .u64 ((rd a0 x4412).N.ID)] 44 (0, 0)), Row r_ferrymanref05_Hold 64 (.slice A4414 x4413.length c4415) x4413, Blk b15 (.cells #[.slice A4414 x4413.length c4415] 48 (0, 0))]) S rfl rfl (by rintro _ _ _ ⟨_, _, rfl, rfl⟩; exact (flat_cons flat_blk (flat_cons flat_map flat_nil))) ?_
            rintro _ w8322 _ Γ' E' S ⟨A8319, c8320, rfl, rfl⟩
            replace E := E.trans E'
            clear E'
            replace S : St w8322 M F [Blk b7 (.cells #[.map (mb A8319)] 56 (0, 0)), MapC enc_latch_Name (Value.int .i64) A8319 t8317.2.by_, Blk b7741 (.cells #[.int .u8 ((rd a0 x4412).N.Kind), .int .u64 ((rd a0 x4412).N.ID)] 44 (0, 0)), Row r_ferrymanref05_Hold 64 (.slice A4414 x4413.length c4415) x4413, Blk b15 (.cells #[.slice A4414 x4413.length c4415] 48 (0, 0))] := S
            refine Wl_nil (on_n ⟨.inr ⟨M, Hp.le_refl M, S.pick [2] (by decide)⟩, ?_⟩)
            refine Wa_solo (i := 19) rfl (by kernel_rfl) ?_
            obtain ⟨t8325, ht8326, H⟩ := bindS H
            replace S : St w8322 M F [Blk b15 (.cells #[.slice A4414 x4413.length c4415] 48 (0, 0)), Row r_ferrymanref05_Hold 64 (.slice A4414 x4413.length c4415) x4413, Blk b7 (.cells #[.map (mb A8319)] 56 (0, 0)), MapC enc_latch_Name (Value.int .i64) A8319 t8317.2.by_, Blk b7741 (.cells #[.int .u8 ((rd a0 x4412).N.Kind), .int .u64 ((rd a0 x4412).N.ID)] 44 (0, 0))] := S.pick [4, 3, 0, 1, 2] (by decide)
            refine W_callF2 fn22 (ferrymanref05_Latches_Try_PO.con k M A4414 c4415 (⟨x4413⟩ : ferrymanref05_Latches) (⟨((rd a0 x4412).N.Kind), ((rd a0 x4412).N.ID)⟩ : ferrymanref05_Name) ((rd a0 x4412).Task) b15 t8325  ht8326) (Γ1 := [Blk b15 (.cells #[.slice A4414 x4413.length c4415] 48 (0, 0)), Row r_ferrymanref05_Hold 64 (.slice A4414 x4413.length c4415) x4413]) (Γ2 := [Blk b7 (.cells #[.map (mb A8319)] 56 (0, 0)), MapC enc_latch_Name (Value.int .i64) A8319 t8317.2.by_, Blk b7741 (.cells #[.int .u8 ((rd a0 x4412).N.Kind), .int .u64 ((rd a0 x4412).N.ID)] 44 (0, 0))]) S rfl rfl (by rintro _ _ _ ⟨_, _, rfl, rfl⟩; exact (flat_cons flat_blk (flat_cons (flat_row (fun _ _ _ _ h => h)) flat_nil))) ?_
            rintro _ w8330 _ Γ' E' S ⟨A8327, c8328, rfl, rfl⟩
            replace E := E.trans E'
            clear E'
            replace S : St w8330 M F [Blk b15 (.cells #[.slice A8327 t8325.2.L.length c8328] 48 (0, 0)), Row r_ferrymanref05_Hold 64 (.slice A8327 t8325.2.L.length c8328) t8325.2.L, Blk b7 (.cells #[.map (mb A8319)] 56 (0, 0)), MapC enc_latch_Name (Value.int .i64) A8319 t8317.2.by_, Blk b7741 (.cells #[.int .u8 ((rd a0 x4412).N.Kind), .int .u64 ((rd a0 x4412).N.ID)] 44 (0, 0))] := S
            refine Wl_nil (on_n ⟨.inr ⟨M, Hp.le_refl M, S.pick [4] (by decide)⟩, ?_⟩)
            refine Wa_take (i := 20) rfl (by kernel_rfl) rfl rfl (.bool t8317.1) rfl (fun w' h' => x_assign rfl) (⟨M, Hp.le_refl M, S.pick [4] (by decide)⟩) ?_
            refine Wa_take (i := 21) rfl (by kernel_rfl) rfl rfl (.bool t8325.1) rfl (fun w' h' => x_assign rfl) (⟨M, Hp.le_refl M, S.pick [4] (by decide)⟩) ?_
            refine Wa_done (by kernel_rfl) ?_
            refine tn ?_
            exact ⟨t8317.1, t8325.1, t8325.2.L, t8317.2.by_, A8327, c8328, A8319, c8320, Option.some.inj H, ⟨rfl, rfl, rfl, rfl, rfl, rfl, rfl, rfl, rfl, trivial⟩, E, S.pick [3, 1, 0, 2, 4] (by decide)⟩
          clear o8143h
          rintro ρ w8333 ⟨x8133, x8134, x8135, x8139, A8136, c8137, A8140, c8141, rfl, hρ, E, S⟩
          rw [agree_eta hρ]
          clear hρ
          have H := o8143H
          clear o8143H
          refine tn ?_
          refine Wp_seq ?_
          refine Wp_region_lit ?_
          refine W_v (.pointer (some ⟨b7, 0, none⟩)) (x_move rfl) rfl ?_
          refine W_v (.slice A0 a0.length c0) (x_move rfl) rfl ?_
          refine W_v (.int .i64 x4412) (x_move rfl) rfl ?_
          obtain ⟨⟨p8334, p8335⟩, H⟩ := chkS H
          obtain ⟨b8336, o8337, cs8338, _, _, ee8343, hb8339, vs8340, hR8341, hc8342⟩ := SlW.at' hr0 p8334 p8335
          obtain rfl : vs8340 = _ := hR8341
          refine W_v (.pointer (some ⟨b8336, o8337 + x4412.toNat * 4, none⟩)) (x_indexAddr Try.underlying22 ty30 (slA ee8343) rfl p8334 p8335) rfl ?_
          refine W_v (.pointer (some ⟨b8336, o8337 + x4412.toNat * 4 + 1, none⟩)) (x_fieldAddr (o := o8337 + x4412.toNat * 4) (off := 1) Try.underlying30 rfl ty25 rfl rfl) rfl ?_
          refine W_v (.agg #[.int .u8 ((rd a0 x4412).N.Kind), .int .u64 ((rd a0 x4412).N.ID)]) (x_loadA (S.frz hb8339) ty25 rfl (sub_el hc8342 1 rfl) rfl rfl) rfl ?_
          obtain ⟨t8344, ht8345, H⟩ := bindS H
          replace S : St w8333 M F [Blk b7 (.cells #[.map (mb A8140)] 56 (0, 0)), MapC enc_latch_Name (Value.int .i64) A8140 x8139, Row r_ferrymanref05_Hold 64 (.slice A8136 x8135.length c8137) x8135, Blk b15 (.cells #[.slice A8136 x8135.length c8137] 48 (0, 0)), Blk b7741 (.cells #[.int .u8 ((rd a0 x4412).N.Kind), .int .u64 ((rd a0 x4412).N.ID)] 44 (0, 0))] := S.pick [3, 0, 1, 2, 4] (by decide)
          refine W_callF2 fn13 (latch_Latches_Owner_PO.con k M A8140 c8141 (⟨x8139⟩ : latch_Latches) ((rd a0 x4412).N) b7 t8344  ht8345) (Γ1 := [Blk b7 (.cells #[.map (mb A8140)] 56 (0, 0)), MapC enc_latch_Name (Value.int .i64) A8140 x8139]) (Γ2 := [Row r_ferrymanref05_Hold 64 (.slice A8136 x8135.length c8137) x8135, Blk b15 (.cells #[.slice A8136 x8135.length c8137] 48 (0, 0)), Blk b7741 (.cells #[.int .u8 ((rd a0 x4412).N.Kind), .int .u64 ((rd a0 x4412).N.ID)] 44 (0, 0))]) S rfl rfl (by rintro _ _ _ ⟨rfl, rfl⟩; exact (flat_cons flat_blk (flat_cons flat_map flat_nil))) ?_
          rintro _ w8346 _ Γ' E' S ⟨rfl, rfl⟩
          replace E := E.trans E'
          clear E'
          replace S : St w8346 M F [Blk b7 (.cells #[.map (mb A8140)] 56 (0, 0)), MapC enc_latch_Name (Value.int .i64) A8140 x8139, Row r_ferrymanref05_Hold 64 (.slice A8136 x8135.length c8137) x8135, Blk b15 (.cells #[.slice A8136 x8135.length c8137] 48 (0, 0)), Blk b7741 (.cells #[.int .u8 ((rd a0 x4412).N.Kind), .int .u64 ((rd a0 x4412).N.ID)] 44 (0, 0))] := S
          refine W_v (.tuple #[.int .i64 t8344.1, .bool t8344.2]) (x_move rfl) rfl ?_
          refine W_v (.int .i64 t8344.1) (x_extract rfl rfl) rfl ?_
          refine W_v (.bool t8344.2) (x_extract rfl rfl) rfl ?_
          refine W_v (.int .i64 t8344.1) (x_assign rfl) rfl ?_
          refine W_v (.bool t8344.2) (x_assign rfl) rfl ?_
          refine Wl_nil ?_
          refine tn ?_
          refine Wp_seq ?_
          refine Wp_region_lit ?_
          refine W_v (.pointer (some ⟨b15, 0, none⟩)) (x_move rfl) rfl ?_
          refine W_v (.agg #[.int .u8 ((rd a0 x4412).N.Kind), .int .u64 ((rd a0 x4412).N.ID)]) (x_loadA (S.blk 4 rfl) ty44 rfl (sub_of_extract rfl) rfl rfl) rfl ?_
          obtain ⟨t8349, ht8350, H⟩ := bindS H
          replace S : St w8346 M F [Blk b15 (.cells #[.slice A8136 x8135.length c8137] 48 (0, 0)), Row r_ferrymanref05_Hold 64 (.slice A8136 x8135.length c8137) x8135, Blk b7 (.cells #[.map (mb A8140)] 56 (0, 0)), MapC enc_latch_Name (Value.int .i64) A8140 x8139, Blk b7741 (.cells #[.int .u8 ((rd a0 x4412).N.Kind), .int .u64 ((rd a0 x4412).N.ID)] 44 (0, 0))] := S.pick [3, 2, 0, 1, 4] (by decide)
          refine W_callF2 fn23 (ferrymanref05_Latches_Owner_PO.con k M A8136 c8137 (⟨x8135⟩ : ferrymanref05_Latches) (⟨((rd a0 x4412).N.Kind), ((rd a0 x4412).N.ID)⟩ : ferrymanref05_Name) b15 t8349  ht8350) (Γ1 := [Blk b15 (.cells #[.slice A8136 x8135.length c8137] 48 (0, 0)), Row r_ferrymanref05_Hold 64 (.slice A8136 x8135.length c8137) x8135]) (Γ2 := [Blk b7 (.cells #[.map (mb A8140)] 56 (0, 0)), MapC enc_latch_Name (Value.int .i64) A8140 x8139, Blk b7741 (.cells #[.int .u8 ((rd a0 x4412).N.Kind), .int .u64 ((rd a0 x4412).N.ID)] 44 (0, 0))]) S rfl rfl (by rintro _ _ _ ⟨rfl, rfl⟩; exact (flat_cons flat_blk (flat_cons (flat_row (fun _ _ _ _ h => h)) flat_nil))) ?_
          rintro _ w8351 _ Γ' E' S ⟨rfl, rfl⟩
          replace E := E.trans E'
          clear E'
          replace S : St w8351 M F [Blk b15 (.cells #[.slice A8136 x8135.length c8137] 48 (0, 0)), Row r_ferrymanref05_Hold 64 (.slice A8136 x8135.length c8137) x8135, Blk b7 (.cells #[.map (mb A8140)] 56 (0, 0)), MapC enc_latch_Name (Value.int .i64) A8140 x8139, Blk b7741 (.cells #[.int .u8 ((rd a0 x4412).N.Kind), .int .u64 ((rd a0 x4412).N.ID)] 44 (0, 0))] := S
          refine W_v (.tuple #[.int .i64 t8349.1, .bool t8349.2]) (x_move rfl) rfl ?_
          refine W_v (.int .i64 t8349.1) (x_extract rfl rfl) rfl ?_
          refine W_v (.bool t8349.2) (x_extract rfl rfl) rfl ?_
          refine W_v (.int .i64 t8349.1) (x_assign rfl) rfl ?_
          refine W_v (.bool t8349.2) (x_assign rfl) rfl ?_
          refine Wl_nil ?_
          refine tn ?_
          refine Wp_seq ?_
          refine Wp_seq ?_
          refine Wp_region_any (S := fun w' => ∃ Mx, M.le Mx ∧ St w' Mx F [Blk b15 (.cells #[.slice A8136 x8135.length c8137] 48 (0, 0)), Row r_ferrymanref05_Hold 64 (.slice A8136 x8135.length c8137) x8135, Blk b7741 (.cells #[.int .u8 ((rd a0 x4412).N.Kind), .int .u64 ((rd a0 x4412).N.ID)] 44 (0, 0))]) (L := 33) mixed ?_
          intro w8392 hw8393 E'
          replace S := S.heap hw8393
          replace E := E.trans E'
          clear E'
          refine Wa_take (i := 0) rfl (by kernel_rfl) rfl rfl (.bool x8133) rfl (fun w' h' => x_move rfl) (⟨M, Hp.le_refl M, S.pick [0, 1, 4] (by decide)⟩) ?_
          refine Wa_take (i := 1) rfl (by kernel_rfl) rfl rfl (.bool x8134) rfl (fun w' h' => x_move rfl) (⟨M, Hp.le_refl M, S.pick [0, 1, 4] (by decide)⟩) ?_
          refine Wa_take (i := 2) rfl (by kernel_rfl) rfl rfl (.bool (!(x8133 == x8134))) rfl (fun w' h' => x_bne Try.underlying4 rfl rfl) (⟨M, Hp.le_refl M, S.pick [0, 1, 4] (by decide)⟩) ?_
          refine Wa_take (i := 3) rfl (by kernel_rfl) rfl rfl (.bool (!(x8133 == x8134))) rfl (fun w' h' => x_move rfl) (⟨M, Hp.le_refl M, S.pick [0, 1, 4] (by decide)⟩) ?_
          refine Wa_join (fun ρ w' => Agree ρ [(0, .slice A0 a0.length c0), (3, .pointer (some ⟨b7, 0, none⟩)), (4, .pointer (some ⟨b15, 0, none⟩)), (5, .int .i64 x4412), (6, .pointer (some ⟨b7, 0, none⟩)), (7, .pointer (some ⟨b15, 0, none⟩)), (12, .bool t8344.2), (14, .bool t8349.2), (112, .bool ((!(x8133 == x8134)) || (t8344.1 != t8349.1)))] ∧ w8392 = w') 25 (Ls 33 [0, 1, 2, 3, 4, 5, 6, 7]) ?_ ?_
          rotate_left
          · intro hrest
            rcases boolCases (!(x8133 == x8134)) with hb8394 | hb8394
            · skip
              refine Wa_takeY (i := 4) rfl (by kernel_rfl) rfl rfl (.int .i64 t8344.1) rfl (congrArg some hb8394) (fun w' h' => x_move rfl) (⟨M, Hp.le_refl M, S.pick [0, 1, 4] (by decide)⟩) ?_
              refine Wa_takeY (i := 5) rfl (by kernel_rfl) rfl rfl (.int .i64 t8349.1) rfl (congrArg some hb8394) (fun w' h' => x_move rfl) (⟨M, Hp.le_refl M, S.pick [0, 1, 4] (by decide)⟩) ?_
              refine Wa_takeY (i := 6) rfl (by kernel_rfl) rfl rfl (.bool (t8344.1 != t8349.1)) rfl (congrArg some hb8394) (fun w' h' => x_ibin rfl rfl rfl rfl) (⟨M, Hp.le_refl M, S.pick [0, 1, 4] (by decide)⟩) ?_
              refine Wa_take (i := 7) rfl (by kernel_rfl) rfl rfl (.bool (t8344.1 != t8349.1)) rfl (fun w' h' => x_pick (k := false) (congrArg Value.bool hb8394) rfl) (⟨M, Hp.le_refl M, S.pick [0, 1, 4] (by decide)⟩) ?_
              exact hrest _ _ ⟨⟨rfl, rfl, rfl, rfl, rfl, rfl, rfl, rfl, (by first | rfl | (rw [hb8394]; rfl) | (simp only [hb8394]; rfl)), trivial⟩, rfl⟩
            · skip
              refine Wa_takeN (i := 4) rfl (by kernel_rfl) rfl rfl rfl (skF hb8394) (⟨M, Hp.le_refl M, S.pick [0, 1, 4] (by decide)⟩) ?_
              refine Wa_takeN (i := 5) rfl (by kernel_rfl) rfl rfl rfl (skF hb8394) (⟨M, Hp.le_refl M, S.pick [0, 1, 4] (by decide)⟩) ?_
              refine Wa_takeN (i := 6) rfl (by kernel_rfl) rfl rfl rfl (skF hb8394) (⟨M, Hp.le_refl M, S.pick [0, 1, 4] (by decide)⟩) ?_
              refine Wa_take (i := 7) rfl (by kernel_rfl) rfl rfl (.bool true) rfl (fun w' h' => x_pick (k := true) (congrArg Value.bool hb8394) rfl) (⟨M, Hp.le_refl M, S.pick [0, 1, 4] (by decide)⟩) ?_
              exact hrest _ _ ⟨⟨rfl, rfl, rfl, rfl, rfl, rfl, rfl, rfl, (by first | rfl | (rw [hb8394]; rfl) | (simp only [hb8394]; rfl)), trivial⟩, rfl⟩
          rintro ρ _ ⟨hρ, rfl⟩
          rw [agree_eta hρ]
          clear hρ
          refine Wa_take (i := 8) rfl (by kernel_rfl) rfl rfl (.bool ((!(x8133 == x8134)) || (t8344.1 != t8349.1))) rfl (fun w' h' => x_move rfl) (⟨M, Hp.le_refl M, S.pick [0, 1, 4] (by decide)⟩) ?_
          refine Wa_join (fun ρ w' => Agree ρ [(0, .slice A0 a0.length c0), (3, .pointer (some ⟨b7, 0, none⟩)), (4, .pointer (some ⟨b15, 0, none⟩)), (5, .int .i64 x4412), (6, .pointer (some ⟨b7, 0, none⟩)), (7, .pointer (some ⟨b15, 0, none⟩)), (117, .bool (((!(x8133 == x8134)) || (t8344.1 != t8349.1)) || (!(t8344.2 == t8349.2))))] ∧ w8392 = w') 20 (Ls 33 [0, 1, 2, 3, 4, 5, 6, 7, 8, 9, 10, 11, 12]) ?_ ?_
          rotate_left
          · intro hrest
            rcases boolCases ((!(x8133 == x8134)) || (t8344.1 != t8349.1)) with hb8395 | hb8395
            · skip
              refine Wa_takeY (i := 9) rfl (by kernel_rfl) rfl rfl (.bool t8344.2) rfl (congrArg some hb8395) (fun w' h' => x_move rfl) (⟨M, Hp.le_refl M, S.pick [0, 1, 4] (by decide)⟩) ?_
              refine Wa_takeY (i := 10) rfl (by kernel_rfl) rfl rfl (.bool t8349.2) rfl (congrArg some hb8395) (fun w' h' => x_move rfl) (⟨M, Hp.le_refl M, S.pick [0, 1, 4] (by decide)⟩) ?_
              refine Wa_takeY (i := 11) rfl (by kernel_rfl) rfl rfl (.bool (!(t8344.2 == t8349.2))) rfl (congrArg some hb8395) (fun w' h' => x_bne Try.underlying4 rfl rfl) (⟨M, Hp.le_refl M, S.pick [0, 1, 4] (by decide)⟩) ?_
              refine Wa_take (i := 12) rfl (by kernel_rfl) rfl rfl (.bool (!(t8344.2 == t8349.2))) rfl (fun w' h' => x_pick (k := false) (congrArg Value.bool hb8395) rfl) (⟨M, Hp.le_refl M, S.pick [0, 1, 4] (by decide)⟩) ?_
              exact hrest _ _ ⟨⟨rfl, rfl, rfl, rfl, rfl, rfl, (by first | rfl | (rw [hb8395]; rfl) | (simp only [hb8395]; rfl)), trivial⟩, rfl⟩
            · skip
              refine Wa_takeN (i := 9) rfl (by kernel_rfl) rfl rfl rfl (skF hb8395) (⟨M, Hp.le_refl M, S.pick [0, 1, 4] (by decide)⟩) ?_
              refine Wa_takeN (i := 10) rfl (by kernel_rfl) rfl rfl rfl (skF hb8395) (⟨M, Hp.le_refl M, S.pick [0, 1, 4] (by decide)⟩) ?_
              refine Wa_takeN (i := 11) rfl (by kernel_rfl) rfl rfl rfl (skF hb8395) (⟨M, Hp.le_refl M, S.pick [0, 1, 4] (by decide)⟩) ?_
              refine Wa_take (i := 12) rfl (by kernel_rfl) rfl rfl (.bool true) rfl (fun w' h' => x_pick (k := true) (congrArg Value.bool hb8395) rfl) (⟨M, Hp.le_refl M, S.pick [0, 1, 4] (by decide)⟩) ?_
              exact hrest _ _ ⟨⟨rfl, rfl, rfl, rfl, rfl, rfl, (by first | rfl | (rw [hb8395]; rfl) | (simp only [hb8395]; rfl)), trivial⟩, rfl⟩
          rintro ρ _ ⟨hρ, rfl⟩
          rw [agree_eta hρ]
          clear hρ
          refine Wa_take (i := 13) rfl (by kernel_rfl) rfl rfl (.bool (((!(x8133 == x8134)) || (t8344.1 != t8349.1)) || (!(t8344.2 == t8349.2)))) rfl (fun w' h' => x_move rfl) (⟨M, Hp.le_refl M, S.pick [0, 1, 4] (by decide)⟩) ?_
          obtain ⟨o8407, o8407h, o8407H⟩ := bindS H
          clear H
          refine Wa_join (fun ρ w' => ∃ (x8402 : Bool) (x8403 : List (latch_Name × Int)) (A8404 : Option Addr) (c8405 : Nat), (x8402, x8403) = o8407 ∧ Agree ρ [(0, .slice A0 a0.length c0), (3, .pointer (some ⟨b7, 0, none⟩)), (4, .pointer (some ⟨b15, 0, none⟩)), (5, .int .i64 x4412), (6, .pointer (some ⟨b7, 0, none⟩)), (7, .pointer (some ⟨b15, 0, none⟩)), (127, .bool x8402)] ∧ Ext w w' ∧ St w' M F [MapC enc_latch_Name (Value.int .i64) A8404 x8403, Blk b15 (.cells #[.slice A8136 x8135.length c8137] 48 (0, 0)), Row r_ferrymanref05_Hold 64 (.slice A8136 x8135.length c8137) x8135, Blk b7 (.cells #[.map (mb A8404)] 56 (0, 0)), Blk b7741 (.cells #[.int .u8 ((rd a0 x4412).N.Kind), .int .u64 ((rd a0 x4412).N.ID)] 44 (0, 0))]) 10 (Ls 33 [0, 1, 2, 3, 4, 5, 6, 7, 8, 9, 10, 11, 12, 13, 14, 15, 16, 17, 18, 19, 20, 21, 22]) ?_ ?_
          rotate_left
          · intro hrest
            have H := o8407h
            clear o8407h o8407H
            rcases iteS H with ⟨hb8401, H⟩ | ⟨hb8401, H⟩
            · skip
              refine Wa_takeN (i := 14) rfl (by kernel_rfl) rfl rfl rfl (skF hb8401) (⟨M, Hp.le_refl M, S.pick [0, 1, 4] (by decide)⟩) ?_
              refine Wa_takeN (i := 15) rfl (by kernel_rfl) rfl rfl rfl (skF hb8401) (⟨M, Hp.le_refl M, S.pick [0, 1, 4] (by decide)⟩) ?_
              refine Wa_takeN (i := 16) rfl (by kernel_rfl) rfl rfl rfl (skF hb8401) (⟨M, Hp.le_refl M, S.pick [0, 1, 4] (by decide)⟩) ?_
              refine Wa_takeN (i := 17) rfl (by kernel_rfl) rfl rfl rfl (skF hb8401) (⟨M, Hp.le_refl M, S.pick [0, 1, 4] (by decide)⟩) ?_
              refine Wa_takeN (i := 18) rfl (by kernel_rfl) rfl rfl rfl (skF hb8401) (⟨M, Hp.le_refl M, S.pick [0, 1, 4] (by decide)⟩) ?_
              refine Wa_takeN (i := 19) rfl (by kernel_rfl) rfl rfl rfl (skF hb8401) (⟨M, Hp.le_refl M, S.pick [0, 1, 4] (by decide)⟩) ?_
              refine Wa_takeN (i := 20) rfl (by kernel_rfl) rfl rfl rfl (skF hb8401) (⟨M, Hp.le_refl M, S.pick [0, 1, 4] (by decide)⟩) ?_
              refine Wa_takeN (i := 21) rfl (by kernel_rfl) rfl rfl rfl (skF hb8401) (⟨M, Hp.le_refl M, S.pick [0, 1, 4] (by decide)⟩) ?_
              refine Wa_take (i := 22) rfl (by kernel_rfl) rfl rfl (.bool true) rfl (fun w' h' => x_pick (k := true) (congrArg Value.bool hb8401) rfl) (⟨M, Hp.le_refl M, S.pick [0, 1, 4] (by decide)⟩) ?_
              exact hrest _ _ ⟨true, x8139, A8140, c8141, Option.some.inj H, ⟨rfl, rfl, rfl, rfl, rfl, rfl, rfl, trivial⟩, E, S.pick [3, 0, 1, 2, 4] (by decide)⟩
            · skip
              refine Wa_takeY (i := 14) rfl (by kernel_rfl) rfl rfl (.pointer (some ⟨b7, 0, none⟩)) rfl (congrArg some hb8401) (fun w' h' => x_move rfl) (⟨M, Hp.le_refl M, S.pick [0, 1, 4] (by decide)⟩) ?_
              refine Wa_takeY (i := 16) rfl (by kernel_rfl) rfl rfl (.pointer (some ⟨b15, 0, none⟩)) rfl (congrArg some hb8401) (fun w' h' => x_move rfl) (⟨M, Hp.le_refl M, S.pick [0, 1, 4] (by decide)⟩) ?_
              refine Wa_takeY (i := 17) rfl (by kernel_rfl) rfl rfl (.pointer (some ⟨b15, 0, none⟩)) rfl (congrArg some hb8401) (fun w' h' => x_nilptr rfl) (⟨M, Hp.le_refl M, S.pick [0, 1, 4] (by decide)⟩) ?_
              refine Wa_takeY (i := 18) rfl (by kernel_rfl) rfl rfl (.pointer (some ⟨b15, 0, none⟩)) rfl (congrArg some hb8401) (fun w' h' => x_fieldAddr (o := 0) (off := 0) Try.underlying48 rfl ty46 rfl rfl) (⟨M, Hp.le_refl M, S.pick [0, 1, 4] (by decide)⟩) ?_
              refine Wa_takeY (i := 19) rfl (by kernel_rfl) rfl rfl (.slice A8136 x8135.length c8137) rfl (congrArg some hb8401) (fun w' h' => x_load (cls_blk h' 0 rfl) ty46 rfl rfl) (⟨M, Hp.le_refl M, S.pick [0, 1, 4] (by decide)⟩) ?_
              refine Wa_takeY (i := 20) rfl (by kernel_rfl) rfl rfl (.int .i64 (x8135.length : Int)) rfl (congrArg some hb8401) (fun w' h' => x_len_slice (n := x8135.length) Try.underlying46 rfl) (⟨M, Hp.le_refl M, S.pick [0, 1, 4] (by decide)⟩) ?_
              refine Wa_solo (i := 15) rfl (by kernel_rfl) ?_
              refine W_yes (congrArg some hb8401) ?_
              obtain ⟨t8408, ht8409, H⟩ := bindS H
              replace S : St w8392 M F [Blk b7 (.cells #[.map (mb A8140)] 56 (0, 0)), MapC enc_latch_Name (Value.int .i64) A8140 x8139, Blk b15 (.cells #[.slice A8136 x8135.length c8137] 48 (0, 0)), Row r_ferrymanref05_Hold 64 (.slice A8136 x8135.length c8137) x8135, Blk b7741 (.cells #[.int .u8 ((rd a0 x4412).N.Kind), .int .u64 ((rd a0 x4412).N.ID)] 44 (0, 0))] := S.pick [2, 3, 0, 1, 4] (by decide)
              refine W_callF2 fn15 (latch_Latches_All_PO.con k M A8140 c8141 (⟨x8139⟩ : latch_Latches) b7 t8408  ht8409) (Γ1 := [Blk b7 (.cells #[.map (mb A8140)] 56 (0, 0)), MapC enc_latch_Name (Value.int .i64) A8140 x8139]) (Γ2 := [Blk b15 (.cells #[.slice A8136 x8135.length c8137] 48 (0, 0)), Row r_ferrymanref05_Hold 64 (.slice A8136 x8135.length c8137) x8135, Blk b7741 (.cells #[.int .u8 ((rd a0 x4412).N.Kind), .int .u64 ((rd a0 x4412).N.ID)] 44 (0, 0))]) S rfl rfl (by rintro _ _ _ ⟨rfl, rfl⟩; exact (flat_cons flat_blk (flat_cons flat_map flat_nil))) ?_
              rintro _ w8410 _ Γ' E' S ⟨rfl, rfl⟩
              replace E := E.trans E'
              clear E'
              replace S : St w8410 M F [Blk b7 (.cells #[.map (mb A8140)] 56 (0, 0)), MapC enc_latch_Name (Value.int .i64) A8140 x8139, Blk b15 (.cells #[.slice A8136 x8135.length c8137] 48 (0, 0)), Row r_ferrymanref05_Hold 64 (.slice A8136 x8135.length c8137) x8135, Blk b7741 (.cells #[.int .u8 ((rd a0 x4412).N.Kind), .int .u64 ((rd a0 x4412).N.ID)] 44 (0, 0))] := S
              refine Wl_nil (on_n ⟨.inr ⟨M, Hp.le_refl M, S.pick [2, 3, 4] (by decide)⟩, ?_⟩)
              refine Wa_takeY (i := 21) rfl (by kernel_rfl) rfl rfl (.bool (t8408 != (x8135.length : Int))) rfl (congrArg some hb8401) (fun w' h' => x_ibin rfl rfl rfl rfl) (⟨M, Hp.le_refl M, S.pick [2, 3, 4] (by decide)⟩) ?_
              refine Wa_take (i := 22) rfl (by kernel_rfl) rfl rfl (.bool (t8408 != (x8135.length : Int))) rfl (fun w' h' => x_pick (k := false) (congrArg Value.bool hb8401) rfl) (⟨M, Hp.le_refl M, S.pick [2, 3, 4] (by decide)⟩) ?_
              exact hrest _ _ ⟨(t8408 != (x8135.length : Int)), x8139, A8140, c8141, Option.some.inj H, ⟨rfl, rfl, rfl, rfl, rfl, rfl, rfl, trivial⟩, E, S.pick [1, 2, 3, 0, 4] (by decide)⟩
          clear o8407h
          rintro ρ w8413 ⟨x8402, x8403, A8404, c8405, rfl, hρ, E, S⟩
          rw [agree_eta hρ]
          clear hρ
          have H := o8407H
          clear o8407H
          refine Wa_take (i := 23) rfl (by kernel_rfl) rfl rfl (.bool x8402) rfl (fun w' h' => x_move rfl) (⟨M, Hp.le_refl M, S.pick [1, 2, 4] (by decide)⟩) ?_
          obtain ⟨o8425, o8425h, o8425H⟩ := bindS H
          clear H
          refine Wa_join (fun ρ w' => ∃ (x8420 : Bool) (x8421 : List (latch_Name × Int)) (A8422 : Option Addr) (c8423 : Nat), (x8420, x8421) = o8425 ∧ Agree ρ [(0, .slice A0 a0.length c0), (3, .pointer (some ⟨b7, 0, none⟩)), (4, .pointer (some ⟨b15, 0, none⟩)), (5, .int .i64 x4412), (6, .pointer (some ⟨b7, 0, none⟩)), (7, .pointer (some ⟨b15, 0, none⟩)), (137, .bool x8420)] ∧ Ext w w' ∧ St w' M F [MapC enc_latch_Name (Value.int .i64) A8422 x8421, Blk b15 (.cells #[.slice A8136 x8135.length c8137] 48 (0, 0)), Row r_ferrymanref05_Hold 64 (.slice A8136 x8135.length c8137) x8135, Blk b7 (.cells #[.map (mb A8422)] 56 (0, 0)), Blk b7741 (.cells #[.int .u8 ((rd a0 x4412).N.Kind), .int .u64 ((rd a0 x4412).N.ID)] 44 (0, 0))]) 0 (Ls 33 [0, 1, 2, 3, 4, 5, 6, 7, 8, 9, 10, 11, 12, 13, 14, 15, 16, 17, 18, 19, 20, 21, 22, 23, 24, 25, 26, 27, 28, 29, 30, 31, 32]) ?_ ?_
          rotate_left
          · intro hrest
            have H := o8425h
            clear o8425h o8425H
            rcases iteS H with ⟨hb8419, H⟩ | ⟨hb8419, H⟩
            · skip
              refine Wa_takeN (i := 24) rfl (by kernel_rfl) rfl rfl rfl (skF hb8419) (⟨M, Hp.le_refl M, S.pick [1, 2, 4] (by decide)⟩) ?_
              refine Wa_takeN (i := 25) rfl (by kernel_rfl) rfl rfl rfl (skF hb8419) (⟨M, Hp.le_refl M, S.pick [1, 2, 4] (by decide)⟩) ?_
              refine Wa_takeN (i := 26) rfl (by kernel_rfl) rfl rfl rfl (skF hb8419) (⟨M, Hp.le_refl M, S.pick [1, 2, 4] (by decide)⟩) ?_
              refine Wa_takeN (i := 27) rfl (by kernel_rfl) rfl rfl rfl (skF hb8419) (⟨M, Hp.le_refl M, S.pick [1, 2, 4] (by decide)⟩) ?_
              refine Wa_takeN (i := 28) rfl (by kernel_rfl) rfl rfl rfl (skF hb8419) (⟨M, Hp.le_refl M, S.pick [1, 2, 4] (by decide)⟩) ?_
              refine Wa_takeN (i := 29) rfl (by kernel_rfl) rfl rfl rfl (skF hb8419) (⟨M, Hp.le_refl M, S.pick [1, 2, 4] (by decide)⟩) ?_
              refine Wa_takeN (i := 30) rfl (by kernel_rfl) rfl rfl rfl (skF hb8419) (⟨M, Hp.le_refl M, S.pick [1, 2, 4] (by decide)⟩) ?_
              refine Wa_takeN (i := 31) rfl (by kernel_rfl) rfl rfl rfl (skF hb8419) (⟨M, Hp.le_refl M, S.pick [1, 2, 4] (by decide)⟩) ?_
              refine Wa_take (i := 32) rfl (by kernel_rfl) rfl rfl (.bool true) rfl (fun w' h' => x_pick (k := true) (congrArg Value.bool hb8419) rfl) (⟨M, Hp.le_refl M, S.pick [1, 2, 4] (by decide)⟩) ?_
              exact hrest _ _ ⟨true, x8403, A8404, c8405, Option.some.inj H, ⟨rfl, rfl, rfl, rfl, rfl, rfl, rfl, trivial⟩, E, S.pick [0, 1, 2, 3, 4] (by decide)⟩
            · skip
              refine Wa_takeY (i := 24) rfl (by kernel_rfl) rfl rfl (.pointer (some ⟨b7, 0, none⟩)) rfl (congrArg some hb8419) (fun w' h' => x_move rfl) (⟨M, Hp.le_refl M, S.pick [1, 2, 4] (by decide)⟩) ?_
              refine Wa_takeY (i := 26) rfl (by kernel_rfl) rfl rfl (.pointer (some ⟨b15, 0, none⟩)) rfl (congrArg some hb8419) (fun w' h' => x_move rfl) (⟨M, Hp.le_refl M, S.pick [1, 2, 4] (by decide)⟩) ?_
              refine Wa_takeY (i := 27) rfl (by kernel_rfl) rfl rfl (.pointer (some ⟨b15, 0, none⟩)) rfl (congrArg some hb8419) (fun w' h' => x_nilptr rfl) (⟨M, Hp.le_refl M, S.pick [1, 2, 4] (by decide)⟩) ?_
              refine Wa_takeY (i := 28) rfl (by kernel_rfl) rfl rfl (.pointer (some ⟨b15, 0, none⟩)) rfl (congrArg some hb8419) (fun w' h' => x_fieldAddr (o := 0) (off := 0) Try.underlying48 rfl ty46 rfl rfl) (⟨M, Hp.le_refl M, S.pick [1, 2, 4] (by decide)⟩) ?_
              refine Wa_takeY (i := 29) rfl (by kernel_rfl) rfl rfl (.slice A8136 x8135.length c8137) rfl (congrArg some hb8419) (fun w' h' => x_load (cls_blk h' 0 rfl) ty46 rfl rfl) (⟨M, Hp.le_refl M, S.pick [1, 2, 4] (by decide)⟩) ?_
              refine Wa_takeY (i := 30) rfl (by kernel_rfl) rfl rfl (.int .i64 (x8135.length : Int)) rfl (congrArg some hb8419) (fun w' h' => x_len_slice (n := x8135.length) Try.underlying46 rfl) (⟨M, Hp.le_refl M, S.pick [1, 2, 4] (by decide)⟩) ?_
              refine Wa_solo (i := 25) rfl (by kernel_rfl) ?_
              refine W_yes (congrArg some hb8419) ?_
              obtain ⟨t8426, ht8427, H⟩ := bindS H
              replace S : St w8413 M F [Blk b7 (.cells #[.map (mb A8404)] 56 (0, 0)), MapC enc_latch_Name (Value.int .i64) A8404 x8403, Blk b15 (.cells #[.slice A8136 x8135.length c8137] 48 (0, 0)), Row r_ferrymanref05_Hold 64 (.slice A8136 x8135.length c8137) x8135, Blk b7741 (.cells #[.int .u8 ((rd a0 x4412).N.Kind), .int .u64 ((rd a0 x4412).N.ID)] 44 (0, 0))] := S.pick [3, 0, 1, 2, 4] (by decide)
              refine W_callF2 fn15 (latch_Latches_All_PO.con k M A8404 c8405 (⟨x8403⟩ : latch_Latches) b7 t8426  ht8427) (Γ1 := [Blk b7 (.cells #[.map (mb A8404)] 56 (0, 0)), MapC enc_latch_Name (Value.int .i64) A8404 x8403]) (Γ2 := [Blk b15 (.cells #[.slice A8136 x8135.length c8137] 48 (0, 0)), Row r_ferrymanref05_Hold 64 (.slice A8136 x8135.length c8137) x8135, Blk b7741 (.cells #[.int .u8 ((rd a0 x4412).N.Kind), .int .u64 ((rd a0 x4412).N.ID)] 44 (0, 0))]) S rfl rfl (by rintro _ _ _ ⟨rfl, rfl⟩; exact (flat_cons flat_blk (flat_cons flat_map flat_nil))) ?_
              rintro _ w8428 _ Γ' E' S ⟨rfl, rfl⟩
              replace E := E.trans E'
              clear E'
              replace S : St w8428 M F [Blk b7 (.cells #[.map (mb A8404)] 56 (0, 0)), MapC enc_latch_Name (Value.int .i64) A8404 x8403, Blk b15 (.cells #[.slice A8136 x8135.length c8137] 48 (0, 0)), Row r_ferrymanref05_Hold 64 (.slice A8136 x8135.length c8137) x8135, Blk b7741 (.cells #[.int .u8 ((rd a0 x4412).N.Kind), .int .u64 ((rd a0 x4412).N.ID)] 44 (0, 0))] := S
              refine Wl_nil (on_n ⟨.inr ⟨M, Hp.le_refl M, S.pick [2, 3, 4] (by decide)⟩, ?_⟩)
              refine Wa_takeY (i := 31) rfl (by kernel_rfl) rfl rfl (.bool (t8426 != (x8135.length : Int))) rfl (congrArg some hb8419) (fun w' h' => x_ibin rfl rfl rfl rfl) (⟨M, Hp.le_refl M, S.pick [2, 3, 4] (by decide)⟩) ?_
              refine Wa_take (i := 32) rfl (by kernel_rfl) rfl rfl (.bool (t8426 != (x8135.length : Int))) rfl (fun w' h' => x_pick (k := false) (congrArg Value.bool hb8419) rfl) (⟨M, Hp.le_refl M, S.pick [2, 3, 4] (by decide)⟩) ?_
              exact hrest _ _ ⟨(t8426 != (x8135.length : Int)), x8403, A8404, c8405, Option.some.inj H, ⟨rfl, rfl, rfl, rfl, rfl, rfl, rfl, trivial⟩, E, S.pick [1, 2, 3, 0, 4] (by decide)⟩
          clear o8425h
          rintro ρ w8431 ⟨x8420, x8421, A8422, c8423, rfl, hρ, E, S⟩
          rw [agree_eta hρ]
          clear hρ
          have H := o8425H
          clear o8425H
          refine Wa_done (by kernel_rfl) ?_
          refine tn ?_
          rcases iteS H with ⟨hb8432, H⟩ | ⟨hb8432, H⟩
          · refine Wp_cond_true (congrArg Value.bool hb8432) ?_
            refine Wp_seq ?_
            refine Wp_region_lit ?_
            refine W_v (.bool false) (x_assign rfl) rfl ?_
            refine Wl_nil ?_
            refine tn ?_
            refine Wp_ret ?_
            refine tr (br (tr (tr (br (tr (tr (?_)))))))
            obtain rfl := Option.some.inj H
            have H := o6602H
            replace H := elimL H
            obtain rfl := Option.some.inj H
            exact ⟨_, _, _, fun w1 e1 => run_resR (vs := [.bool false]) (FA.cons (rfl) (FA.nil)), HM, E, S.pick [] (by decide), ⟨rfl, rfl⟩⟩
          refine Wp_cond_false (congrArg Value.bool hb8432) ?_
          refine Wp_skip ?_
          refine tn ?_
          refine Wp_seq ?_
          refine Wp_region_lit ?_
          refine W_v (.pointer (some ⟨b7, 0, none⟩)) (x_move rfl) rfl ?_
          refine W_v (.slice A0 a0.length c0) (x_move rfl) rfl ?_
          refine W_v (.int .i64 x4412) (x_move rfl) rfl ?_
          obtain ⟨⟨p8433, p8434⟩, H⟩ := chkS H
          obtain ⟨b8435, o8436, cs8437, _, _, ee8442, hb8438, vs8439, hR8440, hc8441⟩ := SlW.at' hr0 p8433 p8434
          obtain rfl : vs8439 = _ := hR8440
          refine W_v (.pointer (some ⟨b8435, o8436 + x4412.toNat * 4, none⟩)) (x_indexAddr Try.underlying22 ty30 (slA ee8442) rfl p8433 p8434) rfl ?_
          refine W_v (.pointer (some ⟨b8435, o8436 + x4412.toNat * 4 + 3, none⟩)) (x_fieldAddr (o := o8436 + x4412.toNat * 4) (off := 3) Try.underlying30 rfl ty3 rfl rfl) rfl ?_
          refine W_v (.int .i64 ((rd a0 x4412).Task)) (x_load (S.frz hb8438) ty3 rfl (hc8441 3 _ rfl)) rfl ?_
          obtain ⟨t8443, ht8444, H⟩ := bindS H
          replace S : St w8431 M F [Blk b7 (.cells #[.map (mb A8422)] 56 (0, 0)), MapC enc_latch_Name (Value.int .i64) A8422 x8421, Blk b15 (.cells #[.slice A8136 x8135.length c8137] 48 (0, 0)), Row r_ferrymanref05_Hold 64 (.slice A8136 x8135.length c8137) x8135, Blk b7741 (.cells #[.int .u8 ((rd a0 x4412).N.Kind), .int .u64 ((rd a0 x4412).N.ID)] 44 (0, 0))] := S.pick [3, 0, 1, 2, 4] (by decide)
          refine W_callF2 fn16 (latch_Latches_Held_PO.con k M A8422 c8423 (⟨x8421⟩ : latch_Latches) ((rd a0 x4412).Task) b7 t8443  ht8444) (Γ1 := [Blk b7 (.cells #[.map (mb A8422)] 56 (0, 0)), MapC enc_latch_Name (Value.int .i64) A8422 x8421]) (Γ2 := [Blk b15 (.cells #[.slice A8136 x8135.length c8137] 48 (0, 0)), Row r_ferrymanref05_Hold 64 (.slice A8136 x8135.length c8137) x8135, Blk b7741 (.cells #[.int .u8 ((rd a0 x4412).N.Kind), .int .u64 ((rd a0 x4412).N.ID)] 44 (0, 0))]) S rfl rfl (by rintro _ _ _ ⟨_, _, rfl, rfl⟩; exact (flat_cons (flat_row (fun _ _ _ _ h => h)) (flat_cons flat_blk (flat_cons flat_map flat_nil)))) ?_
          rintro _ w8448 _ Γ' E' S ⟨A8445, c8446, rfl, rfl⟩
          replace E := E.trans E'
          clear E'
          replace S : St w8448 M F [Row r_latch_Name 25 (.slice A8445 t8443.length c8446) t8443, Blk b7 (.cells #[.map (mb A8422)] 56 (0, 0)), MapC enc_latch_Name (Value.int .i64) A8422 x8421, Blk b15 (.cells #[.slice A8136 x8135.length c8137] 48 (0, 0)), Row r_ferrymanref05_Hold 64 (.slice A8136 x8135.length c8137) x8135, Blk b7741 (.cells #[.int .u8 ((rd a0 x4412).N.Kind), .int .u64 ((rd a0 x4412).N.ID)] 44 (0, 0))] := S
          refine W_v (.slice A8445 t8443.length c8446) (x_assign rfl) rfl ?_
          refine Wl_nil ?_
          refine tn ?_
          refine Wp_seq ?_
          refine Wp_seq ?_
          refine Wp_region_any (S := fun w' => ∃ Mx, M.le Mx ∧ St w' Mx F [Row r_latch_Name 25 (.slice A8445 t8443.length c8446) t8443, Blk b15 (.cells #[.slice A8136 x8135.length c8137] 48 (0, 0)), Row r_ferrymanref05_Hold 64 (.slice A8136 x8135.length c8137) x8135, Blk b7741 (.cells #[.int .u8 ((rd a0 x4412).N.Kind), .int .u64 ((rd a0 x4412).N.ID)] 44 (0, 0))]) (L := 28) mixed ?_
          intro w8576 hw8577 E'
          replace S := S.heap hw8577
          replace E := E.trans E'
          clear E'
          refine Wa_take (i := 0) rfl (by kernel_rfl) rfl rfl (.slice A8445 t8443.length c8446) rfl (fun w' h' => x_move rfl) (⟨M, Hp.le_refl M, S.pick [0, 3, 4, 5] (by decide)⟩) ?_
          refine Wa_take (i := 2) rfl (by kernel_rfl) rfl rfl (.pointer (some ⟨b15, 0, none⟩)) rfl (fun w' h' => x_move rfl) (⟨M, Hp.le_refl M, S.pick [0, 3, 4, 5] (by decide)⟩) ?_
          refine Wa_take (i := 3) rfl (by kernel_rfl) rfl rfl (.slice A0 a0.length c0) rfl (fun w' h' => x_move rfl) (⟨M, Hp.le_refl M, S.pick [0, 3, 4, 5] (by decide)⟩) ?_
          refine Wa_take (i := 4) rfl (by kernel_rfl) rfl rfl (.int .i64 x4412) rfl (fun w' h' => x_move rfl) (⟨M, Hp.le_refl M, S.pick [0, 3, 4, 5] (by decide)⟩) ?_
          obtain ⟨⟨p8578, p8579⟩, H⟩ := chkS H
          obtain ⟨b8580, o8581, cs8582, _, _, ee8587, hb8583, vs8584, hR8585, hc8586⟩ := SlW.at' hr0 p8578 p8579
          obtain rfl : vs8584 = _ := hR8585
          refine Wa_take (i := 5) rfl (by kernel_rfl) rfl rfl (.pointer (some ⟨b8580, o8581 + x4412.toNat * 4, none⟩)) rfl (fun w' h' => x_indexAddr Try.underlying22 ty30 (slA ee8587) rfl p8578 p8579) (⟨M, Hp.le_refl M, S.pick [0, 3, 4, 5] (by decide)⟩) ?_
          refine Wa_take (i := 6) rfl (by kernel_rfl) rfl rfl (.pointer (some ⟨b8580, o8581 + x4412.toNat * 4 + 3, none⟩)) rfl (fun w' h' => x_fieldAddr (o := o8581 + x4412.toNat * 4) (off := 3) Try.underlying30 rfl ty3 rfl rfl) (⟨M, Hp.le_refl M, S.pick [0, 3, 4, 5] (by decide)⟩) ?_
          refine Wa_take (i := 7) rfl (by kernel_rfl) rfl rfl (.int .i64 ((rd a0 x4412).Task)) rfl (fun w' h' => x_load (cls_frz h' hb8583) ty3 rfl (hc8586 3 _ rfl)) (⟨M, Hp.le_refl M, S.pick [0, 3, 4, 5] (by decide)⟩) ?_
          refine Wa_solo (i := 1) rfl (by kernel_rfl) ?_
          obtain ⟨t8588, ht8589, H⟩ := bindS H
          refine W_callN 1 fn19 (fun h9 hs9 hd9 => ferrymanlaw05_names.con k _ A8445 c8446 t8443 t8588 (Sats.row hs9 hd9 0 rfl) ht8589) S rfl rfl (by rintro _ _ _ ⟨_, _, _, rfl⟩; exact (flat_cons (flat_row (fun _ _ _ _ h => h)) flat_nil)) ?_
          rintro _ w8593 _ Γ' E' S ⟨A8590, c8591, rfl, rfl⟩
          replace E := E.trans E'
          clear E'
          refine Wl_nil (on_n ⟨.inr ⟨M, Hp.le_refl M, S.pick [1, 4, 5, 6] (by decide)⟩, ?_⟩)
          refine Wa_solo (i := 8) rfl (by kernel_rfl) ?_
          obtain ⟨t8594, ht8595, H⟩ := bindS H
          replace S : St w8593 M F [Blk b15 (.cells #[.slice A8136 x8135.length c8137] 48 (0, 0)), Row r_ferrymanref05_Hold 64 (.slice A8136 x8135.length c8137) x8135, Row r_ferrymanref05_Name 44 (.slice A8590 t8588.length c8591) t8588, Row r_latch_Name 25 (.slice A8445 t8443.length c8446) t8443, Blk b7 (.cells #[.map (mb A8422)] 56 (0, 0)), MapC enc_latch_Name (Value.int .i64) A8422 x8421, Blk b7741 (.cells #[.int .u8 ((rd a0 x4412).N.Kind), .int .u64 ((rd a0 x4412).N.ID)] 44 (0, 0))] := S.pick [4, 5, 0, 1, 2, 3, 6] (by decide)
          refine W_callF2 fn24 (ferrymanref05_Latches_Held_PO.con k M A8136 c8137 (⟨x8135⟩ : ferrymanref05_Latches) ((rd a0 x4412).Task) b15 t8594  ht8595) (Γ1 := [Blk b15 (.cells #[.slice A8136 x8135.length c8137] 48 (0, 0)), Row r_ferrymanref05_Hold 64 (.slice A8136 x8135.length c8137) x8135]) (Γ2 := [Row r_ferrymanref05_Name 44 (.slice A8590 t8588.length c8591) t8588, Row r_latch_Name 25 (.slice A8445 t8443.length c8446) t8443, Blk b7 (.cells #[.map (mb A8422)] 56 (0, 0)), MapC enc_latch_Name (Value.int .i64) A8422 x8421, Blk b7741 (.cells #[.int .u8 ((rd a0 x4412).N.Kind), .int .u64 ((rd a0 x4412).N.ID)] 44 (0, 0))]) S rfl rfl (by rintro _ _ _ ⟨_, _, rfl, rfl⟩; exact (flat_cons (flat_row (fun _ _ _ _ h => h)) (flat_cons flat_blk (flat_cons (flat_row (fun _ _ _ _ h => h)) flat_nil)))) ?_
          rintro _ w8599 _ Γ' E' S ⟨A8596, c8597, rfl, rfl⟩
          replace E := E.trans E'
          clear E'
          replace S : St w8599 M F [Row r_ferrymanref05_Name 44 (.slice A8596 t8594.length c8597) t8594, Blk b15 (.cells #[.slice A8136 x8135.length c8137] 48 (0, 0)), Row r_ferrymanref05_Hold 64 (.slice A8136 x8135.length c8137) x8135, Row r_ferrymanref05_Name 44 (.slice A8590 t8588.length c8591) t8588, Row r_latch_Name 25 (.slice A8445 t8443.length c8446) t8443, Blk b7 (.cells #[.map (mb A8422)] 56 (0, 0)), MapC enc_latch_Name (Value.int .i64) A8422 x8421, Blk b7741 (.cells #[.int .u8 ((rd a0 x4412).N.Kind), .int .u64 ((rd a0 x4412).N.ID)] 44 (0, 0))] := S
          refine Wl_nil (on_n ⟨.inr ⟨M, Hp.le_refl M, S.pick [4, 1, 2, 7] (by decide)⟩, ?_⟩)
          refine Wa_solo (i := 9) rfl (by kernel_rfl) ?_
          replace S : St w8599 M F [Row r_ferrymanref05_Name 44 (.slice A8590 t8588.length c8591) t8588, Row r_ferrymanref05_Name 44 (.slice A8596 t8594.length c8597) t8594, Blk b15 (.cells #[.slice A8136 x8135.length c8137] 48 (0, 0)), Row r_ferrymanref05_Hold 64 (.slice A8136 x8135.length c8137) x8135, Row r_latch_Name 25 (.slice A8445 t8443.length c8446) t8443, Blk b7 (.cells #[.map (mb A8422)] 56 (0, 0)), MapC enc_latch_Name (Value.int .i64) A8422 x8421, Blk b7741 (.cells #[.int .u8 ((rd a0 x4412).N.Kind), .int .u64 ((rd a0 x4412).N.ID)] 44 (0, 0))] := S.pick [3, 0, 1, 2, 4, 5, 6, 7] (by decide)
          obtain ⟨t8602, ht8603, H⟩ := bindS H
          refine W_callN 2 fn18 (fun h9 hs9 hd9 => ferrymanref05_Names.con k _ A8590 c8591 t8588 A8596 c8597 t8594 t8602 (Sats.row hs9 hd9 0 rfl) (Sats.row hs9 hd9 1 rfl) ht8603) S rfl rfl (by rintro _ _ _ ⟨_, rfl⟩; exact flat_nil) ?_
          rintro _ w8604 _ Γ' E' S ⟨rfl, rfl⟩
          replace E := E.trans E'
          clear E'
          refine Wl_nil (on_n ⟨.inr ⟨M, Hp.le_refl M, S.pick [4, 2, 3, 7] (by decide)⟩, ?_⟩)
          refine Wa_take (i := 10) rfl (by kernel_rfl) rfl rfl (.bool (!t8602)) rfl (fun w' h' => x_not rfl) (⟨M, Hp.le_refl M, S.pick [4, 2, 3, 7] (by decide)⟩) ?_
          refine Wa_take (i := 11) rfl (by kernel_rfl) rfl rfl (.bool (!t8602)) rfl (fun w' h' => x_move rfl) (⟨M, Hp.le_refl M, S.pick [4, 2, 3, 7] (by decide)⟩) ?_
          obtain ⟨o8656, o8656h, o8656H⟩ := bindS H
          clear H
          refine Wa_join (fun ρ w' => ∃ (x8651 : Bool) (x8652 : List (latch_Name × Int)) (A8653 : Option Addr) (c8654 : Nat), (x8651, x8652) = o8656 ∧ Agree ρ [(0, .slice A0 a0.length c0), (3, .pointer (some ⟨b7, 0, none⟩)), (4, .pointer (some ⟨b15, 0, none⟩)), (5, .int .i64 x4412), (15, .slice A8445 t8443.length c8446), (172, .bool x8651)] ∧ Ext w w' ∧ St w' M F [MapC enc_latch_Name (Value.int .i64) A8653 x8652, Blk b15 (.cells #[.slice A8136 x8135.length c8137] 48 (0, 0)), Row r_ferrymanref05_Hold 64 (.slice A8136 x8135.length c8137) x8135, Row r_latch_Name 25 (.slice A8445 t8443.length c8446) t8443, Blk b7 (.cells #[.map (mb A8653)] 56 (0, 0)), Blk b7741 (.cells #[.int .u8 ((rd a0 x4412).N.Kind), .int .u64 ((rd a0 x4412).N.ID)] 44 (0, 0))]) 0 (Ls 28 [0, 2, 3, 4, 5, 6, 7, 1, 8, 9, 10, 11, 12, 13, 14, 15, 16, 17, 18, 19, 20, 21, 22, 23, 24, 25, 26, 27]) ?_ ?_
          rotate_left
          · intro hrest
            have H := o8656h
            clear o8656h o8656H
            rcases iteS H with ⟨hb8650, H⟩ | ⟨hb8650, H⟩
            · skip
              refine Wa_takeN (i := 12) rfl (by kernel_rfl) rfl rfl rfl (skF hb8650) (⟨M, Hp.le_refl M, S.pick [4, 2, 3, 7] (by decide)⟩) ?_
              refine Wa_takeN (i := 13) rfl (by kernel_rfl) rfl rfl rfl (skF hb8650) (⟨M, Hp.le_refl M, S.pick [4, 2, 3, 7] (by decide)⟩) ?_
              refine Wa_takeN (i := 14) rfl (by kernel_rfl) rfl rfl rfl (skF hb8650) (⟨M, Hp.le_refl M, S.pick [4, 2, 3, 7] (by decide)⟩) ?_
              refine Wa_takeN (i := 15) rfl (by kernel_rfl) rfl rfl rfl (skF hb8650) (⟨M, Hp.le_refl M, S.pick [4, 2, 3, 7] (by decide)⟩) ?_
              refine Wa_takeN (i := 16) rfl (by kernel_rfl) rfl rfl rfl (skF hb8650) (⟨M, Hp.le_refl M, S.pick [4, 2, 3, 7] (by decide)⟩) ?_
              refine Wa_takeN (i := 17) rfl (by kernel_rfl) rfl rfl rfl (skF hb8650) (⟨M, Hp.le_refl M, S.pick [4, 2, 3, 7] (by decide)⟩) ?_
              refine Wa_takeN (i := 18) rfl (by kernel_rfl) rfl rfl rfl (skF hb8650) (⟨M, Hp.le_refl M, S.pick [4, 2, 3, 7] (by decide)⟩) ?_
              refine Wa_takeN (i := 19) rfl (by kernel_rfl) rfl rfl rfl (skF hb8650) (⟨M, Hp.le_refl M, S.pick [4, 2, 3, 7] (by decide)⟩) ?_
              refine Wa_takeN (i := 20) rfl (by kernel_rfl) rfl rfl rfl (skF hb8650) (⟨M, Hp.le_refl M, S.pick [4, 2, 3, 7] (by decide)⟩) ?_
              refine Wa_takeN (i := 21) rfl (by kernel_rfl) rfl rfl rfl (skF hb8650) (⟨M, Hp.le_refl M, S.pick [4, 2, 3, 7] (by decide)⟩) ?_
              refine Wa_takeN (i := 22) rfl (by kernel_rfl) rfl rfl rfl (skF hb8650) (⟨M, Hp.le_refl M, S.pick [4, 2, 3, 7] (by decide)⟩) ?_
              refine Wa_takeN (i := 23) rfl (by kernel_rfl) rfl rfl rfl (skF hb8650) (⟨M, Hp.le_refl M, S.pick [4, 2, 3, 7] (by decide)⟩) ?_
              refine Wa_takeN (i := 24) rfl (by kernel_rfl) rfl rfl rfl (skF hb8650) (⟨M, Hp.le_refl M, S.pick [4, 2, 3, 7] (by decide)⟩) ?_
              refine Wa_takeN (i := 25) rfl (by kernel_rfl) rfl rfl rfl (skF hb8650) (⟨M, Hp.le_refl M, S.pick [4, 2, 3, 7] (by decide)⟩) ?_
              refine Wa_takeN (i := 26) rfl (by kernel_rfl) rfl rfl rfl (skF hb8650) (⟨M, Hp.le_refl M, S.pick [4, 2, 3, 7] (by decide)⟩) ?_
              refine Wa_take (i := 27) rfl (by kernel_rfl) rfl rfl (.bool true) rfl (fun w' h' => x_pick (k := true) (congrArg Value.bool hb8650) rfl) (⟨M, Hp.le_refl M, S.pick [4, 2, 3, 7] (by decide)⟩) ?_
              exact hrest _ _ ⟨true, x8421, A8422, c8423, Option.some.inj H, ⟨rfl, rfl, rfl, rfl, rfl, rfl, trivial⟩, E, S.pick [6, 2, 3, 4, 5, 7] (by decide)⟩
            · skip
              refine Wa_takeY (i := 12) rfl (by kernel_rfl) rfl rfl (.pointer (some ⟨b7, 0, none⟩)) rfl (congrArg some hb8650) (fun w' h' => x_move rfl) (⟨M, Hp.le_refl M, S.pick [4, 2, 3, 7] (by decide)⟩) ?_
              refine Wa_takeY (i := 13) rfl (by kernel_rfl) rfl rfl (.slice A0 a0.length c0) rfl (congrArg some hb8650) (fun w' h' => x_move rfl) (⟨M, Hp.le_refl M, S.pick [4, 2, 3, 7] (by decide)⟩) ?_
              obtain ⟨⟨p8657, p8658⟩, H⟩ := chkS H
              obtain ⟨b8659, o8660, cs8661, _, _, ee8666, hb8662, vs8663, hR8664, hc8665⟩ := SlW.at' hr0 p8657 p8658
              obtain rfl : vs8663 = _ := hR8664
              refine Wa_takeY (i := 14) rfl (by kernel_rfl) rfl rfl (.pointer (some ⟨b8659, o8660 + (0 : Int).toNat * 4, none⟩)) rfl (congrArg some hb8650) (fun w' h' => x_indexAddr Try.underlying22 ty30 (slA ee8666) rfl p8657 p8658) (⟨M, Hp.le_refl M, S.pick [4, 2, 3, 7] (by decide)⟩) ?_
              refine Wa_takeY (i := 15) rfl (by kernel_rfl) rfl rfl (.pointer (some ⟨b8659, o8660 + (0 : Int).toNat * 4 + 3, none⟩)) rfl (congrArg some hb8650) (fun w' h' => x_fieldAddr (o := o8660 + (0 : Int).toNat * 4) (off := 3) Try.underlying30 rfl ty3 rfl rfl) (⟨M, Hp.le_refl M, S.pick [4, 2, 3, 7] (by decide)⟩) ?_
              refine Wa_takeY (i := 16) rfl (by kernel_rfl) rfl rfl (.int .i64 ((rd a0 (0 : Int)).Task)) rfl (congrArg some hb8650) (fun w' h' => x_load (cls_frz h' hb8662) ty3 rfl (hc8665 3 _ rfl)) (⟨M, Hp.le_refl M, S.pick [4, 2, 3, 7] (by decide)⟩) ?_
              refine Wa_takeY (i := 19) rfl (by kernel_rfl) rfl rfl (.pointer (some ⟨b15, 0, none⟩)) rfl (congrArg some hb8650) (fun w' h' => x_move rfl) (⟨M, Hp.le_refl M, S.pick [4, 2, 3, 7] (by decide)⟩) ?_
              refine Wa_takeY (i := 20) rfl (by kernel_rfl) rfl rfl (.slice A0 a0.length c0) rfl (congrArg some hb8650) (fun w' h' => x_move rfl) (⟨M, Hp.le_refl M, S.pick [4, 2, 3, 7] (by decide)⟩) ?_
              obtain ⟨⟨p8667, p8668⟩, H⟩ := chkS H
              obtain ⟨b8669, o8670, cs8671, _, _, ee8676, hb8672, vs8673, hR8674, hc8675⟩ := SlW.at' hr0 p8667 p8668
              obtain rfl : vs8673 = _ := hR8674
              refine Wa_takeY (i := 21) rfl (by kernel_rfl) rfl rfl (.pointer (some ⟨b8669, o8670 + (0 : Int).toNat * 4, none⟩)) rfl (congrArg some hb8650) (fun w' h' => x_indexAddr Try.underlying22 ty30 (slA ee8676) rfl p8667 p8668) (⟨M, Hp.le_refl M, S.pick [4, 2, 3, 7] (by decide)⟩) ?_
              refine Wa_takeY (i := 22) rfl (by kernel_rfl) rfl rfl (.pointer (some ⟨b8669, o8670 + (0 : Int).toNat * 4 + 3, none⟩)) rfl (congrArg some hb8650) (fun w' h' => x_fieldAddr (o := o8670 + (0 : Int).toNat * 4) (off := 3) Try.underlying30 rfl ty3 rfl rfl) (⟨M, Hp.le_refl M, S.pick [4, 2, 3, 7] (by decide)⟩) ?_
              refine Wa_takeY (i := 23) rfl (by kernel_rfl) rfl rfl (.int .i64 ((rd a0 (0 : Int)).Task)) rfl (congrArg some hb8650) (fun w' h' => x_load (cls_frz h' hb8672) ty3 rfl (hc8675 3 _ rfl)) (⟨M, Hp.le_refl M, S.pick [4, 2, 3, 7] (by decide)⟩) ?_
              refine Wa_solo (i := 17) rfl (by kernel_rfl) ?_
              refine W_yes (congrArg some hb8650) ?_
              obtain ⟨t8677, ht8678, H⟩ := bindS H
              replace S : St w8604 M F [Blk b7 (.cells #[.map (mb A8422)] 56 (0, 0)), MapC enc_latch_Name (Value.int .i64) A8422 x8421, Row r_ferrymanref05_Name 44 (.slice A8590 t8588.length c8591) t8588, Row r_ferrymanref05_Name 44 (.slice A8596 t8594.length c8597) t8594, Blk b15 (.cells #[.slice A8136 x8135.length c8137] 48 (0, 0)), Row r_ferrymanref05_Hold 64 (.slice A8136 x8135.length c8137) x8135, Row r_latch_Name 25 (.slice A8445 t8443.length c8446) t8443, Blk b7741 (.cells #[.int .u8 ((rd a0 x4412).N.Kind), .int .u64 ((rd a0 x4412).N.ID)] 44 (0, 0))] := S.pick [5, 6, 0, 1, 2, 3, 4, 7] (by decide)
              refine W_callF2 fn16 (latch_Latches_Held_PO.con k M A8422 c8423 (⟨x8421⟩ : latch_Latches) ((rd a0 (0 : Int)).Task) b7 t8677  ht8678) (Γ1 := [Blk b7 (.cells #[.map (mb A8422)] 56 (0, 0)), MapC enc_latch_Name (Value.int .i64) A8422 x8421]) (Γ2 := [Row r_ferrymanref05_Name 44 (.slice A8590 t8588.length c8591) t8588, Row r_ferrymanref05_Name 44 (.slice A8596 t8594.length c8597) t8594, Blk b15 (.cells #[.slice A8136 x8135.length c8137] 48 (0, 0)), Row r_ferrymanref05_Hold 64 (.slice A8136 x8135.length c8137) x8135, Row r_latch_Name 25 (.slice A8445 t8443.length c8446) t8443, Blk b7741 (.cells #[.int .u8 ((rd a0 x4412).N.Kind), .int .u64 ((rd a0 x4412).N.ID)] 44 (0, 0))]) S rfl rfl (by rintro _ _ _ ⟨_, _, rfl, rfl⟩; exact (flat_cons (flat_row (fun _ _ _ _ h => h)) (flat_cons flat_blk (flat_cons flat_map flat_nil)))) ?_
              rintro _ w8682 _ Γ' E' S ⟨A8679, c8680, rfl, rfl⟩
              replace E := E.trans E'
              clear E'
              replace S : St w8682 M F [Row r_latch_Name 25 (.slice A8679 t8677.length c8680) t8677, Blk b7 (.cells #[.map (mb A8422)] 56 (0, 0)), MapC enc_latch_Name (Value.int .i64) A8422 x8421, Row r_ferrymanref05_Name 44 (.slice A8590 t8588.length c8591) t8588, Row r_ferrymanref05_Name 44 (.slice A8596 t8594.length c8597) t8594, Blk b15 (.cells #[.slice A8136 x8135.length c8137] 48 (0, 0)), Row r_ferrymanref05_Hold 64 (.slice A8136 x8135.length c8137) x8135, Row r_latch_Name 25 (.slice A8445 t8443.length c8446) t8443, Blk b7741 (.cells #[.int .u8 ((rd a0 x4412).N.Kind), .int .u64 ((rd a0 x4412).N.ID)] 44 (0, 0))] := S
              refine Wl_nil (on_n ⟨.inr ⟨M, Hp.le_refl M, S.pick [7, 5, 6, 8] (by decide)⟩, ?_⟩)
              refine Wa_solo (i := 18) rfl (by kernel_rfl) ?_
              refine W_yes (congrArg some hb8650) ?_
              obtain ⟨t8685, ht8686, H⟩ := bindS H
              refine W_callN 1 fn19 (fun h9 hs9 hd9 => ferrymanlaw05_names.con k _ A8679 c8680 t8677 t8685 (Sats.row hs9 hd9 0 rfl) ht8686) S rfl rfl (by rintro _ _ _ ⟨_, _, _, rfl⟩; exact (flat_cons (flat_row (fun _ _ _ _ h => h)) flat_nil)) ?_
              rintro _ w8690 _ Γ' E' S ⟨A8687, c8688, rfl, rfl⟩
              replace E := E.trans E'
              clear E'
              refine Wl_nil (on_n ⟨.inr ⟨M, Hp.le_refl M, S.pick [8, 6, 7, 9] (by decide)⟩, ?_⟩)
              refine Wa_solo (i := 24) rfl (by kernel_rfl) ?_
              refine W_yes (congrArg some hb8650) ?_
              obtain ⟨t8691, ht8692, H⟩ := bindS H
              replace S : St w8690 M F [Blk b15 (.cells #[.slice A8136 x8135.length c8137] 48 (0, 0)), Row r_ferrymanref05_Hold 64 (.slice A8136 x8135.length c8137) x8135, Row r_ferrymanref05_Name 44 (.slice A8687 t8685.length c8688) t8685, Row r_latch_Name 25 (.slice A8679 t8677.length c8680) t8677, Blk b7 (.cells #[.map (mb A8422)] 56 (0, 0)), MapC enc_latch_Name (Value.int .i64) A8422 x8421, Row r_ferrymanref05_Name 44 (.slice A8590 t8588.length c8591) t8588, Row r_ferrymanref05_Name 44 (.slice A8596 t8594.length c8597) t8594, Row r_latch_Name 25 (.slice A8445 t8443.length c8446) t8443, Blk b7741 (.cells #[.int .u8 ((rd a0 x4412).N.Kind), .int .u64 ((rd a0 x4412).N.ID)] 44 (0, 0))] := S.pick [6, 7, 0, 1, 2, 3, 4, 5, 8, 9] (by decide)
              refine W_callF2 fn24 (ferrymanref05_Latches_Held_PO.con k M A8136 c8137 (⟨x8135⟩ : ferrymanref05_Latches) ((rd a0 (0 : Int)).Task) b15 t8691  ht8692) (Γ1 := [Blk b15 (.cells #[.slice A8136 x8135.length c8137] 48 (0, 0)), Row r_ferrymanref05_Hold 64 (.slice A8136 x8135.length c8137) x8135]) (Γ2 := [Row r_ferrymanref05_Name 44 (.slice A8687 t8685.length c8688) t8685, Row r_latch_Name 25 (.slice A8679 t8677.length c8680) t8677, Blk b7 (.cells #[.map (mb A8422)] 56 (0, 0)), MapC enc_latch_Name (Value.int .i64) A8422 x8421, Row r_ferrymanref05_Name 44 (.slice A8590 t8588.length c8591) t8588, Row r_ferrymanref05_Name 44 (.slice A8596 t8594.length c8597) t8594, Row r_latch_Name 25 (.slice A8445 t8443.length c8446) t8443, Blk b7741 (.cells #[.int .u8 ((rd a0 x4412).N.Kind), .int .u64 ((rd a0 x4412).N.ID)] 44 (0, 0))]) S rfl rfl (by rintro _ _ _ ⟨_, _, rfl, rfl⟩; exact (flat_cons (flat_row (fun _ _ _ _ h => h)) (flat_cons flat_blk (flat_cons (flat_row (fun _ _ _ _ h => h)) flat_nil)))) ?_
              rintro _ w8696 _ Γ' E' S ⟨A8693, c8694, rfl, rfl⟩
              replace E := E.trans E'
              clear E'
              replace S : St w8696 M F [Row r_ferrymanref05_Name 44 (.slice A8693 t8691.length c8694) t8691, Blk b15 (.cells #[.slice A8136 x8135.length c8137] 48 (0, 0)), Row r_ferrymanref05_Hold 64 (.slice A8136 x8135.length c8137) x8135, Row r_ferrymanref05_Name 44 (.slice A8687 t8685.length c8688) t8685, Row r_latch_Name 25 (.slice A8679 t8677.length c8680) t8677, Blk b7 (.cells #[.map (mb A8422)] 56 (0, 0)), MapC enc_latch_Name (Value.int .i64) A8422 x8421, Row r_ferrymanref05_Name 44 (.slice A8590 t8588.length c8591) t8588, Row r_ferrymanref05_Name 44 (.slice A8596 t8594.length c8597) t8594, Row r_latch_Name 25 (.slice A8445 t8443.length c8446) t8443, Blk b7741 (.cells #[.int .u8 ((rd a0 x4412).N.Kind), .int .u64 ((rd a0 x4412).N.ID)] 44 (0, 0))] := S
              refine Wl_nil (on_n ⟨.inr ⟨M, Hp.le_refl M, S.pick [9, 1, 2, 10] (by decide)⟩, ?_⟩)
              refine Wa_solo (i := 25) rfl (by kernel_rfl) ?_
              refine W_yes (congrArg some hb8650) ?_
              replace S : St w8696 M F [Row r_ferrymanref05_Name 44 (.slice A8687 t8685.length c8688) t8685, Row r_ferrymanref05_Name 44 (.slice A8693 t8691.length c8694) t8691, Blk b15 (.cells #[.slice A8136 x8135.length c8137] 48 (0, 0)), Row r_ferrymanref05_Hold 64 (.slice A8136 x8135.length c8137) x8135, Row r_latch_Name 25 (.slice A8679 t8677.length c8680) t8677, Blk b7 (.cells #[.map (mb A8422)] 56 (0, 0)), MapC enc_latch_Name (Value.int .i64) A8422 x8421, Row r_ferrymanref05_Name 44 (.slice A8590 t8588.length c8591) t8588, Row r_ferrymanref05_Name 44 (.slice A8596 t8594.length c8597) t8594, Row r_latch_Name 25 (.slice A8445 t8443.length c8446) t8443, Blk b7741 (.cells #[.int .u8 ((rd a0 x4412).N.Kind), .int .u64 ((rd a0 x4412).N.ID)] 44 (0, 0))] := S.pick [3, 0, 1, 2, 4, 5, 6, 7, 8, 9, 10] (by decide)
              obtain ⟨t8699, ht8700, H⟩ := bindS H
              refine W_callN 2 fn18 (fun h9 hs9 hd9 => ferrymanref05_Names.con k _ A8687 c8688 t8685 A8693 c8694 t8691 t8699 (Sats.row hs9 hd9 0 rfl) (Sats.row hs9 hd9 1 rfl) ht8700) S rfl rfl (by rintro _ _ _ ⟨_, rfl⟩; exact flat_nil) ?_
              rintro _ w8701 _ Γ' E' S ⟨rfl, rfl⟩
              replace E := E.trans E'
              clear E'
              refine Wl_nil (on_n ⟨.inr ⟨M, Hp.le_refl M, S.pick [9, 2, 3, 10] (by decide)⟩, ?_⟩)
              refine Wa_takeY (i := 26) rfl (by kernel_rfl) rfl rfl (.bool (!t8699)) rfl (congrArg some hb8650) (fun w' h' => x_not rfl) (⟨M, Hp.le_refl M, S.pick [9, 2, 3, 10] (by decide)⟩) ?_
              refine Wa_take (i := 27) rfl (by kernel_rfl) rfl rfl (.bool (!t8699)) rfl (fun w' h' => x_pick (k := false) (congrArg Value.bool hb8650) rfl) (⟨M, Hp.le_refl M, S.pick [9, 2, 3, 10] (by decide)⟩) ?_
              exact hrest _ _ ⟨(!t8699), x8421, A8422, c8423, Option.some.inj H, ⟨rfl, rfl, rfl, rfl, rfl, rfl, trivial⟩, E, S.pick [6, 2, 3, 9, 5, 10] (by decide)⟩
          clear o8656h
          rintro ρ w8702 ⟨x8651, x8652, A8653, c8654, rfl, hρ, E, S⟩
          rw [agree_eta hρ]
          clear hρ
          have H := o8656H
          clear o8656H
          refine Wa_done (by kernel_rfl) ?_
          refine tn ?_
          rcases iteS H with ⟨hb8703, H⟩ | ⟨hb8703, H⟩
          · refine Wp_cond_true (congrArg Value.bool hb8703) ?_
            refine Wp_seq ?_
            refine Wp_region_lit ?_
            refine W_v (.bool false) (x_assign rfl) rfl ?_
            refine Wl_nil ?_
            refine tn ?_
            refine Wp_ret ?_
            refine tr (br (tr (tr (br (tr (tr (?_)))))))
            obtain rfl := Option.some.inj H
            have H := o6602H
            replace H := elimL H
            obtain rfl := Option.some.inj H
            exact ⟨_, _, _, fun w1 e1 => run_resR (vs := [.bool false]) (FA.cons (rfl) (FA.nil)), HM, E, S.pick [] (by decide), ⟨rfl, rfl⟩⟩
          refine Wp_cond_false (congrArg Value.bool hb8703) ?_
          refine Wp_skip ?_
          refine tn ?_
          refine Wp_seq ?_
          refine Wp_region_lit ?_
          refine W_v (.int .i64 0) (x_assign rfl) rfl ?_
          refine Wl_nil ?_
          refine tn ?_
          obtain ⟨o8768, o8768h, o8768H⟩ := bindS H
          clear H
          refine Wp_blockJ (fun ρ w' => ∃ (x8764 : List (latch_Name × Int)) (A8765 : Option Addr) (c8766 : Nat), (x8764) = o8768 ∧ Agree ρ [(0, .slice A0 a0.length c0), (3, .pointer (some ⟨b7, 0, none⟩)), (4, .pointer (some ⟨b15, 0, none⟩)), (5, .int .i64 x4412)] ∧ Ext w w' ∧ St w' M F [MapC enc_latch_Name (Value.int .i64) A8765 x8764, Blk b15 (.cells #[.slice A8136 x8135.length c8137] 48 (0, 0)), Row r_ferrymanref05_Hold 64 (.slice A8136 x8135.length c8137) x8135, Blk b7 (.cells #[.map (mb A8765)] 56 (0, 0))]) ?_ ?_
          · skip
            refine Wp_loop (fun n ρ w' => ∃ (x8744 : List latch_Name) (x8748 : Int) (A8745 : Option Addr) (c8746 : Nat), ferrymanlaw05_LatchPlays_l8 x8652 n x8744 x8748 = some o8768 ∧ Agree ρ [(0, .slice A0 a0.length c0), (3, .pointer (some ⟨b7, 0, none⟩)), (4, .pointer (some ⟨b15, 0, none⟩)), (5, .int .i64 x4412), (15, .slice A8745 x8744.length c8746), (16, .int .i64 x8748)] ∧ Ext w w' ∧ St w' M F [Row r_latch_Name 25 (.slice A8745 x8744.length c8746) x8744, MapC enc_latch_Name (Value.int .i64) A8653 x8652, Blk b15 (.cells #[.slice A8136 x8135.length c8137] 48 (0, 0)), Row r_ferrymanref05_Hold 64 (.slice A8136 x8135.length c8137) x8135, Blk b7 (.cells #[.map (mb A8653)] 56 (0, 0))]) k ?_ ?_
            · skip
              exact ⟨t8443, (0 : Int), A8445, c8446, o8768h, ⟨rfl, rfl, rfl, rfl, rfl, rfl, trivial⟩, E, S.pick [3, 0, 1, 2, 4] (by decide)⟩
            · intro n
              rintro ρ w8769 ⟨x8744, x8748, A8745, c8746, H, hρ, E, S⟩
              rw [agree_eta hρ]
              clear hρ
              cases n with
              | zero => cases H
              | succ k =>
                rw [ferrymanlaw05_LatchPlays_l8.eq_2] at H
                refine Wp_seq ?_
                refine Wp_seq ?_
                refine Wp_region_lit ?_
                refine W_v (.int .i64 x8748) (x_move rfl) rfl ?_
                refine W_v (.slice A8745 x8744.length c8746) (x_move rfl) rfl ?_
                refine W_v (.int .i64 (x8744.length : Int)) (x_len_slice (n := x8744.length) Try.underlying38 rfl) rfl ?_
                refine W_v (.bool (decide (x8748 < (x8744.length : Int)))) (x_ibin rfl rfl rfl rfl) rfl ?_
                refine Wl_nil ?_
                refine tn ?_
                rcases iteS H with ⟨hb8770, H⟩ | ⟨hb8770, H⟩
                · refine Wp_cond_true (congrArg Value.bool hb8770) ?_
                  refine Wp_skip ?_
                  refine tn ?_
                  refine Wp_seq ?_
                  refine Wp_block ?_
                  refine Wp_region_lit ?_
                  refine W_v (.slice A8745 x8744.length c8746) (x_move rfl) rfl ?_
                  refine W_v (.int .i64 x8748) (x_move rfl) rfl ?_
                  obtain ⟨⟨p8771, p8772⟩, H⟩ := chkS H
                  obtain ⟨b8773, o8774, cs8775, _, _, ee8780, hb8776, vs8777, hR8778, hc8779⟩ := SlW.at' (S.row_read 0 rfl) p8771 p8772
                  obtain rfl : vs8777 = _ := hR8778
                  refine W_v (.pointer (some ⟨b8773, o8774 + x8748.toNat * 2, none⟩)) (x_indexAddr Try.underlying38 ty25 (slA ee8780) rfl p8771 p8772) rfl ?_
                  refine W_v (.pointer (some ⟨b8773, o8774 + x8748.toNat * 2 + 1, none⟩)) (x_fieldAddr (o := o8774 + x8748.toNat * 2) (off := 1) Try.underlying25 rfl ty23 rfl rfl) rfl ?_
                  obtain ⟨x8782, he8783, H⟩ := bindS H
                  replace he8783 := Option.some.inj he8783
                  refine W_rowstore S 0 rfl rfl ee8780 (by first | exact p8771 | simpa using p8771) (by first | exact p8772 | simpa using p8772) 1 ty23 rfl rfl [.int .u64 77] rfl rfl rfl rfl (⟨(rd x8744 x8748).Kind, (77 : Int)⟩ : latch_Name) (by rintro _ rfl; rfl) he8783 ?_
                  intro w8781 E' S
                  replace E := E.trans E'
                  clear E'
                  have hs8784 : Value.slice A8745 x8744.length c8746 = Value.slice A8745 x8782.length c8746 := by rw [← he8783, List.length_set]
                  try rw [hs8784] at S
                  try rw [hs8784]
                  clear hs8784
                  refine Wl_nil ?_
                  refine bn ?_
                  refine tn ?_
                  refine Wp_region_lit ?_
                  refine W_v (.int .i64 x8748) (x_move rfl) rfl ?_
                  refine W_v (.int .i64 (IntKind.i64.wrap (x8748 + (1 : Int)))) (x_ibin rfl rfl rfl rfl) rfl ?_
                  refine W_v (.int .i64 (IntKind.i64.wrap (x8748 + (1 : Int)))) (x_assign rfl) rfl ?_
                  refine Wl_nil ?_
                  refine tn ?_
                  exact ⟨k, Nat.lt_succ_self k, ⟨x8782, (IntKind.i64.wrap (x8748 + (1 : Int))), A8745, c8746, H, ⟨rfl, rfl, rfl, rfl, rfl, rfl, trivial⟩, E, S.pick [0, 1, 2, 3, 4] (by decide)⟩⟩
                refine Wp_cond_false (congrArg Value.bool hb8770) ?_
                refine Wp_exit ?_
                refine tx (tx (bsm (?_)))
                refine tn ?_
                exact ⟨x8652, A8653, c8654, Option.some.inj H, ⟨rfl, rfl, rfl, rfl, trivial⟩, E, S.pick [1, 2, 3, 4] (by decide)⟩
          clear o8768h
          rintro ρ w8785 ⟨x8764, A8765, c8766, rfl, hρ, E, S⟩
          rw [agree_eta hρ]
          clear hρ
          have H := o8768H
          clear o8768H
          refine bn ?_
          refine tn ?_
          refine Wp_region_lit ?_
          refine W_v (.int .i64 x4412) (x_move rfl) rfl ?_
          refine W_v (.int .i64 (IntKind.i64.wrap (x4412 + (1 : Int)))) (x_ibin rfl rfl rfl rfl) rfl ?_
          refine W_v (.int .i64 (IntKind.i64.wrap (x4412 + (1 : Int)))) (x_assign rfl) rfl ?_
          refine Wl_nil ?_
          refine tn ?_
          exact ⟨k, Nat.lt_succ_self k, ⟨(IntKind.i64.wrap (x4412 + (1 : Int))), x8135, x8764, A8136, c8137, A8765, c8766, H, ⟨rfl, rfl, rfl, rfl, trivial⟩, E, S.pick [0, 2, 1, 3] (by decide)⟩⟩
        refine Wp_cond_false (congrArg Value.bool hb6605) ?_
        refine Wp_exit ?_
        refine tx (tx (bsm (?_)))
        refine tn ?_
        exact ⟨Option.some.inj H, trivial, E, S.pick [] (by decide)⟩
  clear o6602h
  rintro ρ w8786 ⟨rfl, hρ, E, S⟩
  rw [agree_eta hρ]
  clear hρ
  have H := o6602H
  clear o6602H
  replace H := elimR H
  refine tn ?_
  refine Wp_seq ?_
  refine Wp_region_lit ?_
  obtain ⟨t8787, ht8788, H⟩ := bindS H
  refine W_callF fn9 (ferrymanlaw05_awake.con k M  t8787  ht8788) S rfl rfl (by rintro _ _ _ ⟨_, rfl⟩; exact flat_nil) ?_
  rintro _ w8789 _ Γ' E' S ⟨rfl, rfl⟩
  replace E := E.trans E'
  clear E'
  refine W_v (.bool t8787) (x_assign rfl) rfl ?_
  refine Wl_nil ?_
  refine tn ?_
  refine Wp_ret ?_
  obtain rfl := Option.some.inj H
  exact ⟨_, _, _, fun w1 e1 => run_resR (vs := [.bool t8787]) (FA.cons (rfl) (FA.nil)), HM, E, S.pick [] (by decide), ⟨rfl, rfl⟩⟩
end Go.Proofs.Ytgnbccjpgoeplaa
