import Derived.Test.YtgnbccjpgoeplaaGl1
namespace Go.Proofs.Ytgnbccjpgoeplaa
open Go
set_option linter.unusedVariables false
set_option linter.unusedSimpArgs false
/-! ### ferryman/ferrymanlaw05.LatchNames: function 6 -/
def ferrymanlaw05_LatchNames_l0 (x191 : List latch_Name) : Nat → Int → List (latch_Name × Int) → Option ((Bool) ⊕ ((List (latch_Name × Int))))
  | 0, _, _ => none
  | k + 1, x413, x414 => (if (decide (x413 < (x191.length : Int))) = true then (if 0 ≤ x413 ∧ x413 < (x191.length : Int) then (Option.bind (latch_Latches_Try_PO k (⟨x414⟩ : latch_Latches) (rd x191 x413) (-5 : Int)) (fun t540 => (Option.bind (α := Bool × (List (latch_Name × Int))) (if (!t540.1) = true then some (true, t540.2.by_) else (if 0 ≤ x413 ∧ x413 < (x191.length : Int) then (Option.bind (latch_Latches_Try_PO k t540.2 (rd x191 x413) (5 : Int)) (fun t601 => some (t601.1, t601.2.by_))) else none)) (fun ⟨x585, x586⟩ => (Option.bind (α := Bool × (List (latch_Name × Int))) (if x585 = true then some (true, x586) else (Option.bind (latch_Latches_All_PO k (⟨x586⟩ : latch_Latches)) (fun t627 => some ((t627 != (IntKind.i64.wrap (x413 + (1 : Int)))), x586)))) (fun ⟨x621, x622⟩ => (if x621 = true then some (.inl false) else ferrymanlaw05_LatchNames_l0 x191 k (IntKind.i64.wrap (x413 + (1 : Int))) x622))))))) else none) else some (.inr (x414)))
set_option maxHeartbeats 2000000 in
theorem ferrymanlaw05_LatchNames_l0.mono {x191 : List latch_Name} : ∀ {k : Nat} {x0 x1}, OLe (ferrymanlaw05_LatchNames_l0 x191 k x0 x1) (ferrymanlaw05_LatchNames_l0 x191 (k + 1) x0 x1) := by
  intro k
  induction k with
  | zero => intros; exact OLe.none
  | succ k ih =>
    intros
    rw [ferrymanlaw05_LatchNames_l0.eq_2, ferrymanlaw05_LatchNames_l0.eq_2]
    repeat' (first | with_reducible exact OLe.none | with_reducible exact OLe.some | with_reducible refine OLe.ite ?_ ?_ | with_reducible refine OLe.bind ?_ (fun _ => ?_) | with_reducible exact latch_Latches_All_PO.mono | with_reducible exact latch_Latches_Try_PO.mono | exact ih | refine OLe.bind ?_ (fun _ => ?_) | refine OLe.ite ?_ ?_ | refine OLe.elim (fun _ => ?_) (fun _ => ?_) | split)
def ferrymanlaw05_LatchNames (k : Nat)  : Option (Bool) :=
  (Option.bind (latch_Latches_Owner_Z k (⟨(0 : Int), (0 : Int)⟩ : latch_Name)) (fun t1 => (Option.bind (ferrymanlaw05_awake k ) (fun t6 => (Option.bind (α := Bool) (if (!t6) = true then some (true) else (Option.bind (latch_Latches_Try_Z k (⟨(0 : Int), (0 : Int)⟩ : latch_Name) (0 : Int)) (fun t22 => some (t22)))) (fun x20 => (Option.bind (α := Bool) (if x20 = true then some (true) else (Option.bind (latch_Latches_Drop_Z k (⟨(0 : Int), (0 : Int)⟩ : latch_Name) (0 : Int)) (fun t41 => some (t41)))) (fun x39 => (Option.bind (α := Bool) (if ((x39 || t1.2) || (t1.1 != (0 : Int))) = true then some (true) else (Option.bind (latch_Latches_Held_Z k (0 : Int)) (fun t68 => some (((t68.length : Int) != (0 : Int)))))) (fun x66 => (Option.bind (α := Bool) (if x66 = true then some (true) else (Option.bind (latch_Latches_All_Z k ) (fun t90 => some ((t90 != (0 : Int)))))) (fun x88 => (Option.bind (α := Bool) (if x88 = true then some (true) else (Option.bind (latch_Latches_Copy_Z k ) (fun t109 => some (false)))) (fun x107 => (if x107 = true then some false else (Option.bind (latch_New k ) (fun t116 => (Option.bind (latch_Latches_Owner_PO k t116 (⟨(0 : Int), (0 : Int)⟩ : latch_Name)) (fun t126 => (Option.bind (α := Bool × (List (latch_Name × Int))) (if (t126.2 || (t126.1 != (0 : Int))) = true then some (true, t116.by_) else (Option.bind (latch_Latches_All_PO k t116) (fun t149 => some ((t149 != (0 : Int)), t116.by_)))) (fun ⟨x143, x144⟩ => (Option.bind (α := Bool × (List (latch_Name × Int))) (if x143 = true then some (true, x144) else (Option.bind (latch_Latches_Drop_PO k (⟨x144⟩ : latch_Latches) (⟨(0 : Int), (0 : Int)⟩ : latch_Name) (0 : Int)) (fun t178 => some (t178.1, t178.2.by_)))) (fun ⟨x172, x173⟩ => (if x172 = true then some false else (Option.bind (α := List latch_Name) (some ([(⟨(255 : Int), (18446744073709551615 : Int)⟩ : latch_Name), (⟨(1 : Int), (2 : Int)⟩ : latch_Name), (⟨(2 : Int), (1 : Int)⟩ : latch_Name), (⟨(0 : Int), (18446744073709551615 : Int)⟩ : latch_Name), (⟨(0 : Int), (0 : Int)⟩ : latch_Name), (⟨(1 : Int), (258 : Int)⟩ : latch_Name)] : List latch_Name)) (fun x191 => (Option.bind (ferrymanlaw05_LatchNames_l0 x191 k (0 : Int) x173) (fun o527o => Sum.elim (fun r' => some r') (fun x523 => (Option.bind (latch_Latches_Held_PO k (⟨x523⟩ : latch_Latches) (-5 : Int)) (fun t635 => (Option.bind (ferrymanlaw05_names k t635) (fun t643 => (Option.bind (α := List ferrymanref05_Name) (some ([(⟨(0 : Int), (0 : Int)⟩ : ferrymanref05_Name), (⟨(0 : Int), (18446744073709551615 : Int)⟩ : ferrymanref05_Name), (⟨(1 : Int), (2 : Int)⟩ : ferrymanref05_Name), (⟨(1 : Int), (258 : Int)⟩ : ferrymanref05_Name), (⟨(2 : Int), (1 : Int)⟩ : ferrymanref05_Name), (⟨(255 : Int), (18446744073709551615 : Int)⟩ : ferrymanref05_Name)] : List ferrymanref05_Name)) (fun x652 => (Option.bind (ferrymanref05_Names k t643 x652) (fun t654 => (Option.bind (α := Bool) (if t654 = true then (Option.bind (latch_Latches_Held_PO k (⟨x523⟩ : latch_Latches) (5 : Int)) (fun t676 => some (((t676.length : Int) == (0 : Int))))) else some (false)) (fun x674 => some x674))))))))))) o527o))))))))))))))))))))))))))))
set_option maxHeartbeats 2000000 in
theorem ferrymanlaw05_LatchNames.mono {k : Nat}  : OLe (ferrymanlaw05_LatchNames k ) (ferrymanlaw05_LatchNames (k + 1) ) := by
  unfold ferrymanlaw05_LatchNames
  repeat' (first | with_reducible exact OLe.none | with_reducible exact OLe.some | with_reducible refine OLe.ite ?_ ?_ | with_reducible refine OLe.bind ?_ (fun _ => ?_) | with_reducible exact ferrymanlaw05_LatchNames_l0.mono | with_reducible exact ferrymanlaw05_awake.mono | with_reducible exact ferrymanlaw05_names.mono | with_reducible exact ferrymanref05_Names.mono | with_reducible exact latch_Latches_All_PO.mono | with_reducible exact latch_Latches_All_Z.mono | with_reducible exact latch_Latches_Copy_Z.mono | with_reducible exact latch_Latches_Drop_PO.mono | with_reducible exact latch_Latches_Drop_Z.mono | with_reducible exact latch_Latches_Held_PO.mono | with_reducible exact latch_Latches_Held_Z.mono | with_reducible exact latch_Latches_Owner_PO.mono | with_reducible exact latch_Latches_Owner_Z.mono | with_reducible exact latch_Latches_Try_Z.mono | with_reducible exact latch_New.mono | refine OLe.bind ?_ (fun _ => ?_) | refine OLe.ite ?_ ?_ | refine OLe.elim (fun _ => ?_) (fun _ => ?_) | split)
set_option maxHeartbeats 8000000 in
set_option maxRecDepth 100000 in
theorem ferrymanlaw05_LatchNames.con (k : Nat) (M : Hp)  (r : Bool)  (h : ferrymanlaw05_LatchNames k  = some r) : Con Try.prog 6 #[] M [] (fun v M' Γ' => v = .bool r ∧ Γ' = []) := by
  refine con_of_wp Try.func6 rfl Try.ntmps6 Try.results6 rfl ?_
  intro w F rn S hrn
  have E := Ext.refl w
  have HM := Hp.le_refl M
  have H := h
  unfold ferrymanlaw05_LatchNames at H
  refine Wp_seq ?_
  refine Wp_region_lit ?_
  refine W_v (.bool false) (x_assign rfl) rfl ?_
  refine Wl_nil ?_
  refine tn ?_
  refine Wp_seq ?_
  refine Wp_region_lit ?_
  refine W_v (.pointer none) (x_assign rfl) rfl ?_
  refine Wl_nil ?_
  refine tn ?_
  refine Wp_seq ?_
  refine Wp_region_lit ?_
  refine W_v (.pointer none) (x_move rfl) rfl ?_
  refine W_v (.agg #[.int .u8 0, .int .u64 0]) (x_build2 (pl := [(0, 1), (1, 1)]) #[.int .u8 0, .int .u64 0] Try.underlying25 ty25 (by kernel_rfl) rfl (by kernel_rfl)) rfl ?_
  obtain ⟨t1, ht2, H⟩ := bindS H
  refine W_callF2 fn13 (latch_Latches_Owner_Z.con k M (⟨(0 : Int), (0 : Int)⟩ : latch_Name) t1  ht2) (Γ1 := []) (Γ2 := []) S rfl rfl (by rintro _ _ _ ⟨rfl, rfl⟩; exact flat_nil) ?_
  rintro _ w3 _ Γ' E' S ⟨rfl, rfl⟩
  replace E := E.trans E'
  clear E'
  replace S : St w3 M F [] := S
  refine W_v (.tuple #[.int .i64 t1.1, .bool t1.2]) (x_move rfl) rfl ?_
  refine W_v (.int .i64 t1.1) (x_extract rfl rfl) rfl ?_
  refine W_v (.bool t1.2) (x_extract rfl rfl) rfl ?_
  refine W_v (.int .i64 t1.1) (x_assign rfl) rfl ?_
  refine W_v (.bool t1.2) (x_assign rfl) rfl ?_
  refine Wl_nil ?_
  refine tn ?_
  refine Wp_seq ?_
  refine Wp_seq ?_
  refine Wp_region_lit ?_
  obtain ⟨t6, ht7, H⟩ := bindS H
  refine W_callF fn9 (ferrymanlaw05_awake.con k M  t6  ht7) S rfl rfl (by rintro _ _ _ ⟨_, rfl⟩; exact flat_nil) ?_
  rintro _ w8 _ Γ' E' S ⟨rfl, rfl⟩
  replace E := E.trans E'
  clear E'
  refine W_v (.bool (!t6)) (x_not rfl) rfl ?_
  refine W_v (.bool (!t6)) (x_move rfl) rfl ?_
  obtain ⟨o21, o21h, o21H⟩ := bindS H
  clear H
  refine Wl_cutN 4 (fun ρ w' => ∃ (x20 : Bool), (x20) = o21 ∧ Agree ρ [(1, .pointer none), (2, .int .i64 t1.1), (3, .bool t1.2), (19, .bool x20)] ∧ Ext w w' ∧ St w' M F []) ?_ ?_
  · have H := o21h
    rcases iteS H with ⟨hb19, H⟩ | ⟨hb19, H⟩
    · skip
      refine W_no (skF hb19) rfl ?_
      refine W_no (skF hb19) rfl ?_
      refine W_no (skF hb19) rfl ?_
      refine W_v (.bool true) (x_pick (k := true) (congrArg Value.bool hb19) rfl) rfl ?_
      refine Wl_nil ?_
      exact ⟨true, Option.some.inj H, ⟨rfl, rfl, rfl, rfl, trivial⟩, E, S.pick [] (by decide)⟩
    · skip
      refine W_yes (congrArg some hb19) ?_
      refine W_v (.pointer none) (x_move rfl) rfl ?_
      refine W_yes (congrArg some hb19) ?_
      refine W_v (.agg #[.int .u8 0, .int .u64 0]) (x_build2 (pl := [(0, 1), (1, 1)]) #[.int .u8 0, .int .u64 0] Try.underlying25 ty25 (by kernel_rfl) rfl (by kernel_rfl)) rfl ?_
      refine W_yes (congrArg some hb19) ?_
      obtain ⟨t22, ht23, H⟩ := bindS H
      refine W_callF2 fn12 (latch_Latches_Try_Z.con k M (⟨(0 : Int), (0 : Int)⟩ : latch_Name) (0 : Int) t22  ht23) (Γ1 := []) (Γ2 := []) S rfl rfl (by rintro _ _ _ ⟨rfl, rfl⟩; exact flat_nil) ?_
      rintro _ w24 _ Γ' E' S ⟨rfl, rfl⟩
      replace E := E.trans E'
      clear E'
      replace S : St w24 M F [] := S
      refine W_v (.bool t22) (x_pick (k := false) (congrArg Value.bool hb19) rfl) rfl ?_
      refine Wl_nil ?_
      exact ⟨t22, Option.some.inj H, ⟨rfl, rfl, rfl, rfl, trivial⟩, E, S.pick [] (by decide)⟩
  clear o21h
  rintro ρ w27 ⟨x20, rfl, hρ, E, S⟩
  rw [agree_eta hρ]
  clear hρ
  have H := o21H
  clear o21H
  refine W_v (.bool x20) (x_move rfl) rfl ?_
  obtain ⟨o40, o40h, o40H⟩ := bindS H
  clear H
  refine Wl_cutN 4 (fun ρ w' => ∃ (x39 : Bool), (x39) = o40 ∧ Agree ρ [(1, .pointer none), (2, .int .i64 t1.1), (3, .bool t1.2), (24, .bool x39)] ∧ Ext w w' ∧ St w' M F []) ?_ ?_
  · have H := o40h
    rcases iteS H with ⟨hb38, H⟩ | ⟨hb38, H⟩
    · skip
      refine W_no (skF hb38) rfl ?_
      refine W_no (skF hb38) rfl ?_
      refine W_no (skF hb38) rfl ?_
      refine W_v (.bool true) (x_pick (k := true) (congrArg Value.bool hb38) rfl) rfl ?_
      refine Wl_nil ?_
      exact ⟨true, Option.some.inj H, ⟨rfl, rfl, rfl, rfl, trivial⟩, E, S.pick [] (by decide)⟩
    · skip
      refine W_yes (congrArg some hb38) ?_
      refine W_v (.pointer none) (x_move rfl) rfl ?_
      refine W_yes (congrArg some hb38) ?_
      refine W_v (.agg #[.int .u8 0, .int .u64 0]) (x_build2 (pl := [(0, 1), (1, 1)]) #[.int .u8 0, .int .u64 0] Try.underlying25 ty25 (by kernel_rfl) rfl (by kernel_rfl)) rfl ?_
      refine W_yes (congrArg some hb38) ?_
      obtain ⟨t41, ht42, H⟩ := bindS H
      refine W_callF2 fn11 (latch_Latches_Drop_Z.con k M (⟨(0 : Int), (0 : Int)⟩ : latch_Name) (0 : Int) t41  ht42) (Γ1 := []) (Γ2 := []) S rfl rfl (by rintro _ _ _ ⟨rfl, rfl⟩; exact flat_nil) ?_
      rintro _ w43 _ Γ' E' S ⟨rfl, rfl⟩
      replace E := E.trans E'
      clear E'
      replace S : St w43 M F [] := S
      refine W_v (.bool t41) (x_pick (k := false) (congrArg Value.bool hb38) rfl) rfl ?_
      refine Wl_nil ?_
      exact ⟨t41, Option.some.inj H, ⟨rfl, rfl, rfl, rfl, trivial⟩, E, S.pick [] (by decide)⟩
  clear o40h
  rintro ρ w46 ⟨x39, rfl, hρ, E, S⟩
  rw [agree_eta hρ]
  clear hρ
  have H := o40H
  clear o40H
  refine W_v (.bool x39) (x_move rfl) rfl ?_
  refine Wl_cutN 2 (fun ρ w' => Agree ρ [(1, .pointer none), (2, .int .i64 t1.1), (27, .bool (x39 || t1.2))] ∧ w46 = w') ?_ ?_
  · rcases boolCases x39 with hb47 | hb47
    · skip
      refine W_yes (congrArg some hb47) ?_
      refine W_v (.bool t1.2) (x_move rfl) rfl ?_
      refine W_v (.bool t1.2) (x_pick (k := false) (congrArg Value.bool hb47) rfl) rfl ?_
      refine Wl_nil ?_
      exact ⟨⟨rfl, rfl, (by first | rfl | (rw [hb47]; rfl) | (simp only [hb47]; rfl)), trivial⟩, rfl⟩
    · skip
      refine W_no (skF hb47) rfl ?_
      refine W_v (.bool true) (x_pick (k := true) (congrArg Value.bool hb47) rfl) rfl ?_
      refine Wl_nil ?_
      exact ⟨⟨rfl, rfl, (by first | rfl | (rw [hb47]; rfl) | (simp only [hb47]; rfl)), trivial⟩, rfl⟩
  rintro ρ _ ⟨hρ, rfl⟩
  rw [agree_eta hρ]
  clear hρ
  refine W_v (.bool (x39 || t1.2)) (x_move rfl) rfl ?_
  refine Wl_cutN 3 (fun ρ w' => Agree ρ [(1, .pointer none), (31, .bool ((x39 || t1.2) || (t1.1 != (0 : Int))))] ∧ w46 = w') ?_ ?_
  · rcases boolCases (x39 || t1.2) with hb48 | hb48
    · skip
      refine W_yes (congrArg some hb48) ?_
      refine W_v (.int .i64 t1.1) (x_move rfl) rfl ?_
      refine W_yes (congrArg some hb48) ?_
      refine W_v (.bool (t1.1 != (0 : Int))) (x_ibin rfl rfl rfl rfl) rfl ?_
      refine W_v (.bool (t1.1 != (0 : Int))) (x_pick (k := false) (congrArg Value.bool hb48) rfl) rfl ?_
      refine Wl_nil ?_
      exact ⟨⟨rfl, (by first | rfl | (rw [hb48]; rfl) | (simp only [hb48]; rfl)), trivial⟩, rfl⟩
    · skip
      refine W_no (skF hb48) rfl ?_
      refine W_no (skF hb48) rfl ?_
      refine W_v (.bool true) (x_pick (k := true) (congrArg Value.bool hb48) rfl) rfl ?_
      refine Wl_nil ?_
      exact ⟨⟨rfl, (by first | rfl | (rw [hb48]; rfl) | (simp only [hb48]; rfl)), trivial⟩, rfl⟩
  rintro ρ _ ⟨hρ, rfl⟩
  rw [agree_eta hρ]
  clear hρ
  refine W_v (.bool ((x39 || t1.2) || (t1.1 != (0 : Int)))) (x_move rfl) rfl ?_
  obtain ⟨o67, o67h, o67H⟩ := bindS H
  clear H
  refine Wl_cutN 5 (fun ρ w' => ∃ (x66 : Bool), (x66) = o67 ∧ Agree ρ [(1, .pointer none), (37, .bool x66)] ∧ Ext w w' ∧ St w' M F []) ?_ ?_
  · have H := o67h
    rcases iteS H with ⟨hb65, H⟩ | ⟨hb65, H⟩
    · skip
      refine W_no (skF hb65) rfl ?_
      refine W_no (skF hb65) rfl ?_
      refine W_no (skF hb65) rfl ?_
      refine W_no (skF hb65) rfl ?_
      refine W_v (.bool true) (x_pick (k := true) (congrArg Value.bool hb65) rfl) rfl ?_
      refine Wl_nil ?_
      exact ⟨true, Option.some.inj H, ⟨rfl, rfl, trivial⟩, E, S.pick [] (by decide)⟩
    · skip
      refine W_yes (congrArg some hb65) ?_
      refine W_v (.pointer none) (x_move rfl) rfl ?_
      refine W_yes (congrArg some hb65) ?_
      obtain ⟨t68, ht69, H⟩ := bindS H
      refine W_callF2 fn16 (latch_Latches_Held_Z.con k M (0 : Int) t68  ht69) (Γ1 := []) (Γ2 := []) S rfl rfl (by rintro _ _ _ ⟨_, _, rfl, rfl⟩; exact (flat_cons (flat_row (fun _ _ _ _ h => h)) flat_nil)) ?_
      rintro _ w73 _ Γ' E' S ⟨A70, c71, rfl, rfl⟩
      replace E := E.trans E'
      clear E'
      replace S : St w73 M F [Row r_latch_Name 25 (.slice A70 t68.length c71) t68] := S
      refine W_yes (congrArg some hb65) ?_
      refine W_v (.int .i64 (t68.length : Int)) (x_len_slice (n := t68.length) Try.underlying38 rfl) rfl ?_
      refine W_yes (congrArg some hb65) ?_
      refine W_v (.bool ((t68.length : Int) != (0 : Int))) (x_ibin rfl rfl rfl rfl) rfl ?_
      refine W_v (.bool ((t68.length : Int) != (0 : Int))) (x_pick (k := false) (congrArg Value.bool hb65) rfl) rfl ?_
      refine Wl_nil ?_
      exact ⟨((t68.length : Int) != (0 : Int)), Option.some.inj H, ⟨rfl, rfl, trivial⟩, E, S.pick [] (by decide)⟩
  clear o67h
  rintro ρ w76 ⟨x66, rfl, hρ, E, S⟩
  rw [agree_eta hρ]
  clear hρ
  have H := o67H
  clear o67H
  refine W_v (.bool x66) (x_move rfl) rfl ?_
  obtain ⟨o89, o89h, o89H⟩ := bindS H
  clear H
  refine Wl_cutN 4 (fun ρ w' => ∃ (x88 : Bool), (x88) = o89 ∧ Agree ρ [(1, .pointer none), (42, .bool x88)] ∧ Ext w w' ∧ St w' M F []) ?_ ?_
  · have H := o89h
    rcases iteS H with ⟨hb87, H⟩ | ⟨hb87, H⟩
    · skip
      refine W_no (skF hb87) rfl ?_
      refine W_no (skF hb87) rfl ?_
      refine W_no (skF hb87) rfl ?_
      refine W_v (.bool true) (x_pick (k := true) (congrArg Value.bool hb87) rfl) rfl ?_
      refine Wl_nil ?_
      exact ⟨true, Option.some.inj H, ⟨rfl, rfl, trivial⟩, E, S.pick [] (by decide)⟩
    · skip
      refine W_yes (congrArg some hb87) ?_
      refine W_v (.pointer none) (x_move rfl) rfl ?_
      refine W_yes (congrArg some hb87) ?_
      obtain ⟨t90, ht91, H⟩ := bindS H
      refine W_callF2 fn15 (latch_Latches_All_Z.con k M  t90  ht91) (Γ1 := []) (Γ2 := []) S rfl rfl (by rintro _ _ _ ⟨rfl, rfl⟩; exact flat_nil) ?_
      rintro _ w92 _ Γ' E' S ⟨rfl, rfl⟩
      replace E := E.trans E'
      clear E'
      replace S : St w92 M F [] := S
      refine W_yes (congrArg some hb87) ?_
      refine W_v (.bool (t90 != (0 : Int))) (x_ibin rfl rfl rfl rfl) rfl ?_
      refine W_v (.bool (t90 != (0 : Int))) (x_pick (k := false) (congrArg Value.bool hb87) rfl) rfl ?_
      refine Wl_nil ?_
      exact ⟨(t90 != (0 : Int)), Option.some.inj H, ⟨rfl, rfl, trivial⟩, E, S.pick [] (by decide)⟩
  clear o89h
  rintro ρ w95 ⟨x88, rfl, hρ, E, S⟩
  rw [agree_eta hρ]
  clear hρ
  have H := o89H
  clear o89H
  refine W_v (.bool x88) (x_move rfl) rfl ?_
  obtain ⟨o108, o108h, o108H⟩ := bindS H
  clear H
  refine Wl_cutN 4 (fun ρ w' => ∃ (x107 : Bool), (x107) = o108 ∧ Agree ρ [(47, .bool x107)] ∧ Ext w w' ∧ St w' M F []) ?_ ?_
  · have H := o108h
    rcases iteS H with ⟨hb106, H⟩ | ⟨hb106, H⟩
    · skip
      refine W_no (skF hb106) rfl ?_
      refine W_no (skF hb106) rfl ?_
      refine W_no (skF hb106) rfl ?_
      refine W_v (.bool true) (x_pick (k := true) (congrArg Value.bool hb106) rfl) rfl ?_
      refine Wl_nil ?_
      exact ⟨true, Option.some.inj H, ⟨rfl, trivial⟩, E, S.pick [] (by decide)⟩
    · skip
      refine W_yes (congrArg some hb106) ?_
      refine W_v (.pointer none) (x_move rfl) rfl ?_
      refine W_yes (congrArg some hb106) ?_
      obtain ⟨t109, ht110, H⟩ := bindS H
      refine W_callF2 fn17 (latch_Latches_Copy_Z.con k M  t109  ht110) (Γ1 := []) (Γ2 := []) S rfl rfl (by rintro _ _ _ ⟨rfl, rfl⟩; exact flat_nil) ?_
      rintro _ w111 _ Γ' E' S ⟨rfl, rfl⟩
      replace E := E.trans E'
      clear E'
      replace S : St w111 M F [] := S
      refine W_yes (congrArg some hb106) ?_
      refine W_v (.bool false) (x_ne_of (r := true) rfl rfl (run_eq_ptrnn Try.underlying27)) rfl ?_
      refine W_v (.bool false) (x_pick (k := false) (congrArg Value.bool hb106) rfl) rfl ?_
      refine Wl_nil ?_
      exact ⟨false, Option.some.inj H, ⟨rfl, trivial⟩, E, S.pick [] (by decide)⟩
  clear o108h
  rintro ρ w114 ⟨x107, rfl, hρ, E, S⟩
  rw [agree_eta hρ]
  clear hρ
  have H := o108H
  clear o108H
  refine Wl_nil ?_
  refine tn ?_
  rcases iteS H with ⟨hb115, H⟩ | ⟨hb115, H⟩
  · refine Wp_cond_true (congrArg Value.bool hb115) ?_
    refine Wp_seq ?_
    refine Wp_region_lit ?_
    refine W_v (.bool false) (x_assign rfl) rfl ?_
    refine Wl_nil ?_
    refine tn ?_
    refine Wp_ret ?_
    refine tr (?_)
    obtain rfl := Option.some.inj H
    exact ⟨_, _, _, fun w1 e1 => run_resR (vs := [.bool false]) (FA.cons (rfl) (FA.nil)), HM, E, S.pick [] (by decide), ⟨rfl, rfl⟩⟩
  refine Wp_cond_false (congrArg Value.bool hb115) ?_
  refine Wp_skip ?_
  refine tn ?_
  refine Wp_seq ?_
  refine Wp_region_lit ?_
  obtain ⟨t116, ht117, H⟩ := bindS H
  refine W_callF2 fn10 (latch_New.con k M  t116  ht117) (Γ1 := []) (Γ2 := []) S rfl rfl (by rintro _ _ _ ⟨_, _, _, rfl, rfl⟩; exact (flat_cons flat_blk (flat_cons flat_map flat_nil))) ?_
  rintro _ w123 _ Γ' E' S ⟨b118, A120, c121, rfl, rfl⟩
  replace E := E.trans E'
  clear E'
  replace S : St w123 M F [Blk b118 (.cells #[.map (mb A120)] 56 (0, 0)), MapC enc_latch_Name (Value.int .i64) A120 t116.by_] := S
  refine W_v (.pointer (some ⟨b118, 0, none⟩)) (x_assign rfl) rfl ?_
  refine Wl_nil ?_
  refine tn ?_
  refine Wp_seq ?_
  refine Wp_region_lit ?_
  refine W_v (.pointer (some ⟨b118, 0, none⟩)) (x_move rfl) rfl ?_
  refine W_v (.agg #[.int .u8 0, .int .u64 0]) (x_build2 (pl := [(0, 1), (1, 1)]) #[.int .u8 0, .int .u64 0] Try.underlying25 ty25 (by kernel_rfl) rfl (by kernel_rfl)) rfl ?_
  obtain ⟨t126, ht127, H⟩ := bindS H
  refine W_callF2 fn13 (latch_Latches_Owner_PO.con k M A120 c121 t116 (⟨(0 : Int), (0 : Int)⟩ : latch_Name) b118 t126  ht127) (Γ1 := [Blk b118 (.cells #[.map (mb A120)] 56 (0, 0)), MapC enc_latch_Name (Value.int .i64) A120 t116.by_]) (Γ2 := []) S rfl rfl (by rintro _ _ _ ⟨rfl, rfl⟩; exact (flat_cons flat_blk (flat_cons flat_map flat_nil))) ?_
  rintro _ w128 _ Γ' E' S ⟨rfl, rfl⟩
  replace E := E.trans E'
  clear E'
  replace S : St w128 M F [Blk b118 (.cells #[.map (mb A120)] 56 (0, 0)), MapC enc_latch_Name (Value.int .i64) A120 t116.by_] := S
  refine W_v (.tuple #[.int .i64 t126.1, .bool t126.2]) (x_move rfl) rfl ?_
  refine W_v (.int .i64 t126.1) (x_extract rfl rfl) rfl ?_
  refine W_v (.bool t126.2) (x_extract rfl rfl) rfl ?_
  refine W_v (.int .i64 t126.1) (x_assign rfl) rfl ?_
  refine W_v (.bool t126.2) (x_assign rfl) rfl ?_
  refine Wl_nil ?_
  refine tn ?_
  refine Wp_seq ?_
  refine Wp_seq ?_
  refine Wp_region_lit ?_
  refine W_v (.bool t126.2) (x_move rfl) rfl ?_
  refine W_v (.bool t126.2) (x_move rfl) rfl ?_
  refine Wl_cutN 3 (fun ρ w' => Agree ρ [(4, .pointer (some ⟨b118, 0, none⟩)), (59, .bool (t126.2 || (t126.1 != (0 : Int))))] ∧ w128 = w') ?_ ?_
  · rcases boolCases t126.2 with hb131 | hb131
    · skip
      refine W_yes (congrArg some hb131) ?_
      refine W_v (.int .i64 t126.1) (x_move rfl) rfl ?_
      refine W_yes (congrArg some hb131) ?_
      refine W_v (.bool (t126.1 != (0 : Int))) (x_ibin rfl rfl rfl rfl) rfl ?_
      refine W_v (.bool (t126.1 != (0 : Int))) (x_pick (k := false) (congrArg Value.bool hb131) rfl) rfl ?_
      refine Wl_nil ?_
      exact ⟨⟨rfl, (by first | rfl | (rw [hb131]; rfl) | (simp only [hb131]; rfl)), trivial⟩, rfl⟩
    · skip
      refine W_no (skF hb131) rfl ?_
      refine W_no (skF hb131) rfl ?_
      refine W_v (.bool true) (x_pick (k := true) (congrArg Value.bool hb131) rfl) rfl ?_
      refine Wl_nil ?_
      exact ⟨⟨rfl, (by first | rfl | (rw [hb131]; rfl) | (simp only [hb131]; rfl)), trivial⟩, rfl⟩
  rintro ρ _ ⟨hρ, rfl⟩
  rw [agree_eta hρ]
  clear hρ
  refine W_v (.bool (t126.2 || (t126.1 != (0 : Int)))) (x_move rfl) rfl ?_
  obtain ⟨o148, o148h, o148H⟩ := bindS H
  clear H
  refine Wl_cutN 4 (fun ρ w' => ∃ (x143 : Bool) (x144 : List (latch_Name × Int)) (A145 : Option Addr) (c146 : Nat), (x143, x144) = o148 ∧ Agree ρ [(4, .pointer (some ⟨b118, 0, none⟩)), (64, .bool x143)] ∧ Ext w w' ∧ St w' M F [MapC enc_latch_Name (Value.int .i64) A145 x144, Blk b118 (.cells #[.map (mb A145)] 56 (0, 0))]) ?_ ?_
  · have H := o148h
    rcases iteS H with ⟨hb142, H⟩ | ⟨hb142, H⟩
    · skip
      refine W_no (skF hb142) rfl ?_
      refine W_no (skF hb142) rfl ?_
      refine W_no (skF hb142) rfl ?_
      refine W_v (.bool true) (x_pick (k := true) (congrArg Value.bool hb142) rfl) rfl ?_
      refine Wl_nil ?_
      exact ⟨true, t116.by_, A120, c121, Option.some.inj H, ⟨rfl, rfl, trivial⟩, E, S.pick [1, 0] (by decide)⟩
    · skip
      refine W_yes (congrArg some hb142) ?_
      refine W_v (.pointer (some ⟨b118, 0, none⟩)) (x_move rfl) rfl ?_
      refine W_yes (congrArg some hb142) ?_
      obtain ⟨t149, ht150, H⟩ := bindS H
      refine W_callF2 fn15 (latch_Latches_All_PO.con k M A120 c121 t116 b118 t149  ht150) (Γ1 := [Blk b118 (.cells #[.map (mb A120)] 56 (0, 0)), MapC enc_latch_Name (Value.int .i64) A120 t116.by_]) (Γ2 := []) S rfl rfl (by rintro _ _ _ ⟨rfl, rfl⟩; exact (flat_cons flat_blk (flat_cons flat_map flat_nil))) ?_
      rintro _ w151 _ Γ' E' S ⟨rfl, rfl⟩
      replace E := E.trans E'
      clear E'
      replace S : St w151 M F [Blk b118 (.cells #[.map (mb A120)] 56 (0, 0)), MapC enc_latch_Name (Value.int .i64) A120 t116.by_] := S
      refine W_yes (congrArg some hb142) ?_
      refine W_v (.bool (t149 != (0 : Int))) (x_ibin rfl rfl rfl rfl) rfl ?_
      refine W_v (.bool (t149 != (0 : Int))) (x_pick (k := false) (congrArg Value.bool hb142) rfl) rfl ?_
      refine Wl_nil ?_
      exact ⟨(t149 != (0 : Int)), t116.by_, A120, c121, Option.some.inj H, ⟨rfl, rfl, trivial⟩, E, S.pick [1, 0] (by decide)⟩
  clear o148h
  rintro ρ w154 ⟨x143, x144, A145, c146, rfl, hρ, E, S⟩
  rw [agree_eta hρ]
  clear hρ
  have H := o148H
  clear o148H
  refine W_v (.bool x143) (x_move rfl) rfl ?_
  obtain ⟨o177, o177h, o177H⟩ := bindS H
  clear H
  refine Wl_cutN 4 (fun ρ w' => ∃ (x172 : Bool) (x173 : List (latch_Name × Int)) (A174 : Option Addr) (c175 : Nat), (x172, x173) = o177 ∧ Agree ρ [(4, .pointer (some ⟨b118, 0, none⟩)), (69, .bool x172)] ∧ Ext w w' ∧ St w' M F [MapC enc_latch_Name (Value.int .i64) A174 x173, Blk b118 (.cells #[.map (mb A174)] 56 (0, 0))]) ?_ ?_
  · have H := o177h
    rcases iteS H with ⟨hb171, H⟩ | ⟨hb171, H⟩
    · skip
      refine W_no (skF hb171) rfl ?_
      refine W_no (skF hb171) rfl ?_
      refine W_no (skF hb171) rfl ?_
      refine W_v (.bool true) (x_pick (k := true) (congrArg Value.bool hb171) rfl) rfl ?_
      refine Wl_nil ?_
      exact ⟨true, x144, A145, c146, Option.some.inj H, ⟨rfl, rfl, trivial⟩, E, S.pick [0, 1] (by decide)⟩
    · skip
      refine W_yes (congrArg some hb171) ?_
      refine W_v (.pointer (some ⟨b118, 0, none⟩)) (x_move rfl) rfl ?_
      refine W_yes (congrArg some hb171) ?_
      refine W_v (.agg #[.int .u8 0, .int .u64 0]) (x_build2 (pl := [(0, 1), (1, 1)]) #[.int .u8 0, .int .u64 0] Try.underlying25 ty25 (by kernel_rfl) rfl (by kernel_rfl)) rfl ?_
      refine W_yes (congrArg some hb171) ?_
      obtain ⟨t178, ht179, H⟩ := bindS H
      replace S : St w154 M F [Blk b118 (.cells #[.map (mb A145)] 56 (0, 0)), MapC enc_latch_Name (Value.int .i64) A145 x144] := S.pick [1, 0] (by decide)
      refine W_callF2 fn11 (latch_Latches_Drop_PO.con k M A145 c146 (⟨x144⟩ : latch_Latches) (⟨(0 : Int), (0 : Int)⟩ : latch_Name) (0 : Int) b118 t178  ht179) (Γ1 := [Blk b118 (.cells #[.map (mb A145)] 56 (0, 0)), MapC enc_latch_Name (Value.int .i64) A145 x144]) (Γ2 := []) S rfl rfl (by rintro _ _ _ ⟨_, _, rfl, rfl⟩; exact (flat_cons flat_blk (flat_cons flat_map flat_nil))) ?_
      rintro _ w183 _ Γ' E' S ⟨A180, c181, rfl, rfl⟩
      replace E := E.trans E'
      clear E'
      replace S : St w183 M F [Blk b118 (.cells #[.map (mb A180)] 56 (0, 0)), MapC enc_latch_Name (Value.int .i64) A180 t178.2.by_] := S
      refine W_v (.bool t178.1) (x_pick (k := false) (congrArg Value.bool hb171) rfl) rfl ?_
      refine Wl_nil ?_
      exact ⟨t178.1, t178.2.by_, A180, c181, Option.some.inj H, ⟨rfl, rfl, trivial⟩, E, S.pick [1, 0] (by decide)⟩
  clear o177h
  rintro ρ w186 ⟨x172, x173, A174, c175, rfl, hρ, E, S⟩
  rw [agree_eta hρ]
  clear hρ
  have H := o177H
  clear o177H
  refine Wl_nil ?_
  refine tn ?_
  rcases iteS H with ⟨hb187, H⟩ | ⟨hb187, H⟩
  · refine Wp_cond_true (congrArg Value.bool hb187) ?_
    refine Wp_seq ?_
    refine Wp_region_lit ?_
    refine W_v (.bool false) (x_assign rfl) rfl ?_
    refine Wl_nil ?_
    refine tn ?_
    refine Wp_ret ?_
    refine tr (?_)
    obtain rfl := Option.some.inj H
    exact ⟨_, _, _, fun w1 e1 => run_resR (vs := [.bool false]) (FA.cons (rfl) (FA.nil)), HM, E, S.pick [] (by decide), ⟨rfl, rfl⟩⟩
  refine Wp_cond_false (congrArg Value.bool hb187) ?_
  refine Wp_skip ?_
  refine tn ?_
  refine Wp_seq ?_
  refine Wp_region_lit ?_
  refine W_v (.agg #[.int .u8 255, .int .u64 18446744073709551615]) (x_build2 (pl := [(0, 1), (1, 1)]) #[.int .u8 255, .int .u64 18446744073709551615] Try.underlying25 ty25 (by kernel_rfl) rfl (by kernel_rfl)) rfl ?_
  refine W_v (.agg #[.int .u8 1, .int .u64 2]) (x_build2 (pl := [(0, 1), (1, 1)]) #[.int .u8 1, .int .u64 2] Try.underlying25 ty25 (by kernel_rfl) rfl (by kernel_rfl)) rfl ?_
  refine W_v (.agg #[.int .u8 2, .int .u64 1]) (x_build2 (pl := [(0, 1), (1, 1)]) #[.int .u8 2, .int .u64 1] Try.underlying25 ty25 (by kernel_rfl) rfl (by kernel_rfl)) rfl ?_
  refine W_v (.agg #[.int .u8 0, .int .u64 18446744073709551615]) (x_build2 (pl := [(0, 1), (1, 1)]) #[.int .u8 0, .int .u64 18446744073709551615] Try.underlying25 ty25 (by kernel_rfl) rfl (by kernel_rfl)) rfl ?_
  refine W_v (.agg #[.int .u8 0, .int .u64 0]) (x_build2 (pl := [(0, 1), (1, 1)]) #[.int .u8 0, .int .u64 0] Try.underlying25 ty25 (by kernel_rfl) rfl (by kernel_rfl)) rfl ?_
  refine W_v (.agg #[.int .u8 1, .int .u64 258]) (x_build2 (pl := [(0, 1), (1, 1)]) #[.int .u8 1, .int .u64 258] Try.underlying25 ty25 (by kernel_rfl) rfl (by kernel_rfl)) rfl ?_
  refine W_bslice S #[.int .u8 255, .int .u64 18446744073709551615, .int .u8 1, .int .u64 2, .int .u8 2, .int .u64 1, .int .u8 0, .int .u64 18446744073709551615, .int .u8 0, .int .u64 0, .int .u8 1, .int .u64 258] Try.underlying38 ty25 rfl rfl #[.int .u8 0, .int .u64 0, .int .u8 0, .int .u64 0, .int .u8 0, .int .u64 0, .int .u8 0, .int .u64 0, .int .u8 0, .int .u64 0, .int .u8 0, .int .u64 0] (by kernel_rfl) (by kernel_rfl) rfl ?_
  intro b188 w189 E' S
  replace E := E.trans E'
  clear E'
  replace S := S.blk_row (r := r_latch_Name) (l := ([(⟨(255 : Int), (18446744073709551615 : Int)⟩ : latch_Name), (⟨(1 : Int), (2 : Int)⟩ : latch_Name), (⟨(2 : Int), (1 : Int)⟩ : latch_Name), (⟨(0 : Int), (18446744073709551615 : Int)⟩ : latch_Name), (⟨(0 : Int), (0 : Int)⟩ : latch_Name), (⟨(1 : Int), (258 : Int)⟩ : latch_Name)] : List latch_Name)) 0 rfl 6 (Nat.le_refl 6) rfl (Cells.cons (vs := [.int .u8 255, .int .u64 18446744073709551615]) (rfl) (Cells.cons (vs := [.int .u8 1, .int .u64 2]) (rfl) (Cells.cons (vs := [.int .u8 2, .int .u64 1]) (rfl) (Cells.cons (vs := [.int .u8 0, .int .u64 18446744073709551615]) (rfl) (Cells.cons (vs := [.int .u8 0, .int .u64 0]) (rfl) (Cells.cons (vs := [.int .u8 1, .int .u64 258]) (rfl) Cells.nil))))))
  obtain ⟨x191, he192, H⟩ := bindS H
  replace he192 := Option.some.inj he192
  rw [he192] at S
  rw [show Value.slice (some ⟨b188, 0, none⟩) 6 6 = Value.slice (some ⟨b188, 0, none⟩) x191.length 6 from (by rw [← he192]; rfl)]
  clear he192
  refine W_v (.slice (some ⟨b188, 0, none⟩) x191.length 6) (x_assign rfl) rfl ?_
  refine Wl_nil ?_
  refine tn ?_
  refine Wp_seq ?_
  refine Wp_seq ?_
  refine Wp_region_lit ?_
  refine W_v (.int .i64 0) (x_assign rfl) rfl ?_
  refine Wl_nil ?_
  refine tn ?_
  obtain ⟨o527, o527h, o527H⟩ := bindS H
  clear H
  refine Wp_blockJ (fun ρ w' => ∃ (x523 : List (latch_Name × Int)) (A524 : Option Addr) (c525 : Nat), .inr (x523) = o527 ∧ Agree ρ [(4, .pointer (some ⟨b118, 0, none⟩))] ∧ Ext w w' ∧ St w' M F [MapC enc_latch_Name (Value.int .i64) A524 x523, Blk b118 (.cells #[.map (mb A524)] 56 (0, 0))]) ?_ ?_
  · skip
    refine Wp_loop (fun n ρ w' => ∃ (x413 : Int) (x414 : List (latch_Name × Int)) (A415 : Option Addr) (c416 : Nat), ferrymanlaw05_LatchNames_l0 x191 n x413 x414 = some o527 ∧ Agree ρ [(4, .pointer (some ⟨b118, 0, none⟩)), (5, .slice (some ⟨b188, 0, none⟩) x191.length 6), (6, .int .i64 x413)] ∧ Ext w w' ∧ St w' M F [MapC enc_latch_Name (Value.int .i64) A415 x414, Row r_latch_Name 25 (.slice (some ⟨b188, 0, none⟩) x191.length 6) x191, Blk b118 (.cells #[.map (mb A415)] 56 (0, 0))]) k ?_ ?_
    · skip
      exact ⟨(0 : Int), x173, A174, c175, o527h, ⟨rfl, rfl, rfl, trivial⟩, E, S.pick [1, 0, 2] (by decide)⟩
    · intro n
      rintro ρ w528 ⟨x413, x414, A415, c416, H, hρ, E, S⟩
      rw [agree_eta hρ]
      clear hρ
      cases n with
      | zero => cases H
      | succ k =>
        rw [ferrymanlaw05_LatchNames_l0.eq_2] at H
        refine Wp_seq ?_
        refine Wp_seq ?_
        refine Wp_region_lit ?_
        refine W_v (.int .i64 x413) (x_move rfl) rfl ?_
        refine W_v (.slice (some ⟨b188, 0, none⟩) x191.length 6) (x_move rfl) rfl ?_
        refine W_v (.int .i64 (x191.length : Int)) (x_len_slice (n := x191.length) Try.underlying38 rfl) rfl ?_
        refine W_v (.bool (decide (x413 < (x191.length : Int)))) (x_ibin rfl rfl rfl rfl) rfl ?_
        refine Wl_nil ?_
        refine tn ?_
        rcases iteS H with ⟨hb529, H⟩ | ⟨hb529, H⟩
        · refine Wp_cond_true (congrArg Value.bool hb529) ?_
          refine Wp_skip ?_
          refine tn ?_
          refine Wp_seq ?_
          refine Wp_block ?_
          refine Wp_seq ?_
          refine Wp_region_lit ?_
          refine W_v (.pointer (some ⟨b118, 0, none⟩)) (x_move rfl) rfl ?_
          refine W_v (.slice (some ⟨b188, 0, none⟩) x191.length 6) (x_move rfl) rfl ?_
          refine W_v (.int .i64 x413) (x_move rfl) rfl ?_
          obtain ⟨⟨p530, p531⟩, H⟩ := chkS H
          obtain ⟨b532, o533, cs534, _, _, ee539, hb535, vs536, hR537, hc538⟩ := SlW.at' (S.row_read 1 rfl) p530 p531
          obtain rfl : vs536 = _ := hR537
          refine W_v (.pointer (some ⟨b532, o533 + x413.toNat * 2, none⟩)) (x_indexAddr Try.underlying38 ty25 (slA ee539) rfl p530 p531) rfl ?_
          refine W_v (.agg #[.int .u8 ((rd x191 x413).Kind), .int .u64 ((rd x191 x413).ID)]) (x_loadA (Hp.of_get hb535) ty25 rfl (sub_el hc538 0 rfl) rfl rfl) rfl ?_
          obtain ⟨t540, ht541, H⟩ := bindS H
          replace S : St w528 M F [Blk b118 (.cells #[.map (mb A415)] 56 (0, 0)), MapC enc_latch_Name (Value.int .i64) A415 x414, Row r_latch_Name 25 (.slice (some ⟨b188, 0, none⟩) x191.length 6) x191] := S.pick [2, 0, 1] (by decide)
          refine W_callF2 fn12 (latch_Latches_Try_PO.con k M A415 c416 (⟨x414⟩ : latch_Latches) (rd x191 x413) (-5 : Int) b118 t540  ht541) (Γ1 := [Blk b118 (.cells #[.map (mb A415)] 56 (0, 0)), MapC enc_latch_Name (Value.int .i64) A415 x414]) (Γ2 := [Row r_latch_Name 25 (.slice (some ⟨b188, 0, none⟩) x191.length 6) x191]) S rfl rfl (by rintro _ _ _ ⟨_, _, rfl, rfl⟩; exact (flat_cons flat_blk (flat_cons flat_map flat_nil))) ?_
          rintro _ w545 _ Γ' E' S ⟨A542, c543, rfl, rfl⟩
          replace E := E.trans E'
          clear E'
          replace S : St w545 M F [Blk b118 (.cells #[.map (mb A542)] 56 (0, 0)), MapC enc_latch_Name (Value.int .i64) A542 t540.2.by_, Row r_latch_Name 25 (.slice (some ⟨b188, 0, none⟩) x191.length 6) x191] := S
          refine W_v (.bool (!t540.1)) (x_not rfl) rfl ?_
          refine W_v (.bool (!t540.1)) (x_move rfl) rfl ?_
          obtain ⟨o590, o590h, o590H⟩ := bindS H
          clear H
          refine Wl_cutN 7 (fun ρ w' => ∃ (x585 : Bool) (x586 : List (latch_Name × Int)) (A587 : Option Addr) (c588 : Nat), (x585, x586) = o590 ∧ Agree ρ [(4, .pointer (some ⟨b118, 0, none⟩)), (5, .slice (some ⟨b188, 0, none⟩) x191.length 6), (6, .int .i64 x413), (97, .bool x585)] ∧ Ext w w' ∧ St w' M F [MapC enc_latch_Name (Value.int .i64) A587 x586, Blk b118 (.cells #[.map (mb A587)] 56 (0, 0)), Row r_latch_Name 25 (.slice (some ⟨b188, 0, none⟩) x191.length 6) x191]) ?_ ?_
          · have H := o590h
            rcases iteS H with ⟨hb584, H⟩ | ⟨hb584, H⟩
            · skip
              refine W_no (skF hb584) rfl ?_
              refine W_no (skF hb584) rfl ?_
              refine W_no (skF hb584) rfl ?_
              refine W_no (skF hb584) rfl ?_
              refine W_no (skF hb584) rfl ?_
              refine W_no (skF hb584) rfl ?_
              refine W_v (.bool true) (x_pick (k := true) (congrArg Value.bool hb584) rfl) rfl ?_
              refine Wl_nil ?_
              exact ⟨true, t540.2.by_, A542, c543, Option.some.inj H, ⟨rfl, rfl, rfl, rfl, trivial⟩, E, S.pick [1, 0, 2] (by decide)⟩
            · skip
              refine W_yes (congrArg some hb584) ?_
              refine W_v (.pointer (some ⟨b118, 0, none⟩)) (x_move rfl) rfl ?_
              refine W_yes (congrArg some hb584) ?_
              refine W_v (.slice (some ⟨b188, 0, none⟩) x191.length 6) (x_move rfl) rfl ?_
              refine W_yes (congrArg some hb584) ?_
              refine W_v (.int .i64 x413) (x_move rfl) rfl ?_
              refine W_yes (congrArg some hb584) ?_
              obtain ⟨⟨p591, p592⟩, H⟩ := chkS H
              obtain ⟨b593, o594, cs595, _, _, ee600, hb596, vs597, hR598, hc599⟩ := SlW.at' (S.row_read 2 rfl) p591 p592
              obtain rfl : vs597 = _ := hR598
              refine W_v (.pointer (some ⟨b593, o594 + x413.toNat * 2, none⟩)) (x_indexAddr Try.underlying38 ty25 (slA ee600) rfl p591 p592) rfl ?_
              refine W_yes (congrArg some hb584) ?_
              refine W_v (.agg #[.int .u8 ((rd x191 x413).Kind), .int .u64 ((rd x191 x413).ID)]) (x_loadA (Hp.of_get hb596) ty25 rfl (sub_el hc599 0 rfl) rfl rfl) rfl ?_
              refine W_yes (congrArg some hb584) ?_
              obtain ⟨t601, ht602, H⟩ := bindS H
              refine W_callF2 fn12 (latch_Latches_Try_PO.con k M A542 c543 t540.2 (rd x191 x413) (5 : Int) b118 t601  ht602) (Γ1 := [Blk b118 (.cells #[.map (mb A542)] 56 (0, 0)), MapC enc_latch_Name (Value.int .i64) A542 t540.2.by_]) (Γ2 := [Row r_latch_Name 25 (.slice (some ⟨b188, 0, none⟩) x191.length 6) x191]) S rfl rfl (by rintro _ _ _ ⟨_, _, rfl, rfl⟩; exact (flat_cons flat_blk (flat_cons flat_map flat_nil))) ?_
              rintro _ w606 _ Γ' E' S ⟨A603, c604, rfl, rfl⟩
              replace E := E.trans E'
              clear E'
              replace S : St w606 M F [Blk b118 (.cells #[.map (mb A603)] 56 (0, 0)), MapC enc_latch_Name (Value.int .i64) A603 t601.2.by_, Row r_latch_Name 25 (.slice (some ⟨b188, 0, none⟩) x191.length 6) x191] := S
              refine W_v (.bool t601.1) (x_pick (k := false) (congrArg Value.bool hb584) rfl) rfl ?_
              refine Wl_nil ?_
              exact ⟨t601.1, t601.2.by_, A603, c604, Option.some.inj H, ⟨rfl, rfl, rfl, rfl, trivial⟩, E, S.pick [1, 0, 2] (by decide)⟩
          clear o590h
          rintro ρ w609 ⟨x585, x586, A587, c588, rfl, hρ, E, S⟩
          rw [agree_eta hρ]
          clear hρ
          have H := o590H
          clear o590H
          refine W_v (.bool x585) (x_move rfl) rfl ?_
          obtain ⟨o626, o626h, o626H⟩ := bindS H
          clear H
          refine Wl_cutN 6 (fun ρ w' => ∃ (x621 : Bool) (x622 : List (latch_Name × Int)) (A623 : Option Addr) (c624 : Nat), (x621, x622) = o626 ∧ Agree ρ [(4, .pointer (some ⟨b118, 0, none⟩)), (5, .slice (some ⟨b188, 0, none⟩) x191.length 6), (6, .int .i64 x413), (104, .bool x621)] ∧ Ext w w' ∧ St w' M F [MapC enc_latch_Name (Value.int .i64) A623 x622, Blk b118 (.cells #[.map (mb A623)] 56 (0, 0)), Row r_latch_Name 25 (.slice (some ⟨b188, 0, none⟩) x191.length 6) x191]) ?_ ?_
          · have H := o626h
            rcases iteS H with ⟨hb620, H⟩ | ⟨hb620, H⟩
            · skip
              refine W_no (skF hb620) rfl ?_
              refine W_no (skF hb620) rfl ?_
              refine W_no (skF hb620) rfl ?_
              refine W_no (skF hb620) rfl ?_
              refine W_no (skF hb620) rfl ?_
              refine W_v (.bool true) (x_pick (k := true) (congrArg Value.bool hb620) rfl) rfl ?_
              refine Wl_nil ?_
              exact ⟨true, x586, A587, c588, Option.some.inj H, ⟨rfl, rfl, rfl, rfl, trivial⟩, E, S.pick [0, 1, 2] (by decide)⟩
            · skip
              refine W_yes (congrArg some hb620) ?_
              refine W_v (.pointer (some ⟨b118, 0, none⟩)) (x_move rfl) rfl ?_
              refine W_yes (congrArg some hb620) ?_
              obtain ⟨t627, ht628, H⟩ := bindS H
              replace S : St w609 M F [Blk b118 (.cells #[.map (mb A587)] 56 (0, 0)), MapC enc_latch_Name (Value.int .i64) A587 x586, Row r_latch_Name 25 (.slice (some ⟨b188, 0, none⟩) x191.length 6) x191] := S.pick [1, 0, 2] (by decide)
              refine W_callF2 fn15 (latch_Latches_All_PO.con k M A587 c588 (⟨x586⟩ : latch_Latches) b118 t627  ht628) (Γ1 := [Blk b118 (.cells #[.map (mb A587)] 56 (0, 0)), MapC enc_latch_Name (Value.int .i64) A587 x586]) (Γ2 := [Row r_latch_Name 25 (.slice (some ⟨b188, 0, none⟩) x191.length 6) x191]) S rfl rfl (by rintro _ _ _ ⟨rfl, rfl⟩; exact (flat_cons flat_blk (flat_cons flat_map flat_nil))) ?_
              rintro _ w629 _ Γ' E' S ⟨rfl, rfl⟩
              replace E := E.trans E'
              clear E'
              replace S : St w629 M F [Blk b118 (.cells #[.map (mb A587)] 56 (0, 0)), MapC enc_latch_Name (Value.int .i64) A587 x586, Row r_latch_Name 25 (.slice (some ⟨b188, 0, none⟩) x191.length 6) x191] := S
              refine W_yes (congrArg some hb620) ?_
              refine W_v (.int .i64 x413) (x_move rfl) rfl ?_
              refine W_yes (congrArg some hb620) ?_
              refine W_v (.int .i64 (IntKind.i64.wrap (x413 + (1 : Int)))) (x_ibin rfl rfl rfl rfl) rfl ?_
              refine W_yes (congrArg some hb620) ?_
              refine W_v (.bool (t627 != (IntKind.i64.wrap (x413 + (1 : Int))))) (x_ibin rfl rfl rfl rfl) rfl ?_
              refine W_v (.bool (t627 != (IntKind.i64.wrap (x413 + (1 : Int))))) (x_pick (k := false) (congrArg Value.bool hb620) rfl) rfl ?_
              refine Wl_nil ?_
              exact ⟨(t627 != (IntKind.i64.wrap (x413 + (1 : Int)))), x586, A587, c588, Option.some.inj H, ⟨rfl, rfl, rfl, rfl, trivial⟩, E, S.pick [1, 0, 2] (by decide)⟩
          clear o626h
          rintro ρ w632 ⟨x621, x622, A623, c624, rfl, hρ, E, S⟩
          rw [agree_eta hρ]
          clear hρ
          have H := o626H
          clear o626H
          refine Wl_nil ?_
          refine tn ?_
          rcases iteS H with ⟨hb633, H⟩ | ⟨hb633, H⟩
          · refine Wp_cond_true (congrArg Value.bool hb633) ?_
            refine Wp_seq ?_
            refine Wp_region_lit ?_
            refine W_v (.bool false) (x_assign rfl) rfl ?_
            refine Wl_nil ?_
            refine tn ?_
            refine Wp_ret ?_
            refine br (tr (tr (br (tr (tr (?_))))))
            obtain rfl := Option.some.inj H
            have H := o527H
            replace H := elimL H
            obtain rfl := Option.some.inj H
            exact ⟨_, _, _, fun w1 e1 => run_resR (vs := [.bool false]) (FA.cons (rfl) (FA.nil)), HM, E, S.pick [] (by decide), ⟨rfl, rfl⟩⟩
          refine Wp_cond_false (congrArg Value.bool hb633) ?_
          refine Wp_skip ?_
          refine bn ?_
          refine tn ?_
          refine Wp_region_lit ?_
          refine W_v (.int .i64 x413) (x_move rfl) rfl ?_
          refine W_v (.int .i64 (IntKind.i64.wrap (x413 + (1 : Int)))) (x_ibin rfl rfl rfl rfl) rfl ?_
          refine W_v (.int .i64 (IntKind.i64.wrap (x413 + (1 : Int)))) (x_assign rfl) rfl ?_
          refine Wl_nil ?_
          refine tn ?_
          exact ⟨k, Nat.lt_succ_self k, ⟨(IntKind.i64.wrap (x413 + (1 : Int))), x622, A623, c624, H, ⟨rfl, rfl, rfl, trivial⟩, E, S.pick [0, 2, 1] (by decide)⟩⟩
        refine Wp_cond_false (congrArg Value.bool hb529) ?_
        refine Wp_exit ?_
        refine tx (tx (bsm (?_)))
        refine tn ?_
        exact ⟨x414, A415, c416, Option.some.inj H, ⟨rfl, trivial⟩, E, S.pick [0, 2] (by decide)⟩
  clear o527h
  rintro ρ w634 ⟨x523, A524, c525, rfl, hρ, E, S⟩
  rw [agree_eta hρ]
  clear hρ
  have H := o527H
  clear o527H
  replace H := elimR H
  refine tn ?_
  refine Wp_seq ?_
  refine Wp_region_lit ?_
  refine W_v (.pointer (some ⟨b118, 0, none⟩)) (x_move rfl) rfl ?_
  obtain ⟨t635, ht636, H⟩ := bindS H
  replace S : St w634 M F [Blk b118 (.cells #[.map (mb A524)] 56 (0, 0)), MapC enc_latch_Name (Value.int .i64) A524 x523] := S.pick [1, 0] (by decide)
  refine W_callF2 fn16 (latch_Latches_Held_PO.con k M A524 c525 (⟨x523⟩ : latch_Latches) (-5 : Int) b118 t635  ht636) (Γ1 := [Blk b118 (.cells #[.map (mb A524)] 56 (0, 0)), MapC enc_latch_Name (Value.int .i64) A524 x523]) (Γ2 := []) S rfl rfl (by rintro _ _ _ ⟨_, _, rfl, rfl⟩; exact (flat_cons (flat_row (fun _ _ _ _ h => h)) (flat_cons flat_blk (flat_cons flat_map flat_nil)))) ?_
  rintro _ w640 _ Γ' E' S ⟨A637, c638, rfl, rfl⟩
  replace E := E.trans E'
  clear E'
  replace S : St w640 M F [Row r_latch_Name 25 (.slice A637 t635.length c638) t635, Blk b118 (.cells #[.map (mb A524)] 56 (0, 0)), MapC enc_latch_Name (Value.int .i64) A524 x523] := S
  obtain ⟨t643, ht644, H⟩ := bindS H
  refine W_callN 1 fn19 (fun h9 hs9 hd9 => ferrymanlaw05_names.con k _ A637 c638 t635 t643 (Sats.row hs9 hd9 0 rfl) ht644) S rfl rfl (by rintro _ _ _ ⟨_, _, _, rfl⟩; exact (flat_cons (flat_row (fun _ _ _ _ h => h)) flat_nil)) ?_
  rintro _ w648 _ Γ' E' S ⟨A645, c646, rfl, rfl⟩
  replace E := E.trans E'
  clear E'
  refine W_v (.agg #[.int .u8 0, .int .u64 0]) (x_build2 (pl := [(0, 1), (1, 1)]) #[.int .u8 0, .int .u64 0] Try.underlying44 ty44 (by kernel_rfl) rfl (by kernel_rfl)) rfl ?_
  refine W_v (.agg #[.int .u8 0, .int .u64 18446744073709551615]) (x_build2 (pl := [(0, 1), (1, 1)]) #[.int .u8 0, .int .u64 18446744073709551615] Try.underlying44 ty44 (by kernel_rfl) rfl (by kernel_rfl)) rfl ?_
  refine W_v (.agg #[.int .u8 1, .int .u64 2]) (x_build2 (pl := [(0, 1), (1, 1)]) #[.int .u8 1, .int .u64 2] Try.underlying44 ty44 (by kernel_rfl) rfl (by kernel_rfl)) rfl ?_
  refine W_v (.agg #[.int .u8 1, .int .u64 258]) (x_build2 (pl := [(0, 1), (1, 1)]) #[.int .u8 1, .int .u64 258] Try.underlying44 ty44 (by kernel_rfl) rfl (by kernel_rfl)) rfl ?_
  refine W_v (.agg #[.int .u8 2, .int .u64 1]) (x_build2 (pl := [(0, 1), (1, 1)]) #[.int .u8 2, .int .u64 1] Try.underlying44 ty44 (by kernel_rfl) rfl (by kernel_rfl)) rfl ?_
  refine W_v (.agg #[.int .u8 255, .int .u64 18446744073709551615]) (x_build2 (pl := [(0, 1), (1, 1)]) #[.int .u8 255, .int .u64 18446744073709551615] Try.underlying44 ty44 (by kernel_rfl) rfl (by kernel_rfl)) rfl ?_
  refine W_bslice S #[.int .u8 0, .int .u64 0, .int .u8 0, .int .u64 18446744073709551615, .int .u8 1, .int .u64 2, .int .u8 1, .int .u64 258, .int .u8 2, .int .u64 1, .int .u8 255, .int .u64 18446744073709551615] Try.underlying42 ty44 rfl rfl #[.int .u8 0, .int .u64 0, .int .u8 0, .int .u64 0, .int .u8 0, .int .u64 0, .int .u8 0, .int .u64 0, .int .u8 0, .int .u64 0, .int .u8 0, .int .u64 0] (by kernel_rfl) (by kernel_rfl) rfl ?_
  intro b649 w650 E' S
  replace E := E.trans E'
  clear E'
  replace S := S.blk_row (r := r_ferrymanref05_Name) (l := ([(⟨(0 : Int), (0 : Int)⟩ : ferrymanref05_Name), (⟨(0 : Int), (18446744073709551615 : Int)⟩ : ferrymanref05_Name), (⟨(1 : Int), (2 : Int)⟩ : ferrymanref05_Name), (⟨(1 : Int), (258 : Int)⟩ : ferrymanref05_Name), (⟨(2 : Int), (1 : Int)⟩ : ferrymanref05_Name), (⟨(255 : Int), (18446744073709551615 : Int)⟩ : ferrymanref05_Name)] : List ferrymanref05_Name)) 0 rfl 6 (Nat.le_refl 6) rfl (Cells.cons (vs := [.int .u8 0, .int .u64 0]) (rfl) (Cells.cons (vs := [.int .u8 0, .int .u64 18446744073709551615]) (rfl) (Cells.cons (vs := [.int .u8 1, .int .u64 2]) (rfl) (Cells.cons (vs := [.int .u8 1, .int .u64 258]) (rfl) (Cells.cons (vs := [.int .u8 2, .int .u64 1]) (rfl) (Cells.cons (vs := [.int .u8 255, .int .u64 18446744073709551615]) (rfl) Cells.nil))))))
  obtain ⟨x652, he653, H⟩ := bindS H
  replace he653 := Option.some.inj he653
  rw [he653] at S
  rw [show Value.slice (some ⟨b649, 0, none⟩) 6 6 = Value.slice (some ⟨b649, 0, none⟩) x652.length 6 from (by rw [← he653]; rfl)]
  clear he653
  replace S : St w650 M F [Row r_ferrymanref05_Name 44 (.slice A645 t643.length c646) t643, Row r_ferrymanref05_Name 44 (.slice (some ⟨b649, 0, none⟩) x652.length 6) x652, Row r_latch_Name 25 (.slice A637 t635.length c638) t635, Blk b118 (.cells #[.map (mb A524)] 56 (0, 0)), MapC enc_latch_Name (Value.int .i64) A524 x523] := S.pick [1, 0, 2, 3, 4] (by decide)
  obtain ⟨t654, ht655, H⟩ := bindS H
  refine W_callN 2 fn18 (fun h9 hs9 hd9 => ferrymanref05_Names.con k _ A645 c646 t643 (some ⟨b649, 0, none⟩) 6 x652 t654 (Sats.row hs9 hd9 0 rfl) (Sats.row hs9 hd9 1 rfl) ht655) S rfl rfl (by rintro _ _ _ ⟨_, rfl⟩; exact flat_nil) ?_
  rintro _ w656 _ Γ' E' S ⟨rfl, rfl⟩
  replace E := E.trans E'
  clear E'
  refine W_v (.bool t654) (x_move rfl) rfl ?_
  obtain ⟨o675, o675h, o675H⟩ := bindS H
  clear H
  refine Wl_cutN 5 (fun ρ w' => ∃ (x674 : Bool), (x674) = o675 ∧ Agree ρ [(121, .bool x674)] ∧ Ext w w' ∧ St w' M F []) ?_ ?_
  · have H := o675h
    rcases iteS H with ⟨hb673, H⟩ | ⟨hb673, H⟩
    · skip
      refine W_yes (congrArg some hb673) ?_
      refine W_v (.pointer (some ⟨b118, 0, none⟩)) (x_move rfl) rfl ?_
      refine W_yes (congrArg some hb673) ?_
      obtain ⟨t676, ht677, H⟩ := bindS H
      replace S : St w656 M F [Blk b118 (.cells #[.map (mb A524)] 56 (0, 0)), MapC enc_latch_Name (Value.int .i64) A524 x523, Row r_ferrymanref05_Name 44 (.slice A645 t643.length c646) t643, Row r_ferrymanref05_Name 44 (.slice (some ⟨b649, 0, none⟩) x652.length 6) x652, Row r_latch_Name 25 (.slice A637 t635.length c638) t635] := S.pick [3, 4, 0, 1, 2] (by decide)
      refine W_callF2 fn16 (latch_Latches_Held_PO.con k M A524 c525 (⟨x523⟩ : latch_Latches) (5 : Int) b118 t676  ht677) (Γ1 := [Blk b118 (.cells #[.map (mb A524)] 56 (0, 0)), MapC enc_latch_Name (Value.int .i64) A524 x523]) (Γ2 := [Row r_ferrymanref05_Name 44 (.slice A645 t643.length c646) t643, Row r_ferrymanref05_Name 44 (.slice (some ⟨b649, 0, none⟩) x652.length 6) x652, Row r_latch_Name 25 (.slice A637 t635.length c638) t635]) S rfl rfl (by rintro _ _ _ ⟨_, _, rfl, rfl⟩; exact (flat_cons (flat_row (fun _ _ _ _ h => h)) (flat_cons flat_blk (flat_cons flat_map flat_nil)))) ?_
      rintro _ w681 _ Γ' E' S ⟨A678, c679, rfl, rfl⟩
      replace E := E.trans E'
      clear E'
      replace S : St w681 M F [Row r_latch_Name 25 (.slice A678 t676.length c679) t676, Blk b118 (.cells #[.map (mb A524)] 56 (0, 0)), MapC enc_latch_Name (Value.int .i64) A524 x523, Row r_ferrymanref05_Name 44 (.slice A645 t643.length c646) t643, Row r_ferrymanref05_Name 44 (.slice (some ⟨b649, 0, none⟩) x652.length 6) x652, Row r_latch_Name 25 (.slice A637 t635.length c638) t635] := S
      refine W_yes (congrArg some hb673) ?_
      refine W_v (.int .i64 (t676.length : Int)) (x_len_slice (n := t676.length) Try.underlying38 rfl) rfl ?_
      refine W_yes (congrArg some hb673) ?_
      refine W_v (.bool ((t676.length : Int) == (0 : Int))) (x_ibin rfl rfl rfl rfl) rfl ?_
      refine W_v (.bool ((t676.length : Int) == (0 : Int))) (x_pick (k := true) (congrArg Value.bool hb673) rfl) rfl ?_
      refine Wl_nil ?_
      exact ⟨((t676.length : Int) == (0 : Int)), Option.some.inj H, ⟨rfl, trivial⟩, E, S.pick [] (by decide)⟩
    · skip
      refine W_no (skT hb673) rfl ?_
      refine W_no (skT hb673) rfl ?_
      refine W_no (skT hb673) rfl ?_
      refine W_no (skT hb673) rfl ?_
      refine W_v (.bool false) (x_pick (k := false) (congrArg Value.bool hb673) rfl) rfl ?_
      refine Wl_nil ?_
      exact ⟨false, Option.some.inj H, ⟨rfl, trivial⟩, E, S.pick [] (by decide)⟩
  clear o675h
  rintro ρ w684 ⟨x674, rfl, hρ, E, S⟩
  rw [agree_eta hρ]
  clear hρ
  have H := o675H
  clear o675H
  refine W_v (.bool x674) (x_assign rfl) rfl ?_
  refine Wl_nil ?_
  refine tn ?_
  refine Wp_ret ?_
  obtain rfl := Option.some.inj H
  exact ⟨_, _, _, fun w1 e1 => run_resR (vs := [.bool x674]) (FA.cons (rfl) (FA.nil)), HM, E, S.pick [] (by decide), ⟨rfl, rfl⟩⟩
end Go.Proofs.Ytgnbccjpgoeplaa
