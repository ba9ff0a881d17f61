import Derived.Test.YtnfeinhialojnaaGt1
namespace Go.Proofs.Ytnfeinhialojnaa
open Go
set_option linter.unusedVariables false
set_option linter.unusedSimpArgs false
/-! ### ferryman/ferrymanlaw02.TextMiddles: function 7 -/
def ferrymanlaw02_TextMiddles (k : Nat) (a0 : Str) (a1 : Str) : Option (Bool) :=
  (Option.bind (ferrymanlaw02_works k ) (fun t1 => (Option.bind (α := Bool) (if (!t1) = true then some (true) else (Option.bind (ferrymanlaw02_long k ([a0, a1] : List Str)) (fun t32 => some (t32)))) (fun x23 => (if x23 = true then (Option.bind (ferrymanlaw02_works k ) (fun t39 => some t39)) else (Option.bind (text_Prefix k a0 a1) (fun t42 => (Option.bind (text_Suffix k a0 a1 (IntKind.i64.wrap ((imin (a0.length : Int) (a1.length : Int)) - t42))) (fun t45 => (if (((decide (t45 < (0 : Int))) || (decide ((IntKind.i64.wrap (t42 + t45)) > (a0.length : Int)))) || (decide ((IntKind.i64.wrap (t42 + t45)) > (a1.length : Int)))) = true then some false else (if 0 ≤ t42 ∧ t42 ≤ (IntKind.i64.wrap ((a0.length : Int) - t45)) ∧ (IntKind.i64.wrap ((a0.length : Int) - t45)) ≤ (a0.length : Int) then (if 0 ≤ t42 ∧ t42 ≤ (IntKind.i64.wrap ((a1.length : Int) - t45)) ∧ (IntKind.i64.wrap ((a1.length : Int) - t45)) ≤ (a1.length : Int) then (if 0 ≤ t42 ∧ t42 ≤ (a1.length : Int) then (if ((List.take t42.toNat a1).length : Int) + (List.take ((IntKind.i64.wrap ((a0.length : Int) - t45)) - t42).toNat (List.drop t42.toNat a0)).length ≤ 9223372036854775807 then (if 0 ≤ (IntKind.i64.wrap ((a1.length : Int) - t45)) ∧ (IntKind.i64.wrap ((a1.length : Int) - t45)) ≤ (a1.length : Int) then (if (((List.take t42.toNat a1) ++ (List.take ((IntKind.i64.wrap ((a0.length : Int) - t45)) - t42).toNat (List.drop t42.toNat a0))).length : Int) + (List.drop (IntKind.i64.wrap ((a1.length : Int) - t45)).toNat a1).length ≤ 9223372036854775807 then (Option.bind (α := Bool) (if (sbin .neq (((List.take t42.toNat a1) ++ (List.take ((IntKind.i64.wrap ((a0.length : Int) - t45)) - t42).toNat (List.drop t42.toNat a0))) ++ (List.drop (IntKind.i64.wrap ((a1.length : Int) - t45)).toNat a1)) a0) = true then some (true) else (if 0 ≤ t42 ∧ t42 ≤ (a0.length : Int) then (if ((List.take t42.toNat a0).length : Int) + (List.take ((IntKind.i64.wrap ((a1.length : Int) - t45)) - t42).toNat (List.drop t42.toNat a1)).length ≤ 9223372036854775807 then (if 0 ≤ (IntKind.i64.wrap ((a0.length : Int) - t45)) ∧ (IntKind.i64.wrap ((a0.length : Int) - t45)) ≤ (a0.length : Int) then (if (((List.take t42.toNat a0) ++ (List.take ((IntKind.i64.wrap ((a1.length : Int) - t45)) - t42).toNat (List.drop t42.toNat a1))).length : Int) + (List.drop (IntKind.i64.wrap ((a0.length : Int) - t45)).toNat a0).length ≤ 9223372036854775807 then some ((sbin .neq (((List.take t42.toNat a0) ++ (List.take ((IntKind.i64.wrap ((a1.length : Int) - t45)) - t42).toNat (List.drop t42.toNat a1))) ++ (List.drop (IntKind.i64.wrap ((a0.length : Int) - t45)).toNat a0)) a1)) else none) else none) else none) else none)) (fun x102 => (if x102 = true then some false else (Option.bind (α := Bool) (if ((sbin .eql (List.take ((IntKind.i64.wrap ((a0.length : Int) - t45)) - t42).toNat (List.drop t42.toNat a0)) ([] : Str)) || (sbin .eql (List.take ((IntKind.i64.wrap ((a1.length : Int) - t45)) - t42).toNat (List.drop t42.toNat a1)) ([] : Str))) = true then some (true) else (if 0 ≤ (0 : Int) ∧ (0 : Int) < ((List.take ((IntKind.i64.wrap ((a0.length : Int) - t45)) - t42).toNat (List.drop t42.toNat a0)).length : Int) then (if 0 ≤ (0 : Int) ∧ (0 : Int) < ((List.take ((IntKind.i64.wrap ((a1.length : Int) - t45)) - t42).toNat (List.drop t42.toNat a1)).length : Int) then (Option.bind (α := Bool) (if (((((List.take ((IntKind.i64.wrap ((a0.length : Int) - t45)) - t42).toNat (List.drop t42.toNat a0))).getD ((0 : Int)).toNat 0).toNat : Int) != ((((List.take ((IntKind.i64.wrap ((a1.length : Int) - t45)) - t42).toNat (List.drop t42.toNat a1))).getD ((0 : Int)).toNat 0).toNat : Int)) = true then (if 0 ≤ (IntKind.i64.wrap (((List.take ((IntKind.i64.wrap ((a0.length : Int) - t45)) - t42).toNat (List.drop t42.toNat a0)).length : Int) - (1 : Int))) ∧ (IntKind.i64.wrap (((List.take ((IntKind.i64.wrap ((a0.length : Int) - t45)) - t42).toNat (List.drop t42.toNat a0)).length : Int) - (1 : Int))) < ((List.take ((IntKind.i64.wrap ((a0.length : Int) - t45)) - t42).toNat (List.drop t42.toNat a0)).length : Int) then (if 0 ≤ (IntKind.i64.wrap (((List.take ((IntKind.i64.wrap ((a1.length : Int) - t45)) - t42).toNat (List.drop t42.toNat a1)).length : Int) - (1 : Int))) ∧ (IntKind.i64.wrap (((List.take ((IntKind.i64.wrap ((a1.length : Int) - t45)) - t42).toNat (List.drop t42.toNat a1)).length : Int) - (1 : Int))) < ((List.take ((IntKind.i64.wrap ((a1.length : Int) - t45)) - t42).toNat (List.drop t42.toNat a1)).length : Int) then some ((((((List.take ((IntKind.i64.wrap ((a0.length : Int) - t45)) - t42).toNat (List.drop t42.toNat a0))).getD ((IntKind.i64.wrap (((List.take ((IntKind.i64.wrap ((a0.length : Int) - t45)) - t42).toNat (List.drop t42.toNat a0)).length : Int) - (1 : Int)))).toNat 0).toNat : Int) != ((((List.take ((IntKind.i64.wrap ((a1.length : Int) - t45)) - t42).toNat (List.drop t42.toNat a1))).getD ((IntKind.i64.wrap (((List.take ((IntKind.i64.wrap ((a1.length : Int) - t45)) - t42).toNat (List.drop t42.toNat a1)).length : Int) - (1 : Int)))).toNat 0).toNat : Int))) else none) else none) else some (false)) (fun x175 => some (x175))) else none) else none)) (fun x163 => some x163))))) else none) else none) else none) else none) else none) else none)))))))))))
set_option maxHeartbeats 2000000 in
theorem ferrymanlaw02_TextMiddles.mono {k : Nat} {a0 : Str} {a1 : Str} : OLe (ferrymanlaw02_TextMiddles k a0 a1) (ferrymanlaw02_TextMiddles (k + 1) a0 a1) := by
  unfold ferrymanlaw02_TextMiddles
  repeat' (first | with_reducible exact OLe.none | with_reducible exact OLe.some | with_reducible refine OLe.ite ?_ ?_ | with_reducible refine OLe.bind ?_ (fun _ => ?_) | with_reducible exact ferrymanlaw02_long.mono | with_reducible exact ferrymanlaw02_works.mono | with_reducible exact text_Prefix.mono | with_reducible exact text_Suffix.mono | refine OLe.bind ?_ (fun _ => ?_) | refine OLe.ite ?_ ?_ | refine OLe.elim (fun _ => ?_) (fun _ => ?_) | split)
set_option maxHeartbeats 1000000 in
set_option maxRecDepth 100000 in
theorem ferrymanlaw02_TextMiddles.con (k : Nat) (M : Hp) (a0 : Str) (a1 : Str) (r : Bool)  (h : ferrymanlaw02_TextMiddles k a0 a1 = some r) : Con Try.prog 7 #[.string (bs a0), .string (bs a1)] M [] (fun v M' Γ' => v = .bool r ∧ Γ' = []) := by
  refine con_of_wp Try.func7 rfl Try.ntmps7 Try.results7 rfl ?_
  intro w F rn S hrn
  have E := Ext.refl w
  have HM := Hp.le_refl M
  have H := h
  unfold ferrymanlaw02_TextMiddles at H
  refine Wp_seq ?_
  refine Wp_region_lit ?_
  refine W_v (.bool false) (x_assign rfl) rfl ?_
  refine Wl_nil ?_
  refine tn ?_
  refine Wp_seq ?_
  refine Wp_seq ?_
  refine Wp_region_lit ?_
  obtain ⟨t1, ht2, H⟩ := bindS H
  refine W_callF fn12 (ferrymanlaw02_works.con k M  t1  ht2) S rfl rfl (by rintro _ _ _ ⟨_, rfl⟩; exact flat_nil) ?_
  rintro _ w3 _ Γ' E' S ⟨rfl, rfl⟩
  replace E := E.trans E'
  clear E'
  refine W_v (.bool (!t1)) (x_not rfl) rfl ?_
  refine W_v (.bool (!t1)) (x_move rfl) rfl ?_
  obtain ⟨o24, o24h, o24H⟩ := bindS H
  clear H
  refine Wl_cutN 5 (fun ρ w' => ∃ (x23 : Bool) (Mj : Hp), (x23) = o24 ∧ Agree ρ [(0, .string (bs a0)), (1, .string (bs a1)), (16, .bool x23)] ∧ M.le Mj ∧ Ext w w' ∧ St w' Mj F []) ?_ ?_
  · have H := o24h
    have LE25 := Hp.le_refl M
    rcases iteS H with ⟨hb22, H⟩ | ⟨hb22, H⟩
    · skip
      refine W_no (skF hb22) rfl ?_
      refine W_no (skF hb22) rfl ?_
      refine W_no (skF hb22) rfl ?_
      refine W_no (skF hb22) rfl ?_
      refine W_v (.bool true) (x_pick (k := true) (congrArg Value.bool hb22) rfl) rfl ?_
      refine Wl_nil ?_
      exact ⟨true, M, Option.some.inj H, ⟨rfl, rfl, rfl, trivial⟩, (Hp.le_refl M), E, S.pick [] (by decide)⟩
    · skip
      refine W_yes (congrArg some hb22) ?_
      refine W_v (.string (bs a0)) (x_move rfl) rfl ?_
      refine W_yes (congrArg some hb22) ?_
      refine W_v (.string (bs a1)) (x_move rfl) rfl ?_
      refine W_yes (congrArg some hb22) ?_
      refine W_bslice S #[.string (bs a0), .string (bs a1)] Try.underlying40 ty9 rfl rfl #[.string (bs ([] : Str)), .string (bs ([] : Str))] (by kernel_rfl) (by kernel_rfl) rfl ?_
      intro b26 w27 E' S
      replace E := E.trans E'
      clear E'
      replace S := S.blk_row (r := rStr) (l := ([a0, a1] : List Str)) 0 rfl 2 (Nat.le_refl 2) rfl (Cells.cons (vs := [.string (bs a0)]) (rfl) (Cells.cons (vs := [.string (bs a1)]) (rfl) Cells.nil))
      refine W_yes (congrArg some hb22) ?_
      obtain ⟨M29, hM30, hf31, S⟩ := S.row_freeze 0 rfl
      replace HM := Hp.le_trans HM hM30
      replace LE25 := Hp.le_trans LE25 hM30
      obtain ⟨t32, ht33, H⟩ := bindS H
      refine W_callF fn11 (ferrymanlaw02_long.con k M29 (some ⟨b26, 0, none⟩) 2 ([a0, a1] : List Str) t32 hf31 ht33) S rfl rfl (by rintro _ _ _ ⟨_, rfl⟩; exact flat_nil) ?_
      rintro _ w34 _ Γ' E' S ⟨rfl, rfl⟩
      replace E := E.trans E'
      clear E'
      refine W_v (.bool t32) (x_pick (k := false) (congrArg Value.bool hb22) rfl) rfl ?_
      refine Wl_nil ?_
      exact ⟨t32, M29, Option.some.inj H, ⟨rfl, rfl, rfl, trivial⟩, LE25, E, S.pick [] (by decide)⟩
  · clear o24h
    rintro ρ w35 ⟨x23, M36, rfl, hρ, hM37, E, S⟩
    rw [agree_eta hρ]
    clear hρ
    replace HM := Hp.le_trans HM hM37
    have H := o24H
    clear o24H
    refine Wl_nil ?_
    refine tn ?_
    rcases iteS H with ⟨hb38, H⟩ | ⟨hb38, H⟩
    · refine Wp_cond_true (congrArg Value.bool hb38) ?_
      refine Wp_seq ?_
      refine Wp_region_lit ?_
      obtain ⟨t39, ht40, H⟩ := bindS H
      refine W_callF fn12 (ferrymanlaw02_works.con k M36  t39  ht40) S rfl rfl (by rintro _ _ _ ⟨_, rfl⟩; exact flat_nil) ?_
      rintro _ w41 _ Γ' E' S ⟨rfl, rfl⟩
      replace E := E.trans E'
      clear E'
      refine W_v (.bool t39) (x_assign rfl) rfl ?_
      refine Wl_nil ?_
      refine tn ?_
      refine Wp_ret ?_
      refine tr (?_)
      obtain rfl := Option.some.inj H
      exact ⟨_, _, _, fun w1 e1 => run_resR (vs := [.bool t39]) (FA.cons (rfl) (FA.nil)), HM, E, S.pick [] (by decide), ⟨rfl, rfl⟩⟩
    · refine Wp_cond_false (congrArg Value.bool hb38) ?_
      refine Wp_skip ?_
      refine tn ?_
      refine Wp_seq ?_
      refine Wp_region_lit ?_
      refine W_v (.string (bs a0)) (x_move rfl) rfl ?_
      refine W_v (.string (bs a1)) (x_move rfl) rfl ?_
      obtain ⟨t42, ht43, H⟩ := bindS H
      refine W_callF fn15 (text_Prefix.con k M36 a0 a1 t42  ht43) S rfl rfl (by rintro _ _ _ ⟨_, rfl⟩; exact flat_nil) ?_
      rintro _ w44 _ Γ' E' S ⟨rfl, rfl⟩
      replace E := E.trans E'
      clear E'
      refine W_v (.int .i64 t42) (x_assign rfl) rfl ?_
      refine Wl_nil ?_
      refine tn ?_
      refine Wp_seq ?_
      refine Wp_region_lit ?_
      refine W_v (.string (bs a0)) (x_move rfl) rfl ?_
      refine W_v (.string (bs a1)) (x_move rfl) rfl ?_
      refine W_v (.string (bs a0)) (x_move rfl) rfl ?_
      refine W_v (.int .i64 (a0.length : Int)) (x_len_str Try.underlying9 rfl) rfl ?_
      refine W_v (.string (bs a1)) (x_move rfl) rfl ?_
      refine W_v (.int .i64 (a1.length : Int)) (x_len_str Try.underlying9 rfl) rfl ?_
      refine W_v (.int .i64 (imin (a0.length : Int) (a1.length : Int))) (x_min2 rfl rfl) rfl ?_
      refine W_v (.int .i64 t42) (x_move rfl) rfl ?_
      refine W_v (.int .i64 (IntKind.i64.wrap ((imin (a0.length : Int) (a1.length : Int)) - t42))) (x_ibin rfl rfl rfl rfl) rfl ?_
      obtain ⟨t45, ht46, H⟩ := bindS H
      refine W_callF fn17 (text_Suffix.con k M36 a0 a1 (IntKind.i64.wrap ((imin (a0.length : Int) (a1.length : Int)) - t42)) t45  ht46) S rfl rfl (by rintro _ _ _ ⟨_, rfl⟩; exact flat_nil) ?_
      rintro _ w47 _ Γ' E' S ⟨rfl, rfl⟩
      replace E := E.trans E'
      clear E'
      refine W_v (.int .i64 t45) (x_assign rfl) rfl ?_
      refine Wl_nil ?_
      refine tn ?_
      refine Wp_seq ?_
      refine Wp_seq ?_
      refine Wp_region_lit ?_
      refine W_v (.int .i64 t45) (x_move rfl) rfl ?_
      refine W_v (.bool (decide (t45 < (0 : Int)))) (x_ibin rfl rfl rfl rfl) rfl ?_
      refine W_v (.bool (decide (t45 < (0 : Int)))) (x_move rfl) rfl ?_
      refine Wl_cutN 7 (fun ρ w' => Agree ρ [(0, .string (bs a0)), (1, .string (bs a1)), (5, .int .i64 t42), (6, .int .i64 t45), (40, .bool ((decide (t45 < (0 : Int))) || (decide ((IntKind.i64.wrap (t42 + t45)) > (a0.length : Int)))))] ∧ w47 = w') ?_ ?_
      · rcases boolCases (decide (t45 < (0 : Int))) with hb48 | hb48
        · skip
          refine W_yes (congrArg some hb48) ?_
          refine W_v (.int .i64 t42) (x_move rfl) rfl ?_
          refine W_yes (congrArg some hb48) ?_
          refine W_v (.int .i64 t45) (x_move rfl) rfl ?_
          refine W_yes (congrArg some hb48) ?_
          refine W_v (.int .i64 (IntKind.i64.wrap (t42 + t45))) (x_ibin rfl rfl rfl rfl) rfl ?_
          refine W_yes (congrArg some hb48) ?_
          refine W_v (.string (bs a0)) (x_move rfl) rfl ?_
          refine W_yes (congrArg some hb48) ?_
          refine W_v (.int .i64 (a0.length : Int)) (x_len_str Try.underlying9 rfl) rfl ?_
          refine W_yes (congrArg some hb48) ?_
          refine W_v (.bool (decide ((IntKind.i64.wrap (t42 + t45)) > (a0.length : Int)))) (x_ibin rfl rfl rfl rfl) rfl ?_
          refine W_v (.bool (decide ((IntKind.i64.wrap (t42 + t45)) > (a0.length : Int)))) (x_pick (k := false) (congrArg Value.bool hb48) rfl) rfl ?_
          refine Wl_nil ?_
          exact ⟨⟨rfl, rfl, rfl, rfl, (by first | rfl | (rw [hb48]; rfl) | (simp only [hb48]; rfl)), trivial⟩, rfl⟩
        · skip
          refine W_no (skF hb48) rfl ?_
          refine W_no (skF hb48) rfl ?_
          refine W_no (skF hb48) rfl ?_
          refine W_no (skF hb48) rfl ?_
          refine W_no (skF hb48) rfl ?_
          refine W_no (skF hb48) rfl ?_
          refine W_v (.bool true) (x_pick (k := true) (congrArg Value.bool hb48) rfl) rfl ?_
          refine Wl_nil ?_
          exact ⟨⟨rfl, rfl, rfl, rfl, (by first | rfl | (rw [hb48]; rfl) | (simp only [hb48]; rfl)), trivial⟩, rfl⟩
      · rintro ρ _ ⟨hρ, rfl⟩
        rw [agree_eta hρ]
        clear hρ
        skip
        refine W_v (.bool ((decide (t45 < (0 : Int))) || (decide ((IntKind.i64.wrap (t42 + t45)) > (a0.length : Int))))) (x_move rfl) rfl ?_
        refine Wl_cutN 7 (fun ρ w' => Agree ρ [(0, .string (bs a0)), (1, .string (bs a1)), (5, .int .i64 t42), (6, .int .i64 t45), (48, .bool (((decide (t45 < (0 : Int))) || (decide ((IntKind.i64.wrap (t42 + t45)) > (a0.length : Int)))) || (decide ((IntKind.i64.wrap (t42 + t45)) > (a1.length : Int)))))] ∧ w47 = w') ?_ ?_
        · rcases boolCases ((decide (t45 < (0 : Int))) || (decide ((IntKind.i64.wrap (t42 + t45)) > (a0.length : Int)))) with hb49 | hb49
          · skip
            refine W_yes (congrArg some hb49) ?_
            refine W_v (.int .i64 t42) (x_move rfl) rfl ?_
            refine W_yes (congrArg some hb49) ?_
            refine W_v (.int .i64 t45) (x_move rfl) rfl ?_
            refine W_yes (congrArg some hb49) ?_
            refine W_v (.int .i64 (IntKind.i64.wrap (t42 + t45))) (x_ibin rfl rfl rfl rfl) rfl ?_
            refine W_yes (congrArg some hb49) ?_
            refine W_v (.string (bs a1)) (x_move rfl) rfl ?_
            refine W_yes (congrArg some hb49) ?_
            refine W_v (.int .i64 (a1.length : Int)) (x_len_str Try.underlying9 rfl) rfl ?_
            refine W_yes (congrArg some hb49) ?_
            refine W_v (.bool (decide ((IntKind.i64.wrap (t42 + t45)) > (a1.length : Int)))) (x_ibin rfl rfl rfl rfl) rfl ?_
            refine W_v (.bool (decide ((IntKind.i64.wrap (t42 + t45)) > (a1.length : Int)))) (x_pick (k := false) (congrArg Value.bool hb49) rfl) rfl ?_
            refine Wl_nil ?_
            exact ⟨⟨rfl, rfl, rfl, rfl, (by first | rfl | (rw [hb49]; rfl) | (simp only [hb49]; rfl)), trivial⟩, rfl⟩
          · skip
            refine W_no (skF hb49) rfl ?_
            refine W_no (skF hb49) rfl ?_
            refine W_no (skF hb49) rfl ?_
            refine W_no (skF hb49) rfl ?_
            refine W_no (skF hb49) rfl ?_
            refine W_no (skF hb49) rfl ?_
            refine W_v (.bool true) (x_pick (k := true) (congrArg Value.bool hb49) rfl) rfl ?_
            refine Wl_nil ?_
            exact ⟨⟨rfl, rfl, rfl, rfl, (by first | rfl | (rw [hb49]; rfl) | (simp only [hb49]; rfl)), trivial⟩, rfl⟩
        · rintro ρ _ ⟨hρ, rfl⟩
          rw [agree_eta hρ]
          clear hρ
          skip
          refine Wl_nil ?_
          refine tn ?_
          rcases iteS H with ⟨hb50, H⟩ | ⟨hb50, H⟩
          · refine Wp_cond_true (congrArg Value.bool hb50) ?_
            refine Wp_seq ?_
            refine Wp_region_lit ?_
            refine W_v (.bool false) (x_assign rfl) rfl ?_
            refine Wl_nil ?_
            refine tn ?_
            refine Wp_ret ?_
            refine tr (?_)
            obtain rfl := Option.some.inj H
            exact ⟨_, _, _, fun w1 e1 => run_resR (vs := [.bool false]) (FA.cons (rfl) (FA.nil)), HM, E, S.pick [] (by decide), ⟨rfl, rfl⟩⟩
          · refine Wp_cond_false (congrArg Value.bool hb50) ?_
            refine Wp_skip ?_
            refine tn ?_
            refine Wp_seq ?_
            refine Wp_region_any (S := fun w' => ∃ Mx, M36.le Mx ∧ St w' Mx F []) mixed ?_
            intro w57 hw58 E'
            replace S := S.heap hw58
            replace E := E.trans E'
            clear E'
            refine Wa_take (i := 0) rfl (by kernel_rfl) rfl rfl (.string (bs a0)) rfl (fun w' h' => x_move rfl) (⟨M36, Hp.le_refl M36, S.pick [] (by decide)⟩) ?_
            refine Wa_take (i := 1) rfl (by kernel_rfl) rfl rfl (.int .i64 t42) rfl (fun w' h' => x_move rfl) (⟨M36, Hp.le_refl M36, S.pick [] (by decide)⟩) ?_
            refine Wa_take (i := 2) rfl (by kernel_rfl) rfl rfl (.string (bs a0)) rfl (fun w' h' => x_move rfl) (⟨M36, Hp.le_refl M36, S.pick [] (by decide)⟩) ?_
            refine Wa_take (i := 3) rfl (by kernel_rfl) rfl rfl (.int .i64 (a0.length : Int)) rfl (fun w' h' => x_len_str Try.underlying9 rfl) (⟨M36, Hp.le_refl M36, S.pick [] (by decide)⟩) ?_
            refine Wa_take (i := 4) rfl (by kernel_rfl) rfl rfl (.int .i64 t45) rfl (fun w' h' => x_move rfl) (⟨M36, Hp.le_refl M36, S.pick [] (by decide)⟩) ?_
            refine Wa_take (i := 5) rfl (by kernel_rfl) rfl rfl (.int .i64 (IntKind.i64.wrap ((a0.length : Int) - t45))) rfl (fun w' h' => x_ibin rfl rfl rfl rfl) (⟨M36, Hp.le_refl M36, S.pick [] (by decide)⟩) ?_
            obtain ⟨⟨p59, p60, p61⟩, H⟩ := chkS H
            refine Wa_take (i := 6) rfl (by kernel_rfl) rfl rfl (.string (bs (List.take ((IntKind.i64.wrap ((a0.length : Int) - t45)) - t42).toNat (List.drop t42.toNat a0)))) rfl (fun w' h' => x_sliceStr_both Try.underlying9 rfl rfl rfl p59 p60 p61) (⟨M36, Hp.le_refl M36, S.pick [] (by decide)⟩) ?_
            refine Wa_take (i := 7) rfl (by kernel_rfl) rfl rfl (.string (bs a1)) rfl (fun w' h' => x_move rfl) (⟨M36, Hp.le_refl M36, S.pick [] (by decide)⟩) ?_
            refine Wa_take (i := 8) rfl (by kernel_rfl) rfl rfl (.int .i64 t42) rfl (fun w' h' => x_move rfl) (⟨M36, Hp.le_refl M36, S.pick [] (by decide)⟩) ?_
            refine Wa_take (i := 9) rfl (by kernel_rfl) rfl rfl (.string (bs a1)) rfl (fun w' h' => x_move rfl) (⟨M36, Hp.le_refl M36, S.pick [] (by decide)⟩) ?_
            refine Wa_take (i := 10) rfl (by kernel_rfl) rfl rfl (.int .i64 (a1.length : Int)) rfl (fun w' h' => x_len_str Try.underlying9 rfl) (⟨M36, Hp.le_refl M36, S.pick [] (by decide)⟩) ?_
            refine Wa_take (i := 11) rfl (by kernel_rfl) rfl rfl (.int .i64 t45) rfl (fun w' h' => x_move rfl) (⟨M36, Hp.le_refl M36, S.pick [] (by decide)⟩) ?_
            refine Wa_take (i := 12) rfl (by kernel_rfl) rfl rfl (.int .i64 (IntKind.i64.wrap ((a1.length : Int) - t45))) rfl (fun w' h' => x_ibin rfl rfl rfl rfl) (⟨M36, Hp.le_refl M36, S.pick [] (by decide)⟩) ?_
            obtain ⟨⟨p62, p63, p64⟩, H⟩ := chkS H
            refine Wa_take (i := 13) rfl (by kernel_rfl) rfl rfl (.string (bs (List.take ((IntKind.i64.wrap ((a1.length : Int) - t45)) - t42).toNat (List.drop t42.toNat a1)))) rfl (fun w' h' => x_sliceStr_both Try.underlying9 rfl rfl rfl p62 p63 p64) (⟨M36, Hp.le_refl M36, S.pick [] (by decide)⟩) ?_
            refine Wa_take (i := 14) rfl (by kernel_rfl) rfl rfl (.string (bs (List.take ((IntKind.i64.wrap ((a0.length : Int) - t45)) - t42).toNat (List.drop t42.toNat a0)))) rfl (fun w' h' => x_assign rfl) (⟨M36, Hp.le_refl M36, S.pick [] (by decide)⟩) ?_
            refine Wa_take (i := 15) rfl (by kernel_rfl) rfl rfl (.string (bs (List.take ((IntKind.i64.wrap ((a1.length : Int) - t45)) - t42).toNat (List.drop t42.toNat a1)))) rfl (fun w' h' => x_assign rfl) (⟨M36, Hp.le_refl M36, S.pick [] (by decide)⟩) ?_
            refine Wa_done (by kernel_rfl) ?_
            refine tn ?_
            refine Wp_seq ?_
            refine Wp_seq ?_
            refine Wp_region_any (S := fun w' => ∃ Mx, M36.le Mx ∧ St w' Mx F []) mixed ?_
            intro w87 hw88 E'
            replace S := S.heap hw88
            replace E := E.trans E'
            clear E'
            refine Wa_take (i := 0) rfl (by kernel_rfl) rfl rfl (.string (bs a1)) rfl (fun w' h' => x_move rfl) (⟨M36, Hp.le_refl M36, S.pick [] (by decide)⟩) ?_
            refine Wa_take (i := 1) rfl (by kernel_rfl) rfl rfl (.int .i64 t42) rfl (fun w' h' => x_move rfl) (⟨M36, Hp.le_refl M36, S.pick [] (by decide)⟩) ?_
            obtain ⟨⟨p89, p90⟩, H⟩ := chkS H
            refine Wa_take (i := 2) rfl (by kernel_rfl) rfl rfl (.string (bs (List.take t42.toNat a1))) rfl (fun w' h' => x_sliceStr_hi Try.underlying9 rfl rfl p89 p90) (⟨M36, Hp.le_refl M36, S.pick [] (by decide)⟩) ?_
            refine Wa_take (i := 3) rfl (by kernel_rfl) rfl rfl (.string (bs (List.take ((IntKind.i64.wrap ((a0.length : Int) - t45)) - t42).toNat (List.drop t42.toNat a0)))) rfl (fun w' h' => x_move rfl) (⟨M36, Hp.le_refl M36, S.pick [] (by decide)⟩) ?_
            obtain ⟨p91, H⟩ := chkS H
            refine Wa_take (i := 4) rfl (by kernel_rfl) rfl rfl (.string (bs ((List.take t42.toNat a1) ++ (List.take ((IntKind.i64.wrap ((a0.length : Int) - t45)) - t42).toNat (List.drop t42.toNat a0))))) rfl (fun w' h' => x_cat rfl rfl p91) (⟨M36, Hp.le_refl M36, S.pick [] (by decide)⟩) ?_
            refine Wa_take (i := 5) rfl (by kernel_rfl) rfl rfl (.string (bs a1)) rfl (fun w' h' => x_move rfl) (⟨M36, Hp.le_refl M36, S.pick [] (by decide)⟩) ?_
            refine Wa_take (i := 6) rfl (by kernel_rfl) rfl rfl (.string (bs a1)) rfl (fun w' h' => x_move rfl) (⟨M36, Hp.le_refl M36, S.pick [] (by decide)⟩) ?_
            refine Wa_take (i := 7) rfl (by kernel_rfl) rfl rfl (.int .i64 (a1.length : Int)) rfl (fun w' h' => x_len_str Try.underlying9 rfl) (⟨M36, Hp.le_refl M36, S.pick [] (by decide)⟩) ?_
            refine Wa_take (i := 8) rfl (by kernel_rfl) rfl rfl (.int .i64 t45) rfl (fun w' h' => x_move rfl) (⟨M36, Hp.le_refl M36, S.pick [] (by decide)⟩) ?_
            refine Wa_take (i := 9) rfl (by kernel_rfl) rfl rfl (.int .i64 (IntKind.i64.wrap ((a1.length : Int) - t45))) rfl (fun w' h' => x_ibin rfl rfl rfl rfl) (⟨M36, Hp.le_refl M36, S.pick [] (by decide)⟩) ?_
            obtain ⟨⟨p92, p93⟩, H⟩ := chkS H
            refine Wa_take (i := 10) rfl (by kernel_rfl) rfl rfl (.string (bs (List.drop (IntKind.i64.wrap ((a1.length : Int) - t45)).toNat a1))) rfl (fun w' h' => x_sliceStr_lo Try.underlying9 rfl rfl p92 p93) (⟨M36, Hp.le_refl M36, S.pick [] (by decide)⟩) ?_
            obtain ⟨p94, H⟩ := chkS H
            refine Wa_take (i := 11) rfl (by kernel_rfl) rfl rfl (.string (bs (((List.take t42.toNat a1) ++ (List.take ((IntKind.i64.wrap ((a0.length : Int) - t45)) - t42).toNat (List.drop t42.toNat a0))) ++ (List.drop (IntKind.i64.wrap ((a1.length : Int) - t45)).toNat a1)))) rfl (fun w' h' => x_cat rfl rfl p94) (⟨M36, Hp.le_refl M36, S.pick [] (by decide)⟩) ?_
            refine Wa_take (i := 12) rfl (by kernel_rfl) rfl rfl (.string (bs a0)) rfl (fun w' h' => x_move rfl) (⟨M36, Hp.le_refl M36, S.pick [] (by decide)⟩) ?_
            refine Wa_take (i := 13) rfl (by kernel_rfl) rfl rfl (.bool (sbin .neq (((List.take t42.toNat a1) ++ (List.take ((IntKind.i64.wrap ((a0.length : Int) - t45)) - t42).toNat (List.drop t42.toNat a0))) ++ (List.drop (IntKind.i64.wrap ((a1.length : Int) - t45)).toNat a1)) a0)) rfl (fun w' h' => x_sbin rfl rfl rfl) (⟨M36, Hp.le_refl M36, S.pick [] (by decide)⟩) ?_
            refine Wa_take (i := 14) rfl (by kernel_rfl) rfl rfl (.bool (sbin .neq (((List.take t42.toNat a1) ++ (List.take ((IntKind.i64.wrap ((a0.length : Int) - t45)) - t42).toNat (List.drop t42.toNat a0))) ++ (List.drop (IntKind.i64.wrap ((a1.length : Int) - t45)).toNat a1)) a0)) rfl (fun w' h' => x_move rfl) (⟨M36, Hp.le_refl M36, S.pick [] (by decide)⟩) ?_
            obtain ⟨o103, o103h, o103H⟩ := bindS H
            clear H
            refine Wa_join (fun ρ w' => ∃ (x102 : Bool), (x102) = o103 ∧ Agree ρ [(7, .string (bs (List.take ((IntKind.i64.wrap ((a0.length : Int) - t45)) - t42).toNat (List.drop t42.toNat a0)))), (8, .string (bs (List.take ((IntKind.i64.wrap ((a1.length : Int) - t45)) - t42).toNat (List.drop t42.toNat a1)))), (92, .bool x102)] ∧ Ext w w' ∧ St w' M36 F []) 0 (Ls 30 [0, 1, 2, 3, 4, 5, 6, 7, 8, 9, 10, 11, 12, 13, 14, 15, 16, 17, 18, 19, 20, 21, 22, 23, 24, 25, 26, 27, 28, 29]) ?_ ?_
            · clear o103h
              rintro ρ w104 ⟨x102, rfl, hρ, E, S⟩
              rw [agree_eta hρ]
              clear hρ
              have H := o103H
              clear o103H
              refine Wa_done (by kernel_rfl) ?_
              refine tn ?_
              rcases iteS H with ⟨hb105, H⟩ | ⟨hb105, H⟩
              · refine Wp_cond_true (congrArg Value.bool hb105) ?_
                refine Wp_seq ?_
                refine Wp_region_lit ?_
                refine W_v (.bool false) (x_assign rfl) rfl ?_
                refine Wl_nil ?_
                refine tn ?_
                refine Wp_ret ?_
                refine tr (?_)
                obtain rfl := Option.some.inj H
                exact ⟨_, _, _, fun w1 e1 => run_resR (vs := [.bool false]) (FA.cons (rfl) (FA.nil)), HM, E, S.pick [] (by decide), ⟨rfl, rfl⟩⟩
              · refine Wp_cond_false (congrArg Value.bool hb105) ?_
                refine Wp_skip ?_
                refine tn ?_
                refine Wp_seq ?_
                refine Wp_region_any (S := fun w' => ∃ Mx, M36.le Mx ∧ St w' Mx F []) mixed ?_
                intro w143 hw144 E'
                replace S := S.heap hw144
                replace E := E.trans E'
                clear E'
                refine Wa_take (i := 0) rfl (by kernel_rfl) rfl rfl (.string (bs (List.take ((IntKind.i64.wrap ((a0.length : Int) - t45)) - t42).toNat (List.drop t42.toNat a0)))) rfl (fun w' h' => x_move rfl) (⟨M36, Hp.le_refl M36, S.pick [] (by decide)⟩) ?_
                refine Wa_take (i := 1) rfl (by kernel_rfl) rfl rfl (.bool (sbin .eql (List.take ((IntKind.i64.wrap ((a0.length : Int) - t45)) - t42).toNat (List.drop t42.toNat a0)) ([] : Str))) rfl (fun w' h' => x_sbin rfl rfl rfl) (⟨M36, Hp.le_refl M36, S.pick [] (by decide)⟩) ?_
                refine Wa_take (i := 2) rfl (by kernel_rfl) rfl rfl (.bool (sbin .eql (List.take ((IntKind.i64.wrap ((a0.length : Int) - t45)) - t42).toNat (List.drop t42.toNat a0)) ([] : Str))) rfl (fun w' h' => x_move rfl) (⟨M36, Hp.le_refl M36, S.pick [] (by decide)⟩) ?_
                refine Wa_join (fun ρ w' => Agree ρ [(7, .string (bs (List.take ((IntKind.i64.wrap ((a0.length : Int) - t45)) - t42).toNat (List.drop t42.toNat a0)))), (8, .string (bs (List.take ((IntKind.i64.wrap ((a1.length : Int) - t45)) - t42).toNat (List.drop t42.toNat a1)))), (98, .bool ((sbin .eql (List.take ((IntKind.i64.wrap ((a0.length : Int) - t45)) - t42).toNat (List.drop t42.toNat a0)) ([] : Str)) || (sbin .eql (List.take ((IntKind.i64.wrap ((a1.length : Int) - t45)) - t42).toNat (List.drop t42.toNat a1)) ([] : Str))))] ∧ w143 = w') 21 (Ls 27 [0, 1, 2, 3, 4, 5]) ?_ ?_
                · rintro ρ _ ⟨hρ, rfl⟩
                  rw [agree_eta hρ]
                  clear hρ
                  refine Wa_take (i := 6) rfl (by kernel_rfl) rfl rfl (.bool ((sbin .eql (List.take ((IntKind.i64.wrap ((a0.length : Int) - t45)) - t42).toNat (List.drop t42.toNat a0)) ([] : Str)) || (sbin .eql (List.take ((IntKind.i64.wrap ((a1.length : Int) - t45)) - t42).toNat (List.drop t42.toNat a1)) ([] : Str)))) rfl (fun w' h' => x_move rfl) (⟨M36, Hp.le_refl M36, S.pick [] (by decide)⟩) ?_
                  obtain ⟨o164, o164h, o164H⟩ := bindS H
                  clear H
                  refine Wa_join (fun ρ w' => ∃ (x163 : Bool), (x163) = o164 ∧ Agree ρ [(118, .bool x163)] ∧ Ext w w' ∧ St w' M36 F []) 1 (Ls 27 [0, 1, 2, 3, 4, 5, 6, 7, 8, 9, 10, 11, 12, 13, 14, 15, 16, 17, 18, 19, 20, 21, 22, 23, 24, 25]) ?_ ?_
                  · clear o164h
                    rintro ρ w165 ⟨x163, rfl, hρ, E, S⟩
                    rw [agree_eta hρ]
                    clear hρ
                    have H := o164H
                    clear o164H
                    refine Wa_take (i := 26) rfl (by kernel_rfl) rfl rfl (.bool x163) rfl (fun w' h' => x_assign rfl) (⟨M36, Hp.le_refl M36, S.pick [] (by decide)⟩) ?_
                    refine Wa_done (by kernel_rfl) ?_
                    refine tn ?_
                    refine Wp_ret ?_
                    obtain rfl := Option.some.inj H
                    exact ⟨_, _, _, fun w1 e1 => run_resR (vs := [.bool x163]) (FA.cons (rfl) (FA.nil)), HM, E, S.pick [] (by decide), ⟨rfl, rfl⟩⟩
                  · intro hrest
                    have H := o164h
                    clear o164h o164H
                    rcases iteS H with ⟨hb162, H⟩ | ⟨hb162, H⟩
                    · skip
                      refine Wa_takeN (i := 7) rfl (by kernel_rfl) rfl rfl rfl (skF hb162) (⟨M36, Hp.le_refl M36, S.pick [] (by decide)⟩) ?_
                      refine Wa_takeN (i := 8) rfl (by kernel_rfl) rfl rfl rfl (skF hb162) (⟨M36, Hp.le_refl M36, S.pick [] (by decide)⟩) ?_
                      refine Wa_takeN (i := 9) rfl (by kernel_rfl) rfl rfl rfl (skF hb162) (⟨M36, Hp.le_refl M36, S.pick [] (by decide)⟩) ?_
                      refine Wa_takeN (i := 10) rfl (by kernel_rfl) rfl rfl rfl (skF hb162) (⟨M36, Hp.le_refl M36, S.pick [] (by decide)⟩) ?_
                      refine Wa_takeN (i := 11) rfl (by kernel_rfl) rfl rfl rfl (skF hb162) (⟨M36, Hp.le_refl M36, S.pick [] (by decide)⟩) ?_
                      refine Wa_takeN (i := 12) rfl (by kernel_rfl) rfl rfl rfl (skF hb162) (⟨M36, Hp.le_refl M36, S.pick [] (by decide)⟩) ?_
                      refine Wa_takeN (i := 13) rfl (by kernel_rfl) rfl rfl rfl (rfl) (⟨M36, Hp.le_refl M36, S.pick [] (by decide)⟩) ?_
                      refine Wa_takeN (i := 14) rfl (by kernel_rfl) rfl rfl rfl (rfl) (⟨M36, Hp.le_refl M36, S.pick [] (by decide)⟩) ?_
                      refine Wa_takeN (i := 15) rfl (by kernel_rfl) rfl rfl rfl (rfl) (⟨M36, Hp.le_refl M36, S.pick [] (by decide)⟩) ?_
                      refine Wa_takeN (i := 16) rfl (by kernel_rfl) rfl rfl rfl (rfl) (⟨M36, Hp.le_refl M36, S.pick [] (by decide)⟩) ?_
                      refine Wa_takeN (i := 17) rfl (by kernel_rfl) rfl rfl rfl (rfl) (⟨M36, Hp.le_refl M36, S.pick [] (by decide)⟩) ?_
                      refine Wa_takeN (i := 18) rfl (by kernel_rfl) rfl rfl rfl (rfl) (⟨M36, Hp.le_refl M36, S.pick [] (by decide)⟩) ?_
                      refine Wa_takeN (i := 19) rfl (by kernel_rfl) rfl rfl rfl (rfl) (⟨M36, Hp.le_refl M36, S.pick [] (by decide)⟩) ?_
                      refine Wa_takeN (i := 20) rfl (by kernel_rfl) rfl rfl rfl (rfl) (⟨M36, Hp.le_refl M36, S.pick [] (by decide)⟩) ?_
                      refine Wa_takeN (i := 21) rfl (by kernel_rfl) rfl rfl rfl (rfl) (⟨M36, Hp.le_refl M36, S.pick [] (by decide)⟩) ?_
                      refine Wa_takeN (i := 22) rfl (by kernel_rfl) rfl rfl rfl (rfl) (⟨M36, Hp.le_refl M36, S.pick [] (by decide)⟩) ?_
                      refine Wa_takeN (i := 23) rfl (by kernel_rfl) rfl rfl rfl (rfl) (⟨M36, Hp.le_refl M36, S.pick [] (by decide)⟩) ?_
                      refine Wa_takeN (i := 24) rfl (by kernel_rfl) rfl rfl rfl (skF hb162) (⟨M36, Hp.le_refl M36, S.pick [] (by decide)⟩) ?_
                      refine Wa_take (i := 25) rfl (by kernel_rfl) rfl rfl (.bool true) rfl (fun w' h' => x_pick (k := true) (congrArg Value.bool hb162) rfl) (⟨M36, Hp.le_refl M36, S.pick [] (by decide)⟩) ?_
                      exact hrest _ _ ⟨true, Option.some.inj H, ⟨rfl, trivial⟩, E, S.pick [] (by decide)⟩
                    · skip
                      refine Wa_takeY (i := 7) rfl (by kernel_rfl) rfl rfl (.string (bs (List.take ((IntKind.i64.wrap ((a0.length : Int) - t45)) - t42).toNat (List.drop t42.toNat a0)))) rfl (congrArg some hb162) (fun w' h' => x_move rfl) (⟨M36, Hp.le_refl M36, S.pick [] (by decide)⟩) ?_
                      obtain ⟨⟨p166, p167⟩, H⟩ := chkS H
                      refine Wa_takeY (i := 8) rfl (by kernel_rfl) rfl rfl (.int .u8 ((((List.take ((IntKind.i64.wrap ((a0.length : Int) - t45)) - t42).toNat (List.drop t42.toNat a0))).getD ((0 : Int)).toNat 0).toNat : Int)) rfl (congrArg some hb162) (fun w' h' => x_indexStr Try.underlying9 rfl rfl p166 p167) (⟨M36, Hp.le_refl M36, S.pick [] (by decide)⟩) ?_
                      refine Wa_takeY (i := 9) rfl (by kernel_rfl) rfl rfl (.string (bs (List.take ((IntKind.i64.wrap ((a1.length : Int) - t45)) - t42).toNat (List.drop t42.toNat a1)))) rfl (congrArg some hb162) (fun w' h' => x_move rfl) (⟨M36, Hp.le_refl M36, S.pick [] (by decide)⟩) ?_
                      obtain ⟨⟨p168, p169⟩, H⟩ := chkS H
                      refine Wa_takeY (i := 10) rfl (by kernel_rfl) rfl rfl (.int .u8 ((((List.take ((IntKind.i64.wrap ((a1.length : Int) - t45)) - t42).toNat (List.drop t42.toNat a1))).getD ((0 : Int)).toNat 0).toNat : Int)) rfl (congrArg some hb162) (fun w' h' => x_indexStr Try.underlying9 rfl rfl p168 p169) (⟨M36, Hp.le_refl M36, S.pick [] (by decide)⟩) ?_
                      refine Wa_takeY (i := 11) rfl (by kernel_rfl) rfl rfl (.bool (((((List.take ((IntKind.i64.wrap ((a0.length : Int) - t45)) - t42).toNat (List.drop t42.toNat a0))).getD ((0 : Int)).toNat 0).toNat : Int) != ((((List.take ((IntKind.i64.wrap ((a1.length : Int) - t45)) - t42).toNat (List.drop t42.toNat a1))).getD ((0 : Int)).toNat 0).toNat : Int))) rfl (congrArg some hb162) (fun w' h' => x_ibin rfl rfl rfl rfl) (⟨M36, Hp.le_refl M36, S.pick [] (by decide)⟩) ?_
                      refine Wa_takeY (i := 12) rfl (by kernel_rfl) rfl rfl (.bool (((((List.take ((IntKind.i64.wrap ((a0.length : Int) - t45)) - t42).toNat (List.drop t42.toNat a0))).getD ((0 : Int)).toNat 0).toNat : Int) != ((((List.take ((IntKind.i64.wrap ((a1.length : Int) - t45)) - t42).toNat (List.drop t42.toNat a1))).getD ((0 : Int)).toNat 0).toNat : Int))) rfl (congrArg some hb162) (fun w' h' => x_move rfl) (⟨M36, Hp.le_refl M36, S.pick [] (by decide)⟩) ?_
                      obtain ⟨o176, o176h, o176H⟩ := bindS H
                      clear H
                      refine Wa_join (fun ρ w' => ∃ (x175 : Bool), (x175) = o176 ∧ Agree ρ [(99, .bool ((sbin .eql (List.take ((IntKind.i64.wrap ((a0.length : Int) - t45)) - t42).toNat (List.drop t42.toNat a0)) ([] : Str)) || (sbin .eql (List.take ((IntKind.i64.wrap ((a1.length : Int) - t45)) - t42).toNat (List.drop t42.toNat a1)) ([] : Str)))), (117, .bool x175)] ∧ Ext w w' ∧ St w' M36 F []) 2 (Ls 27 [0, 1, 2, 3, 4, 5, 6, 7, 8, 9, 10, 11, 12, 13, 14, 15, 16, 17, 18, 19, 20, 21, 22, 23, 24]) ?_ ?_
                      · clear o176h
                        rintro ρ w177 ⟨x175, rfl, hρ, E, S⟩
                        rw [agree_eta hρ]
                        clear hρ
                        have H := o176H
                        clear o176H
                        refine Wa_take (i := 25) rfl (by kernel_rfl) rfl rfl (.bool x175) rfl (fun w' h' => x_pick (k := false) (congrArg Value.bool hb162) rfl) (⟨M36, Hp.le_refl M36, S.pick [] (by decide)⟩) ?_
                        exact hrest _ _ ⟨x175, Option.some.inj H, ⟨rfl, trivial⟩, E, S.pick [] (by decide)⟩
                      · intro hrest
                        have H := o176h
                        clear o176h o176H
                        rcases iteS H with ⟨hb174, H⟩ | ⟨hb174, H⟩
                        · skip
                          refine Wa_takeY (i := 13) rfl (by kernel_rfl) rfl rfl (.string (bs (List.take ((IntKind.i64.wrap ((a0.length : Int) - t45)) - t42).toNat (List.drop t42.toNat a0)))) rfl (congrArg some hb174) (fun w' h' => x_move rfl) (⟨M36, Hp.le_refl M36, S.pick [] (by decide)⟩) ?_
                          refine Wa_takeY (i := 14) rfl (by kernel_rfl) rfl rfl (.string (bs (List.take ((IntKind.i64.wrap ((a0.length : Int) - t45)) - t42).toNat (List.drop t42.toNat a0)))) rfl (congrArg some hb174) (fun w' h' => x_move rfl) (⟨M36, Hp.le_refl M36, S.pick [] (by decide)⟩) ?_
                          refine Wa_takeY (i := 15) rfl (by kernel_rfl) rfl rfl (.int .i64 ((List.take ((IntKind.i64.wrap ((a0.length : Int) - t45)) - t42).toNat (List.drop t42.toNat a0)).length : Int)) rfl (congrArg some hb174) (fun w' h' => x_len_str Try.underlying9 rfl) (⟨M36, Hp.le_refl M36, S.pick [] (by decide)⟩) ?_
                          refine Wa_takeY (i := 16) rfl (by kernel_rfl) rfl rfl (.int .i64 (IntKind.i64.wrap (((List.take ((IntKind.i64.wrap ((a0.length : Int) - t45)) - t42).toNat (List.drop t42.toNat a0)).length : Int) - (1 : Int)))) rfl (congrArg some hb174) (fun w' h' => x_ibin rfl rfl rfl rfl) (⟨M36, Hp.le_refl M36, S.pick [] (by decide)⟩) ?_
                          obtain ⟨⟨p178, p179⟩, H⟩ := chkS H
                          refine Wa_takeY (i := 17) rfl (by kernel_rfl) rfl rfl (.int .u8 ((((List.take ((IntKind.i64.wrap ((a0.length : Int) - t45)) - t42).toNat (List.drop t42.toNat a0))).getD ((IntKind.i64.wrap (((List.take ((IntKind.i64.wrap ((a0.length : Int) - t45)) - t42).toNat (List.drop t42.toNat a0)).length : Int) - (1 : Int)))).toNat 0).toNat : Int)) rfl (congrArg some hb174) (fun w' h' => x_indexStr Try.underlying9 rfl rfl p178 p179) (⟨M36, Hp.le_refl M36, S.pick [] (by decide)⟩) ?_
                          refine Wa_takeY (i := 18) rfl (by kernel_rfl) rfl rfl (.string (bs (List.take ((IntKind.i64.wrap ((a1.length : Int) - t45)) - t42).toNat (List.drop t42.toNat a1)))) rfl (congrArg some hb174) (fun w' h' => x_move rfl) (⟨M36, Hp.le_refl M36, S.pick [] (by decide)⟩) ?_
                          refine Wa_takeY (i := 19) rfl (by kernel_rfl) rfl rfl (.string (bs (List.take ((IntKind.i64.wrap ((a1.length : Int) - t45)) - t42).toNat (List.drop t42.toNat a1)))) rfl (congrArg some hb174) (fun w' h' => x_move rfl) (⟨M36, Hp.le_refl M36, S.pick [] (by decide)⟩) ?_
                          refine Wa_takeY (i := 20) rfl (by kernel_rfl) rfl rfl (.int .i64 ((List.take ((IntKind.i64.wrap ((a1.length : Int) - t45)) - t42).toNat (List.drop t42.toNat a1)).length : Int)) rfl (congrArg some hb174) (fun w' h' => x_len_str Try.underlying9 rfl) (⟨M36, Hp.le_refl M36, S.pick [] (by decide)⟩) ?_
                          refine Wa_takeY (i := 21) rfl (by kernel_rfl) rfl rfl (.int .i64 (IntKind.i64.wrap (((List.take ((IntKind.i64.wrap ((a1.length : Int) - t45)) - t42).toNat (List.drop t42.toNat a1)).length : Int) - (1 : Int)))) rfl (congrArg some hb174) (fun w' h' => x_ibin rfl rfl rfl rfl) (⟨M36, Hp.le_refl M36, S.pick [] (by decide)⟩) ?_
                          obtain ⟨⟨p180, p181⟩, H⟩ := chkS H
                          refine Wa_takeY (i := 22) rfl (by kernel_rfl) rfl rfl (.int .u8 ((((List.take ((IntKind.i64.wrap ((a1.length : Int) - t45)) - t42).toNat (List.drop t42.toNat a1))).getD ((IntKind.i64.wrap (((List.take ((IntKind.i64.wrap ((a1.length : Int) - t45)) - t42).toNat (List.drop t42.toNat a1)).length : Int) - (1 : Int)))).toNat 0).toNat : Int)) rfl (congrArg some hb174) (fun w' h' => x_indexStr Try.underlying9 rfl rfl p180 p181) (⟨M36, Hp.le_refl M36, S.pick [] (by decide)⟩) ?_
                          refine Wa_takeY (i := 23) rfl (by kernel_rfl) rfl rfl (.bool (((((List.take ((IntKind.i64.wrap ((a0.length : Int) - t45)) - t42).toNat (List.drop t42.toNat a0))).getD ((IntKind.i64.wrap (((List.take ((IntKind.i64.wrap ((a0.length : Int) - t45)) - t42).toNat (List.drop t42.toNat a0)).length : Int) - (1 : Int)))).toNat 0).toNat : Int) != ((((List.take ((IntKind.i64.wrap ((a1.length : Int) - t45)) - t42).toNat (List.drop t42.toNat a1))).getD ((IntKind.i64.wrap (((List.take ((IntKind.i64.wrap ((a1.length : Int) - t45)) - t42).toNat (List.drop t42.toNat a1)).length : Int) - (1 : Int)))).toNat 0).toNat : Int))) rfl (congrArg some hb174) (fun w' h' => x_ibin rfl rfl rfl rfl) (⟨M36, Hp.le_refl M36, S.pick [] (by decide)⟩) ?_
                          refine Wa_takeY (i := 24) rfl (by kernel_rfl) rfl rfl (.bool (((((List.take ((IntKind.i64.wrap ((a0.length : Int) - t45)) - t42).toNat (List.drop t42.toNat a0))).getD ((IntKind.i64.wrap (((List.take ((IntKind.i64.wrap ((a0.length : Int) - t45)) - t42).toNat (List.drop t42.toNat a0)).length : Int) - (1 : Int)))).toNat 0).toNat : Int) != ((((List.take ((IntKind.i64.wrap ((a1.length : Int) - t45)) - t42).toNat (List.drop t42.toNat a1))).getD ((IntKind.i64.wrap (((List.take ((IntKind.i64.wrap ((a1.length : Int) - t45)) - t42).toNat (List.drop t42.toNat a1)).length : Int) - (1 : Int)))).toNat 0).toNat : Int))) rfl (congrArg some hb162) (fun w' h' => x_pick (k := true) (congrArg Value.bool hb174) rfl) (⟨M36, Hp.le_refl M36, S.pick [] (by decide)⟩) ?_
                          exact hrest _ _ ⟨(((((List.take ((IntKind.i64.wrap ((a0.length : Int) - t45)) - t42).toNat (List.drop t42.toNat a0))).getD ((IntKind.i64.wrap (((List.take ((IntKind.i64.wrap ((a0.length : Int) - t45)) - t42).toNat (List.drop t42.toNat a0)).length : Int) - (1 : Int)))).toNat 0).toNat : Int) != ((((List.take ((IntKind.i64.wrap ((a1.length : Int) - t45)) - t42).toNat (List.drop t42.toNat a1))).getD ((IntKind.i64.wrap (((List.take ((IntKind.i64.wrap ((a1.length : Int) - t45)) - t42).toNat (List.drop t42.toNat a1)).length : Int) - (1 : Int)))).toNat 0).toNat : Int)), Option.some.inj H, ⟨rfl, rfl, trivial⟩, E, S.pick [] (by decide)⟩
                        · skip
                          refine Wa_takeN (i := 13) rfl (by kernel_rfl) rfl rfl rfl (skT hb174) (⟨M36, Hp.le_refl M36, S.pick [] (by decide)⟩) ?_
                          refine Wa_takeN (i := 14) rfl (by kernel_rfl) rfl rfl rfl (skT hb174) (⟨M36, Hp.le_refl M36, S.pick [] (by decide)⟩) ?_
                          refine Wa_takeN (i := 15) rfl (by kernel_rfl) rfl rfl rfl (skT hb174) (⟨M36, Hp.le_refl M36, S.pick [] (by decide)⟩) ?_
                          refine Wa_takeN (i := 16) rfl (by kernel_rfl) rfl rfl rfl (skT hb174) (⟨M36, Hp.le_refl M36, S.pick [] (by decide)⟩) ?_
                          refine Wa_takeN (i := 17) rfl (by kernel_rfl) rfl rfl rfl (skT hb174) (⟨M36, Hp.le_refl M36, S.pick [] (by decide)⟩) ?_
                          refine Wa_takeN (i := 18) rfl (by kernel_rfl) rfl rfl rfl (skT hb174) (⟨M36, Hp.le_refl M36, S.pick [] (by decide)⟩) ?_
                          refine Wa_takeN (i := 19) rfl (by kernel_rfl) rfl rfl rfl (skT hb174) (⟨M36, Hp.le_refl M36, S.pick [] (by decide)⟩) ?_
                          refine Wa_takeN (i := 20) rfl (by kernel_rfl) rfl rfl rfl (skT hb174) (⟨M36, Hp.le_refl M36, S.pick [] (by decide)⟩) ?_
                          refine Wa_takeN (i := 21) rfl (by kernel_rfl) rfl rfl rfl (skT hb174) (⟨M36, Hp.le_refl M36, S.pick [] (by decide)⟩) ?_
                          refine Wa_takeN (i := 22) rfl (by kernel_rfl) rfl rfl rfl (skT hb174) (⟨M36, Hp.le_refl M36, S.pick [] (by decide)⟩) ?_
                          refine Wa_takeN (i := 23) rfl (by kernel_rfl) rfl rfl rfl (skT hb174) (⟨M36, Hp.le_refl M36, S.pick [] (by decide)⟩) ?_
                          refine Wa_takeY (i := 24) rfl (by kernel_rfl) rfl rfl (.bool false) rfl (congrArg some hb162) (fun w' h' => x_pick (k := false) (congrArg Value.bool hb174) rfl) (⟨M36, Hp.le_refl M36, S.pick [] (by decide)⟩) ?_
                          exact hrest _ _ ⟨false, Option.some.inj H, ⟨rfl, rfl, trivial⟩, E, S.pick [] (by decide)⟩
                · intro hrest
                  rcases boolCases (sbin .eql (List.take ((IntKind.i64.wrap ((a0.length : Int) - t45)) - t42).toNat (List.drop t42.toNat a0)) ([] : Str)) with hb145 | hb145
                  · skip
                    refine Wa_takeY (i := 3) rfl (by kernel_rfl) rfl rfl (.string (bs (List.take ((IntKind.i64.wrap ((a1.length : Int) - t45)) - t42).toNat (List.drop t42.toNat a1)))) rfl (congrArg some hb145) (fun w' h' => x_move rfl) (⟨M36, Hp.le_refl M36, S.pick [] (by decide)⟩) ?_
                    refine Wa_takeY (i := 4) rfl (by kernel_rfl) rfl rfl (.bool (sbin .eql (List.take ((IntKind.i64.wrap ((a1.length : Int) - t45)) - t42).toNat (List.drop t42.toNat a1)) ([] : Str))) rfl (congrArg some hb145) (fun w' h' => x_sbin rfl rfl rfl) (⟨M36, Hp.le_refl M36, S.pick [] (by decide)⟩) ?_
                    refine Wa_take (i := 5) rfl (by kernel_rfl) rfl rfl (.bool (sbin .eql (List.take ((IntKind.i64.wrap ((a1.length : Int) - t45)) - t42).toNat (List.drop t42.toNat a1)) ([] : Str))) rfl (fun w' h' => x_pick (k := false) (congrArg Value.bool hb145) rfl) (⟨M36, Hp.le_refl M36, S.pick [] (by decide)⟩) ?_
                    exact hrest _ _ ⟨⟨rfl, rfl, (by first | rfl | (rw [hb145]; rfl) | (simp only [hb145]; rfl)), trivial⟩, rfl⟩
                  · skip
                    refine Wa_takeN (i := 3) rfl (by kernel_rfl) rfl rfl rfl (skF hb145) (⟨M36, Hp.le_refl M36, S.pick [] (by decide)⟩) ?_
                    refine Wa_takeN (i := 4) rfl (by kernel_rfl) rfl rfl rfl (skF hb145) (⟨M36, Hp.le_refl M36, S.pick [] (by decide)⟩) ?_
                    refine Wa_take (i := 5) rfl (by kernel_rfl) rfl rfl (.bool true) rfl (fun w' h' => x_pick (k := true) (congrArg Value.bool hb145) rfl) (⟨M36, Hp.le_refl M36, S.pick [] (by decide)⟩) ?_
                    exact hrest _ _ ⟨⟨rfl, rfl, (by first | rfl | (rw [hb145]; rfl) | (simp only [hb145]; rfl)), trivial⟩, rfl⟩
            · intro hrest
              have H := o103h
              clear o103h o103H
              rcases iteS H with ⟨hb101, H⟩ | ⟨hb101, H⟩
              · skip
                refine Wa_takeN (i := 15) rfl (by kernel_rfl) rfl rfl rfl (skF hb101) (⟨M36, Hp.le_refl M36, S.pick [] (by decide)⟩) ?_
                refine Wa_takeN (i := 16) rfl (by kernel_rfl) rfl rfl rfl (skF hb101) (⟨M36, Hp.le_refl M36, S.pick [] (by decide)⟩) ?_
                refine Wa_takeN (i := 17) rfl (by kernel_rfl) rfl rfl rfl (skF hb101) (⟨M36, Hp.le_refl M36, S.pick [] (by decide)⟩) ?_
                refine Wa_takeN (i := 18) rfl (by kernel_rfl) rfl rfl rfl (skF hb101) (⟨M36, Hp.le_refl M36, S.pick [] (by decide)⟩) ?_
                refine Wa_takeN (i := 19) rfl (by kernel_rfl) rfl rfl rfl (skF hb101) (⟨M36, Hp.le_refl M36, S.pick [] (by decide)⟩) ?_
                refine Wa_takeN (i := 20) rfl (by kernel_rfl) rfl rfl rfl (skF hb101) (⟨M36, Hp.le_refl M36, S.pick [] (by decide)⟩) ?_
                refine Wa_takeN (i := 21) rfl (by kernel_rfl) rfl rfl rfl (skF hb101) (⟨M36, Hp.le_refl M36, S.pick [] (by decide)⟩) ?_
                refine Wa_takeN (i := 22) rfl (by kernel_rfl) rfl rfl rfl (skF hb101) (⟨M36, Hp.le_refl M36, S.pick [] (by decide)⟩) ?_
                refine Wa_takeN (i := 23) rfl (by kernel_rfl) rfl rfl rfl (skF hb101) (⟨M36, Hp.le_refl M36, S.pick [] (by decide)⟩) ?_
                refine Wa_takeN (i := 24) rfl (by kernel_rfl) rfl rfl rfl (skF hb101) (⟨M36, Hp.le_refl M36, S.pick [] (by decide)⟩) ?_
                refine Wa_takeN (i := 25) rfl (by kernel_rfl) rfl rfl rfl (skF hb101) (⟨M36, Hp.le_refl M36, S.pick [] (by decide)⟩) ?_
                refine Wa_takeN (i := 26) rfl (by kernel_rfl) rfl rfl rfl (skF hb101) (⟨M36, Hp.le_refl M36, S.pick [] (by decide)⟩) ?_
                refine Wa_takeN (i := 27) rfl (by kernel_rfl) rfl rfl rfl (skF hb101) (⟨M36, Hp.le_refl M36, S.pick [] (by decide)⟩) ?_
                refine Wa_takeN (i := 28) rfl (by kernel_rfl) rfl rfl rfl (skF hb101) (⟨M36, Hp.le_refl M36, S.pick [] (by decide)⟩) ?_
                refine Wa_take (i := 29) rfl (by kernel_rfl) rfl rfl (.bool true) rfl (fun w' h' => x_pick (k := true) (congrArg Value.bool hb101) rfl) (⟨M36, Hp.le_refl M36, S.pick [] (by decide)⟩) ?_
                exact hrest _ _ ⟨true, Option.some.inj H, ⟨rfl, rfl, rfl, trivial⟩, E, S.pick [] (by decide)⟩
              · skip
                refine Wa_takeY (i := 15) rfl (by kernel_rfl) rfl rfl (.string (bs a0)) rfl (congrArg some hb101) (fun w' h' => x_move rfl) (⟨M36, Hp.le_refl M36, S.pick [] (by decide)⟩) ?_
                refine Wa_takeY (i := 16) rfl (by kernel_rfl) rfl rfl (.int .i64 t42) rfl (congrArg some hb101) (fun w' h' => x_move rfl) (⟨M36, Hp.le_refl M36, S.pick [] (by decide)⟩) ?_
                obtain ⟨⟨p182, p183⟩, H⟩ := chkS H
                refine Wa_takeY (i := 17) rfl (by kernel_rfl) rfl rfl (.string (bs (List.take t42.toNat a0))) rfl (congrArg some hb101) (fun w' h' => x_sliceStr_hi Try.underlying9 rfl rfl p182 p183) (⟨M36, Hp.le_refl M36, S.pick [] (by decide)⟩) ?_
                refine Wa_takeY (i := 18) rfl (by kernel_rfl) rfl rfl (.string (bs (List.take ((IntKind.i64.wrap ((a1.length : Int) - t45)) - t42).toNat (List.drop t42.toNat a1)))) rfl (congrArg some hb101) (fun w' h' => x_move rfl) (⟨M36, Hp.le_refl M36, S.pick [] (by decide)⟩) ?_
                obtain ⟨p184, H⟩ := chkS H
                refine Wa_takeY (i := 19) rfl (by kernel_rfl) rfl rfl (.string (bs ((List.take t42.toNat a0) ++ (List.take ((IntKind.i64.wrap ((a1.length : Int) - t45)) - t42).toNat (List.drop t42.toNat a1))))) rfl (congrArg some hb101) (fun w' h' => x_cat rfl rfl p184) (⟨M36, Hp.le_refl M36, S.pick [] (by decide)⟩) ?_
                refine Wa_takeY (i := 20) rfl (by kernel_rfl) rfl rfl (.string (bs a0)) rfl (congrArg some hb101) (fun w' h' => x_move rfl) (⟨M36, Hp.le_refl M36, S.pick [] (by decide)⟩) ?_
                refine Wa_takeY (i := 21) rfl (by kernel_rfl) rfl rfl (.string (bs a0)) rfl (congrArg some hb101) (fun w' h' => x_move rfl) (⟨M36, Hp.le_refl M36, S.pick [] (by decide)⟩) ?_
                refine Wa_takeY (i := 22) rfl (by kernel_rfl) rfl rfl (.int .i64 (a0.length : Int)) rfl (congrArg some hb101) (fun w' h' => x_len_str Try.underlying9 rfl) (⟨M36, Hp.le_refl M36, S.pick [] (by decide)⟩) ?_
                refine Wa_takeY (i := 23) rfl (by kernel_rfl) rfl rfl (.int .i64 t45) rfl (congrArg some hb101) (fun w' h' => x_move rfl) (⟨M36, Hp.le_refl M36, S.pick [] (by decide)⟩) ?_
                refine Wa_takeY (i := 24) rfl (by kernel_rfl) rfl rfl (.int .i64 (IntKind.i64.wrap ((a0.length : Int) - t45))) rfl (congrArg some hb101) (fun w' h' => x_ibin rfl rfl rfl rfl) (⟨M36, Hp.le_refl M36, S.pick [] (by decide)⟩) ?_
                obtain ⟨⟨p185, p186⟩, H⟩ := chkS H
                refine Wa_takeY (i := 25) rfl (by kernel_rfl) rfl rfl (.string (bs (List.drop (IntKind.i64.wrap ((a0.length : Int) - t45)).toNat a0))) rfl (congrArg some hb101) (fun w' h' => x_sliceStr_lo Try.underlying9 rfl rfl p185 p186) (⟨M36, Hp.le_refl M36, S.pick [] (by decide)⟩) ?_
                obtain ⟨p187, H⟩ := chkS H
                refine Wa_takeY (i := 26) rfl (by kernel_rfl) rfl rfl (.string (bs (((List.take t42.toNat a0) ++ (List.take ((IntKind.i64.wrap ((a1.length : Int) - t45)) - t42).toNat (List.drop t42.toNat a1))) ++ (List.drop (IntKind.i64.wrap ((a0.length : Int) - t45)).toNat a0)))) rfl (congrArg some hb101) (fun w' h' => x_cat rfl rfl p187) (⟨M36, Hp.le_refl M36, S.pick [] (by decide)⟩) ?_
                refine Wa_takeY (i := 27) rfl (by kernel_rfl) rfl rfl (.string (bs a1)) rfl (congrArg some hb101) (fun w' h' => x_move rfl) (⟨M36, Hp.le_refl M36, S.pick [] (by decide)⟩) ?_
                refine Wa_takeY (i := 28) rfl (by kernel_rfl) rfl rfl (.bool (sbin .neq (((List.take t42.toNat a0) ++ (List.take ((IntKind.i64.wrap ((a1.length : Int) - t45)) - t42).toNat (List.drop t42.toNat a1))) ++ (List.drop (IntKind.i64.wrap ((a0.length : Int) - t45)).toNat a0)) a1)) rfl (congrArg some hb101) (fun w' h' => x_sbin rfl rfl rfl) (⟨M36, Hp.le_refl M36, S.pick [] (by decide)⟩) ?_
                refine Wa_take (i := 29) rfl (by kernel_rfl) rfl rfl (.bool (sbin .neq (((List.take t42.toNat a0) ++ (List.take ((IntKind.i64.wrap ((a1.length : Int) - t45)) - t42).toNat (List.drop t42.toNat a1))) ++ (List.drop (IntKind.i64.wrap ((a0.length : Int) - t45)).toNat a0)) a1)) rfl (fun w' h' => x_pick (k := false) (congrArg Value.bool hb101) rfl) (⟨M36, Hp.le_refl M36, S.pick [] (by decide)⟩) ?_
                exact hrest _ _ ⟨(sbin .neq (((List.take t42.toNat a0) ++ (List.take ((IntKind.i64.wrap ((a1.length : Int) - t45)) - t42).toNat (List.drop t42.toNat a1))) ++ (List.drop (IntKind.i64.wrap ((a0.length : Int) - t45)).toNat a0)) a1), Option.some.inj H, ⟨rfl, rfl, rfl, trivial⟩, E, S.pick [] (by decide)⟩
end Go.Proofs.Ytnfeinhialojnaa
