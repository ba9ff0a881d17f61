import Derived.Test.YtnfeinhialojnaaGt1
namespace Go.Proofs.Ytnfeinhialojnaa
open Go
set_option linter.unusedVariables false
set_option linter.unusedSimpArgs false
/-! ### ferryman/ferrymanlaw02.TextRow: function 4 -/
def ferrymanlaw02_TextRow (k : Nat) (a0 : Str) (a1 : Str) (a2 : Str) : Option (Bool) :=
  (Option.bind (ferrymanlaw02_works k ) (fun t1 => (Option.bind (α := Bool) (if (!t1) = true then some (true) else (Option.bind (ferrymanlaw02_long k ([a0, a1, a2] : List Str)) (fun t32 => some (t32)))) (fun x23 => (if x23 = true then (Option.bind (ferrymanlaw02_works k ) (fun t39 => some t39)) else (Option.bind (text_Compare k a0 a1) (fun t42 => (Option.bind (text_Compare k a1 a2) (fun t45 => (Option.bind (text_Compare k a0 a2) (fun t48 => (Option.bind (text_Compare k a1 a0) (fun t51 => (Option.bind (α := Bool) (if ((((t51 != (IntKind.i64.wrap (0 - t42))) || (!((t42 == (0 : Int)) == (sbin .eql a0 a1)))) || (decide (t42 < (-1 : Int)))) || (decide (t42 > (1 : Int)))) = true then some (true) else (Option.bind (text_Compare k a0 a0) (fun t66 => some ((t66 != (0 : Int)))))) (fun x64 => (if x64 = true then some false else (if ((((decide (t42 ≤ (0 : Int))) && (decide (t45 ≤ (0 : Int)))) && ((decide (t48 > (0 : Int))) || (!((t48 == (0 : Int)) == ((t42 == (0 : Int)) && (t45 == (0 : Int))))))) || (((decide (t42 ≥ (0 : Int))) && (decide (t45 ≥ (0 : Int)))) && ((decide (t48 < (0 : Int))) || (!((t48 == (0 : Int)) == ((t42 == (0 : Int)) && (t45 == (0 : Int)))))))) = true then some false else (Option.bind (text_Compare k ([] : Str) a0) (fun t129 => some ((t129 == (-1 : Int)) == (sbin .neq a0 ([] : Str))))))))))))))))))))))
set_option maxHeartbeats 2000000 in
theorem ferrymanlaw02_TextRow.mono {k : Nat} {a0 : Str} {a1 : Str} {a2 : Str} : OLe (ferrymanlaw02_TextRow k a0 a1 a2) (ferrymanlaw02_TextRow (k + 1) a0 a1 a2) := by
  unfold ferrymanlaw02_TextRow
  repeat' (first | with_reducible exact OLe.none | with_reducible exact OLe.some | with_reducible refine OLe.ite ?_ ?_ | with_reducible refine OLe.bind ?_ (fun _ => ?_) | with_reducible exact ferrymanlaw02_long.mono | with_reducible exact ferrymanlaw02_works.mono | with_reducible exact text_Compare.mono | refine OLe.bind ?_ (fun _ => ?_) | refine OLe.ite ?_ ?_ | refine OLe.elim (fun _ => ?_) (fun _ => ?_) | split)
set_option maxHeartbeats 1000000 in
set_option maxRecDepth 100000 in
theorem ferrymanlaw02_TextRow.con (k : Nat) (M : Hp) (a0 : Str) (a1 : Str) (a2 : Str) (r : Bool)  (h : ferrymanlaw02_TextRow k a0 a1 a2 = some r) : Con Try.prog 4 #[.string (bs a0), .string (bs a1), .string (bs a2)] M [] (fun v M' Γ' => v = .bool r ∧ Γ' = []) := by
  refine con_of_wp Try.func4 rfl Try.ntmps4 Try.results4 rfl ?_
  intro w F rn S hrn
  have E := Ext.refl w
  have HM := Hp.le_refl M
  have H := h
  unfold ferrymanlaw02_TextRow at H
  refine Wp_seq ?_
  refine Wp_region_lit ?_
  refine W_v (.bool false) (x_assign rfl) rfl ?_
  refine Wl_nil ?_
  refine tn ?_
  refine Wp_seq ?_
  refine Wp_seq ?_
  refine Wp_region_lit ?_
  obtain ⟨t1, ht2, H⟩ := bindS H
  refine W_callF fn12 (ferrymanlaw02_works.con k M  t1  ht2) S rfl rfl (by rintro _ _ _ ⟨_, rfl⟩; exact flat_nil) ?_
  rintro _ w3 _ Γ' E' S ⟨rfl, rfl⟩
  replace E := E.trans E'
  clear E'
  refine W_v (.bool (!t1)) (x_not rfl) rfl ?_
  refine W_v (.bool (!t1)) (x_move rfl) rfl ?_
  obtain ⟨o24, o24h, o24H⟩ := bindS H
  clear H
  refine Wl_cutN 6 (fun ρ w' => ∃ (x23 : Bool) (Mj : Hp), (x23) = o24 ∧ Agree ρ [(0, .string (bs a0)), (1, .string (bs a1)), (2, .string (bs a2)), (18, .bool x23)] ∧ M.le Mj ∧ Ext w w' ∧ St w' Mj F []) ?_ ?_
  · have H := o24h
    have LE25 := Hp.le_refl M
    rcases iteS H with ⟨hb22, H⟩ | ⟨hb22, H⟩
    · skip
      refine W_no (skF hb22) rfl ?_
      refine W_no (skF hb22) rfl ?_
      refine W_no (skF hb22) rfl ?_
      refine W_no (skF hb22) rfl ?_
      refine W_no (skF hb22) rfl ?_
      refine W_v (.bool true) (x_pick (k := true) (congrArg Value.bool hb22) rfl) rfl ?_
      refine Wl_nil ?_
      exact ⟨true, M, Option.some.inj H, ⟨rfl, rfl, rfl, rfl, trivial⟩, (Hp.le_refl M), E, S.pick [] (by decide)⟩
    · skip
      refine W_yes (congrArg some hb22) ?_
      refine W_v (.string (bs a0)) (x_move rfl) rfl ?_
      refine W_yes (congrArg some hb22) ?_
      refine W_v (.string (bs a1)) (x_move rfl) rfl ?_
      refine W_yes (congrArg some hb22) ?_
      refine W_v (.string (bs a2)) (x_move rfl) rfl ?_
      refine W_yes (congrArg some hb22) ?_
      refine W_bslice S #[.string (bs a0), .string (bs a1), .string (bs a2)] Try.underlying40 ty9 rfl rfl #[.string (bs ([] : Str)), .string (bs ([] : Str)), .string (bs ([] : Str))] (by kernel_rfl) (by kernel_rfl) rfl ?_
      intro b26 w27 E' S
      replace E := E.trans E'
      clear E'
      replace S := S.blk_row (r := rStr) (l := ([a0, a1, a2] : List Str)) 0 rfl 3 (Nat.le_refl 3) rfl (Cells.cons (vs := [.string (bs a0)]) (rfl) (Cells.cons (vs := [.string (bs a1)]) (rfl) (Cells.cons (vs := [.string (bs a2)]) (rfl) Cells.nil)))
      refine W_yes (congrArg some hb22) ?_
      obtain ⟨M29, hM30, hf31, S⟩ := S.row_freeze 0 rfl
      replace HM := Hp.le_trans HM hM30
      replace LE25 := Hp.le_trans LE25 hM30
      obtain ⟨t32, ht33, H⟩ := bindS H
      refine W_callF fn11 (ferrymanlaw02_long.con k M29 (some ⟨b26, 0, none⟩) 3 ([a0, a1, a2] : List Str) t32 hf31 ht33) S rfl rfl (by rintro _ _ _ ⟨_, rfl⟩; exact flat_nil) ?_
      rintro _ w34 _ Γ' E' S ⟨rfl, rfl⟩
      replace E := E.trans E'
      clear E'
      refine W_v (.bool t32) (x_pick (k := false) (congrArg Value.bool hb22) rfl) rfl ?_
      refine Wl_nil ?_
      exact ⟨t32, M29, Option.some.inj H, ⟨rfl, rfl, rfl, rfl, trivial⟩, LE25, E, S.pick [] (by decide)⟩
  · clear o24h
    rintro ρ w35 ⟨x23, M36, rfl, hρ, hM37, E, S⟩
    rw [agree_eta hρ]
    clear hρ
    replace HM := Hp.le_trans HM hM37
    have H := o24H
    clear o24H
    refine Wl_nil ?_
    refine tn ?_
    rcases iteS H with ⟨hb38, H⟩ | ⟨hb38, H⟩
    · refine Wp_cond_true (congrArg Value.bool hb38) ?_
      refine Wp_seq ?_
      refine Wp_region_lit ?_
      obtain ⟨t39, ht40, H⟩ := bindS H
      refine W_callF fn12 (ferrymanlaw02_works.con k M36  t39  ht40) S rfl rfl (by rintro _ _ _ ⟨_, rfl⟩; exact flat_nil) ?_
      rintro _ w41 _ Γ' E' S ⟨rfl, rfl⟩
      replace E := E.trans E'
      clear E'
      refine W_v (.bool t39) (x_assign rfl) rfl ?_
      refine Wl_nil ?_
      refine tn ?_
      refine Wp_ret ?_
      refine tr (?_)
      obtain rfl := Option.some.inj H
      exact ⟨_, _, _, fun w1 e1 => run_resR (vs := [.bool t39]) (FA.cons (rfl) (FA.nil)), HM, E, S.pick [] (by decide), ⟨rfl, rfl⟩⟩
    · refine Wp_cond_false (congrArg Value.bool hb38) ?_
      refine Wp_skip ?_
      refine tn ?_
      refine Wp_seq ?_
      refine Wp_region_lit ?_
      refine W_v (.string (bs a0)) (x_move rfl) rfl ?_
      refine W_v (.string (bs a1)) (x_move rfl) rfl ?_
      obtain ⟨t42, ht43, H⟩ := bindS H
      refine W_callF fn13 (text_Compare.con k M36 a0 a1 t42  ht43) S rfl rfl (by rintro _ _ _ ⟨_, rfl⟩; exact flat_nil) ?_
      rintro _ w44 _ Γ' E' S ⟨rfl, rfl⟩
      replace E := E.trans E'
      clear E'
      refine W_v (.string (bs a1)) (x_move rfl) rfl ?_
      refine W_v (.string (bs a2)) (x_move rfl) rfl ?_
      obtain ⟨t45, ht46, H⟩ := bindS H
      refine W_callF fn13 (text_Compare.con k M36 a1 a2 t45  ht46) S rfl rfl (by rintro _ _ _ ⟨_, rfl⟩; exact flat_nil) ?_
      rintro _ w47 _ Γ' E' S ⟨rfl, rfl⟩
      replace E := E.trans E'
      clear E'
      refine W_v (.string (bs a0)) (x_move rfl) rfl ?_
      refine W_v (.string (bs a2)) (x_move rfl) rfl ?_
      obtain ⟨t48, ht49, H⟩ := bindS H
      refine W_callF fn13 (text_Compare.con k M36 a0 a2 t48  ht49) S rfl rfl (by rintro _ _ _ ⟨_, rfl⟩; exact flat_nil) ?_
      rintro _ w50 _ Γ' E' S ⟨rfl, rfl⟩
      replace E := E.trans E'
      clear E'
      refine W_v (.int .i64 t42) (x_assign rfl) rfl ?_
      refine W_v (.int .i64 t45) (x_assign rfl) rfl ?_
      refine W_v (.int .i64 t48) (x_assign rfl) rfl ?_
      refine Wl_nil ?_
      refine tn ?_
      refine Wp_seq ?_
      refine Wp_seq ?_
      refine Wp_region_lit ?_
      refine W_v (.string (bs a1)) (x_move rfl) rfl ?_
      refine W_v (.string (bs a0)) (x_move rfl) rfl ?_
      obtain ⟨t51, ht52, H⟩ := bindS H
      refine W_callF fn13 (text_Compare.con k M36 a1 a0 t51  ht52) S rfl rfl (by rintro _ _ _ ⟨_, rfl⟩; exact flat_nil) ?_
      rintro _ w53 _ Γ' E' S ⟨rfl, rfl⟩
      replace E := E.trans E'
      clear E'
      refine W_v (.int .i64 t42) (x_move rfl) rfl ?_
      refine W_v (.int .i64 (IntKind.i64.wrap (0 - t42))) (x_neg rfl) rfl ?_
      refine W_v (.bool (t51 != (IntKind.i64.wrap (0 - t42)))) (x_ibin rfl rfl rfl rfl) rfl ?_
      refine W_v (.bool (t51 != (IntKind.i64.wrap (0 - t42)))) (x_move rfl) rfl ?_
      refine Wl_cutN 7 (fun ρ w' => Agree ρ [(0, .string (bs a0)), (7, .int .i64 t42), (8, .int .i64 t45), (9, .int .i64 t48), (42, .bool ((t51 != (IntKind.i64.wrap (0 - t42))) || (!((t42 == (0 : Int)) == (sbin .eql a0 a1)))))] ∧ w53 = w') ?_ ?_
      · rcases boolCases (t51 != (IntKind.i64.wrap (0 - t42))) with hb54 | hb54
        · skip
          refine W_yes (congrArg some hb54) ?_
          refine W_v (.int .i64 t42) (x_move rfl) rfl ?_
          refine W_yes (congrArg some hb54) ?_
          refine W_v (.bool (t42 == (0 : Int))) (x_ibin rfl rfl rfl rfl) rfl ?_
          refine W_yes (congrArg some hb54) ?_
          refine W_v (.string (bs a0)) (x_move rfl) rfl ?_
          refine W_yes (congrArg some hb54) ?_
          refine W_v (.string (bs a1)) (x_move rfl) rfl ?_
          refine W_yes (congrArg some hb54) ?_
          refine W_v (.bool (sbin .eql a0 a1)) (x_sbin rfl rfl rfl) rfl ?_
          refine W_yes (congrArg some hb54) ?_
          refine W_v (.bool (!((t42 == (0 : Int)) == (sbin .eql a0 a1)))) (x_bne Try.underlying4 rfl rfl) rfl ?_
          refine W_v (.bool (!((t42 == (0 : Int)) == (sbin .eql a0 a1)))) (x_pick (k := false) (congrArg Value.bool hb54) rfl) rfl ?_
          refine Wl_nil ?_
          exact ⟨⟨rfl, rfl, rfl, rfl, (by first | rfl | (rw [hb54]; rfl) | (simp only [hb54]; rfl)), trivial⟩, rfl⟩
        · skip
          refine W_no (skF hb54) rfl ?_
          refine W_no (skF hb54) rfl ?_
          refine W_no (skF hb54) rfl ?_
          refine W_no (skF hb54) rfl ?_
          refine W_no (skF hb54) rfl ?_
          refine W_no (skF hb54) rfl ?_
          refine W_v (.bool true) (x_pick (k := true) (congrArg Value.bool hb54) rfl) rfl ?_
          refine Wl_nil ?_
          exact ⟨⟨rfl, rfl, rfl, rfl, (by first | rfl | (rw [hb54]; rfl) | (simp only [hb54]; rfl)), trivial⟩, rfl⟩
      · rintro ρ _ ⟨hρ, rfl⟩
        rw [agree_eta hρ]
        clear hρ
        skip
        refine W_v (.bool ((t51 != (IntKind.i64.wrap (0 - t42))) || (!((t42 == (0 : Int)) == (sbin .eql a0 a1))))) (x_move rfl) rfl ?_
        refine Wl_cutN 3 (fun ρ w' => Agree ρ [(0, .string (bs a0)), (7, .int .i64 t42), (8, .int .i64 t45), (9, .int .i64 t48), (46, .bool (((t51 != (IntKind.i64.wrap (0 - t42))) || (!((t42 == (0 : Int)) == (sbin .eql a0 a1)))) || (decide (t42 < (-1 : Int)))))] ∧ w53 = w') ?_ ?_
        · rcases boolCases ((t51 != (IntKind.i64.wrap (0 - t42))) || (!((t42 == (0 : Int)) == (sbin .eql a0 a1)))) with hb55 | hb55
          · skip
            refine W_yes (congrArg some hb55) ?_
            refine W_v (.int .i64 t42) (x_move rfl) rfl ?_
            refine W_yes (congrArg some hb55) ?_
            refine W_v (.bool (decide (t42 < (-1 : Int)))) (x_ibin rfl rfl rfl rfl) rfl ?_
            refine W_v (.bool (decide (t42 < (-1 : Int)))) (x_pick (k := false) (congrArg Value.bool hb55) rfl) rfl ?_
            refine Wl_nil ?_
            exact ⟨⟨rfl, rfl, rfl, rfl, (by first | rfl | (rw [hb55]; rfl) | (simp only [hb55]; rfl)), trivial⟩, rfl⟩
          · skip
            refine W_no (skF hb55) rfl ?_
            refine W_no (skF hb55) rfl ?_
            refine W_v (.bool true) (x_pick (k := true) (congrArg Value.bool hb55) rfl) rfl ?_
            refine Wl_nil ?_
            exact ⟨⟨rfl, rfl, rfl, rfl, (by first | rfl | (rw [hb55]; rfl) | (simp only [hb55]; rfl)), trivial⟩, rfl⟩
        · rintro ρ _ ⟨hρ, rfl⟩
          rw [agree_eta hρ]
          clear hρ
          skip
          refine W_v (.bool (((t51 != (IntKind.i64.wrap (0 - t42))) || (!((t42 == (0 : Int)) == (sbin .eql a0 a1)))) || (decide (t42 < (-1 : Int))))) (x_move rfl) rfl ?_
          refine Wl_cutN 3 (fun ρ w' => Agree ρ [(0, .string (bs a0)), (7, .int .i64 t42), (8, .int .i64 t45), (9, .int .i64 t48), (50, .bool ((((t51 != (IntKind.i64.wrap (0 - t42))) || (!((t42 == (0 : Int)) == (sbin .eql a0 a1)))) || (decide (t42 < (-1 : Int)))) || (decide (t42 > (1 : Int)))))] ∧ w53 = w') ?_ ?_
          · rcases boolCases (((t51 != (IntKind.i64.wrap (0 - t42))) || (!((t42 == (0 : Int)) == (sbin .eql a0 a1)))) || (decide (t42 < (-1 : Int)))) with hb56 | hb56
            · skip
              refine W_yes (congrArg some hb56) ?_
              refine W_v (.int .i64 t42) (x_move rfl) rfl ?_
              refine W_yes (congrArg some hb56) ?_
              refine W_v (.bool (decide (t42 > (1 : Int)))) (x_ibin rfl rfl rfl rfl) rfl ?_
              refine W_v (.bool (decide (t42 > (1 : Int)))) (x_pick (k := false) (congrArg Value.bool hb56) rfl) rfl ?_
              refine Wl_nil ?_
              exact ⟨⟨rfl, rfl, rfl, rfl, (by first | rfl | (rw [hb56]; rfl) | (simp only [hb56]; rfl)), trivial⟩, rfl⟩
            · skip
              refine W_no (skF hb56) rfl ?_
              refine W_no (skF hb56) rfl ?_
              refine W_v (.bool true) (x_pick (k := true) (congrArg Value.bool hb56) rfl) rfl ?_
              refine Wl_nil ?_
              exact ⟨⟨rfl, rfl, rfl, rfl, (by first | rfl | (rw [hb56]; rfl) | (simp only [hb56]; rfl)), trivial⟩, rfl⟩
          · rintro ρ _ ⟨hρ, rfl⟩
            rw [agree_eta hρ]
            clear hρ
            skip
            refine W_v (.bool ((((t51 != (IntKind.i64.wrap (0 - t42))) || (!((t42 == (0 : Int)) == (sbin .eql a0 a1)))) || (decide (t42 < (-1 : Int)))) || (decide (t42 > (1 : Int))))) (x_move rfl) rfl ?_
            obtain ⟨o65, o65h, o65H⟩ := bindS H
            clear H
            refine Wl_cutN 5 (fun ρ w' => ∃ (x64 : Bool), (x64) = o65 ∧ Agree ρ [(0, .string (bs a0)), (7, .int .i64 t42), (8, .int .i64 t45), (9, .int .i64 t48), (56, .bool x64)] ∧ Ext w w' ∧ St w' M36 F []) ?_ ?_
            · have H := o65h
              rcases iteS H with ⟨hb63, H⟩ | ⟨hb63, H⟩
              · skip
                refine W_no (skF hb63) rfl ?_
                refine W_no (skF hb63) rfl ?_
                refine W_no (skF hb63) rfl ?_
                refine W_no (skF hb63) rfl ?_
                refine W_v (.bool true) (x_pick (k := true) (congrArg Value.bool hb63) rfl) rfl ?_
                refine Wl_nil ?_
                exact ⟨true, Option.some.inj H, ⟨rfl, rfl, rfl, rfl, rfl, trivial⟩, E, S.pick [] (by decide)⟩
              · skip
                refine W_yes (congrArg some hb63) ?_
                refine W_v (.string (bs a0)) (x_move rfl) rfl ?_
                refine W_yes (congrArg some hb63) ?_
                refine W_v (.string (bs a0)) (x_move rfl) rfl ?_
                refine W_yes (congrArg some hb63) ?_
                obtain ⟨t66, ht67, H⟩ := bindS H
                refine W_callF fn13 (text_Compare.con k M36 a0 a0 t66  ht67) S rfl rfl (by rintro _ _ _ ⟨_, rfl⟩; exact flat_nil) ?_
                rintro _ w68 _ Γ' E' S ⟨rfl, rfl⟩
                replace E := E.trans E'
                clear E'
                refine W_yes (congrArg some hb63) ?_
                refine W_v (.bool (t66 != (0 : Int))) (x_ibin rfl rfl rfl rfl) rfl ?_
                refine W_v (.bool (t66 != (0 : Int))) (x_pick (k := false) (congrArg Value.bool hb63) rfl) rfl ?_
                refine Wl_nil ?_
                exact ⟨(t66 != (0 : Int)), Option.some.inj H, ⟨rfl, rfl, rfl, rfl, rfl, trivial⟩, E, S.pick [] (by decide)⟩
            · clear o65h
              rintro ρ w69 ⟨x64, rfl, hρ, E, S⟩
              rw [agree_eta hρ]
              clear hρ
              have H := o65H
              clear o65H
              refine Wl_nil ?_
              refine tn ?_
              rcases iteS H with ⟨hb70, H⟩ | ⟨hb70, H⟩
              · refine Wp_cond_true (congrArg Value.bool hb70) ?_
                refine Wp_seq ?_
                refine Wp_region_lit ?_
                refine W_v (.bool false) (x_assign rfl) rfl ?_
                refine Wl_nil ?_
                refine tn ?_
                refine Wp_ret ?_
                refine tr (?_)
                obtain rfl := Option.some.inj H
                exact ⟨_, _, _, fun w1 e1 => run_resR (vs := [.bool false]) (FA.cons (rfl) (FA.nil)), HM, E, S.pick [] (by decide), ⟨rfl, rfl⟩⟩
              · refine Wp_cond_false (congrArg Value.bool hb70) ?_
                refine Wp_skip ?_
                refine tn ?_
                refine Wp_seq ?_
                refine Wp_seq ?_
                refine Wp_region_lit ?_
                refine W_v (.int .i64 t42) (x_move rfl) rfl ?_
                refine W_v (.bool (decide (t42 ≤ (0 : Int)))) (x_ibin rfl rfl rfl rfl) rfl ?_
                refine W_v (.bool (decide (t42 ≤ (0 : Int)))) (x_move rfl) rfl ?_
                refine Wl_cutN 3 (fun ρ w' => Agree ρ [(0, .string (bs a0)), (7, .int .i64 t42), (8, .int .i64 t45), (9, .int .i64 t48), (62, .bool ((decide (t42 ≤ (0 : Int))) && (decide (t45 ≤ (0 : Int)))))] ∧ w69 = w') ?_ ?_
                · rcases boolCases (decide (t42 ≤ (0 : Int))) with hb71 | hb71
                  · skip
                    refine W_no (skT hb71) rfl ?_
                    refine W_no (skT hb71) rfl ?_
                    refine W_v (.bool false) (x_pick (k := false) (congrArg Value.bool hb71) rfl) rfl ?_
                    refine Wl_nil ?_
                    exact ⟨⟨rfl, rfl, rfl, rfl, (by first | rfl | (rw [hb71]; rfl) | (simp only [hb71]; rfl)), trivial⟩, rfl⟩
                  · skip
                    refine W_yes (congrArg some hb71) ?_
                    refine W_v (.int .i64 t45) (x_move rfl) rfl ?_
                    refine W_yes (congrArg some hb71) ?_
                    refine W_v (.bool (decide (t45 ≤ (0 : Int)))) (x_ibin rfl rfl rfl rfl) rfl ?_
                    refine W_v (.bool (decide (t45 ≤ (0 : Int)))) (x_pick (k := true) (congrArg Value.bool hb71) rfl) rfl ?_
                    refine Wl_nil ?_
                    exact ⟨⟨rfl, rfl, rfl, rfl, (by first | rfl | (rw [hb71]; rfl) | (simp only [hb71]; rfl)), trivial⟩, rfl⟩
                · rintro ρ _ ⟨hρ, rfl⟩
                  rw [agree_eta hρ]
                  clear hρ
                  skip
                  refine W_v (.bool ((decide (t42 ≤ (0 : Int))) && (decide (t45 ≤ (0 : Int))))) (x_move rfl) rfl ?_
                  refine Wl_cutN 14 (fun ρ w' => Agree ρ [(0, .string (bs a0)), (7, .int .i64 t42), (8, .int .i64 t45), (9, .int .i64 t48), (77, .bool (((decide (t42 ≤ (0 : Int))) && (decide (t45 ≤ (0 : Int)))) && ((decide (t48 > (0 : Int))) || (!((t48 == (0 : Int)) == ((t42 == (0 : Int)) && (t45 == (0 : Int))))))))] ∧ w69 = w') ?_ ?_
                  · rcases boolCases ((decide (t42 ≤ (0 : Int))) && (decide (t45 ≤ (0 : Int)))) with hb80 | hb80
                    · skip
                      refine W_no (skT hb80) rfl ?_
                      refine W_no (skT hb80) rfl ?_
                      refine W_no (skT hb80) rfl ?_
                      refine W_no (rfl) rfl ?_
                      refine W_no (rfl) rfl ?_
                      refine W_no (rfl) rfl ?_
                      refine W_no (rfl) rfl ?_
                      refine W_no (rfl) rfl ?_
                      refine W_no (rfl) rfl ?_
                      refine W_no (rfl) rfl ?_
                      refine W_no (rfl) rfl ?_
                      refine W_no (rfl) rfl ?_
                      refine W_no (skT hb80) rfl ?_
                      refine W_v (.bool false) (x_pick (k := false) (congrArg Value.bool hb80) rfl) rfl ?_
                      refine Wl_nil ?_
                      exact ⟨⟨rfl, rfl, rfl, rfl, (by first | rfl | (rw [hb80]; rfl) | (simp only [hb80]; rfl)), trivial⟩, rfl⟩
                    · skip
                      refine W_yes (congrArg some hb80) ?_
                      refine W_v (.int .i64 t48) (x_move rfl) rfl ?_
                      refine W_yes (congrArg some hb80) ?_
                      refine W_v (.bool (decide (t48 > (0 : Int)))) (x_ibin rfl rfl rfl rfl) rfl ?_
                      refine W_yes (congrArg some hb80) ?_
                      refine W_v (.bool (decide (t48 > (0 : Int)))) (x_move rfl) rfl ?_
                      refine Wl_cutN 10 (fun ρ w' => Agree ρ [(0, .string (bs a0)), (7, .int .i64 t42), (8, .int .i64 t45), (9, .int .i64 t48), (63, .bool ((decide (t42 ≤ (0 : Int))) && (decide (t45 ≤ (0 : Int))))), (76, .bool ((decide (t48 > (0 : Int))) || (!((t48 == (0 : Int)) == ((t42 == (0 : Int)) && (t45 == (0 : Int)))))))] ∧ w69 = w') ?_ ?_
                      · rcases boolCases (decide (t48 > (0 : Int))) with hb83 | hb83
                        · skip
                          refine W_yes (congrArg some hb83) ?_
                          refine W_v (.int .i64 t48) (x_move rfl) rfl ?_
                          refine W_yes (congrArg some hb83) ?_
                          refine W_v (.bool (t48 == (0 : Int))) (x_ibin rfl rfl rfl rfl) rfl ?_
                          refine W_yes (congrArg some hb83) ?_
                          refine W_v (.int .i64 t42) (x_move rfl) rfl ?_
                          refine W_yes (congrArg some hb83) ?_
                          refine W_v (.bool (t42 == (0 : Int))) (x_ibin rfl rfl rfl rfl) rfl ?_
                          refine W_yes (congrArg some hb83) ?_
                          refine W_v (.bool (t42 == (0 : Int))) (x_move rfl) rfl ?_
                          refine Wl_cutN 3 (fun ρ w' => Agree ρ [(0, .string (bs a0)), (7, .int .i64 t42), (8, .int .i64 t45), (9, .int .i64 t48), (63, .bool ((decide (t42 ≤ (0 : Int))) && (decide (t45 ≤ (0 : Int))))), (66, .bool (decide (t48 > (0 : Int)))), (68, .bool (t48 == (0 : Int))), (74, .bool ((t42 == (0 : Int)) && (t45 == (0 : Int))))] ∧ w69 = w') ?_ ?_
                          · rcases boolCases (t42 == (0 : Int)) with hb84 | hb84
                            · skip
                              refine W_no (skT hb84) rfl ?_
                              refine W_no (skT hb84) rfl ?_
                              refine W_yes (congrArg some hb83) ?_
                              refine W_v (.bool false) (x_pick (k := false) (congrArg Value.bool hb84) rfl) rfl ?_
                              refine Wl_nil ?_
                              exact ⟨⟨rfl, rfl, rfl, rfl, rfl, rfl, rfl, (by first | rfl | (rw [hb84]; rfl) | (simp only [hb84]; rfl)), trivial⟩, rfl⟩
                            · skip
                              refine W_yes (congrArg some hb84) ?_
                              refine W_v (.int .i64 t45) (x_move rfl) rfl ?_
                              refine W_yes (congrArg some hb84) ?_
                              refine W_v (.bool (t45 == (0 : Int))) (x_ibin rfl rfl rfl rfl) rfl ?_
                              refine W_yes (congrArg some hb83) ?_
                              refine W_v (.bool (t45 == (0 : Int))) (x_pick (k := true) (congrArg Value.bool hb84) rfl) rfl ?_
                              refine Wl_nil ?_
                              exact ⟨⟨rfl, rfl, rfl, rfl, rfl, rfl, rfl, (by first | rfl | (rw [hb84]; rfl) | (simp only [hb84]; rfl)), trivial⟩, rfl⟩
                          · rintro ρ _ ⟨hρ, rfl⟩
                            rw [agree_eta hρ]
                            clear hρ
                            skip
                            refine W_yes (congrArg some hb83) ?_
                            refine W_v (.bool (!((t48 == (0 : Int)) == ((t42 == (0 : Int)) && (t45 == (0 : Int)))))) (x_bne Try.underlying4 rfl rfl) rfl ?_
                            refine W_yes (congrArg some hb80) ?_
                            refine W_v (.bool (!((t48 == (0 : Int)) == ((t42 == (0 : Int)) && (t45 == (0 : Int)))))) (x_pick (k := false) (congrArg Value.bool hb83) rfl) rfl ?_
                            refine Wl_nil ?_
                            exact ⟨⟨rfl, rfl, rfl, rfl, rfl, (by first | rfl | (rw [hb83]; rfl) | (simp only [hb83]; rfl)), trivial⟩, rfl⟩
                        · skip
                          refine W_no (skF hb83) rfl ?_
                          refine W_no (skF hb83) rfl ?_
                          refine W_no (skF hb83) rfl ?_
                          refine W_no (skF hb83) rfl ?_
                          refine W_no (skF hb83) rfl ?_
                          refine W_no (rfl) rfl ?_
                          refine W_no (rfl) rfl ?_
                          refine W_no (skF hb83) rfl ?_
                          refine W_no (skF hb83) rfl ?_
                          refine W_yes (congrArg some hb80) ?_
                          refine W_v (.bool true) (x_pick (k := true) (congrArg Value.bool hb83) rfl) rfl ?_
                          refine Wl_nil ?_
                          exact ⟨⟨rfl, rfl, rfl, rfl, rfl, (by first | rfl | (rw [hb83]; rfl) | (simp only [hb83]; rfl)), trivial⟩, rfl⟩
                      · rintro ρ _ ⟨hρ, rfl⟩
                        rw [agree_eta hρ]
                        clear hρ
                        skip
                        refine W_v (.bool ((decide (t48 > (0 : Int))) || (!((t48 == (0 : Int)) == ((t42 == (0 : Int)) && (t45 == (0 : Int))))))) (x_pick (k := true) (congrArg Value.bool hb80) rfl) rfl ?_
                        refine Wl_nil ?_
                        exact ⟨⟨rfl, rfl, rfl, rfl, (by first | rfl | (rw [hb80]; rfl) | (simp only [hb80]; rfl)), trivial⟩, rfl⟩
                  · rintro ρ _ ⟨hρ, rfl⟩
                    rw [agree_eta hρ]
                    clear hρ
                    skip
                    refine W_v (.bool (((decide (t42 ≤ (0 : Int))) && (decide (t45 ≤ (0 : Int)))) && ((decide (t48 > (0 : Int))) || (!((t48 == (0 : Int)) == ((t42 == (0 : Int)) && (t45 == (0 : Int)))))))) (x_move rfl) rfl ?_
                    refine Wl_cutN 22 (fun ρ w' => Agree ρ [(0, .string (bs a0)), (100, .bool ((((decide (t42 ≤ (0 : Int))) && (decide (t45 ≤ (0 : Int)))) && ((decide (t48 > (0 : Int))) || (!((t48 == (0 : Int)) == ((t42 == (0 : Int)) && (t45 == (0 : Int))))))) || (((decide (t42 ≥ (0 : Int))) && (decide (t45 ≥ (0 : Int)))) && ((decide (t48 < (0 : Int))) || (!((t48 == (0 : Int)) == ((t42 == (0 : Int)) && (t45 == (0 : Int)))))))))] ∧ w69 = w') ?_ ?_
                    · rcases boolCases (((decide (t42 ≤ (0 : Int))) && (decide (t45 ≤ (0 : Int)))) && ((decide (t48 > (0 : Int))) || (!((t48 == (0 : Int)) == ((t42 == (0 : Int)) && (t45 == (0 : Int))))))) with hb113 | hb113
                      · skip
                        refine W_yes (congrArg some hb113) ?_
                        refine W_v (.int .i64 t42) (x_move rfl) rfl ?_
                        refine W_yes (congrArg some hb113) ?_
                        refine W_v (.bool (decide (t42 ≥ (0 : Int)))) (x_ibin rfl rfl rfl rfl) rfl ?_
                        refine W_yes (congrArg some hb113) ?_
                        refine W_v (.bool (decide (t42 ≥ (0 : Int)))) (x_move rfl) rfl ?_
                        refine Wl_cutN 3 (fun ρ w' => Agree ρ [(0, .string (bs a0)), (7, .int .i64 t42), (8, .int .i64 t45), (9, .int .i64 t48), (78, .bool (((decide (t42 ≤ (0 : Int))) && (decide (t45 ≤ (0 : Int)))) && ((decide (t48 > (0 : Int))) || (!((t48 == (0 : Int)) == ((t42 == (0 : Int)) && (t45 == (0 : Int)))))))), (84, .bool ((decide (t42 ≥ (0 : Int))) && (decide (t45 ≥ (0 : Int)))))] ∧ w69 = w') ?_ ?_
                        · rcases boolCases (decide (t42 ≥ (0 : Int))) with hb114 | hb114
                          · skip
                            refine W_no (skT hb114) rfl ?_
                            refine W_no (skT hb114) rfl ?_
                            refine W_yes (congrArg some hb113) ?_
                            refine W_v (.bool false) (x_pick (k := false) (congrArg Value.bool hb114) rfl) rfl ?_
                            refine Wl_nil ?_
                            exact ⟨⟨rfl, rfl, rfl, rfl, rfl, (by first | rfl | (rw [hb114]; rfl) | (simp only [hb114]; rfl)), trivial⟩, rfl⟩
                          · skip
                            refine W_yes (congrArg some hb114) ?_
                            refine W_v (.int .i64 t45) (x_move rfl) rfl ?_
                            refine W_yes (congrArg some hb114) ?_
                            refine W_v (.bool (decide (t45 ≥ (0 : Int)))) (x_ibin rfl rfl rfl rfl) rfl ?_
                            refine W_yes (congrArg some hb113) ?_
                            refine W_v (.bool (decide (t45 ≥ (0 : Int)))) (x_pick (k := true) (congrArg Value.bool hb114) rfl) rfl ?_
                            refine Wl_nil ?_
                            exact ⟨⟨rfl, rfl, rfl, rfl, rfl, (by first | rfl | (rw [hb114]; rfl) | (simp only [hb114]; rfl)), trivial⟩, rfl⟩
                        · rintro ρ _ ⟨hρ, rfl⟩
                          rw [agree_eta hρ]
                          clear hρ
                          skip
                          refine W_yes (congrArg some hb113) ?_
                          refine W_v (.bool ((decide (t42 ≥ (0 : Int))) && (decide (t45 ≥ (0 : Int))))) (x_move rfl) rfl ?_
                          refine Wl_cutN 14 (fun ρ w' => Agree ρ [(0, .string (bs a0)), (78, .bool (((decide (t42 ≤ (0 : Int))) && (decide (t45 ≤ (0 : Int)))) && ((decide (t48 > (0 : Int))) || (!((t48 == (0 : Int)) == ((t42 == (0 : Int)) && (t45 == (0 : Int)))))))), (99, .bool (((decide (t42 ≥ (0 : Int))) && (decide (t45 ≥ (0 : Int)))) && ((decide (t48 < (0 : Int))) || (!((t48 == (0 : Int)) == ((t42 == (0 : Int)) && (t45 == (0 : Int))))))))] ∧ w69 = w') ?_ ?_
                          · rcases boolCases ((decide (t42 ≥ (0 : Int))) && (decide (t45 ≥ (0 : Int)))) with hb123 | hb123
                            · skip
                              refine W_no (skT hb123) rfl ?_
                              refine W_no (skT hb123) rfl ?_
                              refine W_no (skT hb123) rfl ?_
                              refine W_no (rfl) rfl ?_
                              refine W_no (rfl) rfl ?_
                              refine W_no (rfl) rfl ?_
                              refine W_no (rfl) rfl ?_
                              refine W_no (rfl) rfl ?_
                              refine W_no (rfl) rfl ?_
                              refine W_no (rfl) rfl ?_
                              refine W_no (rfl) rfl ?_
                              refine W_no (rfl) rfl ?_
                              refine W_no (skT hb123) rfl ?_
                              refine W_yes (congrArg some hb113) ?_
                              refine W_v (.bool false) (x_pick (k := false) (congrArg Value.bool hb123) rfl) rfl ?_
                              refine Wl_nil ?_
                              exact ⟨⟨rfl, rfl, (by first | rfl | (rw [hb123]; rfl) | (simp only [hb123]; rfl)), trivial⟩, rfl⟩
                            · skip
                              refine W_yes (congrArg some hb123) ?_
                              refine W_v (.int .i64 t48) (x_move rfl) rfl ?_
                              refine W_yes (congrArg some hb123) ?_
                              refine W_v (.bool (decide (t48 < (0 : Int)))) (x_ibin rfl rfl rfl rfl) rfl ?_
                              refine W_yes (congrArg some hb123) ?_
                              refine W_v (.bool (decide (t48 < (0 : Int)))) (x_move rfl) rfl ?_
                              refine Wl_cutN 10 (fun ρ w' => Agree ρ [(0, .string (bs a0)), (78, .bool (((decide (t42 ≤ (0 : Int))) && (decide (t45 ≤ (0 : Int)))) && ((decide (t48 > (0 : Int))) || (!((t48 == (0 : Int)) == ((t42 == (0 : Int)) && (t45 == (0 : Int)))))))), (85, .bool ((decide (t42 ≥ (0 : Int))) && (decide (t45 ≥ (0 : Int))))), (98, .bool ((decide (t48 < (0 : Int))) || (!((t48 == (0 : Int)) == ((t42 == (0 : Int)) && (t45 == (0 : Int)))))))] ∧ w69 = w') ?_ ?_
                              · rcases boolCases (decide (t48 < (0 : Int))) with hb126 | hb126
                                · skip
                                  refine W_yes (congrArg some hb126) ?_
                                  refine W_v (.int .i64 t48) (x_move rfl) rfl ?_
                                  refine W_yes (congrArg some hb126) ?_
                                  refine W_v (.bool (t48 == (0 : Int))) (x_ibin rfl rfl rfl rfl) rfl ?_
                                  refine W_yes (congrArg some hb126) ?_
                                  refine W_v (.int .i64 t42) (x_move rfl) rfl ?_
                                  refine W_yes (congrArg some hb126) ?_
                                  refine W_v (.bool (t42 == (0 : Int))) (x_ibin rfl rfl rfl rfl) rfl ?_
                                  refine W_yes (congrArg some hb126) ?_
                                  refine W_v (.bool (t42 == (0 : Int))) (x_move rfl) rfl ?_
                                  refine Wl_cutN 3 (fun ρ w' => Agree ρ [(0, .string (bs a0)), (78, .bool (((decide (t42 ≤ (0 : Int))) && (decide (t45 ≤ (0 : Int)))) && ((decide (t48 > (0 : Int))) || (!((t48 == (0 : Int)) == ((t42 == (0 : Int)) && (t45 == (0 : Int)))))))), (85, .bool ((decide (t42 ≥ (0 : Int))) && (decide (t45 ≥ (0 : Int))))), (88, .bool (decide (t48 < (0 : Int)))), (90, .bool (t48 == (0 : Int))), (96, .bool ((t42 == (0 : Int)) && (t45 == (0 : Int))))] ∧ w69 = w') ?_ ?_
                                  · rcases boolCases (t42 == (0 : Int)) with hb127 | hb127
                                    · skip
                                      refine W_no (skT hb127) rfl ?_
                                      refine W_no (skT hb127) rfl ?_
                                      refine W_yes (congrArg some hb126) ?_
                                      refine W_v (.bool false) (x_pick (k := false) (congrArg Value.bool hb127) rfl) rfl ?_
                                      refine Wl_nil ?_
                                      exact ⟨⟨rfl, rfl, rfl, rfl, rfl, (by first | rfl | (rw [hb127]; rfl) | (simp only [hb127]; rfl)), trivial⟩, rfl⟩
                                    · skip
                                      refine W_yes (congrArg some hb127) ?_
                                      refine W_v (.int .i64 t45) (x_move rfl) rfl ?_
                                      refine W_yes (congrArg some hb127) ?_
                                      refine W_v (.bool (t45 == (0 : Int))) (x_ibin rfl rfl rfl rfl) rfl ?_
                                      refine W_yes (congrArg some hb126) ?_
                                      refine W_v (.bool (t45 == (0 : Int))) (x_pick (k := true) (congrArg Value.bool hb127) rfl) rfl ?_
                                      refine Wl_nil ?_
                                      exact ⟨⟨rfl, rfl, rfl, rfl, rfl, (by first | rfl | (rw [hb127]; rfl) | (simp only [hb127]; rfl)), trivial⟩, rfl⟩
                                  · rintro ρ _ ⟨hρ, rfl⟩
                                    rw [agree_eta hρ]
                                    clear hρ
                                    skip
                                    refine W_yes (congrArg some hb126) ?_
                                    refine W_v (.bool (!((t48 == (0 : Int)) == ((t42 == (0 : Int)) && (t45 == (0 : Int)))))) (x_bne Try.underlying4 rfl rfl) rfl ?_
                                    refine W_yes (congrArg some hb123) ?_
                                    refine W_v (.bool (!((t48 == (0 : Int)) == ((t42 == (0 : Int)) && (t45 == (0 : Int)))))) (x_pick (k := false) (congrArg Value.bool hb126) rfl) rfl ?_
                                    refine Wl_nil ?_
                                    exact ⟨⟨rfl, rfl, rfl, (by first | rfl | (rw [hb126]; rfl) | (simp only [hb126]; rfl)), trivial⟩, rfl⟩
                                · skip
                                  refine W_no (skF hb126) rfl ?_
                                  refine W_no (skF hb126) rfl ?_
                                  refine W_no (skF hb126) rfl ?_
                                  refine W_no (skF hb126) rfl ?_
                                  refine W_no (skF hb126) rfl ?_
                                  refine W_no (rfl) rfl ?_
                                  refine W_no (rfl) rfl ?_
                                  refine W_no (skF hb126) rfl ?_
                                  refine W_no (skF hb126) rfl ?_
                                  refine W_yes (congrArg some hb123) ?_
                                  refine W_v (.bool true) (x_pick (k := true) (congrArg Value.bool hb126) rfl) rfl ?_
                                  refine Wl_nil ?_
                                  exact ⟨⟨rfl, rfl, rfl, (by first | rfl | (rw [hb126]; rfl) | (simp only [hb126]; rfl)), trivial⟩, rfl⟩
                              · rintro ρ _ ⟨hρ, rfl⟩
                                rw [agree_eta hρ]
                                clear hρ
                                skip
                                refine W_yes (congrArg some hb113) ?_
                                refine W_v (.bool ((decide (t48 < (0 : Int))) || (!((t48 == (0 : Int)) == ((t42 == (0 : Int)) && (t45 == (0 : Int))))))) (x_pick (k := true) (congrArg Value.bool hb123) rfl) rfl ?_
                                refine Wl_nil ?_
                                exact ⟨⟨rfl, rfl, (by first | rfl | (rw [hb123]; rfl) | (simp only [hb123]; rfl)), trivial⟩, rfl⟩
                          · rintro ρ _ ⟨hρ, rfl⟩
                            rw [agree_eta hρ]
                            clear hρ
                            skip
                            refine W_v (.bool (((decide (t42 ≥ (0 : Int))) && (decide (t45 ≥ (0 : Int)))) && ((decide (t48 < (0 : Int))) || (!((t48 == (0 : Int)) == ((t42 == (0 : Int)) && (t45 == (0 : Int)))))))) (x_pick (k := false) (congrArg Value.bool hb113) rfl) rfl ?_
                            refine Wl_nil ?_
                            exact ⟨⟨rfl, (by first | rfl | (rw [hb113]; rfl) | (simp only [hb113]; rfl)), trivial⟩, rfl⟩
                      · skip
                        refine W_no (skF hb113) rfl ?_
                        refine W_no (skF hb113) rfl ?_
                        refine W_no (skF hb113) rfl ?_
                        refine W_no (rfl) rfl ?_
                        refine W_no (rfl) rfl ?_
                        refine W_no (skF hb113) rfl ?_
                        refine W_no (skF hb113) rfl ?_
                        refine W_no (rfl) rfl ?_
                        refine W_no (rfl) rfl ?_
                        refine W_no (rfl) rfl ?_
                        refine W_no (rfl) rfl ?_
                        refine W_no (rfl) rfl ?_
                        refine W_no (rfl) rfl ?_
                        refine W_no (rfl) rfl ?_
                        refine W_no (rfl) rfl ?_
                        refine W_no (rfl) rfl ?_
                        refine W_no (rfl) rfl ?_
                        refine W_no (rfl) rfl ?_
                        refine W_no (rfl) rfl ?_
                        refine W_no (rfl) rfl ?_
                        refine W_no (skF hb113) rfl ?_
                        refine W_v (.bool true) (x_pick (k := true) (congrArg Value.bool hb113) rfl) rfl ?_
                        refine Wl_nil ?_
                        exact ⟨⟨rfl, (by first | rfl | (rw [hb113]; rfl) | (simp only [hb113]; rfl)), trivial⟩, rfl⟩
                    · rintro ρ _ ⟨hρ, rfl⟩
                      rw [agree_eta hρ]
                      clear hρ
                      skip
                      refine Wl_nil ?_
                      refine tn ?_
                      rcases iteS H with ⟨hb128, H⟩ | ⟨hb128, H⟩
                      · refine Wp_cond_true (congrArg Value.bool hb128) ?_
                        refine Wp_seq ?_
                        refine Wp_region_lit ?_
                        refine W_v (.bool false) (x_assign rfl) rfl ?_
                        refine Wl_nil ?_
                        refine tn ?_
                        refine Wp_ret ?_
                        refine tr (?_)
                        obtain rfl := Option.some.inj H
                        exact ⟨_, _, _, fun w1 e1 => run_resR (vs := [.bool false]) (FA.cons (rfl) (FA.nil)), HM, E, S.pick [] (by decide), ⟨rfl, rfl⟩⟩
                      · refine Wp_cond_false (congrArg Value.bool hb128) ?_
                        refine Wp_skip ?_
                        refine tn ?_
                        refine Wp_seq ?_
                        refine Wp_region_lit ?_
                        refine W_v (.string (bs a0)) (x_move rfl) rfl ?_
                        obtain ⟨t129, ht130, H⟩ := bindS H
                        refine W_callF fn13 (text_Compare.con k M36 ([] : Str) a0 t129  ht130) S rfl rfl (by rintro _ _ _ ⟨_, rfl⟩; exact flat_nil) ?_
                        rintro _ w131 _ Γ' E' S ⟨rfl, rfl⟩
                        replace E := E.trans E'
                        clear E'
                        refine W_v (.bool (t129 == (-1 : Int))) (x_ibin rfl rfl rfl rfl) rfl ?_
                        refine W_v (.string (bs a0)) (x_move rfl) rfl ?_
                        refine W_v (.bool (sbin .neq a0 ([] : Str))) (x_sbin rfl rfl rfl) rfl ?_
                        refine W_v (.bool ((t129 == (-1 : Int)) == (sbin .neq a0 ([] : Str)))) (x_beq Try.underlying4 rfl rfl) rfl ?_
                        refine W_v (.bool ((t129 == (-1 : Int)) == (sbin .neq a0 ([] : Str)))) (x_assign rfl) rfl ?_
                        refine Wl_nil ?_
                        refine tn ?_
                        refine Wp_ret ?_
                        obtain rfl := Option.some.inj H
                        exact ⟨_, _, _, fun w1 e1 => run_resR (vs := [.bool ((t129 == (-1 : Int)) == (sbin .neq a0 ([] : Str)))]) (FA.cons (rfl) (FA.nil)), HM, E, S.pick [] (by decide), ⟨rfl, rfl⟩⟩
end Go.Proofs.Ytnfeinhialojnaa
