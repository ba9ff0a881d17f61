import Derived.Test.YtnfeinhialojnaaGt1
namespace Go.Proofs.Ytnfeinhialojnaa
open Go
set_option linter.unusedVariables false
set_option linter.unusedSimpArgs false
/-! ### ferryman/ferrymanlaw02.TextParts: function 8 -/
def ferrymanlaw02_TextParts (k : Nat) (a0 : Str) (a1 : Str) (a2 : Str) (a3 : Str) : Option (Bool) :=
  (Option.bind (ferrymanlaw02_works k ) (fun t1 => (Option.bind (α := Bool) (if (!t1) = true then some (true) else (Option.bind (ferrymanlaw02_long k ([a0, a1] : List Str)) (fun t32 => some (t32)))) (fun x23 => (Option.bind (α := Bool) (if x23 = true then some (true) else (Option.bind (ferrymanlaw02_long k ([a2, a3] : List Str)) (fun t66 => some (t66)))) (fun x57 => (Option.bind (α := Bool) (if (x57 || (sbin .eql a2 ([] : Str))) = true then some (true) else (Option.bind (text_Compare k a1 a2) (fun t82 => some ((decide (t82 > (0 : Int))))))) (fun x80 => (Option.bind (α := Bool) (if x80 = true then some (true) else (Option.bind (α := Bool) (if (sbin .neq a3 ([] : Str)) = true then (Option.bind (text_Compare k a2 a3) (fun t124 => some ((decide (t124 > (0 : Int)))))) else some (false)) (fun x122 => some (x122)))) (fun x113 => (if x113 = true then (Option.bind (ferrymanlaw02_works k ) (fun t130 => some t130)) else (Option.bind (text_Within k a0 a1 a2) (fun t133 => (Option.bind (text_Within k a0 a2 a3) (fun t136 => (Option.bind (α := Bool) (if (!(t133 && t136)) = true then (Option.bind (text_Within k a0 a1 a3) (fun t151 => some ((t151 == (t133 || t136))))) else some (false)) (fun x149 => (Option.bind (α := Bool) (if x149 = true then (Option.bind (text_Within k a0 a1 a3) (fun t269 => (Option.bind (α := Bool) (if (!t269) = true then some (true) else (Option.bind (text_Within k a0 a1 ([] : Str)) (fun t307 => (Option.bind (α := Bool) (if t307 = true then (Option.bind (text_Within k a0 ([] : Str) a3) (fun t319 => some (t319))) else some (false)) (fun x317 => some (x317)))))) (fun x305 => some (x305))))) else some (false)) (fun x267 => some x267)))))))))))))))))))
set_option maxHeartbeats 2000000 in
theorem ferrymanlaw02_TextParts.mono {k : Nat} {a0 : Str} {a1 : Str} {a2 : Str} {a3 : Str} : OLe (ferrymanlaw02_TextParts k a0 a1 a2 a3) (ferrymanlaw02_TextParts (k + 1) a0 a1 a2 a3) := by
  unfold ferrymanlaw02_TextParts
  repeat' (first | with_reducible exact OLe.none | with_reducible exact OLe.some | with_reducible refine OLe.ite ?_ ?_ | with_reducible refine OLe.bind ?_ (fun _ => ?_) | with_reducible exact ferrymanlaw02_long.mono | with_reducible exact ferrymanlaw02_works.mono | with_reducible exact text_Compare.mono | with_reducible exact text_Within.mono | refine OLe.bind ?_ (fun _ => ?_) | refine OLe.ite ?_ ?_ | refine OLe.elim (fun _ => ?_) (fun _ => ?_) | split)
set_option maxHeartbeats 1000000 in
set_option maxRecDepth 100000 in
theorem ferrymanlaw02_TextParts.con (k : Nat) (M : Hp) (a0 : Str) (a1 : Str) (a2 : Str) (a3 : Str) (r : Bool)  (h : ferrymanlaw02_TextParts k a0 a1 a2 a3 = some r) : Con Try.prog 8 #[.string (bs a0), .string (bs a1), .string (bs a2), .string (bs a3)] M [] (fun v M' Γ' => v = .bool r ∧ Γ' = []) := by
  refine con_of_wp Try.func8 rfl Try.ntmps8 Try.results8 rfl ?_
  intro w F rn S hrn
  have E := Ext.refl w
  have HM := Hp.le_refl M
  have H := h
  unfold ferrymanlaw02_TextParts at H
  refine Wp_seq ?_
  refine Wp_region_lit ?_
  refine W_v (.bool false) (x_assign rfl) rfl ?_
  refine Wl_nil ?_
  refine tn ?_
  refine Wp_seq ?_
  refine Wp_seq ?_
  refine Wp_region_lit ?_
  obtain ⟨t1, ht2, H⟩ := bindS H
  refine W_callF fn12 (ferrymanlaw02_works.con k M  t1  ht2) S rfl rfl (by rintro _ _ _ ⟨_, rfl⟩; exact flat_nil) ?_
  rintro _ w3 _ Γ' E' S ⟨rfl, rfl⟩
  replace E := E.trans E'
  clear E'
  refine W_v (.bool (!t1)) (x_not rfl) rfl ?_
  refine W_v (.bool (!t1)) (x_move rfl) rfl ?_
  obtain ⟨o24, o24h, o24H⟩ := bindS H
  clear H
  refine Wl_cutN 5 (fun ρ w' => ∃ (x23 : Bool) (Mj : Hp), (x23) = o24 ∧ Agree ρ [(0, .string (bs a0)), (1, .string (bs a1)), (2, .string (bs a2)), (3, .string (bs a3)), (18, .bool x23)] ∧ M.le Mj ∧ Ext w w' ∧ St w' Mj F []) ?_ ?_
  · have H := o24h
    have LE25 := Hp.le_refl M
    rcases iteS H with ⟨hb22, H⟩ | ⟨hb22, H⟩
    · skip
      refine W_no (skF hb22) rfl ?_
      refine W_no (skF hb22) rfl ?_
      refine W_no (skF hb22) rfl ?_
      refine W_no (skF hb22) rfl ?_
      refine W_v (.bool true) (x_pick (k := true) (congrArg Value.bool hb22) rfl) rfl ?_
      refine Wl_nil ?_
      exact ⟨true, M, Option.some.inj H, ⟨rfl, rfl, rfl, rfl, rfl, trivial⟩, (Hp.le_refl M), E, S.pick [] (by decide)⟩
    · skip
      refine W_yes (congrArg some hb22) ?_
      refine W_v (.string (bs a0)) (x_move rfl) rfl ?_
      refine W_yes (congrArg some hb22) ?_
      refine W_v (.string (bs a1)) (x_move rfl) rfl ?_
      refine W_yes (congrArg some hb22) ?_
      refine W_bslice S #[.string (bs a0), .string (bs a1)] Try.underlying40 ty9 rfl rfl #[.string (bs ([] : Str)), .string (bs ([] : Str))] (by kernel_rfl) (by kernel_rfl) rfl ?_
      intro b26 w27 E' S
      replace E := E.trans E'
      clear E'
      replace S := S.blk_row (r := rStr) (l := ([a0, a1] : List Str)) 0 rfl 2 (Nat.le_refl 2) rfl (Cells.cons (vs := [.string (bs a0)]) (rfl) (Cells.cons (vs := [.string (bs a1)]) (rfl) Cells.nil))
      refine W_yes (congrArg some hb22) ?_
      obtain ⟨M29, hM30, hf31, S⟩ := S.row_freeze 0 rfl
      replace HM := Hp.le_trans HM hM30
      replace LE25 := Hp.le_trans LE25 hM30
      obtain ⟨t32, ht33, H⟩ := bindS H
      refine W_callF fn11 (ferrymanlaw02_long.con k M29 (some ⟨b26, 0, none⟩) 2 ([a0, a1] : List Str) t32 hf31 ht33) S rfl rfl (by rintro _ _ _ ⟨_, rfl⟩; exact flat_nil) ?_
      rintro _ w34 _ Γ' E' S ⟨rfl, rfl⟩
      replace E := E.trans E'
      clear E'
      refine W_v (.bool t32) (x_pick (k := false) (congrArg Value.bool hb22) rfl) rfl ?_
      refine Wl_nil ?_
      exact ⟨t32, M29, Option.some.inj H, ⟨rfl, rfl, rfl, rfl, rfl, trivial⟩, LE25, E, S.pick [] (by decide)⟩
  · clear o24h
    rintro ρ w35 ⟨x23, M36, rfl, hρ, hM37, E, S⟩
    rw [agree_eta hρ]
    clear hρ
    replace HM := Hp.le_trans HM hM37
    have H := o24H
    clear o24H
    refine W_v (.bool x23) (x_move rfl) rfl ?_
    obtain ⟨o58, o58h, o58H⟩ := bindS H
    clear H
    refine Wl_cutN 5 (fun ρ w' => ∃ (x57 : Bool) (Mj : Hp), (x57) = o58 ∧ Agree ρ [(0, .string (bs a0)), (1, .string (bs a1)), (2, .string (bs a2)), (3, .string (bs a3)), (24, .bool x57)] ∧ M36.le Mj ∧ Ext w w' ∧ St w' Mj F []) ?_ ?_
    · have H := o58h
      have LE59 := Hp.le_refl M36
      rcases iteS H with ⟨hb56, H⟩ | ⟨hb56, H⟩
      · skip
        refine W_no (skF hb56) rfl ?_
        refine W_no (skF hb56) rfl ?_
        refine W_no (skF hb56) rfl ?_
        refine W_no (skF hb56) rfl ?_
        refine W_v (.bool true) (x_pick (k := true) (congrArg Value.bool hb56) rfl) rfl ?_
        refine Wl_nil ?_
        exact ⟨true, M36, Option.some.inj H, ⟨rfl, rfl, rfl, rfl, rfl, trivial⟩, (Hp.le_refl M36), E, S.pick [] (by decide)⟩
      · skip
        refine W_yes (congrArg some hb56) ?_
        refine W_v (.string (bs a2)) (x_move rfl) rfl ?_
        refine W_yes (congrArg some hb56) ?_
        refine W_v (.string (bs a3)) (x_move rfl) rfl ?_
        refine W_yes (congrArg some hb56) ?_
        refine W_bslice S #[.string (bs a2), .string (bs a3)] Try.underlying40 ty9 rfl rfl #[.string (bs ([] : Str)), .string (bs ([] : Str))] (by kernel_rfl) (by kernel_rfl) rfl ?_
        intro b60 w61 E' S
        replace E := E.trans E'
        clear E'
        replace S := S.blk_row (r := rStr) (l := ([a2, a3] : List Str)) 0 rfl 2 (Nat.le_refl 2) rfl (Cells.cons (vs := [.string (bs a2)]) (rfl) (Cells.cons (vs := [.string (bs a3)]) (rfl) Cells.nil))
        refine W_yes (congrArg some hb56) ?_
        obtain ⟨M63, hM64, hf65, S⟩ := S.row_freeze 0 rfl
        replace HM := Hp.le_trans HM hM64
        replace hM37 := Hp.le_trans hM37 hM64
        replace LE59 := Hp.le_trans LE59 hM64
        obtain ⟨t66, ht67, H⟩ := bindS H
        refine W_callF fn11 (ferrymanlaw02_long.con k M63 (some ⟨b60, 0, none⟩) 2 ([a2, a3] : List Str) t66 hf65 ht67) S rfl rfl (by rintro _ _ _ ⟨_, rfl⟩; exact flat_nil) ?_
        rintro _ w68 _ Γ' E' S ⟨rfl, rfl⟩
        replace E := E.trans E'
        clear E'
        refine W_v (.bool t66) (x_pick (k := false) (congrArg Value.bool hb56) rfl) rfl ?_
        refine Wl_nil ?_
        exact ⟨t66, M63, Option.some.inj H, ⟨rfl, rfl, rfl, rfl, rfl, trivial⟩, LE59, E, S.pick [] (by decide)⟩
    · clear o58h
      rintro ρ w69 ⟨x57, M70, rfl, hρ, hM71, E, S⟩
      rw [agree_eta hρ]
      clear hρ
      replace HM := Hp.le_trans HM hM71
      replace hM37 := Hp.le_trans hM37 hM71
      have H := o58H
      clear o58H
      refine W_v (.bool x57) (x_move rfl) rfl ?_
      refine Wl_cutN 3 (fun ρ w' => Agree ρ [(0, .string (bs a0)), (1, .string (bs a1)), (2, .string (bs a2)), (3, .string (bs a3)), (28, .bool (x57 || (sbin .eql a2 ([] : Str))))] ∧ w69 = w') ?_ ?_
      · rcases boolCases x57 with hb72 | hb72
        · skip
          refine W_yes (congrArg some hb72) ?_
          refine W_v (.string (bs a2)) (x_move rfl) rfl ?_
          refine W_yes (congrArg some hb72) ?_
          refine W_v (.bool (sbin .eql a2 ([] : Str))) (x_sbin rfl rfl rfl) rfl ?_
          refine W_v (.bool (sbin .eql a2 ([] : Str))) (x_pick (k := false) (congrArg Value.bool hb72) rfl) rfl ?_
          refine Wl_nil ?_
          exact ⟨⟨rfl, rfl, rfl, rfl, (by first | rfl | (rw [hb72]; rfl) | (simp only [hb72]; rfl)), trivial⟩, rfl⟩
        · skip
          refine W_no (skF hb72) rfl ?_
          refine W_no (skF hb72) rfl ?_
          refine W_v (.bool true) (x_pick (k := true) (congrArg Value.bool hb72) rfl) rfl ?_
          refine Wl_nil ?_
          exact ⟨⟨rfl, rfl, rfl, rfl, (by first | rfl | (rw [hb72]; rfl) | (simp only [hb72]; rfl)), trivial⟩, rfl⟩
      · rintro ρ _ ⟨hρ, rfl⟩
        rw [agree_eta hρ]
        clear hρ
        skip
        refine W_v (.bool (x57 || (sbin .eql a2 ([] : Str)))) (x_move rfl) rfl ?_
        obtain ⟨o81, o81h, o81H⟩ := bindS H
        clear H
        refine Wl_cutN 5 (fun ρ w' => ∃ (x80 : Bool), (x80) = o81 ∧ Agree ρ [(0, .string (bs a0)), (1, .string (bs a1)), (2, .string (bs a2)), (3, .string (bs a3)), (34, .bool x80)] ∧ Ext w w' ∧ St w' M70 F []) ?_ ?_
        · have H := o81h
          rcases iteS H with ⟨hb79, H⟩ | ⟨hb79, H⟩
          · skip
            refine W_no (skF hb79) rfl ?_
            refine W_no (skF hb79) rfl ?_
            refine W_no (skF hb79) rfl ?_
            refine W_no (skF hb79) rfl ?_
            refine W_v (.bool true) (x_pick (k := true) (congrArg Value.bool hb79) rfl) rfl ?_
            refine Wl_nil ?_
            exact ⟨true, Option.some.inj H, ⟨rfl, rfl, rfl, rfl, rfl, trivial⟩, E, S.pick [] (by decide)⟩
          · skip
            refine W_yes (congrArg some hb79) ?_
            refine W_v (.string (bs a1)) (x_move rfl) rfl ?_
            refine W_yes (congrArg some hb79) ?_
            refine W_v (.string (bs a2)) (x_move rfl) rfl ?_
            refine W_yes (congrArg some hb79) ?_
            obtain ⟨t82, ht83, H⟩ := bindS H
            refine W_callF fn13 (text_Compare.con k M70 a1 a2 t82  ht83) S rfl rfl (by rintro _ _ _ ⟨_, rfl⟩; exact flat_nil) ?_
            rintro _ w84 _ Γ' E' S ⟨rfl, rfl⟩
            replace E := E.trans E'
            clear E'
            refine W_yes (congrArg some hb79) ?_
            refine W_v (.bool (decide (t82 > (0 : Int)))) (x_ibin rfl rfl rfl rfl) rfl ?_
            refine W_v (.bool (decide (t82 > (0 : Int)))) (x_pick (k := false) (congrArg Value.bool hb79) rfl) rfl ?_
            refine Wl_nil ?_
            exact ⟨(decide (t82 > (0 : Int))), Option.some.inj H, ⟨rfl, rfl, rfl, rfl, rfl, trivial⟩, E, S.pick [] (by decide)⟩
        · clear o81h
          rintro ρ w85 ⟨x80, rfl, hρ, E, S⟩
          rw [agree_eta hρ]
          clear hρ
          have H := o81H
          clear o81H
          refine W_v (.bool x80) (x_move rfl) rfl ?_
          obtain ⟨o114, o114h, o114H⟩ := bindS H
          clear H
          refine Wl_cutN 9 (fun ρ w' => ∃ (x113 : Bool), (x113) = o114 ∧ Agree ρ [(0, .string (bs a0)), (1, .string (bs a1)), (2, .string (bs a2)), (3, .string (bs a3)), (44, .bool x113)] ∧ Ext w w' ∧ St w' M70 F []) ?_ ?_
          · have H := o114h
            rcases iteS H with ⟨hb112, H⟩ | ⟨hb112, H⟩
            · skip
              refine W_no (skF hb112) rfl ?_
              refine W_no (skF hb112) rfl ?_
              refine W_no (skF hb112) rfl ?_
              refine W_no (rfl) rfl ?_
              refine W_no (rfl) rfl ?_
              refine W_no (rfl) rfl ?_
              refine W_no (rfl) rfl ?_
              refine W_no (skF hb112) rfl ?_
              refine W_v (.bool true) (x_pick (k := true) (congrArg Value.bool hb112) rfl) rfl ?_
              refine Wl_nil ?_
              exact ⟨true, Option.some.inj H, ⟨rfl, rfl, rfl, rfl, rfl, trivial⟩, E, S.pick [] (by decide)⟩
            · skip
              refine W_yes (congrArg some hb112) ?_
              refine W_v (.string (bs a3)) (x_move rfl) rfl ?_
              refine W_yes (congrArg some hb112) ?_
              refine W_v (.bool (sbin .neq a3 ([] : Str))) (x_sbin rfl rfl rfl) rfl ?_
              refine W_yes (congrArg some hb112) ?_
              refine W_v (.bool (sbin .neq a3 ([] : Str))) (x_move rfl) rfl ?_
              obtain ⟨o123, o123h, o123H⟩ := bindS H
              clear H
              refine Wl_cutN 5 (fun ρ w' => ∃ (x122 : Bool), (x122) = o123 ∧ Agree ρ [(0, .string (bs a0)), (1, .string (bs a1)), (2, .string (bs a2)), (3, .string (bs a3)), (35, .bool x80), (43, .bool x122)] ∧ Ext w w' ∧ St w' M70 F []) ?_ ?_
              · have H := o123h
                rcases iteS H with ⟨hb121, H⟩ | ⟨hb121, H⟩
                · skip
                  refine W_yes (congrArg some hb121) ?_
                  refine W_v (.string (bs a2)) (x_move rfl) rfl ?_
                  refine W_yes (congrArg some hb121) ?_
                  refine W_v (.string (bs a3)) (x_move rfl) rfl ?_
                  refine W_yes (congrArg some hb121) ?_
                  obtain ⟨t124, ht125, H⟩ := bindS H
                  refine W_callF fn13 (text_Compare.con k M70 a2 a3 t124  ht125) S rfl rfl (by rintro _ _ _ ⟨_, rfl⟩; exact flat_nil) ?_
                  rintro _ w126 _ Γ' E' S ⟨rfl, rfl⟩
                  replace E := E.trans E'
                  clear E'
                  refine W_yes (congrArg some hb121) ?_
                  refine W_v (.bool (decide (t124 > (0 : Int)))) (x_ibin rfl rfl rfl rfl) rfl ?_
                  refine W_yes (congrArg some hb112) ?_
                  refine W_v (.bool (decide (t124 > (0 : Int)))) (x_pick (k := true) (congrArg Value.bool hb121) rfl) rfl ?_
                  refine Wl_nil ?_
                  exact ⟨(decide (t124 > (0 : Int))), Option.some.inj H, ⟨rfl, rfl, rfl, rfl, rfl, rfl, trivial⟩, E, S.pick [] (by decide)⟩
                · skip
                  refine W_no (skT hb121) rfl ?_
                  refine W_no (skT hb121) rfl ?_
                  refine W_no (skT hb121) rfl ?_
                  refine W_no (skT hb121) rfl ?_
                  refine W_yes (congrArg some hb112) ?_
                  refine W_v (.bool false) (x_pick (k := false) (congrArg Value.bool hb121) rfl) rfl ?_
                  refine Wl_nil ?_
                  exact ⟨false, Option.some.inj H, ⟨rfl, rfl, rfl, rfl, rfl, rfl, trivial⟩, E, S.pick [] (by decide)⟩
              · clear o123h
                rintro ρ w127 ⟨x122, rfl, hρ, E, S⟩
                rw [agree_eta hρ]
                clear hρ
                have H := o123H
                clear o123H
                refine W_v (.bool x122) (x_pick (k := false) (congrArg Value.bool hb112) rfl) rfl ?_
                refine Wl_nil ?_
                exact ⟨x122, Option.some.inj H, ⟨rfl, rfl, rfl, rfl, rfl, trivial⟩, E, S.pick [] (by decide)⟩
          · clear o114h
            rintro ρ w128 ⟨x113, rfl, hρ, E, S⟩
            rw [agree_eta hρ]
            clear hρ
            have H := o114H
            clear o114H
            refine Wl_nil ?_
            refine tn ?_
            rcases iteS H with ⟨hb129, H⟩ | ⟨hb129, H⟩
            · refine Wp_cond_true (congrArg Value.bool hb129) ?_
              refine Wp_seq ?_
              refine Wp_region_lit ?_
              obtain ⟨t130, ht131, H⟩ := bindS H
              refine W_callF fn12 (ferrymanlaw02_works.con k M70  t130  ht131) S rfl rfl (by rintro _ _ _ ⟨_, rfl⟩; exact flat_nil) ?_
              rintro _ w132 _ Γ' E' S ⟨rfl, rfl⟩
              replace E := E.trans E'
              clear E'
              refine W_v (.bool t130) (x_assign rfl) rfl ?_
              refine Wl_nil ?_
              refine tn ?_
              refine Wp_ret ?_
              refine tr (?_)
              obtain rfl := Option.some.inj H
              exact ⟨_, _, _, fun w1 e1 => run_resR (vs := [.bool t130]) (FA.cons (rfl) (FA.nil)), HM, E, S.pick [] (by decide), ⟨rfl, rfl⟩⟩
            · refine Wp_cond_false (congrArg Value.bool hb129) ?_
              refine Wp_skip ?_
              refine tn ?_
              refine Wp_seq ?_
              refine Wp_region_lit ?_
              refine W_v (.string (bs a0)) (x_move rfl) rfl ?_
              refine W_v (.string (bs a1)) (x_move rfl) rfl ?_
              refine W_v (.string (bs a2)) (x_move rfl) rfl ?_
              obtain ⟨t133, ht134, H⟩ := bindS H
              refine W_callF fn21 (text_Within.con k M70 a0 a1 a2 t133  ht134) S rfl rfl (by rintro _ _ _ ⟨_, rfl⟩; exact flat_nil) ?_
              rintro _ w135 _ Γ' E' S ⟨rfl, rfl⟩
              replace E := E.trans E'
              clear E'
              refine W_v (.string (bs a0)) (x_move rfl) rfl ?_
              refine W_v (.string (bs a2)) (x_move rfl) rfl ?_
              refine W_v (.string (bs a3)) (x_move rfl) rfl ?_
              obtain ⟨t136, ht137, H⟩ := bindS H
              refine W_callF fn21 (text_Within.con k M70 a0 a2 a3 t136  ht137) S rfl rfl (by rintro _ _ _ ⟨_, rfl⟩; exact flat_nil) ?_
              rintro _ w138 _ Γ' E' S ⟨rfl, rfl⟩
              replace E := E.trans E'
              clear E'
              refine W_v (.bool t133) (x_assign rfl) rfl ?_
              refine W_v (.bool t136) (x_assign rfl) rfl ?_
              refine Wl_nil ?_
              refine tn ?_
              refine Wp_seq ?_
              refine Wp_region_lit ?_
              refine W_v (.bool t133) (x_move rfl) rfl ?_
              refine W_v (.bool t133) (x_move rfl) rfl ?_
              refine Wl_cutN 2 (fun ρ w' => Agree ρ [(0, .string (bs a0)), (1, .string (bs a1)), (3, .string (bs a3)), (9, .bool t133), (10, .bool t136), (57, .bool (t133 && t136))] ∧ w138 = w') ?_ ?_
              · rcases boolCases t133 with hb139 | hb139
                · skip
                  refine W_no (skT hb139) rfl ?_
                  refine W_v (.bool false) (x_pick (k := false) (congrArg Value.bool hb139) rfl) rfl ?_
                  refine Wl_nil ?_
                  exact ⟨⟨rfl, rfl, rfl, rfl, rfl, (by first | rfl | (rw [hb139]; rfl) | (simp only [hb139]; rfl)), trivial⟩, rfl⟩
                · skip
                  refine W_yes (congrArg some hb139) ?_
                  refine W_v (.bool t136) (x_move rfl) rfl ?_
                  refine W_v (.bool t136) (x_pick (k := true) (congrArg Value.bool hb139) rfl) rfl ?_
                  refine Wl_nil ?_
                  exact ⟨⟨rfl, rfl, rfl, rfl, rfl, (by first | rfl | (rw [hb139]; rfl) | (simp only [hb139]; rfl)), trivial⟩, rfl⟩
              · rintro ρ _ ⟨hρ, rfl⟩
                rw [agree_eta hρ]
                clear hρ
                skip
                refine W_v (.bool (!(t133 && t136))) (x_not rfl) rfl ?_
                refine W_v (.bool (!(t133 && t136))) (x_move rfl) rfl ?_
                obtain ⟨o150, o150h, o150H⟩ := bindS H
                clear H
                refine Wl_cutN 10 (fun ρ w' => ∃ (x149 : Bool), (x149) = o150 ∧ Agree ρ [(0, .string (bs a0)), (1, .string (bs a1)), (3, .string (bs a3)), (69, .bool x149)] ∧ Ext w w' ∧ St w' M70 F []) ?_ ?_
                · have H := o150h
                  rcases iteS H with ⟨hb148, H⟩ | ⟨hb148, H⟩
                  · skip
                    refine W_yes (congrArg some hb148) ?_
                    refine W_v (.string (bs a0)) (x_move rfl) rfl ?_
                    refine W_yes (congrArg some hb148) ?_
                    refine W_v (.string (bs a1)) (x_move rfl) rfl ?_
                    refine W_yes (congrArg some hb148) ?_
                    refine W_v (.string (bs a3)) (x_move rfl) rfl ?_
                    refine W_yes (congrArg some hb148) ?_
                    obtain ⟨t151, ht152, H⟩ := bindS H
                    refine W_callF fn21 (text_Within.con k M70 a0 a1 a3 t151  ht152) S rfl rfl (by rintro _ _ _ ⟨_, rfl⟩; exact flat_nil) ?_
                    rintro _ w153 _ Γ' E' S ⟨rfl, rfl⟩
                    replace E := E.trans E'
                    clear E'
                    refine W_yes (congrArg some hb148) ?_
                    refine W_v (.bool t133) (x_move rfl) rfl ?_
                    refine W_yes (congrArg some hb148) ?_
                    refine W_v (.bool t133) (x_move rfl) rfl ?_
                    refine Wl_cutN 2 (fun ρ w' => Agree ρ [(0, .string (bs a0)), (1, .string (bs a1)), (3, .string (bs a3)), (59, .bool (!(t133 && t136))), (63, .bool t151), (67, .bool (t133 || t136))] ∧ w153 = w') ?_ ?_
                    · rcases boolCases t133 with hb154 | hb154
                      · skip
                        refine W_yes (congrArg some hb154) ?_
                        refine W_v (.bool t136) (x_move rfl) rfl ?_
                        refine W_yes (congrArg some hb148) ?_
                        refine W_v (.bool t136) (x_pick (k := false) (congrArg Value.bool hb154) rfl) rfl ?_
                        refine Wl_nil ?_
                        exact ⟨⟨rfl, rfl, rfl, rfl, rfl, (by first | rfl | (rw [hb154]; rfl) | (simp only [hb154]; rfl)), trivial⟩, rfl⟩
                      · skip
                        refine W_no (skF hb154) rfl ?_
                        refine W_yes (congrArg some hb148) ?_
                        refine W_v (.bool true) (x_pick (k := true) (congrArg Value.bool hb154) rfl) rfl ?_
                        refine Wl_nil ?_
                        exact ⟨⟨rfl, rfl, rfl, rfl, rfl, (by first | rfl | (rw [hb154]; rfl) | (simp only [hb154]; rfl)), trivial⟩, rfl⟩
                    · rintro ρ _ ⟨hρ, rfl⟩
                      rw [agree_eta hρ]
                      clear hρ
                      skip
                      refine W_yes (congrArg some hb148) ?_
                      refine W_v (.bool (t151 == (t133 || t136))) (x_beq Try.underlying4 rfl rfl) rfl ?_
                      refine W_v (.bool (t151 == (t133 || t136))) (x_pick (k := true) (congrArg Value.bool hb148) rfl) rfl ?_
                      refine Wl_nil ?_
                      exact ⟨(t151 == (t133 || t136)), Option.some.inj H, ⟨rfl, rfl, rfl, rfl, trivial⟩, E, S.pick [] (by decide)⟩
                  · skip
                    refine W_no (skT hb148) rfl ?_
                    refine W_no (skT hb148) rfl ?_
                    refine W_no (skT hb148) rfl ?_
                    refine W_no (skT hb148) rfl ?_
                    refine W_no (skT hb148) rfl ?_
                    refine W_no (skT hb148) rfl ?_
                    refine W_no (rfl) rfl ?_
                    refine W_no (skT hb148) rfl ?_
                    refine W_no (skT hb148) rfl ?_
                    refine W_v (.bool false) (x_pick (k := false) (congrArg Value.bool hb148) rfl) rfl ?_
                    refine Wl_nil ?_
                    exact ⟨false, Option.some.inj H, ⟨rfl, rfl, rfl, rfl, trivial⟩, E, S.pick [] (by decide)⟩
                · clear o150h
                  rintro ρ w155 ⟨x149, rfl, hρ, E, S⟩
                  rw [agree_eta hρ]
                  clear hρ
                  have H := o150H
                  clear o150H
                  refine W_v (.bool x149) (x_move rfl) rfl ?_
                  obtain ⟨o268, o268h, o268H⟩ := bindS H
                  clear H
                  refine Wl_cutN 16 (fun ρ w' => ∃ (x267 : Bool), (x267) = o268 ∧ Agree ρ [(86, .bool x267)] ∧ Ext w w' ∧ St w' M70 F []) ?_ ?_
                  · have H := o268h
                    rcases iteS H with ⟨hb266, H⟩ | ⟨hb266, H⟩
                    · skip
                      refine W_yes (congrArg some hb266) ?_
                      refine W_v (.string (bs a0)) (x_move rfl) rfl ?_
                      refine W_yes (congrArg some hb266) ?_
                      refine W_v (.string (bs a1)) (x_move rfl) rfl ?_
                      refine W_yes (congrArg some hb266) ?_
                      refine W_v (.string (bs a3)) (x_move rfl) rfl ?_
                      refine W_yes (congrArg some hb266) ?_
                      obtain ⟨t269, ht270, H⟩ := bindS H
                      refine W_callF fn21 (text_Within.con k M70 a0 a1 a3 t269  ht270) S rfl rfl (by rintro _ _ _ ⟨_, rfl⟩; exact flat_nil) ?_
                      rintro _ w271 _ Γ' E' S ⟨rfl, rfl⟩
                      replace E := E.trans E'
                      clear E'
                      refine W_yes (congrArg some hb266) ?_
                      refine W_v (.bool (!t269)) (x_not rfl) rfl ?_
                      refine W_yes (congrArg some hb266) ?_
                      refine W_v (.bool (!t269)) (x_move rfl) rfl ?_
                      obtain ⟨o306, o306h, o306H⟩ := bindS H
                      clear H
                      refine Wl_cutN 9 (fun ρ w' => ∃ (x305 : Bool), (x305) = o306 ∧ Agree ρ [(70, .bool x149), (85, .bool x305)] ∧ Ext w w' ∧ St w' M70 F []) ?_ ?_
                      · have H := o306h
                        rcases iteS H with ⟨hb304, H⟩ | ⟨hb304, H⟩
                        · skip
                          refine W_no (skF hb304) rfl ?_
                          refine W_no (skF hb304) rfl ?_
                          refine W_no (skF hb304) rfl ?_
                          refine W_no (skF hb304) rfl ?_
                          refine W_no (rfl) rfl ?_
                          refine W_no (rfl) rfl ?_
                          refine W_no (rfl) rfl ?_
                          refine W_no (skF hb304) rfl ?_
                          refine W_yes (congrArg some hb266) ?_
                          refine W_v (.bool true) (x_pick (k := true) (congrArg Value.bool hb304) rfl) rfl ?_
                          refine Wl_nil ?_
                          exact ⟨true, Option.some.inj H, ⟨rfl, rfl, trivial⟩, E, S.pick [] (by decide)⟩
                        · skip
                          refine W_yes (congrArg some hb304) ?_
                          refine W_v (.string (bs a0)) (x_move rfl) rfl ?_
                          refine W_yes (congrArg some hb304) ?_
                          refine W_v (.string (bs a1)) (x_move rfl) rfl ?_
                          refine W_yes (congrArg some hb304) ?_
                          obtain ⟨t307, ht308, H⟩ := bindS H
                          refine W_callF fn21 (text_Within.con k M70 a0 a1 ([] : Str) t307  ht308) S rfl rfl (by rintro _ _ _ ⟨_, rfl⟩; exact flat_nil) ?_
                          rintro _ w309 _ Γ' E' S ⟨rfl, rfl⟩
                          replace E := E.trans E'
                          clear E'
                          refine W_yes (congrArg some hb304) ?_
                          refine W_v (.bool t307) (x_move rfl) rfl ?_
                          obtain ⟨o318, o318h, o318H⟩ := bindS H
                          clear H
                          refine Wl_cutN 4 (fun ρ w' => ∃ (x317 : Bool), (x317) = o318 ∧ Agree ρ [(70, .bool x149), (76, .bool (!t269)), (84, .bool x317)] ∧ Ext w w' ∧ St w' M70 F []) ?_ ?_
                          · have H := o318h
                            rcases iteS H with ⟨hb316, H⟩ | ⟨hb316, H⟩
                            · skip
                              refine W_yes (congrArg some hb316) ?_
                              refine W_v (.string (bs a0)) (x_move rfl) rfl ?_
                              refine W_yes (congrArg some hb316) ?_
                              refine W_v (.string (bs a3)) (x_move rfl) rfl ?_
                              refine W_yes (congrArg some hb316) ?_
                              obtain ⟨t319, ht320, H⟩ := bindS H
                              refine W_callF fn21 (text_Within.con k M70 a0 ([] : Str) a3 t319  ht320) S rfl rfl (by rintro _ _ _ ⟨_, rfl⟩; exact flat_nil) ?_
                              rintro _ w321 _ Γ' E' S ⟨rfl, rfl⟩
                              replace E := E.trans E'
                              clear E'
                              refine W_yes (congrArg some hb304) ?_
                              refine W_v (.bool t319) (x_pick (k := true) (congrArg Value.bool hb316) rfl) rfl ?_
                              refine Wl_nil ?_
                              exact ⟨t319, Option.some.inj H, ⟨rfl, rfl, rfl, trivial⟩, E, S.pick [] (by decide)⟩
                            · skip
                              refine W_no (skT hb316) rfl ?_
                              refine W_no (skT hb316) rfl ?_
                              refine W_no (skT hb316) rfl ?_
                              refine W_yes (congrArg some hb304) ?_
                              refine W_v (.bool false) (x_pick (k := false) (congrArg Value.bool hb316) rfl) rfl ?_
                              refine Wl_nil ?_
                              exact ⟨false, Option.some.inj H, ⟨rfl, rfl, rfl, trivial⟩, E, S.pick [] (by decide)⟩
                          · clear o318h
                            rintro ρ w322 ⟨x317, rfl, hρ, E, S⟩
                            rw [agree_eta hρ]
                            clear hρ
                            have H := o318H
                            clear o318H
                            refine W_yes (congrArg some hb266) ?_
                            refine W_v (.bool x317) (x_pick (k := false) (congrArg Value.bool hb304) rfl) rfl ?_
                            refine Wl_nil ?_
                            exact ⟨x317, Option.some.inj H, ⟨rfl, rfl, trivial⟩, E, S.pick [] (by decide)⟩
                      · clear o306h
                        rintro ρ w323 ⟨x305, rfl, hρ, E, S⟩
                        rw [agree_eta hρ]
                        clear hρ
                        have H := o306H
                        clear o306H
                        refine W_v (.bool x305) (x_pick (k := true) (congrArg Value.bool hb266) rfl) rfl ?_
                        refine Wl_nil ?_
                        exact ⟨x305, Option.some.inj H, ⟨rfl, trivial⟩, E, S.pick [] (by decide)⟩
                    · skip
                      refine W_no (skT hb266) rfl ?_
                      refine W_no (skT hb266) rfl ?_
                      refine W_no (skT hb266) rfl ?_
                      refine W_no (skT hb266) rfl ?_
                      refine W_no (skT hb266) rfl ?_
                      refine W_no (skT hb266) rfl ?_
                      refine W_no (rfl) rfl ?_
                      refine W_no (rfl) rfl ?_
                      refine W_no (rfl) rfl ?_
                      refine W_no (rfl) rfl ?_
                      refine W_no (rfl) rfl ?_
                      refine W_no (rfl) rfl ?_
                      refine W_no (rfl) rfl ?_
                      refine W_no (rfl) rfl ?_
                      refine W_no (skT hb266) rfl ?_
                      refine W_v (.bool false) (x_pick (k := false) (congrArg Value.bool hb266) rfl) rfl ?_
                      refine Wl_nil ?_
                      exact ⟨false, Option.some.inj H, ⟨rfl, trivial⟩, E, S.pick [] (by decide)⟩
                  · clear o268h
                    rintro ρ w324 ⟨x267, rfl, hρ, E, S⟩
                    rw [agree_eta hρ]
                    clear hρ
                    have H := o268H
                    clear o268H
                    refine W_v (.bool x267) (x_assign rfl) rfl ?_
                    refine Wl_nil ?_
                    refine tn ?_
                    refine Wp_ret ?_
                    obtain rfl := Option.some.inj H
                    exact ⟨_, _, _, fun w1 e1 => run_resR (vs := [.bool x267]) (FA.cons (rfl) (FA.nil)), HM, E, S.pick [] (by decide), ⟨rfl, rfl⟩⟩
end Go.Proofs.Ytnfeinhialojnaa
