import Derived.Test.YtnfeinhialojnaaGt1
namespace Go.Proofs.Ytnfeinhialojnaa
open Go
set_option linter.unusedVariables false
set_option linter.unusedSimpArgs false
/-! ### ferryman/ferrymanlaw02.TextTells: function 3 -/
def ferrymanlaw02_TextTells (k : Nat) (a0 : Str) (a1 : Str) (a2 : Str) (a3 : Int) : Option (Bool) :=
  (Option.bind (ferrymanlaw02_long k ([a0, a1, a2] : List Str)) (fun t7 => (if t7 = true then (Option.bind (ferrymanlaw02_works k ) (fun t11 => some t11)) else (Option.bind (text_Compare k a0 a1) (fun t14 => (Option.bind (ferrymanref02_Compare k a0 a1) (fun t17 => (Option.bind (α := Bool) (if (t14 == t17) = true then (Option.bind (text_Prefix k a0 a1) (fun t35 => (Option.bind (ferrymanref02_Prefix k a0 a1) (fun t38 => some ((t35 == t38)))))) else some (false)) (fun x33 => (Option.bind (α := Bool) (if x33 = true then (Option.bind (text_Suffix k a0 a1 a3) (fun t57 => (Option.bind (ferrymanref02_Suffix k a0 a1 a3) (fun t60 => some ((t57 == t60)))))) else some (false)) (fun x55 => (Option.bind (α := Bool) (if x55 = true then (Option.bind (text_Next k a0) (fun t79 => (Option.bind (ferrymanref02_Next k a0) (fun t82 => some ((sbin .eql t79 t82)))))) else some (false)) (fun x77 => (Option.bind (α := Bool) (if x77 = true then (Option.bind (text_Within k a0 a1 a2) (fun t101 => (Option.bind (ferrymanref02_Within k a0 a1 a2) (fun t104 => some ((t101 == t104)))))) else some (false)) (fun x99 => (Option.bind (α := Bool) (if x99 = true then (Option.bind (ferrymanlaw02_works k ) (fun t117 => some (t117))) else some (false)) (fun x115 => some x115)))))))))))))))))
set_option maxHeartbeats 2000000 in
theorem ferrymanlaw02_TextTells.mono {k : Nat} {a0 : Str} {a1 : Str} {a2 : Str} {a3 : Int} : OLe (ferrymanlaw02_TextTells k a0 a1 a2 a3) (ferrymanlaw02_TextTells (k + 1) a0 a1 a2 a3) := by
  unfold ferrymanlaw02_TextTells
  repeat' (first | with_reducible exact OLe.none | with_reducible exact OLe.some | with_reducible refine OLe.ite ?_ ?_ | with_reducible refine OLe.bind ?_ (fun _ => ?_) | with_reducible exact ferrymanlaw02_long.mono | with_reducible exact ferrymanlaw02_works.mono | with_reducible exact ferrymanref02_Compare.mono | with_reducible exact ferrymanref02_Next.mono | with_reducible exact ferrymanref02_Prefix.mono | with_reducible exact ferrymanref02_Suffix.mono | with_reducible exact ferrymanref02_Within.mono | with_reducible exact text_Compare.mono | with_reducible exact text_Next.mono | with_reducible exact text_Prefix.mono | with_reducible exact text_Suffix.mono | with_reducible exact text_Within.mono | refine OLe.bind ?_ (fun _ => ?_) | refine OLe.ite ?_ ?_ | refine OLe.elim (fun _ => ?_) (fun _ => ?_) | split)
set_option maxHeartbeats 1000000 in
set_option maxRecDepth 100000 in
theorem ferrymanlaw02_TextTells.con (k : Nat) (M : Hp) (a0 : Str) (a1 : Str) (a2 : Str) (a3 : Int) (r : Bool)  (h : ferrymanlaw02_TextTells k a0 a1 a2 a3 = some r) : Con Try.prog 3 #[.string (bs a0), .string (bs a1), .string (bs a2), .int .i64 a3] M [] (fun v M' Γ' => v = .bool r ∧ Γ' = []) := by
  refine con_of_wp Try.func3 rfl Try.ntmps3 Try.results3 rfl ?_
  intro w F rn S hrn
  have E := Ext.refl w
  have HM := Hp.le_refl M
  have H := h
  unfold ferrymanlaw02_TextTells at H
  refine Wp_seq ?_
  refine Wp_region_lit ?_
  refine W_v (.bool false) (x_assign rfl) rfl ?_
  refine Wl_nil ?_
  refine tn ?_
  refine Wp_seq ?_
  refine Wp_seq ?_
  refine Wp_region_lit ?_
  refine W_v (.string (bs a0)) (x_move rfl) rfl ?_
  refine W_v (.string (bs a1)) (x_move rfl) rfl ?_
  refine W_v (.string (bs a2)) (x_move rfl) rfl ?_
  refine W_bslice S #[.string (bs a0), .string (bs a1), .string (bs a2)] Try.underlying40 ty9 rfl rfl #[.string (bs ([] : Str)), .string (bs ([] : Str)), .string (bs ([] : Str))] (by kernel_rfl) (by kernel_rfl) rfl ?_
  intro b1 w2 E' S
  replace E := E.trans E'
  clear E'
  replace S := S.blk_row (r := rStr) (l := ([a0, a1, a2] : List Str)) 0 rfl 3 (Nat.le_refl 3) rfl (Cells.cons (vs := [.string (bs a0)]) (rfl) (Cells.cons (vs := [.string (bs a1)]) (rfl) (Cells.cons (vs := [.string (bs a2)]) (rfl) Cells.nil)))
  obtain ⟨M4, hM5, hf6, S⟩ := S.row_freeze 0 rfl
  replace HM := Hp.le_trans HM hM5
  obtain ⟨t7, ht8, H⟩ := bindS H
  refine W_callF fn11 (ferrymanlaw02_long.con k M4 (some ⟨b1, 0, none⟩) 3 ([a0, a1, a2] : List Str) t7 hf6 ht8) S rfl rfl (by rintro _ _ _ ⟨_, rfl⟩; exact flat_nil) ?_
  rintro _ w9 _ Γ' E' S ⟨rfl, rfl⟩
  replace E := E.trans E'
  clear E'
  refine Wl_nil ?_
  refine tn ?_
  rcases iteS H with ⟨hb10, H⟩ | ⟨hb10, H⟩
  · refine Wp_cond_true (congrArg Value.bool hb10) ?_
    refine Wp_seq ?_
    refine Wp_region_lit ?_
    obtain ⟨t11, ht12, H⟩ := bindS H
    refine W_callF fn12 (ferrymanlaw02_works.con k M4  t11  ht12) S rfl rfl (by rintro _ _ _ ⟨_, rfl⟩; exact flat_nil) ?_
    rintro _ w13 _ Γ' E' S ⟨rfl, rfl⟩
    replace E := E.trans E'
    clear E'
    refine W_v (.bool t11) (x_assign rfl) rfl ?_
    refine Wl_nil ?_
    refine tn ?_
    refine Wp_ret ?_
    refine tr (?_)
    obtain rfl := Option.some.inj H
    exact ⟨_, _, _, fun w1 e1 => run_resR (vs := [.bool t11]) (FA.cons (rfl) (FA.nil)), HM, E, S.pick [] (by decide), ⟨rfl, rfl⟩⟩
  · refine Wp_cond_false (congrArg Value.bool hb10) ?_
    refine Wp_skip ?_
    refine tn ?_
    refine Wp_seq ?_
    refine Wp_region_lit ?_
    refine W_v (.string (bs a0)) (x_move rfl) rfl ?_
    refine W_v (.string (bs a1)) (x_move rfl) rfl ?_
    obtain ⟨t14, ht15, H⟩ := bindS H
    refine W_callF fn13 (text_Compare.con k M4 a0 a1 t14  ht15) S rfl rfl (by rintro _ _ _ ⟨_, rfl⟩; exact flat_nil) ?_
    rintro _ w16 _ Γ' E' S ⟨rfl, rfl⟩
    replace E := E.trans E'
    clear E'
    refine W_v (.string (bs a0)) (x_move rfl) rfl ?_
    refine W_v (.string (bs a1)) (x_move rfl) rfl ?_
    obtain ⟨t17, ht18, H⟩ := bindS H
    refine W_callF fn14 (ferrymanref02_Compare.con k M4 a0 a1 t17  ht18) S rfl rfl (by rintro _ _ _ ⟨_, rfl⟩; exact flat_nil) ?_
    rintro _ w19 _ Γ' E' S ⟨rfl, rfl⟩
    replace E := E.trans E'
    clear E'
    refine W_v (.bool (t14 == t17)) (x_ibin rfl rfl rfl rfl) rfl ?_
    refine W_v (.bool (t14 == t17)) (x_move rfl) rfl ?_
    obtain ⟨o34, o34h, o34H⟩ := bindS H
    clear H
    refine Wl_cutN 8 (fun ρ w' => ∃ (x33 : Bool), (x33) = o34 ∧ Agree ρ [(0, .string (bs a0)), (1, .string (bs a1)), (2, .string (bs a2)), (3, .int .i64 a3), (30, .bool x33)] ∧ Ext w w' ∧ St w' M4 F []) ?_ ?_
    · have H := o34h
      rcases iteS H with ⟨hb32, H⟩ | ⟨hb32, H⟩
      · skip
        refine W_yes (congrArg some hb32) ?_
        refine W_v (.string (bs a0)) (x_move rfl) rfl ?_
        refine W_yes (congrArg some hb32) ?_
        refine W_v (.string (bs a1)) (x_move rfl) rfl ?_
        refine W_yes (congrArg some hb32) ?_
        obtain ⟨t35, ht36, H⟩ := bindS H
        refine W_callF fn15 (text_Prefix.con k M4 a0 a1 t35  ht36) S rfl rfl (by rintro _ _ _ ⟨_, rfl⟩; exact flat_nil) ?_
        rintro _ w37 _ Γ' E' S ⟨rfl, rfl⟩
        replace E := E.trans E'
        clear E'
        refine W_yes (congrArg some hb32) ?_
        refine W_v (.string (bs a0)) (x_move rfl) rfl ?_
        refine W_yes (congrArg some hb32) ?_
        refine W_v (.string (bs a1)) (x_move rfl) rfl ?_
        refine W_yes (congrArg some hb32) ?_
        obtain ⟨t38, ht39, H⟩ := bindS H
        refine W_callF fn16 (ferrymanref02_Prefix.con k M4 a0 a1 t38  ht39) S rfl rfl (by rintro _ _ _ ⟨_, rfl⟩; exact flat_nil) ?_
        rintro _ w40 _ Γ' E' S ⟨rfl, rfl⟩
        replace E := E.trans E'
        clear E'
        refine W_yes (congrArg some hb32) ?_
        refine W_v (.bool (t35 == t38)) (x_ibin rfl rfl rfl rfl) rfl ?_
        refine W_v (.bool (t35 == t38)) (x_pick (k := true) (congrArg Value.bool hb32) rfl) rfl ?_
        refine Wl_nil ?_
        exact ⟨(t35 == t38), Option.some.inj H, ⟨rfl, rfl, rfl, rfl, rfl, trivial⟩, E, S.pick [] (by decide)⟩
      · skip
        refine W_no (skT hb32) rfl ?_
        refine W_no (skT hb32) rfl ?_
        refine W_no (skT hb32) rfl ?_
        refine W_no (skT hb32) rfl ?_
        refine W_no (skT hb32) rfl ?_
        refine W_no (skT hb32) rfl ?_
        refine W_no (skT hb32) rfl ?_
        refine W_v (.bool false) (x_pick (k := false) (congrArg Value.bool hb32) rfl) rfl ?_
        refine Wl_nil ?_
        exact ⟨false, Option.some.inj H, ⟨rfl, rfl, rfl, rfl, rfl, trivial⟩, E, S.pick [] (by decide)⟩
    · clear o34h
      rintro ρ w41 ⟨x33, rfl, hρ, E, S⟩
      rw [agree_eta hρ]
      clear hρ
      have H := o34H
      clear o34H
      refine W_v (.bool x33) (x_move rfl) rfl ?_
      obtain ⟨o56, o56h, o56H⟩ := bindS H
      clear H
      refine Wl_cutN 10 (fun ρ w' => ∃ (x55 : Bool), (x55) = o56 ∧ Agree ρ [(0, .string (bs a0)), (1, .string (bs a1)), (2, .string (bs a2)), (41, .bool x55)] ∧ Ext w w' ∧ St w' M4 F []) ?_ ?_
      · have H := o56h
        rcases iteS H with ⟨hb54, H⟩ | ⟨hb54, H⟩
        · skip
          refine W_yes (congrArg some hb54) ?_
          refine W_v (.string (bs a0)) (x_move rfl) rfl ?_
          refine W_yes (congrArg some hb54) ?_
          refine W_v (.string (bs a1)) (x_move rfl) rfl ?_
          refine W_yes (congrArg some hb54) ?_
          refine W_v (.int .i64 a3) (x_move rfl) rfl ?_
          refine W_yes (congrArg some hb54) ?_
          obtain ⟨t57, ht58, H⟩ := bindS H
          refine W_callF fn17 (text_Suffix.con k M4 a0 a1 a3 t57  ht58) S rfl rfl (by rintro _ _ _ ⟨_, rfl⟩; exact flat_nil) ?_
          rintro _ w59 _ Γ' E' S ⟨rfl, rfl⟩
          replace E := E.trans E'
          clear E'
          refine W_yes (congrArg some hb54) ?_
          refine W_v (.string (bs a0)) (x_move rfl) rfl ?_
          refine W_yes (congrArg some hb54) ?_
          refine W_v (.string (bs a1)) (x_move rfl) rfl ?_
          refine W_yes (congrArg some hb54) ?_
          refine W_v (.int .i64 a3) (x_move rfl) rfl ?_
          refine W_yes (congrArg some hb54) ?_
          obtain ⟨t60, ht61, H⟩ := bindS H
          refine W_callF fn18 (ferrymanref02_Suffix.con k M4 a0 a1 a3 t60  ht61) S rfl rfl (by rintro _ _ _ ⟨_, rfl⟩; exact flat_nil) ?_
          rintro _ w62 _ Γ' E' S ⟨rfl, rfl⟩
          replace E := E.trans E'
          clear E'
          refine W_yes (congrArg some hb54) ?_
          refine W_v (.bool (t57 == t60)) (x_ibin rfl rfl rfl rfl) rfl ?_
          refine W_v (.bool (t57 == t60)) (x_pick (k := true) (congrArg Value.bool hb54) rfl) rfl ?_
          refine Wl_nil ?_
          exact ⟨(t57 == t60), Option.some.inj H, ⟨rfl, rfl, rfl, rfl, trivial⟩, E, S.pick [] (by decide)⟩
        · skip
          refine W_no (skT hb54) rfl ?_
          refine W_no (skT hb54) rfl ?_
          refine W_no (skT hb54) rfl ?_
          refine W_no (skT hb54) rfl ?_
          refine W_no (skT hb54) rfl ?_
          refine W_no (skT hb54) rfl ?_
          refine W_no (skT hb54) rfl ?_
          refine W_no (skT hb54) rfl ?_
          refine W_no (skT hb54) rfl ?_
          refine W_v (.bool false) (x_pick (k := false) (congrArg Value.bool hb54) rfl) rfl ?_
          refine Wl_nil ?_
          exact ⟨false, Option.some.inj H, ⟨rfl, rfl, rfl, rfl, trivial⟩, E, S.pick [] (by decide)⟩
      · clear o56h
        rintro ρ w63 ⟨x55, rfl, hρ, E, S⟩
        rw [agree_eta hρ]
        clear hρ
        have H := o56H
        clear o56H
        refine W_v (.bool x55) (x_move rfl) rfl ?_
        obtain ⟨o78, o78h, o78H⟩ := bindS H
        clear H
        refine Wl_cutN 6 (fun ρ w' => ∃ (x77 : Bool), (x77) = o78 ∧ Agree ρ [(0, .string (bs a0)), (1, .string (bs a1)), (2, .string (bs a2)), (48, .bool x77)] ∧ Ext w w' ∧ St w' M4 F []) ?_ ?_
        · have H := o78h
          rcases iteS H with ⟨hb76, H⟩ | ⟨hb76, H⟩
          · skip
            refine W_yes (congrArg some hb76) ?_
            refine W_v (.string (bs a0)) (x_move rfl) rfl ?_
            refine W_yes (congrArg some hb76) ?_
            obtain ⟨t79, ht80, H⟩ := bindS H
            refine W_callF fn19 (text_Next.con k M4 a0 t79  ht80) S rfl rfl (by rintro _ _ _ ⟨_, rfl⟩; exact flat_nil) ?_
            rintro _ w81 _ Γ' E' S ⟨rfl, rfl⟩
            replace E := E.trans E'
            clear E'
            refine W_yes (congrArg some hb76) ?_
            refine W_v (.string (bs a0)) (x_move rfl) rfl ?_
            refine W_yes (congrArg some hb76) ?_
            obtain ⟨t82, ht83, H⟩ := bindS H
            refine W_callF fn20 (ferrymanref02_Next.con k M4 a0 t82  ht83) S rfl rfl (by rintro _ _ _ ⟨_, rfl⟩; exact flat_nil) ?_
            rintro _ w84 _ Γ' E' S ⟨rfl, rfl⟩
            replace E := E.trans E'
            clear E'
            refine W_yes (congrArg some hb76) ?_
            refine W_v (.bool (sbin .eql t79 t82)) (x_sbin rfl rfl rfl) rfl ?_
            refine W_v (.bool (sbin .eql t79 t82)) (x_pick (k := true) (congrArg Value.bool hb76) rfl) rfl ?_
            refine Wl_nil ?_
            exact ⟨(sbin .eql t79 t82), Option.some.inj H, ⟨rfl, rfl, rfl, rfl, trivial⟩, E, S.pick [] (by decide)⟩
          · skip
            refine W_no (skT hb76) rfl ?_
            refine W_no (skT hb76) rfl ?_
            refine W_no (skT hb76) rfl ?_
            refine W_no (skT hb76) rfl ?_
            refine W_no (skT hb76) rfl ?_
            refine W_v (.bool false) (x_pick (k := false) (congrArg Value.bool hb76) rfl) rfl ?_
            refine Wl_nil ?_
            exact ⟨false, Option.some.inj H, ⟨rfl, rfl, rfl, rfl, trivial⟩, E, S.pick [] (by decide)⟩
        · clear o78h
          rintro ρ w85 ⟨x77, rfl, hρ, E, S⟩
          rw [agree_eta hρ]
          clear hρ
          have H := o78H
          clear o78H
          refine W_v (.bool x77) (x_move rfl) rfl ?_
          obtain ⟨o100, o100h, o100H⟩ := bindS H
          clear H
          refine Wl_cutN 10 (fun ρ w' => ∃ (x99 : Bool), (x99) = o100 ∧ Agree ρ [(59, .bool x99)] ∧ Ext w w' ∧ St w' M4 F []) ?_ ?_
          · have H := o100h
            rcases iteS H with ⟨hb98, H⟩ | ⟨hb98, H⟩
            · skip
              refine W_yes (congrArg some hb98) ?_
              refine W_v (.string (bs a0)) (x_move rfl) rfl ?_
              refine W_yes (congrArg some hb98) ?_
              refine W_v (.string (bs a1)) (x_move rfl) rfl ?_
              refine W_yes (congrArg some hb98) ?_
              refine W_v (.string (bs a2)) (x_move rfl) rfl ?_
              refine W_yes (congrArg some hb98) ?_
              obtain ⟨t101, ht102, H⟩ := bindS H
              refine W_callF fn21 (text_Within.con k M4 a0 a1 a2 t101  ht102) S rfl rfl (by rintro _ _ _ ⟨_, rfl⟩; exact flat_nil) ?_
              rintro _ w103 _ Γ' E' S ⟨rfl, rfl⟩
              replace E := E.trans E'
              clear E'
              refine W_yes (congrArg some hb98) ?_
              refine W_v (.string (bs a0)) (x_move rfl) rfl ?_
              refine W_yes (congrArg some hb98) ?_
              refine W_v (.string (bs a1)) (x_move rfl) rfl ?_
              refine W_yes (congrArg some hb98) ?_
              refine W_v (.string (bs a2)) (x_move rfl) rfl ?_
              refine W_yes (congrArg some hb98) ?_
              obtain ⟨t104, ht105, H⟩ := bindS H
              refine W_callF fn22 (ferrymanref02_Within.con k M4 a0 a1 a2 t104  ht105) S rfl rfl (by rintro _ _ _ ⟨_, rfl⟩; exact flat_nil) ?_
              rintro _ w106 _ Γ' E' S ⟨rfl, rfl⟩
              replace E := E.trans E'
              clear E'
              refine W_yes (congrArg some hb98) ?_
              refine W_v (.bool (t101 == t104)) (x_beq Try.underlying4 rfl rfl) rfl ?_
              refine W_v (.bool (t101 == t104)) (x_pick (k := true) (congrArg Value.bool hb98) rfl) rfl ?_
              refine Wl_nil ?_
              exact ⟨(t101 == t104), Option.some.inj H, ⟨rfl, trivial⟩, E, S.pick [] (by decide)⟩
            · skip
              refine W_no (skT hb98) rfl ?_
              refine W_no (skT hb98) rfl ?_
              refine W_no (skT hb98) rfl ?_
              refine W_no (skT hb98) rfl ?_
              refine W_no (skT hb98) rfl ?_
              refine W_no (skT hb98) rfl ?_
              refine W_no (skT hb98) rfl ?_
              refine W_no (skT hb98) rfl ?_
              refine W_no (skT hb98) rfl ?_
              refine W_v (.bool false) (x_pick (k := false) (congrArg Value.bool hb98) rfl) rfl ?_
              refine Wl_nil ?_
              exact ⟨false, Option.some.inj H, ⟨rfl, trivial⟩, E, S.pick [] (by decide)⟩
          · clear o100h
            rintro ρ w107 ⟨x99, rfl, hρ, E, S⟩
            rw [agree_eta hρ]
            clear hρ
            have H := o100H
            clear o100H
            refine W_v (.bool x99) (x_move rfl) rfl ?_
            obtain ⟨o116, o116h, o116H⟩ := bindS H
            clear H
            refine Wl_cutN 2 (fun ρ w' => ∃ (x115 : Bool), (x115) = o116 ∧ Agree ρ [(62, .bool x115)] ∧ Ext w w' ∧ St w' M4 F []) ?_ ?_
            · have H := o116h
              rcases iteS H with ⟨hb114, H⟩ | ⟨hb114, H⟩
              · skip
                refine W_yes (congrArg some hb114) ?_
                obtain ⟨t117, ht118, H⟩ := bindS H
                refine W_callF fn12 (ferrymanlaw02_works.con k M4  t117  ht118) S rfl rfl (by rintro _ _ _ ⟨_, rfl⟩; exact flat_nil) ?_
                rintro _ w119 _ Γ' E' S ⟨rfl, rfl⟩
                replace E := E.trans E'
                clear E'
                refine W_v (.bool t117) (x_pick (k := true) (congrArg Value.bool hb114) rfl) rfl ?_
                refine Wl_nil ?_
                exact ⟨t117, Option.some.inj H, ⟨rfl, trivial⟩, E, S.pick [] (by decide)⟩
              · skip
                refine W_no (skT hb114) rfl ?_
                refine W_v (.bool false) (x_pick (k := false) (congrArg Value.bool hb114) rfl) rfl ?_
                refine Wl_nil ?_
                exact ⟨false, Option.some.inj H, ⟨rfl, trivial⟩, E, S.pick [] (by decide)⟩
            · clear o116h
              rintro ρ w120 ⟨x115, rfl, hρ, E, S⟩
              rw [agree_eta hρ]
              clear hρ
              have H := o116H
              clear o116H
              refine W_v (.bool x115) (x_assign rfl) rfl ?_
              refine Wl_nil ?_
              refine tn ?_
              refine Wp_ret ?_
              obtain rfl := Option.some.inj H
              exact ⟨_, _, _, fun w1 e1 => run_resR (vs := [.bool x115]) (FA.cons (rfl) (FA.nil)), HM, E, S.pick [] (by decide), ⟨rfl, rfl⟩⟩
end Go.Proofs.Ytnfeinhialojnaa
