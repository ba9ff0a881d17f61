import Derived.Test.YtnfeinhialojnaaGt1
namespace Go.Proofs.Ytnfeinhialojnaa
open Go
set_option linter.unusedVariables false
set_option linter.unusedSimpArgs false
/-! ### ferryman/ferrymanlaw02.TextNext: function 5 -/
def ferrymanlaw02_TextNext (k : Nat) (a0 : Str) (a1 : Str) : Option (Bool) :=
  (Option.bind (ferrymanlaw02_works k ) (fun t1 => (Option.bind (α := Bool) (if (!t1) = true then some (true) else (Option.bind (ferrymanlaw02_long k ([a0, a1] : List Str)) (fun t32 => some (t32)))) (fun x23 => (if x23 = true then (Option.bind (ferrymanlaw02_works k ) (fun t39 => some t39)) else (Option.bind (text_Next k a0) (fun t42 => (Option.bind (text_Compare k a0 t42) (fun t45 => (Option.bind (α := Bool) (if (t45 != (-1 : Int)) = true then some (true) else (Option.bind (text_Next k a1) (fun t69 => (Option.bind (text_Compare k t42 t69) (fun t72 => (Option.bind (text_Compare k a0 a1) (fun t75 => some ((t72 != t75))))))))) (fun x67 => (if x67 = true then some false else (Option.bind (text_Compare k a0 a1) (fun t80 => (Option.bind (α := Bool) (if (decide (t80 ≥ (0 : Int))) = true then some (true) else (Option.bind (text_Compare k t42 a1) (fun t92 => some ((decide (t92 ≤ (0 : Int))))))) (fun x90 => some x90))))))))))))))))
set_option maxHeartbeats 2000000 in
theorem ferrymanlaw02_TextNext.mono {k : Nat} {a0 : Str} {a1 : Str} : OLe (ferrymanlaw02_TextNext k a0 a1) (ferrymanlaw02_TextNext (k + 1) a0 a1) := by
  unfold ferrymanlaw02_TextNext
  repeat' (first | with_reducible exact OLe.none | with_reducible exact OLe.some | with_reducible refine OLe.ite ?_ ?_ | with_reducible refine OLe.bind ?_ (fun _ => ?_) | with_reducible exact ferrymanlaw02_long.mono | with_reducible exact ferrymanlaw02_works.mono | with_reducible exact text_Compare.mono | with_reducible exact text_Next.mono | refine OLe.bind ?_ (fun _ => ?_) | refine OLe.ite ?_ ?_ | refine OLe.elim (fun _ => ?_) (fun _ => ?_) | split)
set_option maxHeartbeats 1000000 in
set_option maxRecDepth 100000 in
theorem ferrymanlaw02_TextNext.con (k : Nat) (M : Hp) (a0 : Str) (a1 : Str) (r : Bool)  (h : ferrymanlaw02_TextNext k a0 a1 = some r) : Con Try.prog 5 #[.string (bs a0), .string (bs a1)] M [] (fun v M' Γ' => v = .bool r ∧ Γ' = []) := by
  refine con_of_wp Try.func5 rfl Try.ntmps5 Try.results5 rfl ?_
  intro w F rn S hrn
  have E := Ext.refl w
  have HM := Hp.le_refl M
  have H := h
  unfold ferrymanlaw02_TextNext at H
  refine Wp_seq ?_
  refine Wp_region_lit ?_
  refine W_v (.bool false) (x_assign rfl) rfl ?_
  refine Wl_nil ?_
  refine tn ?_
  refine Wp_seq ?_
  refine Wp_seq ?_
  refine Wp_region_lit ?_
  obtain ⟨t1, ht2, H⟩ := bindS H
  refine W_callF fn12 (ferrymanlaw02_works.con k M  t1  ht2) S rfl rfl (by rintro _ _ _ ⟨_, rfl⟩; exact flat_nil) ?_
  rintro _ w3 _ Γ' E' S ⟨rfl, rfl⟩
  replace E := E.trans E'
  clear E'
  refine W_v (.bool (!t1)) (x_not rfl) rfl ?_
  refine W_v (.bool (!t1)) (x_move rfl) rfl ?_
  obtain ⟨o24, o24h, o24H⟩ := bindS H
  clear H
  refine Wl_cutN 5 (fun ρ w' => ∃ (x23 : Bool) (Mj : Hp), (x23) = o24 ∧ Agree ρ [(0, .string (bs a0)), (1, .string (bs a1)), (13, .bool x23)] ∧ M.le Mj ∧ Ext w w' ∧ St w' Mj F []) ?_ ?_
  · have H := o24h
    have LE25 := Hp.le_refl M
    rcases iteS H with ⟨hb22, H⟩ | ⟨hb22, H⟩
    · skip
      refine W_no (skF hb22) rfl ?_
      refine W_no (skF hb22) rfl ?_
      refine W_no (skF hb22) rfl ?_
      refine W_no (skF hb22) rfl ?_
      refine W_v (.bool true) (x_pick (k := true) (congrArg Value.bool hb22) rfl) rfl ?_
      refine Wl_nil ?_
      exact ⟨true, M, Option.some.inj H, ⟨rfl, rfl, rfl, trivial⟩, (Hp.le_refl M), E, S.pick [] (by decide)⟩
    · skip
      refine W_yes (congrArg some hb22) ?_
      refine W_v (.string (bs a0)) (x_move rfl) rfl ?_
      refine W_yes (congrArg some hb22) ?_
      refine W_v (.string (bs a1)) (x_move rfl) rfl ?_
      refine W_yes (congrArg some hb22) ?_
      refine W_bslice S #[.string (bs a0), .string (bs a1)] Try.underlying40 ty9 rfl rfl #[.string (bs ([] : Str)), .string (bs ([] : Str))] (by kernel_rfl) (by kernel_rfl) rfl ?_
      intro b26 w27 E' S
      replace E := E.trans E'
      clear E'
      replace S := S.blk_row (r := rStr) (l := ([a0, a1] : List Str)) 0 rfl 2 (Nat.le_refl 2) rfl (Cells.cons (vs := [.string (bs a0)]) (rfl) (Cells.cons (vs := [.string (bs a1)]) (rfl) Cells.nil))
      refine W_yes (congrArg some hb22) ?_
      obtain ⟨M29, hM30, hf31, S⟩ := S.row_freeze 0 rfl
      replace HM := Hp.le_trans HM hM30
      replace LE25 := Hp.le_trans LE25 hM30
      obtain ⟨t32, ht33, H⟩ := bindS H
      refine W_callF fn11 (ferrymanlaw02_long.con k M29 (some ⟨b26, 0, none⟩) 2 ([a0, a1] : List Str) t32 hf31 ht33) S rfl rfl (by rintro _ _ _ ⟨_, rfl⟩; exact flat_nil) ?_
      rintro _ w34 _ Γ' E' S ⟨rfl, rfl⟩
      replace E := E.trans E'
      clear E'
      refine W_v (.bool t32) (x_pick (k := false) (congrArg Value.bool hb22) rfl) rfl ?_
      refine Wl_nil ?_
      exact ⟨t32, M29, Option.some.inj H, ⟨rfl, rfl, rfl, trivial⟩, LE25, E, S.pick [] (by decide)⟩
  · clear o24h
    rintro ρ w35 ⟨x23, M36, rfl, hρ, hM37, E, S⟩
    rw [agree_eta hρ]
    clear hρ
    replace HM := Hp.le_trans HM hM37
    have H := o24H
    clear o24H
    refine Wl_nil ?_
    refine tn ?_
    rcases iteS H with ⟨hb38, H⟩ | ⟨hb38, H⟩
    · refine Wp_cond_true (congrArg Value.bool hb38) ?_
      refine Wp_seq ?_
      refine Wp_region_lit ?_
      obtain ⟨t39, ht40, H⟩ := bindS H
      refine W_callF fn12 (ferrymanlaw02_works.con k M36  t39  ht40) S rfl rfl (by rintro _ _ _ ⟨_, rfl⟩; exact flat_nil) ?_
      rintro _ w41 _ Γ' E' S ⟨rfl, rfl⟩
      replace E := E.trans E'
      clear E'
      refine W_v (.bool t39) (x_assign rfl) rfl ?_
      refine Wl_nil ?_
      refine tn ?_
      refine Wp_ret ?_
      refine tr (?_)
      obtain rfl := Option.some.inj H
      exact ⟨_, _, _, fun w1 e1 => run_resR (vs := [.bool t39]) (FA.cons (rfl) (FA.nil)), HM, E, S.pick [] (by decide), ⟨rfl, rfl⟩⟩
    · refine Wp_cond_false (congrArg Value.bool hb38) ?_
      refine Wp_skip ?_
      refine tn ?_
      refine Wp_seq ?_
      refine Wp_region_lit ?_
      refine W_v (.string (bs a0)) (x_move rfl) rfl ?_
      obtain ⟨t42, ht43, H⟩ := bindS H
      refine W_callF fn19 (text_Next.con k M36 a0 t42  ht43) S rfl rfl (by rintro _ _ _ ⟨_, rfl⟩; exact flat_nil) ?_
      rintro _ w44 _ Γ' E' S ⟨rfl, rfl⟩
      replace E := E.trans E'
      clear E'
      refine W_v (.string (bs t42)) (x_assign rfl) rfl ?_
      refine Wl_nil ?_
      refine tn ?_
      refine Wp_seq ?_
      refine Wp_seq ?_
      refine Wp_region_lit ?_
      refine W_v (.string (bs a0)) (x_move rfl) rfl ?_
      refine W_v (.string (bs t42)) (x_move rfl) rfl ?_
      obtain ⟨t45, ht46, H⟩ := bindS H
      refine W_callF fn13 (text_Compare.con k M36 a0 t42 t45  ht46) S rfl rfl (by rintro _ _ _ ⟨_, rfl⟩; exact flat_nil) ?_
      rintro _ w47 _ Γ' E' S ⟨rfl, rfl⟩
      replace E := E.trans E'
      clear E'
      refine W_v (.bool (t45 != (-1 : Int))) (x_ibin rfl rfl rfl rfl) rfl ?_
      refine W_v (.bool (t45 != (-1 : Int))) (x_move rfl) rfl ?_
      obtain ⟨o68, o68h, o68H⟩ := bindS H
      clear H
      refine Wl_cutN 9 (fun ρ w' => ∃ (x67 : Bool), (x67) = o68 ∧ Agree ρ [(0, .string (bs a0)), (1, .string (bs a1)), (5, .string (bs t42)), (30, .bool x67)] ∧ Ext w w' ∧ St w' M36 F []) ?_ ?_
      · have H := o68h
        rcases iteS H with ⟨hb66, H⟩ | ⟨hb66, H⟩
        · skip
          refine W_no (skF hb66) rfl ?_
          refine W_no (skF hb66) rfl ?_
          refine W_no (skF hb66) rfl ?_
          refine W_no (skF hb66) rfl ?_
          refine W_no (skF hb66) rfl ?_
          refine W_no (skF hb66) rfl ?_
          refine W_no (skF hb66) rfl ?_
          refine W_no (skF hb66) rfl ?_
          refine W_v (.bool true) (x_pick (k := true) (congrArg Value.bool hb66) rfl) rfl ?_
          refine Wl_nil ?_
          exact ⟨true, Option.some.inj H, ⟨rfl, rfl, rfl, rfl, trivial⟩, E, S.pick [] (by decide)⟩
        · skip
          refine W_yes (congrArg some hb66) ?_
          refine W_v (.string (bs t42)) (x_move rfl) rfl ?_
          refine W_yes (congrArg some hb66) ?_
          refine W_v (.string (bs a1)) (x_move rfl) rfl ?_
          refine W_yes (congrArg some hb66) ?_
          obtain ⟨t69, ht70, H⟩ := bindS H
          refine W_callF fn19 (text_Next.con k M36 a1 t69  ht70) S rfl rfl (by rintro _ _ _ ⟨_, rfl⟩; exact flat_nil) ?_
          rintro _ w71 _ Γ' E' S ⟨rfl, rfl⟩
          replace E := E.trans E'
          clear E'
          refine W_yes (congrArg some hb66) ?_
          obtain ⟨t72, ht73, H⟩ := bindS H
          refine W_callF fn13 (text_Compare.con k M36 t42 t69 t72  ht73) S rfl rfl (by rintro _ _ _ ⟨_, rfl⟩; exact flat_nil) ?_
          rintro _ w74 _ Γ' E' S ⟨rfl, rfl⟩
          replace E := E.trans E'
          clear E'
          refine W_yes (congrArg some hb66) ?_
          refine W_v (.string (bs a0)) (x_move rfl) rfl ?_
          refine W_yes (congrArg some hb66) ?_
          refine W_v (.string (bs a1)) (x_move rfl) rfl ?_
          refine W_yes (congrArg some hb66) ?_
          obtain ⟨t75, ht76, H⟩ := bindS H
          refine W_callF fn13 (text_Compare.con k M36 a0 a1 t75  ht76) S rfl rfl (by rintro _ _ _ ⟨_, rfl⟩; exact flat_nil) ?_
          rintro _ w77 _ Γ' E' S ⟨rfl, rfl⟩
          replace E := E.trans E'
          clear E'
          refine W_yes (congrArg some hb66) ?_
          refine W_v (.bool (t72 != t75)) (x_ibin rfl rfl rfl rfl) rfl ?_
          refine W_v (.bool (t72 != t75)) (x_pick (k := false) (congrArg Value.bool hb66) rfl) rfl ?_
          refine Wl_nil ?_
          exact ⟨(t72 != t75), Option.some.inj H, ⟨rfl, rfl, rfl, rfl, trivial⟩, E, S.pick [] (by decide)⟩
      · clear o68h
        rintro ρ w78 ⟨x67, rfl, hρ, E, S⟩
        rw [agree_eta hρ]
        clear hρ
        have H := o68H
        clear o68H
        refine Wl_nil ?_
        refine tn ?_
        rcases iteS H with ⟨hb79, H⟩ | ⟨hb79, H⟩
        · refine Wp_cond_true (congrArg Value.bool hb79) ?_
          refine Wp_seq ?_
          refine Wp_region_lit ?_
          refine W_v (.bool false) (x_assign rfl) rfl ?_
          refine Wl_nil ?_
          refine tn ?_
          refine Wp_ret ?_
          refine tr (?_)
          obtain rfl := Option.some.inj H
          exact ⟨_, _, _, fun w1 e1 => run_resR (vs := [.bool false]) (FA.cons (rfl) (FA.nil)), HM, E, S.pick [] (by decide), ⟨rfl, rfl⟩⟩
        · refine Wp_cond_false (congrArg Value.bool hb79) ?_
          refine Wp_skip ?_
          refine tn ?_
          refine Wp_seq ?_
          refine Wp_region_lit ?_
          refine W_v (.string (bs a0)) (x_move rfl) rfl ?_
          refine W_v (.string (bs a1)) (x_move rfl) rfl ?_
          obtain ⟨t80, ht81, H⟩ := bindS H
          refine W_callF fn13 (text_Compare.con k M36 a0 a1 t80  ht81) S rfl rfl (by rintro _ _ _ ⟨_, rfl⟩; exact flat_nil) ?_
          rintro _ w82 _ Γ' E' S ⟨rfl, rfl⟩
          replace E := E.trans E'
          clear E'
          refine W_v (.bool (decide (t80 ≥ (0 : Int)))) (x_ibin rfl rfl rfl rfl) rfl ?_
          refine W_v (.bool (decide (t80 ≥ (0 : Int)))) (x_move rfl) rfl ?_
          obtain ⟨o91, o91h, o91H⟩ := bindS H
          clear H
          refine Wl_cutN 5 (fun ρ w' => ∃ (x90 : Bool), (x90) = o91 ∧ Agree ρ [(40, .bool x90)] ∧ Ext w w' ∧ St w' M36 F []) ?_ ?_
          · have H := o91h
            rcases iteS H with ⟨hb89, H⟩ | ⟨hb89, H⟩
            · skip
              refine W_no (skF hb89) rfl ?_
              refine W_no (skF hb89) rfl ?_
              refine W_no (skF hb89) rfl ?_
              refine W_no (skF hb89) rfl ?_
              refine W_v (.bool true) (x_pick (k := true) (congrArg Value.bool hb89) rfl) rfl ?_
              refine Wl_nil ?_
              exact ⟨true, Option.some.inj H, ⟨rfl, trivial⟩, E, S.pick [] (by decide)⟩
            · skip
              refine W_yes (congrArg some hb89) ?_
              refine W_v (.string (bs t42)) (x_move rfl) rfl ?_
              refine W_yes (congrArg some hb89) ?_
              refine W_v (.string (bs a1)) (x_move rfl) rfl ?_
              refine W_yes (congrArg some hb89) ?_
              obtain ⟨t92, ht93, H⟩ := bindS H
              refine W_callF fn13 (text_Compare.con k M36 t42 a1 t92  ht93) S rfl rfl (by rintro _ _ _ ⟨_, rfl⟩; exact flat_nil) ?_
              rintro _ w94 _ Γ' E' S ⟨rfl, rfl⟩
              replace E := E.trans E'
              clear E'
              refine W_yes (congrArg some hb89) ?_
              refine W_v (.bool (decide (t92 ≤ (0 : Int)))) (x_ibin rfl rfl rfl rfl) rfl ?_
              refine W_v (.bool (decide (t92 ≤ (0 : Int)))) (x_pick (k := false) (congrArg Value.bool hb89) rfl) rfl ?_
              refine Wl_nil ?_
              exact ⟨(decide (t92 ≤ (0 : Int))), Option.some.inj H, ⟨rfl, trivial⟩, E, S.pick [] (by decide)⟩
          · clear o91h
            rintro ρ w95 ⟨x90, rfl, hρ, E, S⟩
            rw [agree_eta hρ]
            clear hρ
            have H := o91H
            clear o91H
            refine W_v (.bool x90) (x_assign rfl) rfl ?_
            refine Wl_nil ?_
            refine tn ?_
            refine Wp_ret ?_
            obtain rfl := Option.some.inj H
            exact ⟨_, _, _, fun w1 e1 => run_resR (vs := [.bool x90]) (FA.cons (rfl) (FA.nil)), HM, E, S.pick [] (by decide), ⟨rfl, rfl⟩⟩
end Go.Proofs.Ytnfeinhialojnaa
