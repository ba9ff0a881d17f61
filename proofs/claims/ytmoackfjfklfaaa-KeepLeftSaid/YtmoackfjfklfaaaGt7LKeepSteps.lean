import Derived.Test.YtmoackfjfklfaaaGt7
namespace Go.Proofs.Ytmoackfjfklfaaa
open Go
set_option linter.unusedVariables false
set_option linter.unusedSimpArgs false
/-! ### ferryman/ferrymanlaw11.KeepSteps: function 6 -/
def ferrymanlaw11_KeepSteps (k : Nat) (a0 : (List api_Version)) (a1 : Int) (a2 : Int) : Option (Bool) :=
  (Option.bind (α := Bool) (if ((decide ((a0.length : Int) > (300 : Int))) || (decide (a2 < a1))) = true then some (true) else (Option.bind (ferrymanref11_Legal k a0) (fun t11 => some ((!t11))))) (fun x9 => (Option.bind (α := Bool) (if x9 = true then some (true) else (Option.bind (ferrymanlaw11_awake k ) (fun t24 => some ((!t24))))) (fun x22 => (if x22 = true then (Option.bind (ferrymanlaw11_awake k ) (fun t29 => some t29)) else (Option.bind (keep_Kept k a0 a1) (fun t32 => (Option.bind (keep_Legal k t32) (fun t41 => (Option.bind (α := Bool) (if t41 = true then (Option.bind (ferrymanref11_Legal k t32) (fun t53 => some (t53))) else some (false)) (fun x51 => (Option.bind (α := Bool) (if x51 = true then (Option.bind (keep_Kept k t32 a2) (fun t103 => (Option.bind (keep_Kept k a0 a2) (fun t109 => (Option.bind (ferrymanref11_Same k t103 t109) (fun t121 => some (t121))))))) else some (false)) (fun x100 => (Option.bind (α := Bool) (if x100 = true then (Option.bind (keep_Kept k t32 a1) (fun t155 => (Option.bind (ferrymanref11_Same k t155 t32) (fun t164 => some (t164))))) else some (false)) (fun x152 => some x152)))))))))))))))
set_option maxHeartbeats 2000000 in
theorem ferrymanlaw11_KeepSteps.mono {k : Nat} {a0 : (List api_Version)} {a1 : Int} {a2 : Int} : OLe (ferrymanlaw11_KeepSteps k a0 a1 a2) (ferrymanlaw11_KeepSteps (k + 1) a0 a1 a2) := by
  unfold ferrymanlaw11_KeepSteps
  repeat' (first | exact OLe.none | exact OLe.some | exact ferrymanlaw11_awake.mono | exact ferrymanref11_Legal.mono | exact ferrymanref11_Same.mono | exact keep_Kept.mono | exact keep_Legal.mono | refine OLe.bind ?_ (fun _ => ?_) | refine OLe.ite ?_ ?_ | refine OLe.elim (fun _ => ?_) (fun _ => ?_) | split)
set_option maxHeartbeats 4000000 in
set_option maxRecDepth 100000 in
theorem ferrymanlaw11_KeepSteps.con (k : Nat) (M : Hp) (A0 : Option Addr) (c0 : Nat) (a0 : (List api_Version)) (a1 : Int) (a2 : Int) (r : Bool) (hr0 : SlR r_api_Version M (.slice A0 a0.length c0) a0) (h : ferrymanlaw11_KeepSteps k a0 a1 a2 = some r) : Con Try.prog 6 #[.slice A0 a0.length c0, .int .i64 a1, .int .i64 a2] M [] (fun v M' Γ' => v = .bool r ∧ Γ' = []) := by
  refine con_of_wp Try.func6 rfl Try.ntmps6 Try.results6 rfl ?_
  intro w F rn S hrn
  have E := Ext.refl w
  have HM := Hp.le_refl M
  have H := h
  unfold ferrymanlaw11_KeepSteps at H
  refine Wp_seq ?_
  refine Wp_region_lit ?_
  refine W_v (.bool false) (x_assign rfl) rfl ?_
  refine Wl_nil ?_
  refine tn ?_
  refine Wp_seq ?_
  refine Wp_seq ?_
  refine Wp_region_lit ?_
  refine W_v (.slice A0 a0.length c0) (x_move rfl) rfl ?_
  refine W_v (.int .i64 (a0.length : Int)) (x_len_slice (n := a0.length) Try.underlying22 rfl) rfl ?_
  refine W_v (.bool (decide ((a0.length : Int) > (300 : Int)))) (x_ibin rfl rfl rfl rfl) rfl ?_
  refine W_v (.bool (decide ((a0.length : Int) > (300 : Int)))) (x_move rfl) rfl ?_
  refine Wl_cutN 4 (fun ρ w' => Agree ρ [(0, .slice A0 a0.length c0), (1, .int .i64 a1), (2, .int .i64 a2), (15, .bool ((decide ((a0.length : Int) > (300 : Int))) || (decide (a2 < a1))))] ∧ w = w') ?_ ?_
  · rcases boolCases (decide ((a0.length : Int) > (300 : Int))) with hb1 | hb1
    · skip
      refine W_yes (congrArg some hb1) ?_
      refine W_v (.int .i64 a2) (x_move rfl) rfl ?_
      refine W_yes (congrArg some hb1) ?_
      refine W_v (.int .i64 a1) (x_move rfl) rfl ?_
      refine W_yes (congrArg some hb1) ?_
      refine W_v (.bool (decide (a2 < a1))) (x_ibin rfl rfl rfl rfl) rfl ?_
      refine W_v (.bool (decide (a2 < a1))) (x_pick (k := false) (congrArg Value.bool hb1) rfl) rfl ?_
      refine Wl_nil ?_
      exact ⟨⟨rfl, rfl, rfl, (by first | rfl | (rw [hb1]; rfl) | (simp only [hb1]; rfl)), trivial⟩, rfl⟩
    · skip
      refine W_no (skF hb1) rfl ?_
      refine W_no (skF hb1) rfl ?_
      refine W_no (skF hb1) rfl ?_
      refine W_v (.bool true) (x_pick (k := true) (congrArg Value.bool hb1) rfl) rfl ?_
      refine Wl_nil ?_
      exact ⟨⟨rfl, rfl, rfl, (by first | rfl | (rw [hb1]; rfl) | (simp only [hb1]; rfl)), trivial⟩, rfl⟩
  · rintro ρ _ ⟨hρ, rfl⟩
    rw [agree_eta hρ]
    clear hρ
    skip
    refine W_v (.bool ((decide ((a0.length : Int) > (300 : Int))) || (decide (a2 < a1)))) (x_move rfl) rfl ?_
    obtain ⟨o10, o10h, o10H⟩ := bindS H
    clear H
    refine Wl_cutN 4 (fun ρ w' => ∃ (x9 : Bool), (x9) = o10 ∧ Agree ρ [(0, .slice A0 a0.length c0), (1, .int .i64 a1), (2, .int .i64 a2), (20, .bool x9)] ∧ Ext w w' ∧ St w' M F []) ?_ ?_
    · have H := o10h
      rcases iteS H with ⟨hb8, H⟩ | ⟨hb8, H⟩
      · skip
        refine W_no (skF hb8) rfl ?_
        refine W_no (skF hb8) rfl ?_
        refine W_no (skF hb8) rfl ?_
        refine W_v (.bool true) (x_pick (k := true) (congrArg Value.bool hb8) rfl) rfl ?_
        refine Wl_nil ?_
        exact ⟨true, Option.some.inj H, ⟨rfl, rfl, rfl, rfl, trivial⟩, E, S.pick [] (by decide)⟩
      · skip
        refine W_yes (congrArg some hb8) ?_
        refine W_v (.slice A0 a0.length c0) (x_move rfl) rfl ?_
        refine W_yes (congrArg some hb8) ?_
        obtain ⟨t11, ht12, H⟩ := bindS H
        refine W_callF fn9 (ferrymanref11_Legal.con k M A0 c0 a0 t11 hr0 ht12) S rfl rfl (by rintro _ _ _ ⟨_, rfl⟩; exact flat_nil) ?_
        rintro _ w13 _ Γ' E' S ⟨rfl, rfl⟩
        replace E := E.trans E'
        clear E'
        refine W_yes (congrArg some hb8) ?_
        refine W_v (.bool (!t11)) (x_not rfl) rfl ?_
        refine W_v (.bool (!t11)) (x_pick (k := false) (congrArg Value.bool hb8) rfl) rfl ?_
        refine Wl_nil ?_
        exact ⟨(!t11), Option.some.inj H, ⟨rfl, rfl, rfl, rfl, trivial⟩, E, S.pick [] (by decide)⟩
    · clear o10h
      rintro ρ w14 ⟨x9, rfl, hρ, E, S⟩
      rw [agree_eta hρ]
      clear hρ
      have H := o10H
      clear o10H
      refine W_v (.bool x9) (x_move rfl) rfl ?_
      obtain ⟨o23, o23h, o23H⟩ := bindS H
      clear H
      refine Wl_cutN 3 (fun ρ w' => ∃ (x22 : Bool), (x22) = o23 ∧ Agree ρ [(0, .slice A0 a0.length c0), (1, .int .i64 a1), (2, .int .i64 a2), (24, .bool x22)] ∧ Ext w w' ∧ St w' M F []) ?_ ?_
      · have H := o23h
        rcases iteS H with ⟨hb21, H⟩ | ⟨hb21, H⟩
        · skip
          refine W_no (skF hb21) rfl ?_
          refine W_no (skF hb21) rfl ?_
          refine W_v (.bool true) (x_pick (k := true) (congrArg Value.bool hb21) rfl) rfl ?_
          refine Wl_nil ?_
          exact ⟨true, Option.some.inj H, ⟨rfl, rfl, rfl, rfl, trivial⟩, E, S.pick [] (by decide)⟩
        · skip
          refine W_yes (congrArg some hb21) ?_
          obtain ⟨t24, ht25, H⟩ := bindS H
          refine W_callF fn10 (ferrymanlaw11_awake.con k M  t24  ht25) S rfl rfl (by rintro _ _ _ ⟨_, rfl⟩; exact flat_nil) ?_
          rintro _ w26 _ Γ' E' S ⟨rfl, rfl⟩
          replace E := E.trans E'
          clear E'
          refine W_yes (congrArg some hb21) ?_
          refine W_v (.bool (!t24)) (x_not rfl) rfl ?_
          refine W_v (.bool (!t24)) (x_pick (k := false) (congrArg Value.bool hb21) rfl) rfl ?_
          refine Wl_nil ?_
          exact ⟨(!t24), Option.some.inj H, ⟨rfl, rfl, rfl, rfl, trivial⟩, E, S.pick [] (by decide)⟩
      · clear o23h
        rintro ρ w27 ⟨x22, rfl, hρ, E, S⟩
        rw [agree_eta hρ]
        clear hρ
        have H := o23H
        clear o23H
        refine Wl_nil ?_
        refine tn ?_
        rcases iteS H with ⟨hb28, H⟩ | ⟨hb28, H⟩
        · refine Wp_cond_true (congrArg Value.bool hb28) ?_
          refine Wp_seq ?_
          refine Wp_region_lit ?_
          obtain ⟨t29, ht30, H⟩ := bindS H
          refine W_callF fn10 (ferrymanlaw11_awake.con k M  t29  ht30) S rfl rfl (by rintro _ _ _ ⟨_, rfl⟩; exact flat_nil) ?_
          rintro _ w31 _ Γ' E' S ⟨rfl, rfl⟩
          replace E := E.trans E'
          clear E'
          refine W_v (.bool t29) (x_assign rfl) rfl ?_
          refine Wl_nil ?_
          refine tn ?_
          refine Wp_ret ?_
          refine tr (?_)
          obtain rfl := Option.some.inj H
          exact ⟨_, _, _, fun w1 e1 => run_resR (vs := [.bool t29]) (FA.cons (rfl) (FA.nil)), HM, E, S.pick [] (by decide), ⟨rfl, rfl⟩⟩
        · refine Wp_cond_false (congrArg Value.bool hb28) ?_
          refine Wp_skip ?_
          refine tn ?_
          refine Wp_seq ?_
          refine Wp_region_lit ?_
          refine W_v (.slice A0 a0.length c0) (x_move rfl) rfl ?_
          refine W_v (.int .i64 a1) (x_move rfl) rfl ?_
          obtain ⟨t32, ht33, H⟩ := bindS H
          refine W_callF fn11 (keep_Kept.con k M A0 c0 a0 a1 t32 hr0 ht33) S rfl rfl (by rintro _ _ _ ⟨_, _, _, rfl⟩; exact (flat_cons (flat_row (fun _ _ _ _ h => h)) flat_nil)) ?_
          rintro _ w37 _ Γ' E' S ⟨A34, c35, rfl, rfl⟩
          replace E := E.trans E'
          clear E'
          refine W_v (.slice A34 t32.length c35) (x_assign rfl) rfl ?_
          refine Wl_nil ?_
          refine tn ?_
          refine Wp_seq ?_
          refine Wp_region_lit ?_
          refine W_v (.slice A34 t32.length c35) (x_move rfl) rfl ?_
          obtain ⟨M38, hM39, hf40, S⟩ := S.row_freeze 0 rfl
          replace HM := Hp.le_trans HM hM39
          replace hr0 := SlR.mono hr0 hM39
          obtain ⟨t41, ht42, H⟩ := bindS H
          refine W_callF fn14 (keep_Legal.con k M38 A34 c35 t32 t41 hf40 ht42) S rfl rfl (by rintro _ _ _ ⟨_, rfl⟩; exact flat_nil) ?_
          rintro _ w43 _ Γ' E' S ⟨rfl, rfl⟩
          replace E := E.trans E'
          clear E'
          refine W_v (.bool t41) (x_move rfl) rfl ?_
          obtain ⟨o52, o52h, o52H⟩ := bindS H
          clear H
          refine Wl_cutN 3 (fun ρ w' => ∃ (x51 : Bool), (x51) = o52 ∧ Agree ρ [(0, .slice A0 a0.length c0), (1, .int .i64 a1), (2, .int .i64 a2), (7, .slice A34 t32.length c35), (34, .bool x51)] ∧ Ext w w' ∧ St w' M38 F []) ?_ ?_
          · have H := o52h
            rcases iteS H with ⟨hb50, H⟩ | ⟨hb50, H⟩
            · skip
              refine W_yes (congrArg some hb50) ?_
              refine W_v (.slice A34 t32.length c35) (x_move rfl) rfl ?_
              refine W_yes (congrArg some hb50) ?_
              obtain ⟨t53, ht54, H⟩ := bindS H
              refine W_callF fn9 (ferrymanref11_Legal.con k M38 A34 c35 t32 t53 hf40 ht54) S rfl rfl (by rintro _ _ _ ⟨_, rfl⟩; exact flat_nil) ?_
              rintro _ w55 _ Γ' E' S ⟨rfl, rfl⟩
              replace E := E.trans E'
              clear E'
              refine W_v (.bool t53) (x_pick (k := true) (congrArg Value.bool hb50) rfl) rfl ?_
              refine Wl_nil ?_
              exact ⟨t53, Option.some.inj H, ⟨rfl, rfl, rfl, rfl, rfl, trivial⟩, E, S.pick [] (by decide)⟩
            · skip
              refine W_no (skT hb50) rfl ?_
              refine W_no (skT hb50) rfl ?_
              refine W_v (.bool false) (x_pick (k := false) (congrArg Value.bool hb50) rfl) rfl ?_
              refine Wl_nil ?_
              exact ⟨false, Option.some.inj H, ⟨rfl, rfl, rfl, rfl, rfl, trivial⟩, E, S.pick [] (by decide)⟩
          · clear o52h
            rintro ρ w56 ⟨x51, rfl, hρ, E, S⟩
            rw [agree_eta hρ]
            clear hρ
            have H := o52H
            clear o52H
            refine W_v (.bool x51) (x_move rfl) rfl ?_
            obtain ⟨o101, o101h, o101H⟩ := bindS H
            clear H
            refine Wl_cutN 8 (fun ρ w' => ∃ (x100 : Bool) (Mj : Hp), (x100) = o101 ∧ Agree ρ [(1, .int .i64 a1), (7, .slice A34 t32.length c35), (43, .bool x100)] ∧ M38.le Mj ∧ Ext w w' ∧ St w' Mj F []) ?_ ?_
            · have H := o101h
              have LE102 := Hp.le_refl M38
              rcases iteS H with ⟨hb99, H⟩ | ⟨hb99, H⟩
              · skip
                refine W_yes (congrArg some hb99) ?_
                refine W_v (.slice A34 t32.length c35) (x_move rfl) rfl ?_
                refine W_yes (congrArg some hb99) ?_
                refine W_v (.int .i64 a2) (x_move rfl) rfl ?_
                refine W_yes (congrArg some hb99) ?_
                obtain ⟨t103, ht104, H⟩ := bindS H
                refine W_callF fn11 (keep_Kept.con k M38 A34 c35 t32 a2 t103 hf40 ht104) S rfl rfl (by rintro _ _ _ ⟨_, _, _, rfl⟩; exact (flat_cons (flat_row (fun _ _ _ _ h => h)) flat_nil)) ?_
                rintro _ w108 _ Γ' E' S ⟨A105, c106, rfl, rfl⟩
                replace E := E.trans E'
                clear E'
                refine W_yes (congrArg some hb99) ?_
                refine W_v (.slice A0 a0.length c0) (x_move rfl) rfl ?_
                refine W_yes (congrArg some hb99) ?_
                refine W_v (.int .i64 a2) (x_move rfl) rfl ?_
                refine W_yes (congrArg some hb99) ?_
                obtain ⟨t109, ht110, H⟩ := bindS H
                refine W_callF fn11 (keep_Kept.con k M38 A0 c0 a0 a2 t109 hr0 ht110) S rfl rfl (by rintro _ _ _ ⟨_, _, _, rfl⟩; exact (flat_cons (flat_row (fun _ _ _ _ h => h)) flat_nil)) ?_
                rintro _ w114 _ Γ' E' S ⟨A111, c112, rfl, rfl⟩
                replace E := E.trans E'
                clear E'
                refine W_yes (congrArg some hb99) ?_
                obtain ⟨M115, hM116, hf117, S⟩ := S.row_freeze 1 rfl
                replace HM := Hp.le_trans HM hM116
                replace LE102 := Hp.le_trans LE102 hM116
                replace hr0 := SlR.mono hr0 hM116
                replace hf40 := SlR.mono hf40 hM116
                obtain ⟨M118, hM119, hf120, S⟩ := S.row_freeze 0 rfl
                replace HM := Hp.le_trans HM hM119
                replace LE102 := Hp.le_trans LE102 hM119
                replace hr0 := SlR.mono hr0 hM119
                replace hf40 := SlR.mono hf40 hM119
                replace hf117 := SlR.mono hf117 hM119
                obtain ⟨t121, ht122, H⟩ := bindS H
                refine W_callF fn15 (ferrymanref11_Same.con k M118 A105 c106 t103 A111 c112 t109 t121 hf117 hf120 ht122) S rfl rfl (by rintro _ _ _ ⟨_, rfl⟩; exact flat_nil) ?_
                rintro _ w123 _ Γ' E' S ⟨rfl, rfl⟩
                replace E := E.trans E'
                clear E'
                refine W_v (.bool t121) (x_pick (k := true) (congrArg Value.bool hb99) rfl) rfl ?_
                refine Wl_nil ?_
                exact ⟨t121, M118, Option.some.inj H, ⟨rfl, rfl, rfl, trivial⟩, LE102, E, S.pick [] (by decide)⟩
              · skip
                refine W_no (skT hb99) rfl ?_
                refine W_no (skT hb99) rfl ?_
                refine W_no (skT hb99) rfl ?_
                refine W_no (skT hb99) rfl ?_
                refine W_no (skT hb99) rfl ?_
                refine W_no (skT hb99) rfl ?_
                refine W_no (skT hb99) rfl ?_
                refine W_v (.bool false) (x_pick (k := false) (congrArg Value.bool hb99) rfl) rfl ?_
                refine Wl_nil ?_
                exact ⟨false, M38, Option.some.inj H, ⟨rfl, rfl, rfl, trivial⟩, (Hp.le_refl M38), E, S.pick [] (by decide)⟩
            · clear o101h
              rintro ρ w124 ⟨x100, M125, rfl, hρ, hM126, E, S⟩
              rw [agree_eta hρ]
              clear hρ
              replace HM := Hp.le_trans HM hM126
              replace hr0 := SlR.mono hr0 hM126
              replace hf40 := SlR.mono hf40 hM126
              have H := o101H
              clear o101H
              refine W_v (.bool x100) (x_move rfl) rfl ?_
              obtain ⟨o153, o153h, o153H⟩ := bindS H
              clear H
              refine Wl_cutN 6 (fun ρ w' => ∃ (x152 : Bool) (Mj : Hp), (x152) = o153 ∧ Agree ρ [(50, .bool x152)] ∧ M125.le Mj ∧ Ext w w' ∧ St w' Mj F []) ?_ ?_
              · have H := o153h
                have LE154 := Hp.le_refl M125
                rcases iteS H with ⟨hb151, H⟩ | ⟨hb151, H⟩
                · skip
                  refine W_yes (congrArg some hb151) ?_
                  refine W_v (.slice A34 t32.length c35) (x_move rfl) rfl ?_
                  refine W_yes (congrArg some hb151) ?_
                  refine W_v (.int .i64 a1) (x_move rfl) rfl ?_
                  refine W_yes (congrArg some hb151) ?_
                  obtain ⟨t155, ht156, H⟩ := bindS H
                  refine W_callF fn11 (keep_Kept.con k M125 A34 c35 t32 a1 t155 hf40 ht156) S rfl rfl (by rintro _ _ _ ⟨_, _, _, rfl⟩; exact (flat_cons (flat_row (fun _ _ _ _ h => h)) flat_nil)) ?_
                  rintro _ w160 _ Γ' E' S ⟨A157, c158, rfl, rfl⟩
                  replace E := E.trans E'
                  clear E'
                  refine W_yes (congrArg some hb151) ?_
                  refine W_v (.slice A34 t32.length c35) (x_move rfl) rfl ?_
                  refine W_yes (congrArg some hb151) ?_
                  obtain ⟨M161, hM162, hf163, S⟩ := S.row_freeze 0 rfl
                  replace HM := Hp.le_trans HM hM162
                  replace hM126 := Hp.le_trans hM126 hM162
                  replace LE154 := Hp.le_trans LE154 hM162
                  replace hr0 := SlR.mono hr0 hM162
                  replace hf40 := SlR.mono hf40 hM162
                  obtain ⟨t164, ht165, H⟩ := bindS H
                  refine W_callF fn15 (ferrymanref11_Same.con k M161 A157 c158 t155 A34 c35 t32 t164 hf163 hf40 ht165) S rfl rfl (by rintro _ _ _ ⟨_, rfl⟩; exact flat_nil) ?_
                  rintro _ w166 _ Γ' E' S ⟨rfl, rfl⟩
                  replace E := E.trans E'
                  clear E'
                  refine W_v (.bool t164) (x_pick (k := true) (congrArg Value.bool hb151) rfl) rfl ?_
                  refine Wl_nil ?_
                  exact ⟨t164, M161, Option.some.inj H, ⟨rfl, trivial⟩, LE154, E, S.pick [] (by decide)⟩
                · skip
                  refine W_no (skT hb151) rfl ?_
                  refine W_no (skT hb151) rfl ?_
                  refine W_no (skT hb151) rfl ?_
                  refine W_no (skT hb151) rfl ?_
                  refine W_no (skT hb151) rfl ?_
                  refine W_v (.bool false) (x_pick (k := false) (congrArg Value.bool hb151) rfl) rfl ?_
                  refine Wl_nil ?_
                  exact ⟨false, M125, Option.some.inj H, ⟨rfl, trivial⟩, (Hp.le_refl M125), E, S.pick [] (by decide)⟩
              · clear o153h
                rintro ρ w167 ⟨x152, M168, rfl, hρ, hM169, E, S⟩
                rw [agree_eta hρ]
                clear hρ
                replace HM := Hp.le_trans HM hM169
                replace hM126 := Hp.le_trans hM126 hM169
                replace hr0 := SlR.mono hr0 hM169
                replace hf40 := SlR.mono hf40 hM169
                have H := o153H
                clear o153H
                refine W_v (.bool x152) (x_assign rfl) rfl ?_
                refine Wl_nil ?_
                refine tn ?_
                refine Wp_ret ?_
                obtain rfl := Option.some.inj H
                exact ⟨_, _, _, fun w1 e1 => run_resR (vs := [.bool x152]) (FA.cons (rfl) (FA.nil)), HM, E, S.pick [] (by decide), ⟨rfl, rfl⟩⟩
end Go.Proofs.Ytmoackfjfklfaaa
