import Derived.Test.YtmoackfjfklfaaaGt7
namespace Go.Proofs.Ytmoackfjfklfaaa
open Go
set_option linter.unusedVariables false
set_option linter.unusedSimpArgs false
/-! ### ferryman/ferrymanlaw11.KeepMore: function 5 -/
def ferrymanlaw11_KeepMore (k : Nat) (a0 : (List api_Version)) (a1 : api_Version) (a2 : Int) : Option (Bool) :=
  (if ([a1] : List api_Version).length + a0.length ≤ 3518437208883 then (Option.bind (α := List api_Version × Bool) (if (decide ((a0.length : Int) > (300 : Int))) = true then some ((([a1] : List api_Version) ++ a0), true) else (Option.bind (ferrymanref11_Legal k (([a1] : List api_Version) ++ a0)) (fun t41 => some ((([a1] : List api_Version) ++ a0), (!t41))))) (fun ⟨x28, x32⟩ => (Option.bind (α := Bool) (if x32 = true then some (true) else (Option.bind (ferrymanlaw11_awake k ) (fun t56 => some ((!t56))))) (fun x54 => (if x54 = true then (Option.bind (ferrymanlaw11_awake k ) (fun t61 => some t61)) else (Option.bind (keep_Seen k x28 a2) (fun t64 => (if (decide (a2 ≥ a1.TS)) = true then (Option.bind (α := Bool) (if ((t64.2 == (!a1.Tomb)) && ((!t64.2) || ((t64.1.Writer == a1.Writer) && ((t64.1.TS == a1.TS) && ((t64.1.Tomb == a1.Tomb) && (t64.1.Value == a1.Value)))))) = true then (Option.bind (keep_Clash k x28 a2) (fun t85 => some ((!t85)))) else some (false)) (fun x83 => some x83)) else (Option.bind (keep_Seen k a0 a2) (fun t89 => (Option.bind (α := Bool) (if (((t64.1.Writer == t89.1.Writer) && ((t64.1.TS == t89.1.TS) && ((t64.1.Tomb == t89.1.Tomb) && (t64.1.Value == t89.1.Value)))) && (t64.2 == t89.2)) = true then (Option.bind (keep_Clash k x28 a2) (fun t106 => some (t106))) else some (false)) (fun x104 => some x104)))))))))))) else none)
set_option maxHeartbeats 2000000 in
theorem ferrymanlaw11_KeepMore.mono {k : Nat} {a0 : (List api_Version)} {a1 : api_Version} {a2 : Int} : OLe (ferrymanlaw11_KeepMore k a0 a1 a2) (ferrymanlaw11_KeepMore (k + 1) a0 a1 a2) := by
  unfold ferrymanlaw11_KeepMore
  repeat' (first | exact OLe.none | exact OLe.some | exact ferrymanlaw11_awake.mono | exact ferrymanref11_Legal.mono | exact keep_Clash.mono | exact keep_Seen.mono | refine OLe.bind ?_ (fun _ => ?_) | refine OLe.ite ?_ ?_ | refine OLe.elim (fun _ => ?_) (fun _ => ?_) | split)
set_option maxHeartbeats 4000000 in
set_option maxRecDepth 100000 in
theorem ferrymanlaw11_KeepMore.con (k : Nat) (M : Hp) (A0 : Option Addr) (c0 : Nat) (a0 : (List api_Version)) (a1 : api_Version) (a2 : Int) (r : Bool) (hr0 : SlR r_api_Version M (.slice A0 a0.length c0) a0) (h : ferrymanlaw11_KeepMore k a0 a1 a2 = some r) : Con Try.prog 5 #[.slice A0 a0.length c0, .agg #[.int .i64 a1.Writer, .int .i64 a1.TS, .bool a1.Tomb, .string (bs a1.Value)], .int .i64 a2] M [] (fun v M' Γ' => v = .bool r ∧ Γ' = []) := by
  refine con_of_wp Try.func5 rfl Try.ntmps5 Try.results5 rfl ?_
  intro w F rn S hrn
  have E := Ext.refl w
  have HM := Hp.le_refl M
  have H := h
  unfold ferrymanlaw11_KeepMore at H
  refine Wp_seq ?_
  refine Wp_region_lit ?_
  refine W_box S #[.int .i64 a1.Writer, .int .i64 a1.TS, .bool a1.Tomb, .string (bs a1.Value)] rfl rfl rfl ?_
  intro b1 w2 E' S
  replace E := E.trans E'
  clear E'
  refine W_v (.bool false) (x_assign rfl) rfl ?_
  refine Wl_nil ?_
  refine tn ?_
  refine Wp_seq ?_
  refine Wp_region_lit ?_
  refine W_v (.agg #[.int .i64 a1.Writer, .int .i64 a1.TS, .bool a1.Tomb, .string (bs a1.Value)]) (x_loadA (S.blk 0 rfl) ty27 rfl (sub_of_extract rfl) rfl rfl) rfl ?_
  refine W_bslice S #[.int .i64 a1.Writer, .int .i64 a1.TS, .bool a1.Tomb, .string (bs a1.Value)] Try.underlying22 ty27 rfl rfl #[.int .i64 0, .int .i64 0, .bool false, .string (bs ([] : Str))] (by kernel_rfl) (by kernel_rfl) rfl ?_
  intro b4 w5 E' S
  replace E := E.trans E'
  clear E'
  replace S := S.blk_row (r := r_api_Version) (l := ([a1] : List api_Version)) 0 rfl 1 (Nat.le_refl 1) rfl (Cells.cons (vs := [.int .i64 a1.Writer, .int .i64 a1.TS, .bool a1.Tomb, .string (bs a1.Value)]) (rfl) Cells.nil)
  refine W_v (.slice A0 a0.length c0) (x_move rfl) rfl ?_
  obtain ⟨p7, H⟩ := chkS H
  obtain ⟨src8, hs9, hC10⟩ := src_of_read (P := Try.prog) (ρ := r_api_Version) (l := a0) (SlR.world hr0 S) (by decide)
  refine W_append S 0 rfl rfl rfl Try.underlying22 (.inl Try.underlying22) ty27 rfl (by decide) (by decide) hs9 hC10 rfl (by omega) rfl ?_
  intro v11 w12 E' S
  replace E := E.trans E'
  clear E'
  obtain ⟨A13, c14, rfl, _⟩ := (S.row_read 0 rfl).form
  refine W_v (.slice A13 (([a1] : List api_Version) ++ a0).length c14) (x_assign rfl) rfl ?_
  refine Wl_nil ?_
  refine tn ?_
  refine Wp_seq ?_
  refine Wp_seq ?_
  refine Wp_region_lit ?_
  refine W_v (.slice A0 a0.length c0) (x_move rfl) rfl ?_
  refine W_v (.int .i64 (a0.length : Int)) (x_len_slice (n := a0.length) Try.underlying22 rfl) rfl ?_
  refine W_v (.bool (decide ((a0.length : Int) > (300 : Int)))) (x_ibin rfl rfl rfl rfl) rfl ?_
  refine W_v (.bool (decide ((a0.length : Int) > (300 : Int)))) (x_move rfl) rfl ?_
  obtain ⟨o33, o33h, o33H⟩ := bindS H
  clear H
  refine Wl_cutN 4 (fun ρ w' => ∃ (x28 : List api_Version) (x32 : Bool) (A29 : Option Addr) (c30 : Nat) (Mj : Hp), (x28, x32) = o33 ∧ Agree ρ [(0, .slice A0 a0.length c0), (2, .int .i64 a2), (4, .pointer (some ⟨b1, 0, none⟩)), (7, .slice A29 x28.length c30), (23, .bool x32)] ∧ M.le Mj ∧ Ext w w' ∧ St w' Mj F [Blk b1 (.cells #[.int .i64 a1.Writer, .int .i64 a1.TS, .bool a1.Tomb, .string (bs a1.Value)] 27 (0, 0))] ∧ SlR r_api_Version Mj (.slice A29 x28.length c30) x28) ?_ ?_
  · have H := o33h
    have LE34 := Hp.le_refl M
    rcases iteS H with ⟨hb27, H⟩ | ⟨hb27, H⟩
    · skip
      refine W_no (skF hb27) rfl ?_
      refine W_no (skF hb27) rfl ?_
      refine W_no (skF hb27) rfl ?_
      refine W_v (.bool true) (x_pick (k := true) (congrArg Value.bool hb27) rfl) rfl ?_
      refine Wl_nil ?_
      obtain ⟨M35, hM36, hf37, S⟩ := S.row_freeze 0 rfl
      replace HM := Hp.le_trans HM hM36
      replace LE34 := Hp.le_trans LE34 hM36
      replace hr0 := SlR.mono hr0 hM36
      exact ⟨(([a1] : List api_Version) ++ a0), true, A13, c14, M35, Option.some.inj H, ⟨rfl, rfl, rfl, rfl, rfl, trivial⟩, LE34, E, S.pick [0] (by decide), hf37⟩
    · skip
      refine W_yes (congrArg some hb27) ?_
      refine W_v (.slice A13 (([a1] : List api_Version) ++ a0).length c14) (x_move rfl) rfl ?_
      refine W_yes (congrArg some hb27) ?_
      obtain ⟨M38, hM39, hf40, S⟩ := S.row_freeze 0 rfl
      replace HM := Hp.le_trans HM hM39
      replace LE34 := Hp.le_trans LE34 hM39
      replace hr0 := SlR.mono hr0 hM39
      obtain ⟨t41, ht42, H⟩ := bindS H
      refine W_callF fn9 (ferrymanref11_Legal.con k M38 A13 c14 (([a1] : List api_Version) ++ a0) t41 hf40 ht42) S rfl rfl (by rintro _ _ _ ⟨_, rfl⟩; exact flat_nil) ?_
      rintro _ w43 _ Γ' E' S ⟨rfl, rfl⟩
      replace E := E.trans E'
      clear E'
      refine W_yes (congrArg some hb27) ?_
      refine W_v (.bool (!t41)) (x_not rfl) rfl ?_
      refine W_v (.bool (!t41)) (x_pick (k := false) (congrArg Value.bool hb27) rfl) rfl ?_
      refine Wl_nil ?_
      exact ⟨(([a1] : List api_Version) ++ a0), (!t41), A13, c14, M38, Option.some.inj H, ⟨rfl, rfl, rfl, rfl, rfl, trivial⟩, LE34, E, S.pick [0] (by decide), hf40⟩
  · clear o33h
    rintro ρ w44 ⟨x28, x32, A29, c30, M45, rfl, hρ, hM46, E, S, hs31⟩
    rw [agree_eta hρ]
    clear hρ
    replace HM := Hp.le_trans HM hM46
    replace hr0 := SlR.mono hr0 hM46
    have H := o33H
    clear o33H
    refine W_v (.bool x32) (x_move rfl) rfl ?_
    obtain ⟨o55, o55h, o55H⟩ := bindS H
    clear H
    refine Wl_cutN 3 (fun ρ w' => ∃ (x54 : Bool), (x54) = o55 ∧ Agree ρ [(0, .slice A0 a0.length c0), (2, .int .i64 a2), (4, .pointer (some ⟨b1, 0, none⟩)), (7, .slice A29 x28.length c30), (27, .bool x54)] ∧ Ext w w' ∧ St w' M45 F [Blk b1 (.cells #[.int .i64 a1.Writer, .int .i64 a1.TS, .bool a1.Tomb, .string (bs a1.Value)] 27 (0, 0))]) ?_ ?_
    · have H := o55h
      rcases iteS H with ⟨hb53, H⟩ | ⟨hb53, H⟩
      · skip
        refine W_no (skF hb53) rfl ?_
        refine W_no (skF hb53) rfl ?_
        refine W_v (.bool true) (x_pick (k := true) (congrArg Value.bool hb53) rfl) rfl ?_
        refine Wl_nil ?_
        exact ⟨true, Option.some.inj H, ⟨rfl, rfl, rfl, rfl, rfl, trivial⟩, E, S.pick [0] (by decide)⟩
      · skip
        refine W_yes (congrArg some hb53) ?_
        obtain ⟨t56, ht57, H⟩ := bindS H
        refine W_callF fn10 (ferrymanlaw11_awake.con k M45  t56  ht57) S rfl rfl (by rintro _ _ _ ⟨_, rfl⟩; exact flat_nil) ?_
        rintro _ w58 _ Γ' E' S ⟨rfl, rfl⟩
        replace E := E.trans E'
        clear E'
        refine W_yes (congrArg some hb53) ?_
        refine W_v (.bool (!t56)) (x_not rfl) rfl ?_
        refine W_v (.bool (!t56)) (x_pick (k := false) (congrArg Value.bool hb53) rfl) rfl ?_
        refine Wl_nil ?_
        exact ⟨(!t56), Option.some.inj H, ⟨rfl, rfl, rfl, rfl, rfl, trivial⟩, E, S.pick [0] (by decide)⟩
    · clear o55h
      rintro ρ w59 ⟨x54, rfl, hρ, E, S⟩
      rw [agree_eta hρ]
      clear hρ
      have H := o55H
      clear o55H
      refine Wl_nil ?_
      refine tn ?_
      rcases iteS H with ⟨hb60, H⟩ | ⟨hb60, H⟩
      · refine Wp_cond_true (congrArg Value.bool hb60) ?_
        refine Wp_seq ?_
        refine Wp_region_lit ?_
        obtain ⟨t61, ht62, H⟩ := bindS H
        refine W_callF fn10 (ferrymanlaw11_awake.con k M45  t61  ht62) S rfl rfl (by rintro _ _ _ ⟨_, rfl⟩; exact flat_nil) ?_
        rintro _ w63 _ Γ' E' S ⟨rfl, rfl⟩
        replace E := E.trans E'
        clear E'
        refine W_v (.bool t61) (x_assign rfl) rfl ?_
        refine Wl_nil ?_
        refine tn ?_
        refine Wp_ret ?_
        refine tr (?_)
        obtain rfl := Option.some.inj H
        exact ⟨_, _, _, fun w1 e1 => run_resR (vs := [.bool t61]) (FA.cons (rfl) (FA.nil)), HM, E, S.pick [] (by decide), ⟨rfl, rfl⟩⟩
      · refine Wp_cond_false (congrArg Value.bool hb60) ?_
        refine Wp_skip ?_
        refine tn ?_
        refine Wp_seq ?_
        refine Wp_region_lit ?_
        refine W_v (.slice A29 x28.length c30) (x_move rfl) rfl ?_
        refine W_v (.int .i64 a2) (x_move rfl) rfl ?_
        obtain ⟨t64, ht65, H⟩ := bindS H
        refine W_callF fn12 (keep_Seen.con k M45 A29 c30 x28 a2 t64 hs31 ht65) S rfl rfl (by rintro _ _ _ ⟨_, rfl⟩; exact flat_nil) ?_
        rintro _ w66 _ Γ' E' S ⟨rfl, rfl⟩
        replace E := E.trans E'
        clear E'
        refine W_v (.tuple #[.agg #[.int .i64 t64.1.Writer, .int .i64 t64.1.TS, .bool t64.1.Tomb, .string (bs t64.1.Value)], .bool t64.2]) (x_move rfl) rfl ?_
        refine W_v (.agg #[.int .i64 t64.1.Writer, .int .i64 t64.1.TS, .bool t64.1.Tomb, .string (bs t64.1.Value)]) (x_extract rfl rfl) rfl ?_
        refine W_v (.bool t64.2) (x_extract rfl rfl) rfl ?_
        refine W_alloc S #[.int .i64 0, .int .i64 0, .bool false, .string (bs ([] : Str))] ty27 rfl rfl ?_
        intro b67 w68 E' S
        replace E := E.trans E'
        clear E'
        refine W_store S 0 rfl ty27 rfl rfl [.int .i64 t64.1.Writer, .int .i64 t64.1.TS, .bool t64.1.Tomb, .string (bs t64.1.Value)] rfl rfl rfl #[.int .i64 t64.1.Writer, .int .i64 t64.1.TS, .bool t64.1.Tomb, .string (bs t64.1.Value)] rfl rfl ?_
        intro w70 E' S
        replace E := E.trans E'
        clear E'
        refine W_v (.bool t64.2) (x_assign rfl) rfl ?_
        refine Wl_nil ?_
        refine tn ?_
        refine Wp_seq ?_
        refine Wp_seq ?_
        refine Wp_region_lit ?_
        refine W_v (.int .i64 a2) (x_move rfl) rfl ?_
        refine W_v (.pointer (some ⟨b1, 1, none⟩)) (x_fieldAddr (o := 0) (off := 1) Try.underlying27 rfl ty3 rfl rfl) rfl ?_
        refine W_v (.int .i64 a1.TS) (x_load (S.blk 1 rfl) ty3 rfl rfl) rfl ?_
        refine W_v (.bool (decide (a2 ≥ a1.TS))) (x_ibin rfl rfl rfl rfl) rfl ?_
        refine Wl_nil ?_
        refine tn ?_
        rcases iteS H with ⟨hb71, H⟩ | ⟨hb71, H⟩
        · refine Wp_cond_true (congrArg Value.bool hb71) ?_
          refine Wp_seq ?_
          refine Wp_region_lit ?_
          refine W_v (.bool t64.2) (x_move rfl) rfl ?_
          refine W_v (.pointer (some ⟨b1, 2, none⟩)) (x_fieldAddr (o := 0) (off := 2) Try.underlying27 rfl ty4 rfl rfl) rfl ?_
          refine W_v (.bool a1.Tomb) (x_load (S.blk 1 rfl) ty4 rfl rfl) rfl ?_
          refine W_v (.bool (!a1.Tomb)) (x_not rfl) rfl ?_
          refine W_v (.bool (t64.2 == (!a1.Tomb))) (x_beq Try.underlying4 rfl rfl) rfl ?_
          refine W_v (.bool (t64.2 == (!a1.Tomb))) (x_move rfl) rfl ?_
          refine Wl_cutN 8 (fun ρ w' => Agree ρ [(2, .int .i64 a2), (7, .slice A29 x28.length c30), (52, .bool ((t64.2 == (!a1.Tomb)) && ((!t64.2) || ((t64.1.Writer == a1.Writer) && ((t64.1.TS == a1.TS) && ((t64.1.Tomb == a1.Tomb) && (t64.1.Value == a1.Value)))))))] ∧ w70 = w') ?_ ?_
          · rcases boolCases (t64.2 == (!a1.Tomb)) with hb74 | hb74
            · skip
              refine W_no (skT hb74) rfl ?_
              refine W_no (skT hb74) rfl ?_
              refine W_no (skT hb74) rfl ?_
              refine W_no (rfl) rfl ?_
              refine W_no (rfl) rfl ?_
              refine W_no (rfl) rfl ?_
              refine W_no (skT hb74) rfl ?_
              refine W_v (.bool false) (x_pick (k := false) (congrArg Value.bool hb74) rfl) rfl ?_
              refine Wl_nil ?_
              exact ⟨⟨rfl, rfl, (by first | rfl | (rw [hb74]; rfl) | (simp only [hb74]; rfl)), trivial⟩, rfl⟩
            · skip
              refine W_yes (congrArg some hb74) ?_
              refine W_v (.bool t64.2) (x_move rfl) rfl ?_
              refine W_yes (congrArg some hb74) ?_
              refine W_v (.bool (!t64.2)) (x_not rfl) rfl ?_
              refine W_yes (congrArg some hb74) ?_
              refine W_v (.bool (!t64.2)) (x_move rfl) rfl ?_
              refine Wl_cutN 4 (fun ρ w' => Agree ρ [(2, .int .i64 a2), (7, .slice A29 x28.length c30), (44, .bool (t64.2 == (!a1.Tomb))), (51, .bool ((!t64.2) || ((t64.1.Writer == a1.Writer) && ((t64.1.TS == a1.TS) && ((t64.1.Tomb == a1.Tomb) && (t64.1.Value == a1.Value))))))] ∧ w70 = w') ?_ ?_
              · rcases boolCases (!t64.2) with hb75 | hb75
                · skip
                  refine W_yes (congrArg some hb75) ?_
                  refine W_v (.agg #[.int .i64 t64.1.Writer, .int .i64 t64.1.TS, .bool t64.1.Tomb, .string (bs t64.1.Value)]) (x_loadA (S.blk 0 rfl) ty27 rfl (sub_of_extract rfl) rfl rfl) rfl ?_
                  refine W_yes (congrArg some hb75) ?_
                  refine W_v (.agg #[.int .i64 a1.Writer, .int .i64 a1.TS, .bool a1.Tomb, .string (bs a1.Value)]) (x_loadA (S.blk 1 rfl) ty27 rfl (sub_of_extract rfl) rfl rfl) rfl ?_
                  refine W_yes (congrArg some hb75) ?_
                  refine W_v (.bool ((t64.1.Writer == a1.Writer) && ((t64.1.TS == a1.TS) && ((t64.1.Tomb == a1.Tomb) && (t64.1.Value == a1.Value))))) (x_eq_of (eg27 _ _ _ _) rfl (eq27 _ t64.1.Writer t64.1.TS t64.1.Tomb t64.1.Value a1.Writer a1.TS a1.Tomb a1.Value)) rfl ?_
                  refine W_yes (congrArg some hb74) ?_
                  refine W_v (.bool ((t64.1.Writer == a1.Writer) && ((t64.1.TS == a1.TS) && ((t64.1.Tomb == a1.Tomb) && (t64.1.Value == a1.Value))))) (x_pick (k := false) (congrArg Value.bool hb75) rfl) rfl ?_
                  refine Wl_nil ?_
                  exact ⟨⟨rfl, rfl, rfl, (by first | rfl | (rw [hb75]; rfl) | (simp only [hb75]; rfl)), trivial⟩, rfl⟩
                · skip
                  refine W_no (skF hb75) rfl ?_
                  refine W_no (skF hb75) rfl ?_
                  refine W_no (skF hb75) rfl ?_
                  refine W_yes (congrArg some hb74) ?_
                  refine W_v (.bool true) (x_pick (k := true) (congrArg Value.bool hb75) rfl) rfl ?_
                  refine Wl_nil ?_
                  exact ⟨⟨rfl, rfl, rfl, (by first | rfl | (rw [hb75]; rfl) | (simp only [hb75]; rfl)), trivial⟩, rfl⟩
              · rintro ρ _ ⟨hρ, rfl⟩
                rw [agree_eta hρ]
                clear hρ
                skip
                refine W_v (.bool ((!t64.2) || ((t64.1.Writer == a1.Writer) && ((t64.1.TS == a1.TS) && ((t64.1.Tomb == a1.Tomb) && (t64.1.Value == a1.Value)))))) (x_pick (k := true) (congrArg Value.bool hb74) rfl) rfl ?_
                refine Wl_nil ?_
                exact ⟨⟨rfl, rfl, (by first | rfl | (rw [hb74]; rfl) | (simp only [hb74]; rfl)), trivial⟩, rfl⟩
          · rintro ρ _ ⟨hρ, rfl⟩
            rw [agree_eta hρ]
            clear hρ
            skip
            refine W_v (.bool ((t64.2 == (!a1.Tomb)) && ((!t64.2) || ((t64.1.Writer == a1.Writer) && ((t64.1.TS == a1.TS) && ((t64.1.Tomb == a1.Tomb) && (t64.1.Value == a1.Value))))))) (x_move rfl) rfl ?_
            obtain ⟨o84, o84h, o84H⟩ := bindS H
            clear H
            refine Wl_cutN 5 (fun ρ w' => ∃ (x83 : Bool), (x83) = o84 ∧ Agree ρ [(58, .bool x83)] ∧ Ext w w' ∧ St w' M45 F []) ?_ ?_
            · have H := o84h
              rcases iteS H with ⟨hb82, H⟩ | ⟨hb82, H⟩
              · skip
                refine W_yes (congrArg some hb82) ?_
                refine W_v (.slice A29 x28.length c30) (x_move rfl) rfl ?_
                refine W_yes (congrArg some hb82) ?_
                refine W_v (.int .i64 a2) (x_move rfl) rfl ?_
                refine W_yes (congrArg some hb82) ?_
                obtain ⟨t85, ht86, H⟩ := bindS H
                refine W_callF fn13 (keep_Clash.con k M45 A29 c30 x28 a2 t85 hs31 ht86) S rfl rfl (by rintro _ _ _ ⟨_, rfl⟩; exact flat_nil) ?_
                rintro _ w87 _ Γ' E' S ⟨rfl, rfl⟩
                replace E := E.trans E'
                clear E'
                refine W_yes (congrArg some hb82) ?_
                refine W_v (.bool (!t85)) (x_not rfl) rfl ?_
                refine W_v (.bool (!t85)) (x_pick (k := true) (congrArg Value.bool hb82) rfl) rfl ?_
                refine Wl_nil ?_
                exact ⟨(!t85), Option.some.inj H, ⟨rfl, trivial⟩, E, S.pick [] (by decide)⟩
              · skip
                refine W_no (skT hb82) rfl ?_
                refine W_no (skT hb82) rfl ?_
                refine W_no (skT hb82) rfl ?_
                refine W_no (skT hb82) rfl ?_
                refine W_v (.bool false) (x_pick (k := false) (congrArg Value.bool hb82) rfl) rfl ?_
                refine Wl_nil ?_
                exact ⟨false, Option.some.inj H, ⟨rfl, trivial⟩, E, S.pick [] (by decide)⟩
            · clear o84h
              rintro ρ w88 ⟨x83, rfl, hρ, E, S⟩
              rw [agree_eta hρ]
              clear hρ
              have H := o84H
              clear o84H
              refine W_v (.bool x83) (x_assign rfl) rfl ?_
              refine Wl_nil ?_
              refine tn ?_
              refine Wp_ret ?_
              refine tr (?_)
              obtain rfl := Option.some.inj H
              exact ⟨_, _, _, fun w1 e1 => run_resR (vs := [.bool x83]) (FA.cons (rfl) (FA.nil)), HM, E, S.pick [] (by decide), ⟨rfl, rfl⟩⟩
        · refine Wp_cond_false (congrArg Value.bool hb71) ?_
          refine Wp_skip ?_
          refine tn ?_
          refine Wp_seq ?_
          refine Wp_region_lit ?_
          refine W_v (.slice A0 a0.length c0) (x_move rfl) rfl ?_
          refine W_v (.int .i64 a2) (x_move rfl) rfl ?_
          obtain ⟨t89, ht90, H⟩ := bindS H
          refine W_callF fn12 (keep_Seen.con k M45 A0 c0 a0 a2 t89 hr0 ht90) S rfl rfl (by rintro _ _ _ ⟨_, rfl⟩; exact flat_nil) ?_
          rintro _ w91 _ Γ' E' S ⟨rfl, rfl⟩
          replace E := E.trans E'
          clear E'
          refine W_v (.tuple #[.agg #[.int .i64 t89.1.Writer, .int .i64 t89.1.TS, .bool t89.1.Tomb, .string (bs t89.1.Value)], .bool t89.2]) (x_move rfl) rfl ?_
          refine W_v (.agg #[.int .i64 t89.1.Writer, .int .i64 t89.1.TS, .bool t89.1.Tomb, .string (bs t89.1.Value)]) (x_extract rfl rfl) rfl ?_
          refine W_v (.bool t89.2) (x_extract rfl rfl) rfl ?_
          refine W_alloc S #[.int .i64 0, .int .i64 0, .bool false, .string (bs ([] : Str))] ty27 rfl rfl ?_
          intro b92 w93 E' S
          replace E := E.trans E'
          clear E'
          refine W_store S 0 rfl ty27 rfl rfl [.int .i64 t89.1.Writer, .int .i64 t89.1.TS, .bool t89.1.Tomb, .string (bs t89.1.Value)] rfl rfl rfl #[.int .i64 t89.1.Writer, .int .i64 t89.1.TS, .bool t89.1.Tomb, .string (bs t89.1.Value)] rfl rfl ?_
          intro w95 E' S
          replace E := E.trans E'
          clear E'
          refine W_v (.bool t89.2) (x_assign rfl) rfl ?_
          refine Wl_nil ?_
          refine tn ?_
          refine Wp_seq ?_
          refine Wp_region_lit ?_
          refine W_v (.agg #[.int .i64 t64.1.Writer, .int .i64 t64.1.TS, .bool t64.1.Tomb, .string (bs t64.1.Value)]) (x_loadA (S.blk 1 rfl) ty27 rfl (sub_of_extract rfl) rfl rfl) rfl ?_
          refine W_v (.agg #[.int .i64 t89.1.Writer, .int .i64 t89.1.TS, .bool t89.1.Tomb, .string (bs t89.1.Value)]) (x_loadA (S.blk 0 rfl) ty27 rfl (sub_of_extract rfl) rfl rfl) rfl ?_
          refine W_v (.bool ((t64.1.Writer == t89.1.Writer) && ((t64.1.TS == t89.1.TS) && ((t64.1.Tomb == t89.1.Tomb) && (t64.1.Value == t89.1.Value))))) (x_eq_of (eg27 _ _ _ _) rfl (eq27 _ t64.1.Writer t64.1.TS t64.1.Tomb t64.1.Value t89.1.Writer t89.1.TS t89.1.Tomb t89.1.Value)) rfl ?_
          refine W_v (.bool ((t64.1.Writer == t89.1.Writer) && ((t64.1.TS == t89.1.TS) && ((t64.1.Tomb == t89.1.Tomb) && (t64.1.Value == t89.1.Value))))) (x_move rfl) rfl ?_
          refine Wl_cutN 4 (fun ρ w' => Agree ρ [(2, .int .i64 a2), (7, .slice A29 x28.length c30), (72, .bool (((t64.1.Writer == t89.1.Writer) && ((t64.1.TS == t89.1.TS) && ((t64.1.Tomb == t89.1.Tomb) && (t64.1.Value == t89.1.Value)))) && (t64.2 == t89.2)))] ∧ w95 = w') ?_ ?_
          · rcases boolCases ((t64.1.Writer == t89.1.Writer) && ((t64.1.TS == t89.1.TS) && ((t64.1.Tomb == t89.1.Tomb) && (t64.1.Value == t89.1.Value)))) with hb96 | hb96
            · skip
              refine W_no (skT hb96) rfl ?_
              refine W_no (skT hb96) rfl ?_
              refine W_no (skT hb96) rfl ?_
              refine W_v (.bool false) (x_pick (k := false) (congrArg Value.bool hb96) rfl) rfl ?_
              refine Wl_nil ?_
              exact ⟨⟨rfl, rfl, (by first | rfl | (rw [hb96]; rfl) | (simp only [hb96]; rfl)), trivial⟩, rfl⟩
            · skip
              refine W_yes (congrArg some hb96) ?_
              refine W_v (.bool t64.2) (x_move rfl) rfl ?_
              refine W_yes (congrArg some hb96) ?_
              refine W_v (.bool t89.2) (x_move rfl) rfl ?_
              refine W_yes (congrArg some hb96) ?_
              refine W_v (.bool (t64.2 == t89.2)) (x_beq Try.underlying4 rfl rfl) rfl ?_
              refine W_v (.bool (t64.2 == t89.2)) (x_pick (k := true) (congrArg Value.bool hb96) rfl) rfl ?_
              refine Wl_nil ?_
              exact ⟨⟨rfl, rfl, (by first | rfl | (rw [hb96]; rfl) | (simp only [hb96]; rfl)), trivial⟩, rfl⟩
          · rintro ρ _ ⟨hρ, rfl⟩
            rw [agree_eta hρ]
            clear hρ
            skip
            refine W_v (.bool (((t64.1.Writer == t89.1.Writer) && ((t64.1.TS == t89.1.TS) && ((t64.1.Tomb == t89.1.Tomb) && (t64.1.Value == t89.1.Value)))) && (t64.2 == t89.2))) (x_move rfl) rfl ?_
            obtain ⟨o105, o105h, o105H⟩ := bindS H
            clear H
            refine Wl_cutN 4 (fun ρ w' => ∃ (x104 : Bool), (x104) = o105 ∧ Agree ρ [(77, .bool x104)] ∧ Ext w w' ∧ St w' M45 F []) ?_ ?_
            · have H := o105h
              rcases iteS H with ⟨hb103, H⟩ | ⟨hb103, H⟩
              · skip
                refine W_yes (congrArg some hb103) ?_
                refine W_v (.slice A29 x28.length c30) (x_move rfl) rfl ?_
                refine W_yes (congrArg some hb103) ?_
                refine W_v (.int .i64 a2) (x_move rfl) rfl ?_
                refine W_yes (congrArg some hb103) ?_
                obtain ⟨t106, ht107, H⟩ := bindS H
                refine W_callF fn13 (keep_Clash.con k M45 A29 c30 x28 a2 t106 hs31 ht107) S rfl rfl (by rintro _ _ _ ⟨_, rfl⟩; exact flat_nil) ?_
                rintro _ w108 _ Γ' E' S ⟨rfl, rfl⟩
                replace E := E.trans E'
                clear E'
                refine W_v (.bool t106) (x_pick (k := true) (congrArg Value.bool hb103) rfl) rfl ?_
                refine Wl_nil ?_
                exact ⟨t106, Option.some.inj H, ⟨rfl, trivial⟩, E, S.pick [] (by decide)⟩
              · skip
                refine W_no (skT hb103) rfl ?_
                refine W_no (skT hb103) rfl ?_
                refine W_no (skT hb103) rfl ?_
                refine W_v (.bool false) (x_pick (k := false) (congrArg Value.bool hb103) rfl) rfl ?_
                refine Wl_nil ?_
                exact ⟨false, Option.some.inj H, ⟨rfl, trivial⟩, E, S.pick [] (by decide)⟩
            · clear o105h
              rintro ρ w109 ⟨x104, rfl, hρ, E, S⟩
              rw [agree_eta hρ]
              clear hρ
              have H := o105H
              clear o105H
              refine W_v (.bool x104) (x_assign rfl) rfl ?_
              refine Wl_nil ?_
              refine tn ?_
              refine Wp_ret ?_
              obtain rfl := Option.some.inj H
              exact ⟨_, _, _, fun w1 e1 => run_resR (vs := [.bool x104]) (FA.cons (rfl) (FA.nil)), HM, E, S.pick [] (by decide), ⟨rfl, rfl⟩⟩
end Go.Proofs.Ytmoackfjfklfaaa
