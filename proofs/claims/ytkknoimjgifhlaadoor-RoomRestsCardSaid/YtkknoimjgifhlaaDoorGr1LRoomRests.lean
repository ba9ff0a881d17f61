import Derived.Test.YtkknoimjgifhlaaDoorGr1B
import Derived.Test.YtkknoimjgifhlaaDoorGr1P2
import Derived.Test.YtkknoimjgifhlaaDoorGr1P4
namespace Go.Proofs.YtkknoimjgifhlaaDoor
open Go
set_option linter.unusedVariables false
set_option linter.unusedSimpArgs false
def ferrymanlaw30_long_l5 (a0 : (List (List api_Call))) (x632 : Int) : Nat → Int → Int → Option ((Int))
  | 0, _, _ => none
  | k + 1, x918, x919 => (if 0 ≤ x632 ∧ x632 < (a0.length : Int) then (if ((decide (x919 < ((rd a0 x632).length : Int))) && (decide (x918 < (8000 : Int)))) = true then (if 0 ≤ x632 ∧ x632 < (a0.length : Int) then (if 0 ≤ x919 ∧ x919 < ((rd a0 x632).length : Int) then ferrymanlaw30_long_l5 a0 x632 k (IntKind.i64.wrap ((IntKind.i64.wrap ((IntKind.i64.wrap ((IntKind.i64.wrap (x918 + (5 : Int))) + (imin (8000 : Int) (((rd (rd a0 x632) x919).Key).length : Int)))) + (imin (8000 : Int) (((rd (rd a0 x632) x919).End).length : Int)))) + (imin (8000 : Int) (((rd (rd a0 x632) x919).Value).length : Int)))) (IntKind.i64.wrap (x919 + (1 : Int))) else none) else none) else some (x918)) else none)
set_option maxHeartbeats 2000000 in
theorem ferrymanlaw30_long_l5.mono {a0 : (List (List api_Call))} {x632 : Int} : ∀ {kl : Nat} {x0 x1}, OLe (ferrymanlaw30_long_l5 a0 x632 kl x0 x1) (ferrymanlaw30_long_l5 a0 x632 (kl + 1) x0 x1) := by
  intro kl
  induction kl with
  | zero => intros; exact OLe.none
  | succ kl ih =>
    intros
    rw [ferrymanlaw30_long_l5.eq_2, ferrymanlaw30_long_l5.eq_2]
    repeat' (first | with_reducible exact OLe.none | with_reducible exact OLe.some | with_reducible refine OLe.ite ?_ ?_ | with_reducible refine OLe.bind ?_ (fun _ => ?_) | exact ih | refine OLe.bind ?_ (fun _ => ?_) | refine OLe.ite ?_ ?_ | refine OLe.elim (fun _ => ?_) (fun _ => ?_) | split)
def ferrymanlaw30_long_l3 (a0 : (List (List api_Call))) : Nat → Int → Int → Option ((Int))
  | 0, _, _ => none
  | k + 1, x631, x632 => (if ((decide (x632 < (a0.length : Int))) && (decide (x631 < (8000 : Int)))) = true then (Option.bind (ferrymanlaw30_long_l5 a0 x632 k (IntKind.i64.wrap (x631 + (1 : Int))) (0 : Int)) (fun x964 => ferrymanlaw30_long_l3 a0 k x964 (IntKind.i64.wrap (x632 + (1 : Int))))) else some (x631))
set_option maxHeartbeats 2000000 in
theorem ferrymanlaw30_long_l3.mono {a0 : (List (List api_Call))} : ∀ {kl : Nat} {x0 x1}, OLe (ferrymanlaw30_long_l3 a0 kl x0 x1) (ferrymanlaw30_long_l3 a0 (kl + 1) x0 x1) := by
  intro kl
  induction kl with
  | zero => intros; exact OLe.none
  | succ kl ih =>
    intros
    rw [ferrymanlaw30_long_l3.eq_2, ferrymanlaw30_long_l3.eq_2]
    repeat' (first | with_reducible exact OLe.none | with_reducible exact OLe.some | with_reducible refine OLe.ite ?_ ?_ | with_reducible refine OLe.bind ?_ (fun _ => ?_) | with_reducible exact ferrymanlaw30_long_l5.mono | exact ih | refine OLe.bind ?_ (fun _ => ?_) | refine OLe.ite ?_ ?_ | refine OLe.elim (fun _ => ?_) (fun _ => ?_) | split)
def ferrymanlaw30_long_l0 (a1 : (List api_Event)) : Nat → Int → Int → Option ((Int))
  | 0, _, _ => none
  | k + 1, x125, x126 => (if ((decide (x126 < (a1.length : Int))) && (decide (x125 < (8000 : Int)))) = true then (if 0 ≤ x126 ∧ x126 < (a1.length : Int) then (if 0 ≤ x126 ∧ x126 < (a1.length : Int) then ferrymanlaw30_long_l0 a1 k (IntKind.i64.wrap ((IntKind.i64.wrap (x125 + (imin (8000 : Int) (((rd a1 x126).Answer.Value).length : Int)))) + (IntKind.i64.wrap ((5 : Int) * (imin (8000 : Int) (((rd a1 x126).Answer.Pairs).length : Int)))))) (IntKind.i64.wrap (x126 + (1 : Int))) else none) else none) else some (x125))
set_option maxHeartbeats 2000000 in
theorem ferrymanlaw30_long_l0.mono {a1 : (List api_Event)} : ∀ {kl : Nat} {x0 x1}, OLe (ferrymanlaw30_long_l0 a1 kl x0 x1) (ferrymanlaw30_long_l0 a1 (kl + 1) x0 x1) := by
  intro kl
  induction kl with
  | zero => intros; exact OLe.none
  | succ kl ih =>
    intros
    rw [ferrymanlaw30_long_l0.eq_2, ferrymanlaw30_long_l0.eq_2]
    repeat' (first | with_reducible exact OLe.none | with_reducible exact OLe.some | with_reducible refine OLe.ite ?_ ?_ | with_reducible refine OLe.bind ?_ (fun _ => ?_) | exact ih | refine OLe.bind ?_ (fun _ => ?_) | refine OLe.ite ?_ ?_ | refine OLe.elim (fun _ => ?_) (fun _ => ?_) | split)
def ferrymanlaw30_long (k : Nat) (a0 : (List (List api_Call))) (a1 : (List api_Event)) : Option (Bool) :=
  (Option.bind (ferrymanlaw30_long_l0 a1 k (IntKind.i64.wrap ((30 : Int) * (imin (1000 : Int) (a1.length : Int)))) (0 : Int)) (fun x187 => (Option.bind (ferrymanlaw30_long_l3 a0 k x187 (0 : Int)) (fun x821 => some (decide (x821 ≥ (8000 : Int)))))))
set_option maxHeartbeats 2000000 in
theorem ferrymanlaw30_long.mono {k : Nat} {a0 : (List (List api_Call))} {a1 : (List api_Event)} : OLe (ferrymanlaw30_long k a0 a1) (ferrymanlaw30_long (k + 1) a0 a1) := by
  unfold ferrymanlaw30_long
  repeat' (first | with_reducible exact OLe.none | with_reducible exact OLe.some | with_reducible refine OLe.ite ?_ ?_ | with_reducible refine OLe.bind ?_ (fun _ => ?_) | with_reducible exact ferrymanlaw30_long_l0.mono | with_reducible exact ferrymanlaw30_long_l3.mono | refine OLe.bind ?_ (fun _ => ?_) | refine OLe.ite ?_ ?_ | refine OLe.elim (fun _ => ?_) (fun _ => ?_) | split)
set_option maxHeartbeats 1000000 in
set_option maxRecDepth 100000 in
theorem ferrymanlaw30_long.con (k : Nat) (M : Hp) (A0 : Option Addr) (c0 : Nat) (a0 : (List (List api_Call))) (A1 : Option Addr) (c1 : Nat) (a1 : (List api_Event)) (r : Bool) (hr0 : SlR (rSl r_api_Call) M (.slice A0 a0.length c0) a0) (hr1 : SlR r_api_Event M (.slice A1 a1.length c1) a1) (h : ferrymanlaw30_long k a0 a1 = some r) : Con Tryd.prog 16 #[.slice A0 a0.length c0, .slice A1 a1.length c1] M [] (fun v M' Γ' => v = .bool r ∧ Γ' = []) := by
  refine con_of_wp Tryd.func16 rfl Tryd.ntmps16 Tryd.results16 rfl ?_
  intro w F rn S hrn
  have E := Ext.refl w
  have HM := Hp.le_refl M
  have H := h
  unfold ferrymanlaw30_long at H
  refine Wp_seq (Wp_region_lit (W_v (.bool false) (x_assign rfl) rfl (Wl_nil (tn (Wp_seq (Wp_region_lit (W_v (.slice A1 a1.length c1) (x_move rfl) rfl (W_v (.int .i64 (a1.length : Int)) (x_len_slice (n := a1.length) Tryd.underlying39 rfl) rfl (W_v (.int .i64 (imin (1000 : Int) (a1.length : Int))) (x_min2 rfl rfl) rfl (W_v (.int .i64 (IntKind.i64.wrap ((30 : Int) * (imin (1000 : Int) (a1.length : Int))))) (x_ibin rfl rfl rfl rfl) rfl (W_v (.int .i64 (IntKind.i64.wrap ((30 : Int) * (imin (1000 : Int) (a1.length : Int))))) (x_assign rfl) rfl (Wl_nil (tn (Wp_seq (Wp_seq ?_)))))))))))))))
  refine Wp_region_lit (W_v (.int .i64 0) (x_assign rfl) rfl (Wl_nil (tn ?_)))
  obtain ⟨o188, o188h, o188H⟩ := bindS H
  refine Wp_blockJ (fun ρ w' => ∃ (x187 : Int), (x187) = o188 ∧ Agree ρ [(0, .slice A0 a0.length c0), (5, .int .i64 x187)] ∧ Ext w w' ∧ St w' M F []) ?_ ?_
  · skip
    refine Wp_loop (fun n ρ w' => ∃ (x125 : Int) (x126 : Int), ferrymanlaw30_long_l0 a1 n x125 x126 = some o188 ∧ Agree ρ [(0, .slice A0 a0.length c0), (1, .slice A1 a1.length c1), (5, .int .i64 x125), (6, .int .i64 x126)] ∧ Ext w w' ∧ St w' M F []) k ?_ ?_
    · skip
      exact ⟨(IntKind.i64.wrap ((30 : Int) * (imin (1000 : Int) (a1.length : Int)))), (0 : Int), o188h, ⟨rfl, rfl, rfl, rfl, trivial⟩, E, S.pick [] (by decide)⟩
    · intro n
      rintro ρ w189 ⟨x125, x126, H, hρ, E, S⟩
      rw [agree_eta hρ]
      cases n with
      | zero => cases H
      | succ k =>
        rw [ferrymanlaw30_long_l0.eq_2] at H
        refine Wp_seq (Wp_seq (Wp_region_lit (W_v (.int .i64 x126) (x_move rfl) rfl (W_v (.slice A1 a1.length c1) (x_move rfl) rfl (W_v (.int .i64 (a1.length : Int)) (x_len_slice (n := a1.length) Tryd.underlying39 rfl) rfl (W_v (.bool (decide (x126 < (a1.length : Int)))) (x_ibin rfl rfl rfl rfl) rfl (W_v (.bool (decide (x126 < (a1.length : Int)))) (x_move rfl) rfl ?_)))))))
        refine Wl_cutN 3 (fun ρ w' => Agree ρ [(0, .slice A0 a0.length c0), (1, .slice A1 a1.length c1), (5, .int .i64 x125), (6, .int .i64 x126), (21, .bool ((decide (x126 < (a1.length : Int))) && (decide (x125 < (8000 : Int)))))] ∧ w189 = w') ?_ ?_
        · rcases boolCases (decide (x126 < (a1.length : Int))) with hb190 | hb190
          · skip
            refine W_no (skT hb190) rfl (W_no (skT hb190) rfl (W_v (.bool false) (x_pick (k := false) (congrArg Value.bool hb190) rfl) rfl (Wl_nil ?_)))
            exact ⟨⟨rfl, rfl, rfl, rfl, (by first | rfl | (rw [hb190]; rfl) | (simp only [hb190]; rfl)), trivial⟩, rfl⟩
          · skip
            refine W_yes (congrArg some hb190) (W_v (.int .i64 x125) (x_move rfl) rfl (W_yes (congrArg some hb190) (W_v (.bool (decide (x125 < (8000 : Int)))) (x_ibin rfl rfl rfl rfl) rfl (W_v (.bool (decide (x125 < (8000 : Int)))) (x_pick (k := true) (congrArg Value.bool hb190) rfl) rfl (Wl_nil ?_)))))
            exact ⟨⟨rfl, rfl, rfl, rfl, (by first | rfl | (rw [hb190]; rfl) | (simp only [hb190]; rfl)), trivial⟩, rfl⟩
        as_aux_lemma =>
        rintro ρ _ ⟨hρ, rfl⟩
        rw [agree_eta hρ]
        refine Wl_nil (tn ?_)
        rcases iteS H with ⟨hb191, H⟩ | ⟨hb191, H⟩
        · refine Wp_cond_true (congrArg Value.bool hb191) ?_
          refine Wp_skip (tn (Wp_seq ?_))
          refine Wp_block ?_
          refine Wp_region_any (S := fun w' => ∃ Mx, M.le Mx ∧ St w' Mx F []) (L := 21) mixed ?_
          intro w220 hw221 E'
          replace S := S.heap hw221
          replace E := E.trans E'
          have D1 : ∃ Mx, Hp.le M Mx ∧ St _ Mx F [] := ⟨_, Hp.le_refl _, S.pick [] (by decide)⟩
          refine Wa_take (i := 0) rfl (by kernel_rfl) rfl rfl (.int .i64 x125) rfl (fun w' h' => x_move rfl) D1 (Wa_take (i := 1) rfl (by kernel_rfl) rfl rfl (.slice A1 a1.length c1) rfl (fun w' h' => x_move rfl) D1 (Wa_take (i := 2) rfl (by kernel_rfl) rfl rfl (.int .i64 x126) rfl (fun w' h' => x_move rfl) D1 ?_))
          obtain ⟨⟨p222, p223⟩, H⟩ := chkS H
          obtain ⟨b224, o225, cs226, _, _, ee231, hb227, vs228, hR229, hc230⟩ := SlW.at' hr1 p222 p223
          obtain ⟨v235, hs234, rfl⟩ := hR229
          obtain ⟨A232, c233, rfl, _⟩ := hs234.form
          have hs234z := hs234
          refine Wa_take (i := 3) rfl (by kernel_rfl) rfl rfl (.pointer (some ⟨b224, o225 + x126.toNat * 7, none⟩)) rfl (fun w' h' => x_indexAddr Tryd.underlying39 ty38 (slA ee231) rfl p222 p223) D1 (Wa_take (i := 4) rfl (by kernel_rfl) rfl rfl (.pointer (some ⟨b224, o225 + x126.toNat * 7 + 3, none⟩)) rfl (fun w' h' => x_fieldAddr (o := o225 + x126.toNat * 7) (off := 3) Tryd.underlying38 rfl ty36 rfl rfl) D1 (Wa_take (i := 5) rfl (by kernel_rfl) rfl rfl (.pointer (some ⟨b224, o225 + x126.toNat * 7 + 3 + 2, none⟩)) rfl (fun w' h' => x_fieldAddr (o := o225 + x126.toNat * 7 + 3) (off := 2) Tryd.underlying36 rfl ty9 rfl rfl) D1 (Wa_take (i := 6) rfl (by kernel_rfl) rfl rfl (.string (bs ((rd a1 x126).Answer.Value))) rfl (fun w' h' => x_load (cls_frz h' hb227) ty9 rfl (hc230 5 _ rfl)) D1 (Wa_take (i := 7) rfl (by kernel_rfl) rfl rfl (.int .i64 (((rd a1 x126).Answer.Value).length : Int)) rfl (fun w' h' => x_len_str Tryd.underlying9 rfl) D1 (Wa_take (i := 8) rfl (by kernel_rfl) rfl rfl (.int .i64 (imin (8000 : Int) (((rd a1 x126).Answer.Value).length : Int))) rfl (fun w' h' => x_min2 rfl rfl) D1 (Wa_take (i := 9) rfl (by kernel_rfl) rfl rfl (.int .i64 (IntKind.i64.wrap (x125 + (imin (8000 : Int) (((rd a1 x126).Answer.Value).length : Int))))) rfl (fun w' h' => x_ibin rfl rfl rfl rfl) D1 (Wa_take (i := 10) rfl (by kernel_rfl) rfl rfl (.slice A1 a1.length c1) rfl (fun w' h' => x_move rfl) D1 (Wa_take (i := 11) rfl (by kernel_rfl) rfl rfl (.int .i64 x126) rfl (fun w' h' => x_move rfl) D1 ?_))))))))
          obtain ⟨⟨p236, p237⟩, H⟩ := chkS H
          obtain ⟨b238, o239, cs240, _, _, ee245, hb241, vs242, hR243, hc244⟩ := SlW.at' hr1 p236 p237
          obtain ⟨v249, hs248, rfl⟩ := hR243
          obtain ⟨A246, c247, rfl, _⟩ := hs248.form
          have hs248z := hs248
          refine Wa_take (i := 12) rfl (by kernel_rfl) rfl rfl (.pointer (some ⟨b238, o239 + x126.toNat * 7, none⟩)) rfl (fun w' h' => x_indexAddr Tryd.underlying39 ty38 (slA ee245) rfl p236 p237) D1 (Wa_take (i := 13) rfl (by kernel_rfl) rfl rfl (.pointer (some ⟨b238, o239 + x126.toNat * 7 + 3, none⟩)) rfl (fun w' h' => x_fieldAddr (o := o239 + x126.toNat * 7) (off := 3) Tryd.underlying38 rfl ty36 rfl rfl) D1 (Wa_take (i := 14) rfl (by kernel_rfl) rfl rfl (.pointer (some ⟨b238, o239 + x126.toNat * 7 + 3 + 3, none⟩)) rfl (fun w' h' => x_fieldAddr (o := o239 + x126.toNat * 7 + 3) (off := 3) Tryd.underlying36 rfl ty34 rfl rfl) D1 (Wa_take (i := 15) rfl (by kernel_rfl) rfl rfl (.slice A246 ((rd a1 x126).Answer.Pairs).length c247) rfl (fun w' h' => x_load (cls_frz h' hb241) ty34 rfl (hc244 6 _ rfl)) D1 (Wa_take (i := 16) rfl (by kernel_rfl) rfl rfl (.int .i64 (((rd a1 x126).Answer.Pairs).length : Int)) rfl (fun w' h' => x_len_slice (n := ((rd a1 x126).Answer.Pairs).length) Tryd.underlying34 rfl) D1 (Wa_take (i := 17) rfl (by kernel_rfl) rfl rfl (.int .i64 (imin (8000 : Int) (((rd a1 x126).Answer.Pairs).length : Int))) rfl (fun w' h' => x_min2 rfl rfl) D1 (Wa_take (i := 18) rfl (by kernel_rfl) rfl rfl (.int .i64 (IntKind.i64.wrap ((5 : Int) * (imin (8000 : Int) (((rd a1 x126).Answer.Pairs).length : Int))))) rfl (fun w' h' => x_ibin rfl rfl rfl rfl) D1 (Wa_take (i := 19) rfl (by kernel_rfl) rfl rfl (.int .i64 (IntKind.i64.wrap ((IntKind.i64.wrap (x125 + (imin (8000 : Int) (((rd a1 x126).Answer.Value).length : Int)))) + (IntKind.i64.wrap ((5 : Int) * (imin (8000 : Int) (((rd a1 x126).Answer.Pairs).length : Int))))))) rfl (fun w' h' => x_ibin rfl rfl rfl rfl) D1 (Wa_take (i := 20) rfl (by kernel_rfl) rfl rfl (.int .i64 (IntKind.i64.wrap ((IntKind.i64.wrap (x125 + (imin (8000 : Int) (((rd a1 x126).Answer.Value).length : Int)))) + (IntKind.i64.wrap ((5 : Int) * (imin (8000 : Int) (((rd a1 x126).Answer.Pairs).length : Int))))))) rfl (fun w' h' => x_assign rfl) D1 ?_))))))))
          refine Wa_done (by kernel_rfl) ?_
          refine bn (tn (Wp_region_lit (W_v (.int .i64 x126) (x_move rfl) rfl (W_v (.int .i64 (IntKind.i64.wrap (x126 + (1 : Int)))) (x_ibin rfl rfl rfl rfl) rfl (W_v (.int .i64 (IntKind.i64.wrap (x126 + (1 : Int)))) (x_assign rfl) rfl (Wl_nil (tn ?_)))))))
          exact ⟨k, Nat.lt_succ_self k, ⟨(IntKind.i64.wrap ((IntKind.i64.wrap (x125 + (imin (8000 : Int) (((rd a1 x126).Answer.Value).length : Int)))) + (IntKind.i64.wrap ((5 : Int) * (imin (8000 : Int) (((rd a1 x126).Answer.Pairs).length : Int)))))), (IntKind.i64.wrap (x126 + (1 : Int))), H, ⟨rfl, rfl, rfl, rfl, trivial⟩, E, S.pick [] (by decide)⟩⟩
        refine Wp_cond_false (congrArg Value.bool hb191) ?_
        refine Wp_exit ?_
        refine tx (tx (bsm (?_)))
        refine tn ?_
        exact ⟨x125, Option.some.inj H, ⟨rfl, rfl, trivial⟩, E, S.pick [] (by decide)⟩
  rintro ρ w250 ⟨x187, rfl, hρ, E, S⟩
  rw [agree_eta hρ]
  have H := o188H
  refine tn ?_
  as_aux_lemma =>
  refine Wp_seq (Wp_seq (Wp_region_lit (W_v (.int .i64 0) (x_assign rfl) rfl (Wl_nil (tn ?_)))))
  obtain ⟨o822, o822h, o822H⟩ := bindS H
  refine Wp_blockJ (fun ρ w' => ∃ (x821 : Int), (x821) = o822 ∧ Agree ρ [(5, .int .i64 x821)] ∧ Ext w w' ∧ St w' M F []) ?_ ?_
  · skip
    refine Wp_loop (fun n ρ w' => ∃ (x631 : Int) (x632 : Int), ferrymanlaw30_long_l3 a0 n x631 x632 = some o822 ∧ Agree ρ [(0, .slice A0 a0.length c0), (5, .int .i64 x631), (7, .int .i64 x632)] ∧ Ext w w' ∧ St w' M F []) k ?_ ?_
    · skip
      exact ⟨x187, (0 : Int), o822h, ⟨rfl, rfl, rfl, trivial⟩, E, S.pick [] (by decide)⟩
    · intro n
      rintro ρ w823 ⟨x631, x632, H, hρ, E, S⟩
      rw [agree_eta hρ]
      cases n with
      | zero => cases H
      | succ k =>
        rw [ferrymanlaw30_long_l3.eq_2] at H
        refine Wp_seq (Wp_seq (Wp_region_lit (W_v (.int .i64 x632) (x_move rfl) rfl (W_v (.slice A0 a0.length c0) (x_move rfl) rfl (W_v (.int .i64 (a0.length : Int)) (x_len_slice (n := a0.length) Tryd.underlying44 rfl) rfl (W_v (.bool (decide (x632 < (a0.length : Int)))) (x_ibin rfl rfl rfl rfl) rfl (W_v (.bool (decide (x632 < (a0.length : Int)))) (x_move rfl) rfl ?_)))))))
        refine Wl_cutN 3 (fun ρ w' => Agree ρ [(0, .slice A0 a0.length c0), (5, .int .i64 x631), (7, .int .i64 x632), (51, .bool ((decide (x632 < (a0.length : Int))) && (decide (x631 < (8000 : Int)))))] ∧ w823 = w') ?_ ?_
        · rcases boolCases (decide (x632 < (a0.length : Int))) with hb824 | hb824
          · skip
            refine W_no (skT hb824) rfl (W_no (skT hb824) rfl (W_v (.bool false) (x_pick (k := false) (congrArg Value.bool hb824) rfl) rfl (Wl_nil ?_)))
            exact ⟨⟨rfl, rfl, rfl, (by first | rfl | (rw [hb824]; rfl) | (simp only [hb824]; rfl)), trivial⟩, rfl⟩
          · skip
            refine W_yes (congrArg some hb824) (W_v (.int .i64 x631) (x_move rfl) rfl (W_yes (congrArg some hb824) (W_v (.bool (decide (x631 < (8000 : Int)))) (x_ibin rfl rfl rfl rfl) rfl (W_v (.bool (decide (x631 < (8000 : Int)))) (x_pick (k := true) (congrArg Value.bool hb824) rfl) rfl (Wl_nil ?_)))))
            exact ⟨⟨rfl, rfl, rfl, (by first | rfl | (rw [hb824]; rfl) | (simp only [hb824]; rfl)), trivial⟩, rfl⟩
        as_aux_lemma =>
        rintro ρ _ ⟨hρ, rfl⟩
        rw [agree_eta hρ]
        refine Wl_nil (tn ?_)
        rcases iteS H with ⟨hb825, H⟩ | ⟨hb825, H⟩
        · refine Wp_cond_true (congrArg Value.bool hb825) ?_
          refine Wp_skip (tn (Wp_seq ?_))
          refine Wp_block ?_
          refine Wp_seq (Wp_region_lit (W_v (.int .i64 x631) (x_move rfl) rfl (W_v (.int .i64 (IntKind.i64.wrap (x631 + (1 : Int)))) (x_ibin rfl rfl rfl rfl) rfl (W_v (.int .i64 (IntKind.i64.wrap (x631 + (1 : Int)))) (x_assign rfl) rfl (Wl_nil (tn (Wp_seq (Wp_region_lit (W_v (.int .i64 0) (x_assign rfl) rfl (Wl_nil (tn ?_)))))))))))
          obtain ⟨o965, o965h, o965H⟩ := bindS H
          refine Wp_blockJ (fun ρ w' => ∃ (x964 : Int), (x964) = o965 ∧ Agree ρ [(0, .slice A0 a0.length c0), (5, .int .i64 x964), (7, .int .i64 x632)] ∧ Ext w w' ∧ St w' M F []) ?_ ?_
          · skip
            refine Wp_loop (fun n ρ w' => ∃ (x918 : Int) (x919 : Int), ferrymanlaw30_long_l5 a0 x632 n x918 x919 = some o965 ∧ Agree ρ [(0, .slice A0 a0.length c0), (5, .int .i64 x918), (7, .int .i64 x632), (8, .int .i64 x919)] ∧ Ext w w' ∧ St w' M F []) k ?_ ?_
            · skip
              exact ⟨(IntKind.i64.wrap (x631 + (1 : Int))), (0 : Int), o965h, ⟨rfl, rfl, rfl, rfl, trivial⟩, E, S.pick [] (by decide)⟩
            · intro n
              rintro ρ w966 ⟨x918, x919, H, hρ, E, S⟩
              rw [agree_eta hρ]
              cases n with
              | zero => cases H
              | succ k =>
                rw [ferrymanlaw30_long_l5.eq_2] at H
                refine Wp_seq (Wp_seq (Wp_region_lit (W_v (.int .i64 x919) (x_move rfl) rfl (W_v (.slice A0 a0.length c0) (x_move rfl) rfl (W_v (.int .i64 x632) (x_move rfl) rfl ?_)))))
                obtain ⟨⟨p967, p968⟩, H⟩ := chkS H
                obtain ⟨b969, o970, cs971, _, _, ee976, hb972, vs973, hR974, hc975⟩ := SlW.at' hr0 p967 p968
                obtain ⟨v980, hs979, rfl⟩ := hR974
                obtain ⟨A977, c978, rfl, _⟩ := hs979.form
                refine W_v (.pointer (some ⟨b969, o970 + x632.toNat * 1, none⟩)) (x_indexAddr Tryd.underlying44 ty43 (slA ee976) rfl p967 p968) rfl (W_v (.slice A977 (rd a0 x632).length c978) (x_load (S.frz hb972) ty43 rfl (hc975 0 _ rfl)) rfl (W_v (.int .i64 ((rd a0 x632).length : Int)) (x_len_slice (n := (rd a0 x632).length) Tryd.underlying43 rfl) rfl (W_v (.bool (decide (x919 < ((rd a0 x632).length : Int)))) (x_ibin rfl rfl rfl rfl) rfl (W_v (.bool (decide (x919 < ((rd a0 x632).length : Int)))) (x_move rfl) rfl ?_))))
                refine Wl_cutN 3 (fun ρ w' => Agree ρ [(0, .slice A0 a0.length c0), (5, .int .i64 x918), (7, .int .i64 x632), (8, .int .i64 x919), (66, .bool ((decide (x919 < ((rd a0 x632).length : Int))) && (decide (x918 < (8000 : Int)))))] ∧ w966 = w') ?_ ?_
                · rcases boolCases (decide (x919 < ((rd a0 x632).length : Int))) with hb981 | hb981
                  · skip
                    refine W_no (skT hb981) rfl (W_no (skT hb981) rfl (W_v (.bool false) (x_pick (k := false) (congrArg Value.bool hb981) rfl) rfl (Wl_nil ?_)))
                    exact ⟨⟨rfl, rfl, rfl, rfl, (by first | rfl | (rw [hb981]; rfl) | (simp only [hb981]; rfl)), trivial⟩, rfl⟩
                  · skip
                    refine W_yes (congrArg some hb981) (W_v (.int .i64 x918) (x_move rfl) rfl (W_yes (congrArg some hb981) (W_v (.bool (decide (x918 < (8000 : Int)))) (x_ibin rfl rfl rfl rfl) rfl (W_v (.bool (decide (x918 < (8000 : Int)))) (x_pick (k := true) (congrArg Value.bool hb981) rfl) rfl (Wl_nil ?_)))))
                    exact ⟨⟨rfl, rfl, rfl, rfl, (by first | rfl | (rw [hb981]; rfl) | (simp only [hb981]; rfl)), trivial⟩, rfl⟩
                as_aux_lemma =>
                rintro ρ _ ⟨hρ, rfl⟩
                rw [agree_eta hρ]
                refine Wl_nil (tn ?_)
                rcases iteS H with ⟨hb982, H⟩ | ⟨hb982, H⟩
                · refine Wp_cond_true (congrArg Value.bool hb982) ?_
                  refine Wp_skip (tn (Wp_seq ?_))
                  refine Wp_block ?_
                  refine Wp_seq (Wp_region_lit (W_v (.slice A0 a0.length c0) (x_move rfl) rfl (W_v (.int .i64 x632) (x_move rfl) rfl ?_)))
                  obtain ⟨⟨p983, p984⟩, H⟩ := chkS H
                  obtain ⟨b985, o986, cs987, _, _, ee992, hb988, vs989, hR990, hc991⟩ := SlW.at' hr0 p983 p984
                  obtain ⟨v996, hs995, rfl⟩ := hR990
                  obtain ⟨A993, c994, rfl, _⟩ := hs995.form
                  refine W_v (.pointer (some ⟨b985, o986 + x632.toNat * 1, none⟩)) (x_indexAddr Tryd.underlying44 ty43 (slA ee992) rfl p983 p984) rfl (W_v (.slice A993 (rd a0 x632).length c994) (x_load (S.frz hb988) ty43 rfl (hc991 0 _ rfl)) rfl (W_v (.int .i64 x919) (x_move rfl) rfl ?_))
                  obtain ⟨⟨p997, p998⟩, H⟩ := chkS H
                  obtain ⟨b999, o1000, cs1001, _, _, ee1006, hb1002, vs1003, hR1004, hc1005⟩ := SlW.at' hs995 p997 p998
                  obtain rfl : vs1003 = _ := hR1004
                  refine W_v (.pointer (some ⟨b999, o1000 + x919.toNat * 7, none⟩)) (x_indexAddr Tryd.underlying43 ty42 (slA ee1006) rfl p997 p998) rfl (W_v (.agg #[.int .u8 ((rd (rd a0 x632) x919).Kind), .int .i64 ((rd (rd a0 x632) x919).Tx), .string (bs ((rd (rd a0 x632) x919).Key)), .string (bs ((rd (rd a0 x632) x919).End)), .string (bs ((rd (rd a0 x632) x919).Value)), .int .i64 ((rd (rd a0 x632) x919).Limit), .int .u8 ((rd (rd a0 x632) x919).Engine)]) (x_loadA (S.frz hb1002) ty42 rfl (sub_el hc1005 0 rfl) rfl rfl) rfl ?_)
                  refine W_alloc S #[.int .u8 0, .int .i64 0, .string (bs ([] : Str)), .string (bs ([] : Str)), .string (bs ([] : Str)), .int .i64 0, .int .u8 0] ty42 rfl rfl ?_
                  intro b1007 w1008 E' S
                  replace E := E.trans E'
                  refine W_store S 0 rfl ty42 rfl rfl [.int .u8 ((rd (rd a0 x632) x919).Kind), .int .i64 ((rd (rd a0 x632) x919).Tx), .string (bs ((rd (rd a0 x632) x919).Key)), .string (bs ((rd (rd a0 x632) x919).End)), .string (bs ((rd (rd a0 x632) x919).Value)), .int .i64 ((rd (rd a0 x632) x919).Limit), .int .u8 ((rd (rd a0 x632) x919).Engine)] rfl rfl rfl #[.int .u8 ((rd (rd a0 x632) x919).Kind), .int .i64 ((rd (rd a0 x632) x919).Tx), .string (bs ((rd (rd a0 x632) x919).Key)), .string (bs ((rd (rd a0 x632) x919).End)), .string (bs ((rd (rd a0 x632) x919).Value)), .int .i64 ((rd (rd a0 x632) x919).Limit), .int .u8 ((rd (rd a0 x632) x919).Engine)] (by as_aux_lemma => kernel_rfl) rfl ?_
                  intro w1010 E' S
                  replace E := E.trans E'
                  refine Wl_nil (tn (Wp_region_lit (W_v (.int .i64 x918) (x_move rfl) rfl (W_v (.int .i64 (IntKind.i64.wrap (x918 + (5 : Int)))) (x_ibin rfl rfl rfl rfl) rfl (W_v (pt b1007 2) (x_fieldAddr (o := 0) (off := 2) Tryd.underlying42 rfl ty9 rfl rfl) rfl (W_v (.string (bs ((rd (rd a0 x632) x919).Key))) (x_load (S.blk 0 rfl) ty9 rfl rfl) rfl (W_v (.int .i64 (((rd (rd a0 x632) x919).Key).length : Int)) (x_len_str Tryd.underlying9 rfl) rfl (W_v (.int .i64 (imin (8000 : Int) (((rd (rd a0 x632) x919).Key).length : Int))) (x_min2 rfl rfl) rfl (W_v (.int .i64 (IntKind.i64.wrap ((IntKind.i64.wrap (x918 + (5 : Int))) + (imin (8000 : Int) (((rd (rd a0 x632) x919).Key).length : Int))))) (x_ibin rfl rfl rfl rfl) rfl (W_v (pt b1007 3) (x_fieldAddr (o := 0) (off := 3) Tryd.underlying42 rfl ty9 rfl rfl) rfl (W_v (.string (bs ((rd (rd a0 x632) x919).End))) (x_load (S.blk 0 rfl) ty9 rfl rfl) rfl (W_v (.int .i64 (((rd (rd a0 x632) x919).End).length : Int)) (x_len_str Tryd.underlying9 rfl) rfl (W_v (.int .i64 (imin (8000 : Int) (((rd (rd a0 x632) x919).End).length : Int))) (x_min2 rfl rfl) rfl (W_v (.int .i64 (IntKind.i64.wrap ((IntKind.i64.wrap ((IntKind.i64.wrap (x918 + (5 : Int))) + (imin (8000 : Int) (((rd (rd a0 x632) x919).Key).length : Int)))) + (imin (8000 : Int) (((rd (rd a0 x632) x919).End).length : Int))))) (x_ibin rfl rfl rfl rfl) rfl (W_v (pt b1007 4) (x_fieldAddr (o := 0) (off := 4) Tryd.underlying42 rfl ty9 rfl rfl) rfl ?_)))))))))))))))
                  refine W_v (.string (bs ((rd (rd a0 x632) x919).Value))) (x_load (S.blk 0 rfl) ty9 rfl rfl) rfl (W_v (.int .i64 (((rd (rd a0 x632) x919).Value).length : Int)) (x_len_str Tryd.underlying9 rfl) rfl (W_v (.int .i64 (imin (8000 : Int) (((rd (rd a0 x632) x919).Value).length : Int))) (x_min2 rfl rfl) rfl (W_v (.int .i64 (IntKind.i64.wrap ((IntKind.i64.wrap ((IntKind.i64.wrap ((IntKind.i64.wrap (x918 + (5 : Int))) + (imin (8000 : Int) (((rd (rd a0 x632) x919).Key).length : Int)))) + (imin (8000 : Int) (((rd (rd a0 x632) x919).End).length : Int)))) + (imin (8000 : Int) (((rd (rd a0 x632) x919).Value).length : Int))))) (x_ibin rfl rfl rfl rfl) rfl (W_v (.int .i64 (IntKind.i64.wrap ((IntKind.i64.wrap ((IntKind.i64.wrap ((IntKind.i64.wrap (x918 + (5 : Int))) + (imin (8000 : Int) (((rd (rd a0 x632) x919).Key).length : Int)))) + (imin (8000 : Int) (((rd (rd a0 x632) x919).End).length : Int)))) + (imin (8000 : Int) (((rd (rd a0 x632) x919).Value).length : Int))))) (x_assign rfl) rfl (Wl_nil (bn (tn (Wp_region_lit (W_v (.int .i64 x919) (x_move rfl) rfl (W_v (.int .i64 (IntKind.i64.wrap (x919 + (1 : Int)))) (x_ibin rfl rfl rfl rfl) rfl (W_v (.int .i64 (IntKind.i64.wrap (x919 + (1 : Int)))) (x_assign rfl) rfl (Wl_nil (tn ?_)))))))))))))
                  exact ⟨k, Nat.lt_succ_self k, ⟨(IntKind.i64.wrap ((IntKind.i64.wrap ((IntKind.i64.wrap ((IntKind.i64.wrap (x918 + (5 : Int))) + (imin (8000 : Int) (((rd (rd a0 x632) x919).Key).length : Int)))) + (imin (8000 : Int) (((rd (rd a0 x632) x919).End).length : Int)))) + (imin (8000 : Int) (((rd (rd a0 x632) x919).Value).length : Int)))), (IntKind.i64.wrap (x919 + (1 : Int))), H, ⟨rfl, rfl, rfl, rfl, trivial⟩, E, S.pick [] (by decide)⟩⟩
                refine Wp_cond_false (congrArg Value.bool hb982) ?_
                refine Wp_exit ?_
                refine tx (tx (bsm (?_)))
                refine tn ?_
                exact ⟨x918, Option.some.inj H, ⟨rfl, rfl, rfl, trivial⟩, E, S.pick [] (by decide)⟩
          rintro ρ w1011 ⟨x964, rfl, hρ, E, S⟩
          rw [agree_eta hρ]
          have H := o965H
          refine bn (tn (Wp_region_lit (W_v (.int .i64 x632) (x_move rfl) rfl (W_v (.int .i64 (IntKind.i64.wrap (x632 + (1 : Int)))) (x_ibin rfl rfl rfl rfl) rfl (W_v (.int .i64 (IntKind.i64.wrap (x632 + (1 : Int)))) (x_assign rfl) rfl (Wl_nil (tn ?_)))))))
          exact ⟨k, Nat.lt_succ_self k, ⟨x964, (IntKind.i64.wrap (x632 + (1 : Int))), H, ⟨rfl, rfl, rfl, trivial⟩, E, S.pick [] (by decide)⟩⟩
        refine Wp_cond_false (congrArg Value.bool hb825) ?_
        refine Wp_exit ?_
        refine tx (tx (bsm (?_)))
        refine tn ?_
        exact ⟨x631, Option.some.inj H, ⟨rfl, trivial⟩, E, S.pick [] (by decide)⟩
  rintro ρ w1012 ⟨x821, rfl, hρ, E, S⟩
  rw [agree_eta hρ]
  have H := o822H
  refine tn ?_
  as_aux_lemma =>
  refine Wp_seq (Wp_region_lit (W_v (.int .i64 x821) (x_move rfl) rfl (W_v (.bool (decide (x821 ≥ (8000 : Int)))) (x_ibin rfl rfl rfl rfl) rfl (W_v (.bool (decide (x821 ≥ (8000 : Int)))) (x_assign rfl) rfl (Wl_nil (tn ?_))))))
  refine Wp_ret ?_
  obtain rfl := Option.some.inj H
  exact ⟨_, _, _, fun w1 e1 => run_resR (vs := [.bool (decide (x821 ≥ (8000 : Int)))]) (FA.cons (rfl) (FA.nil)), HM, E, S.pick [] (by decide), ⟨rfl, rfl⟩⟩
def ferrymanlaw30_RoomRests_l0 (t24 : (List replay_Done)) : Nat → Int → Option ((Bool) ⊕ (Unit))
  | 0, _ => none
  | k + 1, x66 => (if (decide (x66 < (t24.length : Int))) = true then (if 0 ≤ x66 ∧ x66 < (t24.length : Int) then (if (decide ((rd t24 x66).Back < (0 : Int))) = true then some (.inl true) else ferrymanlaw30_RoomRests_l0 t24 k (IntKind.i64.wrap (x66 + (1 : Int)))) else none) else some (.inr ()))
set_option maxHeartbeats 2000000 in
theorem ferrymanlaw30_RoomRests_l0.mono {t24 : (List replay_Done)} : ∀ {kl : Nat} {x0}, OLe (ferrymanlaw30_RoomRests_l0 t24 kl x0) (ferrymanlaw30_RoomRests_l0 t24 (kl + 1) x0) := by
  intro kl
  induction kl with
  | zero => intros; exact OLe.none
  | succ kl ih =>
    intros
    rw [ferrymanlaw30_RoomRests_l0.eq_2, ferrymanlaw30_RoomRests_l0.eq_2]
    repeat' (first | with_reducible exact OLe.none | with_reducible exact OLe.some | with_reducible refine OLe.ite ?_ ?_ | with_reducible refine OLe.bind ?_ (fun _ => ?_) | exact ih | refine OLe.bind ?_ (fun _ => ?_) | refine OLe.ite ?_ ?_ | refine OLe.elim (fun _ => ?_) (fun _ => ?_) | split)
def ferrymanlaw30_RoomRests (k : Nat) (a0 : api_Config) (a1 : (List (List api_Call))) (a2 : (List api_Event)) : Option (Bool) :=
  (Option.bind (ferrymanlaw30_works k ) (fun t4 => (Option.bind (α := Bool) (if (!t4) = true then some (true) else (Option.bind (ferrymanlaw30_long k a1 a2) (fun t16 => some (t16)))) (fun x14 => (if x14 = true then (Option.bind (ferrymanlaw30_works k ) (fun t21 => some t21)) else (Option.bind (replay_Answers k a0 a1 a2) (fun t24 => (Option.bind (ferrymanlaw30_RoomRests_l0 t24 k (0 : Int)) (fun o83o => Sum.elim (fun r' => some r') (fun _ => (Option.bind (replay_Model_v k a0 a1 a2) (fun t102 => (Sum.elim (fun t104 => (Option.bind (room_Now k a0 a1 a2) (fun t110 => some (t110.2.2 == (1 : Int))))) (Sum.elim (fun t105 => (Option.bind (room_Now k a0 a1 a2) (fun t116 => some (t116.2.2 == (4 : Int))))) (fun t106 => (Option.bind (room_Now k a0 a1 a2) (fun t138 => (Option.bind (α := Bool) (if (t138.2.2 == (0 : Int)) = true then (Option.bind (model_Model_Retained_POOOO k t106) (fun t154 => some ((t138.1 == t154)))) else some (false)) (fun x152 => (Option.bind (α := Bool) (if x152 = true then (Option.bind (model_Model_Keys_POOOO k t106) (fun t179 => some ((t138.2.1 == (t179.length : Int))))) else some (false)) (fun x177 => some x177))))))))) t102))) o83o)))))))))
set_option maxHeartbeats 2000000 in
theorem ferrymanlaw30_RoomRests.mono {k : Nat} {a0 : api_Config} {a1 : (List (List api_Call))} {a2 : (List api_Event)} : OLe (ferrymanlaw30_RoomRests k a0 a1 a2) (ferrymanlaw30_RoomRests (k + 1) a0 a1 a2) := by
  unfold ferrymanlaw30_RoomRests
  repeat' (first | with_reducible exact OLe.none | with_reducible exact OLe.some | with_reducible refine OLe.ite ?_ ?_ | with_reducible refine OLe.bind ?_ (fun _ => ?_) | with_reducible exact ferrymanlaw30_RoomRests_l0.mono | with_reducible exact ferrymanlaw30_long.mono | with_reducible exact ferrymanlaw30_works.mono | with_reducible exact model_Model_Keys_POOOO.mono | with_reducible exact model_Model_Retained_POOOO.mono | with_reducible exact replay_Answers.mono | with_reducible exact replay_Model_v.mono | with_reducible exact room_Now.mono | refine OLe.bind ?_ (fun _ => ?_) | refine OLe.ite ?_ ?_ | refine OLe.elim (fun _ => ?_) (fun _ => ?_) | split)
set_option maxHeartbeats 1000000 in
set_option maxRecDepth 100000 in
theorem ferrymanlaw30_RoomRests.con (k : Nat) (M : Hp) (a0 : api_Config) (A1 : Option Addr) (c1 : Nat) (a1 : (List (List api_Call))) (A2 : Option Addr) (c2 : Nat) (a2 : (List api_Event)) (r : Bool) (hr1 : SlR (rSl r_api_Call) M (.slice A1 a1.length c1) a1) (hr2 : SlR r_api_Event M (.slice A2 a2.length c2) a2) (hg0 : ∃ gt fr, M 0 = some (.cells #[.nilFunc, .func (.func 92) #[] #[], .func (.func 93) #[] #[], .func (.func 94) #[] #[], .func (.func 95) #[] #[], .func (.func 96) #[] #[], .func (.func 97) #[] #[], .func (.func 98) #[] #[], .func (.func 99) #[] #[], .func (.func 100) #[] #[]] gt fr)) (hg1 : ∃ gt fr, M 1 = some (.cells #[.nilFunc, .func (.func 114) #[] #[], .func (.func 116) #[] #[], .func (.func 118) #[] #[]] gt fr)) (h : ferrymanlaw30_RoomRests k a0 a1 a2 = some r) : Con Tryd.prog 5 #[.agg #[.int .i64 a0.Tasks, .int .i64 a0.Active, .int .i64 a0.Keys, .int .i64 a0.Depth, .int .i64 a0.TS, .int .i64 a0.KeyLen, .int .i64 a0.ValLen, .int .i64 a0.Fan], .slice A1 a1.length c1, .slice A2 a2.length c2] M [] (fun v M' Γ' => v = .bool r ∧ Γ' = []) := by
  refine con_of_wp Tryd.func5 rfl Tryd.ntmps5 Tryd.results5 rfl ?_
  intro w F rn S hrn
  have E := Ext.refl w
  have HM := Hp.le_refl M
  have H := h
  unfold ferrymanlaw30_RoomRests at H
  refine Wp_seq (Wp_region_lit ?_)
  refine W_box S #[.int .i64 a0.Tasks, .int .i64 a0.Active, .int .i64 a0.Keys, .int .i64 a0.Depth, .int .i64 a0.TS, .int .i64 a0.KeyLen, .int .i64 a0.ValLen, .int .i64 a0.Fan] rfl rfl rfl ?_
  intro b1 w2 E' S
  replace E := E.trans E'
  refine W_v (.bool false) (x_assign rfl) rfl (Wl_nil (tn (Wp_seq (Wp_seq (Wp_region_lit ?_)))))
  obtain ⟨t4, ht5, H⟩ := bindS H
  refine W_callF fn10 (ferrymanlaw30_works.con k M  t4 hg0 hg1 ht5) S rfl rfl (by rintro _ _ _ ⟨_, rfl⟩; exact flat_nil) ?_
  rintro _ w6 _ Γ' E' S ⟨rfl, rfl⟩
  replace E := E.trans E'
  refine W_v (.bool (!t4)) (x_not (b := t4) rfl) rfl (W_v (.bool (!t4)) (x_move rfl) rfl ?_)
  obtain ⟨o15, o15h, o15H⟩ := bindS H
  refine Wl_cutN 4 (fun ρ w' => ∃ (x14 : Bool), (x14) = o15 ∧ Agree ρ [(1, .slice A1 a1.length c1), (2, .slice A2 a2.length c2), (3, pt b1 0), (20, .bool x14)] ∧ Ext w w' ∧ St w' M F [B23 b1 a0]) ?_ ?_
  · have H := o15h
    rcases iteS H with ⟨hb13, H⟩ | ⟨hb13, H⟩
    · skip
      refine W_no (skF hb13) rfl (W_no (skF hb13) rfl (W_no (skF hb13) rfl (W_v (.bool true) (x_pick (k := true) (congrArg Value.bool hb13) rfl) rfl (Wl_nil ?_))))
      exact ⟨true, Option.some.inj H, ⟨rfl, rfl, rfl, rfl, trivial⟩, E, S.pick [0] (by decide)⟩
    · skip
      refine W_yes (congrArg some hb13) (W_v (.slice A1 a1.length c1) (x_move rfl) rfl (W_yes (congrArg some hb13) (W_v (.slice A2 a2.length c2) (x_move rfl) rfl (W_yes (congrArg some hb13) ?_))))
      obtain ⟨t16, ht17, H⟩ := bindS H
      refine W_callF fn16 (ferrymanlaw30_long.con k M A1 c1 a1 A2 c2 a2 t16 hr1 hr2 ht17) S rfl rfl (by rintro _ _ _ ⟨_, rfl⟩; exact flat_nil) ?_
      rintro _ w18 _ Γ' E' S ⟨rfl, rfl⟩
      replace E := E.trans E'
      refine W_v (.bool t16) (x_pick (k := false) (congrArg Value.bool hb13) rfl) rfl (Wl_nil ?_)
      exact ⟨t16, Option.some.inj H, ⟨rfl, rfl, rfl, rfl, trivial⟩, E, S.pick [0] (by decide)⟩
  as_aux_lemma =>
  rintro ρ w19 ⟨x14, rfl, hρ, E, S⟩
  rw [agree_eta hρ]
  have H := o15H
  refine Wl_nil (tn ?_)
  rcases iteS H with ⟨hb20, H⟩ | ⟨hb20, H⟩
  · refine Wp_cond_true (congrArg Value.bool hb20) ?_
    refine Wp_seq (Wp_region_lit ?_)
    obtain ⟨t21, ht22, H⟩ := bindS H
    refine W_callF fn10 (ferrymanlaw30_works.con k M  t21 hg0 hg1 ht22) S rfl rfl (by rintro _ _ _ ⟨_, rfl⟩; exact flat_nil) ?_
    rintro _ w23 _ Γ' E' S ⟨rfl, rfl⟩
    replace E := E.trans E'
    refine W_v (.bool t21) (x_assign rfl) rfl (Wl_nil (tn ?_))
    refine Wp_ret ?_
    refine tr (?_)
    obtain rfl := Option.some.inj H
    exact ⟨_, _, _, fun w1 e1 => run_resR (vs := [.bool t21]) (FA.cons (rfl) (FA.nil)), HM, E, S.pick [] (by decide), ⟨rfl, rfl⟩⟩
  refine Wp_cond_false (congrArg Value.bool hb20) (Wp_skip (tn (Wp_seq (Wp_region_lit (W_v (.agg #[.int .i64 a0.Tasks, .int .i64 a0.Active, .int .i64 a0.Keys, .int .i64 a0.Depth, .int .i64 a0.TS, .int .i64 a0.KeyLen, .int .i64 a0.ValLen, .int .i64 a0.Fan]) (x_loadA (S.blk 0 rfl) ty23 rfl (sub_of_extract rfl) rfl rfl) rfl (W_v (.slice A1 a1.length c1) (x_move rfl) rfl (W_v (.slice A2 a2.length c2) (x_move rfl) rfl ?_)))))))
  obtain ⟨t24, ht25, H⟩ := bindS H
  refine W_call fn17 (replay_Answers.con k M a0 A1 c1 a1 A2 c2 a2 t24 hr1 hr2 hg0 hg1 ht25) (Γ1 := []) (Γ2 := [_]) S rfl rfl ?_
  rintro _ w29 M30 Γ' hM31 E' S ⟨A26, c27, rfl, rfl⟩
  replace hg0 : ∃ gt fr, _ := (let ⟨gt, fr, h8⟩ := hg0; ⟨gt, fr, hM31 _ _ h8⟩)
  replace hg1 : ∃ gt fr, _ := (let ⟨gt, fr, h8⟩ := hg1; ⟨gt, fr, hM31 _ _ h8⟩)
  replace HM := Hp.le_trans HM hM31
  replace hr1 := SlR.mono hr1 hM31
  replace hr2 := SlR.mono hr2 hM31
  replace E := E.trans E'
  refine W_v (.slice A26 t24.length c27) (x_assign rfl) rfl (Wl_nil (tn (Wp_seq (Wp_seq (Wp_region_lit (W_v (.int .i64 0) (x_assign rfl) rfl (Wl_nil (tn ?_))))))))
  obtain ⟨o83, o83h, o83H⟩ := bindS H
  refine Wp_blockJ (fun ρ w' => .inr () = o83 ∧ Agree ρ [(1, .slice A1 a1.length c1), (2, .slice A2 a2.length c2), (3, pt b1 0)] ∧ Ext w w' ∧ St w' M30 F [B23 b1 a0]) ?_ ?_
  · skip
    refine Wp_loop (fun n ρ w' => ∃ (x66 : Int), ferrymanlaw30_RoomRests_l0 t24 n x66 = some o83 ∧ Agree ρ [(1, .slice A1 a1.length c1), (2, .slice A2 a2.length c2), (3, pt b1 0), (7, .slice A26 t24.length c27), (8, .int .i64 x66)] ∧ Ext w w' ∧ St w' M30 F [Row r_replay_Done 53 (.slice A26 t24.length c27) t24, B23 b1 a0]) k ?_ ?_
    · skip
      exact ⟨(0 : Int), o83h, ⟨rfl, rfl, rfl, rfl, rfl, trivial⟩, E, S.pick [0, 1] (by decide)⟩
    · intro n
      rintro ρ w84 ⟨x66, H, hρ, E, S⟩
      rw [agree_eta hρ]
      cases n with
      | zero => cases H
      | succ k =>
        rw [ferrymanlaw30_RoomRests_l0.eq_2] at H
        refine Wp_seq (Wp_seq (Wp_region_lit (W_v (.int .i64 x66) (x_move rfl) rfl (W_v (.slice A26 t24.length c27) (x_move rfl) rfl (W_v (.int .i64 (t24.length : Int)) (x_len_slice (n := t24.length) Tryd.underlying50 rfl) rfl (W_v (.bool (decide (x66 < (t24.length : Int)))) (x_ibin rfl rfl rfl rfl) rfl (Wl_nil (tn ?_))))))))
        rcases iteS H with ⟨hb85, H⟩ | ⟨hb85, H⟩
        · refine Wp_cond_true (congrArg Value.bool hb85) ?_
          refine Wp_skip (tn (Wp_seq ?_))
          refine Wp_block ?_
          refine Wp_seq (Wp_region_lit (W_v (.slice A26 t24.length c27) (x_move rfl) rfl (W_v (.int .i64 x66) (x_move rfl) rfl ?_)))
          obtain ⟨⟨p86, p87⟩, H⟩ := chkS H
          obtain ⟨b88, o89, cs90, _, _, ee95, hb91, vs92, hR93, hc94⟩ := SlW.at' (S.row_read 0 rfl) p86 p87
          obtain ⟨v99, hs98, rfl⟩ := hR93
          obtain ⟨A96, c97, rfl, _⟩ := hs98.form
          refine W_v (.pointer (some ⟨b88, o89 + x66.toNat * 8, none⟩)) (x_indexAddr Tryd.underlying50 ty53 (slA ee95) rfl p86 p87) rfl (W_v (.pointer (some ⟨b88, o89 + x66.toNat * 8 + 7, none⟩)) (x_fieldAddr (o := o89 + x66.toNat * 8) (off := 7) Tryd.underlying53 rfl ty3 rfl rfl) rfl (W_v (.int .i64 ((rd t24 x66).Back)) (x_load (Hp.of_get hb91) ty3 rfl (hc94 7 _ rfl)) rfl (W_v (.bool (decide ((rd t24 x66).Back < (0 : Int)))) (x_ibin rfl rfl rfl rfl) rfl (Wl_nil (tn ?_)))))
          rcases iteS H with ⟨hb100, H⟩ | ⟨hb100, H⟩
          · refine Wp_cond_true (congrArg Value.bool hb100) ?_
            refine Wp_seq (Wp_region_lit (W_v (.bool true) (x_assign rfl) rfl (Wl_nil (tn ?_))))
            refine Wp_ret ?_
            refine br (tr (tr (br (tr (tr (?_))))))
            obtain rfl := Option.some.inj H
            have H := o83H
            replace H := elimL H
            obtain rfl := Option.some.inj H
            exact ⟨_, _, _, fun w1 e1 => run_resR (vs := [.bool true]) (FA.cons (rfl) (FA.nil)), HM, E, S.pick [] (by decide), ⟨rfl, rfl⟩⟩
          refine Wp_cond_false (congrArg Value.bool hb100) (Wp_skip (bn (tn (Wp_region_lit (W_v (.int .i64 x66) (x_move rfl) rfl (W_v (.int .i64 (IntKind.i64.wrap (x66 + (1 : Int)))) (x_ibin rfl rfl rfl rfl) rfl (W_v (.int .i64 (IntKind.i64.wrap (x66 + (1 : Int)))) (x_assign rfl) rfl (Wl_nil (tn ?_)))))))))
          exact ⟨k, Nat.lt_succ_self k, ⟨(IntKind.i64.wrap (x66 + (1 : Int))), H, ⟨rfl, rfl, rfl, rfl, rfl, trivial⟩, E, S.pick [0, 1] (by decide)⟩⟩
        refine Wp_cond_false (congrArg Value.bool hb85) ?_
        refine Wp_exit ?_
        refine tx (tx (bsm (?_)))
        refine tn ?_
        exact ⟨Option.some.inj H, ⟨rfl, rfl, rfl, trivial⟩, E, S.pick [1] (by decide)⟩
  rintro ρ w101 ⟨rfl, hρ, E, S⟩
  rw [agree_eta hρ]
  have H := o83H
  replace H := elimR H
  refine tn ?_
  as_aux_lemma =>
  refine Wp_seq (Wp_region_lit (W_v (.agg #[.int .i64 a0.Tasks, .int .i64 a0.Active, .int .i64 a0.Keys, .int .i64 a0.Depth, .int .i64 a0.TS, .int .i64 a0.KeyLen, .int .i64 a0.ValLen, .int .i64 a0.Fan]) (x_loadA (S.blk 0 rfl) ty23 rfl (sub_of_extract rfl) rfl rfl) rfl (W_v (.slice A1 a1.length c1) (x_move rfl) rfl (W_v (.slice A2 a2.length c2) (x_move rfl) rfl ?_))))
  obtain ⟨t102, ht103, H⟩ := bindS H
  rcases t102 with t104 | t105 | t106
  · skip
    replace H := elimL H
    refine W_callF2 fn18 (replay_Model_v.con k M30 a0 A1 c1 a1 A2 c2 a2 (Sum.inl t104) hr1 hr2 hg0 hg1 ht103) (Γ1 := []) (Γ2 := [_]) S rfl rfl (by rintro _ _ _ ⟨rfl, rfl⟩; exact flat_nil) ?_
    rintro _ w107 _ Γ' E' S ⟨rfl, rfl⟩
    replace E := E.trans E'
    replace S : St w107 M30 F [_] := S
    refine W_v (.tuple #[.pointer none, .int .i64 1]) (x_move rfl) rfl (W_v (.pointer none) (x_extract rfl rfl) rfl (W_v (.int .i64 1) (x_extract rfl rfl) rfl (W_v (.pointer none) (x_assign rfl) rfl (W_v (.int .i64 1) (x_assign rfl) rfl (Wl_nil (tn (Wp_seq (Wp_region_lit (W_v (.agg #[.int .i64 a0.Tasks, .int .i64 a0.Active, .int .i64 a0.Keys, .int .i64 a0.Depth, .int .i64 a0.TS, .int .i64 a0.KeyLen, .int .i64 a0.ValLen, .int .i64 a0.Fan]) (x_loadA (S.blk 0 rfl) ty23 rfl (sub_of_extract rfl) rfl rfl) rfl (W_v (.slice A1 a1.length c1) (x_move rfl) rfl (W_v (.slice A2 a2.length c2) (x_move rfl) rfl ?_)))))))))))
    obtain ⟨t110, ht111, H⟩ := bindS H
    refine W_callF fn13 (room_Now.con k M30 a0 A1 c1 a1 A2 c2 a2 t110 hr1 hr2 hg0 hg1 ht111) S rfl rfl (by rintro _ _ _ ⟨_, rfl⟩; exact flat_nil) ?_
    rintro _ w112 _ Γ' E' S ⟨rfl, rfl⟩
    replace E := E.trans E'
    refine W_v (.tuple #[.int .i64 t110.1, .int .i64 t110.2.1, .int .i64 t110.2.2]) (x_move rfl) rfl (W_v (.int .i64 t110.1) (x_extract rfl rfl) rfl (W_v (.int .i64 t110.2.1) (x_extract rfl rfl) rfl (W_v (.int .i64 t110.2.2) (x_extract rfl rfl) rfl (W_v (.int .i64 t110.1) (x_assign rfl) rfl (W_v (.int .i64 t110.2.1) (x_assign rfl) rfl (W_v (.int .i64 t110.2.2) (x_assign rfl) rfl (Wl_nil (tn (Wp_seq (Wp_seq (Wp_region_lit (W_v (.int .i64 1) (x_move rfl) rfl (W_v (.bool true) (x_ibin rfl rfl rfl rfl) rfl (Wl_nil (tn ?_)))))))))))))))
    refine Wp_cond_true rfl (Wp_seq (Wp_region_lit (W_v (.int .i64 t110.2.2) (x_move rfl) rfl (W_v (.int .i64 1) (x_move rfl) rfl (W_v (.bool (t110.2.2 == (1 : Int))) (x_ibin rfl rfl rfl rfl) rfl (W_v (.bool (t110.2.2 == (1 : Int))) (x_assign rfl) rfl (Wl_nil (tn ?_))))))))
    refine Wp_ret ?_
    refine tr (?_)
    obtain rfl := Option.some.inj H
    exact ⟨_, _, _, fun w1 e1 => run_resR (vs := [.bool (t110.2.2 == (1 : Int))]) (FA.cons (rfl) (FA.nil)), HM, E, S.pick [] (by decide), ⟨rfl, rfl⟩⟩
  · skip
    replace H := elimR H
    replace H := elimL H
    refine W_callF2 fn18 (replay_Model_v.con k M30 a0 A1 c1 a1 A2 c2 a2 (Sum.inr (Sum.inl t105)) hr1 hr2 hg0 hg1 ht103) (Γ1 := []) (Γ2 := [_]) S rfl rfl (by rintro _ _ _ ⟨rfl, rfl⟩; exact flat_nil) ?_
    rintro _ w113 _ Γ' E' S ⟨rfl, rfl⟩
    replace E := E.trans E'
    replace S : St w113 M30 F [_] := S
    refine W_v (.tuple #[.pointer none, .int .i64 4]) (x_move rfl) rfl (W_v (.pointer none) (x_extract rfl rfl) rfl (W_v (.int .i64 4) (x_extract rfl rfl) rfl (W_v (.pointer none) (x_assign rfl) rfl (W_v (.int .i64 4) (x_assign rfl) rfl (Wl_nil (tn (Wp_seq (Wp_region_lit (W_v (.agg #[.int .i64 a0.Tasks, .int .i64 a0.Active, .int .i64 a0.Keys, .int .i64 a0.Depth, .int .i64 a0.TS, .int .i64 a0.KeyLen, .int .i64 a0.ValLen, .int .i64 a0.Fan]) (x_loadA (S.blk 0 rfl) ty23 rfl (sub_of_extract rfl) rfl rfl) rfl (W_v (.slice A1 a1.length c1) (x_move rfl) rfl (W_v (.slice A2 a2.length c2) (x_move rfl) rfl ?_)))))))))))
    obtain ⟨t116, ht117, H⟩ := bindS H
    refine W_callF fn13 (room_Now.con k M30 a0 A1 c1 a1 A2 c2 a2 t116 hr1 hr2 hg0 hg1 ht117) S rfl rfl (by rintro _ _ _ ⟨_, rfl⟩; exact flat_nil) ?_
    rintro _ w118 _ Γ' E' S ⟨rfl, rfl⟩
    replace E := E.trans E'
    refine W_v (.tuple #[.int .i64 t116.1, .int .i64 t116.2.1, .int .i64 t116.2.2]) (x_move rfl) rfl (W_v (.int .i64 t116.1) (x_extract rfl rfl) rfl (W_v (.int .i64 t116.2.1) (x_extract rfl rfl) rfl (W_v (.int .i64 t116.2.2) (x_extract rfl rfl) rfl (W_v (.int .i64 t116.1) (x_assign rfl) rfl (W_v (.int .i64 t116.2.1) (x_assign rfl) rfl (W_v (.int .i64 t116.2.2) (x_assign rfl) rfl (Wl_nil (tn (Wp_seq (Wp_seq (Wp_region_lit (W_v (.int .i64 4) (x_move rfl) rfl (W_v (.bool true) (x_ibin rfl rfl rfl rfl) rfl (Wl_nil (tn ?_)))))))))))))))
    refine Wp_cond_true rfl (Wp_seq (Wp_region_lit (W_v (.int .i64 t116.2.2) (x_move rfl) rfl (W_v (.int .i64 4) (x_move rfl) rfl (W_v (.bool (t116.2.2 == (4 : Int))) (x_ibin rfl rfl rfl rfl) rfl (W_v (.bool (t116.2.2 == (4 : Int))) (x_assign rfl) rfl (Wl_nil (tn ?_))))))))
    refine Wp_ret ?_
    refine tr (?_)
    obtain rfl := Option.some.inj H
    exact ⟨_, _, _, fun w1 e1 => run_resR (vs := [.bool (t116.2.2 == (4 : Int))]) (FA.cons (rfl) (FA.nil)), HM, E, S.pick [] (by decide), ⟨rfl, rfl⟩⟩
  · skip
    replace H := elimR H
    replace H := elimR H
    refine W_call fn18 (replay_Model_v.con k M30 a0 A1 c1 a1 A2 c2 a2 (Sum.inr (Sum.inr t106)) hr1 hr2 hg0 hg1 ht103) (Γ1 := []) (Γ2 := [_]) S rfl rfl ?_
    rintro _ w135 M136 Γ' hM137 E' S ⟨b119, A121, c122, A124, c125, A127, c128, A130, c131, vs133, rfl, hm134, rfl⟩
    replace hg0 : ∃ gt fr, _ := (let ⟨gt, fr, h8⟩ := hg0; ⟨gt, fr, hM137 _ _ h8⟩)
    replace hg1 : ∃ gt fr, _ := (let ⟨gt, fr, h8⟩ := hg1; ⟨gt, fr, hM137 _ _ h8⟩)
    replace HM := Hp.le_trans HM hM137
    replace hr1 := SlR.mono hr1 hM137
    replace hr2 := SlR.mono hr2 hM137
    replace E := E.trans E'
    replace S : St w135 M136 F [_, _, _, _, _, _] := S
    refine W_v (.tuple #[pt b119 0, .int .i64 0]) (x_move rfl) rfl (W_v (pt b119 0) (x_extract rfl rfl) rfl (W_v (.int .i64 0) (x_extract rfl rfl) rfl (W_v (pt b119 0) (x_assign rfl) rfl (W_v (.int .i64 0) (x_assign rfl) rfl (Wl_nil (tn (Wp_seq (Wp_region_lit (W_v (.agg #[.int .i64 a0.Tasks, .int .i64 a0.Active, .int .i64 a0.Keys, .int .i64 a0.Depth, .int .i64 a0.TS, .int .i64 a0.KeyLen, .int .i64 a0.ValLen, .int .i64 a0.Fan]) (x_loadA (S.blk 5 rfl) ty23 rfl (sub_of_extract rfl) rfl rfl) rfl (W_v (.slice A1 a1.length c1) (x_move rfl) rfl (W_v (.slice A2 a2.length c2) (x_move rfl) rfl ?_)))))))))))
    obtain ⟨t138, ht139, H⟩ := bindS H
    refine W_callF fn13 (room_Now.con k M136 a0 A1 c1 a1 A2 c2 a2 t138 hr1 hr2 hg0 hg1 ht139) S rfl rfl (by rintro _ _ _ ⟨_, rfl⟩; exact flat_nil) ?_
    rintro _ w140 _ Γ' E' S ⟨rfl, rfl⟩
    replace E := E.trans E'
    refine W_v (.tuple #[.int .i64 t138.1, .int .i64 t138.2.1, .int .i64 t138.2.2]) (x_move rfl) rfl (W_v (.int .i64 t138.1) (x_extract rfl rfl) rfl (W_v (.int .i64 t138.2.1) (x_extract rfl rfl) rfl (W_v (.int .i64 t138.2.2) (x_extract rfl rfl) rfl (W_v (.int .i64 t138.1) (x_assign rfl) rfl (W_v (.int .i64 t138.2.1) (x_assign rfl) rfl (W_v (.int .i64 t138.2.2) (x_assign rfl) rfl (Wl_nil (tn (Wp_seq (Wp_seq (Wp_region_lit (W_v (.int .i64 0) (x_move rfl) rfl (W_v (.bool false) (x_ibin rfl rfl rfl rfl) rfl (Wl_nil (tn ?_)))))))))))))))
    refine Wp_cond_false rfl (Wp_skip (tn (Wp_seq (Wp_region_lit (W_v (.int .i64 t138.2.2) (x_move rfl) rfl (W_v (.bool (t138.2.2 == (0 : Int))) (x_ibin rfl rfl rfl rfl) rfl (W_v (.bool (t138.2.2 == (0 : Int))) (x_move rfl) rfl ?_)))))))
    obtain ⟨o153, o153h, o153H⟩ := bindS H
    refine Wl_cutN 5 (fun ρ w' => ∃ (x152 : Bool), (x152) = o153 ∧ Agree ρ [(9, pt b119 0), (12, .int .i64 t138.2.1), (65, .bool x152)] ∧ Ext w w' ∧ St w' M136 F [B83 b119 t106 A121 A124 A127 c128 A130, MapC enc_model_name (Value.int .i64) A121 t106.names, MapC (Value.int .i64) (Value.int .i64) A124 t106.many, Row r_model_tx 109 (.slice A127 t106.txs.length c128) t106.txs, MapC encS (fun v : Value => v) A130 vs133]) ?_ ?_
    · have H := o153h
      rcases iteS H with ⟨hb151, H⟩ | ⟨hb151, H⟩
      · skip
        refine W_yes (congrArg some hb151) (W_v (.int .i64 t138.1) (x_move rfl) rfl (W_yes (congrArg some hb151) (W_v (pt b119 0) (x_move rfl) rfl (W_yes (congrArg some hb151) ?_))))
        obtain ⟨t154, ht155, H⟩ := bindS H
        refine W_callF2 fn19 (model_Model_Retained_POOOO.con k M136 A121 c122 A124 c125 A127 c128 A130 c131 vs133 t106 b119 t154 hm134 ht155) (Γ1 := [_, _, _, _, _]) (Γ2 := [_]) S rfl rfl (by rintro _ _ _ ⟨rfl, rfl⟩; exact (flat_cons flat_blk (flat_cons flat_map (flat_cons flat_map (flat_cons (flat_row (fun _ _ _ _ h => h)) (flat_cons flat_map flat_nil)))))) ?_
        rintro _ w156 _ Γ' E' S ⟨rfl, rfl⟩
        replace E := E.trans E'
        replace S : St w156 M136 F [_, _, _, _, _, _] := S
        refine W_yes (congrArg some hb151) (W_v (.bool (t138.1 == t154)) (x_ibin rfl rfl rfl rfl) rfl (W_v (.bool (t138.1 == t154)) (x_pick (k := true) (congrArg Value.bool hb151) rfl) rfl (Wl_nil ?_)))
        exact ⟨(t138.1 == t154), Option.some.inj H, ⟨rfl, rfl, rfl, trivial⟩, E, S.pick [0, 1, 2, 3, 4] (by decide)⟩
      · skip
        refine W_no (skT hb151) rfl (W_no (skT hb151) rfl (W_no (skT hb151) rfl (W_no (skT hb151) rfl (W_v (.bool false) (x_pick (k := false) (congrArg Value.bool hb151) rfl) rfl (Wl_nil ?_)))))
        exact ⟨false, Option.some.inj H, ⟨rfl, rfl, rfl, trivial⟩, E, S.pick [0, 1, 2, 3, 4] (by decide)⟩
    as_aux_lemma =>
    rintro ρ w159 ⟨x152, rfl, hρ, E, S⟩
    rw [agree_eta hρ]
    have H := o153H
    refine W_v (.bool x152) (x_move rfl) rfl ?_
    obtain ⟨o178, o178h, o178H⟩ := bindS H
    refine Wl_cutN 6 (fun ρ w' => ∃ (x177 : Bool), (x177) = o178 ∧ Agree ρ [(72, .bool x177)] ∧ Ext w w' ∧ St w' M136 F []) ?_ ?_
    · have H := o178h
      rcases iteS H with ⟨hb176, H⟩ | ⟨hb176, H⟩
      · skip
        refine W_yes (congrArg some hb176) (W_v (.int .i64 t138.2.1) (x_move rfl) rfl (W_yes (congrArg some hb176) (W_v (pt b119 0) (x_move rfl) rfl (W_yes (congrArg some hb176) ?_))))
        obtain ⟨t179, ht180, H⟩ := bindS H
        refine W_callF2 fn20 (model_Model_Keys_POOOO.con k M136 A121 c122 A124 c125 A127 c128 A130 c131 vs133 t106 b119 t179 hm134 ht180) (Γ1 := [_, _, _, _, _]) (Γ2 := []) S rfl rfl (by rintro _ _ _ ⟨_, _, rfl, rfl⟩; exact (flat_cons (flat_row (fun _ _ _ _ h => h)) (flat_cons flat_blk (flat_cons flat_map (flat_cons flat_map (flat_cons (flat_row (fun _ _ _ _ h => h)) (flat_cons flat_map flat_nil))))))) ?_
        rintro _ w184 _ Γ' E' S ⟨A181, c182, rfl, rfl⟩
        replace E := E.trans E'
        replace S : St w184 M136 F [_, _, _, _, _, _] := S
        refine W_yes (congrArg some hb176) (W_v (.int .i64 (t179.length : Int)) (x_len_slice (n := t179.length) Tryd.underlying58 rfl) rfl (W_yes (congrArg some hb176) (W_v (.bool (t138.2.1 == (t179.length : Int))) (x_ibin rfl rfl rfl rfl) rfl (W_v (.bool (t138.2.1 == (t179.length : Int))) (x_pick (k := true) (congrArg Value.bool hb176) rfl) rfl (Wl_nil ?_)))))
        exact ⟨(t138.2.1 == (t179.length : Int)), Option.some.inj H, ⟨rfl, trivial⟩, E, S.pick [] (by decide)⟩
      · skip
        refine W_no (skT hb176) rfl (W_no (skT hb176) rfl (W_no (skT hb176) rfl (W_no (skT hb176) rfl (W_no (skT hb176) rfl (W_v (.bool false) (x_pick (k := false) (congrArg Value.bool hb176) rfl) rfl (Wl_nil ?_))))))
        exact ⟨false, Option.some.inj H, ⟨rfl, trivial⟩, E, S.pick [] (by decide)⟩
    rintro ρ w187 ⟨x177, rfl, hρ, E, S⟩
    rw [agree_eta hρ]
    have H := o178H
    refine W_v (.bool x177) (x_assign rfl) rfl (Wl_nil (tn ?_))
    refine Wp_ret ?_
    obtain rfl := Option.some.inj H
    exact ⟨_, _, _, fun w1 e1 => run_resR (vs := [.bool x177]) (FA.cons (rfl) (FA.nil)), HM, E, S.pick [] (by decide), ⟨rfl, rfl⟩⟩
end Go.Proofs.YtkknoimjgifhlaaDoor
