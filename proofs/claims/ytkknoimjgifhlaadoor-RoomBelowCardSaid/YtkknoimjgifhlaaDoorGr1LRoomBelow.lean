import Derived.Test.YtkknoimjgifhlaaDoorGr1B
import Derived.Test.YtkknoimjgifhlaaDoorGr1P0
import Derived.Test.YtkknoimjgifhlaaDoorGr1P4
namespace Go.Proofs.YtkknoimjgifhlaaDoor
open Go
set_option linter.unusedVariables false
set_option linter.unusedSimpArgs false
def ferrymanlaw30_RoomBelow (k : Nat) (a0 : api_Config) (a1 : (List (List api_Call))) (a2 : (List api_Event)) : Option (Bool) :=
  (Option.bind (ferrymanlaw30_works k ) (fun t4 => (Option.bind (α := Bool) (if (!t4) = true then some (true) else (Option.bind (ferrymanlaw30_long k a1 a2) (fun t16 => some (t16)))) (fun x14 => (if x14 = true then (Option.bind (ferrymanlaw30_works k ) (fun t21 => some t21)) else (Option.bind (room_Now k a0 a1 a2) (fun t24 => (if (t24.2.2 != (0 : Int)) = true then some ((t24.1 == (0 : Int)) && (t24.2.1 == (0 : Int))) else (Option.bind (room_Bound k a0) (fun t29 => some ((((decide (t24.1 ≥ (0 : Int))) && (decide (t24.2.1 ≥ (0 : Int)))) && (decide (t24.1 ≤ t29.1))) && (decide (t24.2.1 ≤ t29.2)))))))))))))
set_option maxHeartbeats 2000000 in
theorem ferrymanlaw30_RoomBelow.mono {k : Nat} {a0 : api_Config} {a1 : (List (List api_Call))} {a2 : (List api_Event)} : OLe (ferrymanlaw30_RoomBelow k a0 a1 a2) (ferrymanlaw30_RoomBelow (k + 1) a0 a1 a2) := by
  unfold ferrymanlaw30_RoomBelow
  repeat' (first | with_reducible exact OLe.none | with_reducible exact OLe.some | with_reducible refine OLe.ite ?_ ?_ | with_reducible refine OLe.bind ?_ (fun _ => ?_) | with_reducible exact ferrymanlaw30_long.mono | with_reducible exact ferrymanlaw30_works.mono | with_reducible exact room_Bound.mono | with_reducible exact room_Now.mono | refine OLe.bind ?_ (fun _ => ?_) | refine OLe.ite ?_ ?_ | refine OLe.elim (fun _ => ?_) (fun _ => ?_) | split)
set_option maxHeartbeats 1000000 in
set_option maxRecDepth 100000 in
theorem ferrymanlaw30_RoomBelow.con (k : Nat) (M : Hp) (a0 : api_Config) (A1 : Option Addr) (c1 : Nat) (a1 : (List (List api_Call))) (A2 : Option Addr) (c2 : Nat) (a2 : (List api_Event)) (r : Bool) (hr1 : SlR (rSl r_api_Call) M (.slice A1 a1.length c1) a1) (hr2 : SlR r_api_Event M (.slice A2 a2.length c2) a2) (hg0 : ∃ gt fr, M 0 = some (.cells #[.nilFunc, .func (.func 92) #[] #[], .func (.func 93) #[] #[], .func (.func 94) #[] #[], .func (.func 95) #[] #[], .func (.func 96) #[] #[], .func (.func 97) #[] #[], .func (.func 98) #[] #[], .func (.func 99) #[] #[], .func (.func 100) #[] #[]] gt fr)) (hg1 : ∃ gt fr, M 1 = some (.cells #[.nilFunc, .func (.func 114) #[] #[], .func (.func 116) #[] #[], .func (.func 118) #[] #[]] gt fr)) (h : ferrymanlaw30_RoomBelow k a0 a1 a2 = some r) : Con Tryd.prog 4 #[.agg #[.int .i64 a0.Tasks, .int .i64 a0.Active, .int .i64 a0.Keys, .int .i64 a0.Depth, .int .i64 a0.TS, .int .i64 a0.KeyLen, .int .i64 a0.ValLen, .int .i64 a0.Fan], .slice A1 a1.length c1, .slice A2 a2.length c2] M [] (fun v M' Γ' => v = .bool r ∧ Γ' = []) := by
  refine con_of_wp Tryd.func4 rfl Tryd.ntmps4 Tryd.results4 rfl ?_
  intro w F rn S hrn
  have E := Ext.refl w
  have HM := Hp.le_refl M
  have H := h
  unfold ferrymanlaw30_RoomBelow at H
  refine Wp_seq (Wp_region_lit ?_)
  refine W_box S #[.int .i64 a0.Tasks, .int .i64 a0.Active, .int .i64 a0.Keys, .int .i64 a0.Depth, .int .i64 a0.TS, .int .i64 a0.KeyLen, .int .i64 a0.ValLen, .int .i64 a0.Fan] rfl rfl rfl ?_
  intro b1 w2 E' S
  replace E := E.trans E'
  refine W_v (.bool false) (x_assign rfl) rfl (Wl_nil (tn (Wp_seq (Wp_seq (Wp_region_lit ?_)))))
  obtain ⟨t4, ht5, H⟩ := bindS H
  refine W_callF fn10 (ferrymanlaw30_works.con k M  t4 hg0 hg1 ht5) S rfl rfl (by rintro _ _ _ ⟨_, rfl⟩; exact flat_nil) ?_
  rintro _ w6 _ Γ' E' S ⟨rfl, rfl⟩
  replace E := E.trans E'
  refine W_v (.bool (!t4)) (x_not (b := t4) rfl) rfl (W_v (.bool (!t4)) (x_move rfl) rfl ?_)
  obtain ⟨o15, o15h, o15H⟩ := bindS H
  refine Wl_cutN 4 (fun ρ w' => ∃ (x14 : Bool), (x14) = o15 ∧ Agree ρ [(1, .slice A1 a1.length c1), (2, .slice A2 a2.length c2), (3, pt b1 0), (18, .bool x14)] ∧ Ext w w' ∧ St w' M F [B23 b1 a0]) ?_ ?_
  · have H := o15h
    rcases iteS H with ⟨hb13, H⟩ | ⟨hb13, H⟩
    · skip
      refine W_no (skF hb13) rfl (W_no (skF hb13) rfl (W_no (skF hb13) rfl (W_v (.bool true) (x_pick (k := true) (congrArg Value.bool hb13) rfl) rfl (Wl_nil ?_))))
      exact ⟨true, Option.some.inj H, ⟨rfl, rfl, rfl, rfl, trivial⟩, E, S.pick [0] (by decide)⟩
    · skip
      refine W_yes (congrArg some hb13) (W_v (.slice A1 a1.length c1) (x_move rfl) rfl (W_yes (congrArg some hb13) (W_v (.slice A2 a2.length c2) (x_move rfl) rfl (W_yes (congrArg some hb13) ?_))))
      obtain ⟨t16, ht17, H⟩ := bindS H
      refine W_callF fn16 (ferrymanlaw30_long.con k M A1 c1 a1 A2 c2 a2 t16 hr1 hr2 ht17) S rfl rfl (by rintro _ _ _ ⟨_, rfl⟩; exact flat_nil) ?_
      rintro _ w18 _ Γ' E' S ⟨rfl, rfl⟩
      replace E := E.trans E'
      refine W_v (.bool t16) (x_pick (k := false) (congrArg Value.bool hb13) rfl) rfl (Wl_nil ?_)
      exact ⟨t16, Option.some.inj H, ⟨rfl, rfl, rfl, rfl, trivial⟩, E, S.pick [0] (by decide)⟩
  as_aux_lemma =>
  rintro ρ w19 ⟨x14, rfl, hρ, E, S⟩
  rw [agree_eta hρ]
  have H := o15H
  refine Wl_nil (tn ?_)
  rcases iteS H with ⟨hb20, H⟩ | ⟨hb20, H⟩
  · refine Wp_cond_true (congrArg Value.bool hb20) ?_
    refine Wp_seq (Wp_region_lit ?_)
    obtain ⟨t21, ht22, H⟩ := bindS H
    refine W_callF fn10 (ferrymanlaw30_works.con k M  t21 hg0 hg1 ht22) S rfl rfl (by rintro _ _ _ ⟨_, rfl⟩; exact flat_nil) ?_
    rintro _ w23 _ Γ' E' S ⟨rfl, rfl⟩
    replace E := E.trans E'
    refine W_v (.bool t21) (x_assign rfl) rfl (Wl_nil (tn ?_))
    refine Wp_ret ?_
    refine tr (?_)
    obtain rfl := Option.some.inj H
    exact ⟨_, _, _, fun w1 e1 => run_resR (vs := [.bool t21]) (FA.cons (rfl) (FA.nil)), HM, E, S.pick [] (by decide), ⟨rfl, rfl⟩⟩
  refine Wp_cond_false (congrArg Value.bool hb20) (Wp_skip (tn (Wp_seq (Wp_region_lit (W_v (.agg #[.int .i64 a0.Tasks, .int .i64 a0.Active, .int .i64 a0.Keys, .int .i64 a0.Depth, .int .i64 a0.TS, .int .i64 a0.KeyLen, .int .i64 a0.ValLen, .int .i64 a0.Fan]) (x_loadA (S.blk 0 rfl) ty23 rfl (sub_of_extract rfl) rfl rfl) rfl (W_v (.slice A1 a1.length c1) (x_move rfl) rfl (W_v (.slice A2 a2.length c2) (x_move rfl) rfl ?_)))))))
  obtain ⟨t24, ht25, H⟩ := bindS H
  refine W_callF fn13 (room_Now.con k M a0 A1 c1 a1 A2 c2 a2 t24 hr1 hr2 hg0 hg1 ht25) S rfl rfl (by rintro _ _ _ ⟨_, rfl⟩; exact flat_nil) ?_
  rintro _ w26 _ Γ' E' S ⟨rfl, rfl⟩
  replace E := E.trans E'
  refine W_v (.tuple #[.int .i64 t24.1, .int .i64 t24.2.1, .int .i64 t24.2.2]) (x_move rfl) rfl (W_v (.int .i64 t24.1) (x_extract rfl rfl) rfl (W_v (.int .i64 t24.2.1) (x_extract rfl rfl) rfl (W_v (.int .i64 t24.2.2) (x_extract rfl rfl) rfl (W_v (.int .i64 t24.1) (x_assign rfl) rfl (W_v (.int .i64 t24.2.1) (x_assign rfl) rfl (W_v (.int .i64 t24.2.2) (x_assign rfl) rfl (Wl_nil (tn (Wp_seq (Wp_seq (Wp_region_lit (W_v (.int .i64 t24.2.2) (x_move rfl) rfl (W_v (.bool (t24.2.2 != (0 : Int))) (x_ibin rfl rfl rfl rfl) rfl (Wl_nil (tn ?_)))))))))))))))
  rcases iteS H with ⟨hb27, H⟩ | ⟨hb27, H⟩
  · refine Wp_cond_true (congrArg Value.bool hb27) ?_
    refine Wp_seq (Wp_region_lit (W_v (.int .i64 t24.1) (x_move rfl) rfl (W_v (.bool (t24.1 == (0 : Int))) (x_ibin rfl rfl rfl rfl) rfl (W_v (.bool (t24.1 == (0 : Int))) (x_move rfl) rfl ?_))))
    refine Wl_cutN 3 (fun ρ w' => Agree ρ [(35, .bool ((t24.1 == (0 : Int)) && (t24.2.1 == (0 : Int))))] ∧ w26 = w') ?_ ?_
    · rcases boolCases (t24.1 == (0 : Int)) with hb28 | hb28
      · skip
        refine W_no (skT hb28) rfl (W_no (skT hb28) rfl (W_v (.bool false) (x_pick (k := false) (congrArg Value.bool hb28) rfl) rfl (Wl_nil ?_)))
        exact ⟨⟨(by first | rfl | (rw [hb28]; rfl) | (simp only [hb28]; rfl)), trivial⟩, rfl⟩
      · skip
        refine W_yes (congrArg some hb28) (W_v (.int .i64 t24.2.1) (x_move rfl) rfl (W_yes (congrArg some hb28) (W_v (.bool (t24.2.1 == (0 : Int))) (x_ibin rfl rfl rfl rfl) rfl (W_v (.bool (t24.2.1 == (0 : Int))) (x_pick (k := true) (congrArg Value.bool hb28) rfl) rfl (Wl_nil ?_)))))
        exact ⟨⟨(by first | rfl | (rw [hb28]; rfl) | (simp only [hb28]; rfl)), trivial⟩, rfl⟩
    rintro ρ _ ⟨hρ, rfl⟩
    rw [agree_eta hρ]
    refine W_v (.bool ((t24.1 == (0 : Int)) && (t24.2.1 == (0 : Int)))) (x_assign rfl) rfl (Wl_nil (tn ?_))
    refine Wp_ret ?_
    refine tr (?_)
    obtain rfl := Option.some.inj H
    exact ⟨_, _, _, fun w1 e1 => run_resR (vs := [.bool ((t24.1 == (0 : Int)) && (t24.2.1 == (0 : Int)))]) (FA.cons (rfl) (FA.nil)), HM, E, S.pick [] (by decide), ⟨rfl, rfl⟩⟩
  refine Wp_cond_false (congrArg Value.bool hb27) (Wp_skip (tn ?_))
  as_aux_lemma =>
  refine Wp_seq (Wp_region_lit (W_v (.agg #[.int .i64 a0.Tasks, .int .i64 a0.Active, .int .i64 a0.Keys, .int .i64 a0.Depth, .int .i64 a0.TS, .int .i64 a0.KeyLen, .int .i64 a0.ValLen, .int .i64 a0.Fan]) (x_loadA (S.blk 0 rfl) ty23 rfl (sub_of_extract rfl) rfl rfl) rfl ?_))
  obtain ⟨t29, ht30, H⟩ := bindS H
  refine W_callF fn9 (room_Bound.con k M a0 t29  ht30) S rfl rfl (by rintro _ _ _ ⟨_, rfl⟩; exact flat_nil) ?_
  rintro _ w31 _ Γ' E' S ⟨rfl, rfl⟩
  replace E := E.trans E'
  refine W_v (.tuple #[.int .i64 t29.1, .int .i64 t29.2]) (x_move rfl) rfl (W_v (.int .i64 t29.1) (x_extract rfl rfl) rfl (W_v (.int .i64 t29.2) (x_extract rfl rfl) rfl (W_v (.int .i64 t29.1) (x_assign rfl) rfl (W_v (.int .i64 t29.2) (x_assign rfl) rfl (Wl_nil (tn (Wp_seq (Wp_region_lit (W_v (.int .i64 t24.1) (x_move rfl) rfl (W_v (.bool (decide (t24.1 ≥ (0 : Int)))) (x_ibin rfl rfl rfl rfl) rfl (W_v (.bool (decide (t24.1 ≥ (0 : Int)))) (x_move rfl) rfl ?_)))))))))))
  refine Wl_cutN 3 (fun ρ w' => Agree ρ [(7, .int .i64 t24.1), (8, .int .i64 t24.2.1), (10, .int .i64 t29.1), (11, .int .i64 t29.2), (46, .bool ((decide (t24.1 ≥ (0 : Int))) && (decide (t24.2.1 ≥ (0 : Int)))))] ∧ w31 = w') ?_ ?_
  · rcases boolCases (decide (t24.1 ≥ (0 : Int))) with hb32 | hb32
    · skip
      refine W_no (skT hb32) rfl (W_no (skT hb32) rfl (W_v (.bool false) (x_pick (k := false) (congrArg Value.bool hb32) rfl) rfl (Wl_nil ?_)))
      exact ⟨⟨rfl, rfl, rfl, rfl, (by first | rfl | (rw [hb32]; rfl) | (simp only [hb32]; rfl)), trivial⟩, rfl⟩
    · skip
      refine W_yes (congrArg some hb32) (W_v (.int .i64 t24.2.1) (x_move rfl) rfl (W_yes (congrArg some hb32) (W_v (.bool (decide (t24.2.1 ≥ (0 : Int)))) (x_ibin rfl rfl rfl rfl) rfl (W_v (.bool (decide (t24.2.1 ≥ (0 : Int)))) (x_pick (k := true) (congrArg Value.bool hb32) rfl) rfl (Wl_nil ?_)))))
      exact ⟨⟨rfl, rfl, rfl, rfl, (by first | rfl | (rw [hb32]; rfl) | (simp only [hb32]; rfl)), trivial⟩, rfl⟩
  as_aux_lemma =>
  rintro ρ _ ⟨hρ, rfl⟩
  rw [agree_eta hρ]
  refine W_v (.bool ((decide (t24.1 ≥ (0 : Int))) && (decide (t24.2.1 ≥ (0 : Int))))) (x_move rfl) rfl ?_
  refine Wl_cutN 4 (fun ρ w' => Agree ρ [(8, .int .i64 t24.2.1), (11, .int .i64 t29.2), (51, .bool (((decide (t24.1 ≥ (0 : Int))) && (decide (t24.2.1 ≥ (0 : Int)))) && (decide (t24.1 ≤ t29.1))))] ∧ w31 = w') ?_ ?_
  · rcases boolCases ((decide (t24.1 ≥ (0 : Int))) && (decide (t24.2.1 ≥ (0 : Int)))) with hb33 | hb33
    · skip
      refine W_no (skT hb33) rfl (W_no (skT hb33) rfl (W_no (skT hb33) rfl (W_v (.bool false) (x_pick (k := false) (congrArg Value.bool hb33) rfl) rfl (Wl_nil ?_))))
      exact ⟨⟨rfl, rfl, (by first | rfl | (rw [hb33]; rfl) | (simp only [hb33]; rfl)), trivial⟩, rfl⟩
    · skip
      refine W_yes (congrArg some hb33) (W_v (.int .i64 t24.1) (x_move rfl) rfl (W_yes (congrArg some hb33) (W_v (.int .i64 t29.1) (x_move rfl) rfl (W_yes (congrArg some hb33) (W_v (.bool (decide (t24.1 ≤ t29.1))) (x_ibin rfl rfl rfl rfl) rfl (W_v (.bool (decide (t24.1 ≤ t29.1))) (x_pick (k := true) (congrArg Value.bool hb33) rfl) rfl (Wl_nil ?_)))))))
      exact ⟨⟨rfl, rfl, (by first | rfl | (rw [hb33]; rfl) | (simp only [hb33]; rfl)), trivial⟩, rfl⟩
  rintro ρ _ ⟨hρ, rfl⟩
  rw [agree_eta hρ]
  refine W_v (.bool (((decide (t24.1 ≥ (0 : Int))) && (decide (t24.2.1 ≥ (0 : Int)))) && (decide (t24.1 ≤ t29.1)))) (x_move rfl) rfl ?_
  refine Wl_cutN 4 (fun ρ w' => Agree ρ [(56, .bool ((((decide (t24.1 ≥ (0 : Int))) && (decide (t24.2.1 ≥ (0 : Int)))) && (decide (t24.1 ≤ t29.1))) && (decide (t24.2.1 ≤ t29.2))))] ∧ w31 = w') ?_ ?_
  · rcases boolCases (((decide (t24.1 ≥ (0 : Int))) && (decide (t24.2.1 ≥ (0 : Int)))) && (decide (t24.1 ≤ t29.1))) with hb34 | hb34
    · skip
      refine W_no (skT hb34) rfl (W_no (skT hb34) rfl (W_no (skT hb34) rfl (W_v (.bool false) (x_pick (k := false) (congrArg Value.bool hb34) rfl) rfl (Wl_nil ?_))))
      exact ⟨⟨(by first | rfl | (rw [hb34]; rfl) | (simp only [hb34]; rfl)), trivial⟩, rfl⟩
    · skip
      refine W_yes (congrArg some hb34) (W_v (.int .i64 t24.2.1) (x_move rfl) rfl (W_yes (congrArg some hb34) (W_v (.int .i64 t29.2) (x_move rfl) rfl (W_yes (congrArg some hb34) (W_v (.bool (decide (t24.2.1 ≤ t29.2))) (x_ibin rfl rfl rfl rfl) rfl (W_v (.bool (decide (t24.2.1 ≤ t29.2))) (x_pick (k := true) (congrArg Value.bool hb34) rfl) rfl (Wl_nil ?_)))))))
      exact ⟨⟨(by first | rfl | (rw [hb34]; rfl) | (simp only [hb34]; rfl)), trivial⟩, rfl⟩
  rintro ρ _ ⟨hρ, rfl⟩
  rw [agree_eta hρ]
  refine W_v (.bool ((((decide (t24.1 ≥ (0 : Int))) && (decide (t24.2.1 ≥ (0 : Int)))) && (decide (t24.1 ≤ t29.1))) && (decide (t24.2.1 ≤ t29.2)))) (x_assign rfl) rfl (Wl_nil (tn ?_))
  refine Wp_ret ?_
  obtain rfl := Option.some.inj H
  exact ⟨_, _, _, fun w1 e1 => run_resR (vs := [.bool ((((decide (t24.1 ≥ (0 : Int))) && (decide (t24.2.1 ≥ (0 : Int)))) && (decide (t24.1 ≤ t29.1))) && (decide (t24.2.1 ≤ t29.2)))]) (FA.cons (rfl) (FA.nil)), HM, E, S.pick [] (by decide), ⟨rfl, rfl⟩⟩
end Go.Proofs.YtkknoimjgifhlaaDoor
