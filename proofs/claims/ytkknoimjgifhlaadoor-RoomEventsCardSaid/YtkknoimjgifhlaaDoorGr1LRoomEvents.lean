import Derived.Test.YtkknoimjgifhlaaDoorGr1B
import Derived.Test.YtkknoimjgifhlaaDoorGr1P4
namespace Go.Proofs.YtkknoimjgifhlaaDoor
open Go
set_option linter.unusedVariables false
set_option linter.unusedSimpArgs false
def ferrymanlaw30_RoomEvents_l0 (a0 : api_Config) (a1 : (List (List api_Call))) (a2 : (List api_Event)) : Nat → Int → Int → Int → Option ((Bool) ⊕ (Unit))
  | 0, _, _, _ => none
  | k + 1, x310, x311, x312 => (if (decide (x312 ≤ (a2.length : Int))) = true then (if 0 ≤ x312 ∧ x312 ≤ (a2.length : Int) then (Option.bind (room_Now k a0 a1 (List.take x312.toNat a2)) (fun t467 => (Option.bind (α := Bool) (if (t467.2.2 != (0 : Int)) = true then some (true) else (if 0 ≤ (IntKind.i64.wrap (x312 - (1 : Int))) ∧ (IntKind.i64.wrap (x312 - (1 : Int))) < (a2.length : Int) then some ((((rd a2 (IntKind.i64.wrap (x312 - (1 : Int)))).What == (1 : Int)) && ((x310 != t467.1) || (x311 != t467.2.1)))) else none)) (fun x507 => (Option.bind (α := Bool) (if x507 = true then some (true) else (if 0 ≤ (IntKind.i64.wrap (x312 - (1 : Int))) ∧ (IntKind.i64.wrap (x312 - (1 : Int))) < (a2.length : Int) then some ((((rd a2 (IntKind.i64.wrap (x312 - (1 : Int)))).What == (3 : Int)) && ((decide (t467.1 > x310)) || (decide (t467.2.1 > x311))))) else none)) (fun x565 => (if x565 = true then some (.inl false) else ferrymanlaw30_RoomEvents_l0 a0 a1 a2 k t467.1 t467.2.1 (IntKind.i64.wrap (x312 + (1 : Int)))))))))) else none) else some (.inr ()))
set_option maxHeartbeats 2000000 in
theorem ferrymanlaw30_RoomEvents_l0.mono {a0 : api_Config} {a1 : (List (List api_Call))} {a2 : (List api_Event)} : ∀ {kl : Nat} {x0 x1 x2}, OLe (ferrymanlaw30_RoomEvents_l0 a0 a1 a2 kl x0 x1 x2) (ferrymanlaw30_RoomEvents_l0 a0 a1 a2 (kl + 1) x0 x1 x2) := by
  intro kl
  induction kl with
  | zero => intros; exact OLe.none
  | succ kl ih =>
    intros
    rw [ferrymanlaw30_RoomEvents_l0.eq_2, ferrymanlaw30_RoomEvents_l0.eq_2]
    repeat' (first | with_reducible exact OLe.none | with_reducible exact OLe.some | with_reducible refine OLe.ite ?_ ?_ | with_reducible refine OLe.bind ?_ (fun _ => ?_) | with_reducible exact room_Now.mono | exact ih | refine OLe.bind ?_ (fun _ => ?_) | refine OLe.ite ?_ ?_ | refine OLe.elim (fun _ => ?_) (fun _ => ?_) | split)
def ferrymanlaw30_RoomEvents (k : Nat) (a0 : api_Config) (a1 : (List (List api_Call))) (a2 : (List api_Event)) : Option (Bool) :=
  (Option.bind (ferrymanlaw30_works k ) (fun t4 => (Option.bind (α := Bool) (if (!t4) = true then some (true) else (Option.bind (ferrymanlaw30_long k a1 a2) (fun t16 => some (t16)))) (fun x14 => (if (x14 || (decide ((a2.length : Int) > (120 : Int)))) = true then (Option.bind (ferrymanlaw30_works k ) (fun t22 => some t22)) else (Option.bind (room_Now k a0 a1 a2) (fun t25 => (if (t25.2.2 != (0 : Int)) = true then some true else (Option.bind (room_Now k a0 a1 ([] : (List api_Event))) (fun t29 => (Option.bind (ferrymanlaw30_RoomEvents_l0 a0 a1 a2 k t29.1 t29.2.1 (1 : Int)) (fun o449o => Sum.elim (fun r' => some r') (fun _ => some true) o449o))))))))))))
set_option maxHeartbeats 2000000 in
theorem ferrymanlaw30_RoomEvents.mono {k : Nat} {a0 : api_Config} {a1 : (List (List api_Call))} {a2 : (List api_Event)} : OLe (ferrymanlaw30_RoomEvents k a0 a1 a2) (ferrymanlaw30_RoomEvents (k + 1) a0 a1 a2) := by
  unfold ferrymanlaw30_RoomEvents
  repeat' (first | with_reducible exact OLe.none | with_reducible exact OLe.some | with_reducible refine OLe.ite ?_ ?_ | with_reducible refine OLe.bind ?_ (fun _ => ?_) | with_reducible exact ferrymanlaw30_RoomEvents_l0.mono | with_reducible exact ferrymanlaw30_long.mono | with_reducible exact ferrymanlaw30_works.mono | with_reducible exact room_Now.mono | refine OLe.bind ?_ (fun _ => ?_) | refine OLe.ite ?_ ?_ | refine OLe.elim (fun _ => ?_) (fun _ => ?_) | split)
set_option maxHeartbeats 1000000 in
set_option maxRecDepth 100000 in
theorem ferrymanlaw30_RoomEvents.con (k : Nat) (M : Hp) (a0 : api_Config) (A1 : Option Addr) (c1 : Nat) (a1 : (List (List api_Call))) (A2 : Option Addr) (c2 : Nat) (a2 : (List api_Event)) (r : Bool) (hr1 : SlR (rSl r_api_Call) M (.slice A1 a1.length c1) a1) (hr2 : SlR r_api_Event M (.slice A2 a2.length c2) a2) (hg0 : ∃ gt fr, M 0 = some (.cells #[.nilFunc, .func (.func 92) #[] #[], .func (.func 93) #[] #[], .func (.func 94) #[] #[], .func (.func 95) #[] #[], .func (.func 96) #[] #[], .func (.func 97) #[] #[], .func (.func 98) #[] #[], .func (.func 99) #[] #[], .func (.func 100) #[] #[]] gt fr)) (hg1 : ∃ gt fr, M 1 = some (.cells #[.nilFunc, .func (.func 114) #[] #[], .func (.func 116) #[] #[], .func (.func 118) #[] #[]] gt fr)) (h : ferrymanlaw30_RoomEvents k a0 a1 a2 = some r) : Con Tryd.prog 6 #[.agg #[.int .i64 a0.Tasks, .int .i64 a0.Active, .int .i64 a0.Keys, .int .i64 a0.Depth, .int .i64 a0.TS, .int .i64 a0.KeyLen, .int .i64 a0.ValLen, .int .i64 a0.Fan], .slice A1 a1.length c1, .slice A2 a2.length c2] M [] (fun v M' Γ' => v = .bool r ∧ Γ' = []) := by
  refine con_of_wp Tryd.func6 rfl Tryd.ntmps6 Tryd.results6 rfl ?_
  intro w F rn S hrn
  have E := Ext.refl w
  have HM := Hp.le_refl M
  have H := h
  unfold ferrymanlaw30_RoomEvents at H
  refine Wp_seq (Wp_region_lit ?_)
  refine W_box S #[.int .i64 a0.Tasks, .int .i64 a0.Active, .int .i64 a0.Keys, .int .i64 a0.Depth, .int .i64 a0.TS, .int .i64 a0.KeyLen, .int .i64 a0.ValLen, .int .i64 a0.Fan] rfl rfl rfl ?_
  intro b1 w2 E' S
  replace E := E.trans E'
  refine W_v (.bool false) (x_assign rfl) rfl (Wl_nil (tn (Wp_seq (Wp_seq (Wp_region_lit ?_)))))
  obtain ⟨t4, ht5, H⟩ := bindS H
  refine W_callF fn10 (ferrymanlaw30_works.con k M  t4 hg0 hg1 ht5) S rfl rfl (by rintro _ _ _ ⟨_, rfl⟩; exact flat_nil) ?_
  rintro _ w6 _ Γ' E' S ⟨rfl, rfl⟩
  replace E := E.trans E'
  refine W_v (.bool (!t4)) (x_not (b := t4) rfl) rfl (W_v (.bool (!t4)) (x_move rfl) rfl ?_)
  obtain ⟨o15, o15h, o15H⟩ := bindS H
  refine Wl_cutN 4 (fun ρ w' => ∃ (x14 : Bool), (x14) = o15 ∧ Agree ρ [(1, .slice A1 a1.length c1), (2, .slice A2 a2.length c2), (3, pt b1 0), (23, .bool x14)] ∧ Ext w w' ∧ St w' M F [B23 b1 a0]) ?_ ?_
  · have H := o15h
    rcases iteS H with ⟨hb13, H⟩ | ⟨hb13, H⟩
    · skip
      refine W_no (skF hb13) rfl (W_no (skF hb13) rfl (W_no (skF hb13) rfl (W_v (.bool true) (x_pick (k := true) (congrArg Value.bool hb13) rfl) rfl (Wl_nil ?_))))
      exact ⟨true, Option.some.inj H, ⟨rfl, rfl, rfl, rfl, trivial⟩, E, S.pick [0] (by decide)⟩
    · skip
      refine W_yes (congrArg some hb13) (W_v (.slice A1 a1.length c1) (x_move rfl) rfl (W_yes (congrArg some hb13) (W_v (.slice A2 a2.length c2) (x_move rfl) rfl (W_yes (congrArg some hb13) ?_))))
      obtain ⟨t16, ht17, H⟩ := bindS H
      refine W_callF fn16 (ferrymanlaw30_long.con k M A1 c1 a1 A2 c2 a2 t16 hr1 hr2 ht17) S rfl rfl (by rintro _ _ _ ⟨_, rfl⟩; exact flat_nil) ?_
      rintro _ w18 _ Γ' E' S ⟨rfl, rfl⟩
      replace E := E.trans E'
      refine W_v (.bool t16) (x_pick (k := false) (congrArg Value.bool hb13) rfl) rfl (Wl_nil ?_)
      exact ⟨t16, Option.some.inj H, ⟨rfl, rfl, rfl, rfl, trivial⟩, E, S.pick [0] (by decide)⟩
  as_aux_lemma =>
  rintro ρ w19 ⟨x14, rfl, hρ, E, S⟩
  rw [agree_eta hρ]
  have H := o15H
  refine W_v (.bool x14) (x_move rfl) rfl ?_
  refine Wl_cutN 4 (fun ρ w' => Agree ρ [(1, .slice A1 a1.length c1), (2, .slice A2 a2.length c2), (3, pt b1 0), (28, .bool (x14 || (decide ((a2.length : Int) > (120 : Int)))))] ∧ w19 = w') ?_ ?_
  · rcases boolCases x14 with hb20 | hb20
    · skip
      refine W_yes (congrArg some hb20) (W_v (.slice A2 a2.length c2) (x_move rfl) rfl (W_yes (congrArg some hb20) (W_v (.int .i64 (a2.length : Int)) (x_len_slice (n := a2.length) Tryd.underlying39 rfl) rfl (W_yes (congrArg some hb20) (W_v (.bool (decide ((a2.length : Int) > (120 : Int)))) (x_ibin rfl rfl rfl rfl) rfl (W_v (.bool (decide ((a2.length : Int) > (120 : Int)))) (x_pick (k := false) (congrArg Value.bool hb20) rfl) rfl (Wl_nil ?_)))))))
      exact ⟨⟨rfl, rfl, rfl, (by first | rfl | (rw [hb20]; rfl) | (simp only [hb20]; rfl)), trivial⟩, rfl⟩
    · skip
      refine W_no (skF hb20) rfl (W_no (skF hb20) rfl (W_no (skF hb20) rfl (W_v (.bool true) (x_pick (k := true) (congrArg Value.bool hb20) rfl) rfl (Wl_nil ?_))))
      exact ⟨⟨rfl, rfl, rfl, (by first | rfl | (rw [hb20]; rfl) | (simp only [hb20]; rfl)), trivial⟩, rfl⟩
  as_aux_lemma =>
  rintro ρ _ ⟨hρ, rfl⟩
  rw [agree_eta hρ]
  refine Wl_nil (tn ?_)
  rcases iteS H with ⟨hb21, H⟩ | ⟨hb21, H⟩
  · refine Wp_cond_true (congrArg Value.bool hb21) ?_
    refine Wp_seq (Wp_region_lit ?_)
    obtain ⟨t22, ht23, H⟩ := bindS H
    refine W_callF fn10 (ferrymanlaw30_works.con k M  t22 hg0 hg1 ht23) S rfl rfl (by rintro _ _ _ ⟨_, rfl⟩; exact flat_nil) ?_
    rintro _ w24 _ Γ' E' S ⟨rfl, rfl⟩
    replace E := E.trans E'
    refine W_v (.bool t22) (x_assign rfl) rfl (Wl_nil (tn ?_))
    refine Wp_ret ?_
    refine tr (?_)
    obtain rfl := Option.some.inj H
    exact ⟨_, _, _, fun w1 e1 => run_resR (vs := [.bool t22]) (FA.cons (rfl) (FA.nil)), HM, E, S.pick [] (by decide), ⟨rfl, rfl⟩⟩
  refine Wp_cond_false (congrArg Value.bool hb21) (Wp_skip (tn (Wp_seq (Wp_region_lit (W_v (.agg #[.int .i64 a0.Tasks, .int .i64 a0.Active, .int .i64 a0.Keys, .int .i64 a0.Depth, .int .i64 a0.TS, .int .i64 a0.KeyLen, .int .i64 a0.ValLen, .int .i64 a0.Fan]) (x_loadA (S.blk 0 rfl) ty23 rfl (sub_of_extract rfl) rfl rfl) rfl (W_v (.slice A1 a1.length c1) (x_move rfl) rfl (W_v (.slice A2 a2.length c2) (x_move rfl) rfl ?_)))))))
  obtain ⟨t25, ht26, H⟩ := bindS H
  refine W_callF fn13 (room_Now.con k M a0 A1 c1 a1 A2 c2 a2 t25 hr1 hr2 hg0 hg1 ht26) S rfl rfl (by rintro _ _ _ ⟨_, rfl⟩; exact flat_nil) ?_
  rintro _ w27 _ Γ' E' S ⟨rfl, rfl⟩
  replace E := E.trans E'
  refine W_v (.tuple #[.int .i64 t25.1, .int .i64 t25.2.1, .int .i64 t25.2.2]) (x_move rfl) rfl (W_v (.int .i64 t25.1) (x_extract rfl rfl) rfl (W_v (.int .i64 t25.2.1) (x_extract rfl rfl) rfl (W_v (.int .i64 t25.2.2) (x_extract rfl rfl) rfl (W_v (.int .i64 t25.1) (x_assign rfl) rfl (W_v (.int .i64 t25.2.1) (x_assign rfl) rfl (W_v (.int .i64 t25.2.2) (x_assign rfl) rfl (Wl_nil (tn (Wp_seq (Wp_seq (Wp_region_lit (W_v (.int .i64 t25.2.2) (x_move rfl) rfl (W_v (.bool (t25.2.2 != (0 : Int))) (x_ibin rfl rfl rfl rfl) rfl (Wl_nil (tn ?_)))))))))))))))
  rcases iteS H with ⟨hb28, H⟩ | ⟨hb28, H⟩
  · refine Wp_cond_true (congrArg Value.bool hb28) ?_
    refine Wp_seq (Wp_region_lit (W_v (.bool true) (x_assign rfl) rfl (Wl_nil (tn ?_))))
    refine Wp_ret ?_
    refine tr (?_)
    obtain rfl := Option.some.inj H
    exact ⟨_, _, _, fun w1 e1 => run_resR (vs := [.bool true]) (FA.cons (rfl) (FA.nil)), HM, E, S.pick [] (by decide), ⟨rfl, rfl⟩⟩
  refine Wp_cond_false (congrArg Value.bool hb28) (Wp_skip (tn ?_))
  as_aux_lemma =>
  refine Wp_seq (Wp_region_lit (W_v (.agg #[.int .i64 a0.Tasks, .int .i64 a0.Active, .int .i64 a0.Keys, .int .i64 a0.Depth, .int .i64 a0.TS, .int .i64 a0.KeyLen, .int .i64 a0.ValLen, .int .i64 a0.Fan]) (x_loadA (S.blk 0 rfl) ty23 rfl (sub_of_extract rfl) rfl rfl) rfl (W_v (.slice A1 a1.length c1) (x_move rfl) rfl ?_)))
  obtain ⟨t29, ht30, H⟩ := bindS H
  refine W_callF fn13 (room_Now.con k M a0 A1 c1 a1 none 0 ([] : (List api_Event)) t29 hr1 (SlW.nil _ _) hg0 hg1 ht30) S rfl rfl (by rintro _ _ _ ⟨_, rfl⟩; exact flat_nil) ?_
  rintro _ w31 _ Γ' E' S ⟨rfl, rfl⟩
  replace E := E.trans E'
  refine W_v (.tuple #[.int .i64 t29.1, .int .i64 t29.2.1, .int .i64 t29.2.2]) (x_move rfl) rfl (W_v (.int .i64 t29.1) (x_extract rfl rfl) rfl (W_v (.int .i64 t29.2.1) (x_extract rfl rfl) rfl (W_v (.int .i64 t29.2.2) (x_extract rfl rfl) rfl (W_v (.int .i64 t29.1) (x_assign rfl) rfl (W_v (.int .i64 t29.2.1) (x_assign rfl) rfl (W_v (.int .i64 t29.2.2) (x_assign rfl) rfl (Wl_nil (tn (Wp_seq (Wp_seq (Wp_region_lit (W_v (.int .i64 1) (x_assign rfl) rfl (Wl_nil (tn ?_))))))))))))))
  obtain ⟨o449, o449h, o449H⟩ := bindS H
  refine Wp_blockJ (fun ρ w' => .inr () = o449 ∧ Agree ρ [] ∧ Ext w w' ∧ St w' M F []) ?_ ?_
  · skip
    refine Wp_loop (fun n ρ w' => ∃ (x310 : Int) (x311 : Int) (x312 : Int), ferrymanlaw30_RoomEvents_l0 a0 a1 a2 n x310 x311 x312 = some o449 ∧ Agree ρ [(1, .slice A1 a1.length c1), (2, .slice A2 a2.length c2), (3, pt b1 0), (10, .int .i64 x310), (11, .int .i64 x311), (13, .int .i64 x312)] ∧ Ext w w' ∧ St w' M F [B23 b1 a0]) k ?_ ?_
    · skip
      exact ⟨t29.1, t29.2.1, (1 : Int), o449h, ⟨rfl, rfl, rfl, rfl, rfl, rfl, trivial⟩, E, S.pick [0] (by decide)⟩
    · intro n
      rintro ρ w450 ⟨x310, x311, x312, H, hρ, E, S⟩
      rw [agree_eta hρ]
      cases n with
      | zero => cases H
      | succ k =>
        rw [ferrymanlaw30_RoomEvents_l0.eq_2] at H
        refine Wp_seq (Wp_seq (Wp_region_lit (W_v (.int .i64 x312) (x_move rfl) rfl (W_v (.slice A2 a2.length c2) (x_move rfl) rfl (W_v (.int .i64 (a2.length : Int)) (x_len_slice (n := a2.length) Tryd.underlying39 rfl) rfl (W_v (.bool (decide (x312 ≤ (a2.length : Int)))) (x_ibin rfl rfl rfl rfl) rfl (Wl_nil (tn ?_))))))))
        rcases iteS H with ⟨hb451, H⟩ | ⟨hb451, H⟩
        · refine Wp_cond_true (congrArg Value.bool hb451) ?_
          refine Wp_skip (tn (Wp_seq ?_))
          refine Wp_block ?_
          refine Wp_seq ?_
          refine Wp_region_any (S := fun w' => ∃ Mx, M.le Mx ∧ St w' Mx F [B23 b1 a0]) (L := 13) mixed ?_
          intro w460 hw461 E'
          replace S := S.heap hw461
          replace E := E.trans E'
          have D1 : ∃ Mx, Hp.le M Mx ∧ St _ Mx F [_] := ⟨_, Hp.le_refl _, S.pick [0] (by decide)⟩
          refine Wa_take (i := 0) rfl (by kernel_rfl) rfl rfl (.agg #[.int .i64 a0.Tasks, .int .i64 a0.Active, .int .i64 a0.Keys, .int .i64 a0.Depth, .int .i64 a0.TS, .int .i64 a0.KeyLen, .int .i64 a0.ValLen, .int .i64 a0.Fan]) rfl (fun w' h' => x_loadA (cls_blk h' 0 rfl) ty23 rfl (sub_of_extract rfl) rfl rfl) D1 (Wa_take (i := 1) rfl (by kernel_rfl) rfl rfl (.slice A1 a1.length c1) rfl (fun w' h' => x_move rfl) D1 (Wa_take (i := 2) rfl (by kernel_rfl) rfl rfl (.slice A2 a2.length c2) rfl (fun w' h' => x_move rfl) D1 (Wa_take (i := 3) rfl (by kernel_rfl) rfl rfl (.int .i64 x312) rfl (fun w' h' => x_move rfl) D1 ?_)))
          obtain ⟨⟨p462, p463⟩, H⟩ := chkS H
          obtain ⟨hs465, hx466⟩ := sl_hi hr2 p462 p463
          have hs465z := hs465
          refine Wa_take (i := 4) rfl (by kernel_rfl) rfl rfl (.slice A2 (List.take x312.toNat a2).length c2) rfl (fun w' h' => hx466 Tryd.underlying39 ty38 rfl rfl) D1 ?_
          refine Wa_solo (i := 5) rfl (by kernel_rfl) ?_
          obtain ⟨t467, ht468, H⟩ := bindS H
          refine W_callF fn13 (room_Now.con k M a0 A1 c1 a1 A2 c2 (List.take x312.toNat a2) t467 hr1 hs465 hg0 hg1 ht468) S rfl rfl (by rintro _ _ _ ⟨_, rfl⟩; exact flat_nil) ?_
          rintro _ w469 _ Γ' E' S ⟨rfl, rfl⟩
          replace E := E.trans E'
          refine Wl_nil (on_n ⟨.inr ⟨M, Hp.le_refl M, (S.pick [0] (by decide))⟩, ?_⟩)
          have D2 : ∃ Mx, Hp.le M Mx ∧ St _ Mx F [_] := ⟨_, Hp.le_refl _, S.pick [0] (by decide)⟩
          refine Wa_take (i := 6) rfl (by kernel_rfl) rfl rfl (.tuple #[.int .i64 t467.1, .int .i64 t467.2.1, .int .i64 t467.2.2]) rfl (fun w' h' => x_move rfl) D2 (Wa_take (i := 7) rfl (by kernel_rfl) rfl rfl (.int .i64 t467.1) rfl (fun w' h' => x_extract rfl rfl) D2 (Wa_take (i := 8) rfl (by kernel_rfl) rfl rfl (.int .i64 t467.2.1) rfl (fun w' h' => x_extract rfl rfl) D2 (Wa_take (i := 9) rfl (by kernel_rfl) rfl rfl (.int .i64 t467.2.2) rfl (fun w' h' => x_extract rfl rfl) D2 (Wa_take (i := 10) rfl (by kernel_rfl) rfl rfl (.int .i64 t467.1) rfl (fun w' h' => x_assign rfl) D2 (Wa_take (i := 11) rfl (by kernel_rfl) rfl rfl (.int .i64 t467.2.1) rfl (fun w' h' => x_assign rfl) D2 (Wa_take (i := 12) rfl (by kernel_rfl) rfl rfl (.int .i64 t467.2.2) rfl (fun w' h' => x_assign rfl) D2 ?_))))))
          refine Wa_done (by kernel_rfl) ?_
          refine tn (Wp_seq (Wp_seq (Wp_region_lit (W_v (.int .i64 t467.2.2) (x_move rfl) rfl (W_v (.bool (t467.2.2 != (0 : Int))) (x_ibin rfl rfl rfl rfl) rfl (W_v (.bool (t467.2.2 != (0 : Int))) (x_move rfl) rfl ?_))))))
          obtain ⟨o508, o508h, o508H⟩ := bindS H
          refine Wl_cutN 18 (fun ρ w' => ∃ (x507 : Bool), (x507) = o508 ∧ Agree ρ [(1, .slice A1 a1.length c1), (2, .slice A2 a2.length c2), (3, pt b1 0), (10, .int .i64 x310), (11, .int .i64 x311), (13, .int .i64 x312), (14, .int .i64 t467.1), (15, .int .i64 t467.2.1), (83, .bool x507)] ∧ Ext w w' ∧ St w' M F [B23 b1 a0]) ?_ ?_
          · as_aux_lemma =>
              have H := o508h
              rcases iteS H with ⟨hb506, H⟩ | ⟨hb506, H⟩
              · skip
                refine W_no (skF hb506) rfl (W_no (skF hb506) rfl (W_no (skF hb506) rfl (W_no (skF hb506) rfl (W_no (skF hb506) rfl (W_no (skF hb506) rfl (W_no (skF hb506) rfl (W_no (skF hb506) rfl (W_no (rfl) rfl (W_no (rfl) rfl (W_no (rfl) rfl (W_no (rfl) rfl (W_no (rfl) rfl (W_no (rfl) rfl (W_no (rfl) rfl (W_no (rfl) rfl ?_)))))))))))))))
                refine W_no (skF hb506) rfl (W_v (.bool true) (x_pick (k := true) (congrArg Value.bool hb506) rfl) rfl (Wl_nil ?_))
                exact ⟨true, Option.some.inj H, ⟨rfl, rfl, rfl, rfl, rfl, rfl, rfl, rfl, rfl, trivial⟩, E, S.pick [0] (by decide)⟩
              · skip
                refine W_yes (congrArg some hb506) (W_v (.slice A2 a2.length c2) (x_move rfl) rfl (W_yes (congrArg some hb506) (W_v (.int .i64 x312) (x_move rfl) rfl (W_yes (congrArg some hb506) (W_v (.int .i64 (IntKind.i64.wrap (x312 - (1 : Int)))) (x_ibin rfl rfl rfl rfl) rfl (W_yes (congrArg some hb506) ?_))))))
                obtain ⟨⟨p509, p510⟩, H⟩ := chkS H
                obtain ⟨b511, o512, cs513, _, _, ee518, hb514, vs515, hR516, hc517⟩ := SlW.at' hr2 p509 p510
                obtain ⟨v522, hs521, rfl⟩ := hR516
                obtain ⟨A519, c520, rfl, _⟩ := hs521.form
                refine W_v (.pointer (some ⟨b511, o512 + (IntKind.i64.wrap (x312 - (1 : Int))).toNat * 7, none⟩)) (x_indexAddr Tryd.underlying39 ty38 (slA ee518) rfl p509 p510) rfl (W_yes (congrArg some hb506) (W_v (.pointer (some ⟨b511, o512 + (IntKind.i64.wrap (x312 - (1 : Int))).toNat * 7, none⟩)) (x_fieldAddr (o := o512 + (IntKind.i64.wrap (x312 - (1 : Int))).toNat * 7) (off := 0) Tryd.underlying38 rfl ty5 rfl rfl) rfl (W_yes (congrArg some hb506) (W_v (.int .u8 ((rd a2 (IntKind.i64.wrap (x312 - (1 : Int)))).What)) (x_load (S.frz hb514) ty5 rfl (hc517 0 _ rfl)) rfl (W_yes (congrArg some hb506) (W_v (.bool ((rd a2 (IntKind.i64.wrap (x312 - (1 : Int)))).What == (1 : Int))) (x_ibin rfl rfl rfl rfl) rfl (W_yes (congrArg some hb506) (W_v (.bool ((rd a2 (IntKind.i64.wrap (x312 - (1 : Int)))).What == (1 : Int))) (x_move rfl) rfl ?_))))))))
                refine Wl_cutN 9 (fun ρ w' => Agree ρ [(1, .slice A1 a1.length c1), (2, .slice A2 a2.length c2), (3, pt b1 0), (10, .int .i64 x310), (11, .int .i64 x311), (13, .int .i64 x312), (14, .int .i64 t467.1), (15, .int .i64 t467.2.1), (65, .bool (t467.2.2 != (0 : Int))), (66, .slice A2 a2.length c2), (67, .int .i64 x312), (68, .int .i64 (IntKind.i64.wrap (x312 - (1 : Int)))), (69, .pointer (some ⟨b511, o512 + (IntKind.i64.wrap (x312 - (1 : Int))).toNat * 7, none⟩)), (70, .pointer (some ⟨b511, o512 + (IntKind.i64.wrap (x312 - (1 : Int))).toNat * 7, none⟩)), (71, .int .u8 ((rd a2 (IntKind.i64.wrap (x312 - (1 : Int)))).What)), (72, .bool ((rd a2 (IntKind.i64.wrap (x312 - (1 : Int)))).What == (1 : Int))), (73, .bool ((rd a2 (IntKind.i64.wrap (x312 - (1 : Int)))).What == (1 : Int))), (82, .bool (((rd a2 (IntKind.i64.wrap (x312 - (1 : Int)))).What == (1 : Int)) && ((x310 != t467.1) || (x311 != t467.2.1))))] ∧ w469 = w') ?_ ?_
                · as_aux_lemma =>
                    rcases boolCases ((rd a2 (IntKind.i64.wrap (x312 - (1 : Int)))).What == (1 : Int)) with hb525 | hb525
                    · skip
                      refine W_no (skT hb525) rfl (W_no (skT hb525) rfl (W_no (skT hb525) rfl (W_no (skT hb525) rfl (W_no (rfl) rfl (W_no (rfl) rfl (W_no (rfl) rfl (W_no (skT hb525) rfl (W_yes (congrArg some hb506) (W_v (.bool false) (x_pick (k := false) (congrArg Value.bool hb525) rfl) rfl (Wl_nil ?_))))))))))
                      exact ⟨⟨rfl, rfl, rfl, rfl, rfl, rfl, rfl, rfl, rfl, rfl, rfl, rfl, rfl, rfl, rfl, rfl, rfl, (by first | rfl | (rw [hb525]; rfl) | (simp only [hb525]; rfl)), trivial⟩, rfl⟩
                    · skip
                      refine W_yes (congrArg some hb525) (W_v (.int .i64 x310) (x_move rfl) rfl (W_yes (congrArg some hb525) (W_v (.int .i64 t467.1) (x_move rfl) rfl (W_yes (congrArg some hb525) (W_v (.bool (x310 != t467.1)) (x_ibin rfl rfl rfl rfl) rfl (W_yes (congrArg some hb525) (W_v (.bool (x310 != t467.1)) (x_move rfl) rfl ?_)))))))
                      refine Wl_cutN 4 (fun ρ w' => Agree ρ [(1, .slice A1 a1.length c1), (2, .slice A2 a2.length c2), (3, pt b1 0), (10, .int .i64 x310), (11, .int .i64 x311), (13, .int .i64 x312), (14, .int .i64 t467.1), (15, .int .i64 t467.2.1), (65, .bool (t467.2.2 != (0 : Int))), (66, .slice A2 a2.length c2), (67, .int .i64 x312), (68, .int .i64 (IntKind.i64.wrap (x312 - (1 : Int)))), (69, .pointer (some ⟨b511, o512 + (IntKind.i64.wrap (x312 - (1 : Int))).toNat * 7, none⟩)), (70, .pointer (some ⟨b511, o512 + (IntKind.i64.wrap (x312 - (1 : Int))).toNat * 7, none⟩)), (71, .int .u8 ((rd a2 (IntKind.i64.wrap (x312 - (1 : Int)))).What)), (72, .bool ((rd a2 (IntKind.i64.wrap (x312 - (1 : Int)))).What == (1 : Int))), (73, .bool ((rd a2 (IntKind.i64.wrap (x312 - (1 : Int)))).What == (1 : Int))), (74, .int .i64 x310), (75, .int .i64 t467.1), (76, .bool (x310 != t467.1)), (77, .bool (x310 != t467.1)), (81, .bool ((x310 != t467.1) || (x311 != t467.2.1)))] ∧ w469 = w') ?_ ?_
                      · rcases boolCases (x310 != t467.1) with hb526 | hb526
                        · skip
                          refine W_yes (congrArg some hb526) (W_v (.int .i64 x311) (x_move rfl) rfl (W_yes (congrArg some hb526) (W_v (.int .i64 t467.2.1) (x_move rfl) rfl (W_yes (congrArg some hb526) (W_v (.bool (x311 != t467.2.1)) (x_ibin rfl rfl rfl rfl) rfl (W_yes (congrArg some hb525) (W_v (.bool (x311 != t467.2.1)) (x_pick (k := false) (congrArg Value.bool hb526) rfl) rfl (Wl_nil ?_))))))))
                          exact ⟨⟨rfl, rfl, rfl, rfl, rfl, rfl, rfl, rfl, rfl, rfl, rfl, rfl, rfl, rfl, rfl, rfl, rfl, rfl, rfl, rfl, rfl, (by first | rfl | (rw [hb526]; rfl) | (simp only [hb526]; rfl)), trivial⟩, rfl⟩
                        · skip
                          refine W_no (skF hb526) rfl (W_no (skF hb526) rfl (W_no (skF hb526) rfl (W_yes (congrArg some hb525) (W_v (.bool true) (x_pick (k := true) (congrArg Value.bool hb526) rfl) rfl (Wl_nil ?_)))))
                          exact ⟨⟨rfl, rfl, rfl, rfl, rfl, rfl, rfl, rfl, rfl, rfl, rfl, rfl, rfl, rfl, rfl, rfl, rfl, rfl, rfl, rfl, rfl, (by first | rfl | (rw [hb526]; rfl) | (simp only [hb526]; rfl)), trivial⟩, rfl⟩
                      rintro ρ _ ⟨hρ, rfl⟩
                      rw [agree_eta hρ]
                      refine W_yes (congrArg some hb506) (W_v (.bool ((x310 != t467.1) || (x311 != t467.2.1))) (x_pick (k := true) (congrArg Value.bool hb525) rfl) rfl (Wl_nil ?_))
                      exact ⟨⟨rfl, rfl, rfl, rfl, rfl, rfl, rfl, rfl, rfl, rfl, rfl, rfl, rfl, rfl, rfl, rfl, rfl, (by first | rfl | (rw [hb525]; rfl) | (simp only [hb525]; rfl)), trivial⟩, rfl⟩
                rintro ρ _ ⟨hρ, rfl⟩
                rw [agree_eta hρ]
                refine W_v (.bool (((rd a2 (IntKind.i64.wrap (x312 - (1 : Int)))).What == (1 : Int)) && ((x310 != t467.1) || (x311 != t467.2.1)))) (x_pick (k := false) (congrArg Value.bool hb506) rfl) rfl (Wl_nil ?_)
                exact ⟨(((rd a2 (IntKind.i64.wrap (x312 - (1 : Int)))).What == (1 : Int)) && ((x310 != t467.1) || (x311 != t467.2.1))), Option.some.inj H, ⟨rfl, rfl, rfl, rfl, rfl, rfl, rfl, rfl, rfl, trivial⟩, E, S.pick [0] (by decide)⟩
          as_aux_lemma =>
          rintro ρ w527 ⟨x507, rfl, hρ, E, S⟩
          rw [agree_eta hρ]
          have H := o508H
          refine W_v (.bool x507) (x_move rfl) rfl ?_
          obtain ⟨o566, o566h, o566H⟩ := bindS H
          refine Wl_cutN 18 (fun ρ w' => ∃ (x565 : Bool), (x565) = o566 ∧ Agree ρ [(1, .slice A1 a1.length c1), (2, .slice A2 a2.length c2), (3, pt b1 0), (13, .int .i64 x312), (14, .int .i64 t467.1), (15, .int .i64 t467.2.1), (102, .bool x565)] ∧ Ext w w' ∧ St w' M F [B23 b1 a0]) ?_ ?_
          · as_aux_lemma =>
              have H := o566h
              rcases iteS H with ⟨hb564, H⟩ | ⟨hb564, H⟩
              · skip
                refine W_no (skF hb564) rfl (W_no (skF hb564) rfl (W_no (skF hb564) rfl (W_no (skF hb564) rfl (W_no (skF hb564) rfl (W_no (skF hb564) rfl (W_no (skF hb564) rfl (W_no (skF hb564) rfl (W_no (rfl) rfl (W_no (rfl) rfl (W_no (rfl) rfl (W_no (rfl) rfl (W_no (rfl) rfl (W_no (rfl) rfl (W_no (rfl) rfl (W_no (rfl) rfl ?_)))))))))))))))
                refine W_no (skF hb564) rfl (W_v (.bool true) (x_pick (k := true) (congrArg Value.bool hb564) rfl) rfl (Wl_nil ?_))
                exact ⟨true, Option.some.inj H, ⟨rfl, rfl, rfl, rfl, rfl, rfl, rfl, trivial⟩, E, S.pick [0] (by decide)⟩
              · skip
                refine W_yes (congrArg some hb564) (W_v (.slice A2 a2.length c2) (x_move rfl) rfl (W_yes (congrArg some hb564) (W_v (.int .i64 x312) (x_move rfl) rfl (W_yes (congrArg some hb564) (W_v (.int .i64 (IntKind.i64.wrap (x312 - (1 : Int)))) (x_ibin rfl rfl rfl rfl) rfl (W_yes (congrArg some hb564) ?_))))))
                obtain ⟨⟨p567, p568⟩, H⟩ := chkS H
                obtain ⟨b569, o570, cs571, _, _, ee576, hb572, vs573, hR574, hc575⟩ := SlW.at' hr2 p567 p568
                obtain ⟨v580, hs579, rfl⟩ := hR574
                obtain ⟨A577, c578, rfl, _⟩ := hs579.form
                refine W_v (.pointer (some ⟨b569, o570 + (IntKind.i64.wrap (x312 - (1 : Int))).toNat * 7, none⟩)) (x_indexAddr Tryd.underlying39 ty38 (slA ee576) rfl p567 p568) rfl (W_yes (congrArg some hb564) (W_v (.pointer (some ⟨b569, o570 + (IntKind.i64.wrap (x312 - (1 : Int))).toNat * 7, none⟩)) (x_fieldAddr (o := o570 + (IntKind.i64.wrap (x312 - (1 : Int))).toNat * 7) (off := 0) Tryd.underlying38 rfl ty5 rfl rfl) rfl (W_yes (congrArg some hb564) (W_v (.int .u8 ((rd a2 (IntKind.i64.wrap (x312 - (1 : Int)))).What)) (x_load (S.frz hb572) ty5 rfl (hc575 0 _ rfl)) rfl (W_yes (congrArg some hb564) (W_v (.bool ((rd a2 (IntKind.i64.wrap (x312 - (1 : Int)))).What == (3 : Int))) (x_ibin rfl rfl rfl rfl) rfl (W_yes (congrArg some hb564) (W_v (.bool ((rd a2 (IntKind.i64.wrap (x312 - (1 : Int)))).What == (3 : Int))) (x_move rfl) rfl ?_))))))))
                refine Wl_cutN 9 (fun ρ w' => Agree ρ [(1, .slice A1 a1.length c1), (2, .slice A2 a2.length c2), (3, pt b1 0), (13, .int .i64 x312), (14, .int .i64 t467.1), (15, .int .i64 t467.2.1), (84, .bool x507), (85, .slice A2 a2.length c2), (86, .int .i64 x312), (87, .int .i64 (IntKind.i64.wrap (x312 - (1 : Int)))), (88, .pointer (some ⟨b569, o570 + (IntKind.i64.wrap (x312 - (1 : Int))).toNat * 7, none⟩)), (89, .pointer (some ⟨b569, o570 + (IntKind.i64.wrap (x312 - (1 : Int))).toNat * 7, none⟩)), (90, .int .u8 ((rd a2 (IntKind.i64.wrap (x312 - (1 : Int)))).What)), (91, .bool ((rd a2 (IntKind.i64.wrap (x312 - (1 : Int)))).What == (3 : Int))), (92, .bool ((rd a2 (IntKind.i64.wrap (x312 - (1 : Int)))).What == (3 : Int))), (101, .bool (((rd a2 (IntKind.i64.wrap (x312 - (1 : Int)))).What == (3 : Int)) && ((decide (t467.1 > x310)) || (decide (t467.2.1 > x311)))))] ∧ w527 = w') ?_ ?_
                · as_aux_lemma =>
                    rcases boolCases ((rd a2 (IntKind.i64.wrap (x312 - (1 : Int)))).What == (3 : Int)) with hb583 | hb583
                    · skip
                      refine W_no (skT hb583) rfl (W_no (skT hb583) rfl (W_no (skT hb583) rfl (W_no (skT hb583) rfl (W_no (rfl) rfl (W_no (rfl) rfl (W_no (rfl) rfl (W_no (skT hb583) rfl (W_yes (congrArg some hb564) (W_v (.bool false) (x_pick (k := false) (congrArg Value.bool hb583) rfl) rfl (Wl_nil ?_))))))))))
                      exact ⟨⟨rfl, rfl, rfl, rfl, rfl, rfl, rfl, rfl, rfl, rfl, rfl, rfl, rfl, rfl, rfl, (by first | rfl | (rw [hb583]; rfl) | (simp only [hb583]; rfl)), trivial⟩, rfl⟩
                    · skip
                      refine W_yes (congrArg some hb583) (W_v (.int .i64 t467.1) (x_move rfl) rfl (W_yes (congrArg some hb583) (W_v (.int .i64 x310) (x_move rfl) rfl (W_yes (congrArg some hb583) (W_v (.bool (decide (t467.1 > x310))) (x_ibin rfl rfl rfl rfl) rfl (W_yes (congrArg some hb583) (W_v (.bool (decide (t467.1 > x310))) (x_move rfl) rfl ?_)))))))
                      refine Wl_cutN 4 (fun ρ w' => Agree ρ [(1, .slice A1 a1.length c1), (2, .slice A2 a2.length c2), (3, pt b1 0), (13, .int .i64 x312), (14, .int .i64 t467.1), (15, .int .i64 t467.2.1), (84, .bool x507), (85, .slice A2 a2.length c2), (86, .int .i64 x312), (87, .int .i64 (IntKind.i64.wrap (x312 - (1 : Int)))), (88, .pointer (some ⟨b569, o570 + (IntKind.i64.wrap (x312 - (1 : Int))).toNat * 7, none⟩)), (89, .pointer (some ⟨b569, o570 + (IntKind.i64.wrap (x312 - (1 : Int))).toNat * 7, none⟩)), (90, .int .u8 ((rd a2 (IntKind.i64.wrap (x312 - (1 : Int)))).What)), (91, .bool ((rd a2 (IntKind.i64.wrap (x312 - (1 : Int)))).What == (3 : Int))), (92, .bool ((rd a2 (IntKind.i64.wrap (x312 - (1 : Int)))).What == (3 : Int))), (93, .int .i64 t467.1), (94, .int .i64 x310), (95, .bool (decide (t467.1 > x310))), (96, .bool (decide (t467.1 > x310))), (100, .bool ((decide (t467.1 > x310)) || (decide (t467.2.1 > x311))))] ∧ w527 = w') ?_ ?_
                      · rcases boolCases (decide (t467.1 > x310)) with hb584 | hb584
                        · skip
                          refine W_yes (congrArg some hb584) (W_v (.int .i64 t467.2.1) (x_move rfl) rfl (W_yes (congrArg some hb584) (W_v (.int .i64 x311) (x_move rfl) rfl (W_yes (congrArg some hb584) (W_v (.bool (decide (t467.2.1 > x311))) (x_ibin rfl rfl rfl rfl) rfl (W_yes (congrArg some hb583) (W_v (.bool (decide (t467.2.1 > x311))) (x_pick (k := false) (congrArg Value.bool hb584) rfl) rfl (Wl_nil ?_))))))))
                          exact ⟨⟨rfl, rfl, rfl, rfl, rfl, rfl, rfl, rfl, rfl, rfl, rfl, rfl, rfl, rfl, rfl, rfl, rfl, rfl, rfl, (by first | rfl | (rw [hb584]; rfl) | (simp only [hb584]; rfl)), trivial⟩, rfl⟩
                        · skip
                          refine W_no (skF hb584) rfl (W_no (skF hb584) rfl (W_no (skF hb584) rfl (W_yes (congrArg some hb583) (W_v (.bool true) (x_pick (k := true) (congrArg Value.bool hb584) rfl) rfl (Wl_nil ?_)))))
                          exact ⟨⟨rfl, rfl, rfl, rfl, rfl, rfl, rfl, rfl, rfl, rfl, rfl, rfl, rfl, rfl, rfl, rfl, rfl, rfl, rfl, (by first | rfl | (rw [hb584]; rfl) | (simp only [hb584]; rfl)), trivial⟩, rfl⟩
                      rintro ρ _ ⟨hρ, rfl⟩
                      rw [agree_eta hρ]
                      refine W_yes (congrArg some hb564) (W_v (.bool ((decide (t467.1 > x310)) || (decide (t467.2.1 > x311)))) (x_pick (k := true) (congrArg Value.bool hb583) rfl) rfl (Wl_nil ?_))
                      exact ⟨⟨rfl, rfl, rfl, rfl, rfl, rfl, rfl, rfl, rfl, rfl, rfl, rfl, rfl, rfl, rfl, (by first | rfl | (rw [hb583]; rfl) | (simp only [hb583]; rfl)), trivial⟩, rfl⟩
                rintro ρ _ ⟨hρ, rfl⟩
                rw [agree_eta hρ]
                refine W_v (.bool (((rd a2 (IntKind.i64.wrap (x312 - (1 : Int)))).What == (3 : Int)) && ((decide (t467.1 > x310)) || (decide (t467.2.1 > x311))))) (x_pick (k := false) (congrArg Value.bool hb564) rfl) rfl (Wl_nil ?_)
                exact ⟨(((rd a2 (IntKind.i64.wrap (x312 - (1 : Int)))).What == (3 : Int)) && ((decide (t467.1 > x310)) || (decide (t467.2.1 > x311)))), Option.some.inj H, ⟨rfl, rfl, rfl, rfl, rfl, rfl, rfl, trivial⟩, E, S.pick [0] (by decide)⟩
          rintro ρ w585 ⟨x565, rfl, hρ, E, S⟩
          rw [agree_eta hρ]
          have H := o566H
          refine Wl_nil (tn ?_)
          rcases iteS H with ⟨hb586, H⟩ | ⟨hb586, H⟩
          · refine Wp_cond_true (congrArg Value.bool hb586) ?_
            refine Wp_seq (Wp_region_lit (W_v (.bool false) (x_assign rfl) rfl (Wl_nil (tn ?_))))
            refine Wp_ret ?_
            refine tr (br (tr (tr (br (tr (tr (?_)))))))
            obtain rfl := Option.some.inj H
            have H := o449H
            replace H := elimL H
            obtain rfl := Option.some.inj H
            exact ⟨_, _, _, fun w1 e1 => run_resR (vs := [.bool false]) (FA.cons (rfl) (FA.nil)), HM, E, S.pick [] (by decide), ⟨rfl, rfl⟩⟩
          refine Wp_cond_false (congrArg Value.bool hb586) (Wp_skip (tn (Wp_region_lit (W_v (.int .i64 t467.1) (x_move rfl) rfl (W_v (.int .i64 t467.2.1) (x_move rfl) rfl (W_v (.int .i64 t467.1) (x_assign rfl) rfl (W_v (.int .i64 t467.2.1) (x_assign rfl) rfl (Wl_nil (bn (tn (Wp_region_lit (W_v (.int .i64 x312) (x_move rfl) rfl (W_v (.int .i64 (IntKind.i64.wrap (x312 + (1 : Int)))) (x_ibin rfl rfl rfl rfl) rfl (W_v (.int .i64 (IntKind.i64.wrap (x312 + (1 : Int)))) (x_assign rfl) rfl (Wl_nil ?_)))))))))))))))
          refine tn ?_
          exact ⟨k, Nat.lt_succ_self k, ⟨t467.1, t467.2.1, (IntKind.i64.wrap (x312 + (1 : Int))), H, ⟨rfl, rfl, rfl, rfl, rfl, rfl, trivial⟩, E, S.pick [0] (by decide)⟩⟩
        refine Wp_cond_false (congrArg Value.bool hb451) ?_
        refine Wp_exit ?_
        refine tx (tx (bsm (?_)))
        refine tn ?_
        exact ⟨Option.some.inj H, trivial, E, S.pick [] (by decide)⟩
  rintro ρ w587 ⟨rfl, hρ, E, S⟩
  rw [agree_eta hρ]
  have H := o449H
  replace H := elimR H
  refine tn ?_
  as_aux_lemma =>
  refine Wp_seq (Wp_region_lit (W_v (.bool true) (x_assign rfl) rfl (Wl_nil (tn ?_))))
  refine Wp_ret ?_
  obtain rfl := Option.some.inj H
  exact ⟨_, _, _, fun w1 e1 => run_resR (vs := [.bool true]) (FA.cons (rfl) (FA.nil)), HM, E, S.pick [] (by decide), ⟨rfl, rfl⟩⟩
end Go.Proofs.YtkknoimjgifhlaaDoor
