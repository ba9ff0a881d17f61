import Derived.Test.YtkknoimjgifhlaaDoorGr1B
import Derived.Test.YtkknoimjgifhlaaDoorGr1P0
import Derived.Test.YtkknoimjgifhlaaDoorGr1P5
namespace Go.Proofs.YtkknoimjgifhlaaDoor
open Go
set_option linter.unusedVariables false
set_option linter.unusedSimpArgs false
/-! ### ferryman/ferrymanlaw30.RoomLarger: function 7 -/
def ferrymanlaw30_RoomLarger (k : Nat) (a0 : api_Config) (a1 : api_Config) (a2 : Int) : Option (Bool) :=
  (Option.bind (ferrymanlaw30_works k ) (fun t7 => (Option.bind (α := Bool) (if (!t7) = true then some (true) else (Option.bind (text_May k a0) (fun t19 => some ((!t19))))) (fun x17 => (Option.bind (α := Bool) (if x17 = true then some (true) else (Option.bind (text_May k a1) (fun t32 => some ((!t32))))) (fun x30 => (if x30 = true then (Option.bind (ferrymanlaw30_works k ) (fun t37 => some t37)) else (Option.bind (α := Unit) (some ()) (fun _ => (Option.bind (α := Unit) (some ()) (fun _ => (Option.bind (room_Bound k a0) (fun t108 => (Option.bind (room_Bound k (⟨(imax a0.Tasks a1.Tasks), (imax a0.Active a1.Active), (imax a0.Keys a1.Keys), (imax a0.Depth a1.Depth), (imax a0.TS a1.TS), (imax a0.KeyLen a1.KeyLen), (imax a0.ValLen a1.ValLen), a0.Fan⟩ : api_Config)) (fun t111 => (Option.bind (α := Bool) (if ((decide (t108.1 ≤ t111.1)) && (decide (t108.2 ≤ t111.2))) = true then (Option.bind (room_Steps k a0 a2) (fun t159 => (Option.bind (room_Steps k (⟨(imax a0.Tasks a1.Tasks), (imax a0.Active a1.Active), (imax a0.Keys a1.Keys), (imax a0.Depth a1.Depth), (imax a0.TS a1.TS), (imax a0.KeyLen a1.KeyLen), (imax a0.ValLen a1.ValLen), a0.Fan⟩ : api_Config) a2) (fun t162 => some ((decide (t159 ≤ t162))))))) else some (false)) (fun x157 => (Option.bind (α := Bool) (if x157 = true then (Option.bind (room_Rounds k a0) (fun t175 => (Option.bind (room_Rounds k (⟨(imax a0.Tasks a1.Tasks), (imax a0.Active a1.Active), (imax a0.Keys a1.Keys), (imax a0.Depth a1.Depth), (imax a0.TS a1.TS), (imax a0.KeyLen a1.KeyLen), (imax a0.ValLen a1.ValLen), a0.Fan⟩ : api_Config)) (fun t178 => some ((decide (t175 ≤ t178))))))) else some (false)) (fun x173 => some x173)))))))))))))))))))
set_option maxHeartbeats 2000000 in
theorem ferrymanlaw30_RoomLarger.mono {k : Nat} {a0 : api_Config} {a1 : api_Config} {a2 : Int} : OLe (ferrymanlaw30_RoomLarger k a0 a1 a2) (ferrymanlaw30_RoomLarger (k + 1) a0 a1 a2) := by
  unfold ferrymanlaw30_RoomLarger
  repeat' (first | with_reducible exact OLe.none | with_reducible exact OLe.some | with_reducible refine OLe.ite ?_ ?_ | with_reducible refine OLe.bind ?_ (fun _ => ?_) | with_reducible exact ferrymanlaw30_works.mono | with_reducible exact room_Bound.mono | with_reducible exact room_Rounds.mono | with_reducible exact room_Steps.mono | with_reducible exact text_May.mono | refine OLe.bind ?_ (fun _ => ?_) | refine OLe.ite ?_ ?_ | refine OLe.elim (fun _ => ?_) (fun _ => ?_) | split)
set_option maxHeartbeats 8000000 in
set_option maxRecDepth 100000 in
theorem ferrymanlaw30_RoomLarger.con (k : Nat) (M : Hp) (a0 : api_Config) (a1 : api_Config) (a2 : Int) (r : Bool)  (hg0 : ∃ gt fr, M 0 = some (.cells #[.nilFunc, .func (.func 92) #[] #[], .func (.func 93) #[] #[], .func (.func 94) #[] #[], .func (.func 95) #[] #[], .func (.func 96) #[] #[], .func (.func 97) #[] #[], .func (.func 98) #[] #[], .func (.func 99) #[] #[], .func (.func 100) #[] #[]] gt fr)) (hg1 : ∃ gt fr, M 1 = some (.cells #[.nilFunc, .func (.func 114) #[] #[], .func (.func 116) #[] #[], .func (.func 118) #[] #[]] gt fr)) (h : ferrymanlaw30_RoomLarger k a0 a1 a2 = some r) : Con Tryd.prog 7 #[.agg #[.int .i64 a0.Tasks, .int .i64 a0.Active, .int .i64 a0.Keys, .int .i64 a0.Depth, .int .i64 a0.TS, .int .i64 a0.KeyLen, .int .i64 a0.ValLen, .int .i64 a0.Fan], .agg #[.int .i64 a1.Tasks, .int .i64 a1.Active, .int .i64 a1.Keys, .int .i64 a1.Depth, .int .i64 a1.TS, .int .i64 a1.KeyLen, .int .i64 a1.ValLen, .int .i64 a1.Fan], .int .u8 a2] M [] (fun v M' Γ' => v = .bool r ∧ Γ' = []) := by
  refine con_of_wp Tryd.func7 rfl Tryd.ntmps7 Tryd.results7 rfl ?_
  intro w F rn S hrn
  have E := Ext.refl w
  have HM := Hp.le_refl M
  have H := h
  unfold ferrymanlaw30_RoomLarger at H
  refine Wp_seq (Wp_region_lit ?_)
  refine W_box S #[.int .i64 a0.Tasks, .int .i64 a0.Active, .int .i64 a0.Keys, .int .i64 a0.Depth, .int .i64 a0.TS, .int .i64 a0.KeyLen, .int .i64 a0.ValLen, .int .i64 a0.Fan] rfl rfl rfl ?_
  intro b1 w2 E' S
  replace E := E.trans E'
  clear E'
  refine W_box S #[.int .i64 a1.Tasks, .int .i64 a1.Active, .int .i64 a1.Keys, .int .i64 a1.Depth, .int .i64 a1.TS, .int .i64 a1.KeyLen, .int .i64 a1.ValLen, .int .i64 a1.Fan] rfl rfl rfl ?_
  intro b4 w5 E' S
  replace E := E.trans E'
  clear E'
  refine W_v (.bool false) (x_assign rfl) rfl (Wl_nil (tn (Wp_seq (Wp_seq (Wp_region_lit ?_)))))
  obtain ⟨t7, ht8, H⟩ := bindS H
  refine W_callF fn10 (ferrymanlaw30_works.con k M  t7 hg0 hg1 ht8) S rfl rfl (by rintro _ _ _ ⟨_, rfl⟩; exact flat_nil) ?_
  rintro _ w9 _ Γ' E' S ⟨rfl, rfl⟩
  replace E := E.trans E'
  clear E'
  refine W_v (.bool (!t7)) (x_not (b := t7) rfl) rfl (W_v (.bool (!t7)) (x_move rfl) rfl ?_)
  obtain ⟨o18, o18h, o18H⟩ := bindS H
  clear H
  refine Wl_cutN 4 (fun ρ w' => ∃ (x17 : Bool), (x17) = o18 ∧ Agree ρ [(2, .int .u8 a2), (3, pt b1 0), (4, pt b4 0), (17, .bool x17)] ∧ Ext w w' ∧ St w' M F [B23 b4 a1, B23 b1 a0]) ?_ ?_
  · have H := o18h
    rcases iteS H with ⟨hb16, H⟩ | ⟨hb16, H⟩
    · skip
      refine W_no (skF hb16) rfl (W_no (skF hb16) rfl (W_no (skF hb16) rfl (W_v (.bool true) (x_pick (k := true) (congrArg Value.bool hb16) rfl) rfl (Wl_nil ?_))))
      exact ⟨true, Option.some.inj H, ⟨rfl, rfl, rfl, rfl, trivial⟩, E, S.pick [0, 1] (by decide)⟩
    · skip
      refine W_yes (congrArg some hb16) (W_v (.agg #[.int .i64 a0.Tasks, .int .i64 a0.Active, .int .i64 a0.Keys, .int .i64 a0.Depth, .int .i64 a0.TS, .int .i64 a0.KeyLen, .int .i64 a0.ValLen, .int .i64 a0.Fan]) (x_loadA (S.blk 1 rfl) ty23 rfl (sub_of_extract rfl) rfl rfl) rfl (W_yes (congrArg some hb16) ?_))
      obtain ⟨t19, ht20, H⟩ := bindS H
      refine W_callF fn21 (text_May.con k M a0 t19  ht20) S rfl rfl (by rintro _ _ _ ⟨_, rfl⟩; exact flat_nil) ?_
      rintro _ w21 _ Γ' E' S ⟨rfl, rfl⟩
      replace E := E.trans E'
      clear E'
      refine W_yes (congrArg some hb16) (W_v (.bool (!t19)) (x_not (b := t19) rfl) rfl (W_v (.bool (!t19)) (x_pick (k := false) (congrArg Value.bool hb16) rfl) rfl (Wl_nil ?_)))
      exact ⟨(!t19), Option.some.inj H, ⟨rfl, rfl, rfl, rfl, trivial⟩, E, S.pick [0, 1] (by decide)⟩
  as_aux_lemma =>
  clear o18h
  rintro ρ w22 ⟨x17, rfl, hρ, E, S⟩
  rw [agree_eta hρ]
  clear hρ
  have H := o18H
  clear o18H
  refine W_v (.bool x17) (x_move rfl) rfl ?_
  obtain ⟨o31, o31h, o31H⟩ := bindS H
  clear H
  refine Wl_cutN 4 (fun ρ w' => ∃ (x30 : Bool), (x30) = o31 ∧ Agree ρ [(2, .int .u8 a2), (3, pt b1 0), (4, pt b4 0), (22, .bool x30)] ∧ Ext w w' ∧ St w' M F [B23 b4 a1, B23 b1 a0]) ?_ ?_
  · have H := o31h
    rcases iteS H with ⟨hb29, H⟩ | ⟨hb29, H⟩
    · skip
      refine W_no (skF hb29) rfl (W_no (skF hb29) rfl (W_no (skF hb29) rfl (W_v (.bool true) (x_pick (k := true) (congrArg Value.bool hb29) rfl) rfl (Wl_nil ?_))))
      exact ⟨true, Option.some.inj H, ⟨rfl, rfl, rfl, rfl, trivial⟩, E, S.pick [0, 1] (by decide)⟩
    · skip
      refine W_yes (congrArg some hb29) (W_v (.agg #[.int .i64 a1.Tasks, .int .i64 a1.Active, .int .i64 a1.Keys, .int .i64 a1.Depth, .int .i64 a1.TS, .int .i64 a1.KeyLen, .int .i64 a1.ValLen, .int .i64 a1.Fan]) (x_loadA (S.blk 0 rfl) ty23 rfl (sub_of_extract rfl) rfl rfl) rfl (W_yes (congrArg some hb29) ?_))
      obtain ⟨t32, ht33, H⟩ := bindS H
      refine W_callF fn21 (text_May.con k M a1 t32  ht33) S rfl rfl (by rintro _ _ _ ⟨_, rfl⟩; exact flat_nil) ?_
      rintro _ w34 _ Γ' E' S ⟨rfl, rfl⟩
      replace E := E.trans E'
      clear E'
      refine W_yes (congrArg some hb29) (W_v (.bool (!t32)) (x_not (b := t32) rfl) rfl (W_v (.bool (!t32)) (x_pick (k := false) (congrArg Value.bool hb29) rfl) rfl (Wl_nil ?_)))
      exact ⟨(!t32), Option.some.inj H, ⟨rfl, rfl, rfl, rfl, trivial⟩, E, S.pick [0, 1] (by decide)⟩
  as_aux_lemma =>
  clear o31h
  rintro ρ w35 ⟨x30, rfl, hρ, E, S⟩
  rw [agree_eta hρ]
  clear hρ
  have H := o31H
  clear o31H
  refine Wl_nil (tn ?_)
  rcases iteS H with ⟨hb36, H⟩ | ⟨hb36, H⟩
  · refine Wp_cond_true (congrArg Value.bool hb36) ?_
    refine Wp_seq (Wp_region_lit ?_)
    obtain ⟨t37, ht38, H⟩ := bindS H
    refine W_callF fn10 (ferrymanlaw30_works.con k M  t37 hg0 hg1 ht38) S rfl rfl (by rintro _ _ _ ⟨_, rfl⟩; exact flat_nil) ?_
    rintro _ w39 _ Γ' E' S ⟨rfl, rfl⟩
    replace E := E.trans E'
    clear E'
    refine W_v (.bool t37) (x_assign rfl) rfl (Wl_nil (tn ?_))
    refine Wp_ret ?_
    refine tr (?_)
    obtain rfl := Option.some.inj H
    exact ⟨_, _, _, fun w1 e1 => run_resR (vs := [.bool t37]) (FA.cons (rfl) (FA.nil)), HM, E, S.pick [] (by decide), ⟨rfl, rfl⟩⟩
  refine Wp_cond_false (congrArg Value.bool hb36) (Wp_skip (tn (Wp_seq ?_)))
  refine Wp_region_any (S := fun w' => ∃ Mx, M.le Mx ∧ St w' Mx F [B23 b1 a0]) (L := 27) mixed ?_
  intro w44 hw45 E'
  replace S := S.heap hw45
  replace E := E.trans E'
  clear E'
  have D1 : ∃ Mx, Hp.le M Mx ∧ St _ Mx F [_] := ⟨_, Hp.le_refl _, S.pick [1] (by decide)⟩
  refine Wa_take (i := 0) rfl (by kernel_rfl) rfl rfl (pt b1 0) rfl (fun w' h' => x_fieldAddr (o := 0) (off := 0) Tryd.underlying23 rfl ty3 rfl rfl) D1 (Wa_take (i := 1) rfl (by kernel_rfl) rfl rfl (.int .i64 a0.Tasks) rfl (fun w' h' => x_load (cls_blk h' 0 rfl) ty3 rfl rfl) D1 (Wa_take (i := 2) rfl (by kernel_rfl) rfl rfl (pt b4 0) rfl (fun w' h' => x_fieldAddr (o := 0) (off := 0) Tryd.underlying23 rfl ty3 rfl rfl) D1 (Wa_take (i := 5) rfl (by kernel_rfl) rfl rfl (pt b1 1) rfl (fun w' h' => x_fieldAddr (o := 0) (off := 1) Tryd.underlying23 rfl ty3 rfl rfl) D1 (Wa_take (i := 6) rfl (by kernel_rfl) rfl rfl (.int .i64 a0.Active) rfl (fun w' h' => x_load (cls_blk h' 0 rfl) ty3 rfl rfl) D1 (Wa_take (i := 7) rfl (by kernel_rfl) rfl rfl (pt b4 1) rfl (fun w' h' => x_fieldAddr (o := 0) (off := 1) Tryd.underlying23 rfl ty3 rfl rfl) D1 ?_)))))
  refine Wa_take (i := 10) rfl (by kernel_rfl) rfl rfl (pt b1 2) rfl (fun w' h' => x_fieldAddr (o := 0) (off := 2) Tryd.underlying23 rfl ty3 rfl rfl) D1 (Wa_take (i := 11) rfl (by kernel_rfl) rfl rfl (.int .i64 a0.Keys) rfl (fun w' h' => x_load (cls_blk h' 0 rfl) ty3 rfl rfl) D1 (Wa_take (i := 12) rfl (by kernel_rfl) rfl rfl (pt b4 2) rfl (fun w' h' => x_fieldAddr (o := 0) (off := 2) Tryd.underlying23 rfl ty3 rfl rfl) D1 (Wa_take (i := 15) rfl (by kernel_rfl) rfl rfl (pt b1 3) rfl (fun w' h' => x_fieldAddr (o := 0) (off := 3) Tryd.underlying23 rfl ty3 rfl rfl) D1 (Wa_take (i := 16) rfl (by kernel_rfl) rfl rfl (.int .i64 a0.Depth) rfl (fun w' h' => x_load (cls_blk h' 0 rfl) ty3 rfl rfl) D1 (Wa_take (i := 17) rfl (by kernel_rfl) rfl rfl (pt b4 3) rfl (fun w' h' => x_fieldAddr (o := 0) (off := 3) Tryd.underlying23 rfl ty3 rfl rfl) D1 ?_)))))
  obtain ⟨o46, o46h, o46H⟩ := bindS H
  clear H
  refine Wa_join (fun ρ w' => () = o46 ∧ Agree ρ [(2, .int .u8 a2), (3, pt b1 0), (4, pt b4 0), (28, .int .i64 (imax a0.Tasks a1.Tasks)), (33, .int .i64 (imax a0.Active a1.Active)), (38, .int .i64 (imax a0.Keys a1.Keys)), (43, .int .i64 (imax a0.Depth a1.Depth)), (44, pt b4 0)] ∧ Ext w w' ∧ St w' M F [B23 b4 a1, B23 b1 a0]) 7 (Ls 28 [0, 1, 2, 3, 4, 5, 6, 7, 8, 9, 10, 11, 12, 13, 14, 15, 16, 17, 18, 19, 20]) ?_ ?_
  rotate_left
  · intro hq62
    clear o46H
    refine Wa_join (fun ρ w' => some () = some o46 ∧ Agree ρ [(2, .int .u8 a2), (3, pt b1 0), (4, pt b4 0), (25, .int .i64 a0.Tasks), (26, pt b4 0), (33, .int .i64 (imax a0.Active a1.Active)), (38, .int .i64 (imax a0.Keys a1.Keys)), (43, .int .i64 (imax a0.Depth a1.Depth))] ∧ Ext w w' ∧ St w' M F [B23 b4 a1, B23 b1 a0]) 10 (Ls 28 [0, 1, 2, 5, 6, 7, 8, 9, 10, 11, 12, 13, 14, 15, 16, 17, 18, 19]) ?_ ?_
    · clear o46h
      rintro ρ w63 ⟨H, hρ, E, S⟩
      rw [agree_eta hρ]
      clear hρ
      refine Wa_solo (i := 3) rfl (by kernel_rfl) ?_
      refine W_v (.int .i64 a1.Tasks) (x_load (S.blk 0 rfl) ty3 rfl rfl) rfl ?_
      refine Wl_nil (on_n ⟨.inr ⟨M, Hp.le_refl M, (S.pick [1] (by decide))⟩, ?_⟩)
      have D2 : ∃ Mx, Hp.le M Mx ∧ St _ Mx F [_] := ⟨_, Hp.le_refl _, S.pick [1] (by decide)⟩
      refine Wa_take (i := 4) rfl (by kernel_rfl) rfl rfl (.int .i64 (imax a0.Tasks a1.Tasks)) rfl (fun w' h' => x_max2 rfl rfl) D2 (Wa_take (i := 20) rfl (by kernel_rfl) rfl rfl (pt b4 0) rfl (fun w' h' => x_fieldAddr (o := 0) (off := 0) Tryd.underlying23 rfl ty3 rfl rfl) D2 ?_)
      exact hq62 _ _ ⟨Option.some.inj H, ⟨rfl, rfl, rfl, rfl, rfl, rfl, rfl, rfl, trivial⟩, E, S.pick [0, 1] (by decide)⟩
    intro hq61
    refine Wa_join (fun ρ w' => some () = some o46 ∧ Agree ρ [(2, .int .u8 a2), (3, pt b1 0), (4, pt b4 0), (28, .int .i64 (imax a0.Tasks a1.Tasks)), (30, .int .i64 a0.Active), (31, pt b4 1), (38, .int .i64 (imax a0.Keys a1.Keys)), (43, .int .i64 (imax a0.Depth a1.Depth))] ∧ Ext w w' ∧ St w' M F [B23 b4 a1, B23 b1 a0]) 10 (Ls 28 [0, 1, 2, 3, 4, 5, 6, 7, 10, 11, 12, 13, 14, 15, 16, 17, 18, 19]) ?_ ?_
    · clear o46h
      rintro ρ w64 ⟨H, hρ, E, S⟩
      rw [agree_eta hρ]
      clear hρ
      refine Wa_solo (i := 8) rfl (by kernel_rfl) ?_
      refine W_v (.int .i64 a1.Active) (x_load (S.blk 0 rfl) ty3 rfl rfl) rfl ?_
      refine Wl_nil (on_n ⟨.inr ⟨M, Hp.le_refl M, (S.pick [1] (by decide))⟩, ?_⟩)
      have D3 : ∃ Mx, Hp.le M Mx ∧ St _ Mx F [_] := ⟨_, Hp.le_refl _, S.pick [1] (by decide)⟩
      refine Wa_take (i := 9) rfl (by kernel_rfl) rfl rfl (.int .i64 (imax a0.Active a1.Active)) rfl (fun w' h' => x_max2 rfl rfl) D3 (Wa_take (i := 20) rfl (by kernel_rfl) rfl rfl (pt b4 0) rfl (fun w' h' => x_fieldAddr (o := 0) (off := 0) Tryd.underlying23 rfl ty3 rfl rfl) D3 ?_)
      exact hq62 _ _ ⟨Option.some.inj H, ⟨rfl, rfl, rfl, rfl, rfl, rfl, rfl, rfl, trivial⟩, E, S.pick [0, 1] (by decide)⟩
    intro hq60
    refine Wa_join (fun ρ w' => some () = some o46 ∧ Agree ρ [(2, .int .u8 a2), (3, pt b1 0), (4, pt b4 0), (28, .int .i64 (imax a0.Tasks a1.Tasks)), (33, .int .i64 (imax a0.Active a1.Active)), (35, .int .i64 a0.Keys), (36, pt b4 2), (43, .int .i64 (imax a0.Depth a1.Depth))] ∧ Ext w w' ∧ St w' M F [B23 b4 a1, B23 b1 a0]) 10 (Ls 28 [0, 1, 2, 3, 4, 5, 6, 7, 8, 9, 10, 11, 12, 15, 16, 17, 18, 19]) ?_ ?_
    · clear o46h
      rintro ρ w65 ⟨H, hρ, E, S⟩
      rw [agree_eta hρ]
      clear hρ
      refine Wa_solo (i := 13) rfl (by kernel_rfl) ?_
      refine W_v (.int .i64 a1.Keys) (x_load (S.blk 0 rfl) ty3 rfl rfl) rfl ?_
      refine Wl_nil (on_n ⟨.inr ⟨M, Hp.le_refl M, (S.pick [1] (by decide))⟩, ?_⟩)
      have D4 : ∃ Mx, Hp.le M Mx ∧ St _ Mx F [_] := ⟨_, Hp.le_refl _, S.pick [1] (by decide)⟩
      refine Wa_take (i := 14) rfl (by kernel_rfl) rfl rfl (.int .i64 (imax a0.Keys a1.Keys)) rfl (fun w' h' => x_max2 rfl rfl) D4 (Wa_take (i := 20) rfl (by kernel_rfl) rfl rfl (pt b4 0) rfl (fun w' h' => x_fieldAddr (o := 0) (off := 0) Tryd.underlying23 rfl ty3 rfl rfl) D4 ?_)
      exact hq62 _ _ ⟨Option.some.inj H, ⟨rfl, rfl, rfl, rfl, rfl, rfl, rfl, rfl, trivial⟩, E, S.pick [0, 1] (by decide)⟩
    intro hq59
    refine Wa_join (fun ρ w' => some () = some o46 ∧ Agree ρ [(2, .int .u8 a2), (3, pt b1 0), (4, pt b4 0), (28, .int .i64 (imax a0.Tasks a1.Tasks)), (33, .int .i64 (imax a0.Active a1.Active)), (38, .int .i64 (imax a0.Keys a1.Keys)), (40, .int .i64 a0.Depth), (41, pt b4 3)] ∧ Ext w w' ∧ St w' M F [B23 b4 a1, B23 b1 a0]) 10 (Ls 28 [0, 1, 2, 3, 4, 5, 6, 7, 8, 9, 10, 11, 12, 13, 14, 15, 16, 17]) ?_ ?_
    · clear o46h
      rintro ρ w66 ⟨H, hρ, E, S⟩
      rw [agree_eta hρ]
      clear hρ
      refine Wa_solo (i := 18) rfl (by kernel_rfl) ?_
      refine W_v (.int .i64 a1.Depth) (x_load (S.blk 0 rfl) ty3 rfl rfl) rfl ?_
      refine Wl_nil (on_n ⟨.inr ⟨M, Hp.le_refl M, (S.pick [1] (by decide))⟩, ?_⟩)
      have D5 : ∃ Mx, Hp.le M Mx ∧ St _ Mx F [_] := ⟨_, Hp.le_refl _, S.pick [1] (by decide)⟩
      refine Wa_take (i := 19) rfl (by kernel_rfl) rfl rfl (.int .i64 (imax a0.Depth a1.Depth)) rfl (fun w' h' => x_max2 rfl rfl) D5 (Wa_take (i := 20) rfl (by kernel_rfl) rfl rfl (pt b4 0) rfl (fun w' h' => x_fieldAddr (o := 0) (off := 0) Tryd.underlying23 rfl ty3 rfl rfl) D5 ?_)
      exact hq62 _ _ ⟨Option.some.inj H, ⟨rfl, rfl, rfl, rfl, rfl, rfl, rfl, rfl, trivial⟩, E, S.pick [0, 1] (by decide)⟩
    intro hq58
    refine Wa_join (fun ρ w' => some () = some o46 ∧ Agree ρ [(2, .int .u8 a2), (3, pt b1 0), (4, pt b4 0), (25, .int .i64 a0.Tasks), (26, pt b4 0), (30, .int .i64 a0.Active), (31, pt b4 1), (38, .int .i64 (imax a0.Keys a1.Keys)), (43, .int .i64 (imax a0.Depth a1.Depth))] ∧ Ext w w' ∧ St w' M F [B23 b4 a1, B23 b1 a0]) 12 (Ls 28 [0, 1, 2, 5, 6, 7, 10, 11, 12, 13, 14, 15, 16, 17, 18, 19]) ?_ ?_
    · clear o46h
      rintro ρ w67 ⟨H, hρ, E, S⟩
      rw [agree_eta hρ]
      clear hρ
      refine Wa_oneOf (rs := [3, 8]) (by kernel_rfl) (by decide) ?_
      simp only [List.forall_mem_cons, List.not_mem_nil, false_implies, implies_true, and_true]
      refine ⟨?_, ?_⟩
      · refine ⟨_, rfl, ?_⟩
        refine W_v (.int .i64 a1.Tasks) (x_load (S.blk 0 rfl) ty3 rfl rfl) rfl ?_
        refine Wl_nil (on_n ⟨.inr ⟨M, Hp.le_refl M, (S.pick [1] (by decide))⟩, ?_⟩)
        refine Wa_take (i := 4) rfl (by kernel_rfl) rfl rfl (.int .i64 (imax a0.Tasks a1.Tasks)) rfl (fun w' h' => x_max2 rfl rfl) (⟨M, Hp.le_refl M, (S.pick [1] (by decide))⟩) ?_
        exact hq60 _ _ ⟨H, ⟨rfl, rfl, rfl, rfl, rfl, rfl, rfl, rfl, trivial⟩, E, S.pick [0, 1] (by decide)⟩
      · refine ⟨_, rfl, ?_⟩
        refine W_v (.int .i64 a1.Active) (x_load (S.blk 0 rfl) ty3 rfl rfl) rfl ?_
        refine Wl_nil (on_n ⟨.inr ⟨M, Hp.le_refl M, (S.pick [1] (by decide))⟩, ?_⟩)
        refine Wa_take (i := 9) rfl (by kernel_rfl) rfl rfl (.int .i64 (imax a0.Active a1.Active)) rfl (fun w' h' => x_max2 rfl rfl) (⟨M, Hp.le_refl M, (S.pick [1] (by decide))⟩) ?_
        exact hq61 _ _ ⟨H, ⟨rfl, rfl, rfl, rfl, rfl, rfl, rfl, rfl, trivial⟩, E, S.pick [0, 1] (by decide)⟩
    intro hq57
    refine Wa_join (fun ρ w' => some () = some o46 ∧ Agree ρ [(2, .int .u8 a2), (3, pt b1 0), (4, pt b4 0), (25, .int .i64 a0.Tasks), (26, pt b4 0), (33, .int .i64 (imax a0.Active a1.Active)), (35, .int .i64 a0.Keys), (36, pt b4 2), (43, .int .i64 (imax a0.Depth a1.Depth))] ∧ Ext w w' ∧ St w' M F [B23 b4 a1, B23 b1 a0]) 12 (Ls 28 [0, 1, 2, 5, 6, 7, 8, 9, 10, 11, 12, 15, 16, 17, 18, 19]) ?_ ?_
    · clear o46h
      rintro ρ w68 ⟨H, hρ, E, S⟩
      rw [agree_eta hρ]
      clear hρ
      refine Wa_oneOf (rs := [3, 13]) (by kernel_rfl) (by decide) ?_
      simp only [List.forall_mem_cons, List.not_mem_nil, false_implies, implies_true, and_true]
      refine ⟨?_, ?_⟩
      · refine ⟨_, rfl, ?_⟩
        refine W_v (.int .i64 a1.Tasks) (x_load (S.blk 0 rfl) ty3 rfl rfl) rfl ?_
        refine Wl_nil (on_n ⟨.inr ⟨M, Hp.le_refl M, (S.pick [1] (by decide))⟩, ?_⟩)
        refine Wa_take (i := 4) rfl (by kernel_rfl) rfl rfl (.int .i64 (imax a0.Tasks a1.Tasks)) rfl (fun w' h' => x_max2 rfl rfl) (⟨M, Hp.le_refl M, (S.pick [1] (by decide))⟩) ?_
        exact hq59 _ _ ⟨H, ⟨rfl, rfl, rfl, rfl, rfl, rfl, rfl, rfl, trivial⟩, E, S.pick [0, 1] (by decide)⟩
      · refine ⟨_, rfl, ?_⟩
        refine W_v (.int .i64 a1.Keys) (x_load (S.blk 0 rfl) ty3 rfl rfl) rfl ?_
        refine Wl_nil (on_n ⟨.inr ⟨M, Hp.le_refl M, (S.pick [1] (by decide))⟩, ?_⟩)
        refine Wa_take (i := 14) rfl (by kernel_rfl) rfl rfl (.int .i64 (imax a0.Keys a1.Keys)) rfl (fun w' h' => x_max2 rfl rfl) (⟨M, Hp.le_refl M, (S.pick [1] (by decide))⟩) ?_
        exact hq61 _ _ ⟨H, ⟨rfl, rfl, rfl, rfl, rfl, rfl, rfl, rfl, trivial⟩, E, S.pick [0, 1] (by decide)⟩
    intro hq56
    refine Wa_join (fun ρ w' => some () = some o46 ∧ Agree ρ [(2, .int .u8 a2), (3, pt b1 0), (4, pt b4 0), (25, .int .i64 a0.Tasks), (26, pt b4 0), (33, .int .i64 (imax a0.Active a1.Active)), (38, .int .i64 (imax a0.Keys a1.Keys)), (40, .int .i64 a0.Depth), (41, pt b4 3)] ∧ Ext w w' ∧ St w' M F [B23 b4 a1, B23 b1 a0]) 12 (Ls 28 [0, 1, 2, 5, 6, 7, 8, 9, 10, 11, 12, 13, 14, 15, 16, 17]) ?_ ?_
    · clear o46h
      rintro ρ w69 ⟨H, hρ, E, S⟩
      rw [agree_eta hρ]
      clear hρ
      refine Wa_oneOf (rs := [3, 18]) (by kernel_rfl) (by decide) ?_
      simp only [List.forall_mem_cons, List.not_mem_nil, false_implies, implies_true, and_true]
      refine ⟨?_, ?_⟩
      · refine ⟨_, rfl, ?_⟩
        refine W_v (.int .i64 a1.Tasks) (x_load (S.blk 0 rfl) ty3 rfl rfl) rfl ?_
        refine Wl_nil (on_n ⟨.inr ⟨M, Hp.le_refl M, (S.pick [1] (by decide))⟩, ?_⟩)
        refine Wa_take (i := 4) rfl (by kernel_rfl) rfl rfl (.int .i64 (imax a0.Tasks a1.Tasks)) rfl (fun w' h' => x_max2 rfl rfl) (⟨M, Hp.le_refl M, (S.pick [1] (by decide))⟩) ?_
        exact hq58 _ _ ⟨H, ⟨rfl, rfl, rfl, rfl, rfl, rfl, rfl, rfl, trivial⟩, E, S.pick [0, 1] (by decide)⟩
      · refine ⟨_, rfl, ?_⟩
        refine W_v (.int .i64 a1.Depth) (x_load (S.blk 0 rfl) ty3 rfl rfl) rfl ?_
        refine Wl_nil (on_n ⟨.inr ⟨M, Hp.le_refl M, (S.pick [1] (by decide))⟩, ?_⟩)
        refine Wa_take (i := 19) rfl (by kernel_rfl) rfl rfl (.int .i64 (imax a0.Depth a1.Depth)) rfl (fun w' h' => x_max2 rfl rfl) (⟨M, Hp.le_refl M, (S.pick [1] (by decide))⟩) ?_
        exact hq61 _ _ ⟨H, ⟨rfl, rfl, rfl, rfl, rfl, rfl, rfl, rfl, trivial⟩, E, S.pick [0, 1] (by decide)⟩
    intro hq55
    refine Wa_join (fun ρ w' => some () = some o46 ∧ Agree ρ [(2, .int .u8 a2), (3, pt b1 0), (4, pt b4 0), (28, .int .i64 (imax a0.Tasks a1.Tasks)), (30, .int .i64 a0.Active), (31, pt b4 1), (35, .int .i64 a0.Keys), (36, pt b4 2), (43, .int .i64 (imax a0.Depth a1.Depth))] ∧ Ext w w' ∧ St w' M F [B23 b4 a1, B23 b1 a0]) 12 (Ls 28 [0, 1, 2, 3, 4, 5, 6, 7, 10, 11, 12, 15, 16, 17, 18, 19]) ?_ ?_
    · clear o46h
      rintro ρ w70 ⟨H, hρ, E, S⟩
      rw [agree_eta hρ]
      clear hρ
      refine Wa_oneOf (rs := [8, 13]) (by kernel_rfl) (by decide) ?_
      simp only [List.forall_mem_cons, List.not_mem_nil, false_implies, implies_true, and_true]
      refine ⟨?_, ?_⟩
      · refine ⟨_, rfl, ?_⟩
        refine W_v (.int .i64 a1.Active) (x_load (S.blk 0 rfl) ty3 rfl rfl) rfl ?_
        refine Wl_nil (on_n ⟨.inr ⟨M, Hp.le_refl M, (S.pick [1] (by decide))⟩, ?_⟩)
        refine Wa_take (i := 9) rfl (by kernel_rfl) rfl rfl (.int .i64 (imax a0.Active a1.Active)) rfl (fun w' h' => x_max2 rfl rfl) (⟨M, Hp.le_refl M, (S.pick [1] (by decide))⟩) ?_
        exact hq59 _ _ ⟨H, ⟨rfl, rfl, rfl, rfl, rfl, rfl, rfl, rfl, trivial⟩, E, S.pick [0, 1] (by decide)⟩
      · refine ⟨_, rfl, ?_⟩
        refine W_v (.int .i64 a1.Keys) (x_load (S.blk 0 rfl) ty3 rfl rfl) rfl ?_
        refine Wl_nil (on_n ⟨.inr ⟨M, Hp.le_refl M, (S.pick [1] (by decide))⟩, ?_⟩)
        refine Wa_take (i := 14) rfl (by kernel_rfl) rfl rfl (.int .i64 (imax a0.Keys a1.Keys)) rfl (fun w' h' => x_max2 rfl rfl) (⟨M, Hp.le_refl M, (S.pick [1] (by decide))⟩) ?_
        exact hq60 _ _ ⟨H, ⟨rfl, rfl, rfl, rfl, rfl, rfl, rfl, rfl, trivial⟩, E, S.pick [0, 1] (by decide)⟩
    intro hq54
    refine Wa_join (fun ρ w' => some () = some o46 ∧ Agree ρ [(2, .int .u8 a2), (3, pt b1 0), (4, pt b4 0), (28, .int .i64 (imax a0.Tasks a1.Tasks)), (30, .int .i64 a0.Active), (31, pt b4 1), (38, .int .i64 (imax a0.Keys a1.Keys)), (40, .int .i64 a0.Depth), (41, pt b4 3)] ∧ Ext w w' ∧ St w' M F [B23 b4 a1, B23 b1 a0]) 12 (Ls 28 [0, 1, 2, 3, 4, 5, 6, 7, 10, 11, 12, 13, 14, 15, 16, 17]) ?_ ?_
    · clear o46h
      rintro ρ w71 ⟨H, hρ, E, S⟩
      rw [agree_eta hρ]
      clear hρ
      refine Wa_oneOf (rs := [8, 18]) (by kernel_rfl) (by decide) ?_
      simp only [List.forall_mem_cons, List.not_mem_nil, false_implies, implies_true, and_true]
      refine ⟨?_, ?_⟩
      · refine ⟨_, rfl, ?_⟩
        refine W_v (.int .i64 a1.Active) (x_load (S.blk 0 rfl) ty3 rfl rfl) rfl ?_
        refine Wl_nil (on_n ⟨.inr ⟨M, Hp.le_refl M, (S.pick [1] (by decide))⟩, ?_⟩)
        refine Wa_take (i := 9) rfl (by kernel_rfl) rfl rfl (.int .i64 (imax a0.Active a1.Active)) rfl (fun w' h' => x_max2 rfl rfl) (⟨M, Hp.le_refl M, (S.pick [1] (by decide))⟩) ?_
        exact hq58 _ _ ⟨H, ⟨rfl, rfl, rfl, rfl, rfl, rfl, rfl, rfl, trivial⟩, E, S.pick [0, 1] (by decide)⟩
      · refine ⟨_, rfl, ?_⟩
        refine W_v (.int .i64 a1.Depth) (x_load (S.blk 0 rfl) ty3 rfl rfl) rfl ?_
        refine Wl_nil (on_n ⟨.inr ⟨M, Hp.le_refl M, (S.pick [1] (by decide))⟩, ?_⟩)
        refine Wa_take (i := 19) rfl (by kernel_rfl) rfl rfl (.int .i64 (imax a0.Depth a1.Depth)) rfl (fun w' h' => x_max2 rfl rfl) (⟨M, Hp.le_refl M, (S.pick [1] (by decide))⟩) ?_
        exact hq60 _ _ ⟨H, ⟨rfl, rfl, rfl, rfl, rfl, rfl, rfl, rfl, trivial⟩, E, S.pick [0, 1] (by decide)⟩
    intro hq53
    refine Wa_join (fun ρ w' => some () = some o46 ∧ Agree ρ [(2, .int .u8 a2), (3, pt b1 0), (4, pt b4 0), (28, .int .i64 (imax a0.Tasks a1.Tasks)), (33, .int .i64 (imax a0.Active a1.Active)), (35, .int .i64 a0.Keys), (36, pt b4 2), (40, .int .i64 a0.Depth), (41, pt b4 3)] ∧ Ext w w' ∧ St w' M F [B23 b4 a1, B23 b1 a0]) 12 (Ls 28 [0, 1, 2, 3, 4, 5, 6, 7, 8, 9, 10, 11, 12, 15, 16, 17]) ?_ ?_
    · clear o46h
      rintro ρ w72 ⟨H, hρ, E, S⟩
      rw [agree_eta hρ]
      clear hρ
      refine Wa_oneOf (rs := [13, 18]) (by kernel_rfl) (by decide) ?_
      simp only [List.forall_mem_cons, List.not_mem_nil, false_implies, implies_true, and_true]
      refine ⟨?_, ?_⟩
      · refine ⟨_, rfl, ?_⟩
        refine W_v (.int .i64 a1.Keys) (x_load (S.blk 0 rfl) ty3 rfl rfl) rfl ?_
        refine Wl_nil (on_n ⟨.inr ⟨M, Hp.le_refl M, (S.pick [1] (by decide))⟩, ?_⟩)
        refine Wa_take (i := 14) rfl (by kernel_rfl) rfl rfl (.int .i64 (imax a0.Keys a1.Keys)) rfl (fun w' h' => x_max2 rfl rfl) (⟨M, Hp.le_refl M, (S.pick [1] (by decide))⟩) ?_
        exact hq58 _ _ ⟨H, ⟨rfl, rfl, rfl, rfl, rfl, rfl, rfl, rfl, trivial⟩, E, S.pick [0, 1] (by decide)⟩
      · refine ⟨_, rfl, ?_⟩
        refine W_v (.int .i64 a1.Depth) (x_load (S.blk 0 rfl) ty3 rfl rfl) rfl ?_
        refine Wl_nil (on_n ⟨.inr ⟨M, Hp.le_refl M, (S.pick [1] (by decide))⟩, ?_⟩)
        refine Wa_take (i := 19) rfl (by kernel_rfl) rfl rfl (.int .i64 (imax a0.Depth a1.Depth)) rfl (fun w' h' => x_max2 rfl rfl) (⟨M, Hp.le_refl M, (S.pick [1] (by decide))⟩) ?_
        exact hq59 _ _ ⟨H, ⟨rfl, rfl, rfl, rfl, rfl, rfl, rfl, rfl, trivial⟩, E, S.pick [0, 1] (by decide)⟩
    intro hq52
    refine Wa_join (fun ρ w' => some () = some o46 ∧ Agree ρ [(2, .int .u8 a2), (3, pt b1 0), (4, pt b4 0), (25, .int .i64 a0.Tasks), (26, pt b4 0), (30, .int .i64 a0.Active), (31, pt b4 1), (35, .int .i64 a0.Keys), (36, pt b4 2), (43, .int .i64 (imax a0.Depth a1.Depth))] ∧ Ext w w' ∧ St w' M F [B23 b4 a1, B23 b1 a0]) 14 (Ls 28 [0, 1, 2, 5, 6, 7, 10, 11, 12, 15, 16, 17, 18, 19]) ?_ ?_
    · clear o46h
      rintro ρ w73 ⟨H, hρ, E, S⟩
      rw [agree_eta hρ]
      clear hρ
      refine Wa_oneOf (rs := [3, 8, 13]) (by kernel_rfl) (by decide) ?_
      simp only [List.forall_mem_cons, List.not_mem_nil, false_implies, implies_true, and_true]
      refine ⟨?_, ?_, ?_⟩
      · refine ⟨_, rfl, ?_⟩
        refine W_v (.int .i64 a1.Tasks) (x_load (S.blk 0 rfl) ty3 rfl rfl) rfl ?_
        refine Wl_nil (on_n ⟨.inr ⟨M, Hp.le_refl M, (S.pick [1] (by decide))⟩, ?_⟩)
        refine Wa_take (i := 4) rfl (by kernel_rfl) rfl rfl (.int .i64 (imax a0.Tasks a1.Tasks)) rfl (fun w' h' => x_max2 rfl rfl) (⟨M, Hp.le_refl M, (S.pick [1] (by decide))⟩) ?_
        exact hq54 _ _ ⟨H, ⟨rfl, rfl, rfl, rfl, rfl, rfl, rfl, rfl, rfl, trivial⟩, E, S.pick [0, 1] (by decide)⟩
      · refine ⟨_, rfl, ?_⟩
        refine W_v (.int .i64 a1.Active) (x_load (S.blk 0 rfl) ty3 rfl rfl) rfl ?_
        refine Wl_nil (on_n ⟨.inr ⟨M, Hp.le_refl M, (S.pick [1] (by decide))⟩, ?_⟩)
        refine Wa_take (i := 9) rfl (by kernel_rfl) rfl rfl (.int .i64 (imax a0.Active a1.Active)) rfl (fun w' h' => x_max2 rfl rfl) (⟨M, Hp.le_refl M, (S.pick [1] (by decide))⟩) ?_
        exact hq56 _ _ ⟨H, ⟨rfl, rfl, rfl, rfl, rfl, rfl, rfl, rfl, rfl, trivial⟩, E, S.pick [0, 1] (by decide)⟩
      · refine ⟨_, rfl, ?_⟩
        refine W_v (.int .i64 a1.Keys) (x_load (S.blk 0 rfl) ty3 rfl rfl) rfl ?_
        refine Wl_nil (on_n ⟨.inr ⟨M, Hp.le_refl M, (S.pick [1] (by decide))⟩, ?_⟩)
        refine Wa_take (i := 14) rfl (by kernel_rfl) rfl rfl (.int .i64 (imax a0.Keys a1.Keys)) rfl (fun w' h' => x_max2 rfl rfl) (⟨M, Hp.le_refl M, (S.pick [1] (by decide))⟩) ?_
        exact hq57 _ _ ⟨H, ⟨rfl, rfl, rfl, rfl, rfl, rfl, rfl, rfl, rfl, trivial⟩, E, S.pick [0, 1] (by decide)⟩
    intro hq51
    refine Wa_join (fun ρ w' => some () = some o46 ∧ Agree ρ [(2, .int .u8 a2), (3, pt b1 0), (4, pt b4 0), (25, .int .i64 a0.Tasks), (26, pt b4 0), (30, .int .i64 a0.Active), (31, pt b4 1), (38, .int .i64 (imax a0.Keys a1.Keys)), (40, .int .i64 a0.Depth), (41, pt b4 3)] ∧ Ext w w' ∧ St w' M F [B23 b4 a1, B23 b1 a0]) 14 (Ls 28 [0, 1, 2, 5, 6, 7, 10, 11, 12, 13, 14, 15, 16, 17]) ?_ ?_
    · clear o46h
      rintro ρ w74 ⟨H, hρ, E, S⟩
      rw [agree_eta hρ]
      clear hρ
      refine Wa_oneOf (rs := [3, 8, 18]) (by kernel_rfl) (by decide) ?_
      simp only [List.forall_mem_cons, List.not_mem_nil, false_implies, implies_true, and_true]
      refine ⟨?_, ?_, ?_⟩
      · refine ⟨_, rfl, ?_⟩
        refine W_v (.int .i64 a1.Tasks) (x_load (S.blk 0 rfl) ty3 rfl rfl) rfl ?_
        refine Wl_nil (on_n ⟨.inr ⟨M, Hp.le_refl M, (S.pick [1] (by decide))⟩, ?_⟩)
        refine Wa_take (i := 4) rfl (by kernel_rfl) rfl rfl (.int .i64 (imax a0.Tasks a1.Tasks)) rfl (fun w' h' => x_max2 rfl rfl) (⟨M, Hp.le_refl M, (S.pick [1] (by decide))⟩) ?_
        exact hq53 _ _ ⟨H, ⟨rfl, rfl, rfl, rfl, rfl, rfl, rfl, rfl, rfl, trivial⟩, E, S.pick [0, 1] (by decide)⟩
      · refine ⟨_, rfl, ?_⟩
        refine W_v (.int .i64 a1.Active) (x_load (S.blk 0 rfl) ty3 rfl rfl) rfl ?_
        refine Wl_nil (on_n ⟨.inr ⟨M, Hp.le_refl M, (S.pick [1] (by decide))⟩, ?_⟩)
        refine Wa_take (i := 9) rfl (by kernel_rfl) rfl rfl (.int .i64 (imax a0.Active a1.Active)) rfl (fun w' h' => x_max2 rfl rfl) (⟨M, Hp.le_refl M, (S.pick [1] (by decide))⟩) ?_
        exact hq55 _ _ ⟨H, ⟨rfl, rfl, rfl, rfl, rfl, rfl, rfl, rfl, rfl, trivial⟩, E, S.pick [0, 1] (by decide)⟩
      · refine ⟨_, rfl, ?_⟩
        refine W_v (.int .i64 a1.Depth) (x_load (S.blk 0 rfl) ty3 rfl rfl) rfl ?_
        refine Wl_nil (on_n ⟨.inr ⟨M, Hp.le_refl M, (S.pick [1] (by decide))⟩, ?_⟩)
        refine Wa_take (i := 19) rfl (by kernel_rfl) rfl rfl (.int .i64 (imax a0.Depth a1.Depth)) rfl (fun w' h' => x_max2 rfl rfl) (⟨M, Hp.le_refl M, (S.pick [1] (by decide))⟩) ?_
        exact hq57 _ _ ⟨H, ⟨rfl, rfl, rfl, rfl, rfl, rfl, rfl, rfl, rfl, trivial⟩, E, S.pick [0, 1] (by decide)⟩
    intro hq50
    refine Wa_join (fun ρ w' => some () = some o46 ∧ Agree ρ [(2, .int .u8 a2), (3, pt b1 0), (4, pt b4 0), (25, .int .i64 a0.Tasks), (26, pt b4 0), (33, .int .i64 (imax a0.Active a1.Active)), (35, .int .i64 a0.Keys), (36, pt b4 2), (40, .int .i64 a0.Depth), (41, pt b4 3)] ∧ Ext w w' ∧ St w' M F [B23 b4 a1, B23 b1 a0]) 14 (Ls 28 [0, 1, 2, 5, 6, 7, 8, 9, 10, 11, 12, 15, 16, 17]) ?_ ?_
    · clear o46h
      rintro ρ w75 ⟨H, hρ, E, S⟩
      rw [agree_eta hρ]
      clear hρ
      refine Wa_oneOf (rs := [3, 13, 18]) (by kernel_rfl) (by decide) ?_
      simp only [List.forall_mem_cons, List.not_mem_nil, false_implies, implies_true, and_true]
      refine ⟨?_, ?_, ?_⟩
      · refine ⟨_, rfl, ?_⟩
        refine W_v (.int .i64 a1.Tasks) (x_load (S.blk 0 rfl) ty3 rfl rfl) rfl ?_
        refine Wl_nil (on_n ⟨.inr ⟨M, Hp.le_refl M, (S.pick [1] (by decide))⟩, ?_⟩)
        refine Wa_take (i := 4) rfl (by kernel_rfl) rfl rfl (.int .i64 (imax a0.Tasks a1.Tasks)) rfl (fun w' h' => x_max2 rfl rfl) (⟨M, Hp.le_refl M, (S.pick [1] (by decide))⟩) ?_
        exact hq52 _ _ ⟨H, ⟨rfl, rfl, rfl, rfl, rfl, rfl, rfl, rfl, rfl, trivial⟩, E, S.pick [0, 1] (by decide)⟩
      · refine ⟨_, rfl, ?_⟩
        refine W_v (.int .i64 a1.Keys) (x_load (S.blk 0 rfl) ty3 rfl rfl) rfl ?_
        refine Wl_nil (on_n ⟨.inr ⟨M, Hp.le_refl M, (S.pick [1] (by decide))⟩, ?_⟩)
        refine Wa_take (i := 14) rfl (by kernel_rfl) rfl rfl (.int .i64 (imax a0.Keys a1.Keys)) rfl (fun w' h' => x_max2 rfl rfl) (⟨M, Hp.le_refl M, (S.pick [1] (by decide))⟩) ?_
        exact hq55 _ _ ⟨H, ⟨rfl, rfl, rfl, rfl, rfl, rfl, rfl, rfl, rfl, trivial⟩, E, S.pick [0, 1] (by decide)⟩
      · refine ⟨_, rfl, ?_⟩
        refine W_v (.int .i64 a1.Depth) (x_load (S.blk 0 rfl) ty3 rfl rfl) rfl ?_
        refine Wl_nil (on_n ⟨.inr ⟨M, Hp.le_refl M, (S.pick [1] (by decide))⟩, ?_⟩)
        refine Wa_take (i := 19) rfl (by kernel_rfl) rfl rfl (.int .i64 (imax a0.Depth a1.Depth)) rfl (fun w' h' => x_max2 rfl rfl) (⟨M, Hp.le_refl M, (S.pick [1] (by decide))⟩) ?_
        exact hq56 _ _ ⟨H, ⟨rfl, rfl, rfl, rfl, rfl, rfl, rfl, rfl, rfl, trivial⟩, E, S.pick [0, 1] (by decide)⟩
    intro hq49
    refine Wa_join (fun ρ w' => some () = some o46 ∧ Agree ρ [(2, .int .u8 a2), (3, pt b1 0), (4, pt b4 0), (28, .int .i64 (imax a0.Tasks a1.Tasks)), (30, .int .i64 a0.Active), (31, pt b4 1), (35, .int .i64 a0.Keys), (36, pt b4 2), (40, .int .i64 a0.Depth), (41, pt b4 3)] ∧ Ext w w' ∧ St w' M F [B23 b4 a1, B23 b1 a0]) 14 (Ls 28 [0, 1, 2, 3, 4, 5, 6, 7, 10, 11, 12, 15, 16, 17]) ?_ ?_
    · clear o46h
      rintro ρ w76 ⟨H, hρ, E, S⟩
      rw [agree_eta hρ]
      clear hρ
      refine Wa_oneOf (rs := [8, 13, 18]) (by kernel_rfl) (by decide) ?_
      simp only [List.forall_mem_cons, List.not_mem_nil, false_implies, implies_true, and_true]
      refine ⟨?_, ?_, ?_⟩
      · refine ⟨_, rfl, ?_⟩
        refine W_v (.int .i64 a1.Active) (x_load (S.blk 0 rfl) ty3 rfl rfl) rfl ?_
        refine Wl_nil (on_n ⟨.inr ⟨M, Hp.le_refl M, (S.pick [1] (by decide))⟩, ?_⟩)
        refine Wa_take (i := 9) rfl (by kernel_rfl) rfl rfl (.int .i64 (imax a0.Active a1.Active)) rfl (fun w' h' => x_max2 rfl rfl) (⟨M, Hp.le_refl M, (S.pick [1] (by decide))⟩) ?_
        exact hq52 _ _ ⟨H, ⟨rfl, rfl, rfl, rfl, rfl, rfl, rfl, rfl, rfl, trivial⟩, E, S.pick [0, 1] (by decide)⟩
      · refine ⟨_, rfl, ?_⟩
        refine W_v (.int .i64 a1.Keys) (x_load (S.blk 0 rfl) ty3 rfl rfl) rfl ?_
        refine Wl_nil (on_n ⟨.inr ⟨M, Hp.le_refl M, (S.pick [1] (by decide))⟩, ?_⟩)
        refine Wa_take (i := 14) rfl (by kernel_rfl) rfl rfl (.int .i64 (imax a0.Keys a1.Keys)) rfl (fun w' h' => x_max2 rfl rfl) (⟨M, Hp.le_refl M, (S.pick [1] (by decide))⟩) ?_
        exact hq53 _ _ ⟨H, ⟨rfl, rfl, rfl, rfl, rfl, rfl, rfl, rfl, rfl, trivial⟩, E, S.pick [0, 1] (by decide)⟩
      · refine ⟨_, rfl, ?_⟩
        refine W_v (.int .i64 a1.Depth) (x_load (S.blk 0 rfl) ty3 rfl rfl) rfl ?_
        refine Wl_nil (on_n ⟨.inr ⟨M, Hp.le_refl M, (S.pick [1] (by decide))⟩, ?_⟩)
        refine Wa_take (i := 19) rfl (by kernel_rfl) rfl rfl (.int .i64 (imax a0.Depth a1.Depth)) rfl (fun w' h' => x_max2 rfl rfl) (⟨M, Hp.le_refl M, (S.pick [1] (by decide))⟩) ?_
        exact hq54 _ _ ⟨H, ⟨rfl, rfl, rfl, rfl, rfl, rfl, rfl, rfl, rfl, trivial⟩, E, S.pick [0, 1] (by decide)⟩
    intro hq48
    have H := o46h
    refine Wa_oneOf (rs := [3, 8, 13, 18]) (by kernel_rfl) (by decide) ?_
    simp only [List.forall_mem_cons, List.not_mem_nil, false_implies, implies_true, and_true]
    refine ⟨?_, ?_, ?_, ?_⟩
    · refine ⟨_, rfl, ?_⟩
      refine W_v (.int .i64 a1.Tasks) (x_load (S.blk 0 rfl) ty3 rfl rfl) rfl ?_
      refine Wl_nil (on_n ⟨.inr ⟨M, Hp.le_refl M, (S.pick [1] (by decide))⟩, ?_⟩)
      refine Wa_take (i := 4) rfl (by kernel_rfl) rfl rfl (.int .i64 (imax a0.Tasks a1.Tasks)) rfl (fun w' h' => x_max2 rfl rfl) (⟨M, Hp.le_refl M, (S.pick [1] (by decide))⟩) ?_
      exact hq48 _ _ ⟨H, ⟨rfl, rfl, rfl, rfl, rfl, rfl, rfl, rfl, rfl, rfl, trivial⟩, E, S.pick [0, 1] (by decide)⟩
    · refine ⟨_, rfl, ?_⟩
      refine W_v (.int .i64 a1.Active) (x_load (S.blk 0 rfl) ty3 rfl rfl) rfl ?_
      refine Wl_nil (on_n ⟨.inr ⟨M, Hp.le_refl M, (S.pick [1] (by decide))⟩, ?_⟩)
      refine Wa_take (i := 9) rfl (by kernel_rfl) rfl rfl (.int .i64 (imax a0.Active a1.Active)) rfl (fun w' h' => x_max2 rfl rfl) (⟨M, Hp.le_refl M, (S.pick [1] (by decide))⟩) ?_
      exact hq49 _ _ ⟨H, ⟨rfl, rfl, rfl, rfl, rfl, rfl, rfl, rfl, rfl, rfl, trivial⟩, E, S.pick [0, 1] (by decide)⟩
    · refine ⟨_, rfl, ?_⟩
      refine W_v (.int .i64 a1.Keys) (x_load (S.blk 0 rfl) ty3 rfl rfl) rfl ?_
      refine Wl_nil (on_n ⟨.inr ⟨M, Hp.le_refl M, (S.pick [1] (by decide))⟩, ?_⟩)
      refine Wa_take (i := 14) rfl (by kernel_rfl) rfl rfl (.int .i64 (imax a0.Keys a1.Keys)) rfl (fun w' h' => x_max2 rfl rfl) (⟨M, Hp.le_refl M, (S.pick [1] (by decide))⟩) ?_
      exact hq50 _ _ ⟨H, ⟨rfl, rfl, rfl, rfl, rfl, rfl, rfl, rfl, rfl, rfl, trivial⟩, E, S.pick [0, 1] (by decide)⟩
    · refine ⟨_, rfl, ?_⟩
      refine W_v (.int .i64 a1.Depth) (x_load (S.blk 0 rfl) ty3 rfl rfl) rfl ?_
      refine Wl_nil (on_n ⟨.inr ⟨M, Hp.le_refl M, (S.pick [1] (by decide))⟩, ?_⟩)
      refine Wa_take (i := 19) rfl (by kernel_rfl) rfl rfl (.int .i64 (imax a0.Depth a1.Depth)) rfl (fun w' h' => x_max2 rfl rfl) (⟨M, Hp.le_refl M, (S.pick [1] (by decide))⟩) ?_
      exact hq51 _ _ ⟨H, ⟨rfl, rfl, rfl, rfl, rfl, rfl, rfl, rfl, rfl, rfl, trivial⟩, E, S.pick [0, 1] (by decide)⟩
  clear o46h
  rintro ρ w77 ⟨rfl, hρ, E, S⟩
  rw [agree_eta hρ]
  clear hρ
  have H := o46H
  clear o46H
  refine Wa_solo (i := 21) rfl (by kernel_rfl) ?_
  refine W_store S 0 rfl ty3 rfl rfl [.int .i64 (imax a0.Tasks a1.Tasks)] rfl rfl rfl #[.int .i64 (imax a0.Tasks a1.Tasks), .int .i64 a1.Active, .int .i64 a1.Keys, .int .i64 a1.Depth, .int .i64 a1.TS, .int .i64 a1.KeyLen, .int .i64 a1.ValLen, .int .i64 a1.Fan] rfl rfl ?_
  intro w78 E' S
  replace E := E.trans E'
  clear E'
  refine Wl_nil (on_n ⟨.inr ⟨M, Hp.le_refl M, (S.pick [1] (by decide))⟩, ?_⟩)
  refine Wa_take (i := 22) rfl (by kernel_rfl) rfl rfl (pt b4 1) rfl (fun w' h' => x_fieldAddr (o := 0) (off := 1) Tryd.underlying23 rfl ty3 rfl rfl) (⟨M, Hp.le_refl M, (S.pick [1] (by decide))⟩) ?_
  refine Wa_solo (i := 23) rfl (by kernel_rfl) ?_
  refine W_store S 0 rfl ty3 rfl rfl [.int .i64 (imax a0.Active a1.Active)] rfl rfl rfl #[.int .i64 (imax a0.Tasks a1.Tasks), .int .i64 (imax a0.Active a1.Active), .int .i64 a1.Keys, .int .i64 a1.Depth, .int .i64 a1.TS, .int .i64 a1.KeyLen, .int .i64 a1.ValLen, .int .i64 a1.Fan] rfl rfl ?_
  intro w79 E' S
  replace E := E.trans E'
  clear E'
  refine Wl_nil (on_n ⟨.inr ⟨M, Hp.le_refl M, (S.pick [1] (by decide))⟩, ?_⟩)
  refine Wa_take (i := 24) rfl (by kernel_rfl) rfl rfl (pt b4 2) rfl (fun w' h' => x_fieldAddr (o := 0) (off := 2) Tryd.underlying23 rfl ty3 rfl rfl) (⟨M, Hp.le_refl M, (S.pick [1] (by decide))⟩) ?_
  refine Wa_solo (i := 25) rfl (by kernel_rfl) ?_
  refine W_store S 0 rfl ty3 rfl rfl [.int .i64 (imax a0.Keys a1.Keys)] rfl rfl rfl #[.int .i64 (imax a0.Tasks a1.Tasks), .int .i64 (imax a0.Active a1.Active), .int .i64 (imax a0.Keys a1.Keys), .int .i64 a1.Depth, .int .i64 a1.TS, .int .i64 a1.KeyLen, .int .i64 a1.ValLen, .int .i64 a1.Fan] rfl rfl ?_
  intro w80 E' S
  replace E := E.trans E'
  clear E'
  refine Wl_nil (on_n ⟨.inr ⟨M, Hp.le_refl M, (S.pick [1] (by decide))⟩, ?_⟩)
  refine Wa_take (i := 26) rfl (by kernel_rfl) rfl rfl (pt b4 3) rfl (fun w' h' => x_fieldAddr (o := 0) (off := 3) Tryd.underlying23 rfl ty3 rfl rfl) (⟨M, Hp.le_refl M, (S.pick [1] (by decide))⟩) ?_
  refine Wa_solo (i := 27) rfl (by kernel_rfl) ?_
  refine W_store S 0 rfl ty3 rfl rfl [.int .i64 (imax a0.Depth a1.Depth)] rfl rfl rfl #[.int .i64 (imax a0.Tasks a1.Tasks), .int .i64 (imax a0.Active a1.Active), .int .i64 (imax a0.Keys a1.Keys), .int .i64 (imax a0.Depth a1.Depth), .int .i64 a1.TS, .int .i64 a1.KeyLen, .int .i64 a1.ValLen, .int .i64 a1.Fan] rfl rfl ?_
  intro w81 E' S
  replace E := E.trans E'
  clear E'
  refine Wl_nil (on_n ⟨.inl (by decide), ?_⟩)
  refine Wa_done (by kernel_rfl) ?_
  refine tn ?_
  as_aux_lemma =>
  refine Wp_seq ?_
  refine Wp_region_any (S := fun w' => ∃ Mx, M.le Mx ∧ St w' Mx F [B23 b1 a0]) (L := 24) mixed ?_
  intro w86 hw87 E'
  replace S := S.heap hw87
  replace E := E.trans E'
  clear E'
  have D37 : ∃ Mx, Hp.le M Mx ∧ St _ Mx F [_] := ⟨_, Hp.le_refl _, S.pick [1] (by decide)⟩
  refine Wa_take (i := 0) rfl (by kernel_rfl) rfl rfl (pt b1 4) rfl (fun w' h' => x_fieldAddr (o := 0) (off := 4) Tryd.underlying23 rfl ty3 rfl rfl) D37 (Wa_take (i := 1) rfl (by kernel_rfl) rfl rfl (.int .i64 a0.TS) rfl (fun w' h' => x_load (cls_blk h' 0 rfl) ty3 rfl rfl) D37 (Wa_take (i := 2) rfl (by kernel_rfl) rfl rfl (pt b4 4) rfl (fun w' h' => x_fieldAddr (o := 0) (off := 4) Tryd.underlying23 rfl ty3 rfl rfl) D37 (Wa_take (i := 5) rfl (by kernel_rfl) rfl rfl (pt b1 5) rfl (fun w' h' => x_fieldAddr (o := 0) (off := 5) Tryd.underlying23 rfl ty3 rfl rfl) D37 (Wa_take (i := 6) rfl (by kernel_rfl) rfl rfl (.int .i64 a0.KeyLen) rfl (fun w' h' => x_load (cls_blk h' 0 rfl) ty3 rfl rfl) D37 (Wa_take (i := 7) rfl (by kernel_rfl) rfl rfl (pt b4 5) rfl (fun w' h' => x_fieldAddr (o := 0) (off := 5) Tryd.underlying23 rfl ty3 rfl rfl) D37 ?_)))))
  refine Wa_take (i := 10) rfl (by kernel_rfl) rfl rfl (pt b1 6) rfl (fun w' h' => x_fieldAddr (o := 0) (off := 6) Tryd.underlying23 rfl ty3 rfl rfl) D37 (Wa_take (i := 11) rfl (by kernel_rfl) rfl rfl (.int .i64 a0.ValLen) rfl (fun w' h' => x_load (cls_blk h' 0 rfl) ty3 rfl rfl) D37 (Wa_take (i := 12) rfl (by kernel_rfl) rfl rfl (pt b4 6) rfl (fun w' h' => x_fieldAddr (o := 0) (off := 6) Tryd.underlying23 rfl ty3 rfl rfl) D37 (Wa_take (i := 15) rfl (by kernel_rfl) rfl rfl (pt b1 7) rfl (fun w' h' => x_fieldAddr (o := 0) (off := 7) Tryd.underlying23 rfl ty3 rfl rfl) D37 (Wa_take (i := 16) rfl (by kernel_rfl) rfl rfl (.int .i64 a0.Fan) rfl (fun w' h' => x_load (cls_blk h' 0 rfl) ty3 rfl rfl) D37 ?_))))
  obtain ⟨o88, o88h, o88H⟩ := bindS H
  clear H
  refine Wa_join (fun ρ w' => () = o88 ∧ Agree ρ [(2, .int .u8 a2), (3, pt b1 0), (4, pt b4 0), (52, .int .i64 (imax a0.TS a1.TS)), (57, .int .i64 (imax a0.KeyLen a1.KeyLen)), (62, .int .i64 (imax a0.ValLen a1.ValLen)), (64, .int .i64 a0.Fan), (65, pt b4 4)] ∧ Ext w w' ∧ St w' M F [Blk b4 (.cells #[.int .i64 (imax a0.Tasks a1.Tasks), .int .i64 (imax a0.Active a1.Active), .int .i64 (imax a0.Keys a1.Keys), .int .i64 (imax a0.Depth a1.Depth), .int .i64 a1.TS, .int .i64 a1.KeyLen, .int .i64 a1.ValLen, .int .i64 a1.Fan] 23 (0, 0)), B23 b1 a0]) 7 (Ls 25 [0, 1, 2, 3, 4, 5, 6, 7, 8, 9, 10, 11, 12, 13, 14, 15, 16, 17]) ?_ ?_
  rotate_left
  · intro hq96
    clear o88H
    refine Wa_join (fun ρ w' => some () = some o88 ∧ Agree ρ [(2, .int .u8 a2), (3, pt b1 0), (4, pt b4 0), (49, .int .i64 a0.TS), (50, pt b4 4), (57, .int .i64 (imax a0.KeyLen a1.KeyLen)), (62, .int .i64 (imax a0.ValLen a1.ValLen)), (64, .int .i64 a0.Fan)] ∧ Ext w w' ∧ St w' M F [Blk b4 (.cells #[.int .i64 (imax a0.Tasks a1.Tasks), .int .i64 (imax a0.Active a1.Active), .int .i64 (imax a0.Keys a1.Keys), .int .i64 (imax a0.Depth a1.Depth), .int .i64 a1.TS, .int .i64 a1.KeyLen, .int .i64 a1.ValLen, .int .i64 a1.Fan] 23 (0, 0)), B23 b1 a0]) 10 (Ls 25 [0, 1, 2, 5, 6, 7, 8, 9, 10, 11, 12, 13, 14, 15, 16]) ?_ ?_
    · clear o88h
      rintro ρ w97 ⟨H, hρ, E, S⟩
      rw [agree_eta hρ]
      clear hρ
      refine Wa_solo (i := 3) rfl (by kernel_rfl) ?_
      refine W_v (.int .i64 a1.TS) (x_load (S.blk 0 rfl) ty3 rfl rfl) rfl ?_
      refine Wl_nil (on_n ⟨.inr ⟨M, Hp.le_refl M, (S.pick [1] (by decide))⟩, ?_⟩)
      have D38 : ∃ Mx, Hp.le M Mx ∧ St _ Mx F [_] := ⟨_, Hp.le_refl _, S.pick [1] (by decide)⟩
      refine Wa_take (i := 4) rfl (by kernel_rfl) rfl rfl (.int .i64 (imax a0.TS a1.TS)) rfl (fun w' h' => x_max2 rfl rfl) D38 (Wa_take (i := 17) rfl (by kernel_rfl) rfl rfl (pt b4 4) rfl (fun w' h' => x_fieldAddr (o := 0) (off := 4) Tryd.underlying23 rfl ty3 rfl rfl) D38 ?_)
      exact hq96 _ _ ⟨Option.some.inj H, ⟨rfl, rfl, rfl, rfl, rfl, rfl, rfl, rfl, trivial⟩, E, S.pick [0, 1] (by decide)⟩
    intro hq95
    refine Wa_join (fun ρ w' => some () = some o88 ∧ Agree ρ [(2, .int .u8 a2), (3, pt b1 0), (4, pt b4 0), (52, .int .i64 (imax a0.TS a1.TS)), (54, .int .i64 a0.KeyLen), (55, pt b4 5), (62, .int .i64 (imax a0.ValLen a1.ValLen)), (64, .int .i64 a0.Fan)] ∧ Ext w w' ∧ St w' M F [Blk b4 (.cells #[.int .i64 (imax a0.Tasks a1.Tasks), .int .i64 (imax a0.Active a1.Active), .int .i64 (imax a0.Keys a1.Keys), .int .i64 (imax a0.Depth a1.Depth), .int .i64 a1.TS, .int .i64 a1.KeyLen, .int .i64 a1.ValLen, .int .i64 a1.Fan] 23 (0, 0)), B23 b1 a0]) 10 (Ls 25 [0, 1, 2, 3, 4, 5, 6, 7, 10, 11, 12, 13, 14, 15, 16]) ?_ ?_
    · clear o88h
      rintro ρ w98 ⟨H, hρ, E, S⟩
      rw [agree_eta hρ]
      clear hρ
      refine Wa_solo (i := 8) rfl (by kernel_rfl) ?_
      refine W_v (.int .i64 a1.KeyLen) (x_load (S.blk 0 rfl) ty3 rfl rfl) rfl ?_
      refine Wl_nil (on_n ⟨.inr ⟨M, Hp.le_refl M, (S.pick [1] (by decide))⟩, ?_⟩)
      have D39 : ∃ Mx, Hp.le M Mx ∧ St _ Mx F [_] := ⟨_, Hp.le_refl _, S.pick [1] (by decide)⟩
      refine Wa_take (i := 9) rfl (by kernel_rfl) rfl rfl (.int .i64 (imax a0.KeyLen a1.KeyLen)) rfl (fun w' h' => x_max2 rfl rfl) D39 (Wa_take (i := 17) rfl (by kernel_rfl) rfl rfl (pt b4 4) rfl (fun w' h' => x_fieldAddr (o := 0) (off := 4) Tryd.underlying23 rfl ty3 rfl rfl) D39 ?_)
      exact hq96 _ _ ⟨Option.some.inj H, ⟨rfl, rfl, rfl, rfl, rfl, rfl, rfl, rfl, trivial⟩, E, S.pick [0, 1] (by decide)⟩
    intro hq94
    refine Wa_join (fun ρ w' => some () = some o88 ∧ Agree ρ [(2, .int .u8 a2), (3, pt b1 0), (4, pt b4 0), (52, .int .i64 (imax a0.TS a1.TS)), (57, .int .i64 (imax a0.KeyLen a1.KeyLen)), (59, .int .i64 a0.ValLen), (60, pt b4 6), (64, .int .i64 a0.Fan)] ∧ Ext w w' ∧ St w' M F [Blk b4 (.cells #[.int .i64 (imax a0.Tasks a1.Tasks), .int .i64 (imax a0.Active a1.Active), .int .i64 (imax a0.Keys a1.Keys), .int .i64 (imax a0.Depth a1.Depth), .int .i64 a1.TS, .int .i64 a1.KeyLen, .int .i64 a1.ValLen, .int .i64 a1.Fan] 23 (0, 0)), B23 b1 a0]) 10 (Ls 25 [0, 1, 2, 3, 4, 5, 6, 7, 8, 9, 10, 11, 12, 15, 16]) ?_ ?_
    · clear o88h
      rintro ρ w99 ⟨H, hρ, E, S⟩
      rw [agree_eta hρ]
      clear hρ
      refine Wa_solo (i := 13) rfl (by kernel_rfl) ?_
      refine W_v (.int .i64 a1.ValLen) (x_load (S.blk 0 rfl) ty3 rfl rfl) rfl ?_
      refine Wl_nil (on_n ⟨.inr ⟨M, Hp.le_refl M, (S.pick [1] (by decide))⟩, ?_⟩)
      have D40 : ∃ Mx, Hp.le M Mx ∧ St _ Mx F [_] := ⟨_, Hp.le_refl _, S.pick [1] (by decide)⟩
      refine Wa_take (i := 14) rfl (by kernel_rfl) rfl rfl (.int .i64 (imax a0.ValLen a1.ValLen)) rfl (fun w' h' => x_max2 rfl rfl) D40 (Wa_take (i := 17) rfl (by kernel_rfl) rfl rfl (pt b4 4) rfl (fun w' h' => x_fieldAddr (o := 0) (off := 4) Tryd.underlying23 rfl ty3 rfl rfl) D40 ?_)
      exact hq96 _ _ ⟨Option.some.inj H, ⟨rfl, rfl, rfl, rfl, rfl, rfl, rfl, rfl, trivial⟩, E, S.pick [0, 1] (by decide)⟩
    intro hq93
    refine Wa_join (fun ρ w' => some () = some o88 ∧ Agree ρ [(2, .int .u8 a2), (3, pt b1 0), (4, pt b4 0), (49, .int .i64 a0.TS), (50, pt b4 4), (54, .int .i64 a0.KeyLen), (55, pt b4 5), (62, .int .i64 (imax a0.ValLen a1.ValLen)), (64, .int .i64 a0.Fan)] ∧ Ext w w' ∧ St w' M F [Blk b4 (.cells #[.int .i64 (imax a0.Tasks a1.Tasks), .int .i64 (imax a0.Active a1.Active), .int .i64 (imax a0.Keys a1.Keys), .int .i64 (imax a0.Depth a1.Depth), .int .i64 a1.TS, .int .i64 a1.KeyLen, .int .i64 a1.ValLen, .int .i64 a1.Fan] 23 (0, 0)), B23 b1 a0]) 12 (Ls 25 [0, 1, 2, 5, 6, 7, 10, 11, 12, 13, 14, 15, 16]) ?_ ?_
    · clear o88h
      rintro ρ w100 ⟨H, hρ, E, S⟩
      rw [agree_eta hρ]
      clear hρ
      refine Wa_oneOf (rs := [3, 8]) (by kernel_rfl) (by decide) ?_
      simp only [List.forall_mem_cons, List.not_mem_nil, false_implies, implies_true, and_true]
      refine ⟨?_, ?_⟩
      · refine ⟨_, rfl, ?_⟩
        refine W_v (.int .i64 a1.TS) (x_load (S.blk 0 rfl) ty3 rfl rfl) rfl ?_
        refine Wl_nil (on_n ⟨.inr ⟨M, Hp.le_refl M, (S.pick [1] (by decide))⟩, ?_⟩)
        refine Wa_take (i := 4) rfl (by kernel_rfl) rfl rfl (.int .i64 (imax a0.TS a1.TS)) rfl (fun w' h' => x_max2 rfl rfl) (⟨M, Hp.le_refl M, (S.pick [1] (by decide))⟩) ?_
        exact hq94 _ _ ⟨H, ⟨rfl, rfl, rfl, rfl, rfl, rfl, rfl, rfl, trivial⟩, E, S.pick [0, 1] (by decide)⟩
      · refine ⟨_, rfl, ?_⟩
        refine W_v (.int .i64 a1.KeyLen) (x_load (S.blk 0 rfl) ty3 rfl rfl) rfl ?_
        refine Wl_nil (on_n ⟨.inr ⟨M, Hp.le_refl M, (S.pick [1] (by decide))⟩, ?_⟩)
        refine Wa_take (i := 9) rfl (by kernel_rfl) rfl rfl (.int .i64 (imax a0.KeyLen a1.KeyLen)) rfl (fun w' h' => x_max2 rfl rfl) (⟨M, Hp.le_refl M, (S.pick [1] (by decide))⟩) ?_
        exact hq95 _ _ ⟨H, ⟨rfl, rfl, rfl, rfl, rfl, rfl, rfl, rfl, trivial⟩, E, S.pick [0, 1] (by decide)⟩
    intro hq92
    refine Wa_join (fun ρ w' => some () = some o88 ∧ Agree ρ [(2, .int .u8 a2), (3, pt b1 0), (4, pt b4 0), (49, .int .i64 a0.TS), (50, pt b4 4), (57, .int .i64 (imax a0.KeyLen a1.KeyLen)), (59, .int .i64 a0.ValLen), (60, pt b4 6), (64, .int .i64 a0.Fan)] ∧ Ext w w' ∧ St w' M F [Blk b4 (.cells #[.int .i64 (imax a0.Tasks a1.Tasks), .int .i64 (imax a0.Active a1.Active), .int .i64 (imax a0.Keys a1.Keys), .int .i64 (imax a0.Depth a1.Depth), .int .i64 a1.TS, .int .i64 a1.KeyLen, .int .i64 a1.ValLen, .int .i64 a1.Fan] 23 (0, 0)), B23 b1 a0]) 12 (Ls 25 [0, 1, 2, 5, 6, 7, 8, 9, 10, 11, 12, 15, 16]) ?_ ?_
    · clear o88h
      rintro ρ w101 ⟨H, hρ, E, S⟩
      rw [agree_eta hρ]
      clear hρ
      refine Wa_oneOf (rs := [3, 13]) (by kernel_rfl) (by decide) ?_
      simp only [List.forall_mem_cons, List.not_mem_nil, false_implies, implies_true, and_true]
      refine ⟨?_, ?_⟩
      · refine ⟨_, rfl, ?_⟩
        refine W_v (.int .i64 a1.TS) (x_load (S.blk 0 rfl) ty3 rfl rfl) rfl ?_
        refine Wl_nil (on_n ⟨.inr ⟨M, Hp.le_refl M, (S.pick [1] (by decide))⟩, ?_⟩)
        refine Wa_take (i := 4) rfl (by kernel_rfl) rfl rfl (.int .i64 (imax a0.TS a1.TS)) rfl (fun w' h' => x_max2 rfl rfl) (⟨M, Hp.le_refl M, (S.pick [1] (by decide))⟩) ?_
        exact hq93 _ _ ⟨H, ⟨rfl, rfl, rfl, rfl, rfl, rfl, rfl, rfl, trivial⟩, E, S.pick [0, 1] (by decide)⟩
      · refine ⟨_, rfl, ?_⟩
        refine W_v (.int .i64 a1.ValLen) (x_load (S.blk 0 rfl) ty3 rfl rfl) rfl ?_
        refine Wl_nil (on_n ⟨.inr ⟨M, Hp.le_refl M, (S.pick [1] (by decide))⟩, ?_⟩)
        refine Wa_take (i := 14) rfl (by kernel_rfl) rfl rfl (.int .i64 (imax a0.ValLen a1.ValLen)) rfl (fun w' h' => x_max2 rfl rfl) (⟨M, Hp.le_refl M, (S.pick [1] (by decide))⟩) ?_
        exact hq95 _ _ ⟨H, ⟨rfl, rfl, rfl, rfl, rfl, rfl, rfl, rfl, trivial⟩, E, S.pick [0, 1] (by decide)⟩
    intro hq91
    refine Wa_join (fun ρ w' => some () = some o88 ∧ Agree ρ [(2, .int .u8 a2), (3, pt b1 0), (4, pt b4 0), (52, .int .i64 (imax a0.TS a1.TS)), (54, .int .i64 a0.KeyLen), (55, pt b4 5), (59, .int .i64 a0.ValLen), (60, pt b4 6), (64, .int .i64 a0.Fan)] ∧ Ext w w' ∧ St w' M F [Blk b4 (.cells #[.int .i64 (imax a0.Tasks a1.Tasks), .int .i64 (imax a0.Active a1.Active), .int .i64 (imax a0.Keys a1.Keys), .int .i64 (imax a0.Depth a1.Depth), .int .i64 a1.TS, .int .i64 a1.KeyLen, .int .i64 a1.ValLen, .int .i64 a1.Fan] 23 (0, 0)), B23 b1 a0]) 12 (Ls 25 [0, 1, 2, 3, 4, 5, 6, 7, 10, 11, 12, 15, 16]) ?_ ?_
    · clear o88h
      rintro ρ w102 ⟨H, hρ, E, S⟩
      rw [agree_eta hρ]
      clear hρ
      refine Wa_oneOf (rs := [8, 13]) (by kernel_rfl) (by decide) ?_
      simp only [List.forall_mem_cons, List.not_mem_nil, false_implies, implies_true, and_true]
      refine ⟨?_, ?_⟩
      · refine ⟨_, rfl, ?_⟩
        refine W_v (.int .i64 a1.KeyLen) (x_load (S.blk 0 rfl) ty3 rfl rfl) rfl ?_
        refine Wl_nil (on_n ⟨.inr ⟨M, Hp.le_refl M, (S.pick [1] (by decide))⟩, ?_⟩)
        refine Wa_take (i := 9) rfl (by kernel_rfl) rfl rfl (.int .i64 (imax a0.KeyLen a1.KeyLen)) rfl (fun w' h' => x_max2 rfl rfl) (⟨M, Hp.le_refl M, (S.pick [1] (by decide))⟩) ?_
        exact hq93 _ _ ⟨H, ⟨rfl, rfl, rfl, rfl, rfl, rfl, rfl, rfl, trivial⟩, E, S.pick [0, 1] (by decide)⟩
      · refine ⟨_, rfl, ?_⟩
        refine W_v (.int .i64 a1.ValLen) (x_load (S.blk 0 rfl) ty3 rfl rfl) rfl ?_
        refine Wl_nil (on_n ⟨.inr ⟨M, Hp.le_refl M, (S.pick [1] (by decide))⟩, ?_⟩)
        refine Wa_take (i := 14) rfl (by kernel_rfl) rfl rfl (.int .i64 (imax a0.ValLen a1.ValLen)) rfl (fun w' h' => x_max2 rfl rfl) (⟨M, Hp.le_refl M, (S.pick [1] (by decide))⟩) ?_
        exact hq94 _ _ ⟨H, ⟨rfl, rfl, rfl, rfl, rfl, rfl, rfl, rfl, trivial⟩, E, S.pick [0, 1] (by decide)⟩
    intro hq90
    have H := o88h
    refine Wa_oneOf (rs := [3, 8, 13]) (by kernel_rfl) (by decide) ?_
    simp only [List.forall_mem_cons, List.not_mem_nil, false_implies, implies_true, and_true]
    refine ⟨?_, ?_, ?_⟩
    · refine ⟨_, rfl, ?_⟩
      refine W_v (.int .i64 a1.TS) (x_load (S.blk 0 rfl) ty3 rfl rfl) rfl ?_
      refine Wl_nil (on_n ⟨.inr ⟨M, Hp.le_refl M, (S.pick [1] (by decide))⟩, ?_⟩)
      refine Wa_take (i := 4) rfl (by kernel_rfl) rfl rfl (.int .i64 (imax a0.TS a1.TS)) rfl (fun w' h' => x_max2 rfl rfl) (⟨M, Hp.le_refl M, (S.pick [1] (by decide))⟩) ?_
      exact hq90 _ _ ⟨H, ⟨rfl, rfl, rfl, rfl, rfl, rfl, rfl, rfl, rfl, trivial⟩, E, S.pick [0, 1] (by decide)⟩
    · refine ⟨_, rfl, ?_⟩
      refine W_v (.int .i64 a1.KeyLen) (x_load (S.blk 0 rfl) ty3 rfl rfl) rfl ?_
      refine Wl_nil (on_n ⟨.inr ⟨M, Hp.le_refl M, (S.pick [1] (by decide))⟩, ?_⟩)
      refine Wa_take (i := 9) rfl (by kernel_rfl) rfl rfl (.int .i64 (imax a0.KeyLen a1.KeyLen)) rfl (fun w' h' => x_max2 rfl rfl) (⟨M, Hp.le_refl M, (S.pick [1] (by decide))⟩) ?_
      exact hq91 _ _ ⟨H, ⟨rfl, rfl, rfl, rfl, rfl, rfl, rfl, rfl, rfl, trivial⟩, E, S.pick [0, 1] (by decide)⟩
    · refine ⟨_, rfl, ?_⟩
      refine W_v (.int .i64 a1.ValLen) (x_load (S.blk 0 rfl) ty3 rfl rfl) rfl ?_
      refine Wl_nil (on_n ⟨.inr ⟨M, Hp.le_refl M, (S.pick [1] (by decide))⟩, ?_⟩)
      refine Wa_take (i := 14) rfl (by kernel_rfl) rfl rfl (.int .i64 (imax a0.ValLen a1.ValLen)) rfl (fun w' h' => x_max2 rfl rfl) (⟨M, Hp.le_refl M, (S.pick [1] (by decide))⟩) ?_
      exact hq92 _ _ ⟨H, ⟨rfl, rfl, rfl, rfl, rfl, rfl, rfl, rfl, rfl, trivial⟩, E, S.pick [0, 1] (by decide)⟩
  clear o88h
  rintro ρ w103 ⟨rfl, hρ, E, S⟩
  rw [agree_eta hρ]
  clear hρ
  have H := o88H
  clear o88H
  refine Wa_solo (i := 18) rfl (by kernel_rfl) ?_
  refine W_store S 0 rfl ty3 rfl rfl [.int .i64 (imax a0.TS a1.TS)] rfl rfl rfl #[.int .i64 (imax a0.Tasks a1.Tasks), .int .i64 (imax a0.Active a1.Active), .int .i64 (imax a0.Keys a1.Keys), .int .i64 (imax a0.Depth a1.Depth), .int .i64 (imax a0.TS a1.TS), .int .i64 a1.KeyLen, .int .i64 a1.ValLen, .int .i64 a1.Fan] rfl rfl ?_
  intro w104 E' S
  replace E := E.trans E'
  clear E'
  refine Wl_nil (on_n ⟨.inr ⟨M, Hp.le_refl M, (S.pick [1] (by decide))⟩, ?_⟩)
  refine Wa_take (i := 19) rfl (by kernel_rfl) rfl rfl (pt b4 5) rfl (fun w' h' => x_fieldAddr (o := 0) (off := 5) Tryd.underlying23 rfl ty3 rfl rfl) (⟨M, Hp.le_refl M, (S.pick [1] (by decide))⟩) ?_
  refine Wa_solo (i := 20) rfl (by kernel_rfl) ?_
  refine W_store S 0 rfl ty3 rfl rfl [.int .i64 (imax a0.KeyLen a1.KeyLen)] rfl rfl rfl #[.int .i64 (imax a0.Tasks a1.Tasks), .int .i64 (imax a0.Active a1.Active), .int .i64 (imax a0.Keys a1.Keys), .int .i64 (imax a0.Depth a1.Depth), .int .i64 (imax a0.TS a1.TS), .int .i64 (imax a0.KeyLen a1.KeyLen), .int .i64 a1.ValLen, .int .i64 a1.Fan] rfl rfl ?_
  intro w105 E' S
  replace E := E.trans E'
  clear E'
  refine Wl_nil (on_n ⟨.inr ⟨M, Hp.le_refl M, (S.pick [1] (by decide))⟩, ?_⟩)
  refine Wa_take (i := 21) rfl (by kernel_rfl) rfl rfl (pt b4 6) rfl (fun w' h' => x_fieldAddr (o := 0) (off := 6) Tryd.underlying23 rfl ty3 rfl rfl) (⟨M, Hp.le_refl M, (S.pick [1] (by decide))⟩) ?_
  refine Wa_solo (i := 22) rfl (by kernel_rfl) ?_
  refine W_store S 0 rfl ty3 rfl rfl [.int .i64 (imax a0.ValLen a1.ValLen)] rfl rfl rfl #[.int .i64 (imax a0.Tasks a1.Tasks), .int .i64 (imax a0.Active a1.Active), .int .i64 (imax a0.Keys a1.Keys), .int .i64 (imax a0.Depth a1.Depth), .int .i64 (imax a0.TS a1.TS), .int .i64 (imax a0.KeyLen a1.KeyLen), .int .i64 (imax a0.ValLen a1.ValLen), .int .i64 a1.Fan] rfl rfl ?_
  intro w106 E' S
  replace E := E.trans E'
  clear E'
  refine Wl_nil (on_n ⟨.inr ⟨M, Hp.le_refl M, (S.pick [1] (by decide))⟩, ?_⟩)
  refine Wa_take (i := 23) rfl (by kernel_rfl) rfl rfl (pt b4 7) rfl (fun w' h' => x_fieldAddr (o := 0) (off := 7) Tryd.underlying23 rfl ty3 rfl rfl) (⟨M, Hp.le_refl M, (S.pick [1] (by decide))⟩) ?_
  refine Wa_solo (i := 24) rfl (by kernel_rfl) ?_
  refine W_store S 0 rfl ty3 rfl rfl [.int .i64 a0.Fan] rfl rfl rfl #[.int .i64 (imax a0.Tasks a1.Tasks), .int .i64 (imax a0.Active a1.Active), .int .i64 (imax a0.Keys a1.Keys), .int .i64 (imax a0.Depth a1.Depth), .int .i64 (imax a0.TS a1.TS), .int .i64 (imax a0.KeyLen a1.KeyLen), .int .i64 (imax a0.ValLen a1.ValLen), .int .i64 a0.Fan] rfl rfl ?_
  intro w107 E' S
  replace E := E.trans E'
  clear E'
  refine Wl_nil (on_n ⟨.inl (by decide), ?_⟩)
  refine Wa_done (by kernel_rfl) ?_
  refine tn ?_
  as_aux_lemma =>
  refine Wp_seq (Wp_region_lit (W_v (.agg #[.int .i64 a0.Tasks, .int .i64 a0.Active, .int .i64 a0.Keys, .int .i64 a0.Depth, .int .i64 a0.TS, .int .i64 a0.KeyLen, .int .i64 a0.ValLen, .int .i64 a0.Fan]) (x_loadA (S.blk 1 rfl) ty23 rfl (sub_of_extract rfl) rfl rfl) rfl ?_))
  obtain ⟨t108, ht109, H⟩ := bindS H
  refine W_callF fn9 (room_Bound.con k M a0 t108  ht109) S rfl rfl (by rintro _ _ _ ⟨_, rfl⟩; exact flat_nil) ?_
  rintro _ w110 _ Γ' E' S ⟨rfl, rfl⟩
  replace E := E.trans E'
  clear E'
  refine W_v (.tuple #[.int .i64 t108.1, .int .i64 t108.2]) (x_move rfl) rfl (W_v (.int .i64 t108.1) (x_extract rfl rfl) rfl (W_v (.int .i64 t108.2) (x_extract rfl rfl) rfl (W_v (.int .i64 t108.1) (x_assign rfl) rfl (W_v (.int .i64 t108.2) (x_assign rfl) rfl (Wl_nil ?_)))))
  refine tn (Wp_seq (Wp_region_lit (W_v (.agg #[.int .i64 (imax a0.Tasks a1.Tasks), .int .i64 (imax a0.Active a1.Active), .int .i64 (imax a0.Keys a1.Keys), .int .i64 (imax a0.Depth a1.Depth), .int .i64 (imax a0.TS a1.TS), .int .i64 (imax a0.KeyLen a1.KeyLen), .int .i64 (imax a0.ValLen a1.ValLen), .int .i64 a0.Fan]) (x_loadA (S.blk 0 rfl) ty23 rfl (sub_of_extract rfl) rfl rfl) rfl ?_)))
  obtain ⟨t111, ht112, H⟩ := bindS H
  refine W_callF fn9 (room_Bound.con k M (⟨(imax a0.Tasks a1.Tasks), (imax a0.Active a1.Active), (imax a0.Keys a1.Keys), (imax a0.Depth a1.Depth), (imax a0.TS a1.TS), (imax a0.KeyLen a1.KeyLen), (imax a0.ValLen a1.ValLen), a0.Fan⟩ : api_Config) t111  ht112) S rfl rfl (by rintro _ _ _ ⟨_, rfl⟩; exact flat_nil) ?_
  rintro _ w113 _ Γ' E' S ⟨rfl, rfl⟩
  replace E := E.trans E'
  clear E'
  refine W_v (.tuple #[.int .i64 t111.1, .int .i64 t111.2]) (x_move rfl) rfl (W_v (.int .i64 t111.1) (x_extract rfl rfl) rfl (W_v (.int .i64 t111.2) (x_extract rfl rfl) rfl (W_v (.int .i64 t111.1) (x_assign rfl) rfl (W_v (.int .i64 t111.2) (x_assign rfl) rfl (Wl_nil ?_)))))
  refine tn (Wp_seq ?_)
  refine Wp_region_any (S := fun w' => ∃ Mx, M.le Mx ∧ St w' Mx F [Blk b4 (.cells #[.int .i64 (imax a0.Tasks a1.Tasks), .int .i64 (imax a0.Active a1.Active), .int .i64 (imax a0.Keys a1.Keys), .int .i64 (imax a0.Depth a1.Depth), .int .i64 (imax a0.TS a1.TS), .int .i64 (imax a0.KeyLen a1.KeyLen), .int .i64 (imax a0.ValLen a1.ValLen), .int .i64 a0.Fan] 23 (0, 0)), B23 b1 a0]) (L := 25) mixed ?_
  intro w147 hw148 E'
  replace S := S.heap hw148
  replace E := E.trans E'
  clear E'
  have D53 : ∃ Mx, Hp.le M Mx ∧ St _ Mx F [_, _] := ⟨_, Hp.le_refl _, S.pick [0, 1] (by decide)⟩
  refine Wa_take (i := 0) rfl (by kernel_rfl) rfl rfl (.int .i64 t108.1) rfl (fun w' h' => x_move rfl) D53 (Wa_take (i := 1) rfl (by kernel_rfl) rfl rfl (.int .i64 t111.1) rfl (fun w' h' => x_move rfl) D53 (Wa_take (i := 2) rfl (by kernel_rfl) rfl rfl (.bool (decide (t108.1 ≤ t111.1))) rfl (fun w' h' => x_ibin rfl rfl rfl rfl) D53 (Wa_take (i := 3) rfl (by kernel_rfl) rfl rfl (.bool (decide (t108.1 ≤ t111.1))) rfl (fun w' h' => x_move rfl) D53 ?_)))
  refine Wa_join (fun ρ w' => Agree ρ [(2, .int .u8 a2), (3, pt b1 0), (4, pt b4 0), (86, .bool ((decide (t108.1 ≤ t111.1)) && (decide (t108.2 ≤ t111.2))))] ∧ w147 = w') 17 (Ls 25 [0, 1, 2, 3, 4, 5, 6, 7]) ?_ ?_
  rotate_left
  · intro hrest
    rcases boolCases (decide (t108.1 ≤ t111.1)) with hb149 | hb149
    · skip
      have D54 : ∃ Mx, Hp.le M Mx ∧ St _ Mx F [_, _] := ⟨_, Hp.le_refl _, S.pick [0, 1] (by decide)⟩
      refine Wa_takeN (i := 4) rfl (by kernel_rfl) rfl rfl rfl (skT hb149) D54 (Wa_takeN (i := 5) rfl (by kernel_rfl) rfl rfl rfl (skT hb149) D54 (Wa_takeN (i := 6) rfl (by kernel_rfl) rfl rfl rfl (skT hb149) D54 (Wa_take (i := 7) rfl (by kernel_rfl) rfl rfl (.bool false) rfl (fun w' h' => x_pick (k := false) (congrArg Value.bool hb149) rfl) D54 ?_)))
      exact hrest _ _ ⟨⟨rfl, rfl, rfl, (by first | rfl | (rw [hb149]; rfl) | (simp only [hb149]; rfl)), trivial⟩, rfl⟩
    · skip
      have D55 : ∃ Mx, Hp.le M Mx ∧ St _ Mx F [_, _] := ⟨_, Hp.le_refl _, S.pick [0, 1] (by decide)⟩
      refine Wa_takeY (i := 4) rfl (by kernel_rfl) rfl rfl (.int .i64 t108.2) rfl (congrArg some hb149) (fun w' h' => x_move rfl) D55 (Wa_takeY (i := 5) rfl (by kernel_rfl) rfl rfl (.int .i64 t111.2) rfl (congrArg some hb149) (fun w' h' => x_move rfl) D55 (Wa_takeY (i := 6) rfl (by kernel_rfl) rfl rfl (.bool (decide (t108.2 ≤ t111.2))) rfl (congrArg some hb149) (fun w' h' => x_ibin rfl rfl rfl rfl) D55 (Wa_take (i := 7) rfl (by kernel_rfl) rfl rfl (.bool (decide (t108.2 ≤ t111.2))) rfl (fun w' h' => x_pick (k := true) (congrArg Value.bool hb149) rfl) D55 ?_)))
      exact hrest _ _ ⟨⟨rfl, rfl, rfl, (by first | rfl | (rw [hb149]; rfl) | (simp only [hb149]; rfl)), trivial⟩, rfl⟩
  rintro ρ _ ⟨hρ, rfl⟩
  rw [agree_eta hρ]
  clear hρ
  refine Wa_take (i := 8) rfl (by kernel_rfl) rfl rfl (.bool ((decide (t108.1 ≤ t111.1)) && (decide (t108.2 ≤ t111.2)))) rfl (fun w' h' => x_move rfl) (⟨M, Hp.le_refl M, (S.pick [0, 1] (by decide))⟩) ?_
  obtain ⟨o158, o158h, o158H⟩ := bindS H
  clear H
  refine Wa_join (fun ρ w' => ∃ (x157 : Bool), (x157) = o158 ∧ Agree ρ [(3, pt b1 0), (4, pt b4 0), (95, .bool x157)] ∧ Ext w w' ∧ St w' M F [Blk b4 (.cells #[.int .i64 (imax a0.Tasks a1.Tasks), .int .i64 (imax a0.Active a1.Active), .int .i64 (imax a0.Keys a1.Keys), .int .i64 (imax a0.Depth a1.Depth), .int .i64 (imax a0.TS a1.TS), .int .i64 (imax a0.KeyLen a1.KeyLen), .int .i64 (imax a0.ValLen a1.ValLen), .int .i64 a0.Fan] 23 (0, 0)), B23 b1 a0]) 8 (Ls 25 [0, 1, 2, 3, 4, 5, 6, 7, 8, 9, 10, 12, 13, 11, 14, 15, 16]) ?_ ?_
  rotate_left
  · intro hrest
    have H := o158h
    clear o158h o158H
    rcases iteS H with ⟨hb156, H⟩ | ⟨hb156, H⟩
    · skip
      have D57 : ∃ Mx, Hp.le M Mx ∧ St _ Mx F [_, _] := ⟨_, Hp.le_refl _, S.pick [0, 1] (by decide)⟩
      refine Wa_takeY (i := 9) rfl (by kernel_rfl) rfl rfl (.agg #[.int .i64 a0.Tasks, .int .i64 a0.Active, .int .i64 a0.Keys, .int .i64 a0.Depth, .int .i64 a0.TS, .int .i64 a0.KeyLen, .int .i64 a0.ValLen, .int .i64 a0.Fan]) rfl (congrArg some hb156) (fun w' h' => x_loadA (cls_blk h' 1 rfl) ty23 rfl (sub_of_extract rfl) rfl rfl) D57 (Wa_takeY (i := 10) rfl (by kernel_rfl) rfl rfl (.int .u8 a2) rfl (congrArg some hb156) (fun w' h' => x_move rfl) D57 (Wa_takeY (i := 12) rfl (by kernel_rfl) rfl rfl (.agg #[.int .i64 (imax a0.Tasks a1.Tasks), .int .i64 (imax a0.Active a1.Active), .int .i64 (imax a0.Keys a1.Keys), .int .i64 (imax a0.Depth a1.Depth), .int .i64 (imax a0.TS a1.TS), .int .i64 (imax a0.KeyLen a1.KeyLen), .int .i64 (imax a0.ValLen a1.ValLen), .int .i64 a0.Fan]) rfl (congrArg some hb156) (fun w' h' => x_loadA (cls_blk h' 0 rfl) ty23 rfl (sub_of_extract rfl) rfl rfl) D57 (Wa_takeY (i := 13) rfl (by kernel_rfl) rfl rfl (.int .u8 a2) rfl (congrArg some hb156) (fun w' h' => x_move rfl) D57 ?_)))
      refine Wa_solo (i := 11) rfl (by kernel_rfl) ?_
      refine W_yes (congrArg some hb156) ?_
      obtain ⟨t159, ht160, H⟩ := bindS H
      refine W_callF fn11 (room_Steps.con k M a0 a2 t159  ht160) S rfl rfl (by rintro _ _ _ ⟨_, rfl⟩; exact flat_nil) ?_
      rintro _ w161 _ Γ' E' S ⟨rfl, rfl⟩
      replace E := E.trans E'
      clear E'
      refine Wl_nil (on_n ⟨.inr ⟨M, Hp.le_refl M, (S.pick [0, 1] (by decide))⟩, ?_⟩)
      refine Wa_solo (i := 14) rfl (by kernel_rfl) ?_
      refine W_yes (congrArg some hb156) ?_
      obtain ⟨t162, ht163, H⟩ := bindS H
      refine W_callF fn11 (room_Steps.con k M (⟨(imax a0.Tasks a1.Tasks), (imax a0.Active a1.Active), (imax a0.Keys a1.Keys), (imax a0.Depth a1.Depth), (imax a0.TS a1.TS), (imax a0.KeyLen a1.KeyLen), (imax a0.ValLen a1.ValLen), a0.Fan⟩ : api_Config) a2 t162  ht163) S rfl rfl (by rintro _ _ _ ⟨_, rfl⟩; exact flat_nil) ?_
      rintro _ w164 _ Γ' E' S ⟨rfl, rfl⟩
      replace E := E.trans E'
      clear E'
      refine Wl_nil (on_n ⟨.inr ⟨M, Hp.le_refl M, (S.pick [0, 1] (by decide))⟩, ?_⟩)
      have D58 : ∃ Mx, Hp.le M Mx ∧ St _ Mx F [_, _] := ⟨_, Hp.le_refl _, S.pick [0, 1] (by decide)⟩
      refine Wa_takeY (i := 15) rfl (by kernel_rfl) rfl rfl (.bool (decide (t159 ≤ t162))) rfl (congrArg some hb156) (fun w' h' => x_ibin rfl rfl rfl rfl) D58 (Wa_take (i := 16) rfl (by kernel_rfl) rfl rfl (.bool (decide (t159 ≤ t162))) rfl (fun w' h' => x_pick (k := true) (congrArg Value.bool hb156) rfl) D58 ?_)
      exact hrest _ _ ⟨(decide (t159 ≤ t162)), Option.some.inj H, ⟨rfl, rfl, rfl, trivial⟩, E, S.pick [0, 1] (by decide)⟩
    · skip
      have D59 : ∃ Mx, Hp.le M Mx ∧ St _ Mx F [_, _] := ⟨_, Hp.le_refl _, S.pick [0, 1] (by decide)⟩
      refine Wa_takeN (i := 9) rfl (by kernel_rfl) rfl rfl rfl (skT hb156) D59 (Wa_takeN (i := 10) rfl (by kernel_rfl) rfl rfl rfl (skT hb156) D59 (Wa_takeN (i := 11) rfl (by kernel_rfl) rfl rfl rfl (skT hb156) D59 (Wa_takeN (i := 12) rfl (by kernel_rfl) rfl rfl rfl (skT hb156) D59 (Wa_takeN (i := 13) rfl (by kernel_rfl) rfl rfl rfl (skT hb156) D59 (Wa_takeN (i := 14) rfl (by kernel_rfl) rfl rfl rfl (skT hb156) D59 ?_)))))
      refine Wa_takeN (i := 15) rfl (by kernel_rfl) rfl rfl rfl (skT hb156) D59 (Wa_take (i := 16) rfl (by kernel_rfl) rfl rfl (.bool false) rfl (fun w' h' => x_pick (k := false) (congrArg Value.bool hb156) rfl) D59 ?_)
      exact hrest _ _ ⟨false, Option.some.inj H, ⟨rfl, rfl, rfl, trivial⟩, E, S.pick [0, 1] (by decide)⟩
  clear o158h
  rintro ρ w165 ⟨x157, rfl, hρ, E, S⟩
  rw [agree_eta hρ]
  clear hρ
  have H := o158H
  clear o158H
  refine Wa_take (i := 17) rfl (by kernel_rfl) rfl rfl (.bool x157) rfl (fun w' h' => x_move rfl) (⟨M, Hp.le_refl M, (S.pick [0, 1] (by decide))⟩) ?_
  obtain ⟨o174, o174h, o174H⟩ := bindS H
  clear H
  refine Wa_join (fun ρ w' => ∃ (x173 : Bool), (x173) = o174 ∧ Agree ρ [(102, .bool x173)] ∧ Ext w w' ∧ St w' M F [Blk b4 (.cells #[.int .i64 (imax a0.Tasks a1.Tasks), .int .i64 (imax a0.Active a1.Active), .int .i64 (imax a0.Keys a1.Keys), .int .i64 (imax a0.Depth a1.Depth), .int .i64 (imax a0.TS a1.TS), .int .i64 (imax a0.KeyLen a1.KeyLen), .int .i64 (imax a0.ValLen a1.ValLen), .int .i64 a0.Fan] 23 (0, 0)), B23 b1 a0]) 1 (Ls 25 [0, 1, 2, 3, 4, 5, 6, 7, 8, 9, 10, 12, 13, 11, 14, 15, 16, 17, 18, 20, 19, 21, 22, 23]) ?_ ?_
  rotate_left
  · intro hrest
    have H := o174h
    clear o174h o174H
    rcases iteS H with ⟨hb172, H⟩ | ⟨hb172, H⟩
    · skip
      have D61 : ∃ Mx, Hp.le M Mx ∧ St _ Mx F [_, _] := ⟨_, Hp.le_refl _, S.pick [0, 1] (by decide)⟩
      refine Wa_takeY (i := 18) rfl (by kernel_rfl) rfl rfl (.agg #[.int .i64 a0.Tasks, .int .i64 a0.Active, .int .i64 a0.Keys, .int .i64 a0.Depth, .int .i64 a0.TS, .int .i64 a0.KeyLen, .int .i64 a0.ValLen, .int .i64 a0.Fan]) rfl (congrArg some hb172) (fun w' h' => x_loadA (cls_blk h' 1 rfl) ty23 rfl (sub_of_extract rfl) rfl rfl) D61 (Wa_takeY (i := 20) rfl (by kernel_rfl) rfl rfl (.agg #[.int .i64 (imax a0.Tasks a1.Tasks), .int .i64 (imax a0.Active a1.Active), .int .i64 (imax a0.Keys a1.Keys), .int .i64 (imax a0.Depth a1.Depth), .int .i64 (imax a0.TS a1.TS), .int .i64 (imax a0.KeyLen a1.KeyLen), .int .i64 (imax a0.ValLen a1.ValLen), .int .i64 a0.Fan]) rfl (congrArg some hb172) (fun w' h' => x_loadA (cls_blk h' 0 rfl) ty23 rfl (sub_of_extract rfl) rfl rfl) D61 ?_)
      refine Wa_solo (i := 19) rfl (by kernel_rfl) ?_
      refine W_yes (congrArg some hb172) ?_
      obtain ⟨t175, ht176, H⟩ := bindS H
      refine W_callF fn12 (room_Rounds.con k M a0 t175  ht176) S rfl rfl (by rintro _ _ _ ⟨_, rfl⟩; exact flat_nil) ?_
      rintro _ w177 _ Γ' E' S ⟨rfl, rfl⟩
      replace E := E.trans E'
      clear E'
      refine Wl_nil (on_n ⟨.inr ⟨M, Hp.le_refl M, (S.pick [0, 1] (by decide))⟩, ?_⟩)
      refine Wa_solo (i := 21) rfl (by kernel_rfl) ?_
      refine W_yes (congrArg some hb172) ?_
      obtain ⟨t178, ht179, H⟩ := bindS H
      refine W_callF fn12 (room_Rounds.con k M (⟨(imax a0.Tasks a1.Tasks), (imax a0.Active a1.Active), (imax a0.Keys a1.Keys), (imax a0.Depth a1.Depth), (imax a0.TS a1.TS), (imax a0.KeyLen a1.KeyLen), (imax a0.ValLen a1.ValLen), a0.Fan⟩ : api_Config) t178  ht179) S rfl rfl (by rintro _ _ _ ⟨_, rfl⟩; exact flat_nil) ?_
      rintro _ w180 _ Γ' E' S ⟨rfl, rfl⟩
      replace E := E.trans E'
      clear E'
      refine Wl_nil (on_n ⟨.inr ⟨M, Hp.le_refl M, (S.pick [0, 1] (by decide))⟩, ?_⟩)
      have D62 : ∃ Mx, Hp.le M Mx ∧ St _ Mx F [_, _] := ⟨_, Hp.le_refl _, S.pick [0, 1] (by decide)⟩
      refine Wa_takeY (i := 22) rfl (by kernel_rfl) rfl rfl (.bool (decide (t175 ≤ t178))) rfl (congrArg some hb172) (fun w' h' => x_ibin rfl rfl rfl rfl) D62 (Wa_take (i := 23) rfl (by kernel_rfl) rfl rfl (.bool (decide (t175 ≤ t178))) rfl (fun w' h' => x_pick (k := true) (congrArg Value.bool hb172) rfl) D62 ?_)
      exact hrest _ _ ⟨(decide (t175 ≤ t178)), Option.some.inj H, ⟨rfl, trivial⟩, E, S.pick [0, 1] (by decide)⟩
    · skip
      have D63 : ∃ Mx, Hp.le M Mx ∧ St _ Mx F [_, _] := ⟨_, Hp.le_refl _, S.pick [0, 1] (by decide)⟩
      refine Wa_takeN (i := 18) rfl (by kernel_rfl) rfl rfl rfl (skT hb172) D63 (Wa_takeN (i := 19) rfl (by kernel_rfl) rfl rfl rfl (skT hb172) D63 (Wa_takeN (i := 20) rfl (by kernel_rfl) rfl rfl rfl (skT hb172) D63 (Wa_takeN (i := 21) rfl (by kernel_rfl) rfl rfl rfl (skT hb172) D63 (Wa_takeN (i := 22) rfl (by kernel_rfl) rfl rfl rfl (skT hb172) D63 (Wa_take (i := 23) rfl (by kernel_rfl) rfl rfl (.bool false) rfl (fun w' h' => x_pick (k := false) (congrArg Value.bool hb172) rfl) D63 ?_)))))
      exact hrest _ _ ⟨false, Option.some.inj H, ⟨rfl, trivial⟩, E, S.pick [0, 1] (by decide)⟩
  clear o174h
  rintro ρ w181 ⟨x173, rfl, hρ, E, S⟩
  rw [agree_eta hρ]
  clear hρ
  have H := o174H
  clear o174H
  refine Wa_take (i := 24) rfl (by kernel_rfl) rfl rfl (.bool x173) rfl (fun w' h' => x_assign rfl) (⟨M, Hp.le_refl M, (S.pick [0, 1] (by decide))⟩) ?_
  refine Wa_done (by kernel_rfl) ?_
  refine tn ?_
  refine Wp_ret ?_
  obtain rfl := Option.some.inj H
  exact ⟨_, _, _, fun w1 e1 => run_resR (vs := [.bool x173]) (FA.cons (rfl) (FA.nil)), HM, E, S.pick [] (by decide), ⟨rfl, rfl⟩⟩
end Go.Proofs.YtkknoimjgifhlaaDoor
