import Derived.Test.YtnfeinhialojnaaGt1
namespace Go.Proofs.Ytnfeinhialojnaa
open Go
set_option linter.unusedVariables false
set_option linter.unusedSimpArgs false
/-! ### ferryman/ferrymanlaw02.TextMay: function 10 -/
def ferrymanlaw02_TextMay (k : Nat) (a0 : api_Config) (a1 : Str) : Option (Bool) :=
  (Option.bind (ferrymanlaw02_long k ([a1] : List Str)) (fun t10 => (if t10 = true then (Option.bind (ferrymanlaw02_works k ) (fun t14 => some t14)) else (Option.bind (text_May k a0) (fun t83 => (Option.bind (ferrymanref02_May k a0) (fun t86 => (Option.bind (α := Bool) (if (t83 == t86) = true then (Option.bind (text_Key k a0 a1) (fun t141 => (Option.bind (ferrymanref02_Key k a0 a1) (fun t144 => some ((t141 == t144)))))) else some (false)) (fun x96 => (Option.bind (α := Bool) (if x96 = true then (Option.bind (text_Bound k a0 a1) (fun t135 => (Option.bind (ferrymanref02_Bound k a0 a1) (fun t138 => some ((t135 == t138)))))) else some (false)) (fun x106 => (Option.bind (α := Bool) (if x106 = true then (Option.bind (text_Value k a0 a1) (fun t129 => (Option.bind (ferrymanref02_Value k a0 a1) (fun t132 => some ((t129 == t132)))))) else some (false)) (fun x116 => (Option.bind (α := Bool) (if x116 = true then (Option.bind (ferrymanlaw02_works k ) (fun t126 => some (t126))) else some (false)) (fun x123 => some x123)))))))))))))))
set_option maxHeartbeats 2000000 in
theorem ferrymanlaw02_TextMay.mono {k : Nat} {a0 : api_Config} {a1 : Str} : OLe (ferrymanlaw02_TextMay k a0 a1) (ferrymanlaw02_TextMay (k + 1) a0 a1) := by
  unfold ferrymanlaw02_TextMay
  repeat' (first | with_reducible exact OLe.none | with_reducible exact OLe.some | with_reducible refine OLe.ite ?_ ?_ | with_reducible refine OLe.bind ?_ (fun _ => ?_) | with_reducible exact ferrymanlaw02_long.mono | with_reducible exact ferrymanlaw02_works.mono | with_reducible exact ferrymanref02_Bound.mono | with_reducible exact ferrymanref02_Key.mono | with_reducible exact ferrymanref02_May.mono | with_reducible exact ferrymanref02_Value.mono | with_reducible exact text_Bound.mono | with_reducible exact text_Key.mono | with_reducible exact text_May.mono | with_reducible exact text_Value.mono | refine OLe.bind ?_ (fun _ => ?_) | refine OLe.ite ?_ ?_ | refine OLe.elim (fun _ => ?_) (fun _ => ?_) | split)
set_option maxHeartbeats 1000000 in
set_option maxRecDepth 100000 in
theorem ferrymanlaw02_TextMay.con (k : Nat) (M : Hp) (a0 : api_Config) (a1 : Str) (r : Bool)  (h : ferrymanlaw02_TextMay k a0 a1 = some r) : Con Try.prog 10 #[.agg #[.int .i64 a0.Tasks, .int .i64 a0.Active, .int .i64 a0.Keys, .int .i64 a0.Depth, .int .i64 a0.TS, .int .i64 a0.KeyLen, .int .i64 a0.ValLen, .int .i64 a0.Fan], .string (bs a1)] M [] (fun v M' Γ' => v = .bool r ∧ Γ' = []) := by
  refine con_of_wp Try.func10 rfl Try.ntmps10 Try.results10 rfl ?_
  intro w F rn S hrn
  have E := Ext.refl w
  have HM := Hp.le_refl M
  have H := h
  unfold ferrymanlaw02_TextMay at H
  refine Wp_seq ?_
  refine Wp_region_lit ?_
  refine W_box S #[.int .i64 a0.Tasks, .int .i64 a0.Active, .int .i64 a0.Keys, .int .i64 a0.Depth, .int .i64 a0.TS, .int .i64 a0.KeyLen, .int .i64 a0.ValLen, .int .i64 a0.Fan] rfl rfl rfl ?_
  intro b1 w2 E' S
  replace E := E.trans E'
  clear E'
  refine W_v (.bool false) (x_assign rfl) rfl ?_
  refine Wl_nil ?_
  refine tn ?_
  refine Wp_seq ?_
  refine Wp_seq ?_
  refine Wp_region_lit ?_
  refine W_v (.string (bs a1)) (x_move rfl) rfl ?_
  refine W_bslice S #[.string (bs a1)] Try.underlying40 ty9 rfl rfl #[.string (bs ([] : Str))] (by kernel_rfl) (by kernel_rfl) rfl ?_
  intro b4 w5 E' S
  replace E := E.trans E'
  clear E'
  replace S := S.blk_row (r := rStr) (l := ([a1] : List Str)) 0 rfl 1 (Nat.le_refl 1) rfl (Cells.cons (vs := [.string (bs a1)]) (rfl) Cells.nil)
  obtain ⟨M7, hM8, hf9, S⟩ := S.row_freeze 0 rfl
  replace HM := Hp.le_trans HM hM8
  obtain ⟨t10, ht11, H⟩ := bindS H
  refine W_callF fn11 (ferrymanlaw02_long.con k M7 (some ⟨b4, 0, none⟩) 1 ([a1] : List Str) t10 hf9 ht11) S rfl rfl (by rintro _ _ _ ⟨_, rfl⟩; exact flat_nil) ?_
  rintro _ w12 _ Γ' E' S ⟨rfl, rfl⟩
  replace E := E.trans E'
  clear E'
  refine Wl_nil ?_
  refine tn ?_
  rcases iteS H with ⟨hb13, H⟩ | ⟨hb13, H⟩
  · refine Wp_cond_true (congrArg Value.bool hb13) ?_
    refine Wp_seq ?_
    refine Wp_region_lit ?_
    obtain ⟨t14, ht15, H⟩ := bindS H
    refine W_callF fn12 (ferrymanlaw02_works.con k M7  t14  ht15) S rfl rfl (by rintro _ _ _ ⟨_, rfl⟩; exact flat_nil) ?_
    rintro _ w16 _ Γ' E' S ⟨rfl, rfl⟩
    replace E := E.trans E'
    clear E'
    refine W_v (.bool t14) (x_assign rfl) rfl ?_
    refine Wl_nil ?_
    refine tn ?_
    refine Wp_ret ?_
    refine tr (?_)
    obtain rfl := Option.some.inj H
    exact ⟨_, _, _, fun w1 e1 => run_resR (vs := [.bool t14]) (FA.cons (rfl) (FA.nil)), HM, E, S.pick [] (by decide), ⟨rfl, rfl⟩⟩
  · refine Wp_cond_false (congrArg Value.bool hb13) ?_
    refine Wp_skip ?_
    refine tn ?_
    refine Wp_seq ?_
    refine Wp_region_any (S := fun w' => ∃ Mx, M7.le Mx ∧ St w' Mx F [Blk b1 (.cells #[.int .i64 a0.Tasks, .int .i64 a0.Active, .int .i64 a0.Keys, .int .i64 a0.Depth, .int .i64 a0.TS, .int .i64 a0.KeyLen, .int .i64 a0.ValLen, .int .i64 a0.Fan] 37 (0, 0))]) mixed ?_
    intro w81 hw82 E'
    replace S := S.heap hw82
    replace E := E.trans E'
    clear E'
    refine Wa_take (i := 0) rfl (by kernel_rfl) rfl rfl (.agg #[.int .i64 a0.Tasks, .int .i64 a0.Active, .int .i64 a0.Keys, .int .i64 a0.Depth, .int .i64 a0.TS, .int .i64 a0.KeyLen, .int .i64 a0.ValLen, .int .i64 a0.Fan]) rfl (fun w' h' => x_loadA (cls_blk h' 0 rfl) ty37 rfl (sub_of_extract rfl) rfl rfl) (⟨M7, Hp.le_refl M7, S.pick [0] (by decide)⟩) ?_
    refine Wa_take (i := 2) rfl (by kernel_rfl) rfl rfl (.agg #[.int .i64 a0.Tasks, .int .i64 a0.Active, .int .i64 a0.Keys, .int .i64 a0.Depth, .int .i64 a0.TS, .int .i64 a0.KeyLen, .int .i64 a0.ValLen, .int .i64 a0.Fan]) rfl (fun w' h' => x_loadA (cls_blk h' 0 rfl) ty37 rfl (sub_of_extract rfl) rfl rfl) (⟨M7, Hp.le_refl M7, S.pick [0] (by decide)⟩) ?_
    refine Wa_solo (i := 1) rfl (by kernel_rfl) ?_
    obtain ⟨t83, ht84, H⟩ := bindS H
    refine W_callF fn24 (text_May.con k M7 a0 t83  ht84) S rfl rfl (by rintro _ _ _ ⟨_, rfl⟩; exact flat_nil) ?_
    rintro _ w85 _ Γ' E' S ⟨rfl, rfl⟩
    replace E := E.trans E'
    clear E'
    refine Wl_nil (on_n ⟨⟨M7, Hp.le_refl M7, S.pick [0] (by decide)⟩, ?_⟩)
    refine Wa_solo (i := 3) rfl (by kernel_rfl) ?_
    obtain ⟨t86, ht87, H⟩ := bindS H
    refine W_callF fn28 (ferrymanref02_May.con k M7 a0 t86  ht87) S rfl rfl (by rintro _ _ _ ⟨_, rfl⟩; exact flat_nil) ?_
    rintro _ w88 _ Γ' E' S ⟨rfl, rfl⟩
    replace E := E.trans E'
    clear E'
    refine Wl_nil (on_n ⟨⟨M7, Hp.le_refl M7, S.pick [0] (by decide)⟩, ?_⟩)
    refine Wa_take (i := 4) rfl (by kernel_rfl) rfl rfl (.bool (t83 == t86)) rfl (fun w' h' => x_beq Try.underlying4 rfl rfl) (⟨M7, Hp.le_refl M7, S.pick [0] (by decide)⟩) ?_
    refine Wa_take (i := 5) rfl (by kernel_rfl) rfl rfl (.bool (t83 == t86)) rfl (fun w' h' => x_move rfl) (⟨M7, Hp.le_refl M7, S.pick [0] (by decide)⟩) ?_
    obtain ⟨o97, o97h, o97H⟩ := bindS H
    clear H
    refine Wa_join (fun ρ w' => ∃ (x96 : Bool), (x96) = o97 ∧ Agree ρ [(1, .string (bs a1)), (2, .pointer (some ⟨b1, 0, none⟩)), (4, .bool false), (22, .bool x96)] ∧ Ext w w' ∧ St w' M7 F [Blk b1 (.cells #[.int .i64 a0.Tasks, .int .i64 a0.Active, .int .i64 a0.Keys, .int .i64 a0.Depth, .int .i64 a0.TS, .int .i64 a0.KeyLen, .int .i64 a0.ValLen, .int .i64 a0.Fan] 37 (0, 0))]) 22 (Ls 36 [0, 2, 1, 3, 4, 5, 6, 7, 9, 10, 8, 11, 12, 13]) ?_ ?_
    · clear o97h
      rintro ρ w98 ⟨x96, rfl, hρ, E, S⟩
      rw [agree_eta hρ]
      clear hρ
      have H := o97H
      clear o97H
      refine Wa_take (i := 14) rfl (by kernel_rfl) rfl rfl (.bool x96) rfl (fun w' h' => x_move rfl) (⟨M7, Hp.le_refl M7, S.pick [0] (by decide)⟩) ?_
      obtain ⟨o107, o107h, o107H⟩ := bindS H
      clear H
      refine Wa_join (fun ρ w' => ∃ (x106 : Bool), (x106) = o107 ∧ Agree ρ [(1, .string (bs a1)), (2, .pointer (some ⟨b1, 0, none⟩)), (4, .bool false), (31, .bool x106)] ∧ Ext w w' ∧ St w' M7 F [Blk b1 (.cells #[.int .i64 a0.Tasks, .int .i64 a0.Active, .int .i64 a0.Keys, .int .i64 a0.Depth, .int .i64 a0.TS, .int .i64 a0.KeyLen, .int .i64 a0.ValLen, .int .i64 a0.Fan] 37 (0, 0))]) 13 (Ls 36 [0, 2, 1, 3, 4, 5, 6, 7, 9, 10, 8, 11, 12, 13, 14, 15, 16, 18, 19, 17, 20, 21, 22]) ?_ ?_
      · clear o107h
        rintro ρ w108 ⟨x106, rfl, hρ, E, S⟩
        rw [agree_eta hρ]
        clear hρ
        have H := o107H
        clear o107H
        refine Wa_take (i := 23) rfl (by kernel_rfl) rfl rfl (.bool x106) rfl (fun w' h' => x_move rfl) (⟨M7, Hp.le_refl M7, S.pick [0] (by decide)⟩) ?_
        obtain ⟨o117, o117h, o117H⟩ := bindS H
        clear H
        refine Wa_join (fun ρ w' => ∃ (x116 : Bool), (x116) = o117 ∧ Agree ρ [(4, .bool false), (40, .bool x116)] ∧ Ext w w' ∧ St w' M7 F [Blk b1 (.cells #[.int .i64 a0.Tasks, .int .i64 a0.Active, .int .i64 a0.Keys, .int .i64 a0.Depth, .int .i64 a0.TS, .int .i64 a0.KeyLen, .int .i64 a0.ValLen, .int .i64 a0.Fan] 37 (0, 0))]) 4 (Ls 36 [0, 2, 1, 3, 4, 5, 6, 7, 9, 10, 8, 11, 12, 13, 14, 15, 16, 18, 19, 17, 20, 21, 22, 23, 24, 25, 27, 28, 26, 29, 30, 31]) ?_ ?_
        · clear o117h
          rintro ρ w118 ⟨x116, rfl, hρ, E, S⟩
          rw [agree_eta hρ]
          clear hρ
          have H := o117H
          clear o117H
          refine Wa_take (i := 32) rfl (by kernel_rfl) rfl rfl (.bool x116) rfl (fun w' h' => x_move rfl) (⟨M7, Hp.le_refl M7, S.pick [0] (by decide)⟩) ?_
          obtain ⟨o124, o124h, o124H⟩ := bindS H
          clear H
          refine Wa_join (fun ρ w' => ∃ (x123 : Bool), (x123) = o124 ∧ Agree ρ [(4, .bool false), (43, .bool x123)] ∧ Ext w w' ∧ St w' M7 F [Blk b1 (.cells #[.int .i64 a0.Tasks, .int .i64 a0.Active, .int .i64 a0.Keys, .int .i64 a0.Depth, .int .i64 a0.TS, .int .i64 a0.KeyLen, .int .i64 a0.ValLen, .int .i64 a0.Fan] 37 (0, 0))]) 1 (Ls 36 [0, 2, 1, 3, 4, 5, 6, 7, 9, 10, 8, 11, 12, 13, 14, 15, 16, 18, 19, 17, 20, 21, 22, 23, 24, 25, 27, 28, 26, 29, 30, 31, 32, 33, 34]) ?_ ?_
          · clear o124h
            rintro ρ w125 ⟨x123, rfl, hρ, E, S⟩
            rw [agree_eta hρ]
            clear hρ
            have H := o124H
            clear o124H
            refine Wa_take (i := 35) rfl (by kernel_rfl) rfl rfl (.bool x123) rfl (fun w' h' => x_assign rfl) (⟨M7, Hp.le_refl M7, S.pick [0] (by decide)⟩) ?_
            refine Wa_done (by kernel_rfl) ?_
            refine tn ?_
            refine Wp_ret ?_
            obtain rfl := Option.some.inj H
            exact ⟨_, _, _, fun w1 e1 => run_resR (vs := [.bool x123]) (FA.cons (rfl) (FA.nil)), HM, E, S.pick [] (by decide), ⟨rfl, rfl⟩⟩
          · intro hrest
            have H := o124h
            clear o124h o124H
            rcases iteS H with ⟨hb122, H⟩ | ⟨hb122, H⟩
            · skip
              refine Wa_solo (i := 33) rfl (by kernel_rfl) ?_
              refine W_yes (congrArg some hb122) ?_
              obtain ⟨t126, ht127, H⟩ := bindS H
              refine W_callF fn12 (ferrymanlaw02_works.con k M7  t126  ht127) S rfl rfl (by rintro _ _ _ ⟨_, rfl⟩; exact flat_nil) ?_
              rintro _ w128 _ Γ' E' S ⟨rfl, rfl⟩
              replace E := E.trans E'
              clear E'
              refine Wl_nil (on_n ⟨⟨M7, Hp.le_refl M7, S.pick [0] (by decide)⟩, ?_⟩)
              refine Wa_take (i := 34) rfl (by kernel_rfl) rfl rfl (.bool t126) rfl (fun w' h' => x_pick (k := true) (congrArg Value.bool hb122) rfl) (⟨M7, Hp.le_refl M7, S.pick [0] (by decide)⟩) ?_
              exact hrest _ _ ⟨t126, Option.some.inj H, ⟨rfl, rfl, trivial⟩, E, S.pick [0] (by decide)⟩
            · skip
              refine Wa_takeN (i := 33) rfl (by kernel_rfl) rfl rfl rfl (skT hb122) (⟨M7, Hp.le_refl M7, S.pick [0] (by decide)⟩) ?_
              refine Wa_take (i := 34) rfl (by kernel_rfl) rfl rfl (.bool false) rfl (fun w' h' => x_pick (k := false) (congrArg Value.bool hb122) rfl) (⟨M7, Hp.le_refl M7, S.pick [0] (by decide)⟩) ?_
              exact hrest _ _ ⟨false, Option.some.inj H, ⟨rfl, rfl, trivial⟩, E, S.pick [0] (by decide)⟩
        · intro hrest
          have H := o117h
          clear o117h o117H
          rcases iteS H with ⟨hb115, H⟩ | ⟨hb115, H⟩
          · skip
            refine Wa_takeY (i := 24) rfl (by kernel_rfl) rfl rfl (.agg #[.int .i64 a0.Tasks, .int .i64 a0.Active, .int .i64 a0.Keys, .int .i64 a0.Depth, .int .i64 a0.TS, .int .i64 a0.KeyLen, .int .i64 a0.ValLen, .int .i64 a0.Fan]) rfl (congrArg some hb115) (fun w' h' => x_loadA (cls_blk h' 0 rfl) ty37 rfl (sub_of_extract rfl) rfl rfl) (⟨M7, Hp.le_refl M7, S.pick [0] (by decide)⟩) ?_
            refine Wa_takeY (i := 25) rfl (by kernel_rfl) rfl rfl (.string (bs a1)) rfl (congrArg some hb115) (fun w' h' => x_move rfl) (⟨M7, Hp.le_refl M7, S.pick [0] (by decide)⟩) ?_
            refine Wa_takeY (i := 27) rfl (by kernel_rfl) rfl rfl (.agg #[.int .i64 a0.Tasks, .int .i64 a0.Active, .int .i64 a0.Keys, .int .i64 a0.Depth, .int .i64 a0.TS, .int .i64 a0.KeyLen, .int .i64 a0.ValLen, .int .i64 a0.Fan]) rfl (congrArg some hb115) (fun w' h' => x_loadA (cls_blk h' 0 rfl) ty37 rfl (sub_of_extract rfl) rfl rfl) (⟨M7, Hp.le_refl M7, S.pick [0] (by decide)⟩) ?_
            refine Wa_takeY (i := 28) rfl (by kernel_rfl) rfl rfl (.string (bs a1)) rfl (congrArg some hb115) (fun w' h' => x_move rfl) (⟨M7, Hp.le_refl M7, S.pick [0] (by decide)⟩) ?_
            refine Wa_solo (i := 26) rfl (by kernel_rfl) ?_
            refine W_yes (congrArg some hb115) ?_
            obtain ⟨t129, ht130, H⟩ := bindS H
            refine W_callF fn27 (text_Value.con k M7 a0 a1 t129  ht130) S rfl rfl (by rintro _ _ _ ⟨_, rfl⟩; exact flat_nil) ?_
            rintro _ w131 _ Γ' E' S ⟨rfl, rfl⟩
            replace E := E.trans E'
            clear E'
            refine Wl_nil (on_n ⟨⟨M7, Hp.le_refl M7, S.pick [0] (by decide)⟩, ?_⟩)
            refine Wa_solo (i := 29) rfl (by kernel_rfl) ?_
            refine W_yes (congrArg some hb115) ?_
            obtain ⟨t132, ht133, H⟩ := bindS H
            refine W_callF fn31 (ferrymanref02_Value.con k M7 a0 a1 t132  ht133) S rfl rfl (by rintro _ _ _ ⟨_, rfl⟩; exact flat_nil) ?_
            rintro _ w134 _ Γ' E' S ⟨rfl, rfl⟩
            replace E := E.trans E'
            clear E'
            refine Wl_nil (on_n ⟨⟨M7, Hp.le_refl M7, S.pick [0] (by decide)⟩, ?_⟩)
            refine Wa_takeY (i := 30) rfl (by kernel_rfl) rfl rfl (.bool (t129 == t132)) rfl (congrArg some hb115) (fun w' h' => x_beq Try.underlying4 rfl rfl) (⟨M7, Hp.le_refl M7, S.pick [0] (by decide)⟩) ?_
            refine Wa_take (i := 31) rfl (by kernel_rfl) rfl rfl (.bool (t129 == t132)) rfl (fun w' h' => x_pick (k := true) (congrArg Value.bool hb115) rfl) (⟨M7, Hp.le_refl M7, S.pick [0] (by decide)⟩) ?_
            exact hrest _ _ ⟨(t129 == t132), Option.some.inj H, ⟨rfl, rfl, trivial⟩, E, S.pick [0] (by decide)⟩
          · skip
            refine Wa_takeN (i := 24) rfl (by kernel_rfl) rfl rfl rfl (skT hb115) (⟨M7, Hp.le_refl M7, S.pick [0] (by decide)⟩) ?_
            refine Wa_takeN (i := 25) rfl (by kernel_rfl) rfl rfl rfl (skT hb115) (⟨M7, Hp.le_refl M7, S.pick [0] (by decide)⟩) ?_
            refine Wa_takeN (i := 26) rfl (by kernel_rfl) rfl rfl rfl (skT hb115) (⟨M7, Hp.le_refl M7, S.pick [0] (by decide)⟩) ?_
            refine Wa_takeN (i := 27) rfl (by kernel_rfl) rfl rfl rfl (skT hb115) (⟨M7, Hp.le_refl M7, S.pick [0] (by decide)⟩) ?_
            refine Wa_takeN (i := 28) rfl (by kernel_rfl) rfl rfl rfl (skT hb115) (⟨M7, Hp.le_refl M7, S.pick [0] (by decide)⟩) ?_
            refine Wa_takeN (i := 29) rfl (by kernel_rfl) rfl rfl rfl (skT hb115) (⟨M7, Hp.le_refl M7, S.pick [0] (by decide)⟩) ?_
            refine Wa_takeN (i := 30) rfl (by kernel_rfl) rfl rfl rfl (skT hb115) (⟨M7, Hp.le_refl M7, S.pick [0] (by decide)⟩) ?_
            refine Wa_take (i := 31) rfl (by kernel_rfl) rfl rfl (.bool false) rfl (fun w' h' => x_pick (k := false) (congrArg Value.bool hb115) rfl) (⟨M7, Hp.le_refl M7, S.pick [0] (by decide)⟩) ?_
            exact hrest _ _ ⟨false, Option.some.inj H, ⟨rfl, rfl, trivial⟩, E, S.pick [0] (by decide)⟩
      · intro hrest
        have H := o107h
        clear o107h o107H
        rcases iteS H with ⟨hb105, H⟩ | ⟨hb105, H⟩
        · skip
          refine Wa_takeY (i := 15) rfl (by kernel_rfl) rfl rfl (.agg #[.int .i64 a0.Tasks, .int .i64 a0.Active, .int .i64 a0.Keys, .int .i64 a0.Depth, .int .i64 a0.TS, .int .i64 a0.KeyLen, .int .i64 a0.ValLen, .int .i64 a0.Fan]) rfl (congrArg some hb105) (fun w' h' => x_loadA (cls_blk h' 0 rfl) ty37 rfl (sub_of_extract rfl) rfl rfl) (⟨M7, Hp.le_refl M7, S.pick [0] (by decide)⟩) ?_
          refine Wa_takeY (i := 16) rfl (by kernel_rfl) rfl rfl (.string (bs a1)) rfl (congrArg some hb105) (fun w' h' => x_move rfl) (⟨M7, Hp.le_refl M7, S.pick [0] (by decide)⟩) ?_
          refine Wa_takeY (i := 18) rfl (by kernel_rfl) rfl rfl (.agg #[.int .i64 a0.Tasks, .int .i64 a0.Active, .int .i64 a0.Keys, .int .i64 a0.Depth, .int .i64 a0.TS, .int .i64 a0.KeyLen, .int .i64 a0.ValLen, .int .i64 a0.Fan]) rfl (congrArg some hb105) (fun w' h' => x_loadA (cls_blk h' 0 rfl) ty37 rfl (sub_of_extract rfl) rfl rfl) (⟨M7, Hp.le_refl M7, S.pick [0] (by decide)⟩) ?_
          refine Wa_takeY (i := 19) rfl (by kernel_rfl) rfl rfl (.string (bs a1)) rfl (congrArg some hb105) (fun w' h' => x_move rfl) (⟨M7, Hp.le_refl M7, S.pick [0] (by decide)⟩) ?_
          refine Wa_solo (i := 17) rfl (by kernel_rfl) ?_
          refine W_yes (congrArg some hb105) ?_
          obtain ⟨t135, ht136, H⟩ := bindS H
          refine W_callF fn26 (text_Bound.con k M7 a0 a1 t135  ht136) S rfl rfl (by rintro _ _ _ ⟨_, rfl⟩; exact flat_nil) ?_
          rintro _ w137 _ Γ' E' S ⟨rfl, rfl⟩
          replace E := E.trans E'
          clear E'
          refine Wl_nil (on_n ⟨⟨M7, Hp.le_refl M7, S.pick [0] (by decide)⟩, ?_⟩)
          refine Wa_solo (i := 20) rfl (by kernel_rfl) ?_
          refine W_yes (congrArg some hb105) ?_
          obtain ⟨t138, ht139, H⟩ := bindS H
          refine W_callF fn30 (ferrymanref02_Bound.con k M7 a0 a1 t138  ht139) S rfl rfl (by rintro _ _ _ ⟨_, rfl⟩; exact flat_nil) ?_
          rintro _ w140 _ Γ' E' S ⟨rfl, rfl⟩
          replace E := E.trans E'
          clear E'
          refine Wl_nil (on_n ⟨⟨M7, Hp.le_refl M7, S.pick [0] (by decide)⟩, ?_⟩)
          refine Wa_takeY (i := 21) rfl (by kernel_rfl) rfl rfl (.bool (t135 == t138)) rfl (congrArg some hb105) (fun w' h' => x_beq Try.underlying4 rfl rfl) (⟨M7, Hp.le_refl M7, S.pick [0] (by decide)⟩) ?_
          refine Wa_take (i := 22) rfl (by kernel_rfl) rfl rfl (.bool (t135 == t138)) rfl (fun w' h' => x_pick (k := true) (congrArg Value.bool hb105) rfl) (⟨M7, Hp.le_refl M7, S.pick [0] (by decide)⟩) ?_
          exact hrest _ _ ⟨(t135 == t138), Option.some.inj H, ⟨rfl, rfl, rfl, rfl, trivial⟩, E, S.pick [0] (by decide)⟩
        · skip
          refine Wa_takeN (i := 15) rfl (by kernel_rfl) rfl rfl rfl (skT hb105) (⟨M7, Hp.le_refl M7, S.pick [0] (by decide)⟩) ?_
          refine Wa_takeN (i := 16) rfl (by kernel_rfl) rfl rfl rfl (skT hb105) (⟨M7, Hp.le_refl M7, S.pick [0] (by decide)⟩) ?_
          refine Wa_takeN (i := 17) rfl (by kernel_rfl) rfl rfl rfl (skT hb105) (⟨M7, Hp.le_refl M7, S.pick [0] (by decide)⟩) ?_
          refine Wa_takeN (i := 18) rfl (by kernel_rfl) rfl rfl rfl (skT hb105) (⟨M7, Hp.le_refl M7, S.pick [0] (by decide)⟩) ?_
          refine Wa_takeN (i := 19) rfl (by kernel_rfl) rfl rfl rfl (skT hb105) (⟨M7, Hp.le_refl M7, S.pick [0] (by decide)⟩) ?_
          refine Wa_takeN (i := 20) rfl (by kernel_rfl) rfl rfl rfl (skT hb105) (⟨M7, Hp.le_refl M7, S.pick [0] (by decide)⟩) ?_
          refine Wa_takeN (i := 21) rfl (by kernel_rfl) rfl rfl rfl (skT hb105) (⟨M7, Hp.le_refl M7, S.pick [0] (by decide)⟩) ?_
          refine Wa_take (i := 22) rfl (by kernel_rfl) rfl rfl (.bool false) rfl (fun w' h' => x_pick (k := false) (congrArg Value.bool hb105) rfl) (⟨M7, Hp.le_refl M7, S.pick [0] (by decide)⟩) ?_
          exact hrest _ _ ⟨false, Option.some.inj H, ⟨rfl, rfl, rfl, rfl, trivial⟩, E, S.pick [0] (by decide)⟩
    · intro hrest
      have H := o97h
      clear o97h o97H
      rcases iteS H with ⟨hb95, H⟩ | ⟨hb95, H⟩
      · skip
        refine Wa_takeY (i := 6) rfl (by kernel_rfl) rfl rfl (.agg #[.int .i64 a0.Tasks, .int .i64 a0.Active, .int .i64 a0.Keys, .int .i64 a0.Depth, .int .i64 a0.TS, .int .i64 a0.KeyLen, .int .i64 a0.ValLen, .int .i64 a0.Fan]) rfl (congrArg some hb95) (fun w' h' => x_loadA (cls_blk h' 0 rfl) ty37 rfl (sub_of_extract rfl) rfl rfl) (⟨M7, Hp.le_refl M7, S.pick [0] (by decide)⟩) ?_
        refine Wa_takeY (i := 7) rfl (by kernel_rfl) rfl rfl (.string (bs a1)) rfl (congrArg some hb95) (fun w' h' => x_move rfl) (⟨M7, Hp.le_refl M7, S.pick [0] (by decide)⟩) ?_
        refine Wa_takeY (i := 9) rfl (by kernel_rfl) rfl rfl (.agg #[.int .i64 a0.Tasks, .int .i64 a0.Active, .int .i64 a0.Keys, .int .i64 a0.Depth, .int .i64 a0.TS, .int .i64 a0.KeyLen, .int .i64 a0.ValLen, .int .i64 a0.Fan]) rfl (congrArg some hb95) (fun w' h' => x_loadA (cls_blk h' 0 rfl) ty37 rfl (sub_of_extract rfl) rfl rfl) (⟨M7, Hp.le_refl M7, S.pick [0] (by decide)⟩) ?_
        refine Wa_takeY (i := 10) rfl (by kernel_rfl) rfl rfl (.string (bs a1)) rfl (congrArg some hb95) (fun w' h' => x_move rfl) (⟨M7, Hp.le_refl M7, S.pick [0] (by decide)⟩) ?_
        refine Wa_solo (i := 8) rfl (by kernel_rfl) ?_
        refine W_yes (congrArg some hb95) ?_
        obtain ⟨t141, ht142, H⟩ := bindS H
        refine W_callF fn25 (text_Key.con k M7 a0 a1 t141  ht142) S rfl rfl (by rintro _ _ _ ⟨_, rfl⟩; exact flat_nil) ?_
        rintro _ w143 _ Γ' E' S ⟨rfl, rfl⟩
        replace E := E.trans E'
        clear E'
        refine Wl_nil (on_n ⟨⟨M7, Hp.le_refl M7, S.pick [0] (by decide)⟩, ?_⟩)
        refine Wa_solo (i := 11) rfl (by kernel_rfl) ?_
        refine W_yes (congrArg some hb95) ?_
        obtain ⟨t144, ht145, H⟩ := bindS H
        refine W_callF fn29 (ferrymanref02_Key.con k M7 a0 a1 t144  ht145) S rfl rfl (by rintro _ _ _ ⟨_, rfl⟩; exact flat_nil) ?_
        rintro _ w146 _ Γ' E' S ⟨rfl, rfl⟩
        replace E := E.trans E'
        clear E'
        refine Wl_nil (on_n ⟨⟨M7, Hp.le_refl M7, S.pick [0] (by decide)⟩, ?_⟩)
        refine Wa_takeY (i := 12) rfl (by kernel_rfl) rfl rfl (.bool (t141 == t144)) rfl (congrArg some hb95) (fun w' h' => x_beq Try.underlying4 rfl rfl) (⟨M7, Hp.le_refl M7, S.pick [0] (by decide)⟩) ?_
        refine Wa_take (i := 13) rfl (by kernel_rfl) rfl rfl (.bool (t141 == t144)) rfl (fun w' h' => x_pick (k := true) (congrArg Value.bool hb95) rfl) (⟨M7, Hp.le_refl M7, S.pick [0] (by decide)⟩) ?_
        exact hrest _ _ ⟨(t141 == t144), Option.some.inj H, ⟨rfl, rfl, rfl, rfl, trivial⟩, E, S.pick [0] (by decide)⟩
      · skip
        refine Wa_takeN (i := 6) rfl (by kernel_rfl) rfl rfl rfl (skT hb95) (⟨M7, Hp.le_refl M7, S.pick [0] (by decide)⟩) ?_
        refine Wa_takeN (i := 7) rfl (by kernel_rfl) rfl rfl rfl (skT hb95) (⟨M7, Hp.le_refl M7, S.pick [0] (by decide)⟩) ?_
        refine Wa_takeN (i := 8) rfl (by kernel_rfl) rfl rfl rfl (skT hb95) (⟨M7, Hp.le_refl M7, S.pick [0] (by decide)⟩) ?_
        refine Wa_takeN (i := 9) rfl (by kernel_rfl) rfl rfl rfl (skT hb95) (⟨M7, Hp.le_refl M7, S.pick [0] (by decide)⟩) ?_
        refine Wa_takeN (i := 10) rfl (by kernel_rfl) rfl rfl rfl (skT hb95) (⟨M7, Hp.le_refl M7, S.pick [0] (by decide)⟩) ?_
        refine Wa_takeN (i := 11) rfl (by kernel_rfl) rfl rfl rfl (skT hb95) (⟨M7, Hp.le_refl M7, S.pick [0] (by decide)⟩) ?_
        refine Wa_takeN (i := 12) rfl (by kernel_rfl) rfl rfl rfl (skT hb95) (⟨M7, Hp.le_refl M7, S.pick [0] (by decide)⟩) ?_
        refine Wa_take (i := 13) rfl (by kernel_rfl) rfl rfl (.bool false) rfl (fun w' h' => x_pick (k := false) (congrArg Value.bool hb95) rfl) (⟨M7, Hp.le_refl M7, S.pick [0] (by decide)⟩) ?_
        exact hrest _ _ ⟨false, Option.some.inj H, ⟨rfl, rfl, rfl, rfl, trivial⟩, E, S.pick [0] (by decide)⟩
end Go.Proofs.Ytnfeinhialojnaa
