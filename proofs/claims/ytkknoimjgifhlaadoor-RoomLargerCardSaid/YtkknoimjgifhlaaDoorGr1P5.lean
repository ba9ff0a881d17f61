import Derived.Test.YtkknoimjgifhlaaDoorGr1B
import Derived.Test.YtkknoimjgifhlaaDoorGr1P0
import Derived.Test.YtkknoimjgifhlaaDoorGr1P4
namespace Go.Proofs.YtkknoimjgifhlaaDoor
open Go
set_option linter.unusedVariables false
set_option linter.unusedSimpArgs false
/-! ### ferryman/ferrymanlaw30.works: function 10 -/
def ferrymanlaw30_works (k : Nat)  : Option (Bool) :=
  (Option.bind (ferrymanlaw30_small k ) (fun t1 => (Option.bind (α := List api_Call) (some ([(⟨(1 : Int), (0 : Int), ([] : Str), ([] : Str), ([] : Str), (0 : Int), (0 : Int)⟩ : api_Call), (⟨(3 : Int), (1 : Int), ([97] : Str), ([] : Str), ([] : Str), (0 : Int), (0 : Int)⟩ : api_Call)] : List api_Call)) (fun x11 => (Option.bind (room_Bound k t1) (fun t19 => (Option.bind (ferrymanlaw30_run k ([x11] : List (List api_Call)) (2 : Int)) (fun t25 => (Option.bind (α := Bool) (if ((t19.1 == (5 : Int)) && (t19.2 == (3 : Int))) = true then (Option.bind (room_Steps k t1 (1 : Int)) (fun t222 => some ((t222 == (3 : Int))))) else some (false)) (fun x220 => (Option.bind (α := Bool) (if x220 = true then (Option.bind (room_Steps k t1 (2 : Int)) (fun t232 => some ((t232 == (93 : Int))))) else some (false)) (fun x230 => (Option.bind (α := Bool) (if x230 = true then (Option.bind (room_Steps k t1 (6 : Int)) (fun t242 => some ((t242 == (97 : Int))))) else some (false)) (fun x240 => (Option.bind (α := Bool) (if x240 = true then (Option.bind (room_Steps k t1 (5 : Int)) (fun t252 => some ((t252 == (215 : Int))))) else some (false)) (fun x250 => (Option.bind (α := Bool) (if x250 = true then (Option.bind (room_Rounds k t1) (fun t262 => some ((t262 == (215 : Int))))) else some (false)) (fun x260 => (Option.bind (α := Bool) (if x260 = true then (if 0 ≤ (5 : Int) ∧ (5 : Int) ≤ (t25.length : Int) then (Option.bind (ferrymanlaw30_is k t1 ([x11] : List (List api_Call)) (List.take (5 : Int).toNat t25) (3 : Int) (2 : Int)) (fun t282 => some (t282))) else none) else some (false)) (fun x275 => (Option.bind (α := Bool) (if x275 = true then (Option.bind (ferrymanlaw30_is k t1 ([x11] : List (List api_Call)) t25 (1 : Int) (1 : Int)) (fun t292 => some (t292))) else some (false)) (fun x290 => some x290))))))))))))))))))))))
set_option maxHeartbeats 2000000 in
theorem ferrymanlaw30_works.mono {k : Nat}  : OLe (ferrymanlaw30_works k ) (ferrymanlaw30_works (k + 1) ) := by
  unfold ferrymanlaw30_works
  repeat' (first | with_reducible exact OLe.none | with_reducible exact OLe.some | with_reducible refine OLe.ite ?_ ?_ | with_reducible refine OLe.bind ?_ (fun _ => ?_) | with_reducible exact ferrymanlaw30_is.mono | with_reducible exact ferrymanlaw30_run.mono | with_reducible exact ferrymanlaw30_small.mono | with_reducible exact room_Bound.mono | with_reducible exact room_Rounds.mono | with_reducible exact room_Steps.mono | refine OLe.bind ?_ (fun _ => ?_) | refine OLe.ite ?_ ?_ | refine OLe.elim (fun _ => ?_) (fun _ => ?_) | split)
set_option maxHeartbeats 1000000 in
set_option maxRecDepth 100000 in
theorem ferrymanlaw30_works.con (k : Nat) (M : Hp)  (r : Bool)  (hg0 : ∃ gt fr, M 0 = some (.cells #[.nilFunc, .func (.func 92) #[] #[], .func (.func 93) #[] #[], .func (.func 94) #[] #[], .func (.func 95) #[] #[], .func (.func 96) #[] #[], .func (.func 97) #[] #[], .func (.func 98) #[] #[], .func (.func 99) #[] #[], .func (.func 100) #[] #[]] gt fr)) (hg1 : ∃ gt fr, M 1 = some (.cells #[.nilFunc, .func (.func 114) #[] #[], .func (.func 116) #[] #[], .func (.func 118) #[] #[]] gt fr)) (h : ferrymanlaw30_works k  = some r) : Con Tryd.prog 10 #[] M [] (fun v M' Γ' => v = .bool r ∧ Γ' = []) := by
  refine con_of_wp Tryd.func10 rfl Tryd.ntmps10 Tryd.results10 rfl ?_
  intro w F rn S hrn
  have E := Ext.refl w
  have HM := Hp.le_refl M
  have H := h
  unfold ferrymanlaw30_works at H
  refine Wp_seq (Wp_region_lit (W_v (.bool false) (x_assign rfl) rfl (Wl_nil (tn (Wp_seq ?_)))))
  refine Wp_region_lit ?_
  obtain ⟨t1, ht2, H⟩ := bindS H
  refine W_callF fn8 (ferrymanlaw30_small.con k M  t1  ht2) S rfl rfl (by rintro _ _ _ ⟨_, rfl⟩; exact flat_nil) ?_
  rintro _ w3 _ Γ' E' S ⟨rfl, rfl⟩
  replace E := E.trans E'
  clear E'
  refine W_alloc S #[.int .i64 0, .int .i64 0, .int .i64 0, .int .i64 0, .int .i64 0, .int .i64 0, .int .i64 0, .int .i64 0] ty23 rfl rfl ?_
  intro b4 w5 E' S
  replace E := E.trans E'
  clear E'
  refine W_store S 0 rfl ty23 rfl rfl [.int .i64 t1.Tasks, .int .i64 t1.Active, .int .i64 t1.Keys, .int .i64 t1.Depth, .int .i64 t1.TS, .int .i64 t1.KeyLen, .int .i64 t1.ValLen, .int .i64 t1.Fan] rfl rfl rfl #[.int .i64 t1.Tasks, .int .i64 t1.Active, .int .i64 t1.Keys, .int .i64 t1.Depth, .int .i64 t1.TS, .int .i64 t1.KeyLen, .int .i64 t1.ValLen, .int .i64 t1.Fan] (by as_aux_lemma => kernel_rfl) rfl ?_
  intro w7 E' S
  replace E := E.trans E'
  clear E'
  refine Wl_nil (tn (Wp_seq (Wp_region_lit (W_v (.agg #[.int .u8 1, .int .i64 0, .string (bs ([] : Str)), .string (bs ([] : Str)), .string (bs ([] : Str)), .int .i64 0, .int .u8 0]) (x_build2 (pl := [(0, 1), (1, 1), (2, 1), (3, 1), (4, 1), (5, 1), (6, 1)]) #[.int .u8 1, .int .i64 0, .string (bs ([] : Str)), .string (bs ([] : Str)), .string (bs ([] : Str)), .int .i64 0, .int .u8 0] Tryd.underlying42 ty42 (by as_aux_lemma => kernel_rfl) rfl (by as_aux_lemma => kernel_rfl)) rfl (W_v (.agg #[.int .u8 3, .int .i64 1, .string (bs ([97] : Str)), .string (bs ([] : Str)), .string (bs ([] : Str)), .int .i64 0, .int .u8 0]) (x_build2 (pl := [(0, 1), (1, 1), (2, 1), (3, 1), (4, 1), (5, 1), (6, 1)]) #[.int .u8 3, .int .i64 1, .string (bs ([97] : Str)), .string (bs ([] : Str)), .string (bs ([] : Str)), .int .i64 0, .int .u8 0] Tryd.underlying42 ty42 (by as_aux_lemma => kernel_rfl) rfl (by as_aux_lemma => kernel_rfl)) rfl ?_)))))
  refine W_bslice S #[.int .u8 1, .int .i64 0, .string (bs ([] : Str)), .string (bs ([] : Str)), .string (bs ([] : Str)), .int .i64 0, .int .u8 0, .int .u8 3, .int .i64 1, .string (bs ([97] : Str)), .string (bs ([] : Str)), .string (bs ([] : Str)), .int .i64 0, .int .u8 0] Tryd.underlying43 ty42 rfl rfl #[.int .u8 0, .int .i64 0, .string (bs ([] : Str)), .string (bs ([] : Str)), .string (bs ([] : Str)), .int .i64 0, .int .u8 0, .int .u8 0, .int .i64 0, .string (bs ([] : Str)), .string (bs ([] : Str)), .string (bs ([] : Str)), .int .i64 0, .int .u8 0] (by as_aux_lemma => kernel_rfl) (by as_aux_lemma => kernel_rfl) rfl ?_
  intro b8 w9 E' S
  replace E := E.trans E'
  clear E'
  replace S := S.blk_row (r := r_api_Call) (l := ([(⟨(1 : Int), (0 : Int), ([] : Str), ([] : Str), ([] : Str), (0 : Int), (0 : Int)⟩ : api_Call), (⟨(3 : Int), (1 : Int), ([97] : Str), ([] : Str), ([] : Str), (0 : Int), (0 : Int)⟩ : api_Call)] : List api_Call)) 0 rfl 2 (Nat.le_refl 2) rfl (Cells.cons (vs := [.int .u8 1, .int .i64 0, .string (bs ([] : Str)), .string (bs ([] : Str)), .string (bs ([] : Str)), .int .i64 0, .int .u8 0]) (rfl) (Cells.cons (vs := [.int .u8 3, .int .i64 1, .string (bs ([97] : Str)), .string (bs ([] : Str)), .string (bs ([] : Str)), .int .i64 0, .int .u8 0]) (rfl) Cells.nil))
  obtain ⟨x11, he12, H⟩ := bindS H
  replace he12 := Option.some.inj he12
  try unfold B23 at S
  rw [he12] at S
  refine Eq.mpr (congrArg (fun z => Wl _ _ _ _ _ _ (upd _ _ z) _) (show Value.slice (some ⟨b8, 0, none⟩) 2 2 = Value.slice (some ⟨b8, 0, none⟩) x11.length 2 from (by rw [← he12]; rfl))) ?_
  clear he12
  obtain ⟨M13, hM14, hf15, S⟩ := S.row_freeze 0 rfl
  replace hg0 : ∃ gt fr, _ := (let ⟨gt, fr, h8⟩ := hg0; ⟨gt, fr, hM14 _ _ h8⟩)
  replace hg1 : ∃ gt fr, _ := (let ⟨gt, fr, h8⟩ := hg1; ⟨gt, fr, hM14 _ _ h8⟩)
  replace HM := Hp.le_trans HM hM14
  refine W_bslice S #[.slice (some ⟨b8, 0, none⟩) x11.length 2] Tryd.underlying44 ty43 rfl rfl #[.slice none 0 0] (by as_aux_lemma => kernel_rfl) (by as_aux_lemma => kernel_rfl) rfl ?_
  intro b16 w17 E' S
  replace E := E.trans E'
  clear E'
  replace S := S.blk_row (r := (rSl r_api_Call)) (l := ([x11] : List (List api_Call))) 0 rfl 1 (Nat.le_refl 1) rfl (Cells.cons (vs := [.slice (some ⟨b8, 0, none⟩) x11.length 2]) (⟨_, hf15, rfl⟩) Cells.nil)
  refine W_v (.slice (some ⟨b16, 0, none⟩) ([x11] : List (List api_Call)).length 1) (x_assign rfl) rfl (Wl_nil (tn ?_))
  as_aux_lemma =>
  refine Wp_seq (Wp_region_lit (W_v (.agg #[.int .i64 t1.Tasks, .int .i64 t1.Active, .int .i64 t1.Keys, .int .i64 t1.Depth, .int .i64 t1.TS, .int .i64 t1.KeyLen, .int .i64 t1.ValLen, .int .i64 t1.Fan]) (x_loadA (S.blk 1 rfl) ty23 rfl (sub_of_extract rfl) rfl rfl) rfl ?_))
  obtain ⟨t19, ht20, H⟩ := bindS H
  refine W_callF fn9 (room_Bound.con k M13 t1 t19  ht20) S rfl rfl (by rintro _ _ _ ⟨_, rfl⟩; exact flat_nil) ?_
  rintro _ w21 _ Γ' E' S ⟨rfl, rfl⟩
  replace E := E.trans E'
  clear E'
  refine W_v (.tuple #[.int .i64 t19.1, .int .i64 t19.2]) (x_move rfl) rfl (W_v (.int .i64 t19.1) (x_extract rfl rfl) rfl (W_v (.int .i64 t19.2) (x_extract rfl rfl) rfl (W_v (.int .i64 t19.1) (x_assign rfl) rfl (W_v (.int .i64 t19.2) (x_assign rfl) rfl (Wl_nil ?_)))))
  refine tn (Wp_seq (Wp_region_lit (W_v (.slice (some ⟨b16, 0, none⟩) ([x11] : List (List api_Call)).length 1) (x_move rfl) rfl ?_)))
  obtain ⟨M22, hM23, hf24, S⟩ := S.row_freeze 0 rfl
  replace hg0 : ∃ gt fr, _ := (let ⟨gt, fr, h8⟩ := hg0; ⟨gt, fr, hM23 _ _ h8⟩)
  replace hg1 : ∃ gt fr, _ := (let ⟨gt, fr, h8⟩ := hg1; ⟨gt, fr, hM23 _ _ h8⟩)
  replace HM := Hp.le_trans HM hM23
  replace hf15 := SlR.mono hf15 hM23
  obtain ⟨t25, ht26, H⟩ := bindS H
  refine W_call fn15 (ferrymanlaw30_run.con k M22 (some ⟨b16, 0, none⟩) 1 ([x11] : List (List api_Call)) (2 : Int) t25 hf24 ht26) (Γ1 := []) (Γ2 := [_]) S rfl rfl ?_
  rintro _ w30 M31 Γ' hM32 E' S ⟨A27, c28, rfl, rfl⟩
  replace hg0 : ∃ gt fr, _ := (let ⟨gt, fr, h8⟩ := hg0; ⟨gt, fr, hM32 _ _ h8⟩)
  replace hg1 : ∃ gt fr, _ := (let ⟨gt, fr, h8⟩ := hg1; ⟨gt, fr, hM32 _ _ h8⟩)
  replace HM := Hp.le_trans HM hM32
  replace hf15 := SlR.mono hf15 hM32
  replace hf24 := SlR.mono hf24 hM32
  replace E := E.trans E'
  clear E'
  refine W_v (.slice A27 t25.length c28) (x_assign rfl) rfl (Wl_nil (tn (Wp_seq ?_)))
  obtain ⟨M129, hM130, hf131, S⟩ := S.row_freeze 0 rfl
  replace hg0 : ∃ gt fr, _ := (let ⟨gt, fr, h8⟩ := hg0; ⟨gt, fr, hM130 _ _ h8⟩)
  replace hg1 : ∃ gt fr, _ := (let ⟨gt, fr, h8⟩ := hg1; ⟨gt, fr, hM130 _ _ h8⟩)
  replace HM := Hp.le_trans HM hM130
  replace hf15 := SlR.mono hf15 hM130
  replace hf24 := SlR.mono hf24 hM130
  refine Wp_region_any (S := fun w' => ∃ Mx, M129.le Mx ∧ St w' Mx F [B23 b4 t1]) (L := 45) mixed ?_
  intro w213 hw214 E'
  replace S := S.heap hw214
  replace E := E.trans E'
  clear E'
  have D1 : ∃ Mx, Hp.le M129 Mx ∧ St _ Mx F [_] := ⟨_, Hp.le_refl _, S.pick [0] (by decide)⟩
  refine Wa_take (i := 0) rfl (by kernel_rfl) rfl rfl (.int .i64 t19.1) rfl (fun w' h' => x_move rfl) D1 (Wa_take (i := 1) rfl (by kernel_rfl) rfl rfl (.bool (t19.1 == (5 : Int))) rfl (fun w' h' => x_ibin rfl rfl rfl rfl) D1 (Wa_take (i := 2) rfl (by kernel_rfl) rfl rfl (.bool (t19.1 == (5 : Int))) rfl (fun w' h' => x_move rfl) D1 ?_))
  refine Wa_join (fun ρ w' => Agree ρ [(0, .bool false), (1, pt b4 0), (2, .slice (some ⟨b16, 0, none⟩) ([x11] : List (List api_Call)).length 1), (5, .slice A27 t25.length c28), (23, .bool ((t19.1 == (5 : Int)) && (t19.2 == (3 : Int))))] ∧ w213 = w') 39 (Ls 45 [0, 1, 2, 3, 4, 5]) ?_ ?_
  rotate_left
  · intro hrest
    rcases boolCases (t19.1 == (5 : Int)) with hb215 | hb215
    · skip
      have D2 : ∃ Mx, Hp.le M129 Mx ∧ St _ Mx F [_] := ⟨_, Hp.le_refl _, S.pick [0] (by decide)⟩
      refine Wa_takeN (i := 3) rfl (by kernel_rfl) rfl rfl rfl (skT hb215) D2 (Wa_takeN (i := 4) rfl (by kernel_rfl) rfl rfl rfl (skT hb215) D2 (Wa_take (i := 5) rfl (by kernel_rfl) rfl rfl (.bool false) rfl (fun w' h' => x_pick (k := false) (congrArg Value.bool hb215) rfl) D2 ?_))
      exact hrest _ _ ⟨⟨rfl, rfl, rfl, rfl, (by first | rfl | (rw [hb215]; rfl) | (simp only [hb215]; rfl)), trivial⟩, rfl⟩
    · skip
      have D3 : ∃ Mx, Hp.le M129 Mx ∧ St _ Mx F [_] := ⟨_, Hp.le_refl _, S.pick [0] (by decide)⟩
      refine Wa_takeY (i := 3) rfl (by kernel_rfl) rfl rfl (.int .i64 t19.2) rfl (congrArg some hb215) (fun w' h' => x_move rfl) D3 (Wa_takeY (i := 4) rfl (by kernel_rfl) rfl rfl (.bool (t19.2 == (3 : Int))) rfl (congrArg some hb215) (fun w' h' => x_ibin rfl rfl rfl rfl) D3 (Wa_take (i := 5) rfl (by kernel_rfl) rfl rfl (.bool (t19.2 == (3 : Int))) rfl (fun w' h' => x_pick (k := true) (congrArg Value.bool hb215) rfl) D3 ?_))
      exact hrest _ _ ⟨⟨rfl, rfl, rfl, rfl, (by first | rfl | (rw [hb215]; rfl) | (simp only [hb215]; rfl)), trivial⟩, rfl⟩
  rintro ρ _ ⟨hρ, rfl⟩
  rw [agree_eta hρ]
  clear hρ
  refine Wa_take (i := 6) rfl (by kernel_rfl) rfl rfl (.bool ((t19.1 == (5 : Int)) && (t19.2 == (3 : Int)))) rfl (fun w' h' => x_move rfl) (⟨M129, Hp.le_refl M129, (S.pick [0] (by decide))⟩) ?_
  obtain ⟨o221, o221h, o221H⟩ := bindS H
  clear H
  refine Wa_join (fun ρ w' => ∃ (x220 : Bool), (x220) = o221 ∧ Agree ρ [(0, .bool false), (1, pt b4 0), (2, .slice (some ⟨b16, 0, none⟩) ([x11] : List (List api_Call)).length 1), (5, .slice A27 t25.length c28), (28, .bool x220)] ∧ Ext w w' ∧ St w' M129 F [B23 b4 t1]) 34 (Ls 45 [0, 1, 2, 3, 4, 5, 6, 7, 8, 9, 10]) ?_ ?_
  rotate_left
  · intro hrest
    have H := o221h
    clear o221h o221H
    rcases iteS H with ⟨hb219, H⟩ | ⟨hb219, H⟩
    · skip
      refine Wa_takeY (i := 7) rfl (by kernel_rfl) rfl rfl (.agg #[.int .i64 t1.Tasks, .int .i64 t1.Active, .int .i64 t1.Keys, .int .i64 t1.Depth, .int .i64 t1.TS, .int .i64 t1.KeyLen, .int .i64 t1.ValLen, .int .i64 t1.Fan]) rfl (congrArg some hb219) (fun w' h' => x_loadA (cls_blk h' 0 rfl) ty23 rfl (sub_of_extract rfl) rfl rfl) (⟨M129, Hp.le_refl M129, (S.pick [0] (by decide))⟩) ?_
      refine Wa_solo (i := 8) rfl (by kernel_rfl) ?_
      refine W_yes (congrArg some hb219) ?_
      obtain ⟨t222, ht223, H⟩ := bindS H
      refine W_callF fn11 (room_Steps.con k M129 t1 (1 : Int) t222  ht223) S rfl rfl (by rintro _ _ _ ⟨_, rfl⟩; exact flat_nil) ?_
      rintro _ w224 _ Γ' E' S ⟨rfl, rfl⟩
      replace E := E.trans E'
      clear E'
      refine Wl_nil (on_n ⟨.inr ⟨M129, Hp.le_refl M129, (S.pick [0] (by decide))⟩, ?_⟩)
      have D6 : ∃ Mx, Hp.le M129 Mx ∧ St _ Mx F [_] := ⟨_, Hp.le_refl _, S.pick [0] (by decide)⟩
      refine Wa_takeY (i := 9) rfl (by kernel_rfl) rfl rfl (.bool (t222 == (3 : Int))) rfl (congrArg some hb219) (fun w' h' => x_ibin rfl rfl rfl rfl) D6 (Wa_take (i := 10) rfl (by kernel_rfl) rfl rfl (.bool (t222 == (3 : Int))) rfl (fun w' h' => x_pick (k := true) (congrArg Value.bool hb219) rfl) D6 ?_)
      exact hrest _ _ ⟨(t222 == (3 : Int)), Option.some.inj H, ⟨rfl, rfl, rfl, rfl, rfl, trivial⟩, E, S.pick [0] (by decide)⟩
    · skip
      have D7 : ∃ Mx, Hp.le M129 Mx ∧ St _ Mx F [_] := ⟨_, Hp.le_refl _, S.pick [0] (by decide)⟩
      refine Wa_takeN (i := 7) rfl (by kernel_rfl) rfl rfl rfl (skT hb219) D7 (Wa_takeN (i := 8) rfl (by kernel_rfl) rfl rfl rfl (skT hb219) D7 (Wa_takeN (i := 9) rfl (by kernel_rfl) rfl rfl rfl (skT hb219) D7 (Wa_take (i := 10) rfl (by kernel_rfl) rfl rfl (.bool false) rfl (fun w' h' => x_pick (k := false) (congrArg Value.bool hb219) rfl) D7 ?_)))
      exact hrest _ _ ⟨false, Option.some.inj H, ⟨rfl, rfl, rfl, rfl, rfl, trivial⟩, E, S.pick [0] (by decide)⟩
  clear o221h
  rintro ρ w225 ⟨x220, rfl, hρ, E, S⟩
  rw [agree_eta hρ]
  clear hρ
  have H := o221H
  clear o221H
  refine Wa_take (i := 11) rfl (by kernel_rfl) rfl rfl (.bool x220) rfl (fun w' h' => x_move rfl) (⟨M129, Hp.le_refl M129, (S.pick [0] (by decide))⟩) ?_
  obtain ⟨o231, o231h, o231H⟩ := bindS H
  clear H
  refine Wa_join (fun ρ w' => ∃ (x230 : Bool), (x230) = o231 ∧ Agree ρ [(0, .bool false), (1, pt b4 0), (2, .slice (some ⟨b16, 0, none⟩) ([x11] : List (List api_Call)).length 1), (5, .slice A27 t25.length c28), (33, .bool x230)] ∧ Ext w w' ∧ St w' M129 F [B23 b4 t1]) 29 (Ls 45 [0, 1, 2, 3, 4, 5, 6, 7, 8, 9, 10, 11, 12, 13, 14, 15]) ?_ ?_
  rotate_left
  · intro hrest
    have H := o231h
    clear o231h o231H
    rcases iteS H with ⟨hb229, H⟩ | ⟨hb229, H⟩
    · skip
      refine Wa_takeY (i := 12) rfl (by kernel_rfl) rfl rfl (.agg #[.int .i64 t1.Tasks, .int .i64 t1.Active, .int .i64 t1.Keys, .int .i64 t1.Depth, .int .i64 t1.TS, .int .i64 t1.KeyLen, .int .i64 t1.ValLen, .int .i64 t1.Fan]) rfl (congrArg some hb229) (fun w' h' => x_loadA (cls_blk h' 0 rfl) ty23 rfl (sub_of_extract rfl) rfl rfl) (⟨M129, Hp.le_refl M129, (S.pick [0] (by decide))⟩) ?_
      refine Wa_solo (i := 13) rfl (by kernel_rfl) ?_
      refine W_yes (congrArg some hb229) ?_
      obtain ⟨t232, ht233, H⟩ := bindS H
      refine W_callF fn11 (room_Steps.con k M129 t1 (2 : Int) t232  ht233) S rfl rfl (by rintro _ _ _ ⟨_, rfl⟩; exact flat_nil) ?_
      rintro _ w234 _ Γ' E' S ⟨rfl, rfl⟩
      replace E := E.trans E'
      clear E'
      refine Wl_nil (on_n ⟨.inr ⟨M129, Hp.le_refl M129, (S.pick [0] (by decide))⟩, ?_⟩)
      have D10 : ∃ Mx, Hp.le M129 Mx ∧ St _ Mx F [_] := ⟨_, Hp.le_refl _, S.pick [0] (by decide)⟩
      refine Wa_takeY (i := 14) rfl (by kernel_rfl) rfl rfl (.bool (t232 == (93 : Int))) rfl (congrArg some hb229) (fun w' h' => x_ibin rfl rfl rfl rfl) D10 (Wa_take (i := 15) rfl (by kernel_rfl) rfl rfl (.bool (t232 == (93 : Int))) rfl (fun w' h' => x_pick (k := true) (congrArg Value.bool hb229) rfl) D10 ?_)
      exact hrest _ _ ⟨(t232 == (93 : Int)), Option.some.inj H, ⟨rfl, rfl, rfl, rfl, rfl, trivial⟩, E, S.pick [0] (by decide)⟩
    · skip
      have D11 : ∃ Mx, Hp.le M129 Mx ∧ St _ Mx F [_] := ⟨_, Hp.le_refl _, S.pick [0] (by decide)⟩
      refine Wa_takeN (i := 12) rfl (by kernel_rfl) rfl rfl rfl (skT hb229) D11 (Wa_takeN (i := 13) rfl (by kernel_rfl) rfl rfl rfl (skT hb229) D11 (Wa_takeN (i := 14) rfl (by kernel_rfl) rfl rfl rfl (skT hb229) D11 (Wa_take (i := 15) rfl (by kernel_rfl) rfl rfl (.bool false) rfl (fun w' h' => x_pick (k := false) (congrArg Value.bool hb229) rfl) D11 ?_)))
      exact hrest _ _ ⟨false, Option.some.inj H, ⟨rfl, rfl, rfl, rfl, rfl, trivial⟩, E, S.pick [0] (by decide)⟩
  clear o231h
  rintro ρ w235 ⟨x230, rfl, hρ, E, S⟩
  rw [agree_eta hρ]
  clear hρ
  have H := o231H
  clear o231H
  refine Wa_take (i := 16) rfl (by kernel_rfl) rfl rfl (.bool x230) rfl (fun w' h' => x_move rfl) (⟨M129, Hp.le_refl M129, (S.pick [0] (by decide))⟩) ?_
  obtain ⟨o241, o241h, o241H⟩ := bindS H
  clear H
  refine Wa_join (fun ρ w' => ∃ (x240 : Bool), (x240) = o241 ∧ Agree ρ [(0, .bool false), (1, pt b4 0), (2, .slice (some ⟨b16, 0, none⟩) ([x11] : List (List api_Call)).length 1), (5, .slice A27 t25.length c28), (38, .bool x240)] ∧ Ext w w' ∧ St w' M129 F [B23 b4 t1]) 24 (Ls 45 [0, 1, 2, 3, 4, 5, 6, 7, 8, 9, 10, 11, 12, 13, 14, 15, 16, 17, 18, 19, 20]) ?_ ?_
  rotate_left
  · intro hrest
    have H := o241h
    clear o241h o241H
    rcases iteS H with ⟨hb239, H⟩ | ⟨hb239, H⟩
    · skip
      refine Wa_takeY (i := 17) rfl (by kernel_rfl) rfl rfl (.agg #[.int .i64 t1.Tasks, .int .i64 t1.Active, .int .i64 t1.Keys, .int .i64 t1.Depth, .int .i64 t1.TS, .int .i64 t1.KeyLen, .int .i64 t1.ValLen, .int .i64 t1.Fan]) rfl (congrArg some hb239) (fun w' h' => x_loadA (cls_blk h' 0 rfl) ty23 rfl (sub_of_extract rfl) rfl rfl) (⟨M129, Hp.le_refl M129, (S.pick [0] (by decide))⟩) ?_
      refine Wa_solo (i := 18) rfl (by kernel_rfl) ?_
      refine W_yes (congrArg some hb239) ?_
      obtain ⟨t242, ht243, H⟩ := bindS H
      refine W_callF fn11 (room_Steps.con k M129 t1 (6 : Int) t242  ht243) S rfl rfl (by rintro _ _ _ ⟨_, rfl⟩; exact flat_nil) ?_
      rintro _ w244 _ Γ' E' S ⟨rfl, rfl⟩
      replace E := E.trans E'
      clear E'
      refine Wl_nil (on_n ⟨.inr ⟨M129, Hp.le_refl M129, (S.pick [0] (by decide))⟩, ?_⟩)
      have D14 : ∃ Mx, Hp.le M129 Mx ∧ St _ Mx F [_] := ⟨_, Hp.le_refl _, S.pick [0] (by decide)⟩
      refine Wa_takeY (i := 19) rfl (by kernel_rfl) rfl rfl (.bool (t242 == (97 : Int))) rfl (congrArg some hb239) (fun w' h' => x_ibin rfl rfl rfl rfl) D14 (Wa_take (i := 20) rfl (by kernel_rfl) rfl rfl (.bool (t242 == (97 : Int))) rfl (fun w' h' => x_pick (k := true) (congrArg Value.bool hb239) rfl) D14 ?_)
      exact hrest _ _ ⟨(t242 == (97 : Int)), Option.some.inj H, ⟨rfl, rfl, rfl, rfl, rfl, trivial⟩, E, S.pick [0] (by decide)⟩
    · skip
      have D15 : ∃ Mx, Hp.le M129 Mx ∧ St _ Mx F [_] := ⟨_, Hp.le_refl _, S.pick [0] (by decide)⟩
      refine Wa_takeN (i := 17) rfl (by kernel_rfl) rfl rfl rfl (skT hb239) D15 (Wa_takeN (i := 18) rfl (by kernel_rfl) rfl rfl rfl (skT hb239) D15 (Wa_takeN (i := 19) rfl (by kernel_rfl) rfl rfl rfl (skT hb239) D15 (Wa_take (i := 20) rfl (by kernel_rfl) rfl rfl (.bool false) rfl (fun w' h' => x_pick (k := false) (congrArg Value.bool hb239) rfl) D15 ?_)))
      exact hrest _ _ ⟨false, Option.some.inj H, ⟨rfl, rfl, rfl, rfl, rfl, trivial⟩, E, S.pick [0] (by decide)⟩
  clear o241h
  rintro ρ w245 ⟨x240, rfl, hρ, E, S⟩
  rw [agree_eta hρ]
  clear hρ
  have H := o241H
  clear o241H
  refine Wa_take (i := 21) rfl (by kernel_rfl) rfl rfl (.bool x240) rfl (fun w' h' => x_move rfl) (⟨M129, Hp.le_refl M129, (S.pick [0] (by decide))⟩) ?_
  obtain ⟨o251, o251h, o251H⟩ := bindS H
  clear H
  refine Wa_join (fun ρ w' => ∃ (x250 : Bool), (x250) = o251 ∧ Agree ρ [(0, .bool false), (1, pt b4 0), (2, .slice (some ⟨b16, 0, none⟩) ([x11] : List (List api_Call)).length 1), (5, .slice A27 t25.length c28), (43, .bool x250)] ∧ Ext w w' ∧ St w' M129 F [B23 b4 t1]) 19 (Ls 45 [0, 1, 2, 3, 4, 5, 6, 7, 8, 9, 10, 11, 12, 13, 14, 15, 16, 17, 18, 19, 20, 21, 22, 23, 24, 25]) ?_ ?_
  rotate_left
  · intro hrest
    have H := o251h
    clear o251h o251H
    rcases iteS H with ⟨hb249, H⟩ | ⟨hb249, H⟩
    · skip
      refine Wa_takeY (i := 22) rfl (by kernel_rfl) rfl rfl (.agg #[.int .i64 t1.Tasks, .int .i64 t1.Active, .int .i64 t1.Keys, .int .i64 t1.Depth, .int .i64 t1.TS, .int .i64 t1.KeyLen, .int .i64 t1.ValLen, .int .i64 t1.Fan]) rfl (congrArg some hb249) (fun w' h' => x_loadA (cls_blk h' 0 rfl) ty23 rfl (sub_of_extract rfl) rfl rfl) (⟨M129, Hp.le_refl M129, (S.pick [0] (by decide))⟩) ?_
      refine Wa_solo (i := 23) rfl (by kernel_rfl) ?_
      refine W_yes (congrArg some hb249) ?_
      obtain ⟨t252, ht253, H⟩ := bindS H
      refine W_callF fn11 (room_Steps.con k M129 t1 (5 : Int) t252  ht253) S rfl rfl (by rintro _ _ _ ⟨_, rfl⟩; exact flat_nil) ?_
      rintro _ w254 _ Γ' E' S ⟨rfl, rfl⟩
      replace E := E.trans E'
      clear E'
      refine Wl_nil (on_n ⟨.inr ⟨M129, Hp.le_refl M129, (S.pick [0] (by decide))⟩, ?_⟩)
      have D18 : ∃ Mx, Hp.le M129 Mx ∧ St _ Mx F [_] := ⟨_, Hp.le_refl _, S.pick [0] (by decide)⟩
      refine Wa_takeY (i := 24) rfl (by kernel_rfl) rfl rfl (.bool (t252 == (215 : Int))) rfl (congrArg some hb249) (fun w' h' => x_ibin rfl rfl rfl rfl) D18 (Wa_take (i := 25) rfl (by kernel_rfl) rfl rfl (.bool (t252 == (215 : Int))) rfl (fun w' h' => x_pick (k := true) (congrArg Value.bool hb249) rfl) D18 ?_)
      exact hrest _ _ ⟨(t252 == (215 : Int)), Option.some.inj H, ⟨rfl, rfl, rfl, rfl, rfl, trivial⟩, E, S.pick [0] (by decide)⟩
    · skip
      have D19 : ∃ Mx, Hp.le M129 Mx ∧ St _ Mx F [_] := ⟨_, Hp.le_refl _, S.pick [0] (by decide)⟩
      refine Wa_takeN (i := 22) rfl (by kernel_rfl) rfl rfl rfl (skT hb249) D19 (Wa_takeN (i := 23) rfl (by kernel_rfl) rfl rfl rfl (skT hb249) D19 (Wa_takeN (i := 24) rfl (by kernel_rfl) rfl rfl rfl (skT hb249) D19 (Wa_take (i := 25) rfl (by kernel_rfl) rfl rfl (.bool false) rfl (fun w' h' => x_pick (k := false) (congrArg Value.bool hb249) rfl) D19 ?_)))
      exact hrest _ _ ⟨false, Option.some.inj H, ⟨rfl, rfl, rfl, rfl, rfl, trivial⟩, E, S.pick [0] (by decide)⟩
  clear o251h
  rintro ρ w255 ⟨x250, rfl, hρ, E, S⟩
  rw [agree_eta hρ]
  clear hρ
  have H := o251H
  clear o251H
  refine Wa_take (i := 26) rfl (by kernel_rfl) rfl rfl (.bool x250) rfl (fun w' h' => x_move rfl) (⟨M129, Hp.le_refl M129, (S.pick [0] (by decide))⟩) ?_
  obtain ⟨o261, o261h, o261H⟩ := bindS H
  clear H
  refine Wa_join (fun ρ w' => ∃ (x260 : Bool), (x260) = o261 ∧ Agree ρ [(0, .bool false), (1, pt b4 0), (2, .slice (some ⟨b16, 0, none⟩) ([x11] : List (List api_Call)).length 1), (5, .slice A27 t25.length c28), (48, .bool x260)] ∧ Ext w w' ∧ St w' M129 F [B23 b4 t1]) 14 (Ls 45 [0, 1, 2, 3, 4, 5, 6, 7, 8, 9, 10, 11, 12, 13, 14, 15, 16, 17, 18, 19, 20, 21, 22, 23, 24, 25, 26, 27, 28, 29, 30]) ?_ ?_
  rotate_left
  · intro hrest
    have H := o261h
    clear o261h o261H
    rcases iteS H with ⟨hb259, H⟩ | ⟨hb259, H⟩
    · skip
      refine Wa_takeY (i := 27) rfl (by kernel_rfl) rfl rfl (.agg #[.int .i64 t1.Tasks, .int .i64 t1.Active, .int .i64 t1.Keys, .int .i64 t1.Depth, .int .i64 t1.TS, .int .i64 t1.KeyLen, .int .i64 t1.ValLen, .int .i64 t1.Fan]) rfl (congrArg some hb259) (fun w' h' => x_loadA (cls_blk h' 0 rfl) ty23 rfl (sub_of_extract rfl) rfl rfl) (⟨M129, Hp.le_refl M129, (S.pick [0] (by decide))⟩) ?_
      refine Wa_solo (i := 28) rfl (by kernel_rfl) ?_
      refine W_yes (congrArg some hb259) ?_
      obtain ⟨t262, ht263, H⟩ := bindS H
      refine W_callF fn12 (room_Rounds.con k M129 t1 t262  ht263) S rfl rfl (by rintro _ _ _ ⟨_, rfl⟩; exact flat_nil) ?_
      rintro _ w264 _ Γ' E' S ⟨rfl, rfl⟩
      replace E := E.trans E'
      clear E'
      refine Wl_nil (on_n ⟨.inr ⟨M129, Hp.le_refl M129, (S.pick [0] (by decide))⟩, ?_⟩)
      have D22 : ∃ Mx, Hp.le M129 Mx ∧ St _ Mx F [_] := ⟨_, Hp.le_refl _, S.pick [0] (by decide)⟩
      refine Wa_takeY (i := 29) rfl (by kernel_rfl) rfl rfl (.bool (t262 == (215 : Int))) rfl (congrArg some hb259) (fun w' h' => x_ibin rfl rfl rfl rfl) D22 (Wa_take (i := 30) rfl (by kernel_rfl) rfl rfl (.bool (t262 == (215 : Int))) rfl (fun w' h' => x_pick (k := true) (congrArg Value.bool hb259) rfl) D22 ?_)
      exact hrest _ _ ⟨(t262 == (215 : Int)), Option.some.inj H, ⟨rfl, rfl, rfl, rfl, rfl, trivial⟩, E, S.pick [0] (by decide)⟩
    · skip
      have D23 : ∃ Mx, Hp.le M129 Mx ∧ St _ Mx F [_] := ⟨_, Hp.le_refl _, S.pick [0] (by decide)⟩
      refine Wa_takeN (i := 27) rfl (by kernel_rfl) rfl rfl rfl (skT hb259) D23 (Wa_takeN (i := 28) rfl (by kernel_rfl) rfl rfl rfl (skT hb259) D23 (Wa_takeN (i := 29) rfl (by kernel_rfl) rfl rfl rfl (skT hb259) D23 (Wa_take (i := 30) rfl (by kernel_rfl) rfl rfl (.bool false) rfl (fun w' h' => x_pick (k := false) (congrArg Value.bool hb259) rfl) D23 ?_)))
      exact hrest _ _ ⟨false, Option.some.inj H, ⟨rfl, rfl, rfl, rfl, rfl, trivial⟩, E, S.pick [0] (by decide)⟩
  clear o261h
  rintro ρ w265 ⟨x260, rfl, hρ, E, S⟩
  rw [agree_eta hρ]
  clear hρ
  have H := o261H
  clear o261H
  refine Wa_take (i := 31) rfl (by kernel_rfl) rfl rfl (.bool x260) rfl (fun w' h' => x_move rfl) (⟨M129, Hp.le_refl M129, (S.pick [0] (by decide))⟩) ?_
  obtain ⟨o276, o276h, o276H⟩ := bindS H
  clear H
  refine Wa_join (fun ρ w' => ∃ (x275 : Bool), (x275) = o276 ∧ Agree ρ [(0, .bool false), (1, pt b4 0), (2, .slice (some ⟨b16, 0, none⟩) ([x11] : List (List api_Call)).length 1), (5, .slice A27 t25.length c28), (55, .bool x275)] ∧ Ext w w' ∧ St w' M129 F [B23 b4 t1]) 7 (Ls 45 [0, 1, 2, 3, 4, 5, 6, 7, 8, 9, 10, 11, 12, 13, 14, 15, 16, 17, 18, 19, 20, 21, 22, 23, 24, 25, 26, 27, 28, 29, 30, 31, 32, 33, 34, 35, 36, 37]) ?_ ?_
  rotate_left
  · intro hrest
    have H := o276h
    clear o276h o276H
    rcases iteS H with ⟨hb274, H⟩ | ⟨hb274, H⟩
    · skip
      have D25 : ∃ Mx, Hp.le M129 Mx ∧ St _ Mx F [_] := ⟨_, Hp.le_refl _, S.pick [0] (by decide)⟩
      refine Wa_takeY (i := 32) rfl (by kernel_rfl) rfl rfl (.agg #[.int .i64 t1.Tasks, .int .i64 t1.Active, .int .i64 t1.Keys, .int .i64 t1.Depth, .int .i64 t1.TS, .int .i64 t1.KeyLen, .int .i64 t1.ValLen, .int .i64 t1.Fan]) rfl (congrArg some hb274) (fun w' h' => x_loadA (cls_blk h' 0 rfl) ty23 rfl (sub_of_extract rfl) rfl rfl) D25 (Wa_takeY (i := 33) rfl (by kernel_rfl) rfl rfl (.slice (some ⟨b16, 0, none⟩) ([x11] : List (List api_Call)).length 1) rfl (congrArg some hb274) (fun w' h' => x_move rfl) D25 (Wa_takeY (i := 34) rfl (by kernel_rfl) rfl rfl (.slice A27 t25.length c28) rfl (congrArg some hb274) (fun w' h' => x_move rfl) D25 ?_))
      obtain ⟨⟨p277, p278⟩, H⟩ := chkS H
      obtain ⟨hs280, hx281⟩ := sl_hi hf131 p277 p278
      have hs280z := hs280
      refine Wa_takeY (i := 35) rfl (by kernel_rfl) rfl rfl (.slice A27 (List.take (5 : Int).toNat t25).length c28) rfl (congrArg some hb274) (fun w' h' => hx281 Tryd.underlying39 ty38 rfl rfl) D25 ?_
      refine Wa_solo (i := 36) rfl (by kernel_rfl) ?_
      refine W_yes (congrArg some hb274) ?_
      obtain ⟨t282, ht283, H⟩ := bindS H
      refine W_callF fn14 (ferrymanlaw30_is.con k M129 t1 (some ⟨b16, 0, none⟩) 1 ([x11] : List (List api_Call)) A27 c28 (List.take (5 : Int).toNat t25) (3 : Int) (2 : Int) t282 hf24 hs280 hg0 hg1 ht283) S rfl rfl (by rintro _ _ _ ⟨_, rfl⟩; exact flat_nil) ?_
      rintro _ w284 _ Γ' E' S ⟨rfl, rfl⟩
      replace E := E.trans E'
      clear E'
      refine Wl_nil (on_n ⟨.inr ⟨M129, Hp.le_refl M129, (S.pick [0] (by decide))⟩, ?_⟩)
      refine Wa_take (i := 37) rfl (by kernel_rfl) rfl rfl (.bool t282) rfl (fun w' h' => x_pick (k := true) (congrArg Value.bool hb274) rfl) (⟨M129, Hp.le_refl M129, (S.pick [0] (by decide))⟩) ?_
      exact hrest _ _ ⟨t282, Option.some.inj H, ⟨rfl, rfl, rfl, rfl, rfl, trivial⟩, E, S.pick [0] (by decide)⟩
    · skip
      have D27 : ∃ Mx, Hp.le M129 Mx ∧ St _ Mx F [_] := ⟨_, Hp.le_refl _, S.pick [0] (by decide)⟩
      refine Wa_takeN (i := 32) rfl (by kernel_rfl) rfl rfl rfl (skT hb274) D27 (Wa_takeN (i := 33) rfl (by kernel_rfl) rfl rfl rfl (skT hb274) D27 (Wa_takeN (i := 34) rfl (by kernel_rfl) rfl rfl rfl (skT hb274) D27 (Wa_takeN (i := 35) rfl (by kernel_rfl) rfl rfl rfl (skT hb274) D27 (Wa_takeN (i := 36) rfl (by kernel_rfl) rfl rfl rfl (skT hb274) D27 (Wa_take (i := 37) rfl (by kernel_rfl) rfl rfl (.bool false) rfl (fun w' h' => x_pick (k := false) (congrArg Value.bool hb274) rfl) D27 ?_)))))
      exact hrest _ _ ⟨false, Option.some.inj H, ⟨rfl, rfl, rfl, rfl, rfl, trivial⟩, E, S.pick [0] (by decide)⟩
  clear o276h
  rintro ρ w285 ⟨x275, rfl, hρ, E, S⟩
  rw [agree_eta hρ]
  clear hρ
  have H := o276H
  clear o276H
  refine Wa_take (i := 38) rfl (by kernel_rfl) rfl rfl (.bool x275) rfl (fun w' h' => x_move rfl) (⟨M129, Hp.le_refl M129, (S.pick [0] (by decide))⟩) ?_
  obtain ⟨o291, o291h, o291H⟩ := bindS H
  clear H
  refine Wa_join (fun ρ w' => ∃ (x290 : Bool), (x290) = o291 ∧ Agree ρ [(0, .bool false), (61, .bool x290)] ∧ Ext w w' ∧ St w' M129 F [B23 b4 t1]) 1 (Ls 45 [0, 1, 2, 3, 4, 5, 6, 7, 8, 9, 10, 11, 12, 13, 14, 15, 16, 17, 18, 19, 20, 21, 22, 23, 24, 25, 26, 27, 28, 29, 30, 31, 32, 33, 34, 35, 36, 37, 38, 39, 40, 41, 42, 43]) ?_ ?_
  rotate_left
  · intro hrest
    have H := o291h
    clear o291h o291H
    rcases iteS H with ⟨hb289, H⟩ | ⟨hb289, H⟩
    · skip
      have D29 : ∃ Mx, Hp.le M129 Mx ∧ St _ Mx F [_] := ⟨_, Hp.le_refl _, S.pick [0] (by decide)⟩
      refine Wa_takeY (i := 39) rfl (by kernel_rfl) rfl rfl (.agg #[.int .i64 t1.Tasks, .int .i64 t1.Active, .int .i64 t1.Keys, .int .i64 t1.Depth, .int .i64 t1.TS, .int .i64 t1.KeyLen, .int .i64 t1.ValLen, .int .i64 t1.Fan]) rfl (congrArg some hb289) (fun w' h' => x_loadA (cls_blk h' 0 rfl) ty23 rfl (sub_of_extract rfl) rfl rfl) D29 (Wa_takeY (i := 40) rfl (by kernel_rfl) rfl rfl (.slice (some ⟨b16, 0, none⟩) ([x11] : List (List api_Call)).length 1) rfl (congrArg some hb289) (fun w' h' => x_move rfl) D29 (Wa_takeY (i := 41) rfl (by kernel_rfl) rfl rfl (.slice A27 t25.length c28) rfl (congrArg some hb289) (fun w' h' => x_move rfl) D29 ?_))
      refine Wa_solo (i := 42) rfl (by kernel_rfl) ?_
      refine W_yes (congrArg some hb289) ?_
      obtain ⟨t292, ht293, H⟩ := bindS H
      refine W_callF fn14 (ferrymanlaw30_is.con k M129 t1 (some ⟨b16, 0, none⟩) 1 ([x11] : List (List api_Call)) A27 c28 t25 (1 : Int) (1 : Int) t292 hf24 hf131 hg0 hg1 ht293) S rfl rfl (by rintro _ _ _ ⟨_, rfl⟩; exact flat_nil) ?_
      rintro _ w294 _ Γ' E' S ⟨rfl, rfl⟩
      replace E := E.trans E'
      clear E'
      refine Wl_nil (on_n ⟨.inr ⟨M129, Hp.le_refl M129, (S.pick [0] (by decide))⟩, ?_⟩)
      refine Wa_take (i := 43) rfl (by kernel_rfl) rfl rfl (.bool t292) rfl (fun w' h' => x_pick (k := true) (congrArg Value.bool hb289) rfl) (⟨M129, Hp.le_refl M129, (S.pick [0] (by decide))⟩) ?_
      exact hrest _ _ ⟨t292, Option.some.inj H, ⟨rfl, rfl, trivial⟩, E, S.pick [0] (by decide)⟩
    · skip
      have D31 : ∃ Mx, Hp.le M129 Mx ∧ St _ Mx F [_] := ⟨_, Hp.le_refl _, S.pick [0] (by decide)⟩
      refine Wa_takeN (i := 39) rfl (by kernel_rfl) rfl rfl rfl (skT hb289) D31 (Wa_takeN (i := 40) rfl (by kernel_rfl) rfl rfl rfl (skT hb289) D31 (Wa_takeN (i := 41) rfl (by kernel_rfl) rfl rfl rfl (skT hb289) D31 (Wa_takeN (i := 42) rfl (by kernel_rfl) rfl rfl rfl (skT hb289) D31 (Wa_take (i := 43) rfl (by kernel_rfl) rfl rfl (.bool false) rfl (fun w' h' => x_pick (k := false) (congrArg Value.bool hb289) rfl) D31 ?_))))
      exact hrest _ _ ⟨false, Option.some.inj H, ⟨rfl, rfl, trivial⟩, E, S.pick [0] (by decide)⟩
  clear o291h
  rintro ρ w295 ⟨x290, rfl, hρ, E, S⟩
  rw [agree_eta hρ]
  clear hρ
  have H := o291H
  clear o291H
  refine Wa_take (i := 44) rfl (by kernel_rfl) rfl rfl (.bool x290) rfl (fun w' h' => x_assign rfl) (⟨M129, Hp.le_refl M129, (S.pick [0] (by decide))⟩) ?_
  refine Wa_done (by kernel_rfl) ?_
  refine tn ?_
  refine Wp_ret ?_
  obtain rfl := Option.some.inj H
  exact ⟨_, _, _, fun w1 e1 => run_resR (vs := [.bool x290]) (FA.cons (rfl) (FA.nil)), HM, E, S.pick [] (by decide), ⟨rfl, rfl⟩⟩
/-! ### ferryman/ferrymanlaw30.long: function 16 -/
def ferrymanlaw30_long_l5 (a0 : (List (List api_Call))) (x632 : Int) : Nat → Int → Int → Option ((Int))
  | 0, _, _ => none
  | k + 1, x918, x919 => (if 0 ≤ x632 ∧ x632 < (a0.length : Int) then (if ((decide (x919 < ((rd a0 x632).length : Int))) && (decide (x918 < (8000 : Int)))) = true then (if 0 ≤ x632 ∧ x632 < (a0.length : Int) then (if 0 ≤ x919 ∧ x919 < ((rd a0 x632).length : Int) then ferrymanlaw30_long_l5 a0 x632 k (IntKind.i64.wrap ((IntKind.i64.wrap ((IntKind.i64.wrap ((IntKind.i64.wrap (x918 + (5 : Int))) + (imin (8000 : Int) (((rd (rd a0 x632) x919).Key).length : Int)))) + (imin (8000 : Int) (((rd (rd a0 x632) x919).End).length : Int)))) + (imin (8000 : Int) (((rd (rd a0 x632) x919).Value).length : Int)))) (IntKind.i64.wrap (x919 + (1 : Int))) else none) else none) else some (x918)) else none)
set_option maxHeartbeats 2000000 in
theorem ferrymanlaw30_long_l5.mono {a0 : (List (List api_Call))} {x632 : Int} : ∀ {kl : Nat} {x0 x1}, OLe (ferrymanlaw30_long_l5 a0 x632 kl x0 x1) (ferrymanlaw30_long_l5 a0 x632 (kl + 1) x0 x1) := by
  intro kl
  induction kl with
  | zero => intros; exact OLe.none
  | succ kl ih =>
    intros
    rw [ferrymanlaw30_long_l5.eq_2, ferrymanlaw30_long_l5.eq_2]
    repeat' (first | with_reducible exact OLe.none | with_reducible exact OLe.some | with_reducible refine OLe.ite ?_ ?_ | with_reducible refine OLe.bind ?_ (fun _ => ?_) | exact ih | refine OLe.bind ?_ (fun _ => ?_) | refine OLe.ite ?_ ?_ | refine OLe.elim (fun _ => ?_) (fun _ => ?_) | split)
def ferrymanlaw30_long_l3 (a0 : (List (List api_Call))) : Nat → Int → Int → Option ((Int))
  | 0, _, _ => none
  | k + 1, x631, x632 => (if ((decide (x632 < (a0.length : Int))) && (decide (x631 < (8000 : Int)))) = true then (Option.bind (ferrymanlaw30_long_l5 a0 x632 k (IntKind.i64.wrap (x631 + (1 : Int))) (0 : Int)) (fun x964 => ferrymanlaw30_long_l3 a0 k x964 (IntKind.i64.wrap (x632 + (1 : Int))))) else some (x631))
set_option maxHeartbeats 2000000 in
theorem ferrymanlaw30_long_l3.mono {a0 : (List (List api_Call))} : ∀ {kl : Nat} {x0 x1}, OLe (ferrymanlaw30_long_l3 a0 kl x0 x1) (ferrymanlaw30_long_l3 a0 (kl + 1) x0 x1) := by
  intro kl
  induction kl with
  | zero => intros; exact OLe.none
  | succ kl ih =>
    intros
    rw [ferrymanlaw30_long_l3.eq_2, ferrymanlaw30_long_l3.eq_2]
    repeat' (first | with_reducible exact OLe.none | with_reducible exact OLe.some | with_reducible refine OLe.ite ?_ ?_ | with_reducible refine OLe.bind ?_ (fun _ => ?_) | with_reducible exact ferrymanlaw30_long_l5.mono | exact ih | refine OLe.bind ?_ (fun _ => ?_) | refine OLe.ite ?_ ?_ | refine OLe.elim (fun _ => ?_) (fun _ => ?_) | split)
def ferrymanlaw30_long_l0 (a1 : (List api_Event)) : Nat → Int → Int → Option ((Int))
  | 0, _, _ => none
  | k + 1, x125, x126 => (if ((decide (x126 < (a1.length : Int))) && (decide (x125 < (8000 : Int)))) = true then (if 0 ≤ x126 ∧ x126 < (a1.length : Int) then (if 0 ≤ x126 ∧ x126 < (a1.length : Int) then ferrymanlaw30_long_l0 a1 k (IntKind.i64.wrap ((IntKind.i64.wrap (x125 + (imin (8000 : Int) (((rd a1 x126).Answer.Value).length : Int)))) + (IntKind.i64.wrap ((5 : Int) * (imin (8000 : Int) (((rd a1 x126).Answer.Pairs).length : Int)))))) (IntKind.i64.wrap (x126 + (1 : Int))) else none) else none) else some (x125))
set_option maxHeartbeats 2000000 in
theorem ferrymanlaw30_long_l0.mono {a1 : (List api_Event)} : ∀ {kl : Nat} {x0 x1}, OLe (ferrymanlaw30_long_l0 a1 kl x0 x1) (ferrymanlaw30_long_l0 a1 (kl + 1) x0 x1) := by
  intro kl
  induction kl with
  | zero => intros; exact OLe.none
  | succ kl ih =>
    intros
    rw [ferrymanlaw30_long_l0.eq_2, ferrymanlaw30_long_l0.eq_2]
    repeat' (first | with_reducible exact OLe.none | with_reducible exact OLe.some | with_reducible refine OLe.ite ?_ ?_ | with_reducible refine OLe.bind ?_ (fun _ => ?_) | exact ih | refine OLe.bind ?_ (fun _ => ?_) | refine OLe.ite ?_ ?_ | refine OLe.elim (fun _ => ?_) (fun _ => ?_) | split)
def ferrymanlaw30_long (k : Nat) (a0 : (List (List api_Call))) (a1 : (List api_Event)) : Option (Bool) :=
  (Option.bind (ferrymanlaw30_long_l0 a1 k (IntKind.i64.wrap ((30 : Int) * (imin (1000 : Int) (a1.length : Int)))) (0 : Int)) (fun x187 => (Option.bind (ferrymanlaw30_long_l3 a0 k x187 (0 : Int)) (fun x821 => some (decide (x821 ≥ (8000 : Int)))))))
set_option maxHeartbeats 2000000 in
theorem ferrymanlaw30_long.mono {k : Nat} {a0 : (List (List api_Call))} {a1 : (List api_Event)} : OLe (ferrymanlaw30_long k a0 a1) (ferrymanlaw30_long (k + 1) a0 a1) := by
  unfold ferrymanlaw30_long
  repeat' (first | with_reducible exact OLe.none | with_reducible exact OLe.some | with_reducible refine OLe.ite ?_ ?_ | with_reducible refine OLe.bind ?_ (fun _ => ?_) | with_reducible exact ferrymanlaw30_long_l0.mono | with_reducible exact ferrymanlaw30_long_l3.mono | refine OLe.bind ?_ (fun _ => ?_) | refine OLe.ite ?_ ?_ | refine OLe.elim (fun _ => ?_) (fun _ => ?_) | split)
set_option maxHeartbeats 1000000 in
set_option maxRecDepth 100000 in
theorem ferrymanlaw30_long.con (k : Nat) (M : Hp) (A0 : Option Addr) (c0 : Nat) (a0 : (List (List api_Call))) (A1 : Option Addr) (c1 : Nat) (a1 : (List api_Event)) (r : Bool) (hr0 : SlR (rSl r_api_Call) M (.slice A0 a0.length c0) a0) (hr1 : SlR r_api_Event M (.slice A1 a1.length c1) a1) (h : ferrymanlaw30_long k a0 a1 = some r) : Con Tryd.prog 16 #[.slice A0 a0.length c0, .slice A1 a1.length c1] M [] (fun v M' Γ' => v = .bool r ∧ Γ' = []) := by
  refine con_of_wp Tryd.func16 rfl Tryd.ntmps16 Tryd.results16 rfl ?_
  intro w F rn S hrn
  have E := Ext.refl w
  have HM := Hp.le_refl M
  have H := h
  unfold ferrymanlaw30_long at H
  refine Wp_seq (Wp_region_lit (W_v (.bool false) (x_assign rfl) rfl (Wl_nil (tn (Wp_seq ?_)))))
  refine Wp_region_lit (W_v (.slice A1 a1.length c1) (x_move rfl) rfl (W_v (.int .i64 (a1.length : Int)) (x_len_slice (n := a1.length) Tryd.underlying39 rfl) rfl (W_v (.int .i64 (imin (1000 : Int) (a1.length : Int))) (x_min2 rfl rfl) rfl (W_v (.int .i64 (IntKind.i64.wrap ((30 : Int) * (imin (1000 : Int) (a1.length : Int))))) (x_ibin rfl rfl rfl rfl) rfl (W_v (.int .i64 (IntKind.i64.wrap ((30 : Int) * (imin (1000 : Int) (a1.length : Int))))) (x_assign rfl) rfl ?_)))))
  refine Wl_nil (tn (Wp_seq (Wp_seq (Wp_region_lit (W_v (.int .i64 0) (x_assign rfl) rfl ?_)))))
  refine Wl_nil (tn ?_)
  obtain ⟨o188, o188h, o188H⟩ := bindS H
  clear H
  refine Wp_blockJ (fun ρ w' => ∃ (x187 : Int), (x187) = o188 ∧ Agree ρ [(0, .slice A0 a0.length c0), (5, .int .i64 x187)] ∧ Ext w w' ∧ St w' M F []) ?_ ?_
  · skip
    refine Wp_loop (fun n ρ w' => ∃ (x125 : Int) (x126 : Int), ferrymanlaw30_long_l0 a1 n x125 x126 = some o188 ∧ Agree ρ [(0, .slice A0 a0.length c0), (1, .slice A1 a1.length c1), (5, .int .i64 x125), (6, .int .i64 x126)] ∧ Ext w w' ∧ St w' M F []) k ?_ ?_
    · skip
      exact ⟨(IntKind.i64.wrap ((30 : Int) * (imin (1000 : Int) (a1.length : Int)))), (0 : Int), o188h, ⟨rfl, rfl, rfl, rfl, trivial⟩, E, S.pick [] (by decide)⟩
    · intro n
      rintro ρ w189 ⟨x125, x126, H, hρ, E, S⟩
      rw [agree_eta hρ]
      clear hρ
      cases n with
      | zero => cases H
      | succ k =>
        rw [ferrymanlaw30_long_l0.eq_2] at H
        refine Wp_seq (Wp_seq (Wp_region_lit (W_v (.int .i64 x126) (x_move rfl) rfl (W_v (.slice A1 a1.length c1) (x_move rfl) rfl (W_v (.int .i64 (a1.length : Int)) (x_len_slice (n := a1.length) Tryd.underlying39 rfl) rfl ?_)))))
        refine W_v (.bool (decide (x126 < (a1.length : Int)))) (x_ibin rfl rfl rfl rfl) rfl (W_v (.bool (decide (x126 < (a1.length : Int)))) (x_move rfl) rfl ?_)
        refine Wl_cutN 3 (fun ρ w' => Agree ρ [(0, .slice A0 a0.length c0), (1, .slice A1 a1.length c1), (5, .int .i64 x125), (6, .int .i64 x126), (21, .bool ((decide (x126 < (a1.length : Int))) && (decide (x125 < (8000 : Int)))))] ∧ w189 = w') ?_ ?_
        · rcases boolCases (decide (x126 < (a1.length : Int))) with hb190 | hb190
          · skip
            refine W_no (skT hb190) rfl (W_no (skT hb190) rfl (W_v (.bool false) (x_pick (k := false) (congrArg Value.bool hb190) rfl) rfl (Wl_nil ?_)))
            exact ⟨⟨rfl, rfl, rfl, rfl, (by first | rfl | (rw [hb190]; rfl) | (simp only [hb190]; rfl)), trivial⟩, rfl⟩
          · skip
            refine W_yes (congrArg some hb190) (W_v (.int .i64 x125) (x_move rfl) rfl (W_yes (congrArg some hb190) (W_v (.bool (decide (x125 < (8000 : Int)))) (x_ibin rfl rfl rfl rfl) rfl (W_v (.bool (decide (x125 < (8000 : Int)))) (x_pick (k := true) (congrArg Value.bool hb190) rfl) rfl (Wl_nil ?_)))))
            exact ⟨⟨rfl, rfl, rfl, rfl, (by first | rfl | (rw [hb190]; rfl) | (simp only [hb190]; rfl)), trivial⟩, rfl⟩
        as_aux_lemma =>
        rintro ρ _ ⟨hρ, rfl⟩
        rw [agree_eta hρ]
        clear hρ
        refine Wl_nil (tn ?_)
        rcases iteS H with ⟨hb191, H⟩ | ⟨hb191, H⟩
        · refine Wp_cond_true (congrArg Value.bool hb191) ?_
          refine Wp_skip (tn (Wp_seq ?_))
          refine Wp_block ?_
          refine Wp_region_any (S := fun w' => ∃ Mx, M.le Mx ∧ St w' Mx F []) (L := 21) mixed ?_
          intro w220 hw221 E'
          replace S := S.heap hw221
          replace E := E.trans E'
          clear E'
          have D1 : ∃ Mx, Hp.le M Mx ∧ St _ Mx F [] := ⟨_, Hp.le_refl _, S.pick [] (by decide)⟩
          refine Wa_take (i := 0) rfl (by kernel_rfl) rfl rfl (.int .i64 x125) rfl (fun w' h' => x_move rfl) D1 (Wa_take (i := 1) rfl (by kernel_rfl) rfl rfl (.slice A1 a1.length c1) rfl (fun w' h' => x_move rfl) D1 (Wa_take (i := 2) rfl (by kernel_rfl) rfl rfl (.int .i64 x126) rfl (fun w' h' => x_move rfl) D1 ?_))
          obtain ⟨⟨p222, p223⟩, H⟩ := chkS H
          obtain ⟨b224, o225, cs226, _, _, ee231, hb227, vs228, hR229, hc230⟩ := SlW.at' hr1 p222 p223
          obtain ⟨v235, hs234, rfl⟩ := hR229
          obtain ⟨A232, c233, rfl, _⟩ := hs234.form
          have hs234z := hs234
          refine Wa_take (i := 3) rfl (by kernel_rfl) rfl rfl (.pointer (some ⟨b224, o225 + x126.toNat * 7, none⟩)) rfl (fun w' h' => x_indexAddr Tryd.underlying39 ty38 (slA ee231) rfl p222 p223) D1 (Wa_take (i := 4) rfl (by kernel_rfl) rfl rfl (.pointer (some ⟨b224, o225 + x126.toNat * 7 + 3, none⟩)) rfl (fun w' h' => x_fieldAddr (o := o225 + x126.toNat * 7) (off := 3) Tryd.underlying38 rfl ty36 rfl rfl) D1 (Wa_take (i := 5) rfl (by kernel_rfl) rfl rfl (.pointer (some ⟨b224, o225 + x126.toNat * 7 + 3 + 2, none⟩)) rfl (fun w' h' => x_fieldAddr (o := o225 + x126.toNat * 7 + 3) (off := 2) Tryd.underlying36 rfl ty9 rfl rfl) D1 (Wa_take (i := 6) rfl (by kernel_rfl) rfl rfl (.string (bs ((rd a1 x126).Answer.Value))) rfl (fun w' h' => x_load (cls_frz h' hb227) ty9 rfl (hc230 5 _ rfl)) D1 (Wa_take (i := 7) rfl (by kernel_rfl) rfl rfl (.int .i64 (((rd a1 x126).Answer.Value).length : Int)) rfl (fun w' h' => x_len_str Tryd.underlying9 rfl) D1 (Wa_take (i := 8) rfl (by kernel_rfl) rfl rfl (.int .i64 (imin (8000 : Int) (((rd a1 x126).Answer.Value).length : Int))) rfl (fun w' h' => x_min2 rfl rfl) D1 ?_)))))
          refine Wa_take (i := 9) rfl (by kernel_rfl) rfl rfl (.int .i64 (IntKind.i64.wrap (x125 + (imin (8000 : Int) (((rd a1 x126).Answer.Value).length : Int))))) rfl (fun w' h' => x_ibin rfl rfl rfl rfl) D1 (Wa_take (i := 10) rfl (by kernel_rfl) rfl rfl (.slice A1 a1.length c1) rfl (fun w' h' => x_move rfl) D1 (Wa_take (i := 11) rfl (by kernel_rfl) rfl rfl (.int .i64 x126) rfl (fun w' h' => x_move rfl) D1 ?_))
          obtain ⟨⟨p236, p237⟩, H⟩ := chkS H
          obtain ⟨b238, o239, cs240, _, _, ee245, hb241, vs242, hR243, hc244⟩ := SlW.at' hr1 p236 p237
          obtain ⟨v249, hs248, rfl⟩ := hR243
          obtain ⟨A246, c247, rfl, _⟩ := hs248.form
          have hs248z := hs248
          refine Wa_take (i := 12) rfl (by kernel_rfl) rfl rfl (.pointer (some ⟨b238, o239 + x126.toNat * 7, none⟩)) rfl (fun w' h' => x_indexAddr Tryd.underlying39 ty38 (slA ee245) rfl p236 p237) D1 (Wa_take (i := 13) rfl (by kernel_rfl) rfl rfl (.pointer (some ⟨b238, o239 + x126.toNat * 7 + 3, none⟩)) rfl (fun w' h' => x_fieldAddr (o := o239 + x126.toNat * 7) (off := 3) Tryd.underlying38 rfl ty36 rfl rfl) D1 (Wa_take (i := 14) rfl (by kernel_rfl) rfl rfl (.pointer (some ⟨b238, o239 + x126.toNat * 7 + 3 + 3, none⟩)) rfl (fun w' h' => x_fieldAddr (o := o239 + x126.toNat * 7 + 3) (off := 3) Tryd.underlying36 rfl ty34 rfl rfl) D1 (Wa_take (i := 15) rfl (by kernel_rfl) rfl rfl (.slice A246 ((rd a1 x126).Answer.Pairs).length c247) rfl (fun w' h' => x_load (cls_frz h' hb241) ty34 rfl (hc244 6 _ rfl)) D1 (Wa_take (i := 16) rfl (by kernel_rfl) rfl rfl (.int .i64 (((rd a1 x126).Answer.Pairs).length : Int)) rfl (fun w' h' => x_len_slice (n := ((rd a1 x126).Answer.Pairs).length) Tryd.underlying34 rfl) D1 (Wa_take (i := 17) rfl (by kernel_rfl) rfl rfl (.int .i64 (imin (8000 : Int) (((rd a1 x126).Answer.Pairs).length : Int))) rfl (fun w' h' => x_min2 rfl rfl) D1 ?_)))))
          refine Wa_take (i := 18) rfl (by kernel_rfl) rfl rfl (.int .i64 (IntKind.i64.wrap ((5 : Int) * (imin (8000 : Int) (((rd a1 x126).Answer.Pairs).length : Int))))) rfl (fun w' h' => x_ibin rfl rfl rfl rfl) D1 (Wa_take (i := 19) rfl (by kernel_rfl) rfl rfl (.int .i64 (IntKind.i64.wrap ((IntKind.i64.wrap (x125 + (imin (8000 : Int) (((rd a1 x126).Answer.Value).length : Int)))) + (IntKind.i64.wrap ((5 : Int) * (imin (8000 : Int) (((rd a1 x126).Answer.Pairs).length : Int))))))) rfl (fun w' h' => x_ibin rfl rfl rfl rfl) D1 (Wa_take (i := 20) rfl (by kernel_rfl) rfl rfl (.int .i64 (IntKind.i64.wrap ((IntKind.i64.wrap (x125 + (imin (8000 : Int) (((rd a1 x126).Answer.Value).length : Int)))) + (IntKind.i64.wrap ((5 : Int) * (imin (8000 : Int) (((rd a1 x126).Answer.Pairs).length : Int))))))) rfl (fun w' h' => x_assign rfl) D1 ?_))
          refine Wa_done (by kernel_rfl) ?_
          refine bn (tn (Wp_region_lit (W_v (.int .i64 x126) (x_move rfl) rfl (W_v (.int .i64 (IntKind.i64.wrap (x126 + (1 : Int)))) (x_ibin rfl rfl rfl rfl) rfl (W_v (.int .i64 (IntKind.i64.wrap (x126 + (1 : Int)))) (x_assign rfl) rfl ?_)))))
          refine Wl_nil (tn ?_)
          exact ⟨k, Nat.lt_succ_self k, ⟨(IntKind.i64.wrap ((IntKind.i64.wrap (x125 + (imin (8000 : Int) (((rd a1 x126).Answer.Value).length : Int)))) + (IntKind.i64.wrap ((5 : Int) * (imin (8000 : Int) (((rd a1 x126).Answer.Pairs).length : Int)))))), (IntKind.i64.wrap (x126 + (1 : Int))), H, ⟨rfl, rfl, rfl, rfl, trivial⟩, E, S.pick [] (by decide)⟩⟩
        refine Wp_cond_false (congrArg Value.bool hb191) ?_
        refine Wp_exit ?_
        refine tx (tx (bsm (?_)))
        refine tn ?_
        exact ⟨x125, Option.some.inj H, ⟨rfl, rfl, trivial⟩, E, S.pick [] (by decide)⟩
  clear o188h
  rintro ρ w250 ⟨x187, rfl, hρ, E, S⟩
  rw [agree_eta hρ]
  clear hρ
  have H := o188H
  clear o188H
  refine tn ?_
  as_aux_lemma =>
  refine Wp_seq (Wp_seq (Wp_region_lit (W_v (.int .i64 0) (x_assign rfl) rfl (Wl_nil (tn ?_)))))
  obtain ⟨o822, o822h, o822H⟩ := bindS H
  clear H
  refine Wp_blockJ (fun ρ w' => ∃ (x821 : Int), (x821) = o822 ∧ Agree ρ [(5, .int .i64 x821)] ∧ Ext w w' ∧ St w' M F []) ?_ ?_
  · skip
    refine Wp_loop (fun n ρ w' => ∃ (x631 : Int) (x632 : Int), ferrymanlaw30_long_l3 a0 n x631 x632 = some o822 ∧ Agree ρ [(0, .slice A0 a0.length c0), (5, .int .i64 x631), (7, .int .i64 x632)] ∧ Ext w w' ∧ St w' M F []) k ?_ ?_
    · skip
      exact ⟨x187, (0 : Int), o822h, ⟨rfl, rfl, rfl, trivial⟩, E, S.pick [] (by decide)⟩
    · intro n
      rintro ρ w823 ⟨x631, x632, H, hρ, E, S⟩
      rw [agree_eta hρ]
      clear hρ
      cases n with
      | zero => cases H
      | succ k =>
        rw [ferrymanlaw30_long_l3.eq_2] at H
        refine Wp_seq (Wp_seq (Wp_region_lit (W_v (.int .i64 x632) (x_move rfl) rfl (W_v (.slice A0 a0.length c0) (x_move rfl) rfl (W_v (.int .i64 (a0.length : Int)) (x_len_slice (n := a0.length) Tryd.underlying44 rfl) rfl ?_)))))
        refine W_v (.bool (decide (x632 < (a0.length : Int)))) (x_ibin rfl rfl rfl rfl) rfl (W_v (.bool (decide (x632 < (a0.length : Int)))) (x_move rfl) rfl ?_)
        refine Wl_cutN 3 (fun ρ w' => Agree ρ [(0, .slice A0 a0.length c0), (5, .int .i64 x631), (7, .int .i64 x632), (51, .bool ((decide (x632 < (a0.length : Int))) && (decide (x631 < (8000 : Int)))))] ∧ w823 = w') ?_ ?_
        · rcases boolCases (decide (x632 < (a0.length : Int))) with hb824 | hb824
          · skip
            refine W_no (skT hb824) rfl (W_no (skT hb824) rfl (W_v (.bool false) (x_pick (k := false) (congrArg Value.bool hb824) rfl) rfl (Wl_nil ?_)))
            exact ⟨⟨rfl, rfl, rfl, (by first | rfl | (rw [hb824]; rfl) | (simp only [hb824]; rfl)), trivial⟩, rfl⟩
          · skip
            refine W_yes (congrArg some hb824) (W_v (.int .i64 x631) (x_move rfl) rfl (W_yes (congrArg some hb824) (W_v (.bool (decide (x631 < (8000 : Int)))) (x_ibin rfl rfl rfl rfl) rfl (W_v (.bool (decide (x631 < (8000 : Int)))) (x_pick (k := true) (congrArg Value.bool hb824) rfl) rfl (Wl_nil ?_)))))
            exact ⟨⟨rfl, rfl, rfl, (by first | rfl | (rw [hb824]; rfl) | (simp only [hb824]; rfl)), trivial⟩, rfl⟩
        as_aux_lemma =>
        rintro ρ _ ⟨hρ, rfl⟩
        rw [agree_eta hρ]
        clear hρ
        refine Wl_nil (tn ?_)
        rcases iteS H with ⟨hb825, H⟩ | ⟨hb825, H⟩
        · refine Wp_cond_true (congrArg Value.bool hb825) ?_
          refine Wp_skip (tn (Wp_seq ?_))
          refine Wp_block ?_
          refine Wp_seq (Wp_region_lit (W_v (.int .i64 x631) (x_move rfl) rfl (W_v (.int .i64 (IntKind.i64.wrap (x631 + (1 : Int)))) (x_ibin rfl rfl rfl rfl) rfl (W_v (.int .i64 (IntKind.i64.wrap (x631 + (1 : Int)))) (x_assign rfl) rfl (Wl_nil ?_)))))
          refine tn (Wp_seq (Wp_region_lit (W_v (.int .i64 0) (x_assign rfl) rfl (Wl_nil (tn ?_)))))
          obtain ⟨o965, o965h, o965H⟩ := bindS H
          clear H
          refine Wp_blockJ (fun ρ w' => ∃ (x964 : Int), (x964) = o965 ∧ Agree ρ [(0, .slice A0 a0.length c0), (5, .int .i64 x964), (7, .int .i64 x632)] ∧ Ext w w' ∧ St w' M F []) ?_ ?_
          · skip
            refine Wp_loop (fun n ρ w' => ∃ (x918 : Int) (x919 : Int), ferrymanlaw30_long_l5 a0 x632 n x918 x919 = some o965 ∧ Agree ρ [(0, .slice A0 a0.length c0), (5, .int .i64 x918), (7, .int .i64 x632), (8, .int .i64 x919)] ∧ Ext w w' ∧ St w' M F []) k ?_ ?_
            · skip
              exact ⟨(IntKind.i64.wrap (x631 + (1 : Int))), (0 : Int), o965h, ⟨rfl, rfl, rfl, rfl, trivial⟩, E, S.pick [] (by decide)⟩
            · intro n
              rintro ρ w966 ⟨x918, x919, H, hρ, E, S⟩
              rw [agree_eta hρ]
              clear hρ
              cases n with
              | zero => cases H
              | succ k =>
                rw [ferrymanlaw30_long_l5.eq_2] at H
                refine Wp_seq (Wp_seq (Wp_region_lit (W_v (.int .i64 x919) (x_move rfl) rfl (W_v (.slice A0 a0.length c0) (x_move rfl) rfl (W_v (.int .i64 x632) (x_move rfl) rfl ?_)))))
                obtain ⟨⟨p967, p968⟩, H⟩ := chkS H
                obtain ⟨b969, o970, cs971, _, _, ee976, hb972, vs973, hR974, hc975⟩ := SlW.at' hr0 p967 p968
                obtain ⟨v980, hs979, rfl⟩ := hR974
                obtain ⟨A977, c978, rfl, _⟩ := hs979.form
                refine W_v (.pointer (some ⟨b969, o970 + x632.toNat * 1, none⟩)) (x_indexAddr Tryd.underlying44 ty43 (slA ee976) rfl p967 p968) rfl (W_v (.slice A977 (rd a0 x632).length c978) (x_load (S.frz hb972) ty43 rfl (hc975 0 _ rfl)) rfl (W_v (.int .i64 ((rd a0 x632).length : Int)) (x_len_slice (n := (rd a0 x632).length) Tryd.underlying43 rfl) rfl (W_v (.bool (decide (x919 < ((rd a0 x632).length : Int)))) (x_ibin rfl rfl rfl rfl) rfl (W_v (.bool (decide (x919 < ((rd a0 x632).length : Int)))) (x_move rfl) rfl ?_))))
                refine Wl_cutN 3 (fun ρ w' => Agree ρ [(0, .slice A0 a0.length c0), (5, .int .i64 x918), (7, .int .i64 x632), (8, .int .i64 x919), (66, .bool ((decide (x919 < ((rd a0 x632).length : Int))) && (decide (x918 < (8000 : Int)))))] ∧ w966 = w') ?_ ?_
                · rcases boolCases (decide (x919 < ((rd a0 x632).length : Int))) with hb981 | hb981
                  · skip
                    refine W_no (skT hb981) rfl (W_no (skT hb981) rfl (W_v (.bool false) (x_pick (k := false) (congrArg Value.bool hb981) rfl) rfl (Wl_nil ?_)))
                    exact ⟨⟨rfl, rfl, rfl, rfl, (by first | rfl | (rw [hb981]; rfl) | (simp only [hb981]; rfl)), trivial⟩, rfl⟩
                  · skip
                    refine W_yes (congrArg some hb981) (W_v (.int .i64 x918) (x_move rfl) rfl (W_yes (congrArg some hb981) (W_v (.bool (decide (x918 < (8000 : Int)))) (x_ibin rfl rfl rfl rfl) rfl (W_v (.bool (decide (x918 < (8000 : Int)))) (x_pick (k := true) (congrArg Value.bool hb981) rfl) rfl (Wl_nil ?_)))))
                    exact ⟨⟨rfl, rfl, rfl, rfl, (by first | rfl | (rw [hb981]; rfl) | (simp only [hb981]; rfl)), trivial⟩, rfl⟩
                as_aux_lemma =>
                rintro ρ _ ⟨hρ, rfl⟩
                rw [agree_eta hρ]
                clear hρ
                refine Wl_nil (tn ?_)
                rcases iteS H with ⟨hb982, H⟩ | ⟨hb982, H⟩
                · refine Wp_cond_true (congrArg Value.bool hb982) ?_
                  refine Wp_skip (tn (Wp_seq ?_))
                  refine Wp_block ?_
                  refine Wp_seq (Wp_region_lit (W_v (.slice A0 a0.length c0) (x_move rfl) rfl (W_v (.int .i64 x632) (x_move rfl) rfl ?_)))
                  obtain ⟨⟨p983, p984⟩, H⟩ := chkS H
                  obtain ⟨b985, o986, cs987, _, _, ee992, hb988, vs989, hR990, hc991⟩ := SlW.at' hr0 p983 p984
                  obtain ⟨v996, hs995, rfl⟩ := hR990
                  obtain ⟨A993, c994, rfl, _⟩ := hs995.form
                  refine W_v (.pointer (some ⟨b985, o986 + x632.toNat * 1, none⟩)) (x_indexAddr Tryd.underlying44 ty43 (slA ee992) rfl p983 p984) rfl (W_v (.slice A993 (rd a0 x632).length c994) (x_load (S.frz hb988) ty43 rfl (hc991 0 _ rfl)) rfl (W_v (.int .i64 x919) (x_move rfl) rfl ?_))
                  obtain ⟨⟨p997, p998⟩, H⟩ := chkS H
                  obtain ⟨b999, o1000, cs1001, _, _, ee1006, hb1002, vs1003, hR1004, hc1005⟩ := SlW.at' hs995 p997 p998
                  obtain rfl : vs1003 = _ := hR1004
                  refine W_v (.pointer (some ⟨b999, o1000 + x919.toNat * 7, none⟩)) (x_indexAddr Tryd.underlying43 ty42 (slA ee1006) rfl p997 p998) rfl (W_v (.agg #[.int .u8 ((rd (rd a0 x632) x919).Kind), .int .i64 ((rd (rd a0 x632) x919).Tx), .string (bs ((rd (rd a0 x632) x919).Key)), .string (bs ((rd (rd a0 x632) x919).End)), .string (bs ((rd (rd a0 x632) x919).Value)), .int .i64 ((rd (rd a0 x632) x919).Limit), .int .u8 ((rd (rd a0 x632) x919).Engine)]) (x_loadA (S.frz hb1002) ty42 rfl (sub_el hc1005 0 rfl) rfl rfl) rfl ?_)
                  refine W_alloc S #[.int .u8 0, .int .i64 0, .string (bs ([] : Str)), .string (bs ([] : Str)), .string (bs ([] : Str)), .int .i64 0, .int .u8 0] ty42 rfl rfl ?_
                  intro b1007 w1008 E' S
                  replace E := E.trans E'
                  clear E'
                  refine W_store S 0 rfl ty42 rfl rfl [.int .u8 ((rd (rd a0 x632) x919).Kind), .int .i64 ((rd (rd a0 x632) x919).Tx), .string (bs ((rd (rd a0 x632) x919).Key)), .string (bs ((rd (rd a0 x632) x919).End)), .string (bs ((rd (rd a0 x632) x919).Value)), .int .i64 ((rd (rd a0 x632) x919).Limit), .int .u8 ((rd (rd a0 x632) x919).Engine)] rfl rfl rfl #[.int .u8 ((rd (rd a0 x632) x919).Kind), .int .i64 ((rd (rd a0 x632) x919).Tx), .string (bs ((rd (rd a0 x632) x919).Key)), .string (bs ((rd (rd a0 x632) x919).End)), .string (bs ((rd (rd a0 x632) x919).Value)), .int .i64 ((rd (rd a0 x632) x919).Limit), .int .u8 ((rd (rd a0 x632) x919).Engine)] (by as_aux_lemma => kernel_rfl) rfl ?_
                  intro w1010 E' S
                  replace E := E.trans E'
                  clear E'
                  refine Wl_nil (tn (Wp_region_lit (W_v (.int .i64 x918) (x_move rfl) rfl (W_v (.int .i64 (IntKind.i64.wrap (x918 + (5 : Int)))) (x_ibin rfl rfl rfl rfl) rfl (W_v (pt b1007 2) (x_fieldAddr (o := 0) (off := 2) Tryd.underlying42 rfl ty9 rfl rfl) rfl ?_)))))
                  refine W_v (.string (bs ((rd (rd a0 x632) x919).Key))) (x_load (S.blk 0 rfl) ty9 rfl rfl) rfl (W_v (.int .i64 (((rd (rd a0 x632) x919).Key).length : Int)) (x_len_str Tryd.underlying9 rfl) rfl (W_v (.int .i64 (imin (8000 : Int) (((rd (rd a0 x632) x919).Key).length : Int))) (x_min2 rfl rfl) rfl (W_v (.int .i64 (IntKind.i64.wrap ((IntKind.i64.wrap (x918 + (5 : Int))) + (imin (8000 : Int) (((rd (rd a0 x632) x919).Key).length : Int))))) (x_ibin rfl rfl rfl rfl) rfl (W_v (pt b1007 3) (x_fieldAddr (o := 0) (off := 3) Tryd.underlying42 rfl ty9 rfl rfl) rfl (W_v (.string (bs ((rd (rd a0 x632) x919).End))) (x_load (S.blk 0 rfl) ty9 rfl rfl) rfl ?_)))))
                  refine W_v (.int .i64 (((rd (rd a0 x632) x919).End).length : Int)) (x_len_str Tryd.underlying9 rfl) rfl (W_v (.int .i64 (imin (8000 : Int) (((rd (rd a0 x632) x919).End).length : Int))) (x_min2 rfl rfl) rfl (W_v (.int .i64 (IntKind.i64.wrap ((IntKind.i64.wrap ((IntKind.i64.wrap (x918 + (5 : Int))) + (imin (8000 : Int) (((rd (rd a0 x632) x919).Key).length : Int)))) + (imin (8000 : Int) (((rd (rd a0 x632) x919).End).length : Int))))) (x_ibin rfl rfl rfl rfl) rfl (W_v (pt b1007 4) (x_fieldAddr (o := 0) (off := 4) Tryd.underlying42 rfl ty9 rfl rfl) rfl (W_v (.string (bs ((rd (rd a0 x632) x919).Value))) (x_load (S.blk 0 rfl) ty9 rfl rfl) rfl (W_v (.int .i64 (((rd (rd a0 x632) x919).Value).length : Int)) (x_len_str Tryd.underlying9 rfl) rfl ?_)))))
                  refine W_v (.int .i64 (imin (8000 : Int) (((rd (rd a0 x632) x919).Value).length : Int))) (x_min2 rfl rfl) rfl (W_v (.int .i64 (IntKind.i64.wrap ((IntKind.i64.wrap ((IntKind.i64.wrap ((IntKind.i64.wrap (x918 + (5 : Int))) + (imin (8000 : Int) (((rd (rd a0 x632) x919).Key).length : Int)))) + (imin (8000 : Int) (((rd (rd a0 x632) x919).End).length : Int)))) + (imin (8000 : Int) (((rd (rd a0 x632) x919).Value).length : Int))))) (x_ibin rfl rfl rfl rfl) rfl (W_v (.int .i64 (IntKind.i64.wrap ((IntKind.i64.wrap ((IntKind.i64.wrap ((IntKind.i64.wrap (x918 + (5 : Int))) + (imin (8000 : Int) (((rd (rd a0 x632) x919).Key).length : Int)))) + (imin (8000 : Int) (((rd (rd a0 x632) x919).End).length : Int)))) + (imin (8000 : Int) (((rd (rd a0 x632) x919).Value).length : Int))))) (x_assign rfl) rfl (Wl_nil (bn (tn ?_)))))
                  refine Wp_region_lit (W_v (.int .i64 x919) (x_move rfl) rfl (W_v (.int .i64 (IntKind.i64.wrap (x919 + (1 : Int)))) (x_ibin rfl rfl rfl rfl) rfl (W_v (.int .i64 (IntKind.i64.wrap (x919 + (1 : Int)))) (x_assign rfl) rfl (Wl_nil (tn ?_)))))
                  exact ⟨k, Nat.lt_succ_self k, ⟨(IntKind.i64.wrap ((IntKind.i64.wrap ((IntKind.i64.wrap ((IntKind.i64.wrap (x918 + (5 : Int))) + (imin (8000 : Int) (((rd (rd a0 x632) x919).Key).length : Int)))) + (imin (8000 : Int) (((rd (rd a0 x632) x919).End).length : Int)))) + (imin (8000 : Int) (((rd (rd a0 x632) x919).Value).length : Int)))), (IntKind.i64.wrap (x919 + (1 : Int))), H, ⟨rfl, rfl, rfl, rfl, trivial⟩, E, S.pick [] (by decide)⟩⟩
                refine Wp_cond_false (congrArg Value.bool hb982) ?_
                refine Wp_exit ?_
                refine tx (tx (bsm (?_)))
                refine tn ?_
                exact ⟨x918, Option.some.inj H, ⟨rfl, rfl, rfl, trivial⟩, E, S.pick [] (by decide)⟩
          clear o965h
          rintro ρ w1011 ⟨x964, rfl, hρ, E, S⟩
          rw [agree_eta hρ]
          clear hρ
          have H := o965H
          clear o965H
          refine bn (tn (Wp_region_lit (W_v (.int .i64 x632) (x_move rfl) rfl (W_v (.int .i64 (IntKind.i64.wrap (x632 + (1 : Int)))) (x_ibin rfl rfl rfl rfl) rfl (W_v (.int .i64 (IntKind.i64.wrap (x632 + (1 : Int)))) (x_assign rfl) rfl ?_)))))
          refine Wl_nil (tn ?_)
          exact ⟨k, Nat.lt_succ_self k, ⟨x964, (IntKind.i64.wrap (x632 + (1 : Int))), H, ⟨rfl, rfl, rfl, trivial⟩, E, S.pick [] (by decide)⟩⟩
        refine Wp_cond_false (congrArg Value.bool hb825) ?_
        refine Wp_exit ?_
        refine tx (tx (bsm (?_)))
        refine tn ?_
        exact ⟨x631, Option.some.inj H, ⟨rfl, trivial⟩, E, S.pick [] (by decide)⟩
  clear o822h
  rintro ρ w1012 ⟨x821, rfl, hρ, E, S⟩
  rw [agree_eta hρ]
  clear hρ
  have H := o822H
  clear o822H
  refine tn ?_
  as_aux_lemma =>
  refine Wp_seq (Wp_region_lit (W_v (.int .i64 x821) (x_move rfl) rfl (W_v (.bool (decide (x821 ≥ (8000 : Int)))) (x_ibin rfl rfl rfl rfl) rfl (W_v (.bool (decide (x821 ≥ (8000 : Int)))) (x_assign rfl) rfl (Wl_nil ?_)))))
  refine tn ?_
  refine Wp_ret ?_
  obtain rfl := Option.some.inj H
  exact ⟨_, _, _, fun w1 e1 => run_resR (vs := [.bool (decide (x821 ≥ (8000 : Int)))]) (FA.cons (rfl) (FA.nil)), HM, E, S.pick [] (by decide), ⟨rfl, rfl⟩⟩
end Go.Proofs.YtkknoimjgifhlaaDoor
