import Derived.Test.YtkknoimjgifhlaaDoorGr1B
import Derived.Test.YtkknoimjgifhlaaDoorGr1P0
import Derived.Test.YtkknoimjgifhlaaDoorGr1P4
import Derived.Test.YtkknoimjgifhlaaDoorGr1P5
namespace Go.Proofs.YtkknoimjgifhlaaDoor
open Go
set_option linter.unusedVariables false
set_option linter.unusedSimpArgs false
/-! ### ferryman/ferrymanlaw30.RoomNames: function 3 -/
def ferrymanlaw30_RoomNames_l1 (t1 : api_Config) (x190 : List api_Call) (t201 : (List api_Event)) (x212 : List St46) : Nat → Int → Option ((Bool) ⊕ (Unit))
  | 0, _ => none
  | k + 1, x418 => (if (decide (x418 < (x212.length : Int))) = true then (if 0 ≤ x418 ∧ x418 < (x212.length : Int) then (if 0 ≤ (rd x212 x418).n ∧ (rd x212 x418).n ≤ (t201.length : Int) then (Option.bind (ferrymanlaw30_is k (⟨t1.Tasks, t1.Active, (4 : Int), (4 : Int), t1.TS, t1.KeyLen, t1.ValLen, t1.Fan⟩ : api_Config) ([x190] : List (List api_Call)) (List.take ((rd x212 x418).n).toNat t201) ((rd x212 x418).slots) ((rd x212 x418).anchors)) (fun t485 => (if (!t485) = true then some (.inl false) else ferrymanlaw30_RoomNames_l1 t1 x190 t201 x212 k (IntKind.i64.wrap (x418 + (1 : Int)))))) else none) else none) else some (.inr ()))
set_option maxHeartbeats 2000000 in
theorem ferrymanlaw30_RoomNames_l1.mono {t1 : api_Config} {x190 : List api_Call} {t201 : (List api_Event)} {x212 : List St46} : ∀ {kl : Nat} {x0}, OLe (ferrymanlaw30_RoomNames_l1 t1 x190 t201 x212 kl x0) (ferrymanlaw30_RoomNames_l1 t1 x190 t201 x212 (kl + 1) x0) := by
  intro kl
  induction kl with
  | zero => intros; exact OLe.none
  | succ kl ih =>
    intros
    rw [ferrymanlaw30_RoomNames_l1.eq_2, ferrymanlaw30_RoomNames_l1.eq_2]
    repeat' (first | with_reducible exact OLe.none | with_reducible exact OLe.some | with_reducible refine OLe.ite ?_ ?_ | with_reducible refine OLe.bind ?_ (fun _ => ?_) | with_reducible exact ferrymanlaw30_is.mono | exact ih | refine OLe.bind ?_ (fun _ => ?_) | refine OLe.ite ?_ ?_ | refine OLe.elim (fun _ => ?_) (fun _ => ?_) | split)
def ferrymanlaw30_RoomNames_l0 (t1 : api_Config) : Nat → Int → Option ((Bool) ⊕ (Unit))
  | 0, _ => none
  | k + 1, x83 => (if (decide (x83 < (([(2 : Int), (3 : Int), (93 : Int), (93 : Int), (93 : Int), (215 : Int), (97 : Int), (97 : Int), (215 : Int), (215 : Int), (2 : Int)] : List Int).length : Int))) = true then (if 0 ≤ x83 ∧ x83 < (([(2 : Int), (3 : Int), (93 : Int), (93 : Int), (93 : Int), (215 : Int), (97 : Int), (97 : Int), (215 : Int), (215 : Int), (2 : Int)] : List Int).length : Int) then (Option.bind (room_Steps k t1 (IntKind.u8.wrap x83)) (fun t112 => (if (t112 != (rd ([(2 : Int), (3 : Int), (93 : Int), (93 : Int), (93 : Int), (215 : Int), (97 : Int), (97 : Int), (215 : Int), (215 : Int), (2 : Int)] : List Int) x83)) = true then some (.inl false) else ferrymanlaw30_RoomNames_l0 t1 k (IntKind.i64.wrap (x83 + (1 : Int)))))) else none) else some (.inr ()))
set_option maxHeartbeats 2000000 in
theorem ferrymanlaw30_RoomNames_l0.mono {t1 : api_Config} : ∀ {kl : Nat} {x0}, OLe (ferrymanlaw30_RoomNames_l0 t1 kl x0) (ferrymanlaw30_RoomNames_l0 t1 (kl + 1) x0) := by
  intro kl
  induction kl with
  | zero => intros; exact OLe.none
  | succ kl ih =>
    intros
    rw [ferrymanlaw30_RoomNames_l0.eq_2, ferrymanlaw30_RoomNames_l0.eq_2]
    repeat' (first | with_reducible exact OLe.none | with_reducible exact OLe.some | with_reducible refine OLe.ite ?_ ?_ | with_reducible refine OLe.bind ?_ (fun _ => ?_) | with_reducible exact room_Steps.mono | exact ih | refine OLe.bind ?_ (fun _ => ?_) | refine OLe.ite ?_ ?_ | refine OLe.elim (fun _ => ?_) (fun _ => ?_) | split)
def ferrymanlaw30_RoomNames (k : Nat)  : Option (Bool) :=
  (Option.bind (ferrymanlaw30_small k ) (fun t1 => (Option.bind (room_Bound k (⟨t1.Tasks, t1.Active, t1.Keys, (9 : Int), t1.TS, t1.KeyLen, t1.ValLen, t1.Fan⟩ : api_Config)) (fun t13 => (Option.bind (ferrymanlaw30_works k ) (fun t16 => (Option.bind (α := Bool) (if (((!t16) || (t13.1 != (0 : Int))) || (t13.2 != (0 : Int))) = true then some (true) else (Option.bind (room_Steps k (⟨t1.Tasks, t1.Active, t1.Keys, (9 : Int), t1.TS, t1.KeyLen, t1.ValLen, t1.Fan⟩ : api_Config) (2 : Int)) (fun t30 => some ((t30 != (0 : Int)))))) (fun x28 => (Option.bind (α := Bool) (if x28 = true then some (true) else (Option.bind (room_Rounds k (⟨t1.Tasks, t1.Active, t1.Keys, (9 : Int), t1.TS, t1.KeyLen, t1.ValLen, t1.Fan⟩ : api_Config)) (fun t43 => some ((t43 != (0 : Int)))))) (fun x41 => (if x41 = true then some false else (Option.bind (ferrymanlaw30_RoomNames_l0 t1 k (0 : Int)) (fun o99o => Sum.elim (fun r' => some r') (fun _ => (Option.bind (room_Bound k (⟨(6 : Int), (8 : Int), (64 : Int), (8 : Int), (1 : Int), (1 : Int), (0 : Int), (8 : Int)⟩ : api_Config)) (fun t121 => (Option.bind (α := Bool) (if ((t121.1 != (3584 : Int)) || (t121.2 != (3136 : Int))) = true then some (true) else (Option.bind (room_Rounds k (⟨(6 : Int), (8 : Int), (64 : Int), (8 : Int), (1 : Int), (1 : Int), (0 : Int), (8 : Int)⟩ : api_Config)) (fun t153 => (Option.bind (room_Steps k (⟨(6 : Int), (8 : Int), (64 : Int), (8 : Int), (1 : Int), (1 : Int), (0 : Int), (8 : Int)⟩ : api_Config) (8 : Int)) (fun t156 => some ((decide (t153 ≤ t156)))))))) (fun x151 => (if x151 = true then some false else (Option.bind (room_Now k (⟨t1.Tasks, t1.Active, t1.Keys, (9 : Int), t1.TS, t1.KeyLen, t1.ValLen, t1.Fan⟩ : api_Config) ([] : (List (List api_Call))) ([] : (List api_Event))) (fun t161 => (Option.bind (room_Now k t1 ([] : (List (List api_Call))) ([(⟨(1 : Int), (0 : Int), (0 : Int), ⟨(0 : Int), false, ([] : Str), ([] : (List api_Pair))⟩⟩ : api_Event)] : List api_Event)) (fun t167 => (Option.bind (α := Bool) (if ((t161.2.2 != (1 : Int)) || (t167.2.2 != (4 : Int))) = true then some (true) else (Option.bind (ferrymanlaw30_is k t1 ([] : (List (List api_Call))) ([] : (List api_Event)) (0 : Int) (0 : Int)) (fun t180 => some ((!t180))))) (fun x178 => (if x178 = true then some false else (Option.bind (α := List api_Call) (some ([(⟨(1 : Int), (0 : Int), ([] : Str), ([] : Str), ([] : Str), (0 : Int), (0 : Int)⟩ : api_Call), (⟨(3 : Int), (1 : Int), ([97] : Str), ([] : Str), ([] : Str), (0 : Int), (0 : Int)⟩ : api_Call), (⟨(3 : Int), (1 : Int), ([98] : Str), ([] : Str), ([] : Str), (0 : Int), (0 : Int)⟩ : api_Call), (⟨(6 : Int), (1 : Int), ([] : Str), ([] : Str), ([] : Str), (0 : Int), (0 : Int)⟩ : api_Call), (⟨(1 : Int), (0 : Int), ([] : Str), ([] : Str), ([] : Str), (0 : Int), (0 : Int)⟩ : api_Call), (⟨(4 : Int), (2 : Int), ([97] : Str), ([] : Str), ([] : Str), (0 : Int), (0 : Int)⟩ : api_Call), (⟨(3 : Int), (2 : Int), ([99] : Str), ([] : Str), ([] : Str), (0 : Int), (0 : Int)⟩ : api_Call), (⟨(6 : Int), (2 : Int), ([] : Str), ([] : Str), ([] : Str), (0 : Int), (0 : Int)⟩ : api_Call), (⟨(9 : Int), (0 : Int), ([] : Str), ([] : Str), ([] : Str), (0 : Int), (2 : Int)⟩ : api_Call), (⟨(8 : Int), (0 : Int), ([] : Str), ([] : Str), ([] : Str), (0 : Int), (0 : Int)⟩ : api_Call), (⟨(1 : Int), (0 : Int), ([] : Str), ([] : Str), ([] : Str), (0 : Int), (0 : Int)⟩ : api_Call), (⟨(3 : Int), (3 : Int), ([98] : Str), ([] : Str), ([] : Str), (0 : Int), (0 : Int)⟩ : api_Call), (⟨(7 : Int), (3 : Int), ([] : Str), ([] : Str), ([] : Str), (0 : Int), (0 : Int)⟩ : api_Call)] : List api_Call)) (fun x190 => (Option.bind (ferrymanlaw30_run k ([x190] : List (List api_Call)) (13 : Int)) (fun t201 => (Option.bind (α := List St46) (some ([(⟨(5 : Int), (3 : Int), (2 : Int)⟩ : St46), (⟨(6 : Int), (1 : Int), (1 : Int)⟩ : St46), (⟨(8 : Int), (4 : Int), (3 : Int)⟩ : St46), (⟨(9 : Int), (2 : Int), (2 : Int)⟩ : St46), (⟨(11 : Int), (2 : Int), (2 : Int)⟩ : St46), (⟨(12 : Int), (2 : Int), (2 : Int)⟩ : St46), (⟨(17 : Int), (5 : Int), (3 : Int)⟩ : St46), (⟨(18 : Int), (3 : Int), (2 : Int)⟩ : St46), (⟨(20 : Int), (6 : Int), (4 : Int)⟩ : St46), (⟨(24 : Int), (4 : Int), (3 : Int)⟩ : St46), (⟨(26 : Int), (9 : Int), (3 : Int)⟩ : St46), (⟨(27 : Int), (4 : Int), (3 : Int)⟩ : St46), (⟨(29 : Int), (4 : Int), (4 : Int)⟩ : St46), (⟨(30 : Int), (2 : Int), (2 : Int)⟩ : St46), (⟨(35 : Int), (5 : Int), (3 : Int)⟩ : St46), (⟨(36 : Int), (3 : Int), (2 : Int)⟩ : St46), (⟨(38 : Int), (3 : Int), (3 : Int)⟩ : St46), (⟨(39 : Int), (2 : Int), (2 : Int)⟩ : St46)] : List St46)) (fun x212 => (Option.bind (ferrymanlaw30_RoomNames_l1 t1 x190 t201 x212 k (0 : Int)) (fun o453o => Sum.elim (fun r' => some r') (fun _ => some true) o453o))))))))))))))))))))) o99o)))))))))))))
set_option maxHeartbeats 2000000 in
theorem ferrymanlaw30_RoomNames.mono {k : Nat}  : OLe (ferrymanlaw30_RoomNames k ) (ferrymanlaw30_RoomNames (k + 1) ) := by
  unfold ferrymanlaw30_RoomNames
  repeat' (first | with_reducible exact OLe.none | with_reducible exact OLe.some | with_reducible refine OLe.ite ?_ ?_ | with_reducible refine OLe.bind ?_ (fun _ => ?_) | with_reducible exact ferrymanlaw30_RoomNames_l0.mono | with_reducible exact ferrymanlaw30_RoomNames_l1.mono | with_reducible exact ferrymanlaw30_is.mono | with_reducible exact ferrymanlaw30_run.mono | with_reducible exact ferrymanlaw30_small.mono | with_reducible exact ferrymanlaw30_works.mono | with_reducible exact room_Bound.mono | with_reducible exact room_Now.mono | with_reducible exact room_Rounds.mono | with_reducible exact room_Steps.mono | refine OLe.bind ?_ (fun _ => ?_) | refine OLe.ite ?_ ?_ | refine OLe.elim (fun _ => ?_) (fun _ => ?_) | split)
set_option maxHeartbeats 80000000 in
set_option maxRecDepth 100000 in
theorem ferrymanlaw30_RoomNames.con (k : Nat) (M : Hp)  (r : Bool)  (hg0 : ∃ gt fr, M 0 = some (.cells #[.nilFunc, .func (.func 92) #[] #[], .func (.func 93) #[] #[], .func (.func 94) #[] #[], .func (.func 95) #[] #[], .func (.func 96) #[] #[], .func (.func 97) #[] #[], .func (.func 98) #[] #[], .func (.func 99) #[] #[], .func (.func 100) #[] #[]] gt fr)) (hg1 : ∃ gt fr, M 1 = some (.cells #[.nilFunc, .func (.func 114) #[] #[], .func (.func 116) #[] #[], .func (.func 118) #[] #[]] gt fr)) (h : ferrymanlaw30_RoomNames k  = some r) : Con Tryd.prog 3 #[] M [] (fun v M' Γ' => v = .bool r ∧ Γ' = []) := by
  refine con_of_wp Tryd.func3 rfl Tryd.ntmps3 Tryd.results3 rfl ?_
  intro w F rn S hrn
  have E := Ext.refl w
  have HM := Hp.le_refl M
  have H := h
  unfold ferrymanlaw30_RoomNames at H
  refine Wp_seq (Wp_region_lit (W_v (.bool false) (x_assign rfl) rfl (Wl_nil (tn (Wp_seq ?_)))))
  refine Wp_region_lit ?_
  obtain ⟨t1, ht2, H⟩ := bindS H
  refine W_callF fn8 (ferrymanlaw30_small.con k M  t1  ht2) S rfl rfl (by rintro _ _ _ ⟨_, rfl⟩; exact flat_nil) ?_
  rintro _ w3 _ Γ' E' S ⟨rfl, rfl⟩
  replace E := E.trans E'
  clear E'
  refine W_alloc S #[.int .i64 0, .int .i64 0, .int .i64 0, .int .i64 0, .int .i64 0, .int .i64 0, .int .i64 0, .int .i64 0] ty23 rfl rfl ?_
  intro b4 w5 E' S
  replace E := E.trans E'
  clear E'
  refine W_store S 0 rfl ty23 rfl rfl [.int .i64 t1.Tasks, .int .i64 t1.Active, .int .i64 t1.Keys, .int .i64 t1.Depth, .int .i64 t1.TS, .int .i64 t1.KeyLen, .int .i64 t1.ValLen, .int .i64 t1.Fan] rfl rfl rfl #[.int .i64 t1.Tasks, .int .i64 t1.Active, .int .i64 t1.Keys, .int .i64 t1.Depth, .int .i64 t1.TS, .int .i64 t1.KeyLen, .int .i64 t1.ValLen, .int .i64 t1.Fan] (by as_aux_lemma => kernel_rfl) rfl ?_
  intro w7 E' S
  replace E := E.trans E'
  clear E'
  refine Wl_nil (tn (Wp_seq (Wp_region_lit (W_v (.agg #[.int .i64 t1.Tasks, .int .i64 t1.Active, .int .i64 t1.Keys, .int .i64 t1.Depth, .int .i64 t1.TS, .int .i64 t1.KeyLen, .int .i64 t1.ValLen, .int .i64 t1.Fan]) (x_loadA (S.blk 0 rfl) ty23 rfl (sub_of_extract rfl) rfl rfl) rfl ?_))))
  refine W_alloc S #[.int .i64 0, .int .i64 0, .int .i64 0, .int .i64 0, .int .i64 0, .int .i64 0, .int .i64 0, .int .i64 0] ty23 rfl rfl ?_
  intro b8 w9 E' S
  replace E := E.trans E'
  clear E'
  refine W_store S 0 rfl ty23 rfl rfl [.int .i64 t1.Tasks, .int .i64 t1.Active, .int .i64 t1.Keys, .int .i64 t1.Depth, .int .i64 t1.TS, .int .i64 t1.KeyLen, .int .i64 t1.ValLen, .int .i64 t1.Fan] rfl rfl rfl #[.int .i64 t1.Tasks, .int .i64 t1.Active, .int .i64 t1.Keys, .int .i64 t1.Depth, .int .i64 t1.TS, .int .i64 t1.KeyLen, .int .i64 t1.ValLen, .int .i64 t1.Fan] (by as_aux_lemma => kernel_rfl) rfl ?_
  intro w11 E' S
  replace E := E.trans E'
  clear E'
  refine Wl_nil (tn (Wp_seq (Wp_region_lit (W_v (pt b8 3) (x_fieldAddr (o := 0) (off := 3) Tryd.underlying23 rfl ty3 rfl rfl) rfl ?_))))
  refine W_store S 0 rfl ty3 rfl rfl [.int .i64 9] rfl rfl rfl #[.int .i64 t1.Tasks, .int .i64 t1.Active, .int .i64 t1.Keys, .int .i64 9, .int .i64 t1.TS, .int .i64 t1.KeyLen, .int .i64 t1.ValLen, .int .i64 t1.Fan] rfl rfl ?_
  intro w12 E' S
  replace E := E.trans E'
  clear E'
  refine Wl_nil (tn (Wp_seq (Wp_region_lit (W_v (.agg #[.int .i64 t1.Tasks, .int .i64 t1.Active, .int .i64 t1.Keys, .int .i64 9, .int .i64 t1.TS, .int .i64 t1.KeyLen, .int .i64 t1.ValLen, .int .i64 t1.Fan]) (x_loadA (S.blk 0 rfl) ty23 rfl (sub_of_extract rfl) rfl rfl) rfl ?_))))
  obtain ⟨t13, ht14, H⟩ := bindS H
  refine W_callF fn9 (room_Bound.con k M (⟨t1.Tasks, t1.Active, t1.Keys, (9 : Int), t1.TS, t1.KeyLen, t1.ValLen, t1.Fan⟩ : api_Config) t13  ht14) S rfl rfl (by rintro _ _ _ ⟨_, rfl⟩; exact flat_nil) ?_
  rintro _ w15 _ Γ' E' S ⟨rfl, rfl⟩
  replace E := E.trans E'
  clear E'
  refine W_v (.tuple #[.int .i64 t13.1, .int .i64 t13.2]) (x_move rfl) rfl (W_v (.int .i64 t13.1) (x_extract rfl rfl) rfl (W_v (.int .i64 t13.2) (x_extract rfl rfl) rfl (W_v (.int .i64 t13.1) (x_assign rfl) rfl (W_v (.int .i64 t13.2) (x_assign rfl) rfl (Wl_nil ?_)))))
  refine tn ?_
  as_aux_lemma =>
  refine Wp_seq (Wp_seq (Wp_region_lit ?_))
  obtain ⟨t16, ht17, H⟩ := bindS H
  refine W_callF fn10 (ferrymanlaw30_works.con k M  t16 hg0 hg1 ht17) S rfl rfl (by rintro _ _ _ ⟨_, rfl⟩; exact flat_nil) ?_
  rintro _ w18 _ Γ' E' S ⟨rfl, rfl⟩
  replace E := E.trans E'
  clear E'
  refine W_v (.bool (!t16)) (x_not (b := t16) rfl) rfl (W_v (.bool (!t16)) (x_move rfl) rfl ?_)
  refine Wl_cutN 3 (fun ρ w' => Agree ρ [(1, pt b4 0), (2, pt b8 0), (4, .int .i64 t13.2), (31, .bool ((!t16) || (t13.1 != (0 : Int))))] ∧ w18 = w') ?_ ?_
  · rcases boolCases (!t16) with hb19 | hb19
    · skip
      refine W_yes (congrArg some hb19) (W_v (.int .i64 t13.1) (x_move rfl) rfl (W_yes (congrArg some hb19) (W_v (.bool (t13.1 != (0 : Int))) (x_ibin rfl rfl rfl rfl) rfl (W_v (.bool (t13.1 != (0 : Int))) (x_pick (k := false) (congrArg Value.bool hb19) rfl) rfl (Wl_nil ?_)))))
      exact ⟨⟨rfl, rfl, rfl, (by first | rfl | (rw [hb19]; rfl) | (simp only [hb19]; rfl)), trivial⟩, rfl⟩
    · skip
      refine W_no (skF hb19) rfl (W_no (skF hb19) rfl (W_v (.bool true) (x_pick (k := true) (congrArg Value.bool hb19) rfl) rfl (Wl_nil ?_)))
      exact ⟨⟨rfl, rfl, rfl, (by first | rfl | (rw [hb19]; rfl) | (simp only [hb19]; rfl)), trivial⟩, rfl⟩
  as_aux_lemma =>
  rintro ρ _ ⟨hρ, rfl⟩
  rw [agree_eta hρ]
  clear hρ
  refine W_v (.bool ((!t16) || (t13.1 != (0 : Int)))) (x_move rfl) rfl ?_
  refine Wl_cutN 3 (fun ρ w' => Agree ρ [(1, pt b4 0), (2, pt b8 0), (35, .bool (((!t16) || (t13.1 != (0 : Int))) || (t13.2 != (0 : Int))))] ∧ w18 = w') ?_ ?_
  · rcases boolCases ((!t16) || (t13.1 != (0 : Int))) with hb20 | hb20
    · skip
      refine W_yes (congrArg some hb20) (W_v (.int .i64 t13.2) (x_move rfl) rfl (W_yes (congrArg some hb20) (W_v (.bool (t13.2 != (0 : Int))) (x_ibin rfl rfl rfl rfl) rfl (W_v (.bool (t13.2 != (0 : Int))) (x_pick (k := false) (congrArg Value.bool hb20) rfl) rfl (Wl_nil ?_)))))
      exact ⟨⟨rfl, rfl, (by first | rfl | (rw [hb20]; rfl) | (simp only [hb20]; rfl)), trivial⟩, rfl⟩
    · skip
      refine W_no (skF hb20) rfl (W_no (skF hb20) rfl (W_v (.bool true) (x_pick (k := true) (congrArg Value.bool hb20) rfl) rfl (Wl_nil ?_)))
      exact ⟨⟨rfl, rfl, (by first | rfl | (rw [hb20]; rfl) | (simp only [hb20]; rfl)), trivial⟩, rfl⟩
  as_aux_lemma =>
  rintro ρ _ ⟨hρ, rfl⟩
  rw [agree_eta hρ]
  clear hρ
  refine W_v (.bool (((!t16) || (t13.1 != (0 : Int))) || (t13.2 != (0 : Int)))) (x_move rfl) rfl ?_
  obtain ⟨o29, o29h, o29H⟩ := bindS H
  clear H
  refine Wl_cutN 4 (fun ρ w' => ∃ (x28 : Bool), (x28) = o29 ∧ Agree ρ [(1, pt b4 0), (2, pt b8 0), (40, .bool x28)] ∧ Ext w w' ∧ St w' M F [Blk b8 (.cells #[.int .i64 t1.Tasks, .int .i64 t1.Active, .int .i64 t1.Keys, .int .i64 9, .int .i64 t1.TS, .int .i64 t1.KeyLen, .int .i64 t1.ValLen, .int .i64 t1.Fan] 23 (0, 0)), B23 b4 t1]) ?_ ?_
  · have H := o29h
    rcases iteS H with ⟨hb27, H⟩ | ⟨hb27, H⟩
    · skip
      refine W_no (skF hb27) rfl (W_no (skF hb27) rfl (W_no (skF hb27) rfl (W_v (.bool true) (x_pick (k := true) (congrArg Value.bool hb27) rfl) rfl (Wl_nil ?_))))
      exact ⟨true, Option.some.inj H, ⟨rfl, rfl, rfl, trivial⟩, E, S.pick [0, 1] (by decide)⟩
    · skip
      refine W_yes (congrArg some hb27) (W_v (.agg #[.int .i64 t1.Tasks, .int .i64 t1.Active, .int .i64 t1.Keys, .int .i64 9, .int .i64 t1.TS, .int .i64 t1.KeyLen, .int .i64 t1.ValLen, .int .i64 t1.Fan]) (x_loadA (S.blk 0 rfl) ty23 rfl (sub_of_extract rfl) rfl rfl) rfl (W_yes (congrArg some hb27) ?_))
      obtain ⟨t30, ht31, H⟩ := bindS H
      refine W_callF fn11 (room_Steps.con k M (⟨t1.Tasks, t1.Active, t1.Keys, (9 : Int), t1.TS, t1.KeyLen, t1.ValLen, t1.Fan⟩ : api_Config) (2 : Int) t30  ht31) S rfl rfl (by rintro _ _ _ ⟨_, rfl⟩; exact flat_nil) ?_
      rintro _ w32 _ Γ' E' S ⟨rfl, rfl⟩
      replace E := E.trans E'
      clear E'
      refine W_yes (congrArg some hb27) (W_v (.bool (t30 != (0 : Int))) (x_ibin rfl rfl rfl rfl) rfl (W_v (.bool (t30 != (0 : Int))) (x_pick (k := false) (congrArg Value.bool hb27) rfl) rfl (Wl_nil ?_)))
      exact ⟨(t30 != (0 : Int)), Option.some.inj H, ⟨rfl, rfl, rfl, trivial⟩, E, S.pick [0, 1] (by decide)⟩
  as_aux_lemma =>
  clear o29h
  rintro ρ w33 ⟨x28, rfl, hρ, E, S⟩
  rw [agree_eta hρ]
  clear hρ
  have H := o29H
  clear o29H
  refine W_v (.bool x28) (x_move rfl) rfl ?_
  obtain ⟨o42, o42h, o42H⟩ := bindS H
  clear H
  refine Wl_cutN 4 (fun ρ w' => ∃ (x41 : Bool), (x41) = o42 ∧ Agree ρ [(1, pt b4 0), (2, pt b8 0), (45, .bool x41)] ∧ Ext w w' ∧ St w' M F [Blk b8 (.cells #[.int .i64 t1.Tasks, .int .i64 t1.Active, .int .i64 t1.Keys, .int .i64 9, .int .i64 t1.TS, .int .i64 t1.KeyLen, .int .i64 t1.ValLen, .int .i64 t1.Fan] 23 (0, 0)), B23 b4 t1]) ?_ ?_
  · have H := o42h
    rcases iteS H with ⟨hb40, H⟩ | ⟨hb40, H⟩
    · skip
      refine W_no (skF hb40) rfl (W_no (skF hb40) rfl (W_no (skF hb40) rfl (W_v (.bool true) (x_pick (k := true) (congrArg Value.bool hb40) rfl) rfl (Wl_nil ?_))))
      exact ⟨true, Option.some.inj H, ⟨rfl, rfl, rfl, trivial⟩, E, S.pick [0, 1] (by decide)⟩
    · skip
      refine W_yes (congrArg some hb40) (W_v (.agg #[.int .i64 t1.Tasks, .int .i64 t1.Active, .int .i64 t1.Keys, .int .i64 9, .int .i64 t1.TS, .int .i64 t1.KeyLen, .int .i64 t1.ValLen, .int .i64 t1.Fan]) (x_loadA (S.blk 0 rfl) ty23 rfl (sub_of_extract rfl) rfl rfl) rfl (W_yes (congrArg some hb40) ?_))
      obtain ⟨t43, ht44, H⟩ := bindS H
      refine W_callF fn12 (room_Rounds.con k M (⟨t1.Tasks, t1.Active, t1.Keys, (9 : Int), t1.TS, t1.KeyLen, t1.ValLen, t1.Fan⟩ : api_Config) t43  ht44) S rfl rfl (by rintro _ _ _ ⟨_, rfl⟩; exact flat_nil) ?_
      rintro _ w45 _ Γ' E' S ⟨rfl, rfl⟩
      replace E := E.trans E'
      clear E'
      refine W_yes (congrArg some hb40) (W_v (.bool (t43 != (0 : Int))) (x_ibin rfl rfl rfl rfl) rfl (W_v (.bool (t43 != (0 : Int))) (x_pick (k := false) (congrArg Value.bool hb40) rfl) rfl (Wl_nil ?_)))
      exact ⟨(t43 != (0 : Int)), Option.some.inj H, ⟨rfl, rfl, rfl, trivial⟩, E, S.pick [0, 1] (by decide)⟩
  as_aux_lemma =>
  clear o42h
  rintro ρ w46 ⟨x41, rfl, hρ, E, S⟩
  rw [agree_eta hρ]
  clear hρ
  have H := o42H
  clear o42H
  refine Wl_nil (tn ?_)
  rcases iteS H with ⟨hb47, H⟩ | ⟨hb47, H⟩
  · refine Wp_cond_true (congrArg Value.bool hb47) ?_
    refine Wp_seq (Wp_region_lit (W_v (.bool false) (x_assign rfl) rfl (Wl_nil (tn ?_))))
    refine Wp_ret ?_
    refine tr (?_)
    obtain rfl := Option.some.inj H
    exact ⟨_, _, _, fun w1 e1 => run_resR (vs := [.bool false]) (FA.cons (rfl) (FA.nil)), HM, E, S.pick [] (by decide), ⟨rfl, rfl⟩⟩
  refine Wp_cond_false (congrArg Value.bool hb47) (Wp_skip (tn (Wp_seq (Wp_seq (Wp_region_lit ?_)))))
  refine W_bslice S #[.int .i64 2, .int .i64 3, .int .i64 93, .int .i64 93, .int .i64 93, .int .i64 215, .int .i64 97, .int .i64 97, .int .i64 215, .int .i64 215, .int .i64 2] Tryd.underlying30 ty3 rfl rfl #[.int .i64 0, .int .i64 0, .int .i64 0, .int .i64 0, .int .i64 0, .int .i64 0, .int .i64 0, .int .i64 0, .int .i64 0, .int .i64 0, .int .i64 0] (by as_aux_lemma => kernel_rfl) (by as_aux_lemma => kernel_rfl) rfl ?_
  intro b48 w49 E' S
  replace E := E.trans E'
  clear E'
  replace S := S.blk_row (r := (rInt .i64)) (l := ([(2 : Int), (3 : Int), (93 : Int), (93 : Int), (93 : Int), (215 : Int), (97 : Int), (97 : Int), (215 : Int), (215 : Int), (2 : Int)] : List Int)) 0 rfl 11 (Nat.le_refl 11) rfl (Cells.cons (vs := [.int .i64 2]) (rfl) (Cells.cons (vs := [.int .i64 3]) (rfl) (Cells.cons (vs := [.int .i64 93]) (rfl) (Cells.cons (vs := [.int .i64 93]) (rfl) (Cells.cons (vs := [.int .i64 93]) (rfl) (Cells.cons (vs := [.int .i64 215]) (rfl) (Cells.cons (vs := [.int .i64 97]) (rfl) (Cells.cons (vs := [.int .i64 97]) (rfl) (Cells.cons (vs := [.int .i64 215]) (rfl) (Cells.cons (vs := [.int .i64 215]) (rfl) (Cells.cons (vs := [.int .i64 2]) (rfl) Cells.nil)))))))))))
  refine W_v (.int .i64 (([(2 : Int), (3 : Int), (93 : Int), (93 : Int), (93 : Int), (215 : Int), (97 : Int), (97 : Int), (215 : Int), (215 : Int), (2 : Int)] : List Int).length : Int)) (x_len_slice (n := ([(2 : Int), (3 : Int), (93 : Int), (93 : Int), (93 : Int), (215 : Int), (97 : Int), (97 : Int), (215 : Int), (215 : Int), (2 : Int)] : List Int).length) Tryd.underlying30 rfl) rfl (W_v (.int .i64 0) (x_move rfl) rfl (Wl_nil (tn ?_)))
  obtain ⟨o99, o99h, o99H⟩ := bindS H
  clear H
  refine Wp_blockJ (fun ρ w' => .inr () = o99 ∧ Agree ρ [(1, pt b4 0), (2, pt b8 0)] ∧ Ext w w' ∧ St w' M F [Blk b8 (.cells #[.int .i64 t1.Tasks, .int .i64 t1.Active, .int .i64 t1.Keys, .int .i64 9, .int .i64 t1.TS, .int .i64 t1.KeyLen, .int .i64 t1.ValLen, .int .i64 t1.Fan] 23 (0, 0)), B23 b4 t1]) ?_ ?_
  · skip
    refine Wp_loop (fun n ρ w' => ∃ (x83 : Int), ferrymanlaw30_RoomNames_l0 t1 n x83 = some o99 ∧ Agree ρ [(1, pt b4 0), (2, pt b8 0), (46, .slice (some ⟨b48, 0, none⟩) ([(2 : Int), (3 : Int), (93 : Int), (93 : Int), (93 : Int), (215 : Int), (97 : Int), (97 : Int), (215 : Int), (215 : Int), (2 : Int)] : List Int).length 11), (47, .int .i64 (([(2 : Int), (3 : Int), (93 : Int), (93 : Int), (93 : Int), (215 : Int), (97 : Int), (97 : Int), (215 : Int), (215 : Int), (2 : Int)] : List Int).length : Int)), (48, .int .i64 x83)] ∧ Ext w w' ∧ St w' M F [Row (rInt .i64) 3 (.slice (some ⟨b48, 0, none⟩) ([(2 : Int), (3 : Int), (93 : Int), (93 : Int), (93 : Int), (215 : Int), (97 : Int), (97 : Int), (215 : Int), (215 : Int), (2 : Int)] : List Int).length 11) ([(2 : Int), (3 : Int), (93 : Int), (93 : Int), (93 : Int), (215 : Int), (97 : Int), (97 : Int), (215 : Int), (215 : Int), (2 : Int)] : List Int), Blk b8 (.cells #[.int .i64 t1.Tasks, .int .i64 t1.Active, .int .i64 t1.Keys, .int .i64 9, .int .i64 t1.TS, .int .i64 t1.KeyLen, .int .i64 t1.ValLen, .int .i64 t1.Fan] 23 (0, 0)), B23 b4 t1]) k ?_ ?_
    · skip
      exact ⟨(0 : Int), o99h, ⟨rfl, rfl, rfl, rfl, rfl, trivial⟩, E, S.pick [0, 1, 2] (by decide)⟩
    · intro n
      rintro ρ w100 ⟨x83, H, hρ, E, S⟩
      rw [agree_eta hρ]
      clear hρ
      cases n with
      | zero => cases H
      | succ k =>
        rw [ferrymanlaw30_RoomNames_l0.eq_2] at H
        refine Wp_seq (Wp_region_lit (W_v (.bool (decide (x83 < (([(2 : Int), (3 : Int), (93 : Int), (93 : Int), (93 : Int), (215 : Int), (97 : Int), (97 : Int), (215 : Int), (215 : Int), (2 : Int)] : List Int).length : Int)))) (x_ibin rfl rfl rfl rfl) rfl (Wl_nil (tn (Wp_seq ?_)))))
        rcases iteS H with ⟨hb101, H⟩ | ⟨hb101, H⟩
        · refine Wp_cond_true (congrArg Value.bool hb101) ?_
          refine Wp_skip (tn (Wp_seq ?_))
          refine Wp_block ?_
          refine Wp_seq (Wp_region_lit (W_v (.int .i64 x83) (x_move rfl) rfl ?_))
          obtain ⟨⟨p102, p103⟩, H⟩ := chkS H
          obtain ⟨b104, o105, cs106, _, _, ee111, hb107, vs108, hR109, hc110⟩ := SlW.at' (S.row_read 0 rfl) p102 p103
          obtain rfl : vs108 = _ := hR109
          refine W_v (.pointer (some ⟨b104, o105 + x83.toNat * 1, none⟩)) (x_indexAddr Tryd.underlying30 ty3 (slA ee111) rfl p102 p103) rfl (W_v (.int .i64 (rd ([(2 : Int), (3 : Int), (93 : Int), (93 : Int), (93 : Int), (215 : Int), (97 : Int), (97 : Int), (215 : Int), (215 : Int), (2 : Int)] : List Int) x83)) (x_load (Hp.of_get hb107) ty3 rfl (hc110 0 _ rfl)) rfl (W_v (.int .i64 x83) (x_assign rfl) rfl (W_v (.int .i64 (rd ([(2 : Int), (3 : Int), (93 : Int), (93 : Int), (93 : Int), (215 : Int), (97 : Int), (97 : Int), (215 : Int), (215 : Int), (2 : Int)] : List Int) x83)) (x_assign rfl) rfl (Wl_nil (tn ?_)))))
          refine Wp_seq (Wp_region_lit (W_v (.agg #[.int .i64 t1.Tasks, .int .i64 t1.Active, .int .i64 t1.Keys, .int .i64 t1.Depth, .int .i64 t1.TS, .int .i64 t1.KeyLen, .int .i64 t1.ValLen, .int .i64 t1.Fan]) (x_loadA (S.blk 2 rfl) ty23 rfl (sub_of_extract rfl) rfl rfl) rfl (W_v (.int .i64 x83) (x_move rfl) rfl (W_v (.int .u8 (IntKind.u8.wrap x83)) (x_conv_int Tryd.underlying3 Tryd.underlying5 rfl) rfl ?_))))
          obtain ⟨t112, ht113, H⟩ := bindS H
          refine W_callF fn11 (room_Steps.con k M t1 (IntKind.u8.wrap x83) t112  ht113) S rfl rfl (by rintro _ _ _ ⟨_, rfl⟩; exact flat_nil) ?_
          rintro _ w114 _ Γ' E' S ⟨rfl, rfl⟩
          replace E := E.trans E'
          clear E'
          refine W_v (.int .i64 (rd ([(2 : Int), (3 : Int), (93 : Int), (93 : Int), (93 : Int), (215 : Int), (97 : Int), (97 : Int), (215 : Int), (215 : Int), (2 : Int)] : List Int) x83)) (x_move rfl) rfl (W_v (.bool (t112 != (rd ([(2 : Int), (3 : Int), (93 : Int), (93 : Int), (93 : Int), (215 : Int), (97 : Int), (97 : Int), (215 : Int), (215 : Int), (2 : Int)] : List Int) x83))) (x_ibin rfl rfl rfl rfl) rfl (Wl_nil (tn ?_)))
          rcases iteS H with ⟨hb115, H⟩ | ⟨hb115, H⟩
          · refine Wp_cond_true (congrArg Value.bool hb115) ?_
            refine Wp_seq (Wp_region_lit (W_v (.bool false) (x_assign rfl) rfl (Wl_nil (tn ?_))))
            refine Wp_ret ?_
            refine br (tr (tr (br (tr (tr (?_))))))
            obtain rfl := Option.some.inj H
            have H := o99H
            replace H := elimL H
            obtain rfl := Option.some.inj H
            exact ⟨_, _, _, fun w1 e1 => run_resR (vs := [.bool false]) (FA.cons (rfl) (FA.nil)), HM, E, S.pick [] (by decide), ⟨rfl, rfl⟩⟩
          refine Wp_cond_false (congrArg Value.bool hb115) (Wp_skip (bn (tn (Wp_region_lit (W_v (.int .i64 (IntKind.i64.wrap (x83 + (1 : Int)))) (x_ibin rfl rfl rfl rfl) rfl ?_)))))
          refine W_v (.int .i64 (IntKind.i64.wrap (x83 + (1 : Int)))) (x_move rfl) rfl (Wl_nil (tn ?_))
          exact ⟨k, Nat.lt_succ_self k, ⟨(IntKind.i64.wrap (x83 + (1 : Int))), H, ⟨rfl, rfl, rfl, rfl, rfl, trivial⟩, E, S.pick [0, 1, 2] (by decide)⟩⟩
        refine Wp_cond_false (congrArg Value.bool hb101) ?_
        refine Wp_exit ?_
        refine tx (tx (bsm (?_)))
        refine tn ?_
        exact ⟨Option.some.inj H, ⟨rfl, rfl, trivial⟩, E, S.pick [1, 2] (by decide)⟩
  clear o99h
  rintro ρ w116 ⟨rfl, hρ, E, S⟩
  rw [agree_eta hρ]
  clear hρ
  have H := o99H
  clear o99H
  replace H := elimR H
  refine tn ?_
  as_aux_lemma =>
  refine Wp_seq (Wp_region_lit (W_v (.agg #[.int .i64 6, .int .i64 8, .int .i64 64, .int .i64 8, .int .i64 1, .int .i64 1, .int .i64 0, .int .i64 8]) (x_build2 (pl := [(0, 1), (1, 1), (2, 1), (3, 1), (4, 1), (5, 1), (6, 1), (7, 1)]) #[.int .i64 6, .int .i64 8, .int .i64 64, .int .i64 8, .int .i64 1, .int .i64 1, .int .i64 0, .int .i64 8] Tryd.underlying23 ty23 (by as_aux_lemma => kernel_rfl) rfl (by as_aux_lemma => kernel_rfl)) rfl ?_))
  refine W_alloc S #[.int .i64 0, .int .i64 0, .int .i64 0, .int .i64 0, .int .i64 0, .int .i64 0, .int .i64 0, .int .i64 0] ty23 rfl rfl ?_
  intro b117 w118 E' S
  replace E := E.trans E'
  clear E'
  refine W_store S 0 rfl ty23 rfl rfl [.int .i64 6, .int .i64 8, .int .i64 64, .int .i64 8, .int .i64 1, .int .i64 1, .int .i64 0, .int .i64 8] rfl rfl rfl #[.int .i64 6, .int .i64 8, .int .i64 64, .int .i64 8, .int .i64 1, .int .i64 1, .int .i64 0, .int .i64 8] (by as_aux_lemma => kernel_rfl) rfl ?_
  intro w120 E' S
  replace E := E.trans E'
  clear E'
  refine Wl_nil (tn (Wp_seq (Wp_region_lit (W_v (.agg #[.int .i64 6, .int .i64 8, .int .i64 64, .int .i64 8, .int .i64 1, .int .i64 1, .int .i64 0, .int .i64 8]) (x_loadA (S.blk 0 rfl) ty23 rfl (sub_of_extract rfl) rfl rfl) rfl ?_))))
  obtain ⟨t121, ht122, H⟩ := bindS H
  refine W_callF fn9 (room_Bound.con k M (⟨(6 : Int), (8 : Int), (64 : Int), (8 : Int), (1 : Int), (1 : Int), (0 : Int), (8 : Int)⟩ : api_Config) t121  ht122) S rfl rfl (by rintro _ _ _ ⟨_, rfl⟩; exact flat_nil) ?_
  rintro _ w123 _ Γ' E' S ⟨rfl, rfl⟩
  replace E := E.trans E'
  clear E'
  refine W_v (.tuple #[.int .i64 t121.1, .int .i64 t121.2]) (x_move rfl) rfl (W_v (.int .i64 t121.1) (x_extract rfl rfl) rfl (W_v (.int .i64 t121.2) (x_extract rfl rfl) rfl (W_v (.int .i64 t121.1) (x_assign rfl) rfl (W_v (.int .i64 t121.2) (x_assign rfl) rfl (Wl_nil ?_)))))
  refine tn (Wp_seq (Wp_seq ?_))
  refine Wp_region_any (S := fun w' => ∃ Mx, M.le Mx ∧ St w' Mx F [Blk b117 (.cells #[.int .i64 6, .int .i64 8, .int .i64 64, .int .i64 8, .int .i64 1, .int .i64 1, .int .i64 0, .int .i64 8] 23 (0, 0)), Blk b8 (.cells #[.int .i64 t1.Tasks, .int .i64 t1.Active, .int .i64 t1.Keys, .int .i64 9, .int .i64 t1.TS, .int .i64 t1.KeyLen, .int .i64 t1.ValLen, .int .i64 t1.Fan] 23 (0, 0)), B23 b4 t1]) (L := 13) mixed ?_
  intro w141 hw142 E'
  replace S := S.heap hw142
  replace E := E.trans E'
  clear E'
  have D1 : ∃ Mx, Hp.le M Mx ∧ St _ Mx F [_, _, _] := ⟨_, Hp.le_refl _, S.pick [0, 1, 2] (by decide)⟩
  refine Wa_take (i := 0) rfl (by kernel_rfl) rfl rfl (.int .i64 t121.1) rfl (fun w' h' => x_move rfl) D1 (Wa_take (i := 1) rfl (by kernel_rfl) rfl rfl (.bool (t121.1 != (3584 : Int))) rfl (fun w' h' => x_ibin rfl rfl rfl rfl) D1 (Wa_take (i := 2) rfl (by kernel_rfl) rfl rfl (.bool (t121.1 != (3584 : Int))) rfl (fun w' h' => x_move rfl) D1 ?_))
  refine Wa_join (fun ρ w' => Agree ρ [(1, pt b4 0), (2, pt b8 0), (7, pt b117 0), (71, .bool ((t121.1 != (3584 : Int)) || (t121.2 != (3136 : Int))))] ∧ w141 = w') 7 (Ls 13 [0, 1, 2, 3, 4, 5]) ?_ ?_
  rotate_left
  · intro hrest
    rcases boolCases (t121.1 != (3584 : Int)) with hb143 | hb143
    · skip
      have D2 : ∃ Mx, Hp.le M Mx ∧ St _ Mx F [_, _, _] := ⟨_, Hp.le_refl _, S.pick [0, 1, 2] (by decide)⟩
      refine Wa_takeY (i := 3) rfl (by kernel_rfl) rfl rfl (.int .i64 t121.2) rfl (congrArg some hb143) (fun w' h' => x_move rfl) D2 (Wa_takeY (i := 4) rfl (by kernel_rfl) rfl rfl (.bool (t121.2 != (3136 : Int))) rfl (congrArg some hb143) (fun w' h' => x_ibin rfl rfl rfl rfl) D2 (Wa_take (i := 5) rfl (by kernel_rfl) rfl rfl (.bool (t121.2 != (3136 : Int))) rfl (fun w' h' => x_pick (k := false) (congrArg Value.bool hb143) rfl) D2 ?_))
      exact hrest _ _ ⟨⟨rfl, rfl, rfl, (by first | rfl | (rw [hb143]; rfl) | (simp only [hb143]; rfl)), trivial⟩, rfl⟩
    · skip
      have D3 : ∃ Mx, Hp.le M Mx ∧ St _ Mx F [_, _, _] := ⟨_, Hp.le_refl _, S.pick [0, 1, 2] (by decide)⟩
      refine Wa_takeN (i := 3) rfl (by kernel_rfl) rfl rfl rfl (skF hb143) D3 (Wa_takeN (i := 4) rfl (by kernel_rfl) rfl rfl rfl (skF hb143) D3 (Wa_take (i := 5) rfl (by kernel_rfl) rfl rfl (.bool true) rfl (fun w' h' => x_pick (k := true) (congrArg Value.bool hb143) rfl) D3 ?_))
      exact hrest _ _ ⟨⟨rfl, rfl, rfl, (by first | rfl | (rw [hb143]; rfl) | (simp only [hb143]; rfl)), trivial⟩, rfl⟩
  rintro ρ _ ⟨hρ, rfl⟩
  rw [agree_eta hρ]
  clear hρ
  refine Wa_take (i := 6) rfl (by kernel_rfl) rfl rfl (.bool ((t121.1 != (3584 : Int)) || (t121.2 != (3136 : Int)))) rfl (fun w' h' => x_move rfl) (⟨M, Hp.le_refl M, (S.pick [0, 1, 2] (by decide))⟩) ?_
  obtain ⟨o152, o152h, o152H⟩ := bindS H
  clear H
  refine Wa_join (fun ρ w' => ∃ (x151 : Bool), (x151) = o152 ∧ Agree ρ [(1, pt b4 0), (2, pt b8 0), (78, .bool x151)] ∧ Ext w w' ∧ St w' M F [Blk b117 (.cells #[.int .i64 6, .int .i64 8, .int .i64 64, .int .i64 8, .int .i64 1, .int .i64 1, .int .i64 0, .int .i64 8] 23 (0, 0)), Blk b8 (.cells #[.int .i64 t1.Tasks, .int .i64 t1.Active, .int .i64 t1.Keys, .int .i64 9, .int .i64 t1.TS, .int .i64 t1.KeyLen, .int .i64 t1.ValLen, .int .i64 t1.Fan] 23 (0, 0)), B23 b4 t1]) 0 (Ls 13 [0, 1, 2, 3, 4, 5, 6, 7, 8, 9, 10, 11, 12]) ?_ ?_
  rotate_left
  · intro hrest
    have H := o152h
    clear o152h o152H
    rcases iteS H with ⟨hb150, H⟩ | ⟨hb150, H⟩
    · skip
      have D5 : ∃ Mx, Hp.le M Mx ∧ St _ Mx F [_, _, _] := ⟨_, Hp.le_refl _, S.pick [0, 1, 2] (by decide)⟩
      refine Wa_takeN (i := 7) rfl (by kernel_rfl) rfl rfl rfl (skF hb150) D5 (Wa_takeN (i := 8) rfl (by kernel_rfl) rfl rfl rfl (skF hb150) D5 (Wa_takeN (i := 9) rfl (by kernel_rfl) rfl rfl rfl (skF hb150) D5 (Wa_takeN (i := 10) rfl (by kernel_rfl) rfl rfl rfl (skF hb150) D5 (Wa_takeN (i := 11) rfl (by kernel_rfl) rfl rfl rfl (skF hb150) D5 (Wa_take (i := 12) rfl (by kernel_rfl) rfl rfl (.bool true) rfl (fun w' h' => x_pick (k := true) (congrArg Value.bool hb150) rfl) D5 ?_)))))
      exact hrest _ _ ⟨true, Option.some.inj H, ⟨rfl, rfl, rfl, trivial⟩, E, S.pick [0, 1, 2] (by decide)⟩
    · skip
      have D6 : ∃ Mx, Hp.le M Mx ∧ St _ Mx F [_, _, _] := ⟨_, Hp.le_refl _, S.pick [0, 1, 2] (by decide)⟩
      refine Wa_takeY (i := 7) rfl (by kernel_rfl) rfl rfl (.agg #[.int .i64 6, .int .i64 8, .int .i64 64, .int .i64 8, .int .i64 1, .int .i64 1, .int .i64 0, .int .i64 8]) rfl (congrArg some hb150) (fun w' h' => x_loadA (cls_blk h' 0 rfl) ty23 rfl (sub_of_extract rfl) rfl rfl) D6 (Wa_takeY (i := 9) rfl (by kernel_rfl) rfl rfl (.agg #[.int .i64 6, .int .i64 8, .int .i64 64, .int .i64 8, .int .i64 1, .int .i64 1, .int .i64 0, .int .i64 8]) rfl (congrArg some hb150) (fun w' h' => x_loadA (cls_blk h' 0 rfl) ty23 rfl (sub_of_extract rfl) rfl rfl) D6 ?_)
      refine Wa_solo (i := 8) rfl (by kernel_rfl) ?_
      refine W_yes (congrArg some hb150) ?_
      obtain ⟨t153, ht154, H⟩ := bindS H
      refine W_callF fn12 (room_Rounds.con k M (⟨(6 : Int), (8 : Int), (64 : Int), (8 : Int), (1 : Int), (1 : Int), (0 : Int), (8 : Int)⟩ : api_Config) t153  ht154) S rfl rfl (by rintro _ _ _ ⟨_, rfl⟩; exact flat_nil) ?_
      rintro _ w155 _ Γ' E' S ⟨rfl, rfl⟩
      replace E := E.trans E'
      clear E'
      refine Wl_nil (on_n ⟨.inr ⟨M, Hp.le_refl M, (S.pick [0, 1, 2] (by decide))⟩, ?_⟩)
      refine Wa_solo (i := 10) rfl (by kernel_rfl) ?_
      refine W_yes (congrArg some hb150) ?_
      obtain ⟨t156, ht157, H⟩ := bindS H
      refine W_callF fn11 (room_Steps.con k M (⟨(6 : Int), (8 : Int), (64 : Int), (8 : Int), (1 : Int), (1 : Int), (0 : Int), (8 : Int)⟩ : api_Config) (8 : Int) t156  ht157) S rfl rfl (by rintro _ _ _ ⟨_, rfl⟩; exact flat_nil) ?_
      rintro _ w158 _ Γ' E' S ⟨rfl, rfl⟩
      replace E := E.trans E'
      clear E'
      refine Wl_nil (on_n ⟨.inr ⟨M, Hp.le_refl M, (S.pick [0, 1, 2] (by decide))⟩, ?_⟩)
      have D7 : ∃ Mx, Hp.le M Mx ∧ St _ Mx F [_, _, _] := ⟨_, Hp.le_refl _, S.pick [0, 1, 2] (by decide)⟩
      refine Wa_takeY (i := 11) rfl (by kernel_rfl) rfl rfl (.bool (decide (t153 ≤ t156))) rfl (congrArg some hb150) (fun w' h' => x_ibin rfl rfl rfl rfl) D7 (Wa_take (i := 12) rfl (by kernel_rfl) rfl rfl (.bool (decide (t153 ≤ t156))) rfl (fun w' h' => x_pick (k := false) (congrArg Value.bool hb150) rfl) D7 ?_)
      exact hrest _ _ ⟨(decide (t153 ≤ t156)), Option.some.inj H, ⟨rfl, rfl, rfl, trivial⟩, E, S.pick [0, 1, 2] (by decide)⟩
  clear o152h
  rintro ρ w159 ⟨x151, rfl, hρ, E, S⟩
  rw [agree_eta hρ]
  clear hρ
  have H := o152H
  clear o152H
  refine Wa_done (by kernel_rfl) ?_
  refine tn ?_
  rcases iteS H with ⟨hb160, H⟩ | ⟨hb160, H⟩
  · refine Wp_cond_true (congrArg Value.bool hb160) ?_
    refine Wp_seq (Wp_region_lit (W_v (.bool false) (x_assign rfl) rfl (Wl_nil (tn ?_))))
    refine Wp_ret ?_
    refine tr (?_)
    obtain rfl := Option.some.inj H
    exact ⟨_, _, _, fun w1 e1 => run_resR (vs := [.bool false]) (FA.cons (rfl) (FA.nil)), HM, E, S.pick [] (by decide), ⟨rfl, rfl⟩⟩
  refine Wp_cond_false (congrArg Value.bool hb160) (Wp_skip (tn ?_))
  as_aux_lemma =>
  refine Wp_seq (Wp_region_lit (W_v (.agg #[.int .i64 t1.Tasks, .int .i64 t1.Active, .int .i64 t1.Keys, .int .i64 9, .int .i64 t1.TS, .int .i64 t1.KeyLen, .int .i64 t1.ValLen, .int .i64 t1.Fan]) (x_loadA (S.blk 1 rfl) ty23 rfl (sub_of_extract rfl) rfl rfl) rfl ?_))
  obtain ⟨t161, ht162, H⟩ := bindS H
  refine W_callF fn13 (room_Now.con k M (⟨t1.Tasks, t1.Active, t1.Keys, (9 : Int), t1.TS, t1.KeyLen, t1.ValLen, t1.Fan⟩ : api_Config) none 0 ([] : (List (List api_Call))) none 0 ([] : (List api_Event)) t161 (SlW.nil _ _) (SlW.nil _ _) hg0 hg1 ht162) S rfl rfl (by rintro _ _ _ ⟨_, rfl⟩; exact flat_nil) ?_
  rintro _ w163 _ Γ' E' S ⟨rfl, rfl⟩
  replace E := E.trans E'
  clear E'
  refine W_v (.tuple #[.int .i64 t161.1, .int .i64 t161.2.1, .int .i64 t161.2.2]) (x_move rfl) rfl (W_v (.int .i64 t161.1) (x_extract rfl rfl) rfl (W_v (.int .i64 t161.2.1) (x_extract rfl rfl) rfl (W_v (.int .i64 t161.2.2) (x_extract rfl rfl) rfl (W_v (.int .i64 t161.1) (x_assign rfl) rfl (W_v (.int .i64 t161.2.1) (x_assign rfl) rfl ?_)))))
  refine W_v (.int .i64 t161.2.2) (x_assign rfl) rfl (Wl_nil (tn (Wp_seq (Wp_region_lit (W_v (.agg #[.int .i64 t1.Tasks, .int .i64 t1.Active, .int .i64 t1.Keys, .int .i64 t1.Depth, .int .i64 t1.TS, .int .i64 t1.KeyLen, .int .i64 t1.ValLen, .int .i64 t1.Fan]) (x_loadA (S.blk 2 rfl) ty23 rfl (sub_of_extract rfl) rfl rfl) rfl ?_)))))
  refine W_v (.agg #[.int .u8 1, .int .i64 0, .int .i64 0, .int .i64 0, .bool false, .string (bs ([] : Str)), .slice none 0 0]) (x_build2 (pl := [(0, 1), (1, 1), (2, 1), (3, 4)]) #[.int .u8 1, .int .i64 0, .int .i64 0, .int .i64 0, .bool false, .string (bs ([] : Str)), .slice none 0 0] Tryd.underlying38 ty38 (by as_aux_lemma => kernel_rfl) rfl (by as_aux_lemma => kernel_rfl)) rfl ?_
  refine W_bslice S #[.int .u8 1, .int .i64 0, .int .i64 0, .int .i64 0, .bool false, .string (bs ([] : Str)), .slice none 0 0] Tryd.underlying39 ty38 rfl rfl #[.int .u8 0, .int .i64 0, .int .i64 0, .int .i64 0, .bool false, .string (bs ([] : Str)), .slice none 0 0] (by as_aux_lemma => kernel_rfl) (by as_aux_lemma => kernel_rfl) rfl ?_
  intro b164 w165 E' S
  replace E := E.trans E'
  clear E'
  replace S := S.blk_row (r := r_api_Event) (l := ([(⟨(1 : Int), (0 : Int), (0 : Int), ⟨(0 : Int), false, ([] : Str), ([] : (List api_Pair))⟩⟩ : api_Event)] : List api_Event)) 0 rfl 1 (Nat.le_refl 1) rfl (Cells.cons (vs := [.int .u8 1, .int .i64 0, .int .i64 0, .int .i64 0, .bool false, .string (bs ([] : Str)), .slice none 0 0]) (⟨_, (SlW.nil _ _), rfl⟩) Cells.nil)
  obtain ⟨t167, ht168, H⟩ := bindS H
  refine W_callN 1 fn13 (fun h9 hs9 hd9 => room_Now.con k _ t1 none 0 ([] : (List (List api_Call))) (some ⟨b164, 0, none⟩) 1 ([(⟨(1 : Int), (0 : Int), (0 : Int), ⟨(0 : Int), false, ([] : Str), ([] : (List api_Pair))⟩⟩ : api_Event)] : List api_Event) t167 (SlW.nil _ _) (Sats.row hs9 hd9 0 rfl) (let ⟨gt, fr, h8⟩ := hg0; ⟨gt, fr, Hp.le_union_left _ _ _ _ h8⟩) (let ⟨gt, fr, h8⟩ := hg1; ⟨gt, fr, Hp.le_union_left _ _ _ _ h8⟩) ht168) S rfl rfl (by rintro _ _ _ ⟨_, rfl⟩; exact flat_nil) ?_
  rintro _ w169 _ Γ' E' S ⟨rfl, rfl⟩
  replace E := E.trans E'
  clear E'
  refine W_v (.tuple #[.int .i64 t167.1, .int .i64 t167.2.1, .int .i64 t167.2.2]) (x_move rfl) rfl (W_v (.int .i64 t167.1) (x_extract rfl rfl) rfl (W_v (.int .i64 t167.2.1) (x_extract rfl rfl) rfl (W_v (.int .i64 t167.2.2) (x_extract rfl rfl) rfl (W_v (.int .i64 t167.1) (x_assign rfl) rfl (W_v (.int .i64 t167.2.1) (x_assign rfl) rfl ?_)))))
  refine W_v (.int .i64 t167.2.2) (x_assign rfl) rfl (Wl_nil (tn (Wp_seq (Wp_seq (Wp_region_lit ?_)))))
  refine W_v (.int .i64 t161.2.2) (x_move rfl) rfl (W_v (.bool (t161.2.2 != (1 : Int))) (x_ibin rfl rfl rfl rfl) rfl (W_v (.bool (t161.2.2 != (1 : Int))) (x_move rfl) rfl ?_))
  refine Wl_cutN 3 (fun ρ w' => Agree ρ [(1, pt b4 0), (98, .bool ((t161.2.2 != (1 : Int)) || (t167.2.2 != (4 : Int))))] ∧ w169 = w') ?_ ?_
  · rcases boolCases (t161.2.2 != (1 : Int)) with hb170 | hb170
    · skip
      refine W_yes (congrArg some hb170) (W_v (.int .i64 t167.2.2) (x_move rfl) rfl (W_yes (congrArg some hb170) (W_v (.bool (t167.2.2 != (4 : Int))) (x_ibin rfl rfl rfl rfl) rfl (W_v (.bool (t167.2.2 != (4 : Int))) (x_pick (k := false) (congrArg Value.bool hb170) rfl) rfl (Wl_nil ?_)))))
      exact ⟨⟨rfl, (by first | rfl | (rw [hb170]; rfl) | (simp only [hb170]; rfl)), trivial⟩, rfl⟩
    · skip
      refine W_no (skF hb170) rfl (W_no (skF hb170) rfl (W_v (.bool true) (x_pick (k := true) (congrArg Value.bool hb170) rfl) rfl (Wl_nil ?_)))
      exact ⟨⟨rfl, (by first | rfl | (rw [hb170]; rfl) | (simp only [hb170]; rfl)), trivial⟩, rfl⟩
  as_aux_lemma =>
  rintro ρ _ ⟨hρ, rfl⟩
  rw [agree_eta hρ]
  clear hρ
  refine W_v (.bool ((t161.2.2 != (1 : Int)) || (t167.2.2 != (4 : Int)))) (x_move rfl) rfl ?_
  obtain ⟨o179, o179h, o179H⟩ := bindS H
  clear H
  refine Wl_cutN 4 (fun ρ w' => ∃ (x178 : Bool), (x178) = o179 ∧ Agree ρ [(1, pt b4 0), (103, .bool x178)] ∧ Ext w w' ∧ St w' M F [B23 b4 t1]) ?_ ?_
  · have H := o179h
    rcases iteS H with ⟨hb177, H⟩ | ⟨hb177, H⟩
    · skip
      refine W_no (skF hb177) rfl (W_no (skF hb177) rfl (W_no (skF hb177) rfl (W_v (.bool true) (x_pick (k := true) (congrArg Value.bool hb177) rfl) rfl (Wl_nil ?_))))
      exact ⟨true, Option.some.inj H, ⟨rfl, rfl, trivial⟩, E, S.pick [3] (by decide)⟩
    · skip
      refine W_yes (congrArg some hb177) (W_v (.agg #[.int .i64 t1.Tasks, .int .i64 t1.Active, .int .i64 t1.Keys, .int .i64 t1.Depth, .int .i64 t1.TS, .int .i64 t1.KeyLen, .int .i64 t1.ValLen, .int .i64 t1.Fan]) (x_loadA (S.blk 3 rfl) ty23 rfl (sub_of_extract rfl) rfl rfl) rfl (W_yes (congrArg some hb177) ?_))
      obtain ⟨t180, ht181, H⟩ := bindS H
      refine W_callF fn14 (ferrymanlaw30_is.con k M t1 none 0 ([] : (List (List api_Call))) none 0 ([] : (List api_Event)) (0 : Int) (0 : Int) t180 (SlW.nil _ _) (SlW.nil _ _) hg0 hg1 ht181) S rfl rfl (by rintro _ _ _ ⟨_, rfl⟩; exact flat_nil) ?_
      rintro _ w182 _ Γ' E' S ⟨rfl, rfl⟩
      replace E := E.trans E'
      clear E'
      refine W_yes (congrArg some hb177) (W_v (.bool (!t180)) (x_not (b := t180) rfl) rfl (W_v (.bool (!t180)) (x_pick (k := false) (congrArg Value.bool hb177) rfl) rfl (Wl_nil ?_)))
      exact ⟨(!t180), Option.some.inj H, ⟨rfl, rfl, trivial⟩, E, S.pick [3] (by decide)⟩
  as_aux_lemma =>
  clear o179h
  rintro ρ w183 ⟨x178, rfl, hρ, E, S⟩
  rw [agree_eta hρ]
  clear hρ
  have H := o179H
  clear o179H
  refine Wl_nil (tn ?_)
  rcases iteS H with ⟨hb184, H⟩ | ⟨hb184, H⟩
  · refine Wp_cond_true (congrArg Value.bool hb184) ?_
    refine Wp_seq (Wp_region_lit (W_v (.bool false) (x_assign rfl) rfl (Wl_nil (tn ?_))))
    refine Wp_ret ?_
    refine tr (?_)
    obtain rfl := Option.some.inj H
    exact ⟨_, _, _, fun w1 e1 => run_resR (vs := [.bool false]) (FA.cons (rfl) (FA.nil)), HM, E, S.pick [] (by decide), ⟨rfl, rfl⟩⟩
  refine Wp_cond_false (congrArg Value.bool hb184) (Wp_skip (tn (Wp_seq (Wp_region_lit (W_v (pt b4 2) (x_fieldAddr (o := 0) (off := 2) Tryd.underlying23 rfl ty3 rfl rfl) rfl ?_)))))
  refine W_store S 0 rfl ty3 rfl rfl [.int .i64 4] rfl rfl rfl #[.int .i64 t1.Tasks, .int .i64 t1.Active, .int .i64 4, .int .i64 t1.Depth, .int .i64 t1.TS, .int .i64 t1.KeyLen, .int .i64 t1.ValLen, .int .i64 t1.Fan] rfl rfl ?_
  intro w185 E' S
  replace E := E.trans E'
  clear E'
  refine W_v (pt b4 3) (x_fieldAddr (o := 0) (off := 3) Tryd.underlying23 rfl ty3 rfl rfl) rfl ?_
  refine W_store S 0 rfl ty3 rfl rfl [.int .i64 4] rfl rfl rfl #[.int .i64 t1.Tasks, .int .i64 t1.Active, .int .i64 4, .int .i64 4, .int .i64 t1.TS, .int .i64 t1.KeyLen, .int .i64 t1.ValLen, .int .i64 t1.Fan] rfl rfl ?_
  intro w186 E' S
  replace E := E.trans E'
  clear E'
  refine Wl_nil (tn (Wp_seq (Wp_region_lit (W_v (.agg #[.int .u8 1, .int .i64 0, .string (bs ([] : Str)), .string (bs ([] : Str)), .string (bs ([] : Str)), .int .i64 0, .int .u8 0]) (x_build2 (pl := [(0, 1), (1, 1), (2, 1), (3, 1), (4, 1), (5, 1), (6, 1)]) #[.int .u8 1, .int .i64 0, .string (bs ([] : Str)), .string (bs ([] : Str)), .string (bs ([] : Str)), .int .i64 0, .int .u8 0] Tryd.underlying42 ty42 (by as_aux_lemma => kernel_rfl) rfl (by as_aux_lemma => kernel_rfl)) rfl (W_v (.agg #[.int .u8 3, .int .i64 1, .string (bs ([97] : Str)), .string (bs ([] : Str)), .string (bs ([] : Str)), .int .i64 0, .int .u8 0]) (x_build2 (pl := [(0, 1), (1, 1), (2, 1), (3, 1), (4, 1), (5, 1), (6, 1)]) #[.int .u8 3, .int .i64 1, .string (bs ([97] : Str)), .string (bs ([] : Str)), .string (bs ([] : Str)), .int .i64 0, .int .u8 0] Tryd.underlying42 ty42 (by as_aux_lemma => kernel_rfl) rfl (by as_aux_lemma => kernel_rfl)) rfl ?_)))))
  refine W_v (.agg #[.int .u8 3, .int .i64 1, .string (bs ([98] : Str)), .string (bs ([] : Str)), .string (bs ([] : Str)), .int .i64 0, .int .u8 0]) (x_build2 (pl := [(0, 1), (1, 1), (2, 1), (3, 1), (4, 1), (5, 1), (6, 1)]) #[.int .u8 3, .int .i64 1, .string (bs ([98] : Str)), .string (bs ([] : Str)), .string (bs ([] : Str)), .int .i64 0, .int .u8 0] Tryd.underlying42 ty42 (by as_aux_lemma => kernel_rfl) rfl (by as_aux_lemma => kernel_rfl)) rfl (W_v (.agg #[.int .u8 6, .int .i64 1, .string (bs ([] : Str)), .string (bs ([] : Str)), .string (bs ([] : Str)), .int .i64 0, .int .u8 0]) (x_build2 (pl := [(0, 1), (1, 1), (2, 1), (3, 1), (4, 1), (5, 1), (6, 1)]) #[.int .u8 6, .int .i64 1, .string (bs ([] : Str)), .string (bs ([] : Str)), .string (bs ([] : Str)), .int .i64 0, .int .u8 0] Tryd.underlying42 ty42 (by as_aux_lemma => kernel_rfl) rfl (by as_aux_lemma => kernel_rfl)) rfl (W_v (.agg #[.int .u8 1, .int .i64 0, .string (bs ([] : Str)), .string (bs ([] : Str)), .string (bs ([] : Str)), .int .i64 0, .int .u8 0]) (x_build2 (pl := [(0, 1), (1, 1), (2, 1), (3, 1), (4, 1), (5, 1), (6, 1)]) #[.int .u8 1, .int .i64 0, .string (bs ([] : Str)), .string (bs ([] : Str)), .string (bs ([] : Str)), .int .i64 0, .int .u8 0] Tryd.underlying42 ty42 (by as_aux_lemma => kernel_rfl) rfl (by as_aux_lemma => kernel_rfl)) rfl ?_))
  refine W_v (.agg #[.int .u8 4, .int .i64 2, .string (bs ([97] : Str)), .string (bs ([] : Str)), .string (bs ([] : Str)), .int .i64 0, .int .u8 0]) (x_build2 (pl := [(0, 1), (1, 1), (2, 1), (3, 1), (4, 1), (5, 1), (6, 1)]) #[.int .u8 4, .int .i64 2, .string (bs ([97] : Str)), .string (bs ([] : Str)), .string (bs ([] : Str)), .int .i64 0, .int .u8 0] Tryd.underlying42 ty42 (by as_aux_lemma => kernel_rfl) rfl (by as_aux_lemma => kernel_rfl)) rfl (W_v (.agg #[.int .u8 3, .int .i64 2, .string (bs ([99] : Str)), .string (bs ([] : Str)), .string (bs ([] : Str)), .int .i64 0, .int .u8 0]) (x_build2 (pl := [(0, 1), (1, 1), (2, 1), (3, 1), (4, 1), (5, 1), (6, 1)]) #[.int .u8 3, .int .i64 2, .string (bs ([99] : Str)), .string (bs ([] : Str)), .string (bs ([] : Str)), .int .i64 0, .int .u8 0] Tryd.underlying42 ty42 (by as_aux_lemma => kernel_rfl) rfl (by as_aux_lemma => kernel_rfl)) rfl (W_v (.agg #[.int .u8 6, .int .i64 2, .string (bs ([] : Str)), .string (bs ([] : Str)), .string (bs ([] : Str)), .int .i64 0, .int .u8 0]) (x_build2 (pl := [(0, 1), (1, 1), (2, 1), (3, 1), (4, 1), (5, 1), (6, 1)]) #[.int .u8 6, .int .i64 2, .string (bs ([] : Str)), .string (bs ([] : Str)), .string (bs ([] : Str)), .int .i64 0, .int .u8 0] Tryd.underlying42 ty42 (by as_aux_lemma => kernel_rfl) rfl (by as_aux_lemma => kernel_rfl)) rfl ?_))
  refine W_v (.agg #[.int .u8 9, .int .i64 0, .string (bs ([] : Str)), .string (bs ([] : Str)), .string (bs ([] : Str)), .int .i64 0, .int .u8 2]) (x_build2 (pl := [(0, 1), (1, 1), (2, 1), (3, 1), (4, 1), (5, 1), (6, 1)]) #[.int .u8 9, .int .i64 0, .string (bs ([] : Str)), .string (bs ([] : Str)), .string (bs ([] : Str)), .int .i64 0, .int .u8 2] Tryd.underlying42 ty42 (by as_aux_lemma => kernel_rfl) rfl (by as_aux_lemma => kernel_rfl)) rfl (W_v (.agg #[.int .u8 8, .int .i64 0, .string (bs ([] : Str)), .string (bs ([] : Str)), .string (bs ([] : Str)), .int .i64 0, .int .u8 0]) (x_build2 (pl := [(0, 1), (1, 1), (2, 1), (3, 1), (4, 1), (5, 1), (6, 1)]) #[.int .u8 8, .int .i64 0, .string (bs ([] : Str)), .string (bs ([] : Str)), .string (bs ([] : Str)), .int .i64 0, .int .u8 0] Tryd.underlying42 ty42 (by as_aux_lemma => kernel_rfl) rfl (by as_aux_lemma => kernel_rfl)) rfl (W_v (.agg #[.int .u8 1, .int .i64 0, .string (bs ([] : Str)), .string (bs ([] : Str)), .string (bs ([] : Str)), .int .i64 0, .int .u8 0]) (x_build2 (pl := [(0, 1), (1, 1), (2, 1), (3, 1), (4, 1), (5, 1), (6, 1)]) #[.int .u8 1, .int .i64 0, .string (bs ([] : Str)), .string (bs ([] : Str)), .string (bs ([] : Str)), .int .i64 0, .int .u8 0] Tryd.underlying42 ty42 (by as_aux_lemma => kernel_rfl) rfl (by as_aux_lemma => kernel_rfl)) rfl ?_))
  refine W_v (.agg #[.int .u8 3, .int .i64 3, .string (bs ([98] : Str)), .string (bs ([] : Str)), .string (bs ([] : Str)), .int .i64 0, .int .u8 0]) (x_build2 (pl := [(0, 1), (1, 1), (2, 1), (3, 1), (4, 1), (5, 1), (6, 1)]) #[.int .u8 3, .int .i64 3, .string (bs ([98] : Str)), .string (bs ([] : Str)), .string (bs ([] : Str)), .int .i64 0, .int .u8 0] Tryd.underlying42 ty42 (by as_aux_lemma => kernel_rfl) rfl (by as_aux_lemma => kernel_rfl)) rfl (W_v (.agg #[.int .u8 7, .int .i64 3, .string (bs ([] : Str)), .string (bs ([] : Str)), .string (bs ([] : Str)), .int .i64 0, .int .u8 0]) (x_build2 (pl := [(0, 1), (1, 1), (2, 1), (3, 1), (4, 1), (5, 1), (6, 1)]) #[.int .u8 7, .int .i64 3, .string (bs ([] : Str)), .string (bs ([] : Str)), .string (bs ([] : Str)), .int .i64 0, .int .u8 0] Tryd.underlying42 ty42 (by as_aux_lemma => kernel_rfl) rfl (by as_aux_lemma => kernel_rfl)) rfl ?_)
  refine W_bslice S #[.int .u8 1, .int .i64 0, .string (bs ([] : Str)), .string (bs ([] : Str)), .string (bs ([] : Str)), .int .i64 0, .int .u8 0, .int .u8 3, .int .i64 1, .string (bs ([97] : Str)), .string (bs ([] : Str)), .string (bs ([] : Str)), .int .i64 0, .int .u8 0, .int .u8 3, .int .i64 1, .string (bs ([98] : Str)), .string (bs ([] : Str)), .string (bs ([] : Str)), .int .i64 0, .int .u8 0, .int .u8 6, .int .i64 1, .string (bs ([] : Str)), .string (bs ([] : Str)), .string (bs ([] : Str)), .int .i64 0, .int .u8 0, .int .u8 1, .int .i64 0, .string (bs ([] : Str)), .string (bs ([] : Str)), .string (bs ([] : Str)), .int .i64 0, .int .u8 0, .int .u8 4, .int .i64 2, .string (bs ([97] : Str)), .string (bs ([] : Str)), .string (bs ([] : Str)), .int .i64 0, .int .u8 0, .int .u8 3, .int .i64 2, .string (bs ([99] : Str)), .string (bs ([] : Str)), .string (bs ([] : Str)), .int .i64 0, .int .u8 0, .int .u8 6, .int .i64 2, .string (bs ([] : Str)), .string (bs ([] : Str)), .string (bs ([] : Str)), .int .i64 0, .int .u8 0, .int .u8 9, .int .i64 0, .string (bs ([] : Str)), .string (bs ([] : Str)), .string (bs ([] : Str)), .int .i64 0, .int .u8 2, .int .u8 8, .int .i64 0, .string (bs ([] : Str)), .string (bs ([] : Str)), .string (bs ([] : Str)), .int .i64 0, .int .u8 0, .int .u8 1, .int .i64 0, .string (bs ([] : Str)), .string (bs ([] : Str)), .string (bs ([] : Str)), .int .i64 0, .int .u8 0, .int .u8 3, .int .i64 3, .string (bs ([98] : Str)), .string (bs ([] : Str)), .string (bs ([] : Str)), .int .i64 0, .int .u8 0, .int .u8 7, .int .i64 3, .string (bs ([] : Str)), .string (bs ([] : Str)), .string (bs ([] : Str)), .int .i64 0, .int .u8 0] Tryd.underlying43 ty42 rfl rfl #[.int .u8 0, .int .i64 0, .string (bs ([] : Str)), .string (bs ([] : Str)), .string (bs ([] : Str)), .int .i64 0, .int .u8 0, .int .u8 0, .int .i64 0, .string (bs ([] : Str)), .string (bs ([] : Str)), .string (bs ([] : Str)), .int .i64 0, .int .u8 0, .int .u8 0, .int .i64 0, .string (bs ([] : Str)), .string (bs ([] : Str)), .string (bs ([] : Str)), .int .i64 0, .int .u8 0, .int .u8 0, .int .i64 0, .string (bs ([] : Str)), .string (bs ([] : Str)), .string (bs ([] : Str)), .int .i64 0, .int .u8 0, .int .u8 0, .int .i64 0, .string (bs ([] : Str)), .string (bs ([] : Str)), .string (bs ([] : Str)), .int .i64 0, .int .u8 0, .int .u8 0, .int .i64 0, .string (bs ([] : Str)), .string (bs ([] : Str)), .string (bs ([] : Str)), .int .i64 0, .int .u8 0, .int .u8 0, .int .i64 0, .string (bs ([] : Str)), .string (bs ([] : Str)), .string (bs ([] : Str)), .int .i64 0, .int .u8 0, .int .u8 0, .int .i64 0, .string (bs ([] : Str)), .string (bs ([] : Str)), .string (bs ([] : Str)), .int .i64 0, .int .u8 0, .int .u8 0, .int .i64 0, .string (bs ([] : Str)), .string (bs ([] : Str)), .string (bs ([] : Str)), .int .i64 0, .int .u8 0, .int .u8 0, .int .i64 0, .string (bs ([] : Str)), .string (bs ([] : Str)), .string (bs ([] : Str)), .int .i64 0, .int .u8 0, .int .u8 0, .int .i64 0, .string (bs ([] : Str)), .string (bs ([] : Str)), .string (bs ([] : Str)), .int .i64 0, .int .u8 0, .int .u8 0, .int .i64 0, .string (bs ([] : Str)), .string (bs ([] : Str)), .string (bs ([] : Str)), .int .i64 0, .int .u8 0, .int .u8 0, .int .i64 0, .string (bs ([] : Str)), .string (bs ([] : Str)), .string (bs ([] : Str)), .int .i64 0, .int .u8 0] (by as_aux_lemma => kernel_rfl) (by as_aux_lemma => kernel_rfl) rfl ?_
  intro b187 w188 E' S
  replace E := E.trans E'
  clear E'
  replace S := S.blk_row (r := r_api_Call) (l := ([(⟨(1 : Int), (0 : Int), ([] : Str), ([] : Str), ([] : Str), (0 : Int), (0 : Int)⟩ : api_Call), (⟨(3 : Int), (1 : Int), ([97] : Str), ([] : Str), ([] : Str), (0 : Int), (0 : Int)⟩ : api_Call), (⟨(3 : Int), (1 : Int), ([98] : Str), ([] : Str), ([] : Str), (0 : Int), (0 : Int)⟩ : api_Call), (⟨(6 : Int), (1 : Int), ([] : Str), ([] : Str), ([] : Str), (0 : Int), (0 : Int)⟩ : api_Call), (⟨(1 : Int), (0 : Int), ([] : Str), ([] : Str), ([] : Str), (0 : Int), (0 : Int)⟩ : api_Call), (⟨(4 : Int), (2 : Int), ([97] : Str), ([] : Str), ([] : Str), (0 : Int), (0 : Int)⟩ : api_Call), (⟨(3 : Int), (2 : Int), ([99] : Str), ([] : Str), ([] : Str), (0 : Int), (0 : Int)⟩ : api_Call), (⟨(6 : Int), (2 : Int), ([] : Str), ([] : Str), ([] : Str), (0 : Int), (0 : Int)⟩ : api_Call), (⟨(9 : Int), (0 : Int), ([] : Str), ([] : Str), ([] : Str), (0 : Int), (2 : Int)⟩ : api_Call), (⟨(8 : Int), (0 : Int), ([] : Str), ([] : Str), ([] : Str), (0 : Int), (0 : Int)⟩ : api_Call), (⟨(1 : Int), (0 : Int), ([] : Str), ([] : Str), ([] : Str), (0 : Int), (0 : Int)⟩ : api_Call), (⟨(3 : Int), (3 : Int), ([98] : Str), ([] : Str), ([] : Str), (0 : Int), (0 : Int)⟩ : api_Call), (⟨(7 : Int), (3 : Int), ([] : Str), ([] : Str), ([] : Str), (0 : Int), (0 : Int)⟩ : api_Call)] : List api_Call)) 0 rfl 13 (Nat.le_refl 13) rfl (Cells.cons (vs := [.int .u8 1, .int .i64 0, .string (bs ([] : Str)), .string (bs ([] : Str)), .string (bs ([] : Str)), .int .i64 0, .int .u8 0]) (rfl) (Cells.cons (vs := [.int .u8 3, .int .i64 1, .string (bs ([97] : Str)), .string (bs ([] : Str)), .string (bs ([] : Str)), .int .i64 0, .int .u8 0]) (rfl) (Cells.cons (vs := [.int .u8 3, .int .i64 1, .string (bs ([98] : Str)), .string (bs ([] : Str)), .string (bs ([] : Str)), .int .i64 0, .int .u8 0]) (rfl) (Cells.cons (vs := [.int .u8 6, .int .i64 1, .string (bs ([] : Str)), .string (bs ([] : Str)), .string (bs ([] : Str)), .int .i64 0, .int .u8 0]) (rfl) (Cells.cons (vs := [.int .u8 1, .int .i64 0, .string (bs ([] : Str)), .string (bs ([] : Str)), .string (bs ([] : Str)), .int .i64 0, .int .u8 0]) (rfl) (Cells.cons (vs := [.int .u8 4, .int .i64 2, .string (bs ([97] : Str)), .string (bs ([] : Str)), .string (bs ([] : Str)), .int .i64 0, .int .u8 0]) (rfl) (Cells.cons (vs := [.int .u8 3, .int .i64 2, .string (bs ([99] : Str)), .string (bs ([] : Str)), .string (bs ([] : Str)), .int .i64 0, .int .u8 0]) (rfl) (Cells.cons (vs := [.int .u8 6, .int .i64 2, .string (bs ([] : Str)), .string (bs ([] : Str)), .string (bs ([] : Str)), .int .i64 0, .int .u8 0]) (rfl) (Cells.cons (vs := [.int .u8 9, .int .i64 0, .string (bs ([] : Str)), .string (bs ([] : Str)), .string (bs ([] : Str)), .int .i64 0, .int .u8 2]) (rfl) (Cells.cons (vs := [.int .u8 8, .int .i64 0, .string (bs ([] : Str)), .string (bs ([] : Str)), .string (bs ([] : Str)), .int .i64 0, .int .u8 0]) (rfl) (Cells.cons (vs := [.int .u8 1, .int .i64 0, .string (bs ([] : Str)), .string (bs ([] : Str)), .string (bs ([] : Str)), .int .i64 0, .int .u8 0]) (rfl) (Cells.cons (vs := [.int .u8 3, .int .i64 3, .string (bs ([98] : Str)), .string (bs ([] : Str)), .string (bs ([] : Str)), .int .i64 0, .int .u8 0]) (rfl) (Cells.cons (vs := [.int .u8 7, .int .i64 3, .string (bs ([] : Str)), .string (bs ([] : Str)), .string (bs ([] : Str)), .int .i64 0, .int .u8 0]) (rfl) Cells.nil)))))))))))))
  obtain ⟨x190, he191, H⟩ := bindS H
  replace he191 := Option.some.inj he191
  rw [he191] at S
  refine Eq.mpr (congrArg (fun z => Wl _ _ _ _ _ _ (upd _ _ z) _) (show Value.slice (some ⟨b187, 0, none⟩) 13 13 = Value.slice (some ⟨b187, 0, none⟩) x190.length 13 from (by rw [← he191]; rfl))) ?_
  clear he191
  obtain ⟨M192, hM193, hf194, S⟩ := S.row_freeze 0 rfl
  replace hg0 : ∃ gt fr, _ := (let ⟨gt, fr, h8⟩ := hg0; ⟨gt, fr, hM193 _ _ h8⟩)
  replace hg1 : ∃ gt fr, _ := (let ⟨gt, fr, h8⟩ := hg1; ⟨gt, fr, hM193 _ _ h8⟩)
  replace HM := Hp.le_trans HM hM193
  refine W_bslice S #[.slice (some ⟨b187, 0, none⟩) x190.length 13] Tryd.underlying44 ty43 rfl rfl #[.slice none 0 0] (by as_aux_lemma => kernel_rfl) (by as_aux_lemma => kernel_rfl) rfl ?_
  intro b195 w196 E' S
  replace E := E.trans E'
  clear E'
  replace S := S.blk_row (r := (rSl r_api_Call)) (l := ([x190] : List (List api_Call))) 0 rfl 1 (Nat.le_refl 1) rfl (Cells.cons (vs := [.slice (some ⟨b187, 0, none⟩) x190.length 13]) (⟨_, hf194, rfl⟩) Cells.nil)
  refine W_v (.slice (some ⟨b195, 0, none⟩) ([x190] : List (List api_Call)).length 1) (x_assign rfl) rfl (Wl_nil (tn ?_))
  as_aux_lemma =>
  refine Wp_seq (Wp_region_lit (W_v (.slice (some ⟨b195, 0, none⟩) ([x190] : List (List api_Call)).length 1) (x_move rfl) rfl ?_))
  obtain ⟨M198, hM199, hf200, S⟩ := S.row_freeze 0 rfl
  replace hg0 : ∃ gt fr, _ := (let ⟨gt, fr, h8⟩ := hg0; ⟨gt, fr, hM199 _ _ h8⟩)
  replace hg1 : ∃ gt fr, _ := (let ⟨gt, fr, h8⟩ := hg1; ⟨gt, fr, hM199 _ _ h8⟩)
  replace HM := Hp.le_trans HM hM199
  replace hf194 := SlR.mono hf194 hM199
  obtain ⟨t201, ht202, H⟩ := bindS H
  refine W_call fn15 (ferrymanlaw30_run.con k M198 (some ⟨b195, 0, none⟩) 1 ([x190] : List (List api_Call)) (13 : Int) t201 hf200 ht202) (Γ1 := []) (Γ2 := [_]) S rfl rfl ?_
  rintro _ w206 M207 Γ' hM208 E' S ⟨A203, c204, rfl, rfl⟩
  replace hg0 : ∃ gt fr, _ := (let ⟨gt, fr, h8⟩ := hg0; ⟨gt, fr, hM208 _ _ h8⟩)
  replace hg1 : ∃ gt fr, _ := (let ⟨gt, fr, h8⟩ := hg1; ⟨gt, fr, hM208 _ _ h8⟩)
  replace HM := Hp.le_trans HM hM208
  replace hf194 := SlR.mono hf194 hM208
  replace hf200 := SlR.mono hf200 hM208
  replace E := E.trans E'
  clear E'
  refine W_v (.slice A203 t201.length c204) (x_assign rfl) rfl (Wl_nil (tn (Wp_seq (Wp_seq (Wp_region_lit ?_)))))
  refine W_v (.agg #[.int .i64 5, .int .i64 3, .int .i64 2]) (x_build2 (pl := [(0, 1), (1, 1), (2, 1)]) #[.int .i64 5, .int .i64 3, .int .i64 2] Tryd.underlying46 ty46 (by as_aux_lemma => kernel_rfl) rfl (by as_aux_lemma => kernel_rfl)) rfl (W_v (.agg #[.int .i64 6, .int .i64 1, .int .i64 1]) (x_build2 (pl := [(0, 1), (1, 1), (2, 1)]) #[.int .i64 6, .int .i64 1, .int .i64 1] Tryd.underlying46 ty46 (by as_aux_lemma => kernel_rfl) rfl (by as_aux_lemma => kernel_rfl)) rfl (W_v (.agg #[.int .i64 8, .int .i64 4, .int .i64 3]) (x_build2 (pl := [(0, 1), (1, 1), (2, 1)]) #[.int .i64 8, .int .i64 4, .int .i64 3] Tryd.underlying46 ty46 (by as_aux_lemma => kernel_rfl) rfl (by as_aux_lemma => kernel_rfl)) rfl (W_v (.agg #[.int .i64 9, .int .i64 2, .int .i64 2]) (x_build2 (pl := [(0, 1), (1, 1), (2, 1)]) #[.int .i64 9, .int .i64 2, .int .i64 2] Tryd.underlying46 ty46 (by as_aux_lemma => kernel_rfl) rfl (by as_aux_lemma => kernel_rfl)) rfl (W_v (.agg #[.int .i64 11, .int .i64 2, .int .i64 2]) (x_build2 (pl := [(0, 1), (1, 1), (2, 1)]) #[.int .i64 11, .int .i64 2, .int .i64 2] Tryd.underlying46 ty46 (by as_aux_lemma => kernel_rfl) rfl (by as_aux_lemma => kernel_rfl)) rfl (W_v (.agg #[.int .i64 12, .int .i64 2, .int .i64 2]) (x_build2 (pl := [(0, 1), (1, 1), (2, 1)]) #[.int .i64 12, .int .i64 2, .int .i64 2] Tryd.underlying46 ty46 (by as_aux_lemma => kernel_rfl) rfl (by as_aux_lemma => kernel_rfl)) rfl ?_)))))
  refine W_v (.agg #[.int .i64 17, .int .i64 5, .int .i64 3]) (x_build2 (pl := [(0, 1), (1, 1), (2, 1)]) #[.int .i64 17, .int .i64 5, .int .i64 3] Tryd.underlying46 ty46 (by as_aux_lemma => kernel_rfl) rfl (by as_aux_lemma => kernel_rfl)) rfl (W_v (.agg #[.int .i64 18, .int .i64 3, .int .i64 2]) (x_build2 (pl := [(0, 1), (1, 1), (2, 1)]) #[.int .i64 18, .int .i64 3, .int .i64 2] Tryd.underlying46 ty46 (by as_aux_lemma => kernel_rfl) rfl (by as_aux_lemma => kernel_rfl)) rfl (W_v (.agg #[.int .i64 20, .int .i64 6, .int .i64 4]) (x_build2 (pl := [(0, 1), (1, 1), (2, 1)]) #[.int .i64 20, .int .i64 6, .int .i64 4] Tryd.underlying46 ty46 (by as_aux_lemma => kernel_rfl) rfl (by as_aux_lemma => kernel_rfl)) rfl (W_v (.agg #[.int .i64 24, .int .i64 4, .int .i64 3]) (x_build2 (pl := [(0, 1), (1, 1), (2, 1)]) #[.int .i64 24, .int .i64 4, .int .i64 3] Tryd.underlying46 ty46 (by as_aux_lemma => kernel_rfl) rfl (by as_aux_lemma => kernel_rfl)) rfl (W_v (.agg #[.int .i64 26, .int .i64 9, .int .i64 3]) (x_build2 (pl := [(0, 1), (1, 1), (2, 1)]) #[.int .i64 26, .int .i64 9, .int .i64 3] Tryd.underlying46 ty46 (by as_aux_lemma => kernel_rfl) rfl (by as_aux_lemma => kernel_rfl)) rfl (W_v (.agg #[.int .i64 27, .int .i64 4, .int .i64 3]) (x_build2 (pl := [(0, 1), (1, 1), (2, 1)]) #[.int .i64 27, .int .i64 4, .int .i64 3] Tryd.underlying46 ty46 (by as_aux_lemma => kernel_rfl) rfl (by as_aux_lemma => kernel_rfl)) rfl ?_)))))
  refine W_v (.agg #[.int .i64 29, .int .i64 4, .int .i64 4]) (x_build2 (pl := [(0, 1), (1, 1), (2, 1)]) #[.int .i64 29, .int .i64 4, .int .i64 4] Tryd.underlying46 ty46 (by as_aux_lemma => kernel_rfl) rfl (by as_aux_lemma => kernel_rfl)) rfl (W_v (.agg #[.int .i64 30, .int .i64 2, .int .i64 2]) (x_build2 (pl := [(0, 1), (1, 1), (2, 1)]) #[.int .i64 30, .int .i64 2, .int .i64 2] Tryd.underlying46 ty46 (by as_aux_lemma => kernel_rfl) rfl (by as_aux_lemma => kernel_rfl)) rfl (W_v (.agg #[.int .i64 35, .int .i64 5, .int .i64 3]) (x_build2 (pl := [(0, 1), (1, 1), (2, 1)]) #[.int .i64 35, .int .i64 5, .int .i64 3] Tryd.underlying46 ty46 (by as_aux_lemma => kernel_rfl) rfl (by as_aux_lemma => kernel_rfl)) rfl (W_v (.agg #[.int .i64 36, .int .i64 3, .int .i64 2]) (x_build2 (pl := [(0, 1), (1, 1), (2, 1)]) #[.int .i64 36, .int .i64 3, .int .i64 2] Tryd.underlying46 ty46 (by as_aux_lemma => kernel_rfl) rfl (by as_aux_lemma => kernel_rfl)) rfl (W_v (.agg #[.int .i64 38, .int .i64 3, .int .i64 3]) (x_build2 (pl := [(0, 1), (1, 1), (2, 1)]) #[.int .i64 38, .int .i64 3, .int .i64 3] Tryd.underlying46 ty46 (by as_aux_lemma => kernel_rfl) rfl (by as_aux_lemma => kernel_rfl)) rfl (W_v (.agg #[.int .i64 39, .int .i64 2, .int .i64 2]) (x_build2 (pl := [(0, 1), (1, 1), (2, 1)]) #[.int .i64 39, .int .i64 2, .int .i64 2] Tryd.underlying46 ty46 (by as_aux_lemma => kernel_rfl) rfl (by as_aux_lemma => kernel_rfl)) rfl ?_)))))
  refine W_bslice S #[.int .i64 5, .int .i64 3, .int .i64 2, .int .i64 6, .int .i64 1, .int .i64 1, .int .i64 8, .int .i64 4, .int .i64 3, .int .i64 9, .int .i64 2, .int .i64 2, .int .i64 11, .int .i64 2, .int .i64 2, .int .i64 12, .int .i64 2, .int .i64 2, .int .i64 17, .int .i64 5, .int .i64 3, .int .i64 18, .int .i64 3, .int .i64 2, .int .i64 20, .int .i64 6, .int .i64 4, .int .i64 24, .int .i64 4, .int .i64 3, .int .i64 26, .int .i64 9, .int .i64 3, .int .i64 27, .int .i64 4, .int .i64 3, .int .i64 29, .int .i64 4, .int .i64 4, .int .i64 30, .int .i64 2, .int .i64 2, .int .i64 35, .int .i64 5, .int .i64 3, .int .i64 36, .int .i64 3, .int .i64 2, .int .i64 38, .int .i64 3, .int .i64 3, .int .i64 39, .int .i64 2, .int .i64 2] Tryd.underlying47 ty46 rfl rfl #[.int .i64 0, .int .i64 0, .int .i64 0, .int .i64 0, .int .i64 0, .int .i64 0, .int .i64 0, .int .i64 0, .int .i64 0, .int .i64 0, .int .i64 0, .int .i64 0, .int .i64 0, .int .i64 0, .int .i64 0, .int .i64 0, .int .i64 0, .int .i64 0, .int .i64 0, .int .i64 0, .int .i64 0, .int .i64 0, .int .i64 0, .int .i64 0, .int .i64 0, .int .i64 0, .int .i64 0, .int .i64 0, .int .i64 0, .int .i64 0, .int .i64 0, .int .i64 0, .int .i64 0, .int .i64 0, .int .i64 0, .int .i64 0, .int .i64 0, .int .i64 0, .int .i64 0, .int .i64 0, .int .i64 0, .int .i64 0, .int .i64 0, .int .i64 0, .int .i64 0, .int .i64 0, .int .i64 0, .int .i64 0, .int .i64 0, .int .i64 0, .int .i64 0, .int .i64 0, .int .i64 0, .int .i64 0] (by as_aux_lemma => kernel_rfl) (by as_aux_lemma => kernel_rfl) rfl ?_
  intro b209 w210 E' S
  replace E := E.trans E'
  clear E'
  replace S := S.blk_row (r := r_St46) (l := ([(⟨(5 : Int), (3 : Int), (2 : Int)⟩ : St46), (⟨(6 : Int), (1 : Int), (1 : Int)⟩ : St46), (⟨(8 : Int), (4 : Int), (3 : Int)⟩ : St46), (⟨(9 : Int), (2 : Int), (2 : Int)⟩ : St46), (⟨(11 : Int), (2 : Int), (2 : Int)⟩ : St46), (⟨(12 : Int), (2 : Int), (2 : Int)⟩ : St46), (⟨(17 : Int), (5 : Int), (3 : Int)⟩ : St46), (⟨(18 : Int), (3 : Int), (2 : Int)⟩ : St46), (⟨(20 : Int), (6 : Int), (4 : Int)⟩ : St46), (⟨(24 : Int), (4 : Int), (3 : Int)⟩ : St46), (⟨(26 : Int), (9 : Int), (3 : Int)⟩ : St46), (⟨(27 : Int), (4 : Int), (3 : Int)⟩ : St46), (⟨(29 : Int), (4 : Int), (4 : Int)⟩ : St46), (⟨(30 : Int), (2 : Int), (2 : Int)⟩ : St46), (⟨(35 : Int), (5 : Int), (3 : Int)⟩ : St46), (⟨(36 : Int), (3 : Int), (2 : Int)⟩ : St46), (⟨(38 : Int), (3 : Int), (3 : Int)⟩ : St46), (⟨(39 : Int), (2 : Int), (2 : Int)⟩ : St46)] : List St46)) 0 rfl 18 (Nat.le_refl 18) rfl (Cells.cons (vs := [.int .i64 5, .int .i64 3, .int .i64 2]) (rfl) (Cells.cons (vs := [.int .i64 6, .int .i64 1, .int .i64 1]) (rfl) (Cells.cons (vs := [.int .i64 8, .int .i64 4, .int .i64 3]) (rfl) (Cells.cons (vs := [.int .i64 9, .int .i64 2, .int .i64 2]) (rfl) (Cells.cons (vs := [.int .i64 11, .int .i64 2, .int .i64 2]) (rfl) (Cells.cons (vs := [.int .i64 12, .int .i64 2, .int .i64 2]) (rfl) (Cells.cons (vs := [.int .i64 17, .int .i64 5, .int .i64 3]) (rfl) (Cells.cons (vs := [.int .i64 18, .int .i64 3, .int .i64 2]) (rfl) (Cells.cons (vs := [.int .i64 20, .int .i64 6, .int .i64 4]) (rfl) (Cells.cons (vs := [.int .i64 24, .int .i64 4, .int .i64 3]) (rfl) (Cells.cons (vs := [.int .i64 26, .int .i64 9, .int .i64 3]) (rfl) (Cells.cons (vs := [.int .i64 27, .int .i64 4, .int .i64 3]) (rfl) (Cells.cons (vs := [.int .i64 29, .int .i64 4, .int .i64 4]) (rfl) (Cells.cons (vs := [.int .i64 30, .int .i64 2, .int .i64 2]) (rfl) (Cells.cons (vs := [.int .i64 35, .int .i64 5, .int .i64 3]) (rfl) (Cells.cons (vs := [.int .i64 36, .int .i64 3, .int .i64 2]) (rfl) (Cells.cons (vs := [.int .i64 38, .int .i64 3, .int .i64 3]) (rfl) (Cells.cons (vs := [.int .i64 39, .int .i64 2, .int .i64 2]) (rfl) Cells.nil))))))))))))))))))
  obtain ⟨x212, he213, H⟩ := bindS H
  replace he213 := Option.some.inj he213
  rw [he213] at S
  refine Eq.mpr (congrArg (fun z => Wl _ _ _ _ _ _ (upd _ _ z) _) (show Value.slice (some ⟨b209, 0, none⟩) 18 18 = Value.slice (some ⟨b209, 0, none⟩) x212.length 18 from (by rw [← he213]; rfl))) ?_
  clear he213
  refine W_v (.int .i64 (x212.length : Int)) (x_len_slice (n := x212.length) Tryd.underlying47 rfl) rfl (W_v (.int .i64 0) (x_move rfl) rfl (Wl_nil (tn ?_)))
  obtain ⟨M345, hM346, hf347, S⟩ := S.row_freeze 1 rfl
  replace hg0 : ∃ gt fr, _ := (let ⟨gt, fr, h8⟩ := hg0; ⟨gt, fr, hM346 _ _ h8⟩)
  replace hg1 : ∃ gt fr, _ := (let ⟨gt, fr, h8⟩ := hg1; ⟨gt, fr, hM346 _ _ h8⟩)
  replace HM := Hp.le_trans HM hM346
  replace hf194 := SlR.mono hf194 hM346
  replace hf200 := SlR.mono hf200 hM346
  obtain ⟨o453, o453h, o453H⟩ := bindS H
  clear H
  refine Wp_blockJ (fun ρ w' => .inr () = o453 ∧ Agree ρ [] ∧ Ext w w' ∧ St w' M345 F []) ?_ ?_
  · skip
    refine Wp_loop (fun n ρ w' => ∃ (x418 : Int), ferrymanlaw30_RoomNames_l1 t1 x190 t201 x212 n x418 = some o453 ∧ Agree ρ [(1, pt b4 0), (14, .slice (some ⟨b195, 0, none⟩) ([x190] : List (List api_Call)).length 1), (15, .slice A203 t201.length c204), (141, .slice (some ⟨b209, 0, none⟩) x212.length 18), (142, .int .i64 (x212.length : Int)), (143, .int .i64 x418)] ∧ Ext w w' ∧ St w' M345 F [Row r_St46 46 (.slice (some ⟨b209, 0, none⟩) x212.length 18) x212, Blk b4 (.cells #[.int .i64 t1.Tasks, .int .i64 t1.Active, .int .i64 4, .int .i64 4, .int .i64 t1.TS, .int .i64 t1.KeyLen, .int .i64 t1.ValLen, .int .i64 t1.Fan] 23 (0, 0))]) k ?_ ?_
    · skip
      exact ⟨(0 : Int), o453h, ⟨rfl, rfl, rfl, rfl, rfl, rfl, trivial⟩, E, S.pick [0, 1] (by decide)⟩
    · intro n
      rintro ρ w454 ⟨x418, H, hρ, E, S⟩
      rw [agree_eta hρ]
      clear hρ
      cases n with
      | zero => cases H
      | succ k =>
        rw [ferrymanlaw30_RoomNames_l1.eq_2] at H
        refine Wp_seq (Wp_region_lit (W_v (.bool (decide (x418 < (x212.length : Int)))) (x_ibin rfl rfl rfl rfl) rfl (Wl_nil (tn (Wp_seq ?_)))))
        rcases iteS H with ⟨hb455, H⟩ | ⟨hb455, H⟩
        · refine Wp_cond_true (congrArg Value.bool hb455) ?_
          refine Wp_skip (tn (Wp_seq ?_))
          refine Wp_block ?_
          refine Wp_seq (Wp_region_lit ?_)
          obtain ⟨⟨p456, p457⟩, H⟩ := chkS H
          obtain ⟨b458, o459, cs460, _, _, ee465, hb461, vs462, hR463, hc464⟩ := SlW.at' (S.row_read 0 rfl) p456 p457
          obtain rfl : vs462 = _ := hR463
          refine W_v (.pointer (some ⟨b458, o459 + x418.toNat * 3, none⟩)) (x_indexAddr Tryd.underlying47 ty46 (slA ee465) rfl p456 p457) rfl (W_v (.agg #[.int .i64 ((rd x212 x418).n), .int .i64 ((rd x212 x418).slots), .int .i64 ((rd x212 x418).anchors)]) (x_loadA (Hp.of_get hb461) ty46 rfl (sub_el hc464 0 rfl) rfl rfl) rfl ?_)
          refine W_alloc S #[.int .i64 0, .int .i64 0, .int .i64 0] ty46 rfl rfl ?_
          intro b466 w467 E' S
          replace E := E.trans E'
          clear E'
          refine W_store S 0 rfl ty46 rfl rfl [.int .i64 ((rd x212 x418).n), .int .i64 ((rd x212 x418).slots), .int .i64 ((rd x212 x418).anchors)] rfl rfl rfl #[.int .i64 ((rd x212 x418).n), .int .i64 ((rd x212 x418).slots), .int .i64 ((rd x212 x418).anchors)] rfl rfl ?_
          intro w469 E' S
          replace E := E.trans E'
          clear E'
          refine Wl_nil (tn (Wp_seq ?_))
          refine Wp_region_any (S := fun w' => ∃ Mx, M345.le Mx ∧ St w' Mx F [Blk b466 (.cells #[.int .i64 ((rd x212 x418).n), .int .i64 ((rd x212 x418).slots), .int .i64 ((rd x212 x418).anchors)] 46 (0, 0)), Row r_St46 46 (.slice (some ⟨b209, 0, none⟩) x212.length 18) x212, Blk b4 (.cells #[.int .i64 t1.Tasks, .int .i64 t1.Active, .int .i64 4, .int .i64 4, .int .i64 t1.TS, .int .i64 t1.KeyLen, .int .i64 t1.ValLen, .int .i64 t1.Fan] 23 (0, 0))]) (L := 12) mixed ?_
          intro w478 hw479 E'
          replace S := S.heap hw479
          replace E := E.trans E'
          clear E'
          have D8 : ∃ Mx, Hp.le M345 Mx ∧ St _ Mx F [_, _, _] := ⟨_, Hp.le_refl _, S.pick [0, 1, 2] (by decide)⟩
          refine Wa_take (i := 0) rfl (by kernel_rfl) rfl rfl (.agg #[.int .i64 t1.Tasks, .int .i64 t1.Active, .int .i64 4, .int .i64 4, .int .i64 t1.TS, .int .i64 t1.KeyLen, .int .i64 t1.ValLen, .int .i64 t1.Fan]) rfl (fun w' h' => x_loadA (cls_blk h' 2 rfl) ty23 rfl (sub_of_extract rfl) rfl rfl) D8 (Wa_take (i := 1) rfl (by kernel_rfl) rfl rfl (.slice (some ⟨b195, 0, none⟩) ([x190] : List (List api_Call)).length 1) rfl (fun w' h' => x_move rfl) D8 (Wa_take (i := 2) rfl (by kernel_rfl) rfl rfl (.slice A203 t201.length c204) rfl (fun w' h' => x_move rfl) D8 (Wa_take (i := 3) rfl (by kernel_rfl) rfl rfl (pt b466 0) rfl (fun w' h' => x_fieldAddr (o := 0) (off := 0) Tryd.underlying46 rfl ty3 rfl rfl) D8 (Wa_take (i := 4) rfl (by kernel_rfl) rfl rfl (.int .i64 ((rd x212 x418).n)) rfl (fun w' h' => x_load (cls_blk h' 0 rfl) ty3 rfl rfl) D8 ?_))))
          obtain ⟨⟨p480, p481⟩, H⟩ := chkS H
          obtain ⟨hs483, hx484⟩ := sl_hi hf347 p480 p481
          have hs483z := hs483
          refine Wa_take (i := 5) rfl (by kernel_rfl) rfl rfl (.slice A203 (List.take ((rd x212 x418).n).toNat t201).length c204) rfl (fun w' h' => hx484 Tryd.underlying39 ty38 rfl rfl) D8 (Wa_take (i := 6) rfl (by kernel_rfl) rfl rfl (pt b466 1) rfl (fun w' h' => x_fieldAddr (o := 0) (off := 1) Tryd.underlying46 rfl ty3 rfl rfl) D8 (Wa_take (i := 7) rfl (by kernel_rfl) rfl rfl (.int .i64 ((rd x212 x418).slots)) rfl (fun w' h' => x_load (cls_blk h' 0 rfl) ty3 rfl rfl) D8 (Wa_take (i := 8) rfl (by kernel_rfl) rfl rfl (pt b466 2) rfl (fun w' h' => x_fieldAddr (o := 0) (off := 2) Tryd.underlying46 rfl ty3 rfl rfl) D8 (Wa_take (i := 9) rfl (by kernel_rfl) rfl rfl (.int .i64 ((rd x212 x418).anchors)) rfl (fun w' h' => x_load (cls_blk h' 0 rfl) ty3 rfl rfl) D8 ?_))))
          refine Wa_solo (i := 10) rfl (by kernel_rfl) ?_
          obtain ⟨t485, ht486, H⟩ := bindS H
          refine W_callF fn14 (ferrymanlaw30_is.con k M345 (⟨t1.Tasks, t1.Active, (4 : Int), (4 : Int), t1.TS, t1.KeyLen, t1.ValLen, t1.Fan⟩ : api_Config) (some ⟨b195, 0, none⟩) 1 ([x190] : List (List api_Call)) A203 c204 (List.take ((rd x212 x418).n).toNat t201) ((rd x212 x418).slots) ((rd x212 x418).anchors) t485 hf200 hs483 hg0 hg1 ht486) S rfl rfl (by rintro _ _ _ ⟨_, rfl⟩; exact flat_nil) ?_
          rintro _ w487 _ Γ' E' S ⟨rfl, rfl⟩
          replace E := E.trans E'
          clear E'
          refine Wl_nil (on_n ⟨.inr ⟨M345, Hp.le_refl M345, (S.pick [0, 1, 2] (by decide))⟩, ?_⟩)
          refine Wa_take (i := 11) rfl (by kernel_rfl) rfl rfl (.bool (!t485)) rfl (fun w' h' => x_not (b := t485) rfl) (⟨M345, Hp.le_refl M345, (S.pick [0, 1, 2] (by decide))⟩) ?_
          refine Wa_done (by kernel_rfl) ?_
          refine tn ?_
          rcases iteS H with ⟨hb488, H⟩ | ⟨hb488, H⟩
          · refine Wp_cond_true (congrArg Value.bool hb488) ?_
            refine Wp_seq (Wp_region_lit (W_v (.bool false) (x_assign rfl) rfl (Wl_nil (tn ?_))))
            refine Wp_ret ?_
            refine br (tr (tr (br (tr (tr (?_))))))
            obtain rfl := Option.some.inj H
            have H := o453H
            replace H := elimL H
            obtain rfl := Option.some.inj H
            exact ⟨_, _, _, fun w1 e1 => run_resR (vs := [.bool false]) (FA.cons (rfl) (FA.nil)), HM, E, S.pick [] (by decide), ⟨rfl, rfl⟩⟩
          refine Wp_cond_false (congrArg Value.bool hb488) (Wp_skip (bn (tn (Wp_region_lit (W_v (.int .i64 (IntKind.i64.wrap (x418 + (1 : Int)))) (x_ibin rfl rfl rfl rfl) rfl ?_)))))
          refine W_v (.int .i64 (IntKind.i64.wrap (x418 + (1 : Int)))) (x_move rfl) rfl (Wl_nil (tn ?_))
          exact ⟨k, Nat.lt_succ_self k, ⟨(IntKind.i64.wrap (x418 + (1 : Int))), H, ⟨rfl, rfl, rfl, rfl, rfl, rfl, trivial⟩, E, S.pick [1, 2] (by decide)⟩⟩
        refine Wp_cond_false (congrArg Value.bool hb455) ?_
        refine Wp_exit ?_
        refine tx (tx (bsm (?_)))
        refine tn ?_
        exact ⟨Option.some.inj H, trivial, E, S.pick [] (by decide)⟩
  clear o453h
  rintro ρ w489 ⟨rfl, hρ, E, S⟩
  rw [agree_eta hρ]
  clear hρ
  have H := o453H
  clear o453H
  replace H := elimR H
  refine tn ?_
  as_aux_lemma =>
  refine Wp_seq (Wp_region_lit (W_v (.bool true) (x_assign rfl) rfl (Wl_nil (tn ?_))))
  refine Wp_ret ?_
  obtain rfl := Option.some.inj H
  exact ⟨_, _, _, fun w1 e1 => run_resR (vs := [.bool true]) (FA.cons (rfl) (FA.nil)), HM, E, S.pick [] (by decide), ⟨rfl, rfl⟩⟩
end Go.Proofs.YtkknoimjgifhlaaDoor
