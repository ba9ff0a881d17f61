import Derived.Test.YtninegjnkkcepaaGe4B
import Derived.Test.YtninegjnkkcepaaGe4P0
import Derived.Test.YtninegjnkkcepaaGe4P1
namespace Go.Proofs.Ytninegjnkkcepaa
open Go
set_option linter.unusedVariables false
set_option linter.unusedSimpArgs false
def ferrymanlaw06_fresh_l0 (a0 : (List api_Event)) : Nat → List api_Event → Int → Option ((List api_Event))
  | 0, _, _ => none
  | k + 1, x106, x110 => (if (decide (x110 < (a0.length : Int))) = true then (if 0 ≤ x110 ∧ x110 < (a0.length : Int) then (if ([] : List api_Pair).length + ((rd a0 x110).Answer.Pairs).length ≤ 4398046511104 then (Option.bind (α := List api_Event) (some ([(⟨(rd a0 x110).What, (rd a0 x110).Task, (rd a0 x110).Call, ⟨(rd a0 x110).Answer.Err, (rd a0 x110).Answer.Found, (rd a0 x110).Answer.Value, (([] : List api_Pair) ++ (rd a0 x110).Answer.Pairs)⟩⟩ : api_Event)] : List api_Event)) (fun x204 => (if x106.length + x204.length ≤ 1759218604441 then ferrymanlaw06_fresh_l0 a0 k (x106 ++ x204) (IntKind.i64.wrap (x110 + (1 : Int))) else none))) else none) else none) else some (x106))
set_option maxHeartbeats 2000000 in
theorem ferrymanlaw06_fresh_l0.mono {a0 : (List api_Event)} : ∀ {kl : Nat} {x0 x1}, OLe (ferrymanlaw06_fresh_l0 a0 kl x0 x1) (ferrymanlaw06_fresh_l0 a0 (kl + 1) x0 x1) := by
  intro kl
  induction kl with
  | zero => intros; exact OLe.none
  | succ kl ih =>
    intros
    rw [ferrymanlaw06_fresh_l0.eq_2, ferrymanlaw06_fresh_l0.eq_2]
    repeat' (first | with_reducible exact OLe.none | with_reducible exact OLe.some | with_reducible refine OLe.ite ?_ ?_ | with_reducible refine OLe.bind ?_ (fun _ => ?_) | exact ih | refine OLe.bind ?_ (fun _ => ?_) | refine OLe.ite ?_ ?_ | refine OLe.elim (fun _ => ?_) (fun _ => ?_) | split)
def ferrymanlaw06_fresh (k : Nat) (a0 : (List api_Event)) : Option ((List api_Event)) :=
  (Option.bind (ferrymanlaw06_fresh_l0 a0 k ([] : List api_Event) (0 : Int)) (fun x158 => some x158))
set_option maxHeartbeats 2000000 in
theorem ferrymanlaw06_fresh.mono {k : Nat} {a0 : (List api_Event)} : OLe (ferrymanlaw06_fresh k a0) (ferrymanlaw06_fresh (k + 1) a0) := by
  unfold ferrymanlaw06_fresh
  repeat' (first | with_reducible exact OLe.none | with_reducible exact OLe.some | with_reducible refine OLe.ite ?_ ?_ | with_reducible refine OLe.bind ?_ (fun _ => ?_) | with_reducible exact ferrymanlaw06_fresh_l0.mono | refine OLe.bind ?_ (fun _ => ?_) | refine OLe.ite ?_ ?_ | refine OLe.elim (fun _ => ?_) (fun _ => ?_) | split)
set_option maxHeartbeats 1000000 in
set_option maxRecDepth 100000 in
theorem ferrymanlaw06_fresh.con (k : Nat) (M : Hp) (A0 : Option Addr) (c0 : Nat) (a0 : (List api_Event)) (r : (List api_Event)) (hr0 : SlR r_api_Event M (.slice A0 a0.length c0) a0) (h : ferrymanlaw06_fresh k a0 = some r) : Con Try.prog 22 #[.slice A0 a0.length c0] M [] (fun v M' Γ' => ∃ (A0 : Option Addr) (c0 : Nat), v = .slice A0 r.length c0 ∧ Γ' = [Row r_api_Event 32 (.slice A0 r.length c0) r]) := by
  refine con_of_wp Try.func22 rfl Try.ntmps22 Try.results22 rfl ?_
  intro w F rn S hrn
  have E := Ext.refl w
  have HM := Hp.le_refl M
  have H := h
  unfold ferrymanlaw06_fresh at H
  refine Wp_seq (Wp_region_lit (W_v (.slice none 0 0) (x_assign rfl) rfl (Wl_nil (tn (Wp_seq (Wp_region_lit (W_v (.slice none 0 0) (x_assign rfl) rfl (Wl_nil (tn (Wp_seq (Wp_seq (Wp_region_lit (W_v (.int .i64 0) (x_assign rfl) rfl (Wl_nil (tn ?_)))))))))))))))
  obtain ⟨o162, o162h, o162H⟩ := bindS H
  refine Wp_blockJ (fun ρ w' => ∃ (x158 : List api_Event) (A159 : Option Addr) (c160 : Nat) (Mj : Hp), (x158) = o162 ∧ Agree ρ [(3, .slice A159 x158.length c160)] ∧ M.le Mj ∧ Ext w w' ∧ St w' Mj F [Row r_api_Event 32 (.slice A159 x158.length c160) x158]) ?_ ?_
  · skip
    refine Wp_loop (fun n ρ w' => ∃ (x106 : List api_Event) (x110 : Int) (A107 : Option Addr) (c108 : Nat) (Mj : Hp), ferrymanlaw06_fresh_l0 a0 n x106 x110 = some o162 ∧ Agree ρ [(0, .slice A0 a0.length c0), (3, .slice A107 x106.length c108), (4, .int .i64 x110)] ∧ M.le Mj ∧ Ext w w' ∧ St w' Mj F [Row r_api_Event 32 (.slice A107 x106.length c108) x106]) k ?_ ?_
    · skip
      replace S := S.row_nil r_api_Event 32
      exact ⟨([] : List api_Event), (0 : Int), none, 0, M, o162h, ⟨rfl, rfl, rfl, trivial⟩, (Hp.le_refl M), E, S.pick [0] (by decide)⟩
    · intro n
      rintro ρ w164 ⟨x106, x110, A107, c108, M165, H, hρ, hM166, E, S⟩
      rw [agree_eta hρ]
      replace HM := Hp.le_trans HM hM166
      replace hr0 := SlR.mono hr0 hM166
      cases n with
      | zero => cases H
      | succ k =>
        rw [ferrymanlaw06_fresh_l0.eq_2] at H
        refine Wp_seq (Wp_seq (Wp_region_lit (W_v (.int .i64 x110) (x_move rfl) rfl (W_v (.slice A0 a0.length c0) (x_move rfl) rfl (W_v (.int .i64 (a0.length : Int)) (x_len_slice (n := a0.length) Try.underlying22 rfl) rfl (W_v (.bool (decide (x110 < (a0.length : Int)))) (x_ibin rfl rfl rfl rfl) rfl (Wl_nil (tn ?_))))))))
        rcases iteS H with ⟨hb167, H⟩ | ⟨hb167, H⟩
        · refine Wp_cond_true (congrArg Value.bool hb167) ?_
          refine Wp_skip (tn (Wp_seq ?_))
          refine Wp_block ?_
          refine Wp_seq (Wp_region_lit (W_v (.slice A0 a0.length c0) (x_move rfl) rfl (W_v (.int .i64 x110) (x_move rfl) rfl ?_)))
          obtain ⟨⟨p168, p169⟩, H⟩ := chkS H
          obtain ⟨b170, o171, cs172, _, _, ee177, hb173, vs174, hR175, hc176⟩ := SlW.at' hr0 p168 p169
          obtain ⟨v181, hs180, rfl⟩ := hR175
          obtain ⟨A178, c179, rfl, _⟩ := hs180.form
          refine W_v (.pointer (some ⟨b170, o171 + x110.toNat * 7, none⟩)) (x_indexAddr Try.underlying22 ty32 (slA ee177) rfl p168 p169) rfl (W_v (.agg #[.int .u8 ((rd a0 x110).What), .int .i64 ((rd a0 x110).Task), .int .i64 ((rd a0 x110).Call), .int .i64 ((rd a0 x110).Answer.Err), .bool ((rd a0 x110).Answer.Found), .string (bs ((rd a0 x110).Answer.Value)), .slice A178 ((rd a0 x110).Answer.Pairs).length c179]) (x_loadA (S.frz hb173) ty32 rfl (sub_el hc176 0 rfl) rfl rfl) rfl ?_)
          refine W_alloc S #[.int .u8 0, .int .i64 0, .int .i64 0, .int .i64 0, .bool false, .string (bs ([] : Str)), .slice none 0 0] ty32 rfl rfl ?_
          intro b182 w183 E' S
          replace E := E.trans E'
          refine W_store S 0 rfl ty32 rfl rfl [.int .u8 ((rd a0 x110).What), .int .i64 ((rd a0 x110).Task), .int .i64 ((rd a0 x110).Call), .int .i64 ((rd a0 x110).Answer.Err), .bool ((rd a0 x110).Answer.Found), .string (bs ((rd a0 x110).Answer.Value)), .slice A178 ((rd a0 x110).Answer.Pairs).length c179] rfl rfl rfl #[.int .u8 ((rd a0 x110).What), .int .i64 ((rd a0 x110).Task), .int .i64 ((rd a0 x110).Call), .int .i64 ((rd a0 x110).Answer.Err), .bool ((rd a0 x110).Answer.Found), .string (bs ((rd a0 x110).Answer.Value)), .slice A178 ((rd a0 x110).Answer.Pairs).length c179] (by as_aux_lemma => kernel_rfl) rfl ?_
          intro w185 E' S
          replace E := E.trans E'
          refine Wl_nil (tn (Wp_seq (Wp_region_lit ?_)))
          refine W_bslice S #[] Try.underlying28 ty43 rfl rfl #[] (by as_aux_lemma => kernel_rfl) (by as_aux_lemma => kernel_rfl) rfl ?_
          intro b186 w187 E' S
          replace E := E.trans E'
          replace S := S.blk_row (r := r_api_Pair) (l := ([] : List api_Pair)) 0 rfl 0 (Nat.le_refl 0) rfl Cells.nil
          refine W_v (pt b182 3) (x_fieldAddr (o := 0) (off := 3) Try.underlying32 rfl ty30 rfl rfl) rfl (W_v (pt b182 6) (x_fieldAddr (o := 3) (off := 3) Try.underlying30 rfl ty28 rfl rfl) rfl (W_v (.slice A178 ((rd a0 x110).Answer.Pairs).length c179) (x_load (S.blk 1 rfl) ty28 rfl rfl) rfl ?_))
          obtain ⟨p189, H⟩ := chkS H
          obtain ⟨src190, hs191, hC192⟩ := src_of_read (P := Try.prog) (ρ := r_api_Pair) (l := (rd a0 x110).Answer.Pairs) (SlR.world hs180 S) (by decide)
          refine W_append S 0 rfl rfl rfl Try.underlying28 (.inl Try.underlying28) ty43 rfl (by decide) (by decide) hs191 hC192 rfl (by omega) rfl ?_
          intro v193 w194 E' S
          replace E := E.trans E'
          obtain ⟨A195, c196, rfl, _⟩ := (S.row_read 0 rfl).form
          refine W_v (pt b182 3) (x_fieldAddr (o := 0) (off := 3) Try.underlying32 rfl ty30 rfl rfl) rfl (W_v (pt b182 6) (x_fieldAddr (o := 3) (off := 3) Try.underlying30 rfl ty28 rfl rfl) rfl ?_)
          refine W_store S 1 rfl ty28 rfl rfl [.slice A195 (([] : List api_Pair) ++ (rd a0 x110).Answer.Pairs).length c196] rfl rfl rfl #[.int .u8 ((rd a0 x110).What), .int .i64 ((rd a0 x110).Task), .int .i64 ((rd a0 x110).Call), .int .i64 ((rd a0 x110).Answer.Err), .bool ((rd a0 x110).Answer.Found), .string (bs ((rd a0 x110).Answer.Value)), .slice A195 (([] : List api_Pair) ++ (rd a0 x110).Answer.Pairs).length c196] rfl rfl ?_
          intro w197 E' S
          replace E := E.trans E'
          refine Wl_nil (tn (Wp_region_lit (W_v (.slice A107 x106.length c108) (x_move rfl) rfl (W_v (.agg #[.int .u8 ((rd a0 x110).What), .int .i64 ((rd a0 x110).Task), .int .i64 ((rd a0 x110).Call), .int .i64 ((rd a0 x110).Answer.Err), .bool ((rd a0 x110).Answer.Found), .string (bs ((rd a0 x110).Answer.Value)), .slice A195 (([] : List api_Pair) ++ (rd a0 x110).Answer.Pairs).length c196]) (x_loadA (S.blk 1 rfl) ty32 rfl (sub_of_extract rfl) rfl rfl) rfl ?_))))
          obtain ⟨M198, hM199, hf200, S⟩ := S.row_freeze 0 rfl
          replace HM := Hp.le_trans HM hM199
          replace hM166 := Hp.le_trans hM166 hM199
          replace hr0 := SlR.mono hr0 hM199
          replace hb173 := hM199 _ _ hb173
          replace hs180 := SlR.mono hs180 hM199
          refine W_bslice S #[.int .u8 ((rd a0 x110).What), .int .i64 ((rd a0 x110).Task), .int .i64 ((rd a0 x110).Call), .int .i64 ((rd a0 x110).Answer.Err), .bool ((rd a0 x110).Answer.Found), .string (bs ((rd a0 x110).Answer.Value)), .slice A195 (([] : List api_Pair) ++ (rd a0 x110).Answer.Pairs).length c196] Try.underlying22 ty32 rfl rfl #[.int .u8 0, .int .i64 0, .int .i64 0, .int .i64 0, .bool false, .string (bs ([] : Str)), .slice none 0 0] (by as_aux_lemma => kernel_rfl) (by as_aux_lemma => kernel_rfl) rfl ?_
          intro b201 w202 E' S
          replace E := E.trans E'
          replace S := S.blk_row (r := r_api_Event) (l := ([(⟨(rd a0 x110).What, (rd a0 x110).Task, (rd a0 x110).Call, ⟨(rd a0 x110).Answer.Err, (rd a0 x110).Answer.Found, (rd a0 x110).Answer.Value, (([] : List api_Pair) ++ (rd a0 x110).Answer.Pairs)⟩⟩ : api_Event)] : List api_Event)) 0 rfl 1 (Nat.le_refl 1) rfl (Cells.cons (vs := [.int .u8 ((rd a0 x110).What), .int .i64 ((rd a0 x110).Task), .int .i64 ((rd a0 x110).Call), .int .i64 ((rd a0 x110).Answer.Err), .bool ((rd a0 x110).Answer.Found), .string (bs ((rd a0 x110).Answer.Value)), .slice A195 (([] : List api_Pair) ++ (rd a0 x110).Answer.Pairs).length c196]) (⟨_, hf200, rfl⟩) Cells.nil)
          obtain ⟨x204, he205, H⟩ := bindS H
          replace he205 := Option.some.inj he205
          rw [he205] at S
          refine Eq.mpr (congrArg (fun z => Wl _ _ _ _ _ _ (upd _ _ z) _) (show Value.slice (some ⟨b201, 0, none⟩) 1 1 = Value.slice (some ⟨b201, 0, none⟩) x204.length 1 from (by rw [← he205]; rfl))) ?_
          obtain ⟨p206, H⟩ := chkS H
          obtain ⟨src207, hs208, hC209⟩ := src_of_read (P := Try.prog) (ρ := r_api_Event) (l := x204) (S.row_read 0 rfl) (by decide)
          refine W_append S 2 rfl rfl rfl Try.underlying22 (.inl Try.underlying22) ty32 rfl (by decide) (by decide) hs208 hC209 rfl (by omega) rfl ?_
          intro v210 w211 E' S
          replace E := E.trans E'
          obtain ⟨A212, c213, rfl, _⟩ := (S.row_read 2 rfl).form
          refine W_v (.slice A212 (x106 ++ x204).length c213) (x_assign rfl) rfl (Wl_nil (bn (tn (Wp_region_lit (W_v (.int .i64 x110) (x_move rfl) rfl (W_v (.int .i64 (IntKind.i64.wrap (x110 + (1 : Int)))) (x_ibin rfl rfl rfl rfl) rfl (W_v (.int .i64 (IntKind.i64.wrap (x110 + (1 : Int)))) (x_assign rfl) rfl (Wl_nil (tn ?_)))))))))
          exact ⟨k, Nat.lt_succ_self k, ⟨(x106 ++ x204), (IntKind.i64.wrap (x110 + (1 : Int))), A212, c213, M198, H, ⟨rfl, rfl, rfl, trivial⟩, hM166, E, S.pick [2] (by decide)⟩⟩
        refine Wp_cond_false (congrArg Value.bool hb167) ?_
        refine Wp_exit ?_
        refine tx (tx (bsm (?_)))
        refine tn ?_
        exact ⟨x106, A107, c108, M165, Option.some.inj H, ⟨rfl, trivial⟩, hM166, E, S.pick [0] (by decide)⟩
  rintro ρ w214 ⟨x158, A159, c160, M215, rfl, hρ, hM216, E, S⟩
  rw [agree_eta hρ]
  replace HM := Hp.le_trans HM hM216
  replace hr0 := SlR.mono hr0 hM216
  have H := o162H
  refine tn ?_
  as_aux_lemma =>
  refine Wp_seq (Wp_region_lit (W_v (.slice A159 x158.length c160) (x_move rfl) rfl (W_v (.slice A159 x158.length c160) (x_assign rfl) rfl (Wl_nil (tn ?_)))))
  refine Wp_ret ?_
  obtain rfl := Option.some.inj H
  exact ⟨_, _, _, fun w1 e1 => run_resR (vs := [.slice A159 x158.length c160]) (FA.cons (rfl) (FA.nil)), HM, E, S.pick [0] (by decide), ⟨A159, c160, rfl, rfl⟩⟩
def ferrymanlaw06_given_l0 (a0 : (List ferrymanref06_Place)) : Nat → List event_Place → Int → Option ((List event_Place))
  | 0, _, _ => none
  | k + 1, x56, x60 => (if (decide (x60 < (a0.length : Int))) = true then (if 0 ≤ x60 ∧ x60 < (a0.length : Int) then (if x56.length + ([(⟨(rd a0 x60).Task, (rd a0 x60).Call⟩ : event_Place)] : List event_Place).length ≤ 8796093022208 then ferrymanlaw06_given_l0 a0 k (x56 ++ ([(⟨(rd a0 x60).Task, (rd a0 x60).Call⟩ : event_Place)] : List event_Place)) (IntKind.i64.wrap (x60 + (1 : Int))) else none) else none) else some (x56))
set_option maxHeartbeats 2000000 in
theorem ferrymanlaw06_given_l0.mono {a0 : (List ferrymanref06_Place)} : ∀ {kl : Nat} {x0 x1}, OLe (ferrymanlaw06_given_l0 a0 kl x0 x1) (ferrymanlaw06_given_l0 a0 (kl + 1) x0 x1) := by
  intro kl
  induction kl with
  | zero => intros; exact OLe.none
  | succ kl ih =>
    intros
    rw [ferrymanlaw06_given_l0.eq_2, ferrymanlaw06_given_l0.eq_2]
    repeat' (first | with_reducible exact OLe.none | with_reducible exact OLe.some | with_reducible refine OLe.ite ?_ ?_ | with_reducible refine OLe.bind ?_ (fun _ => ?_) | exact ih | refine OLe.bind ?_ (fun _ => ?_) | refine OLe.ite ?_ ?_ | refine OLe.elim (fun _ => ?_) (fun _ => ?_) | split)
def ferrymanlaw06_given (k : Nat) (a0 : (List ferrymanref06_Place)) : Option ((List event_Place)) :=
  (Option.bind (ferrymanlaw06_given_l0 a0 k ([] : List event_Place) (0 : Int)) (fun x83 => some x83))
set_option maxHeartbeats 2000000 in
theorem ferrymanlaw06_given.mono {k : Nat} {a0 : (List ferrymanref06_Place)} : OLe (ferrymanlaw06_given k a0) (ferrymanlaw06_given (k + 1) a0) := by
  unfold ferrymanlaw06_given
  repeat' (first | with_reducible exact OLe.none | with_reducible exact OLe.some | with_reducible refine OLe.ite ?_ ?_ | with_reducible refine OLe.bind ?_ (fun _ => ?_) | with_reducible exact ferrymanlaw06_given_l0.mono | refine OLe.bind ?_ (fun _ => ?_) | refine OLe.ite ?_ ?_ | refine OLe.elim (fun _ => ?_) (fun _ => ?_) | split)
set_option maxHeartbeats 1000000 in
set_option maxRecDepth 100000 in
theorem ferrymanlaw06_given.con (k : Nat) (M : Hp) (A0 : Option Addr) (c0 : Nat) (a0 : (List ferrymanref06_Place)) (r : (List event_Place)) (hr0 : SlR r_ferrymanref06_Place M (.slice A0 a0.length c0) a0) (h : ferrymanlaw06_given k a0 = some r) : Con Try.prog 25 #[.slice A0 a0.length c0] M [] (fun v M' Γ' => ∃ (A0 : Option Addr) (c0 : Nat), v = .slice A0 r.length c0 ∧ Γ' = [Row r_event_Place 62 (.slice A0 r.length c0) r]) := by
  refine con_of_wp Try.func25 rfl Try.ntmps25 Try.results25 rfl ?_
  intro w F rn S hrn
  have E := Ext.refl w
  have HM := Hp.le_refl M
  have H := h
  unfold ferrymanlaw06_given at H
  refine Wp_seq (Wp_region_lit (W_v (.slice none 0 0) (x_assign rfl) rfl (Wl_nil (tn (Wp_seq (Wp_region_lit (W_v (.slice none 0 0) (x_assign rfl) rfl (Wl_nil (tn (Wp_seq (Wp_seq (Wp_region_lit (W_v (.int .i64 0) (x_assign rfl) rfl (Wl_nil (tn ?_)))))))))))))))
  obtain ⟨o87, o87h, o87H⟩ := bindS H
  refine Wp_blockJ (fun ρ w' => ∃ (x83 : List event_Place) (A84 : Option Addr) (c85 : Nat), (x83) = o87 ∧ Agree ρ [(3, .slice A84 x83.length c85)] ∧ Ext w w' ∧ St w' M F [Row r_event_Place 62 (.slice A84 x83.length c85) x83]) ?_ ?_
  · skip
    refine Wp_loop (fun n ρ w' => ∃ (x56 : List event_Place) (x60 : Int) (A57 : Option Addr) (c58 : Nat), ferrymanlaw06_given_l0 a0 n x56 x60 = some o87 ∧ Agree ρ [(0, .slice A0 a0.length c0), (3, .slice A57 x56.length c58), (4, .int .i64 x60)] ∧ Ext w w' ∧ St w' M F [Row r_event_Place 62 (.slice A57 x56.length c58) x56]) k ?_ ?_
    · skip
      replace S := S.row_nil r_event_Place 62
      exact ⟨([] : List event_Place), (0 : Int), none, 0, o87h, ⟨rfl, rfl, rfl, trivial⟩, E, S.pick [0] (by decide)⟩
    · intro n
      rintro ρ w89 ⟨x56, x60, A57, c58, H, hρ, E, S⟩
      rw [agree_eta hρ]
      cases n with
      | zero => cases H
      | succ k =>
        rw [ferrymanlaw06_given_l0.eq_2] at H
        refine Wp_seq (Wp_seq (Wp_region_lit (W_v (.int .i64 x60) (x_move rfl) rfl (W_v (.slice A0 a0.length c0) (x_move rfl) rfl (W_v (.int .i64 (a0.length : Int)) (x_len_slice (n := a0.length) Try.underlying52 rfl) rfl (W_v (.bool (decide (x60 < (a0.length : Int)))) (x_ibin rfl rfl rfl rfl) rfl (Wl_nil (tn ?_))))))))
        rcases iteS H with ⟨hb90, H⟩ | ⟨hb90, H⟩
        · refine Wp_cond_true (congrArg Value.bool hb90) ?_
          refine Wp_skip (tn (Wp_seq ?_))
          refine Wp_block ?_
          refine Wp_region_lit (W_v (.slice A57 x56.length c58) (x_move rfl) rfl (W_v (.slice A0 a0.length c0) (x_move rfl) rfl (W_v (.int .i64 x60) (x_move rfl) rfl ?_)))
          obtain ⟨⟨p91, p92⟩, H⟩ := chkS H
          obtain ⟨b93, o94, cs95, _, _, ee100, hb96, vs97, hR98, hc99⟩ := SlW.at' hr0 p91 p92
          obtain rfl : vs97 = _ := hR98
          refine W_v (.pointer (some ⟨b93, o94 + x60.toNat * 2, none⟩)) (x_indexAddr Try.underlying52 ty81 (slA ee100) rfl p91 p92) rfl (W_v (.agg #[.int .i64 ((rd a0 x60).Task), .int .i64 ((rd a0 x60).Call)]) (x_loadA (S.frz hb96) ty81 rfl (sub_el hc99 0 rfl) rfl rfl) rfl ?_)
          refine W_bslice S #[.int .i64 ((rd a0 x60).Task), .int .i64 ((rd a0 x60).Call)] Try.underlying55 ty62 rfl rfl #[.int .i64 0, .int .i64 0] (by as_aux_lemma => kernel_rfl) (by as_aux_lemma => kernel_rfl) rfl ?_
          intro b101 w102 E' S
          replace E := E.trans E'
          replace S := S.blk_row (r := r_event_Place) (l := ([(⟨(rd a0 x60).Task, (rd a0 x60).Call⟩ : event_Place)] : List event_Place)) 0 rfl 1 (Nat.le_refl 1) rfl (Cells.cons (vs := [.int .i64 ((rd a0 x60).Task), .int .i64 ((rd a0 x60).Call)]) (rfl) Cells.nil)
          obtain ⟨p104, H⟩ := chkS H
          obtain ⟨src105, hs106, hC107⟩ := src_of_read (P := Try.prog) (ρ := r_event_Place) (l := ([(⟨(rd a0 x60).Task, (rd a0 x60).Call⟩ : event_Place)] : List event_Place)) (S.row_read 0 rfl) (by decide)
          refine W_append S 1 rfl rfl rfl Try.underlying55 (.inl Try.underlying55) ty62 rfl (by decide) (by decide) hs106 hC107 rfl (by omega) rfl ?_
          intro v108 w109 E' S
          replace E := E.trans E'
          obtain ⟨A110, c111, rfl, _⟩ := (S.row_read 1 rfl).form
          refine W_v (.slice A110 (x56 ++ ([(⟨(rd a0 x60).Task, (rd a0 x60).Call⟩ : event_Place)] : List event_Place)).length c111) (x_assign rfl) rfl (Wl_nil (bn (tn (Wp_region_lit (W_v (.int .i64 x60) (x_move rfl) rfl (W_v (.int .i64 (IntKind.i64.wrap (x60 + (1 : Int)))) (x_ibin rfl rfl rfl rfl) rfl (W_v (.int .i64 (IntKind.i64.wrap (x60 + (1 : Int)))) (x_assign rfl) rfl (Wl_nil (tn ?_)))))))))
          exact ⟨k, Nat.lt_succ_self k, ⟨(x56 ++ ([(⟨(rd a0 x60).Task, (rd a0 x60).Call⟩ : event_Place)] : List event_Place)), (IntKind.i64.wrap (x60 + (1 : Int))), A110, c111, H, ⟨rfl, rfl, rfl, trivial⟩, E, S.pick [1] (by decide)⟩⟩
        refine Wp_cond_false (congrArg Value.bool hb90) ?_
        refine Wp_exit ?_
        refine tx (tx (bsm (?_)))
        refine tn ?_
        exact ⟨x56, A57, c58, Option.some.inj H, ⟨rfl, trivial⟩, E, S.pick [0] (by decide)⟩
  rintro ρ w112 ⟨x83, A84, c85, rfl, hρ, E, S⟩
  rw [agree_eta hρ]
  have H := o87H
  refine tn ?_
  as_aux_lemma =>
  refine Wp_seq (Wp_region_lit (W_v (.slice A84 x83.length c85) (x_move rfl) rfl (W_v (.slice A84 x83.length c85) (x_assign rfl) rfl (Wl_nil (tn ?_)))))
  refine Wp_ret ?_
  obtain rfl := Option.some.inj H
  exact ⟨_, _, _, fun w1 e1 => run_resR (vs := [.slice A84 x83.length c85]) (FA.cons (rfl) (FA.nil)), HM, E, S.pick [0] (by decide), ⟨A84, c85, rfl, rfl⟩⟩
def ferrymanref06_Bare_l0 (a0 : (List api_Event)) : Nat → List api_Event → Int → Option ((List api_Event))
  | 0, _, _ => none
  | k + 1, x425, x429 => (if (decide (x429 < (a0.length : Int))) = true then (Option.bind (α := List api_Event) (if 0 ≤ x429 ∧ x429 < (a0.length : Int) then (Option.bind (α := List api_Event) (if ((rd a0 x429).What != (2 : Int)) = true then (if 0 ≤ x429 ∧ x429 < (a0.length : Int) then (if x425.length + ([(rd a0 x429)] : List api_Event).length ≤ 1759218604441 then some ((x425 ++ ([(rd a0 x429)] : List api_Event))) else none) else none) else some (x425)) (fun x810 => some (x810))) else none) (fun x739 => ferrymanref06_Bare_l0 a0 k x739 (IntKind.i64.wrap (x429 + (1 : Int))))) else some (x425))
set_option maxHeartbeats 2000000 in
theorem ferrymanref06_Bare_l0.mono {a0 : (List api_Event)} : ∀ {kl : Nat} {x0 x1}, OLe (ferrymanref06_Bare_l0 a0 kl x0 x1) (ferrymanref06_Bare_l0 a0 (kl + 1) x0 x1) := by
  intro kl
  induction kl with
  | zero => intros; exact OLe.none
  | succ kl ih =>
    intros
    rw [ferrymanref06_Bare_l0.eq_2, ferrymanref06_Bare_l0.eq_2]
    repeat' (first | with_reducible exact OLe.none | with_reducible exact OLe.some | with_reducible refine OLe.ite ?_ ?_ | with_reducible refine OLe.bind ?_ (fun _ => ?_) | exact ih | refine OLe.bind ?_ (fun _ => ?_) | refine OLe.ite ?_ ?_ | refine OLe.elim (fun _ => ?_) (fun _ => ?_) | split)
def ferrymanref06_Bare (k : Nat) (a0 : (List api_Event)) : Option ((List api_Event)) :=
  (Option.bind (ferrymanref06_Bare_l0 a0 k ([] : List api_Event) (0 : Int)) (fun x633 => some x633))
set_option maxHeartbeats 2000000 in
theorem ferrymanref06_Bare.mono {k : Nat} {a0 : (List api_Event)} : OLe (ferrymanref06_Bare k a0) (ferrymanref06_Bare (k + 1) a0) := by
  unfold ferrymanref06_Bare
  repeat' (first | with_reducible exact OLe.none | with_reducible exact OLe.some | with_reducible refine OLe.ite ?_ ?_ | with_reducible refine OLe.bind ?_ (fun _ => ?_) | with_reducible exact ferrymanref06_Bare_l0.mono | refine OLe.bind ?_ (fun _ => ?_) | refine OLe.ite ?_ ?_ | refine OLe.elim (fun _ => ?_) (fun _ => ?_) | split)
set_option maxHeartbeats 1000000 in
set_option maxRecDepth 100000 in
theorem ferrymanref06_Bare.con (k : Nat) (M : Hp) (A0 : Option Addr) (c0 : Nat) (a0 : (List api_Event)) (r : (List api_Event)) (hr0 : SlR r_api_Event M (.slice A0 a0.length c0) a0) (h : ferrymanref06_Bare k a0 = some r) : Con Try.prog 26 #[.slice A0 a0.length c0] M [] (fun v M' Γ' => ∃ (A0 : Option Addr) (c0 : Nat), v = .slice A0 r.length c0 ∧ Γ' = [Row r_api_Event 32 (.slice A0 r.length c0) r]) := by
  refine con_of_wp Try.func26 rfl Try.ntmps26 Try.results26 rfl ?_
  intro w F rn S hrn
  have E := Ext.refl w
  have HM := Hp.le_refl M
  have H := h
  unfold ferrymanref06_Bare at H
  refine Wp_seq (Wp_region_lit (W_v (.slice none 0 0) (x_assign rfl) rfl (Wl_nil (tn (Wp_seq (Wp_region_lit (W_v (.slice none 0 0) (x_assign rfl) rfl (Wl_nil (tn (Wp_seq (Wp_seq (Wp_region_lit (W_v (.int .i64 0) (x_assign rfl) rfl (Wl_nil (tn ?_)))))))))))))))
  obtain ⟨o637, o637h, o637H⟩ := bindS H
  refine Wp_blockJ (fun ρ w' => ∃ (x633 : List api_Event) (A634 : Option Addr) (c635 : Nat), (x633) = o637 ∧ Agree ρ [(3, .slice A634 x633.length c635)] ∧ Ext w w' ∧ St w' M F [Row r_api_Event 32 (.slice A634 x633.length c635) x633]) ?_ ?_
  · skip
    refine Wp_loop (fun n ρ w' => ∃ (x425 : List api_Event) (x429 : Int) (A426 : Option Addr) (c427 : Nat), ferrymanref06_Bare_l0 a0 n x425 x429 = some o637 ∧ Agree ρ [(0, .slice A0 a0.length c0), (3, .slice A426 x425.length c427), (4, .int .i64 x429)] ∧ Ext w w' ∧ St w' M F [Row r_api_Event 32 (.slice A426 x425.length c427) x425]) k ?_ ?_
    · skip
      replace S := S.row_nil r_api_Event 32
      exact ⟨([] : List api_Event), (0 : Int), none, 0, o637h, ⟨rfl, rfl, rfl, trivial⟩, E, S.pick [0] (by decide)⟩
    · intro n
      rintro ρ w639 ⟨x425, x429, A426, c427, H, hρ, E, S⟩
      rw [agree_eta hρ]
      cases n with
      | zero => cases H
      | succ k =>
        rw [ferrymanref06_Bare_l0.eq_2] at H
        refine Wp_seq (Wp_seq (Wp_region_lit (W_v (.int .i64 x429) (x_move rfl) rfl (W_v (.slice A0 a0.length c0) (x_move rfl) rfl (W_v (.int .i64 (a0.length : Int)) (x_len_slice (n := a0.length) Try.underlying22 rfl) rfl (W_v (.bool (decide (x429 < (a0.length : Int)))) (x_ibin rfl rfl rfl rfl) rfl (Wl_nil (tn ?_))))))))
        rcases iteS H with ⟨hb640, H⟩ | ⟨hb640, H⟩
        · refine Wp_cond_true (congrArg Value.bool hb640) ?_
          refine Wp_skip (tn (Wp_seq ?_))
          obtain ⟨o743, o743h, o743H⟩ := bindS H
          refine Wp_cut (fun ρ w' => ∃ (x739 : List api_Event) (A740 : Option Addr) (c741 : Nat), (x739) = o743 ∧ Agree ρ [(0, .slice A0 a0.length c0), (3, .slice A740 x739.length c741), (4, .int .i64 x429)] ∧ Ext w w' ∧ St w' M F [Row r_api_Event 32 (.slice A740 x739.length c741) x739]) ?_ ?_
          · as_aux_lemma =>
              clear o743H
              have H := o743h
              refine Wp_block ?_
              refine Wp_seq (Wp_region_lit (W_v (.slice A0 a0.length c0) (x_move rfl) rfl (W_v (.int .i64 x429) (x_move rfl) rfl ?_)))
              obtain ⟨⟨p744, p745⟩, H⟩ := chkS H
              obtain ⟨b746, o747, cs748, _, _, ee753, hb749, vs750, hR751, hc752⟩ := SlW.at' hr0 p744 p745
              obtain ⟨v757, hs756, rfl⟩ := hR751
              obtain ⟨A754, c755, rfl, _⟩ := hs756.form
              refine W_v (.pointer (some ⟨b746, o747 + x429.toNat * 7, none⟩)) (x_indexAddr Try.underlying22 ty32 (slA ee753) rfl p744 p745) rfl (W_v (.pointer (some ⟨b746, o747 + x429.toNat * 7, none⟩)) (x_fieldAddr (o := o747 + x429.toNat * 7) (off := 0) Try.underlying32 rfl ty5 rfl rfl) rfl (W_v (.int .u8 ((rd a0 x429).What)) (x_load (S.frz hb749) ty5 rfl (hc752 0 _ rfl)) rfl (W_v (.bool ((rd a0 x429).What != (2 : Int))) (x_ibin rfl rfl rfl rfl) rfl (Wl_nil (tn ?_)))))
              obtain ⟨o814, o814h, o814H⟩ := bindS H
              refine Wp_cut (fun ρ w' => ∃ (x810 : List api_Event) (A811 : Option Addr) (c812 : Nat), (x810) = o814 ∧ Agree ρ [(0, .slice A0 a0.length c0), (3, .slice A811 x810.length c812), (4, .int .i64 x429)] ∧ Ext w w' ∧ St w' M F [Row r_api_Event 32 (.slice A811 x810.length c812) x810]) ?_ ?_
              · clear o814H
                have H := o814h
                rcases iteS H with ⟨hb815, H⟩ | ⟨hb815, H⟩
                · refine Wp_cond_true (congrArg Value.bool hb815) ?_
                  refine Wp_region_lit (W_v (.slice A426 x425.length c427) (x_move rfl) rfl (W_v (.slice A0 a0.length c0) (x_move rfl) rfl (W_v (.int .i64 x429) (x_move rfl) rfl ?_)))
                  obtain ⟨⟨p816, p817⟩, H⟩ := chkS H
                  obtain ⟨b818, o819, cs820, _, _, ee825, hb821, vs822, hR823, hc824⟩ := SlW.at' hr0 p816 p817
                  obtain ⟨v829, hs828, rfl⟩ := hR823
                  obtain ⟨A826, c827, rfl, _⟩ := hs828.form
                  refine W_v (.pointer (some ⟨b818, o819 + x429.toNat * 7, none⟩)) (x_indexAddr Try.underlying22 ty32 (slA ee825) rfl p816 p817) rfl (W_v (.agg #[.int .u8 ((rd a0 x429).What), .int .i64 ((rd a0 x429).Task), .int .i64 ((rd a0 x429).Call), .int .i64 ((rd a0 x429).Answer.Err), .bool ((rd a0 x429).Answer.Found), .string (bs ((rd a0 x429).Answer.Value)), .slice A826 ((rd a0 x429).Answer.Pairs).length c827]) (x_loadA (S.frz hb821) ty32 rfl (sub_el hc824 0 rfl) rfl rfl) rfl ?_)
                  refine W_bslice S #[.int .u8 ((rd a0 x429).What), .int .i64 ((rd a0 x429).Task), .int .i64 ((rd a0 x429).Call), .int .i64 ((rd a0 x429).Answer.Err), .bool ((rd a0 x429).Answer.Found), .string (bs ((rd a0 x429).Answer.Value)), .slice A826 ((rd a0 x429).Answer.Pairs).length c827] Try.underlying22 ty32 rfl rfl #[.int .u8 0, .int .i64 0, .int .i64 0, .int .i64 0, .bool false, .string (bs ([] : Str)), .slice none 0 0] (by as_aux_lemma => kernel_rfl) (by as_aux_lemma => kernel_rfl) rfl ?_
                  intro b830 w831 E' S
                  replace E := E.trans E'
                  replace S := S.blk_row (r := r_api_Event) (l := ([(rd a0 x429)] : List api_Event)) 0 rfl 1 (Nat.le_refl 1) rfl (Cells.cons (vs := [.int .u8 ((rd a0 x429).What), .int .i64 ((rd a0 x429).Task), .int .i64 ((rd a0 x429).Call), .int .i64 ((rd a0 x429).Answer.Err), .bool ((rd a0 x429).Answer.Found), .string (bs ((rd a0 x429).Answer.Value)), .slice A826 ((rd a0 x429).Answer.Pairs).length c827]) (⟨_, hs828, rfl⟩) Cells.nil)
                  obtain ⟨p833, H⟩ := chkS H
                  obtain ⟨src834, hs835, hC836⟩ := src_of_read (P := Try.prog) (ρ := r_api_Event) (l := ([(rd a0 x429)] : List api_Event)) (S.row_read 0 rfl) (by decide)
                  refine W_append S 1 rfl rfl rfl Try.underlying22 (.inl Try.underlying22) ty32 rfl (by decide) (by decide) hs835 hC836 rfl (by omega) rfl ?_
                  intro v837 w838 E' S
                  replace E := E.trans E'
                  obtain ⟨A839, c840, rfl, _⟩ := (S.row_read 1 rfl).form
                  refine W_v (.slice A839 (x425 ++ ([(rd a0 x429)] : List api_Event)).length c840) (x_assign rfl) rfl (Wl_nil (tn ?_))
                  exact ⟨(x425 ++ ([(rd a0 x429)] : List api_Event)), A839, c840, Option.some.inj H, ⟨rfl, rfl, rfl, trivial⟩, E, S.pick [1] (by decide)⟩
                refine Wp_cond_false (congrArg Value.bool hb815) (Wp_skip (tn ?_))
                exact ⟨x425, A426, c427, Option.some.inj H, ⟨rfl, rfl, rfl, trivial⟩, E, S.pick [0] (by decide)⟩
              rintro ρ w841 ⟨x810, A811, c812, rfl, hρ, E, S⟩
              rw [agree_eta hρ]
              have H := o814H
              refine bn (tn ?_)
              exact ⟨x810, A811, c812, Option.some.inj H, ⟨rfl, rfl, rfl, trivial⟩, E, S.pick [0] (by decide)⟩
          rintro ρ w842 ⟨x739, A740, c741, rfl, hρ, E, S⟩
          rw [agree_eta hρ]
          have H := o743H
          refine tn (Wp_region_lit (W_v (.int .i64 x429) (x_move rfl) rfl (W_v (.int .i64 (IntKind.i64.wrap (x429 + (1 : Int)))) (x_ibin rfl rfl rfl rfl) rfl (W_v (.int .i64 (IntKind.i64.wrap (x429 + (1 : Int)))) (x_assign rfl) rfl (Wl_nil (tn ?_))))))
          exact ⟨k, Nat.lt_succ_self k, ⟨x739, (IntKind.i64.wrap (x429 + (1 : Int))), A740, c741, H, ⟨rfl, rfl, rfl, trivial⟩, E, S.pick [0] (by decide)⟩⟩
        refine Wp_cond_false (congrArg Value.bool hb640) ?_
        refine Wp_exit ?_
        refine tx (tx (bsm (?_)))
        refine tn ?_
        exact ⟨x425, A426, c427, Option.some.inj H, ⟨rfl, trivial⟩, E, S.pick [0] (by decide)⟩
  rintro ρ w843 ⟨x633, A634, c635, rfl, hρ, E, S⟩
  rw [agree_eta hρ]
  have H := o637H
  refine tn ?_
  as_aux_lemma =>
  refine Wp_seq (Wp_region_lit (W_v (.slice A634 x633.length c635) (x_move rfl) rfl (W_v (.slice A634 x633.length c635) (x_assign rfl) rfl (Wl_nil (tn ?_)))))
  refine Wp_ret ?_
  obtain rfl := Option.some.inj H
  exact ⟨_, _, _, fun w1 e1 => run_resR (vs := [.slice A634 x633.length c635]) (FA.cons (rfl) (FA.nil)), HM, E, S.pick [0] (by decide), ⟨A634, c635, rfl, rfl⟩⟩
def ferrymanref06_has_l0 (a0 : (List ferrymanref06_Place)) (a1 : Int) (a2 : ferrymanref06_Place) : Nat → Int → Option ((Bool) ⊕ (Unit))
  | 0, _ => none
  | k + 1, x54 => (if (decide (x54 < a1)) = true then (if 0 ≤ x54 ∧ x54 < (a0.length : Int) then (if (((rd a0 x54).Task == a2.Task) && ((rd a0 x54).Call == a2.Call)) = true then some (.inl true) else ferrymanref06_has_l0 a0 a1 a2 k (IntKind.i64.wrap (x54 + (1 : Int)))) else none) else some (.inr ()))
set_option maxHeartbeats 2000000 in
theorem ferrymanref06_has_l0.mono {a0 : (List ferrymanref06_Place)} {a1 : Int} {a2 : ferrymanref06_Place} : ∀ {kl : Nat} {x0}, OLe (ferrymanref06_has_l0 a0 a1 a2 kl x0) (ferrymanref06_has_l0 a0 a1 a2 (kl + 1) x0) := by
  intro kl
  induction kl with
  | zero => intros; exact OLe.none
  | succ kl ih =>
    intros
    rw [ferrymanref06_has_l0.eq_2, ferrymanref06_has_l0.eq_2]
    repeat' (first | with_reducible exact OLe.none | with_reducible exact OLe.some | with_reducible refine OLe.ite ?_ ?_ | with_reducible refine OLe.bind ?_ (fun _ => ?_) | exact ih | refine OLe.bind ?_ (fun _ => ?_) | refine OLe.ite ?_ ?_ | refine OLe.elim (fun _ => ?_) (fun _ => ?_) | split)
def ferrymanref06_has (k : Nat) (a0 : (List ferrymanref06_Place)) (a1 : Int) (a2 : ferrymanref06_Place) : Option (Bool) :=
  (Option.bind (ferrymanref06_has_l0 a0 a1 a2 k (0 : Int)) (fun o79o => Sum.elim (fun r' => some r') (fun _ => some false) o79o))
set_option maxHeartbeats 2000000 in
theorem ferrymanref06_has.mono {k : Nat} {a0 : (List ferrymanref06_Place)} {a1 : Int} {a2 : ferrymanref06_Place} : OLe (ferrymanref06_has k a0 a1 a2) (ferrymanref06_has (k + 1) a0 a1 a2) := by
  unfold ferrymanref06_has
  repeat' (first | with_reducible exact OLe.none | with_reducible exact OLe.some | with_reducible refine OLe.ite ?_ ?_ | with_reducible refine OLe.bind ?_ (fun _ => ?_) | with_reducible exact ferrymanref06_has_l0.mono | refine OLe.bind ?_ (fun _ => ?_) | refine OLe.ite ?_ ?_ | refine OLe.elim (fun _ => ?_) (fun _ => ?_) | split)
set_option maxHeartbeats 1000000 in
set_option maxRecDepth 100000 in
theorem ferrymanref06_has.con (k : Nat) (M : Hp) (A0 : Option Addr) (c0 : Nat) (a0 : (List ferrymanref06_Place)) (a1 : Int) (a2 : ferrymanref06_Place) (r : Bool) (hr0 : SlR r_ferrymanref06_Place M (.slice A0 a0.length c0) a0) (h : ferrymanref06_has k a0 a1 a2 = some r) : Con Try.prog 41 #[.slice A0 a0.length c0, .int .i64 a1, .agg #[.int .i64 a2.Task, .int .i64 a2.Call]] M [] (fun v M' Γ' => v = .bool r ∧ Γ' = []) := by
  refine con_of_wp Try.func41 rfl Try.ntmps41 Try.results41 rfl ?_
  intro w F rn S hrn
  have E := Ext.refl w
  have HM := Hp.le_refl M
  have H := h
  unfold ferrymanref06_has at H
  refine Wp_seq (Wp_region_lit ?_)
  refine W_box S #[.int .i64 a2.Task, .int .i64 a2.Call] rfl rfl rfl ?_
  intro b1 w2 E' S
  replace E := E.trans E'
  refine W_v (.bool false) (x_assign rfl) rfl (Wl_nil (tn (Wp_seq (Wp_seq (Wp_region_lit (W_v (.int .i64 0) (x_assign rfl) rfl (Wl_nil (tn ?_))))))))
  obtain ⟨o79, o79h, o79H⟩ := bindS H
  refine Wp_blockJ (fun ρ w' => .inr () = o79 ∧ Agree ρ [] ∧ Ext w w' ∧ St w' M F []) ?_ ?_
  · skip
    refine Wp_loop (fun n ρ w' => ∃ (x54 : Int), ferrymanref06_has_l0 a0 a1 a2 n x54 = some o79 ∧ Agree ρ [(0, .slice A0 a0.length c0), (1, .int .i64 a1), (5, pt b1 0), (7, .int .i64 x54)] ∧ Ext w w' ∧ St w' M F [Blk b1 (.cells #[.int .i64 a2.Task, .int .i64 a2.Call] 81 (0, 0))]) k ?_ ?_
    · skip
      exact ⟨(0 : Int), o79h, ⟨rfl, rfl, rfl, rfl, trivial⟩, E, S.pick [0] (by decide)⟩
    · intro n
      rintro ρ w80 ⟨x54, H, hρ, E, S⟩
      rw [agree_eta hρ]
      cases n with
      | zero => cases H
      | succ k =>
        rw [ferrymanref06_has_l0.eq_2] at H
        refine Wp_seq (Wp_seq (Wp_region_lit (W_v (.int .i64 x54) (x_move rfl) rfl (W_v (.int .i64 a1) (x_move rfl) rfl (W_v (.bool (decide (x54 < a1))) (x_ibin rfl rfl rfl rfl) rfl (Wl_nil (tn ?_)))))))
        rcases iteS H with ⟨hb81, H⟩ | ⟨hb81, H⟩
        · refine Wp_cond_true (congrArg Value.bool hb81) ?_
          refine Wp_skip (tn (Wp_seq ?_))
          refine Wp_block ?_
          refine Wp_seq ?_
          refine Wp_region_any (S := fun w' => ∃ Mx, M.le Mx ∧ St w' Mx F [Blk b1 (.cells #[.int .i64 a2.Task, .int .i64 a2.Call] 81 (0, 0))]) (L := 6) mixed ?_
          intro w92 hw93 E'
          replace S := S.heap hw93
          replace E := E.trans E'
          have D1 : ∃ Mx, Hp.le M Mx ∧ St _ Mx F [_] := ⟨_, Hp.le_refl _, S.pick [0] (by decide)⟩
          refine Wa_take (i := 0) rfl (by kernel_rfl) rfl rfl (.slice A0 a0.length c0) rfl (fun w' h' => x_move rfl) D1 (Wa_take (i := 1) rfl (by kernel_rfl) rfl rfl (.int .i64 x54) rfl (fun w' h' => x_move rfl) D1 ?_)
          obtain ⟨⟨p94, p95⟩, H⟩ := chkS H
          obtain ⟨b96, o97, cs98, _, _, ee103, hb99, vs100, hR101, hc102⟩ := SlW.at' hr0 p94 p95
          obtain rfl : vs100 = _ := hR101
          refine Wa_take (i := 2) rfl (by kernel_rfl) rfl rfl (.pointer (some ⟨b96, o97 + x54.toNat * 2, none⟩)) rfl (fun w' h' => x_indexAddr Try.underlying52 ty81 (slA ee103) rfl p94 p95) D1 (Wa_take (i := 3) rfl (by kernel_rfl) rfl rfl (.agg #[.int .i64 ((rd a0 x54).Task), .int .i64 ((rd a0 x54).Call)]) rfl (fun w' h' => x_loadA (cls_frz h' hb99) ty81 rfl (sub_el hc102 0 rfl) rfl rfl) D1 (Wa_take (i := 4) rfl (by kernel_rfl) rfl rfl (.agg #[.int .i64 a2.Task, .int .i64 a2.Call]) rfl (fun w' h' => x_loadA (cls_blk h' 0 rfl) ty81 rfl (sub_of_extract rfl) rfl rfl) D1 (Wa_take (i := 5) rfl (by kernel_rfl) rfl rfl (.bool (((rd a0 x54).Task == a2.Task) && ((rd a0 x54).Call == a2.Call))) rfl (fun w' h' => x_eq_of (eg81 _ _ _ _) rfl (eq81 _ ((rd a0 x54).Task) ((rd a0 x54).Call) a2.Task a2.Call)) D1 ?_)))
          refine Wa_done (by kernel_rfl) ?_
          refine tn ?_
          rcases iteS H with ⟨hb104, H⟩ | ⟨hb104, H⟩
          · refine Wp_cond_true (congrArg Value.bool hb104) ?_
            refine Wp_seq (Wp_region_lit (W_v (.bool true) (x_assign rfl) rfl (Wl_nil (tn ?_))))
            refine Wp_ret ?_
            refine br (tr (tr (br (tr (tr (?_))))))
            obtain rfl := Option.some.inj H
            have H := o79H
            replace H := elimL H
            obtain rfl := Option.some.inj H
            exact ⟨_, _, _, fun w1 e1 => run_resR (vs := [.bool true]) (FA.cons (rfl) (FA.nil)), HM, E, S.pick [] (by decide), ⟨rfl, rfl⟩⟩
          refine Wp_cond_false (congrArg Value.bool hb104) (Wp_skip (bn (tn (Wp_region_lit (W_v (.int .i64 x54) (x_move rfl) rfl (W_v (.int .i64 (IntKind.i64.wrap (x54 + (1 : Int)))) (x_ibin rfl rfl rfl rfl) rfl (W_v (.int .i64 (IntKind.i64.wrap (x54 + (1 : Int)))) (x_assign rfl) rfl (Wl_nil (tn ?_)))))))))
          exact ⟨k, Nat.lt_succ_self k, ⟨(IntKind.i64.wrap (x54 + (1 : Int))), H, ⟨rfl, rfl, rfl, rfl, trivial⟩, E, S.pick [0] (by decide)⟩⟩
        refine Wp_cond_false (congrArg Value.bool hb81) ?_
        refine Wp_exit ?_
        refine tx (tx (bsm (?_)))
        refine tn ?_
        exact ⟨Option.some.inj H, trivial, E, S.pick [] (by decide)⟩
  rintro ρ w105 ⟨rfl, hρ, E, S⟩
  rw [agree_eta hρ]
  have H := o79H
  replace H := elimR H
  refine tn ?_
  as_aux_lemma =>
  refine Wp_seq (Wp_region_lit (W_v (.bool false) (x_assign rfl) rfl (Wl_nil (tn ?_))))
  refine Wp_ret ?_
  obtain rfl := Option.some.inj H
  exact ⟨_, _, _, fun w1 e1 => run_resR (vs := [.bool false]) (FA.cons (rfl) (FA.nil)), HM, E, S.pick [] (by decide), ⟨rfl, rfl⟩⟩
def ferrymanref06_Without_l8 (a0 : (List api_Event)) (a1 : (List ferrymanref06_Place)) (x6170 : Int) : Nat → Int → Int → Option ((Int))
  | 0, _, _ => none
  | k + 1, x11565, x11566 => (if (decide (x11566 < (a1.length : Int))) = true then (Option.bind (α := Int) (if 0 ≤ x11566 ∧ x11566 < (a1.length : Int) then (Option.bind (α := Bool) (if ((rd a1 x11566).Task == (rd a0 x6170).Task) = true then (if 0 ≤ x11566 ∧ x11566 < (a1.length : Int) then some ((decide ((rd a1 x11566).Call ≥ (0 : Int)))) else none) else some (false)) (fun x12240 => (Option.bind (α := Bool) (if x12240 = true then (if 0 ≤ x11566 ∧ x11566 < (a1.length : Int) then some ((decide ((rd a1 x11566).Call < (rd a0 x6170).Call))) else none) else some (false)) (fun x12264 => (Option.bind (α := Bool) (if x12264 = true then (if 0 ≤ x11566 ∧ x11566 < (a1.length : Int) then (Option.bind (ferrymanref06_has k a1 x11566 (rd a1 x11566)) (fun t12303 => some ((!t12303)))) else none) else some (false)) (fun x12291 => (Option.bind (α := Int) (if x12291 = true then some ((IntKind.i64.wrap (x11565 + (1 : Int)))) else some (x11565)) (fun x12309 => some (x12309))))))))) else none) (fun x12127 => ferrymanref06_Without_l8 a0 a1 x6170 k x12127 (IntKind.i64.wrap (x11566 + (1 : Int))))) else some (x11565))
set_option maxHeartbeats 2000000 in
theorem ferrymanref06_Without_l8.mono {a0 : (List api_Event)} {a1 : (List ferrymanref06_Place)} {x6170 : Int} : ∀ {kl : Nat} {x0 x1}, OLe (ferrymanref06_Without_l8 a0 a1 x6170 kl x0 x1) (ferrymanref06_Without_l8 a0 a1 x6170 (kl + 1) x0 x1) := by
  intro kl
  induction kl with
  | zero => intros; exact OLe.none
  | succ kl ih =>
    intros
    rw [ferrymanref06_Without_l8.eq_2, ferrymanref06_Without_l8.eq_2]
    repeat' (first | with_reducible exact OLe.none | with_reducible exact OLe.some | with_reducible refine OLe.ite ?_ ?_ | with_reducible refine OLe.bind ?_ (fun _ => ?_) | with_reducible exact ferrymanref06_has.mono | exact ih | refine OLe.bind ?_ (fun _ => ?_) | refine OLe.ite ?_ ?_ | refine OLe.elim (fun _ => ?_) (fun _ => ?_) | split)
def ferrymanref06_Without_l4 (a0 : (List api_Event)) (a1 : (List ferrymanref06_Place)) : Nat → List api_Event → Int → Option ((List api_Event))
  | 0, _, _ => none
  | k + 1, x6166, x6170 => (if (decide (x6170 < (a0.length : Int))) = true then (Option.bind (α := List api_Event) (if 0 ≤ x6170 ∧ x6170 < (a0.length : Int) then (Option.bind (ferrymanref06_has k a1 (a1.length : Int) (⟨((rd a0 x6170).Task), ((rd a0 x6170).Call)⟩ : ferrymanref06_Place)) (fun t10813 => (if t10813 = true then some (x6166) else (Option.bind (ferrymanref06_Without_l8 a0 a1 x6170 k (0 : Int) (0 : Int)) (fun x11939 => (Option.bind (α := List api_Event) (some ([(⟨(rd a0 x6170).What, (rd a0 x6170).Task, (IntKind.i64.wrap ((rd a0 x6170).Call - x11939)), ⟨(rd a0 x6170).Answer.Err, (rd a0 x6170).Answer.Found, (rd a0 x6170).Answer.Value, (rd a0 x6170).Answer.Pairs⟩⟩ : api_Event)] : List api_Event)) (fun x12319 => (if x6166.length + x12319.length ≤ 1759218604441 then some ((x6166 ++ x12319)) else none)))))))) else none) (fun x10789 => ferrymanref06_Without_l4 a0 a1 k x10789 (IntKind.i64.wrap (x6170 + (1 : Int))))) else some (x6166))
set_option maxHeartbeats 2000000 in
theorem ferrymanref06_Without_l4.mono {a0 : (List api_Event)} {a1 : (List ferrymanref06_Place)} : ∀ {kl : Nat} {x0 x1}, OLe (ferrymanref06_Without_l4 a0 a1 kl x0 x1) (ferrymanref06_Without_l4 a0 a1 (kl + 1) x0 x1) := by
  intro kl
  induction kl with
  | zero => intros; exact OLe.none
  | succ kl ih =>
    intros
    rw [ferrymanref06_Without_l4.eq_2, ferrymanref06_Without_l4.eq_2]
    repeat' (first | with_reducible exact OLe.none | with_reducible exact OLe.some | with_reducible refine OLe.ite ?_ ?_ | with_reducible refine OLe.bind ?_ (fun _ => ?_) | with_reducible exact ferrymanref06_Without_l8.mono | with_reducible exact ferrymanref06_has.mono | exact ih | refine OLe.bind ?_ (fun _ => ?_) | refine OLe.ite ?_ ?_ | refine OLe.elim (fun _ => ?_) (fun _ => ?_) | split)
def ferrymanref06_Without (k : Nat) (a0 : (List api_Event)) (a1 : (List ferrymanref06_Place)) : Option ((List api_Event)) :=
  (Option.bind (ferrymanref06_Without_l4 a0 a1 k ([] : List api_Event) (0 : Int)) (fun x9247 => some x9247))
set_option maxHeartbeats 2000000 in
theorem ferrymanref06_Without.mono {k : Nat} {a0 : (List api_Event)} {a1 : (List ferrymanref06_Place)} : OLe (ferrymanref06_Without k a0 a1) (ferrymanref06_Without (k + 1) a0 a1) := by
  unfold ferrymanref06_Without
  repeat' (first | with_reducible exact OLe.none | with_reducible exact OLe.some | with_reducible refine OLe.ite ?_ ?_ | with_reducible refine OLe.bind ?_ (fun _ => ?_) | with_reducible exact ferrymanref06_Without_l4.mono | refine OLe.bind ?_ (fun _ => ?_) | refine OLe.ite ?_ ?_ | refine OLe.elim (fun _ => ?_) (fun _ => ?_) | split)
set_option maxHeartbeats 1000000 in
set_option maxRecDepth 100000 in
theorem ferrymanref06_Without.con (k : Nat) (M : Hp) (A0 : Option Addr) (c0 : Nat) (a0 : (List api_Event)) (A1 : Option Addr) (c1 : Nat) (a1 : (List ferrymanref06_Place)) (r : (List api_Event)) (hr0 : SlR r_api_Event M (.slice A0 a0.length c0) a0) (hr1 : SlR r_ferrymanref06_Place M (.slice A1 a1.length c1) a1) (h : ferrymanref06_Without k a0 a1 = some r) : Con Try.prog 27 #[.slice A0 a0.length c0, .slice A1 a1.length c1] M [] (fun v M' Γ' => ∃ (A0 : Option Addr) (c0 : Nat), v = .slice A0 r.length c0 ∧ Γ' = [Row r_api_Event 32 (.slice A0 r.length c0) r]) := by
  refine con_of_wp Try.func27 rfl Try.ntmps27 Try.results27 rfl ?_
  intro w F rn S hrn
  have E := Ext.refl w
  have HM := Hp.le_refl M
  have H := h
  unfold ferrymanref06_Without at H
  refine Wp_seq (Wp_region_lit (W_v (.slice none 0 0) (x_assign rfl) rfl (Wl_nil (tn (Wp_seq (Wp_region_lit (W_v (.slice none 0 0) (x_assign rfl) rfl (Wl_nil (tn (Wp_seq (Wp_seq (Wp_region_lit (W_v (.int .i64 0) (x_assign rfl) rfl (Wl_nil (tn ?_)))))))))))))))
  obtain ⟨o9251, o9251h, o9251H⟩ := bindS H
  refine Wp_blockJ (fun ρ w' => ∃ (x9247 : List api_Event) (A9248 : Option Addr) (c9249 : Nat), (x9247) = o9251 ∧ Agree ρ [(5, .slice A9248 x9247.length c9249)] ∧ Ext w w' ∧ St w' M F [Row r_api_Event 32 (.slice A9248 x9247.length c9249) x9247]) ?_ ?_
  · skip
    refine Wp_loop (fun n ρ w' => ∃ (x6166 : List api_Event) (x6170 : Int) (A6167 : Option Addr) (c6168 : Nat), ferrymanref06_Without_l4 a0 a1 n x6166 x6170 = some o9251 ∧ Agree ρ [(0, .slice A0 a0.length c0), (1, .slice A1 a1.length c1), (5, .slice A6167 x6166.length c6168), (6, .int .i64 x6170)] ∧ Ext w w' ∧ St w' M F [Row r_api_Event 32 (.slice A6167 x6166.length c6168) x6166]) k ?_ ?_
    · skip
      replace S := S.row_nil r_api_Event 32
      exact ⟨([] : List api_Event), (0 : Int), none, 0, o9251h, ⟨rfl, rfl, rfl, rfl, trivial⟩, E, S.pick [0] (by decide)⟩
    · intro n
      rintro ρ w9253 ⟨x6166, x6170, A6167, c6168, H, hρ, E, S⟩
      rw [agree_eta hρ]
      cases n with
      | zero => cases H
      | succ k =>
        rw [ferrymanref06_Without_l4.eq_2] at H
        refine Wp_seq (Wp_seq (Wp_region_lit (W_v (.int .i64 x6170) (x_move rfl) rfl (W_v (.slice A0 a0.length c0) (x_move rfl) rfl (W_v (.int .i64 (a0.length : Int)) (x_len_slice (n := a0.length) Try.underlying22 rfl) rfl (W_v (.bool (decide (x6170 < (a0.length : Int)))) (x_ibin rfl rfl rfl rfl) rfl (Wl_nil (tn ?_))))))))
        rcases iteS H with ⟨hb9254, H⟩ | ⟨hb9254, H⟩
        · refine Wp_cond_true (congrArg Value.bool hb9254) ?_
          refine Wp_skip (tn (Wp_seq ?_))
          obtain ⟨o10794, o10794h, o10794H⟩ := bindS H
          refine Wp_cut (fun ρ w' => ∃ (x10789 : List api_Event) (A10790 : Option Addr) (c10791 : Nat), (x10789) = o10794 ∧ Agree ρ [(0, .slice A0 a0.length c0), (1, .slice A1 a1.length c1), (5, .slice A10790 x10789.length c10791), (6, .int .i64 x6170)] ∧ Ext w w' ∧ St w' M F [Row r_api_Event 32 (.slice A10790 x10789.length c10791) x10789]) ?_ ?_
          · as_aux_lemma =>
              clear o10794H
              have H := o10794h
              refine Wp_block ?_
              refine Wp_seq (Wp_region_lit (W_v (.slice A0 a0.length c0) (x_move rfl) rfl (W_v (.int .i64 x6170) (x_move rfl) rfl ?_)))
              obtain ⟨⟨p10795, p10796⟩, H⟩ := chkS H
              obtain ⟨b10797, o10798, cs10799, _, _, ee10804, hb10800, vs10801, hR10802, hc10803⟩ := SlW.at' hr0 p10795 p10796
              obtain ⟨v10808, hs10807, rfl⟩ := hR10802
              obtain ⟨A10805, c10806, rfl, _⟩ := hs10807.form
              refine W_v (.pointer (some ⟨b10797, o10798 + x6170.toNat * 7, none⟩)) (x_indexAddr Try.underlying22 ty32 (slA ee10804) rfl p10795 p10796) rfl (W_v (.agg #[.int .u8 ((rd a0 x6170).What), .int .i64 ((rd a0 x6170).Task), .int .i64 ((rd a0 x6170).Call), .int .i64 ((rd a0 x6170).Answer.Err), .bool ((rd a0 x6170).Answer.Found), .string (bs ((rd a0 x6170).Answer.Value)), .slice A10805 ((rd a0 x6170).Answer.Pairs).length c10806]) (x_loadA (S.frz hb10800) ty32 rfl (sub_el hc10803 0 rfl) rfl rfl) rfl ?_)
              refine W_alloc S #[.int .u8 0, .int .i64 0, .int .i64 0, .int .i64 0, .bool false, .string (bs ([] : Str)), .slice none 0 0] ty32 rfl rfl ?_
              intro b10809 w10810 E' S
              replace E := E.trans E'
              refine W_store S 0 rfl ty32 rfl rfl [.int .u8 ((rd a0 x6170).What), .int .i64 ((rd a0 x6170).Task), .int .i64 ((rd a0 x6170).Call), .int .i64 ((rd a0 x6170).Answer.Err), .bool ((rd a0 x6170).Answer.Found), .string (bs ((rd a0 x6170).Answer.Value)), .slice A10805 ((rd a0 x6170).Answer.Pairs).length c10806] rfl rfl rfl #[.int .u8 ((rd a0 x6170).What), .int .i64 ((rd a0 x6170).Task), .int .i64 ((rd a0 x6170).Call), .int .i64 ((rd a0 x6170).Answer.Err), .bool ((rd a0 x6170).Answer.Found), .string (bs ((rd a0 x6170).Answer.Value)), .slice A10805 ((rd a0 x6170).Answer.Pairs).length c10806] (by as_aux_lemma => kernel_rfl) rfl ?_
              intro w10812 E' S
              replace E := E.trans E'
              refine Wl_nil (tn (Wp_seq (Wp_seq (Wp_region_lit (W_v (.slice A1 a1.length c1) (x_move rfl) rfl (W_v (.slice A1 a1.length c1) (x_move rfl) rfl (W_v (.int .i64 (a1.length : Int)) (x_len_slice (n := a1.length) Try.underlying52 rfl) rfl (W_v (pt b10809 1) (x_fieldAddr (o := 0) (off := 1) Try.underlying32 rfl ty3 rfl rfl) rfl (W_v (.int .i64 ((rd a0 x6170).Task)) (x_load (S.blk 0 rfl) ty3 rfl rfl) rfl (W_v (pt b10809 2) (x_fieldAddr (o := 0) (off := 2) Try.underlying32 rfl ty3 rfl rfl) rfl (W_v (.int .i64 ((rd a0 x6170).Call)) (x_load (S.blk 0 rfl) ty3 rfl rfl) rfl (W_v (.agg #[.int .i64 ((rd a0 x6170).Task), .int .i64 ((rd a0 x6170).Call)]) (x_build2 (pl := [(0, 1), (1, 1)]) #[.int .i64 ((rd a0 x6170).Task), .int .i64 ((rd a0 x6170).Call)] Try.underlying81 ty81 (by as_aux_lemma => kernel_rfl) rfl (by as_aux_lemma => kernel_rfl)) rfl ?_))))))))))))
              obtain ⟨t10813, ht10814, H⟩ := bindS H
              refine W_callF fn41 (ferrymanref06_has.con k M A1 c1 a1 (a1.length : Int) (⟨((rd a0 x6170).Task), ((rd a0 x6170).Call)⟩ : ferrymanref06_Place) t10813 hr1 ht10814) S rfl rfl (by rintro _ _ _ ⟨_, rfl⟩; exact flat_nil) ?_
              rintro _ w10815 _ Γ' E' S ⟨rfl, rfl⟩
              replace E := E.trans E'
              refine Wl_nil (tn ?_)
              rcases iteS H with ⟨hb10816, H⟩ | ⟨hb10816, H⟩
              · refine Wp_cond_true (congrArg Value.bool hb10816) ?_
                refine Wp_exit ?_
                refine tx (bsm (?_))
                refine tn ?_
                exact ⟨x6166, A6167, c6168, Option.some.inj H, ⟨rfl, rfl, rfl, rfl, trivial⟩, E, S.pick [1] (by decide)⟩
              refine Wp_cond_false (congrArg Value.bool hb10816) (Wp_skip (tn (Wp_seq (Wp_region_lit (W_v (.int .i64 0) (x_assign rfl) rfl (Wl_nil (tn ?_)))))))
              as_aux_lemma =>
              refine Wp_seq (Wp_seq (Wp_region_lit (W_v (.int .i64 0) (x_assign rfl) rfl (Wl_nil (tn ?_)))))
              obtain ⟨o11940, o11940h, o11940H⟩ := bindS H
              refine Wp_blockJ (fun ρ w' => ∃ (x11939 : Int), (x11939) = o11940 ∧ Agree ρ [(0, .slice A0 a0.length c0), (1, .slice A1 a1.length c1), (5, .slice A6167 x6166.length c6168), (6, .int .i64 x6170), (7, pt b10809 0), (8, .int .i64 x11939)] ∧ Ext w w' ∧ St w' M F [B32 b10809 (rd a0 x6170) A10805 c10806, Row r_api_Event 32 (.slice A6167 x6166.length c6168) x6166]) ?_ ?_
              · skip
                refine Wp_loop (fun n ρ w' => ∃ (x11565 : Int) (x11566 : Int), ferrymanref06_Without_l8 a0 a1 x6170 n x11565 x11566 = some o11940 ∧ Agree ρ [(0, .slice A0 a0.length c0), (1, .slice A1 a1.length c1), (5, .slice A6167 x6166.length c6168), (6, .int .i64 x6170), (7, pt b10809 0), (8, .int .i64 x11565), (9, .int .i64 x11566)] ∧ Ext w w' ∧ St w' M F [B32 b10809 (rd a0 x6170) A10805 c10806, Row r_api_Event 32 (.slice A6167 x6166.length c6168) x6166]) k ?_ ?_
                · skip
                  exact ⟨(0 : Int), (0 : Int), o11940h, ⟨rfl, rfl, rfl, rfl, rfl, rfl, rfl, trivial⟩, E, S.pick [0, 1] (by decide)⟩
                · intro n
                  rintro ρ w11941 ⟨x11565, x11566, H, hρ, E, S⟩
                  rw [agree_eta hρ]
                  cases n with
                  | zero => cases H
                  | succ k =>
                    rw [ferrymanref06_Without_l8.eq_2] at H
                    refine Wp_seq (Wp_seq (Wp_region_lit (W_v (.int .i64 x11566) (x_move rfl) rfl (W_v (.slice A1 a1.length c1) (x_move rfl) rfl (W_v (.int .i64 (a1.length : Int)) (x_len_slice (n := a1.length) Try.underlying52 rfl) rfl (W_v (.bool (decide (x11566 < (a1.length : Int)))) (x_ibin rfl rfl rfl rfl) rfl (Wl_nil (tn ?_))))))))
                    rcases iteS H with ⟨hb11942, H⟩ | ⟨hb11942, H⟩
                    · refine Wp_cond_true (congrArg Value.bool hb11942) ?_
                      refine Wp_skip (tn (Wp_seq ?_))
                      obtain ⟨o12128, o12128h, o12128H⟩ := bindS H
                      refine Wp_cut (fun ρ w' => ∃ (x12127 : Int), (x12127) = o12128 ∧ Agree ρ [(0, .slice A0 a0.length c0), (1, .slice A1 a1.length c1), (5, .slice A6167 x6166.length c6168), (6, .int .i64 x6170), (7, pt b10809 0), (8, .int .i64 x12127), (9, .int .i64 x11566)] ∧ Ext w w' ∧ St w' M F [B32 b10809 (rd a0 x6170) A10805 c10806, Row r_api_Event 32 (.slice A6167 x6166.length c6168) x6166]) ?_ ?_
                      · as_aux_lemma =>
                          clear o12128H
                          have H := o12128h
                          refine Wp_block ?_
                          refine Wp_seq ?_
                          refine Wp_region_any (S := fun w' => ∃ Mx, M.le Mx ∧ St w' Mx F [B32 b10809 (rd a0 x6170) A10805 c10806, Row r_api_Event 32 (.slice A6167 x6166.length c6168) x6166]) (L := 36) mixed ?_
                          intro w12217 hw12218 E'
                          replace S := S.heap hw12218
                          replace E := E.trans E'
                          have D1 : ∃ Mx, Hp.le M Mx ∧ St _ Mx F [_, _] := ⟨_, Hp.le_refl _, S.pick [0, 1] (by decide)⟩
                          refine Wa_take (i := 0) rfl (by kernel_rfl) rfl rfl (.slice A1 a1.length c1) rfl (fun w' h' => x_move rfl) D1 (Wa_take (i := 1) rfl (by kernel_rfl) rfl rfl (.int .i64 x11566) rfl (fun w' h' => x_move rfl) D1 ?_)
                          obtain ⟨⟨p12219, p12220⟩, H⟩ := chkS H
                          obtain ⟨b12221, o12222, cs12223, _, _, ee12228, hb12224, vs12225, hR12226, hc12227⟩ := SlW.at' hr1 p12219 p12220
                          obtain rfl : vs12225 = _ := hR12226
                          refine Wa_take (i := 2) rfl (by kernel_rfl) rfl rfl (.pointer (some ⟨b12221, o12222 + x11566.toNat * 2, none⟩)) rfl (fun w' h' => x_indexAddr Try.underlying52 ty81 (slA ee12228) rfl p12219 p12220) D1 (Wa_take (i := 3) rfl (by kernel_rfl) rfl rfl (.pointer (some ⟨b12221, o12222 + x11566.toNat * 2, none⟩)) rfl (fun w' h' => x_fieldAddr (o := o12222 + x11566.toNat * 2) (off := 0) Try.underlying81 rfl ty3 rfl rfl) D1 (Wa_take (i := 4) rfl (by kernel_rfl) rfl rfl (.int .i64 ((rd a1 x11566).Task)) rfl (fun w' h' => x_load (cls_frz h' hb12224) ty3 rfl (hc12227 0 _ rfl)) D1 (Wa_take (i := 5) rfl (by kernel_rfl) rfl rfl (pt b10809 1) rfl (fun w' h' => x_fieldAddr (o := 0) (off := 1) Try.underlying32 rfl ty3 rfl rfl) D1 (Wa_take (i := 6) rfl (by kernel_rfl) rfl rfl (.int .i64 ((rd a0 x6170).Task)) rfl (fun w' h' => x_load (cls_blk h' 0 rfl) ty3 rfl rfl) D1 (Wa_take (i := 7) rfl (by kernel_rfl) rfl rfl (.bool ((rd a1 x11566).Task == (rd a0 x6170).Task)) rfl (fun w' h' => x_ibin rfl rfl rfl rfl) D1 (Wa_take (i := 8) rfl (by kernel_rfl) rfl rfl (.bool ((rd a1 x11566).Task == (rd a0 x6170).Task)) rfl (fun w' h' => x_move rfl) D1 ?_))))))
                          obtain ⟨o12241, o12241h, o12241H⟩ := bindS H
                          refine Wa_join (fun ρ w' => ∃ (x12240 : Bool), (x12240) = o12241 ∧ Agree ρ [(0, .slice A0 a0.length c0), (1, .slice A1 a1.length c1), (5, .slice A6167 x6166.length c6168), (6, .int .i64 x6170), (7, pt b10809 0), (8, .int .i64 x11565), (9, .int .i64 x11566), (50, .bool x12240)] ∧ Ext w w' ∧ St w' M F [B32 b10809 (rd a0 x6170) A10805 c10806, Row r_api_Event 32 (.slice A6167 x6166.length c6168) x6166]) 20 (Ls 36 [0, 1, 2, 3, 4, 5, 6, 7, 8, 9, 10, 11, 12, 13, 14, 15]) ?_ ?_
                          rotate_left
                          · intro hrest
                            have H := o12241h
                            rcases iteS H with ⟨hb12239, H⟩ | ⟨hb12239, H⟩
                            · skip
                              have D2 : ∃ Mx, Hp.le M Mx ∧ St _ Mx F [_, _] := ⟨_, Hp.le_refl _, S.pick [0, 1] (by decide)⟩
                              refine Wa_takeY (i := 9) rfl (by kernel_rfl) rfl rfl (.slice A1 a1.length c1) rfl (congrArg some hb12239) (fun w' h' => x_move rfl) D2 (Wa_takeY (i := 10) rfl (by kernel_rfl) rfl rfl (.int .i64 x11566) rfl (congrArg some hb12239) (fun w' h' => x_move rfl) D2 ?_)
                              obtain ⟨⟨p12242, p12243⟩, H⟩ := chkS H
                              obtain ⟨b12244, o12245, cs12246, _, _, ee12251, hb12247, vs12248, hR12249, hc12250⟩ := SlW.at' hr1 p12242 p12243
                              obtain rfl : vs12248 = _ := hR12249
                              refine Wa_takeY (i := 11) rfl (by kernel_rfl) rfl rfl (.pointer (some ⟨b12244, o12245 + x11566.toNat * 2, none⟩)) rfl (congrArg some hb12239) (fun w' h' => x_indexAddr Try.underlying52 ty81 (slA ee12251) rfl p12242 p12243) D2 (Wa_takeY (i := 12) rfl (by kernel_rfl) rfl rfl (.pointer (some ⟨b12244, o12245 + x11566.toNat * 2 + 1, none⟩)) rfl (congrArg some hb12239) (fun w' h' => x_fieldAddr (o := o12245 + x11566.toNat * 2) (off := 1) Try.underlying81 rfl ty3 rfl rfl) D2 (Wa_takeY (i := 13) rfl (by kernel_rfl) rfl rfl (.int .i64 ((rd a1 x11566).Call)) rfl (congrArg some hb12239) (fun w' h' => x_load (cls_frz h' hb12247) ty3 rfl (hc12250 1 _ rfl)) D2 (Wa_takeY (i := 14) rfl (by kernel_rfl) rfl rfl (.bool (decide ((rd a1 x11566).Call ≥ (0 : Int)))) rfl (congrArg some hb12239) (fun w' h' => x_ibin rfl rfl rfl rfl) D2 (Wa_take (i := 15) rfl (by kernel_rfl) rfl rfl (.bool (decide ((rd a1 x11566).Call ≥ (0 : Int)))) rfl (fun w' h' => x_pick (k := true) (congrArg Value.bool hb12239) rfl) D2 ?_))))
                              exact hrest _ _ ⟨(decide ((rd a1 x11566).Call ≥ (0 : Int))), Option.some.inj H, ⟨rfl, rfl, rfl, rfl, rfl, rfl, rfl, rfl, trivial⟩, E, S.pick [0, 1] (by decide)⟩
                            · skip
                              have D3 : ∃ Mx, Hp.le M Mx ∧ St _ Mx F [_, _] := ⟨_, Hp.le_refl _, S.pick [0, 1] (by decide)⟩
                              refine Wa_takeN (i := 9) rfl (by kernel_rfl) rfl rfl rfl (skT hb12239) D3 (Wa_takeN (i := 10) rfl (by kernel_rfl) rfl rfl rfl (skT hb12239) D3 (Wa_takeN (i := 11) rfl (by kernel_rfl) rfl rfl rfl (skT hb12239) D3 (Wa_takeN (i := 12) rfl (by kernel_rfl) rfl rfl rfl (skT hb12239) D3 (Wa_takeN (i := 13) rfl (by kernel_rfl) rfl rfl rfl (skT hb12239) D3 (Wa_takeN (i := 14) rfl (by kernel_rfl) rfl rfl rfl (skT hb12239) D3 (Wa_take (i := 15) rfl (by kernel_rfl) rfl rfl (.bool false) rfl (fun w' h' => x_pick (k := false) (congrArg Value.bool hb12239) rfl) D3 ?_))))))
                              exact hrest _ _ ⟨false, Option.some.inj H, ⟨rfl, rfl, rfl, rfl, rfl, rfl, rfl, rfl, trivial⟩, E, S.pick [0, 1] (by decide)⟩
                          rintro ρ w12252 ⟨x12240, rfl, hρ, E, S⟩
                          rw [agree_eta hρ]
                          have H := o12241H
                          refine Wa_take (i := 16) rfl (by kernel_rfl) rfl rfl (.bool x12240) rfl (fun w' h' => x_move rfl) (⟨M, Hp.le_refl M, (S.pick [0, 1] (by decide))⟩) ?_
                          obtain ⟨o12265, o12265h, o12265H⟩ := bindS H
                          refine Wa_join (fun ρ w' => ∃ (x12264 : Bool), (x12264) = o12265 ∧ Agree ρ [(0, .slice A0 a0.length c0), (1, .slice A1 a1.length c1), (5, .slice A6167 x6166.length c6168), (6, .int .i64 x6170), (7, pt b10809 0), (8, .int .i64 x11565), (9, .int .i64 x11566), (60, .bool x12264)] ∧ Ext w w' ∧ St w' M F [B32 b10809 (rd a0 x6170) A10805 c10806, Row r_api_Event 32 (.slice A6167 x6166.length c6168) x6166]) 10 (Ls 36 [0, 1, 2, 3, 4, 5, 6, 7, 8, 9, 10, 11, 12, 13, 14, 15, 16, 17, 18, 19, 20, 21, 22, 23, 24, 25]) ?_ ?_
                          rotate_left
                          · intro hrest
                            have H := o12265h
                            rcases iteS H with ⟨hb12263, H⟩ | ⟨hb12263, H⟩
                            · skip
                              have D5 : ∃ Mx, Hp.le M Mx ∧ St _ Mx F [_, _] := ⟨_, Hp.le_refl _, S.pick [0, 1] (by decide)⟩
                              refine Wa_takeY (i := 17) rfl (by kernel_rfl) rfl rfl (.slice A1 a1.length c1) rfl (congrArg some hb12263) (fun w' h' => x_move rfl) D5 (Wa_takeY (i := 18) rfl (by kernel_rfl) rfl rfl (.int .i64 x11566) rfl (congrArg some hb12263) (fun w' h' => x_move rfl) D5 ?_)
                              obtain ⟨⟨p12266, p12267⟩, H⟩ := chkS H
                              obtain ⟨b12268, o12269, cs12270, _, _, ee12275, hb12271, vs12272, hR12273, hc12274⟩ := SlW.at' hr1 p12266 p12267
                              obtain rfl : vs12272 = _ := hR12273
                              refine Wa_takeY (i := 19) rfl (by kernel_rfl) rfl rfl (.pointer (some ⟨b12268, o12269 + x11566.toNat * 2, none⟩)) rfl (congrArg some hb12263) (fun w' h' => x_indexAddr Try.underlying52 ty81 (slA ee12275) rfl p12266 p12267) D5 (Wa_takeY (i := 20) rfl (by kernel_rfl) rfl rfl (.pointer (some ⟨b12268, o12269 + x11566.toNat * 2 + 1, none⟩)) rfl (congrArg some hb12263) (fun w' h' => x_fieldAddr (o := o12269 + x11566.toNat * 2) (off := 1) Try.underlying81 rfl ty3 rfl rfl) D5 (Wa_takeY (i := 21) rfl (by kernel_rfl) rfl rfl (.int .i64 ((rd a1 x11566).Call)) rfl (congrArg some hb12263) (fun w' h' => x_load (cls_frz h' hb12271) ty3 rfl (hc12274 1 _ rfl)) D5 (Wa_takeY (i := 22) rfl (by kernel_rfl) rfl rfl (pt b10809 2) rfl (congrArg some hb12263) (fun w' h' => x_fieldAddr (o := 0) (off := 2) Try.underlying32 rfl ty3 rfl rfl) D5 (Wa_takeY (i := 23) rfl (by kernel_rfl) rfl rfl (.int .i64 ((rd a0 x6170).Call)) rfl (congrArg some hb12263) (fun w' h' => x_load (cls_blk h' 0 rfl) ty3 rfl rfl) D5 (Wa_takeY (i := 24) rfl (by kernel_rfl) rfl rfl (.bool (decide ((rd a1 x11566).Call < (rd a0 x6170).Call))) rfl (congrArg some hb12263) (fun w' h' => x_ibin rfl rfl rfl rfl) D5 (Wa_take (i := 25) rfl (by kernel_rfl) rfl rfl (.bool (decide ((rd a1 x11566).Call < (rd a0 x6170).Call))) rfl (fun w' h' => x_pick (k := true) (congrArg Value.bool hb12263) rfl) D5 ?_))))))
                              exact hrest _ _ ⟨(decide ((rd a1 x11566).Call < (rd a0 x6170).Call)), Option.some.inj H, ⟨rfl, rfl, rfl, rfl, rfl, rfl, rfl, rfl, trivial⟩, E, S.pick [0, 1] (by decide)⟩
                            · skip
                              have D6 : ∃ Mx, Hp.le M Mx ∧ St _ Mx F [_, _] := ⟨_, Hp.le_refl _, S.pick [0, 1] (by decide)⟩
                              refine Wa_takeN (i := 17) rfl (by kernel_rfl) rfl rfl rfl (skT hb12263) D6 (Wa_takeN (i := 18) rfl (by kernel_rfl) rfl rfl rfl (skT hb12263) D6 (Wa_takeN (i := 19) rfl (by kernel_rfl) rfl rfl rfl (skT hb12263) D6 (Wa_takeN (i := 20) rfl (by kernel_rfl) rfl rfl rfl (skT hb12263) D6 (Wa_takeN (i := 21) rfl (by kernel_rfl) rfl rfl rfl (skT hb12263) D6 (Wa_takeN (i := 22) rfl (by kernel_rfl) rfl rfl rfl (skT hb12263) D6 (Wa_takeN (i := 23) rfl (by kernel_rfl) rfl rfl rfl (skT hb12263) D6 (Wa_takeN (i := 24) rfl (by kernel_rfl) rfl rfl rfl (skT hb12263) D6 (Wa_take (i := 25) rfl (by kernel_rfl) rfl rfl (.bool false) rfl (fun w' h' => x_pick (k := false) (congrArg Value.bool hb12263) rfl) D6 ?_))))))))
                              exact hrest _ _ ⟨false, Option.some.inj H, ⟨rfl, rfl, rfl, rfl, rfl, rfl, rfl, rfl, trivial⟩, E, S.pick [0, 1] (by decide)⟩
                          rintro ρ w12276 ⟨x12264, rfl, hρ, E, S⟩
                          rw [agree_eta hρ]
                          have H := o12265H
                          refine Wa_take (i := 26) rfl (by kernel_rfl) rfl rfl (.bool x12264) rfl (fun w' h' => x_move rfl) (⟨M, Hp.le_refl M, (S.pick [0, 1] (by decide))⟩) ?_
                          obtain ⟨o12292, o12292h, o12292H⟩ := bindS H
                          refine Wa_join (fun ρ w' => ∃ (x12291 : Bool), (x12291) = o12292 ∧ Agree ρ [(0, .slice A0 a0.length c0), (1, .slice A1 a1.length c1), (5, .slice A6167 x6166.length c6168), (6, .int .i64 x6170), (7, pt b10809 0), (8, .int .i64 x11565), (9, .int .i64 x11566), (70, .bool x12291)] ∧ Ext w w' ∧ St w' M F [B32 b10809 (rd a0 x6170) A10805 c10806, Row r_api_Event 32 (.slice A6167 x6166.length c6168) x6166]) 0 (Ls 36 [0, 1, 2, 3, 4, 5, 6, 7, 8, 9, 10, 11, 12, 13, 14, 15, 16, 17, 18, 19, 20, 21, 22, 23, 24, 25, 26, 27, 28, 29, 30, 31, 32, 33, 34, 35]) ?_ ?_
                          rotate_left
                          · intro hrest
                            have H := o12292h
                            rcases iteS H with ⟨hb12290, H⟩ | ⟨hb12290, H⟩
                            · skip
                              have D8 : ∃ Mx, Hp.le M Mx ∧ St _ Mx F [_, _] := ⟨_, Hp.le_refl _, S.pick [0, 1] (by decide)⟩
                              refine Wa_takeY (i := 27) rfl (by kernel_rfl) rfl rfl (.slice A1 a1.length c1) rfl (congrArg some hb12290) (fun w' h' => x_move rfl) D8 (Wa_takeY (i := 28) rfl (by kernel_rfl) rfl rfl (.int .i64 x11566) rfl (congrArg some hb12290) (fun w' h' => x_move rfl) D8 (Wa_takeY (i := 29) rfl (by kernel_rfl) rfl rfl (.slice A1 a1.length c1) rfl (congrArg some hb12290) (fun w' h' => x_move rfl) D8 (Wa_takeY (i := 30) rfl (by kernel_rfl) rfl rfl (.int .i64 x11566) rfl (congrArg some hb12290) (fun w' h' => x_move rfl) D8 ?_)))
                              obtain ⟨⟨p12293, p12294⟩, H⟩ := chkS H
                              obtain ⟨b12295, o12296, cs12297, _, _, ee12302, hb12298, vs12299, hR12300, hc12301⟩ := SlW.at' hr1 p12293 p12294
                              obtain rfl : vs12299 = _ := hR12300
                              refine Wa_takeY (i := 31) rfl (by kernel_rfl) rfl rfl (.pointer (some ⟨b12295, o12296 + x11566.toNat * 2, none⟩)) rfl (congrArg some hb12290) (fun w' h' => x_indexAddr Try.underlying52 ty81 (slA ee12302) rfl p12293 p12294) D8 (Wa_takeY (i := 32) rfl (by kernel_rfl) rfl rfl (.agg #[.int .i64 ((rd a1 x11566).Task), .int .i64 ((rd a1 x11566).Call)]) rfl (congrArg some hb12290) (fun w' h' => x_loadA (cls_frz h' hb12298) ty81 rfl (sub_el hc12301 0 rfl) rfl rfl) D8 ?_)
                              refine Wa_solo (i := 33) rfl (by kernel_rfl) ?_
                              refine W_yes (congrArg some hb12290) ?_
                              obtain ⟨t12303, ht12304, H⟩ := bindS H
                              refine W_callF fn41 (ferrymanref06_has.con k M A1 c1 a1 x11566 (rd a1 x11566) t12303 hr1 ht12304) S rfl rfl (by rintro _ _ _ ⟨_, rfl⟩; exact flat_nil) ?_
                              rintro _ w12305 _ Γ' E' S ⟨rfl, rfl⟩
                              replace E := E.trans E'
                              refine Wl_nil (on_n ⟨.inr ⟨M, Hp.le_refl M, (S.pick [0, 1] (by decide))⟩, ?_⟩)
                              have D9 : ∃ Mx, Hp.le M Mx ∧ St _ Mx F [_, _] := ⟨_, Hp.le_refl _, S.pick [0, 1] (by decide)⟩
                              refine Wa_takeY (i := 34) rfl (by kernel_rfl) rfl rfl (.bool (!t12303)) rfl (congrArg some hb12290) (fun w' h' => x_not (b := t12303) rfl) D9 (Wa_take (i := 35) rfl (by kernel_rfl) rfl rfl (.bool (!t12303)) rfl (fun w' h' => x_pick (k := true) (congrArg Value.bool hb12290) rfl) D9 ?_)
                              exact hrest _ _ ⟨(!t12303), Option.some.inj H, ⟨rfl, rfl, rfl, rfl, rfl, rfl, rfl, rfl, trivial⟩, E, S.pick [0, 1] (by decide)⟩
                            · skip
                              have D10 : ∃ Mx, Hp.le M Mx ∧ St _ Mx F [_, _] := ⟨_, Hp.le_refl _, S.pick [0, 1] (by decide)⟩
                              refine Wa_takeN (i := 27) rfl (by kernel_rfl) rfl rfl rfl (skT hb12290) D10 (Wa_takeN (i := 28) rfl (by kernel_rfl) rfl rfl rfl (skT hb12290) D10 (Wa_takeN (i := 29) rfl (by kernel_rfl) rfl rfl rfl (skT hb12290) D10 (Wa_takeN (i := 30) rfl (by kernel_rfl) rfl rfl rfl (skT hb12290) D10 (Wa_takeN (i := 31) rfl (by kernel_rfl) rfl rfl rfl (skT hb12290) D10 (Wa_takeN (i := 32) rfl (by kernel_rfl) rfl rfl rfl (skT hb12290) D10 (Wa_takeN (i := 33) rfl (by kernel_rfl) rfl rfl rfl (skT hb12290) D10 (Wa_takeN (i := 34) rfl (by kernel_rfl) rfl rfl rfl (skT hb12290) D10 (Wa_take (i := 35) rfl (by kernel_rfl) rfl rfl (.bool false) rfl (fun w' h' => x_pick (k := false) (congrArg Value.bool hb12290) rfl) D10 ?_))))))))
                              exact hrest _ _ ⟨false, Option.some.inj H, ⟨rfl, rfl, rfl, rfl, rfl, rfl, rfl, rfl, trivial⟩, E, S.pick [0, 1] (by decide)⟩
                          rintro ρ w12306 ⟨x12291, rfl, hρ, E, S⟩
                          rw [agree_eta hρ]
                          have H := o12292H
                          refine Wa_done (by kernel_rfl) ?_
                          refine tn ?_
                          obtain ⟨o12310, o12310h, o12310H⟩ := bindS H
                          refine Wp_cut (fun ρ w' => ∃ (x12309 : Int), (x12309) = o12310 ∧ Agree ρ [(0, .slice A0 a0.length c0), (1, .slice A1 a1.length c1), (5, .slice A6167 x6166.length c6168), (6, .int .i64 x6170), (7, pt b10809 0), (8, .int .i64 x12309), (9, .int .i64 x11566)] ∧ Ext w w' ∧ St w' M F [B32 b10809 (rd a0 x6170) A10805 c10806, Row r_api_Event 32 (.slice A6167 x6166.length c6168) x6166]) ?_ ?_
                          · clear o12310H
                            have H := o12310h
                            rcases iteS H with ⟨hb12311, H⟩ | ⟨hb12311, H⟩
                            · refine Wp_cond_true (congrArg Value.bool hb12311) ?_
                              refine Wp_region_lit (W_v (.int .i64 x11565) (x_move rfl) rfl (W_v (.int .i64 (IntKind.i64.wrap (x11565 + (1 : Int)))) (x_ibin rfl rfl rfl rfl) rfl (W_v (.int .i64 (IntKind.i64.wrap (x11565 + (1 : Int)))) (x_assign rfl) rfl (Wl_nil (tn ?_)))))
                              exact ⟨(IntKind.i64.wrap (x11565 + (1 : Int))), Option.some.inj H, ⟨rfl, rfl, rfl, rfl, rfl, rfl, rfl, trivial⟩, E, S.pick [0, 1] (by decide)⟩
                            refine Wp_cond_false (congrArg Value.bool hb12311) (Wp_skip (tn ?_))
                            exact ⟨x11565, Option.some.inj H, ⟨rfl, rfl, rfl, rfl, rfl, rfl, rfl, trivial⟩, E, S.pick [0, 1] (by decide)⟩
                          rintro ρ w12312 ⟨x12309, rfl, hρ, E, S⟩
                          rw [agree_eta hρ]
                          have H := o12310H
                          refine bn (tn ?_)
                          exact ⟨x12309, Option.some.inj H, ⟨rfl, rfl, rfl, rfl, rfl, rfl, rfl, trivial⟩, E, S.pick [0, 1] (by decide)⟩
                      rintro ρ w12313 ⟨x12127, rfl, hρ, E, S⟩
                      rw [agree_eta hρ]
                      have H := o12128H
                      refine tn (Wp_region_lit (W_v (.int .i64 x11566) (x_move rfl) rfl (W_v (.int .i64 (IntKind.i64.wrap (x11566 + (1 : Int)))) (x_ibin rfl rfl rfl rfl) rfl (W_v (.int .i64 (IntKind.i64.wrap (x11566 + (1 : Int)))) (x_assign rfl) rfl (Wl_nil (tn ?_))))))
                      exact ⟨k, Nat.lt_succ_self k, ⟨x12127, (IntKind.i64.wrap (x11566 + (1 : Int))), H, ⟨rfl, rfl, rfl, rfl, rfl, rfl, rfl, trivial⟩, E, S.pick [0, 1] (by decide)⟩⟩
                    refine Wp_cond_false (congrArg Value.bool hb11942) ?_
                    refine Wp_exit ?_
                    refine tx (tx (bsm (?_)))
                    refine tn ?_
                    exact ⟨x11565, Option.some.inj H, ⟨rfl, rfl, rfl, rfl, rfl, rfl, trivial⟩, E, S.pick [0, 1] (by decide)⟩
              rintro ρ w12314 ⟨x11939, rfl, hρ, E, S⟩
              rw [agree_eta hρ]
              have H := o11940H
              refine tn ?_
              as_aux_lemma =>
              refine Wp_seq (Wp_region_lit (W_v (pt b10809 2) (x_fieldAddr (o := 0) (off := 2) Try.underlying32 rfl ty3 rfl rfl) rfl (W_v (.int .i64 ((rd a0 x6170).Call)) (x_load (S.blk 0 rfl) ty3 rfl rfl) rfl (W_v (.int .i64 x11939) (x_move rfl) rfl (W_v (.int .i64 (IntKind.i64.wrap ((rd a0 x6170).Call - x11939))) (x_ibin rfl rfl rfl rfl) rfl (W_v (pt b10809 2) (x_fieldAddr (o := 0) (off := 2) Try.underlying32 rfl ty3 rfl rfl) rfl ?_))))))
              refine W_store S 0 rfl ty3 rfl rfl [.int .i64 (IntKind.i64.wrap ((rd a0 x6170).Call - x11939))] rfl rfl rfl #[.int .u8 ((rd a0 x6170).What), .int .i64 ((rd a0 x6170).Task), .int .i64 (IntKind.i64.wrap ((rd a0 x6170).Call - x11939)), .int .i64 ((rd a0 x6170).Answer.Err), .bool ((rd a0 x6170).Answer.Found), .string (bs ((rd a0 x6170).Answer.Value)), .slice A10805 ((rd a0 x6170).Answer.Pairs).length c10806] rfl rfl ?_
              intro w12315 E' S
              replace E := E.trans E'
              refine Wl_nil (tn (Wp_region_lit (W_v (.slice A6167 x6166.length c6168) (x_move rfl) rfl (W_v (.agg #[.int .u8 ((rd a0 x6170).What), .int .i64 ((rd a0 x6170).Task), .int .i64 (IntKind.i64.wrap ((rd a0 x6170).Call - x11939)), .int .i64 ((rd a0 x6170).Answer.Err), .bool ((rd a0 x6170).Answer.Found), .string (bs ((rd a0 x6170).Answer.Value)), .slice A10805 ((rd a0 x6170).Answer.Pairs).length c10806]) (x_loadA (S.blk 0 rfl) ty32 rfl (sub_of_extract rfl) rfl rfl) rfl ?_))))
              refine W_bslice S #[.int .u8 ((rd a0 x6170).What), .int .i64 ((rd a0 x6170).Task), .int .i64 (IntKind.i64.wrap ((rd a0 x6170).Call - x11939)), .int .i64 ((rd a0 x6170).Answer.Err), .bool ((rd a0 x6170).Answer.Found), .string (bs ((rd a0 x6170).Answer.Value)), .slice A10805 ((rd a0 x6170).Answer.Pairs).length c10806] Try.underlying22 ty32 rfl rfl #[.int .u8 0, .int .i64 0, .int .i64 0, .int .i64 0, .bool false, .string (bs ([] : Str)), .slice none 0 0] (by as_aux_lemma => kernel_rfl) (by as_aux_lemma => kernel_rfl) rfl ?_
              intro b12316 w12317 E' S
              replace E := E.trans E'
              replace S := S.blk_row (r := r_api_Event) (l := ([(⟨(rd a0 x6170).What, (rd a0 x6170).Task, (IntKind.i64.wrap ((rd a0 x6170).Call - x11939)), ⟨(rd a0 x6170).Answer.Err, (rd a0 x6170).Answer.Found, (rd a0 x6170).Answer.Value, (rd a0 x6170).Answer.Pairs⟩⟩ : api_Event)] : List api_Event)) 0 rfl 1 (Nat.le_refl 1) rfl (Cells.cons (vs := [.int .u8 ((rd a0 x6170).What), .int .i64 ((rd a0 x6170).Task), .int .i64 (IntKind.i64.wrap ((rd a0 x6170).Call - x11939)), .int .i64 ((rd a0 x6170).Answer.Err), .bool ((rd a0 x6170).Answer.Found), .string (bs ((rd a0 x6170).Answer.Value)), .slice A10805 ((rd a0 x6170).Answer.Pairs).length c10806]) (⟨_, hs10807, rfl⟩) Cells.nil)
              obtain ⟨x12319, he12320, H⟩ := bindS H
              replace he12320 := Option.some.inj he12320
              rw [he12320] at S
              refine Eq.mpr (congrArg (fun z => Wl _ _ _ _ _ _ (upd _ _ z) _) (show Value.slice (some ⟨b12316, 0, none⟩) 1 1 = Value.slice (some ⟨b12316, 0, none⟩) x12319.length 1 from (by rw [← he12320]; rfl))) ?_
              obtain ⟨p12321, H⟩ := chkS H
              obtain ⟨src12322, hs12323, hC12324⟩ := src_of_read (P := Try.prog) (ρ := r_api_Event) (l := x12319) (S.row_read 0 rfl) (by decide)
              refine W_append S 2 rfl rfl rfl Try.underlying22 (.inl Try.underlying22) ty32 rfl (by decide) (by decide) hs12323 hC12324 rfl (by omega) rfl ?_
              intro v12325 w12326 E' S
              replace E := E.trans E'
              obtain ⟨A12327, c12328, rfl, _⟩ := (S.row_read 2 rfl).form
              refine W_v (.slice A12327 (x6166 ++ x12319).length c12328) (x_assign rfl) rfl (Wl_nil (bn (tn ?_)))
              exact ⟨(x6166 ++ x12319), A12327, c12328, Option.some.inj H, ⟨rfl, rfl, rfl, rfl, trivial⟩, E, S.pick [2] (by decide)⟩
          rintro ρ w12329 ⟨x10789, A10790, c10791, rfl, hρ, E, S⟩
          rw [agree_eta hρ]
          have H := o10794H
          refine tn (Wp_region_lit (W_v (.int .i64 x6170) (x_move rfl) rfl (W_v (.int .i64 (IntKind.i64.wrap (x6170 + (1 : Int)))) (x_ibin rfl rfl rfl rfl) rfl (W_v (.int .i64 (IntKind.i64.wrap (x6170 + (1 : Int)))) (x_assign rfl) rfl (Wl_nil (tn ?_))))))
          exact ⟨k, Nat.lt_succ_self k, ⟨x10789, (IntKind.i64.wrap (x6170 + (1 : Int))), A10790, c10791, H, ⟨rfl, rfl, rfl, rfl, trivial⟩, E, S.pick [0] (by decide)⟩⟩
        refine Wp_cond_false (congrArg Value.bool hb9254) ?_
        refine Wp_exit ?_
        refine tx (tx (bsm (?_)))
        refine tn ?_
        exact ⟨x6166, A6167, c6168, Option.some.inj H, ⟨rfl, trivial⟩, E, S.pick [0] (by decide)⟩
  rintro ρ w12330 ⟨x9247, A9248, c9249, rfl, hρ, E, S⟩
  rw [agree_eta hρ]
  have H := o9251H
  refine tn ?_
  as_aux_lemma =>
  refine Wp_seq (Wp_region_lit (W_v (.slice A9248 x9247.length c9249) (x_move rfl) rfl (W_v (.slice A9248 x9247.length c9249) (x_assign rfl) rfl (Wl_nil (tn ?_)))))
  refine Wp_ret ?_
  obtain rfl := Option.some.inj H
  exact ⟨_, _, _, fun w1 e1 => run_resR (vs := [.slice A9248 x9247.length c9249]) (FA.cons (rfl) (FA.nil)), HM, E, S.pick [0] (by decide), ⟨A9248, c9249, rfl, rfl⟩⟩
def slices_Equal_api_Pair_api_Pair_l0 (a0 : (List api_Pair)) (a1 : (List api_Pair)) : Nat → Int → Option ((Bool) ⊕ (Unit))
  | 0, _ => none
  | k + 1, x92 => (if (decide (x92 < (a0.length : Int))) = true then (if 0 ≤ x92 ∧ x92 < (a0.length : Int) then (if 0 ≤ x92 ∧ x92 < (a1.length : Int) then (if (!(((rd a0 x92).Key == (rd a1 x92).Key) && ((rd a0 x92).Value == (rd a1 x92).Value))) = true then some (.inl false) else slices_Equal_api_Pair_api_Pair_l0 a0 a1 k (IntKind.i64.wrap (x92 + (1 : Int)))) else none) else none) else some (.inr ()))
set_option maxHeartbeats 2000000 in
theorem slices_Equal_api_Pair_api_Pair_l0.mono {a0 : (List api_Pair)} {a1 : (List api_Pair)} : ∀ {kl : Nat} {x0}, OLe (slices_Equal_api_Pair_api_Pair_l0 a0 a1 kl x0) (slices_Equal_api_Pair_api_Pair_l0 a0 a1 (kl + 1) x0) := by
  intro kl
  induction kl with
  | zero => intros; exact OLe.none
  | succ kl ih =>
    intros
    rw [slices_Equal_api_Pair_api_Pair_l0.eq_2, slices_Equal_api_Pair_api_Pair_l0.eq_2]
    repeat' (first | with_reducible exact OLe.none | with_reducible exact OLe.some | with_reducible refine OLe.ite ?_ ?_ | with_reducible refine OLe.bind ?_ (fun _ => ?_) | exact ih | refine OLe.bind ?_ (fun _ => ?_) | refine OLe.ite ?_ ?_ | refine OLe.elim (fun _ => ?_) (fun _ => ?_) | split)
def slices_Equal_api_Pair_api_Pair (k : Nat) (a0 : (List api_Pair)) (a1 : (List api_Pair)) : Option (Bool) :=
  (if ((a0.length : Int) != (a1.length : Int)) = true then some false else (Option.bind (slices_Equal_api_Pair_api_Pair_l0 a0 a1 k (0 : Int)) (fun o137o => Sum.elim (fun r' => some r') (fun _ => some true) o137o)))
set_option maxHeartbeats 2000000 in
theorem slices_Equal_api_Pair_api_Pair.mono {k : Nat} {a0 : (List api_Pair)} {a1 : (List api_Pair)} : OLe (slices_Equal_api_Pair_api_Pair k a0 a1) (slices_Equal_api_Pair_api_Pair (k + 1) a0 a1) := by
  unfold slices_Equal_api_Pair_api_Pair
  repeat' (first | with_reducible exact OLe.none | with_reducible exact OLe.some | with_reducible refine OLe.ite ?_ ?_ | with_reducible refine OLe.bind ?_ (fun _ => ?_) | with_reducible exact slices_Equal_api_Pair_api_Pair_l0.mono | refine OLe.bind ?_ (fun _ => ?_) | refine OLe.ite ?_ ?_ | refine OLe.elim (fun _ => ?_) (fun _ => ?_) | split)
set_option maxHeartbeats 1000000 in
set_option maxRecDepth 100000 in
theorem slices_Equal_api_Pair_api_Pair.con (k : Nat) (M : Hp) (A0 : Option Addr) (c0 : Nat) (a0 : (List api_Pair)) (A1 : Option Addr) (c1 : Nat) (a1 : (List api_Pair)) (r : Bool) (hr0 : SlR r_api_Pair M (.slice A0 a0.length c0) a0) (hr1 : SlR r_api_Pair M (.slice A1 a1.length c1) a1) (h : slices_Equal_api_Pair_api_Pair k a0 a1 = some r) : Con Try.prog 44 #[.slice A0 a0.length c0, .slice A1 a1.length c1] M [] (fun v M' Γ' => v = .bool r ∧ Γ' = []) := by
  refine con_of_wp Try.func44 rfl Try.ntmps44 Try.results44 rfl ?_
  intro w F rn S hrn
  have E := Ext.refl w
  have HM := Hp.le_refl M
  have H := h
  unfold slices_Equal_api_Pair_api_Pair at H
  refine Wp_seq (Wp_region_lit (W_v (.bool false) (x_assign rfl) rfl (Wl_nil (tn (Wp_seq (Wp_seq (Wp_region_lit (W_v (.slice A0 a0.length c0) (x_move rfl) rfl (W_v (.int .i64 (a0.length : Int)) (x_len_slice (n := a0.length) Try.underlying28 rfl) rfl (W_v (.slice A1 a1.length c1) (x_move rfl) rfl (W_v (.int .i64 (a1.length : Int)) (x_len_slice (n := a1.length) Try.underlying28 rfl) rfl (W_v (.bool ((a0.length : Int) != (a1.length : Int))) (x_ibin rfl rfl rfl rfl) rfl (Wl_nil (tn ?_))))))))))))))
  rcases iteS H with ⟨hb1, H⟩ | ⟨hb1, H⟩
  · refine Wp_cond_true (congrArg Value.bool hb1) ?_
    refine Wp_seq (Wp_region_lit (W_v (.bool false) (x_assign rfl) rfl (Wl_nil (tn ?_))))
    refine Wp_ret ?_
    refine tr (?_)
    obtain rfl := Option.some.inj H
    exact ⟨_, _, _, fun w1 e1 => run_resR (vs := [.bool false]) (FA.cons (rfl) (FA.nil)), HM, E, S.pick [] (by decide), ⟨rfl, rfl⟩⟩
  refine Wp_cond_false (congrArg Value.bool hb1) (Wp_skip (tn (Wp_seq (Wp_seq (Wp_region_lit (W_v (.slice A0 a0.length c0) (x_move rfl) rfl (W_v (.int .i64 (a0.length : Int)) (x_len_slice (n := a0.length) Try.underlying28 rfl) rfl (W_v (.int .i64 0) (x_move rfl) rfl (Wl_nil (tn ?_))))))))))
  obtain ⟨o137, o137h, o137H⟩ := bindS H
  refine Wp_blockJ (fun ρ w' => .inr () = o137 ∧ Agree ρ [] ∧ Ext w w' ∧ St w' M F []) ?_ ?_
  · skip
    refine Wp_loop (fun n ρ w' => ∃ (x92 : Int), slices_Equal_api_Pair_api_Pair_l0 a0 a1 n x92 = some o137 ∧ Agree ρ [(0, .slice A0 a0.length c0), (1, .slice A1 a1.length c1), (12, .int .i64 (a0.length : Int)), (13, .int .i64 x92)] ∧ Ext w w' ∧ St w' M F []) k ?_ ?_
    · skip
      exact ⟨(0 : Int), o137h, ⟨rfl, rfl, rfl, rfl, trivial⟩, E, S.pick [] (by decide)⟩
    · intro n
      rintro ρ w138 ⟨x92, H, hρ, E, S⟩
      rw [agree_eta hρ]
      cases n with
      | zero => cases H
      | succ k =>
        rw [slices_Equal_api_Pair_api_Pair_l0.eq_2] at H
        refine Wp_seq (Wp_region_lit (W_v (.bool (decide (x92 < (a0.length : Int)))) (x_ibin rfl rfl rfl rfl) rfl (Wl_nil (tn (Wp_seq ?_)))))
        rcases iteS H with ⟨hb139, H⟩ | ⟨hb139, H⟩
        · refine Wp_cond_true (congrArg Value.bool hb139) ?_
          refine Wp_skip (tn (Wp_seq ?_))
          refine Wp_block ?_
          refine Wp_seq (Wp_region_lit (W_v (.int .i64 x92) (x_move rfl) rfl (W_v (.int .i64 x92) (x_assign rfl) rfl (Wl_nil (tn (Wp_seq ?_))))))
          refine Wp_region_any (S := fun w' => ∃ Mx, M.le Mx ∧ St w' Mx F []) (L := 9) mixed ?_
          intro w160 hw161 E'
          replace S := S.heap hw161
          replace E := E.trans E'
          have D1 : ∃ Mx, Hp.le M Mx ∧ St _ Mx F [] := ⟨_, Hp.le_refl _, S.pick [] (by decide)⟩
          refine Wa_take (i := 0) rfl (by kernel_rfl) rfl rfl (.slice A0 a0.length c0) rfl (fun w' h' => x_move rfl) D1 (Wa_take (i := 1) rfl (by kernel_rfl) rfl rfl (.int .i64 x92) rfl (fun w' h' => x_move rfl) D1 ?_)
          obtain ⟨⟨p162, p163⟩, H⟩ := chkS H
          obtain ⟨b164, o165, cs166, _, _, ee171, hb167, vs168, hR169, hc170⟩ := SlW.at' hr0 p162 p163
          obtain rfl : vs168 = _ := hR169
          refine Wa_take (i := 2) rfl (by kernel_rfl) rfl rfl (.pointer (some ⟨b164, o165 + x92.toNat * 2, none⟩)) rfl (fun w' h' => x_indexAddr Try.underlying28 ty43 (slA ee171) rfl p162 p163) D1 (Wa_take (i := 3) rfl (by kernel_rfl) rfl rfl (.agg #[.string (bs ((rd a0 x92).Key)), .string (bs ((rd a0 x92).Value))]) rfl (fun w' h' => x_loadA (cls_frz h' hb167) ty43 rfl (sub_el hc170 0 rfl) rfl rfl) D1 (Wa_take (i := 4) rfl (by kernel_rfl) rfl rfl (.slice A1 a1.length c1) rfl (fun w' h' => x_move rfl) D1 (Wa_take (i := 5) rfl (by kernel_rfl) rfl rfl (.int .i64 x92) rfl (fun w' h' => x_move rfl) D1 ?_)))
          obtain ⟨⟨p172, p173⟩, H⟩ := chkS H
          obtain ⟨b174, o175, cs176, _, _, ee181, hb177, vs178, hR179, hc180⟩ := SlW.at' hr1 p172 p173
          obtain rfl : vs178 = _ := hR179
          refine Wa_take (i := 6) rfl (by kernel_rfl) rfl rfl (.pointer (some ⟨b174, o175 + x92.toNat * 2, none⟩)) rfl (fun w' h' => x_indexAddr Try.underlying28 ty43 (slA ee181) rfl p172 p173) D1 (Wa_take (i := 7) rfl (by kernel_rfl) rfl rfl (.agg #[.string (bs ((rd a1 x92).Key)), .string (bs ((rd a1 x92).Value))]) rfl (fun w' h' => x_loadA (cls_frz h' hb177) ty43 rfl (sub_el hc180 0 rfl) rfl rfl) D1 (Wa_take (i := 8) rfl (by kernel_rfl) rfl rfl (.bool (!(((rd a0 x92).Key == (rd a1 x92).Key) && ((rd a0 x92).Value == (rd a1 x92).Value)))) rfl (fun w' h' => x_ne_of (en43 _ _ _ _) rfl (eq43 _ ((rd a0 x92).Key) ((rd a0 x92).Value) ((rd a1 x92).Key) ((rd a1 x92).Value))) D1 ?_))
          refine Wa_done (by kernel_rfl) ?_
          refine tn ?_
          rcases iteS H with ⟨hb182, H⟩ | ⟨hb182, H⟩
          · refine Wp_cond_true (congrArg Value.bool hb182) ?_
            refine Wp_seq (Wp_region_lit (W_v (.bool false) (x_assign rfl) rfl (Wl_nil (tn ?_))))
            refine Wp_ret ?_
            refine br (tr (tr (br (tr (tr (?_))))))
            obtain rfl := Option.some.inj H
            have H := o137H
            replace H := elimL H
            obtain rfl := Option.some.inj H
            exact ⟨_, _, _, fun w1 e1 => run_resR (vs := [.bool false]) (FA.cons (rfl) (FA.nil)), HM, E, S.pick [] (by decide), ⟨rfl, rfl⟩⟩
          refine Wp_cond_false (congrArg Value.bool hb182) (Wp_skip (bn (tn (Wp_region_lit (W_v (.int .i64 (IntKind.i64.wrap (x92 + (1 : Int)))) (x_ibin rfl rfl rfl rfl) rfl (W_v (.int .i64 (IntKind.i64.wrap (x92 + (1 : Int)))) (x_move rfl) rfl (Wl_nil (tn ?_))))))))
          exact ⟨k, Nat.lt_succ_self k, ⟨(IntKind.i64.wrap (x92 + (1 : Int))), H, ⟨rfl, rfl, rfl, rfl, trivial⟩, E, S.pick [] (by decide)⟩⟩
        refine Wp_cond_false (congrArg Value.bool hb139) ?_
        refine Wp_exit ?_
        refine tx (tx (bsm (?_)))
        refine tn ?_
        exact ⟨Option.some.inj H, trivial, E, S.pick [] (by decide)⟩
  rintro ρ w183 ⟨rfl, hρ, E, S⟩
  rw [agree_eta hρ]
  have H := o137H
  replace H := elimR H
  refine tn ?_
  as_aux_lemma =>
  refine Wp_seq (Wp_region_lit (W_v (.bool true) (x_assign rfl) rfl (Wl_nil (tn ?_))))
  refine Wp_ret ?_
  obtain rfl := Option.some.inj H
  exact ⟨_, _, _, fun w1 e1 => run_resR (vs := [.bool true]) (FA.cons (rfl) (FA.nil)), HM, E, S.pick [] (by decide), ⟨rfl, rfl⟩⟩
def event_Same_1_v (k : Nat) (a0 : api_Event) (a1 : api_Event) : Option (Bool) :=
  (Option.bind (α := Bool) (if ((((((a0.What == a1.What) && (a0.Task == a1.Task)) && (a0.Call == a1.Call)) && (a0.Answer.Err == a1.Answer.Err)) && (a0.Answer.Found == a1.Answer.Found)) && (sbin .eql a0.Answer.Value a1.Answer.Value)) = true then (Option.bind (slices_Equal_api_Pair_api_Pair k a0.Answer.Pairs a1.Answer.Pairs) (fun t21 => some (t21))) else some (false)) (fun x19 => some x19))
set_option maxHeartbeats 2000000 in
theorem event_Same_1_v.mono {k : Nat} {a0 : api_Event} {a1 : api_Event} : OLe (event_Same_1_v k a0 a1) (event_Same_1_v (k + 1) a0 a1) := by
  unfold event_Same_1_v
  repeat' (first | with_reducible exact OLe.none | with_reducible exact OLe.some | with_reducible refine OLe.ite ?_ ?_ | with_reducible refine OLe.bind ?_ (fun _ => ?_) | with_reducible exact slices_Equal_api_Pair_api_Pair.mono | refine OLe.bind ?_ (fun _ => ?_) | refine OLe.ite ?_ ?_ | refine OLe.elim (fun _ => ?_) (fun _ => ?_) | split)
set_option maxHeartbeats 4000000 in
set_option maxRecDepth 100000 in
theorem event_Same_1_v.con (k : Nat) (M : Hp) (A0_0 : Option Addr) (c0_0 : Nat) (a0 : api_Event) (A1_0 : Option Addr) (c1_0 : Nat) (a1 : api_Event) (r : Bool) (hr0_0 : SlR r_api_Pair M (.slice A0_0 a0.Answer.Pairs.length c0_0) a0.Answer.Pairs) (hr1_0 : SlR r_api_Pair M (.slice A1_0 a1.Answer.Pairs.length c1_0) a1.Answer.Pairs) (h : event_Same_1_v k a0 a1 = some r) : Con Try.prog 43 #[.agg #[.int .u8 a0.What, .int .i64 a0.Task, .int .i64 a0.Call, .int .i64 a0.Answer.Err, .bool a0.Answer.Found, .string (bs a0.Answer.Value), .slice A0_0 a0.Answer.Pairs.length c0_0], .agg #[.int .u8 a1.What, .int .i64 a1.Task, .int .i64 a1.Call, .int .i64 a1.Answer.Err, .bool a1.Answer.Found, .string (bs a1.Answer.Value), .slice A1_0 a1.Answer.Pairs.length c1_0]] M [] (fun v M' Γ' => v = .bool r ∧ Γ' = []) := by
  refine con_of_wp Try.func43 rfl Try.ntmps43 Try.results43 rfl ?_
  intro w F rn S hrn
  have E := Ext.refl w
  have HM := Hp.le_refl M
  have H := h
  unfold event_Same_1_v at H
  refine Wp_seq (Wp_region_lit ?_)
  refine W_box S #[.int .u8 a0.What, .int .i64 a0.Task, .int .i64 a0.Call, .int .i64 a0.Answer.Err, .bool a0.Answer.Found, .string (bs a0.Answer.Value), .slice A0_0 a0.Answer.Pairs.length c0_0] rfl rfl rfl ?_
  intro b1 w2 E' S
  replace E := E.trans E'
  refine W_box S #[.int .u8 a1.What, .int .i64 a1.Task, .int .i64 a1.Call, .int .i64 a1.Answer.Err, .bool a1.Answer.Found, .string (bs a1.Answer.Value), .slice A1_0 a1.Answer.Pairs.length c1_0] rfl rfl rfl ?_
  intro b4 w5 E' S
  replace E := E.trans E'
  refine W_v (.bool false) (x_assign rfl) rfl (Wl_nil (tn (Wp_seq (Wp_region_lit (W_v (pt b1 0) (x_fieldAddr (o := 0) (off := 0) Try.underlying32 rfl ty5 rfl rfl) rfl (W_v (.int .u8 a0.What) (x_load (S.blk 1 rfl) ty5 rfl rfl) rfl (W_v (pt b4 0) (x_fieldAddr (o := 0) (off := 0) Try.underlying32 rfl ty5 rfl rfl) rfl (W_v (.int .u8 a1.What) (x_load (S.blk 0 rfl) ty5 rfl rfl) rfl (W_v (.bool (a0.What == a1.What)) (x_ibin rfl rfl rfl rfl) rfl (W_v (.bool (a0.What == a1.What)) (x_move rfl) rfl ?_))))))))))
  refine Wl_cutN 6 (fun ρ w' => Agree ρ [(2, pt b1 0), (3, pt b4 0), (16, .bool ((a0.What == a1.What) && (a0.Task == a1.Task)))] ∧ w5 = w') ?_ ?_
  · rcases boolCases (a0.What == a1.What) with hb7 | hb7
    · skip
      refine W_no (skT hb7) rfl (W_no (skT hb7) rfl (W_no (skT hb7) rfl (W_no (skT hb7) rfl (W_no (skT hb7) rfl (W_v (.bool false) (x_pick (k := false) (congrArg Value.bool hb7) rfl) rfl (Wl_nil ?_))))))
      exact ⟨⟨rfl, rfl, (by first | rfl | (rw [hb7]; rfl) | (simp only [hb7]; rfl)), trivial⟩, rfl⟩
    · skip
      refine W_yes (congrArg some hb7) (W_v (pt b1 1) (x_fieldAddr (o := 0) (off := 1) Try.underlying32 rfl ty3 rfl rfl) rfl (W_yes (congrArg some hb7) (W_v (.int .i64 a0.Task) (x_load (S.blk 1 rfl) ty3 rfl rfl) rfl (W_yes (congrArg some hb7) (W_v (pt b4 1) (x_fieldAddr (o := 0) (off := 1) Try.underlying32 rfl ty3 rfl rfl) rfl (W_yes (congrArg some hb7) (W_v (.int .i64 a1.Task) (x_load (S.blk 0 rfl) ty3 rfl rfl) rfl (W_yes (congrArg some hb7) (W_v (.bool (a0.Task == a1.Task)) (x_ibin rfl rfl rfl rfl) rfl (W_v (.bool (a0.Task == a1.Task)) (x_pick (k := true) (congrArg Value.bool hb7) rfl) rfl (Wl_nil ?_)))))))))))
      exact ⟨⟨rfl, rfl, (by first | rfl | (rw [hb7]; rfl) | (simp only [hb7]; rfl)), trivial⟩, rfl⟩
  as_aux_lemma =>
  rintro ρ _ ⟨hρ, rfl⟩
  rw [agree_eta hρ]
  refine W_v (.bool ((a0.What == a1.What) && (a0.Task == a1.Task))) (x_move rfl) rfl ?_
  refine Wl_cutN 6 (fun ρ w' => Agree ρ [(2, pt b1 0), (3, pt b4 0), (23, .bool (((a0.What == a1.What) && (a0.Task == a1.Task)) && (a0.Call == a1.Call)))] ∧ w5 = w') ?_ ?_
  · rcases boolCases ((a0.What == a1.What) && (a0.Task == a1.Task)) with hb8 | hb8
    · skip
      refine W_no (skT hb8) rfl (W_no (skT hb8) rfl (W_no (skT hb8) rfl (W_no (skT hb8) rfl (W_no (skT hb8) rfl (W_v (.bool false) (x_pick (k := false) (congrArg Value.bool hb8) rfl) rfl (Wl_nil ?_))))))
      exact ⟨⟨rfl, rfl, (by first | rfl | (rw [hb8]; rfl) | (simp only [hb8]; rfl)), trivial⟩, rfl⟩
    · skip
      refine W_yes (congrArg some hb8) (W_v (pt b1 2) (x_fieldAddr (o := 0) (off := 2) Try.underlying32 rfl ty3 rfl rfl) rfl (W_yes (congrArg some hb8) (W_v (.int .i64 a0.Call) (x_load (S.blk 1 rfl) ty3 rfl rfl) rfl (W_yes (congrArg some hb8) (W_v (pt b4 2) (x_fieldAddr (o := 0) (off := 2) Try.underlying32 rfl ty3 rfl rfl) rfl (W_yes (congrArg some hb8) (W_v (.int .i64 a1.Call) (x_load (S.blk 0 rfl) ty3 rfl rfl) rfl (W_yes (congrArg some hb8) (W_v (.bool (a0.Call == a1.Call)) (x_ibin rfl rfl rfl rfl) rfl (W_v (.bool (a0.Call == a1.Call)) (x_pick (k := true) (congrArg Value.bool hb8) rfl) rfl (Wl_nil ?_)))))))))))
      exact ⟨⟨rfl, rfl, (by first | rfl | (rw [hb8]; rfl) | (simp only [hb8]; rfl)), trivial⟩, rfl⟩
  as_aux_lemma =>
  rintro ρ _ ⟨hρ, rfl⟩
  rw [agree_eta hρ]
  refine W_v (.bool (((a0.What == a1.What) && (a0.Task == a1.Task)) && (a0.Call == a1.Call))) (x_move rfl) rfl ?_
  refine Wl_cutN 8 (fun ρ w' => Agree ρ [(2, pt b1 0), (3, pt b4 0), (32, .bool ((((a0.What == a1.What) && (a0.Task == a1.Task)) && (a0.Call == a1.Call)) && (a0.Answer.Err == a1.Answer.Err)))] ∧ w5 = w') ?_ ?_
  · rcases boolCases (((a0.What == a1.What) && (a0.Task == a1.Task)) && (a0.Call == a1.Call)) with hb9 | hb9
    · skip
      refine W_no (skT hb9) rfl (W_no (skT hb9) rfl (W_no (skT hb9) rfl (W_no (skT hb9) rfl (W_no (skT hb9) rfl (W_no (skT hb9) rfl (W_no (skT hb9) rfl (W_v (.bool false) (x_pick (k := false) (congrArg Value.bool hb9) rfl) rfl (Wl_nil ?_))))))))
      exact ⟨⟨rfl, rfl, (by first | rfl | (rw [hb9]; rfl) | (simp only [hb9]; rfl)), trivial⟩, rfl⟩
    · skip
      refine W_yes (congrArg some hb9) (W_v (pt b1 3) (x_fieldAddr (o := 0) (off := 3) Try.underlying32 rfl ty30 rfl rfl) rfl (W_yes (congrArg some hb9) (W_v (pt b1 3) (x_fieldAddr (o := 3) (off := 0) Try.underlying30 rfl ty27 rfl rfl) rfl (W_yes (congrArg some hb9) (W_v (.int .i64 a0.Answer.Err) (x_load (S.blk 1 rfl) ty27 rfl rfl) rfl (W_yes (congrArg some hb9) (W_v (pt b4 3) (x_fieldAddr (o := 0) (off := 3) Try.underlying32 rfl ty30 rfl rfl) rfl (W_yes (congrArg some hb9) (W_v (pt b4 3) (x_fieldAddr (o := 3) (off := 0) Try.underlying30 rfl ty27 rfl rfl) rfl (W_yes (congrArg some hb9) (W_v (.int .i64 a1.Answer.Err) (x_load (S.blk 0 rfl) ty27 rfl rfl) rfl (W_yes (congrArg some hb9) (W_v (.bool (a0.Answer.Err == a1.Answer.Err)) (x_ibin rfl rfl rfl rfl) rfl (W_v (.bool (a0.Answer.Err == a1.Answer.Err)) (x_pick (k := true) (congrArg Value.bool hb9) rfl) rfl (Wl_nil ?_)))))))))))))))
      exact ⟨⟨rfl, rfl, (by first | rfl | (rw [hb9]; rfl) | (simp only [hb9]; rfl)), trivial⟩, rfl⟩
  as_aux_lemma =>
  rintro ρ _ ⟨hρ, rfl⟩
  rw [agree_eta hρ]
  refine W_v (.bool ((((a0.What == a1.What) && (a0.Task == a1.Task)) && (a0.Call == a1.Call)) && (a0.Answer.Err == a1.Answer.Err))) (x_move rfl) rfl ?_
  refine Wl_cutN 8 (fun ρ w' => Agree ρ [(2, pt b1 0), (3, pt b4 0), (41, .bool (((((a0.What == a1.What) && (a0.Task == a1.Task)) && (a0.Call == a1.Call)) && (a0.Answer.Err == a1.Answer.Err)) && (a0.Answer.Found == a1.Answer.Found)))] ∧ w5 = w') ?_ ?_
  · rcases boolCases ((((a0.What == a1.What) && (a0.Task == a1.Task)) && (a0.Call == a1.Call)) && (a0.Answer.Err == a1.Answer.Err)) with hb10 | hb10
    · skip
      refine W_no (skT hb10) rfl (W_no (skT hb10) rfl (W_no (skT hb10) rfl (W_no (skT hb10) rfl (W_no (skT hb10) rfl (W_no (skT hb10) rfl (W_no (skT hb10) rfl (W_v (.bool false) (x_pick (k := false) (congrArg Value.bool hb10) rfl) rfl (Wl_nil ?_))))))))
      exact ⟨⟨rfl, rfl, (by first | rfl | (rw [hb10]; rfl) | (simp only [hb10]; rfl)), trivial⟩, rfl⟩
    · skip
      refine W_yes (congrArg some hb10) (W_v (pt b1 3) (x_fieldAddr (o := 0) (off := 3) Try.underlying32 rfl ty30 rfl rfl) rfl (W_yes (congrArg some hb10) (W_v (pt b1 4) (x_fieldAddr (o := 3) (off := 1) Try.underlying30 rfl ty4 rfl rfl) rfl (W_yes (congrArg some hb10) (W_v (.bool a0.Answer.Found) (x_load (S.blk 1 rfl) ty4 rfl rfl) rfl (W_yes (congrArg some hb10) (W_v (pt b4 3) (x_fieldAddr (o := 0) (off := 3) Try.underlying32 rfl ty30 rfl rfl) rfl (W_yes (congrArg some hb10) (W_v (pt b4 4) (x_fieldAddr (o := 3) (off := 1) Try.underlying30 rfl ty4 rfl rfl) rfl (W_yes (congrArg some hb10) (W_v (.bool a1.Answer.Found) (x_load (S.blk 0 rfl) ty4 rfl rfl) rfl (W_yes (congrArg some hb10) (W_v (.bool (a0.Answer.Found == a1.Answer.Found)) (x_beq Try.underlying4 rfl rfl) rfl (W_v (.bool (a0.Answer.Found == a1.Answer.Found)) (x_pick (k := true) (congrArg Value.bool hb10) rfl) rfl (Wl_nil ?_)))))))))))))))
      exact ⟨⟨rfl, rfl, (by first | rfl | (rw [hb10]; rfl) | (simp only [hb10]; rfl)), trivial⟩, rfl⟩
  as_aux_lemma =>
  rintro ρ _ ⟨hρ, rfl⟩
  rw [agree_eta hρ]
  refine W_v (.bool (((((a0.What == a1.What) && (a0.Task == a1.Task)) && (a0.Call == a1.Call)) && (a0.Answer.Err == a1.Answer.Err)) && (a0.Answer.Found == a1.Answer.Found))) (x_move rfl) rfl ?_
  refine Wl_cutN 8 (fun ρ w' => Agree ρ [(2, pt b1 0), (3, pt b4 0), (50, .bool ((((((a0.What == a1.What) && (a0.Task == a1.Task)) && (a0.Call == a1.Call)) && (a0.Answer.Err == a1.Answer.Err)) && (a0.Answer.Found == a1.Answer.Found)) && (sbin .eql a0.Answer.Value a1.Answer.Value)))] ∧ w5 = w') ?_ ?_
  · rcases boolCases (((((a0.What == a1.What) && (a0.Task == a1.Task)) && (a0.Call == a1.Call)) && (a0.Answer.Err == a1.Answer.Err)) && (a0.Answer.Found == a1.Answer.Found)) with hb11 | hb11
    · skip
      refine W_no (skT hb11) rfl (W_no (skT hb11) rfl (W_no (skT hb11) rfl (W_no (skT hb11) rfl (W_no (skT hb11) rfl (W_no (skT hb11) rfl (W_no (skT hb11) rfl (W_v (.bool false) (x_pick (k := false) (congrArg Value.bool hb11) rfl) rfl (Wl_nil ?_))))))))
      exact ⟨⟨rfl, rfl, (by first | rfl | (rw [hb11]; rfl) | (simp only [hb11]; rfl)), trivial⟩, rfl⟩
    · skip
      refine W_yes (congrArg some hb11) (W_v (pt b1 3) (x_fieldAddr (o := 0) (off := 3) Try.underlying32 rfl ty30 rfl rfl) rfl (W_yes (congrArg some hb11) (W_v (pt b1 5) (x_fieldAddr (o := 3) (off := 2) Try.underlying30 rfl ty9 rfl rfl) rfl (W_yes (congrArg some hb11) (W_v (.string (bs a0.Answer.Value)) (x_load (S.blk 1 rfl) ty9 rfl rfl) rfl (W_yes (congrArg some hb11) (W_v (pt b4 3) (x_fieldAddr (o := 0) (off := 3) Try.underlying32 rfl ty30 rfl rfl) rfl (W_yes (congrArg some hb11) (W_v (pt b4 5) (x_fieldAddr (o := 3) (off := 2) Try.underlying30 rfl ty9 rfl rfl) rfl (W_yes (congrArg some hb11) (W_v (.string (bs a1.Answer.Value)) (x_load (S.blk 0 rfl) ty9 rfl rfl) rfl (W_yes (congrArg some hb11) (W_v (.bool (sbin .eql a0.Answer.Value a1.Answer.Value)) (x_sbin rfl rfl rfl) rfl (W_v (.bool (sbin .eql a0.Answer.Value a1.Answer.Value)) (x_pick (k := true) (congrArg Value.bool hb11) rfl) rfl (Wl_nil ?_)))))))))))))))
      exact ⟨⟨rfl, rfl, (by first | rfl | (rw [hb11]; rfl) | (simp only [hb11]; rfl)), trivial⟩, rfl⟩
  as_aux_lemma =>
  rintro ρ _ ⟨hρ, rfl⟩
  rw [agree_eta hρ]
  refine W_v (.bool ((((((a0.What == a1.What) && (a0.Task == a1.Task)) && (a0.Call == a1.Call)) && (a0.Answer.Err == a1.Answer.Err)) && (a0.Answer.Found == a1.Answer.Found)) && (sbin .eql a0.Answer.Value a1.Answer.Value))) (x_move rfl) rfl ?_
  obtain ⟨o20, o20h, o20H⟩ := bindS H
  refine Wl_cutN 8 (fun ρ w' => ∃ (x19 : Bool), (x19) = o20 ∧ Agree ρ [(59, .bool x19)] ∧ Ext w w' ∧ St w' M F []) ?_ ?_
  · have H := o20h
    rcases iteS H with ⟨hb18, H⟩ | ⟨hb18, H⟩
    · skip
      refine W_yes (congrArg some hb18) (W_v (pt b1 3) (x_fieldAddr (o := 0) (off := 3) Try.underlying32 rfl ty30 rfl rfl) rfl (W_yes (congrArg some hb18) (W_v (pt b1 6) (x_fieldAddr (o := 3) (off := 3) Try.underlying30 rfl ty28 rfl rfl) rfl (W_yes (congrArg some hb18) (W_v (.slice A0_0 a0.Answer.Pairs.length c0_0) (x_load (S.blk 1 rfl) ty28 rfl rfl) rfl (W_yes (congrArg some hb18) (W_v (pt b4 3) (x_fieldAddr (o := 0) (off := 3) Try.underlying32 rfl ty30 rfl rfl) rfl (W_yes (congrArg some hb18) (W_v (pt b4 6) (x_fieldAddr (o := 3) (off := 3) Try.underlying30 rfl ty28 rfl rfl) rfl (W_yes (congrArg some hb18) (W_v (.slice A1_0 a1.Answer.Pairs.length c1_0) (x_load (S.blk 0 rfl) ty28 rfl rfl) rfl (W_yes (congrArg some hb18) ?_))))))))))))
      obtain ⟨t21, ht22, H⟩ := bindS H
      refine W_callF fn44 (slices_Equal_api_Pair_api_Pair.con k M A0_0 c0_0 a0.Answer.Pairs A1_0 c1_0 a1.Answer.Pairs t21 hr0_0 hr1_0 ht22) S rfl rfl (by rintro _ _ _ ⟨_, rfl⟩; exact flat_nil) ?_
      rintro _ w23 _ Γ' E' S ⟨rfl, rfl⟩
      replace E := E.trans E'
      refine W_v (.bool t21) (x_pick (k := true) (congrArg Value.bool hb18) rfl) rfl (Wl_nil ?_)
      exact ⟨t21, Option.some.inj H, ⟨rfl, trivial⟩, E, S.pick [] (by decide)⟩
    · skip
      refine W_no (skT hb18) rfl (W_no (skT hb18) rfl (W_no (skT hb18) rfl (W_no (skT hb18) rfl (W_no (skT hb18) rfl (W_no (skT hb18) rfl (W_no (skT hb18) rfl (W_v (.bool false) (x_pick (k := false) (congrArg Value.bool hb18) rfl) rfl (Wl_nil ?_))))))))
      exact ⟨false, Option.some.inj H, ⟨rfl, trivial⟩, E, S.pick [] (by decide)⟩
  rintro ρ w24 ⟨x19, rfl, hρ, E, S⟩
  rw [agree_eta hρ]
  have H := o20H
  refine W_v (.bool x19) (x_assign rfl) rfl (Wl_nil (tn ?_))
  refine Wp_ret ?_
  obtain rfl := Option.some.inj H
  exact ⟨_, _, _, fun w1 e1 => run_resR (vs := [.bool x19]) (FA.cons (rfl) (FA.nil)), HM, E, S.pick [] (by decide), ⟨rfl, rfl⟩⟩
def slices_EqualFunc_api_Event_api_Event_api_Event_api_Event_Same_1_l0 (a0 : (List api_Event)) (a1 : (List api_Event)) : Nat → Int → Option ((Bool) ⊕ (Unit))
  | 0, _ => none
  | k + 1, x90 => (if (decide (x90 < (a0.length : Int))) = true then (if 0 ≤ x90 ∧ x90 < (a0.length : Int) then (if 0 ≤ x90 ∧ x90 < (a1.length : Int) then (Option.bind (event_Same_1_v k (rd a0 x90) (rd a1 x90)) (fun t173 => (if (!t173) = true then some (.inl false) else slices_EqualFunc_api_Event_api_Event_api_Event_api_Event_Same_1_l0 a0 a1 k (IntKind.i64.wrap (x90 + (1 : Int)))))) else none) else none) else some (.inr ()))
set_option maxHeartbeats 2000000 in
theorem slices_EqualFunc_api_Event_api_Event_api_Event_api_Event_Same_1_l0.mono {a0 : (List api_Event)} {a1 : (List api_Event)} : ∀ {kl : Nat} {x0}, OLe (slices_EqualFunc_api_Event_api_Event_api_Event_api_Event_Same_1_l0 a0 a1 kl x0) (slices_EqualFunc_api_Event_api_Event_api_Event_api_Event_Same_1_l0 a0 a1 (kl + 1) x0) := by
  intro kl
  induction kl with
  | zero => intros; exact OLe.none
  | succ kl ih =>
    intros
    rw [slices_EqualFunc_api_Event_api_Event_api_Event_api_Event_Same_1_l0.eq_2, slices_EqualFunc_api_Event_api_Event_api_Event_api_Event_Same_1_l0.eq_2]
    repeat' (first | with_reducible exact OLe.none | with_reducible exact OLe.some | with_reducible refine OLe.ite ?_ ?_ | with_reducible refine OLe.bind ?_ (fun _ => ?_) | with_reducible exact event_Same_1_v.mono | exact ih | refine OLe.bind ?_ (fun _ => ?_) | refine OLe.ite ?_ ?_ | refine OLe.elim (fun _ => ?_) (fun _ => ?_) | split)
def slices_EqualFunc_api_Event_api_Event_api_Event_api_Event_Same_1 (k : Nat) (a0 : (List api_Event)) (a1 : (List api_Event)) : Option (Bool) :=
  (if ((a0.length : Int) != (a1.length : Int)) = true then some false else (Option.bind (slices_EqualFunc_api_Event_api_Event_api_Event_api_Event_Same_1_l0 a0 a1 k (0 : Int)) (fun o134o => Sum.elim (fun r' => some r') (fun _ => some true) o134o)))
set_option maxHeartbeats 2000000 in
theorem slices_EqualFunc_api_Event_api_Event_api_Event_api_Event_Same_1.mono {k : Nat} {a0 : (List api_Event)} {a1 : (List api_Event)} : OLe (slices_EqualFunc_api_Event_api_Event_api_Event_api_Event_Same_1 k a0 a1) (slices_EqualFunc_api_Event_api_Event_api_Event_api_Event_Same_1 (k + 1) a0 a1) := by
  unfold slices_EqualFunc_api_Event_api_Event_api_Event_api_Event_Same_1
  repeat' (first | with_reducible exact OLe.none | with_reducible exact OLe.some | with_reducible refine OLe.ite ?_ ?_ | with_reducible refine OLe.bind ?_ (fun _ => ?_) | with_reducible exact slices_EqualFunc_api_Event_api_Event_api_Event_api_Event_Same_1_l0.mono | refine OLe.bind ?_ (fun _ => ?_) | refine OLe.ite ?_ ?_ | refine OLe.elim (fun _ => ?_) (fun _ => ?_) | split)
set_option maxHeartbeats 4000000 in
set_option maxRecDepth 100000 in
theorem slices_EqualFunc_api_Event_api_Event_api_Event_api_Event_Same_1.con (k : Nat) (M : Hp) (A0 : Option Addr) (c0 : Nat) (a0 : (List api_Event)) (A1 : Option Addr) (c1 : Nat) (a1 : (List api_Event)) (r : Bool) (hr0 : SlR r_api_Event M (.slice A0 a0.length c0) a0) (hr1 : SlR r_api_Event M (.slice A1 a1.length c1) a1) (h : slices_EqualFunc_api_Event_api_Event_api_Event_api_Event_Same_1 k a0 a1 = some r) : Con Try.prog 42 #[.slice A0 a0.length c0, .slice A1 a1.length c1, .func (.func 43) #[] #[]] M [] (fun v M' Γ' => v = .bool r ∧ Γ' = []) := by
  refine con_of_wp Try.func42 rfl Try.ntmps42 Try.results42 rfl ?_
  intro w F rn S hrn
  have E := Ext.refl w
  have HM := Hp.le_refl M
  have H := h
  unfold slices_EqualFunc_api_Event_api_Event_api_Event_api_Event_Same_1 at H
  refine Wp_seq (Wp_region_lit (W_v (.bool false) (x_assign rfl) rfl (Wl_nil (tn (Wp_seq (Wp_seq (Wp_region_lit (W_v (.slice A0 a0.length c0) (x_move rfl) rfl (W_v (.int .i64 (a0.length : Int)) (x_len_slice (n := a0.length) Try.underlying22 rfl) rfl (W_v (.slice A1 a1.length c1) (x_move rfl) rfl (W_v (.int .i64 (a1.length : Int)) (x_len_slice (n := a1.length) Try.underlying22 rfl) rfl (W_v (.bool ((a0.length : Int) != (a1.length : Int))) (x_ibin rfl rfl rfl rfl) rfl (Wl_nil (tn ?_))))))))))))))
  rcases iteS H with ⟨hb1, H⟩ | ⟨hb1, H⟩
  · refine Wp_cond_true (congrArg Value.bool hb1) ?_
    refine Wp_seq (Wp_region_lit (W_v (.bool false) (x_assign rfl) rfl (Wl_nil (tn ?_))))
    refine Wp_ret ?_
    refine tr (?_)
    obtain rfl := Option.some.inj H
    exact ⟨_, _, _, fun w1 e1 => run_resR (vs := [.bool false]) (FA.cons (rfl) (FA.nil)), HM, E, S.pick [] (by decide), ⟨rfl, rfl⟩⟩
  refine Wp_cond_false (congrArg Value.bool hb1) (Wp_skip (tn (Wp_seq (Wp_seq (Wp_region_lit (W_v (.slice A0 a0.length c0) (x_move rfl) rfl (W_v (.int .i64 (a0.length : Int)) (x_len_slice (n := a0.length) Try.underlying22 rfl) rfl (W_v (.int .i64 0) (x_move rfl) rfl (Wl_nil (tn ?_))))))))))
  obtain ⟨o134, o134h, o134H⟩ := bindS H
  refine Wp_blockJ (fun ρ w' => .inr () = o134 ∧ Agree ρ [] ∧ Ext w w' ∧ St w' M F []) ?_ ?_
  · skip
    refine Wp_loop (fun n ρ w' => ∃ (x90 : Int), slices_EqualFunc_api_Event_api_Event_api_Event_api_Event_Same_1_l0 a0 a1 n x90 = some o134 ∧ Agree ρ [(1, .slice A1 a1.length c1), (2, .func (.func 43) #[] #[]), (15, .slice A0 a0.length c0), (16, .int .i64 (a0.length : Int)), (17, .int .i64 x90)] ∧ Ext w w' ∧ St w' M F []) k ?_ ?_
    · skip
      exact ⟨(0 : Int), o134h, ⟨rfl, rfl, rfl, rfl, rfl, trivial⟩, E, S.pick [] (by decide)⟩
    · intro n
      rintro ρ w135 ⟨x90, H, hρ, E, S⟩
      rw [agree_eta hρ]
      cases n with
      | zero => cases H
      | succ k =>
        rw [slices_EqualFunc_api_Event_api_Event_api_Event_api_Event_Same_1_l0.eq_2] at H
        refine Wp_seq (Wp_region_lit (W_v (.bool (decide (x90 < (a0.length : Int)))) (x_ibin rfl rfl rfl rfl) rfl (Wl_nil (tn (Wp_seq ?_)))))
        rcases iteS H with ⟨hb136, H⟩ | ⟨hb136, H⟩
        · refine Wp_cond_true (congrArg Value.bool hb136) ?_
          refine Wp_skip (tn (Wp_seq ?_))
          refine Wp_block ?_
          refine Wp_seq (Wp_region_lit (W_v (.int .i64 x90) (x_move rfl) rfl ?_))
          obtain ⟨⟨p137, p138⟩, H⟩ := chkS H
          obtain ⟨b139, o140, cs141, _, _, ee146, hb142, vs143, hR144, hc145⟩ := SlW.at' hr0 p137 p138
          obtain ⟨v150, hs149, rfl⟩ := hR144
          obtain ⟨A147, c148, rfl, _⟩ := hs149.form
          refine W_v (.pointer (some ⟨b139, o140 + x90.toNat * 7, none⟩)) (x_indexAddr Try.underlying22 ty32 (slA ee146) rfl p137 p138) rfl (W_v (.agg #[.int .u8 ((rd a0 x90).What), .int .i64 ((rd a0 x90).Task), .int .i64 ((rd a0 x90).Call), .int .i64 ((rd a0 x90).Answer.Err), .bool ((rd a0 x90).Answer.Found), .string (bs ((rd a0 x90).Answer.Value)), .slice A147 ((rd a0 x90).Answer.Pairs).length c148]) (x_loadA (S.frz hb142) ty32 rfl (sub_el hc145 0 rfl) rfl rfl) rfl ?_)
          refine W_alloc S #[.int .u8 0, .int .i64 0, .int .i64 0, .int .i64 0, .bool false, .string (bs ([] : Str)), .slice none 0 0] ty32 rfl rfl ?_
          intro b151 w152 E' S
          replace E := E.trans E'
          refine W_v (.int .i64 x90) (x_assign rfl) rfl ?_
          refine W_store S 0 rfl ty32 rfl rfl [.int .u8 ((rd a0 x90).What), .int .i64 ((rd a0 x90).Task), .int .i64 ((rd a0 x90).Call), .int .i64 ((rd a0 x90).Answer.Err), .bool ((rd a0 x90).Answer.Found), .string (bs ((rd a0 x90).Answer.Value)), .slice A147 ((rd a0 x90).Answer.Pairs).length c148] rfl rfl rfl #[.int .u8 ((rd a0 x90).What), .int .i64 ((rd a0 x90).Task), .int .i64 ((rd a0 x90).Call), .int .i64 ((rd a0 x90).Answer.Err), .bool ((rd a0 x90).Answer.Found), .string (bs ((rd a0 x90).Answer.Value)), .slice A147 ((rd a0 x90).Answer.Pairs).length c148] (by as_aux_lemma => kernel_rfl) rfl ?_
          intro w154 E' S
          replace E := E.trans E'
          refine Wl_nil (tn (Wp_seq (Wp_region_lit (W_v (.slice A1 a1.length c1) (x_move rfl) rfl (W_v (.int .i64 x90) (x_move rfl) rfl ?_)))))
          obtain ⟨⟨p155, p156⟩, H⟩ := chkS H
          obtain ⟨b157, o158, cs159, _, _, ee164, hb160, vs161, hR162, hc163⟩ := SlW.at' hr1 p155 p156
          obtain ⟨v168, hs167, rfl⟩ := hR162
          obtain ⟨A165, c166, rfl, _⟩ := hs167.form
          refine W_v (.pointer (some ⟨b157, o158 + x90.toNat * 7, none⟩)) (x_indexAddr Try.underlying22 ty32 (slA ee164) rfl p155 p156) rfl (W_v (.agg #[.int .u8 ((rd a1 x90).What), .int .i64 ((rd a1 x90).Task), .int .i64 ((rd a1 x90).Call), .int .i64 ((rd a1 x90).Answer.Err), .bool ((rd a1 x90).Answer.Found), .string (bs ((rd a1 x90).Answer.Value)), .slice A165 ((rd a1 x90).Answer.Pairs).length c166]) (x_loadA (S.frz hb160) ty32 rfl (sub_el hc163 0 rfl) rfl rfl) rfl ?_)
          refine W_alloc S #[.int .u8 0, .int .i64 0, .int .i64 0, .int .i64 0, .bool false, .string (bs ([] : Str)), .slice none 0 0] ty32 rfl rfl ?_
          intro b169 w170 E' S
          replace E := E.trans E'
          refine W_store S 0 rfl ty32 rfl rfl [.int .u8 ((rd a1 x90).What), .int .i64 ((rd a1 x90).Task), .int .i64 ((rd a1 x90).Call), .int .i64 ((rd a1 x90).Answer.Err), .bool ((rd a1 x90).Answer.Found), .string (bs ((rd a1 x90).Answer.Value)), .slice A165 ((rd a1 x90).Answer.Pairs).length c166] rfl rfl rfl #[.int .u8 ((rd a1 x90).What), .int .i64 ((rd a1 x90).Task), .int .i64 ((rd a1 x90).Call), .int .i64 ((rd a1 x90).Answer.Err), .bool ((rd a1 x90).Answer.Found), .string (bs ((rd a1 x90).Answer.Value)), .slice A165 ((rd a1 x90).Answer.Pairs).length c166] (by as_aux_lemma => kernel_rfl) rfl ?_
          intro w172 E' S
          replace E := E.trans E'
          refine Wl_nil (tn (Wp_seq (Wp_region_lit (W_v (.func (.func 43) #[] #[]) (x_move rfl) rfl (W_v (.agg #[.int .u8 ((rd a0 x90).What), .int .i64 ((rd a0 x90).Task), .int .i64 ((rd a0 x90).Call), .int .i64 ((rd a0 x90).Answer.Err), .bool ((rd a0 x90).Answer.Found), .string (bs ((rd a0 x90).Answer.Value)), .slice A147 ((rd a0 x90).Answer.Pairs).length c148]) (x_loadA (S.blk 1 rfl) ty32 rfl (sub_of_extract rfl) rfl rfl) rfl (W_v (.agg #[.int .u8 ((rd a1 x90).What), .int .i64 ((rd a1 x90).Task), .int .i64 ((rd a1 x90).Call), .int .i64 ((rd a1 x90).Answer.Err), .bool ((rd a1 x90).Answer.Found), .string (bs ((rd a1 x90).Answer.Value)), .slice A165 ((rd a1 x90).Answer.Pairs).length c166]) (x_loadA (S.blk 0 rfl) ty32 rfl (sub_of_extract rfl) rfl rfl) rfl ?_))))))
          obtain ⟨t173, ht174, H⟩ := bindS H
          refine W_callvF2 (fs := []) (cap := []) fn43 rfl (event_Same_1_v.con k M A147 c148 (rd a0 x90) A165 c166 (rd a1 x90) t173 hs149 hs167 ht174) (Γ1 := []) (Γ2 := [_, _]) S rfl rfl (by rintro _ _ _ ⟨rfl, rfl⟩; exact flat_nil) ?_
          rintro _ w175 _ Γ' E' S ⟨rfl, rfl⟩
          replace E := E.trans E'
          replace S : St w175 M F [_, _] := S
          refine W_v (.bool (!t173)) (x_not (b := t173) rfl) rfl (Wl_nil (tn ?_))
          rcases iteS H with ⟨hb178, H⟩ | ⟨hb178, H⟩
          · refine Wp_cond_true (congrArg Value.bool hb178) ?_
            refine Wp_seq (Wp_region_lit (W_v (.bool false) (x_assign rfl) rfl (Wl_nil (tn ?_))))
            refine Wp_ret ?_
            refine br (tr (tr (br (tr (tr (?_))))))
            obtain rfl := Option.some.inj H
            have H := o134H
            replace H := elimL H
            obtain rfl := Option.some.inj H
            exact ⟨_, _, _, fun w1 e1 => run_resR (vs := [.bool false]) (FA.cons (rfl) (FA.nil)), HM, E, S.pick [] (by decide), ⟨rfl, rfl⟩⟩
          refine Wp_cond_false (congrArg Value.bool hb178) (Wp_skip (bn (tn (Wp_region_lit (W_v (.int .i64 (IntKind.i64.wrap (x90 + (1 : Int)))) (x_ibin rfl rfl rfl rfl) rfl (W_v (.int .i64 (IntKind.i64.wrap (x90 + (1 : Int)))) (x_move rfl) rfl (Wl_nil (tn ?_))))))))
          exact ⟨k, Nat.lt_succ_self k, ⟨(IntKind.i64.wrap (x90 + (1 : Int))), H, ⟨rfl, rfl, rfl, rfl, rfl, trivial⟩, E, S.pick [] (by decide)⟩⟩
        refine Wp_cond_false (congrArg Value.bool hb136) ?_
        refine Wp_exit ?_
        refine tx (tx (bsm (?_)))
        refine tn ?_
        exact ⟨Option.some.inj H, trivial, E, S.pick [] (by decide)⟩
  rintro ρ w179 ⟨rfl, hρ, E, S⟩
  rw [agree_eta hρ]
  have H := o134H
  replace H := elimR H
  refine tn ?_
  as_aux_lemma =>
  refine Wp_seq (Wp_region_lit (W_v (.bool true) (x_assign rfl) rfl (Wl_nil (tn ?_))))
  refine Wp_ret ?_
  obtain rfl := Option.some.inj H
  exact ⟨_, _, _, fun w1 e1 => run_resR (vs := [.bool true]) (FA.cons (rfl) (FA.nil)), HM, E, S.pick [] (by decide), ⟨rfl, rfl⟩⟩
def event_Same (k : Nat) (a0 : (List api_Event)) (a1 : (List api_Event)) : Option (Bool) :=
  (Option.bind (slices_EqualFunc_api_Event_api_Event_api_Event_api_Event_Same_1 k a0 a1) (fun t1 => some t1))
set_option maxHeartbeats 2000000 in
theorem event_Same.mono {k : Nat} {a0 : (List api_Event)} {a1 : (List api_Event)} : OLe (event_Same k a0 a1) (event_Same (k + 1) a0 a1) := by
  unfold event_Same
  repeat' (first | with_reducible exact OLe.none | with_reducible exact OLe.some | with_reducible refine OLe.ite ?_ ?_ | with_reducible refine OLe.bind ?_ (fun _ => ?_) | with_reducible exact slices_EqualFunc_api_Event_api_Event_api_Event_api_Event_Same_1.mono | refine OLe.bind ?_ (fun _ => ?_) | refine OLe.ite ?_ ?_ | refine OLe.elim (fun _ => ?_) (fun _ => ?_) | split)
set_option maxHeartbeats 1000000 in
set_option maxRecDepth 100000 in
theorem event_Same.con (k : Nat) (M : Hp) (A0 : Option Addr) (c0 : Nat) (a0 : (List api_Event)) (A1 : Option Addr) (c1 : Nat) (a1 : (List api_Event)) (r : Bool) (hr0 : SlR r_api_Event M (.slice A0 a0.length c0) a0) (hr1 : SlR r_api_Event M (.slice A1 a1.length c1) a1) (h : event_Same k a0 a1 = some r) : Con Try.prog 28 #[.slice A0 a0.length c0, .slice A1 a1.length c1] M [] (fun v M' Γ' => v = .bool r ∧ Γ' = []) := by
  refine con_of_wp Try.func28 rfl Try.ntmps28 Try.results28 rfl ?_
  intro w F rn S hrn
  have E := Ext.refl w
  have HM := Hp.le_refl M
  have H := h
  unfold event_Same at H
  refine Wp_seq (Wp_region_lit (W_v (.bool false) (x_assign rfl) rfl (Wl_nil (tn (Wp_seq (Wp_region_lit (W_v (.slice A0 a0.length c0) (x_move rfl) rfl (W_v (.slice A1 a1.length c1) (x_move rfl) rfl ?_))))))))
  obtain ⟨t1, ht2, H⟩ := bindS H
  refine W_callF2 fn42 (slices_EqualFunc_api_Event_api_Event_api_Event_api_Event_Same_1.con k M A0 c0 a0 A1 c1 a1 t1 hr0 hr1 ht2) (Γ1 := []) (Γ2 := []) S rfl rfl (by rintro _ _ _ ⟨rfl, rfl⟩; exact flat_nil) ?_
  rintro _ w3 _ Γ' E' S ⟨rfl, rfl⟩
  replace E := E.trans E'
  replace S : St w3 M F [] := S
  refine W_v (.bool t1) (x_assign rfl) rfl (Wl_nil (tn ?_))
  refine Wp_ret ?_
  obtain rfl := Option.some.inj H
  exact ⟨_, _, _, fun w1 e1 => run_resR (vs := [.bool t1]) (FA.cons (rfl) (FA.nil)), HM, E, S.pick [] (by decide), ⟨rfl, rfl⟩⟩
def ferrymanlaw06_EventTells_l4 (t30 : (List api_Event)) (x601 : Int) : Nat → Int → Option ((Unit))
  | 0, _ => none
  | k + 1, x938 => (if 0 ≤ x601 ∧ x601 < (t30.length : Int) then (if (decide (x938 < (((rd t30 x601).Answer.Pairs).length : Int))) = true then (if 0 ≤ x601 ∧ x601 < (t30.length : Int) then (if 0 ≤ x938 ∧ x938 < (((rd t30 x601).Answer.Pairs).length : Int) then ferrymanlaw06_EventTells_l4 t30 x601 k (IntKind.i64.wrap (x938 + (1 : Int))) else none) else none) else some ()) else none)
set_option maxHeartbeats 2000000 in
theorem ferrymanlaw06_EventTells_l4.mono {t30 : (List api_Event)} {x601 : Int} : ∀ {kl : Nat} {x0}, OLe (ferrymanlaw06_EventTells_l4 t30 x601 kl x0) (ferrymanlaw06_EventTells_l4 t30 x601 (kl + 1) x0) := by
  intro kl
  induction kl with
  | zero => intros; exact OLe.none
  | succ kl ih =>
    intros
    rw [ferrymanlaw06_EventTells_l4.eq_2, ferrymanlaw06_EventTells_l4.eq_2]
    repeat' (first | with_reducible exact OLe.none | with_reducible exact OLe.some | with_reducible refine OLe.ite ?_ ?_ | with_reducible refine OLe.bind ?_ (fun _ => ?_) | exact ih | refine OLe.bind ?_ (fun _ => ?_) | refine OLe.ite ?_ ?_ | refine OLe.elim (fun _ => ?_) (fun _ => ?_) | split)
def ferrymanlaw06_EventTells_l9 (t47 : (List api_Event)) (x1471 : Int) : Nat → Int → Option ((Unit))
  | 0, _ => none
  | k + 1, x1808 => (if 0 ≤ x1471 ∧ x1471 < (t47.length : Int) then (if (decide (x1808 < (((rd t47 x1471).Answer.Pairs).length : Int))) = true then (if 0 ≤ x1471 ∧ x1471 < (t47.length : Int) then (if 0 ≤ x1808 ∧ x1808 < (((rd t47 x1471).Answer.Pairs).length : Int) then ferrymanlaw06_EventTells_l9 t47 x1471 k (IntKind.i64.wrap (x1808 + (1 : Int))) else none) else none) else some ()) else none)
set_option maxHeartbeats 2000000 in
theorem ferrymanlaw06_EventTells_l9.mono {t47 : (List api_Event)} {x1471 : Int} : ∀ {kl : Nat} {x0}, OLe (ferrymanlaw06_EventTells_l9 t47 x1471 kl x0) (ferrymanlaw06_EventTells_l9 t47 x1471 (kl + 1) x0) := by
  intro kl
  induction kl with
  | zero => intros; exact OLe.none
  | succ kl ih =>
    intros
    rw [ferrymanlaw06_EventTells_l9.eq_2, ferrymanlaw06_EventTells_l9.eq_2]
    repeat' (first | with_reducible exact OLe.none | with_reducible exact OLe.some | with_reducible refine OLe.ite ?_ ?_ | with_reducible refine OLe.bind ?_ (fun _ => ?_) | exact ih | refine OLe.bind ?_ (fun _ => ?_) | refine OLe.ite ?_ ?_ | refine OLe.elim (fun _ => ?_) (fun _ => ?_) | split)
def ferrymanlaw06_EventTells_l7 (t47 : (List api_Event)) : Nat → Int → Option ((Unit))
  | 0, _ => none
  | k + 1, x1471 => (if (decide (x1471 < (t47.length : Int))) = true then (if 0 ≤ x1471 ∧ x1471 < (t47.length : Int) then (Option.bind (ferrymanlaw06_EventTells_l9 t47 x1471 k (0 : Int)) (fun _ => ferrymanlaw06_EventTells_l7 t47 k (IntKind.i64.wrap (x1471 + (1 : Int))))) else none) else some ())
set_option maxHeartbeats 2000000 in
theorem ferrymanlaw06_EventTells_l7.mono {t47 : (List api_Event)} : ∀ {kl : Nat} {x0}, OLe (ferrymanlaw06_EventTells_l7 t47 kl x0) (ferrymanlaw06_EventTells_l7 t47 (kl + 1) x0) := by
  intro kl
  induction kl with
  | zero => intros; exact OLe.none
  | succ kl ih =>
    intros
    rw [ferrymanlaw06_EventTells_l7.eq_2, ferrymanlaw06_EventTells_l7.eq_2]
    repeat' (first | with_reducible exact OLe.none | with_reducible exact OLe.some | with_reducible refine OLe.ite ?_ ?_ | with_reducible refine OLe.bind ?_ (fun _ => ?_) | with_reducible exact ferrymanlaw06_EventTells_l9.mono | exact ih | refine OLe.bind ?_ (fun _ => ?_) | refine OLe.ite ?_ ?_ | refine OLe.elim (fun _ => ?_) (fun _ => ?_) | split)
def ferrymanlaw06_EventTells_l2 (t30 : (List api_Event)) : Nat → Int → Option ((Unit))
  | 0, _ => none
  | k + 1, x601 => (if (decide (x601 < (t30.length : Int))) = true then (if 0 ≤ x601 ∧ x601 < (t30.length : Int) then (Option.bind (ferrymanlaw06_EventTells_l4 t30 x601 k (0 : Int)) (fun _ => ferrymanlaw06_EventTells_l2 t30 k (IntKind.i64.wrap (x601 + (1 : Int))))) else none) else some ())
set_option maxHeartbeats 2000000 in
theorem ferrymanlaw06_EventTells_l2.mono {t30 : (List api_Event)} : ∀ {kl : Nat} {x0}, OLe (ferrymanlaw06_EventTells_l2 t30 kl x0) (ferrymanlaw06_EventTells_l2 t30 (kl + 1) x0) := by
  intro kl
  induction kl with
  | zero => intros; exact OLe.none
  | succ kl ih =>
    intros
    rw [ferrymanlaw06_EventTells_l2.eq_2, ferrymanlaw06_EventTells_l2.eq_2]
    repeat' (first | with_reducible exact OLe.none | with_reducible exact OLe.some | with_reducible refine OLe.ite ?_ ?_ | with_reducible refine OLe.bind ?_ (fun _ => ?_) | with_reducible exact ferrymanlaw06_EventTells_l4.mono | exact ih | refine OLe.bind ?_ (fun _ => ?_) | refine OLe.ite ?_ ?_ | refine OLe.elim (fun _ => ?_) (fun _ => ?_) | split)
def ferrymanlaw06_EventTells (k : Nat) (a0 : Int) (a1 : (List api_Event)) (a2 : (List api_Event)) (a3 : (List ferrymanref06_Place)) : Option (Bool) :=
  (Option.bind (ferrymanlaw06_wide k a1) (fun t1 => (Option.bind (α := Bool) (if t1 = true then some (true) else (Option.bind (ferrymanlaw06_wide k a2) (fun t13 => some (t13)))) (fun x11 => (if (x11 || (decide ((a3.length : Int) > (100 : Int)))) = true then (Option.bind (ferrymanlaw06_works k ) (fun t19 => some t19)) else (Option.bind (ferrymanlaw06_fresh k a1) (fun t22 => (Option.bind (event_Bare k a1) (fun t30 => (Option.bind (ferrymanlaw06_given k a3) (fun t38 => (Option.bind (event_Without k a1 t38) (fun t47 => (Option.bind (event_Legal k a0 a1) (fun t55 => (Option.bind (ferrymanref06_Legal k a0 a1) (fun t58 => (Option.bind (α := Bool) (if (!(t55 == t58)) = true then some (true) else (Option.bind (ferrymanref06_Bare k a1) (fun t87 => (Option.bind (ferrymanref06_Same k t30 t87) (fun t95 => some ((!t95))))))) (fun x84 => (Option.bind (α := Bool) (if x84 = true then some (true) else (Option.bind (ferrymanref06_Without k a1 a3) (fun t127 => (Option.bind (ferrymanref06_Same k t47 t127) (fun t135 => some ((!t135))))))) (fun x124 => (Option.bind (α := Bool) (if x124 = true then some (true) else (Option.bind (event_Same k a1 a2) (fun t156 => (Option.bind (ferrymanref06_Same k a1 a2) (fun t159 => some ((!(t156 == t159)))))))) (fun x154 => (if x154 = true then some false else (Option.bind (ferrymanlaw06_EventTells_l2 t30 k (0 : Int)) (fun _ => (Option.bind (ferrymanlaw06_EventTells_l7 t47 k (0 : Int)) (fun _ => (Option.bind (ferrymanref06_Same k a1 t22) (fun t1907 => (Option.bind (α := Bool) (if t1907 = true then (Option.bind (ferrymanlaw06_given k a3) (fun t1970 => (Option.bind (event_Without k a1 t1970) (fun t1979 => (Option.bind (ferrymanref06_Without k a1 a3) (fun t1987 => (Option.bind (ferrymanref06_Same k t1979 t1987) (fun t1995 => some (t1995))))))))) else some (false)) (fun x1967 => (Option.bind (α := Bool) (if x1967 = true then (Option.bind (ferrymanlaw06_works k ) (fun t2010 => some (t2010))) else some (false)) (fun x2008 => some x2008))))))))))))))))))))))))))))))))))
set_option maxHeartbeats 2000000 in
theorem ferrymanlaw06_EventTells.mono {k : Nat} {a0 : Int} {a1 : (List api_Event)} {a2 : (List api_Event)} {a3 : (List ferrymanref06_Place)} : OLe (ferrymanlaw06_EventTells k a0 a1 a2 a3) (ferrymanlaw06_EventTells (k + 1) a0 a1 a2 a3) := by
  unfold ferrymanlaw06_EventTells
  repeat' (first | with_reducible exact OLe.none | with_reducible exact OLe.some | with_reducible refine OLe.ite ?_ ?_ | with_reducible refine OLe.bind ?_ (fun _ => ?_) | with_reducible exact event_Bare.mono | with_reducible exact event_Legal.mono | with_reducible exact event_Same.mono | with_reducible exact event_Without.mono | with_reducible exact ferrymanlaw06_EventTells_l2.mono | with_reducible exact ferrymanlaw06_EventTells_l7.mono | with_reducible exact ferrymanlaw06_fresh.mono | with_reducible exact ferrymanlaw06_given.mono | with_reducible exact ferrymanlaw06_wide.mono | with_reducible exact ferrymanlaw06_works.mono | with_reducible exact ferrymanref06_Bare.mono | with_reducible exact ferrymanref06_Legal.mono | with_reducible exact ferrymanref06_Same.mono | with_reducible exact ferrymanref06_Without.mono | refine OLe.bind ?_ (fun _ => ?_) | refine OLe.ite ?_ ?_ | refine OLe.elim (fun _ => ?_) (fun _ => ?_) | split)
set_option maxHeartbeats 8000000 in
set_option maxRecDepth 100000 in
theorem ferrymanlaw06_EventTells.con (k : Nat) (M : Hp) (a0 : Int) (A1 : Option Addr) (c1 : Nat) (a1 : (List api_Event)) (A2 : Option Addr) (c2 : Nat) (a2 : (List api_Event)) (A3 : Option Addr) (c3 : Nat) (a3 : (List ferrymanref06_Place)) (r : Bool) (hr1 : SlR r_api_Event M (.slice A1 a1.length c1) a1) (hr2 : SlR r_api_Event M (.slice A2 a2.length c2) a2) (hr3 : SlR r_ferrymanref06_Place M (.slice A3 a3.length c3) a3) (h : ferrymanlaw06_EventTells k a0 a1 a2 a3 = some r) : Con Try.prog 5 #[.int .i64 a0, .slice A1 a1.length c1, .slice A2 a2.length c2, .slice A3 a3.length c3] M [] (fun v M' Γ' => v = .bool r ∧ Γ' = []) := by
  refine con_of_wp Try.func5 rfl Try.ntmps5 Try.results5 rfl ?_
  intro w F rn S hrn
  have E := Ext.refl w
  have HM := Hp.le_refl M
  have H := h
  unfold ferrymanlaw06_EventTells at H
  refine Wp_seq (Wp_region_lit (W_v (.bool false) (x_assign rfl) rfl (Wl_nil (tn (Wp_seq (Wp_seq (Wp_region_lit (W_v (.slice A1 a1.length c1) (x_move rfl) rfl ?_))))))))
  obtain ⟨t1, ht2, H⟩ := bindS H
  refine W_callF fn11 (ferrymanlaw06_wide.con k M A1 c1 a1 t1 hr1 ht2) S rfl rfl (by rintro _ _ _ ⟨_, rfl⟩; exact flat_nil) ?_
  rintro _ w3 _ Γ' E' S ⟨rfl, rfl⟩
  replace E := E.trans E'
  refine W_v (.bool t1) (x_move rfl) rfl ?_
  obtain ⟨o12, o12h, o12H⟩ := bindS H
  refine Wl_cutN 3 (fun ρ w' => ∃ (x11 : Bool), (x11) = o12 ∧ Agree ρ [(0, .int .i64 a0), (1, .slice A1 a1.length c1), (2, .slice A2 a2.length c2), (3, .slice A3 a3.length c3), (21, .bool x11)] ∧ Ext w w' ∧ St w' M F []) ?_ ?_
  · have H := o12h
    rcases iteS H with ⟨hb10, H⟩ | ⟨hb10, H⟩
    · skip
      refine W_no (skF hb10) rfl (W_no (skF hb10) rfl (W_v (.bool true) (x_pick (k := true) (congrArg Value.bool hb10) rfl) rfl (Wl_nil ?_)))
      exact ⟨true, Option.some.inj H, ⟨rfl, rfl, rfl, rfl, rfl, trivial⟩, E, S.pick [] (by decide)⟩
    · skip
      refine W_yes (congrArg some hb10) (W_v (.slice A2 a2.length c2) (x_move rfl) rfl (W_yes (congrArg some hb10) ?_))
      obtain ⟨t13, ht14, H⟩ := bindS H
      refine W_callF fn11 (ferrymanlaw06_wide.con k M A2 c2 a2 t13 hr2 ht14) S rfl rfl (by rintro _ _ _ ⟨_, rfl⟩; exact flat_nil) ?_
      rintro _ w15 _ Γ' E' S ⟨rfl, rfl⟩
      replace E := E.trans E'
      refine W_v (.bool t13) (x_pick (k := false) (congrArg Value.bool hb10) rfl) rfl (Wl_nil ?_)
      exact ⟨t13, Option.some.inj H, ⟨rfl, rfl, rfl, rfl, rfl, trivial⟩, E, S.pick [] (by decide)⟩
  as_aux_lemma =>
  rintro ρ w16 ⟨x11, rfl, hρ, E, S⟩
  rw [agree_eta hρ]
  have H := o12H
  refine W_v (.bool x11) (x_move rfl) rfl ?_
  refine Wl_cutN 4 (fun ρ w' => Agree ρ [(0, .int .i64 a0), (1, .slice A1 a1.length c1), (2, .slice A2 a2.length c2), (3, .slice A3 a3.length c3), (26, .bool (x11 || (decide ((a3.length : Int) > (100 : Int)))))] ∧ w16 = w') ?_ ?_
  · rcases boolCases x11 with hb17 | hb17
    · skip
      refine W_yes (congrArg some hb17) (W_v (.slice A3 a3.length c3) (x_move rfl) rfl (W_yes (congrArg some hb17) (W_v (.int .i64 (a3.length : Int)) (x_len_slice (n := a3.length) Try.underlying52 rfl) rfl (W_yes (congrArg some hb17) (W_v (.bool (decide ((a3.length : Int) > (100 : Int)))) (x_ibin rfl rfl rfl rfl) rfl (W_v (.bool (decide ((a3.length : Int) > (100 : Int)))) (x_pick (k := false) (congrArg Value.bool hb17) rfl) rfl (Wl_nil ?_)))))))
      exact ⟨⟨rfl, rfl, rfl, rfl, (by first | rfl | (rw [hb17]; rfl) | (simp only [hb17]; rfl)), trivial⟩, rfl⟩
    · skip
      refine W_no (skF hb17) rfl (W_no (skF hb17) rfl (W_no (skF hb17) rfl (W_v (.bool true) (x_pick (k := true) (congrArg Value.bool hb17) rfl) rfl (Wl_nil ?_))))
      exact ⟨⟨rfl, rfl, rfl, rfl, (by first | rfl | (rw [hb17]; rfl) | (simp only [hb17]; rfl)), trivial⟩, rfl⟩
  as_aux_lemma =>
  rintro ρ _ ⟨hρ, rfl⟩
  rw [agree_eta hρ]
  refine Wl_nil (tn ?_)
  rcases iteS H with ⟨hb18, H⟩ | ⟨hb18, H⟩
  · refine Wp_cond_true (congrArg Value.bool hb18) ?_
    refine Wp_seq (Wp_region_lit ?_)
    obtain ⟨t19, ht20, H⟩ := bindS H
    refine W_callF fn10 (ferrymanlaw06_works.con k M  t19  ht20) S rfl rfl (by rintro _ _ _ ⟨_, rfl⟩; exact flat_nil) ?_
    rintro _ w21 _ Γ' E' S ⟨rfl, rfl⟩
    replace E := E.trans E'
    refine W_v (.bool t19) (x_assign rfl) rfl (Wl_nil (tn ?_))
    refine Wp_ret ?_
    refine tr (?_)
    obtain rfl := Option.some.inj H
    exact ⟨_, _, _, fun w1 e1 => run_resR (vs := [.bool t19]) (FA.cons (rfl) (FA.nil)), HM, E, S.pick [] (by decide), ⟨rfl, rfl⟩⟩
  refine Wp_cond_false (congrArg Value.bool hb18) (Wp_skip (tn (Wp_seq (Wp_region_lit (W_v (.slice A1 a1.length c1) (x_move rfl) rfl ?_)))))
  obtain ⟨t22, ht23, H⟩ := bindS H
  refine W_call fn22 (ferrymanlaw06_fresh.con k M A1 c1 a1 t22 hr1 ht23) (Γ1 := []) (Γ2 := []) S rfl rfl ?_
  rintro _ w27 M28 Γ' hM29 E' S ⟨A24, c25, rfl, rfl⟩
  replace HM := Hp.le_trans HM hM29
  replace hr1 := SlR.mono hr1 hM29
  replace hr2 := SlR.mono hr2 hM29
  replace hr3 := SlR.mono hr3 hM29
  replace E := E.trans E'
  refine W_v (.slice A24 t22.length c25) (x_assign rfl) rfl (Wl_nil (tn (Wp_seq (Wp_region_lit (W_v (.slice A1 a1.length c1) (x_move rfl) rfl ?_)))))
  obtain ⟨t30, ht31, H⟩ := bindS H
  refine W_call fn23 (event_Bare.con k M28 A1 c1 a1 t30 hr1 ht31) (Γ1 := []) (Γ2 := [_]) S rfl rfl ?_
  rintro _ w35 M36 Γ' hM37 E' S ⟨A32, c33, rfl, rfl⟩
  replace HM := Hp.le_trans HM hM37
  replace hr1 := SlR.mono hr1 hM37
  replace hr2 := SlR.mono hr2 hM37
  replace hr3 := SlR.mono hr3 hM37
  replace E := E.trans E'
  refine W_v (.slice A1 a1.length c1) (x_move rfl) rfl (W_v (.slice A3 a3.length c3) (x_move rfl) rfl ?_)
  obtain ⟨t38, ht39, H⟩ := bindS H
  refine W_callF fn25 (ferrymanlaw06_given.con k M36 A3 c3 a3 t38 hr3 ht39) S rfl rfl (by rintro _ _ _ ⟨_, _, _, rfl⟩; exact (flat_cons (flat_row (fun _ _ _ _ h => h)) flat_nil)) ?_
  rintro _ w43 _ Γ' E' S ⟨A40, c41, rfl, rfl⟩
  replace E := E.trans E'
  obtain ⟨M44, hM45, hf46, S⟩ := S.row_freeze 0 rfl
  replace HM := Hp.le_trans HM hM45
  replace hr1 := SlR.mono hr1 hM45
  replace hr2 := SlR.mono hr2 hM45
  replace hr3 := SlR.mono hr3 hM45
  obtain ⟨t47, ht48, H⟩ := bindS H
  refine W_call fn24 (event_Without.con k M44 A1 c1 a1 A40 c41 t38 t47 hr1 hf46 ht48) (Γ1 := []) (Γ2 := [_, _]) S rfl rfl ?_
  rintro _ w52 M53 Γ' hM54 E' S ⟨A49, c50, rfl, rfl⟩
  replace HM := Hp.le_trans HM hM54
  replace hr1 := SlR.mono hr1 hM54
  replace hr2 := SlR.mono hr2 hM54
  replace hr3 := SlR.mono hr3 hM54
  replace hf46 := SlR.mono hf46 hM54
  replace E := E.trans E'
  refine W_v (.slice A32 t30.length c33) (x_assign rfl) rfl (W_v (.slice A49 t47.length c50) (x_assign rfl) rfl (Wl_nil (tn ?_)))
  as_aux_lemma =>
  refine Wp_seq (Wp_seq (Wp_region_lit (W_v (.int .i64 a0) (x_move rfl) rfl (W_v (.slice A1 a1.length c1) (x_move rfl) rfl ?_))))
  obtain ⟨t55, ht56, H⟩ := bindS H
  refine W_callF fn12 (event_Legal.con k M53 a0 A1 c1 a1 t55 hr1 ht56) S rfl rfl (by rintro _ _ _ ⟨_, rfl⟩; exact flat_nil) ?_
  rintro _ w57 _ Γ' E' S ⟨rfl, rfl⟩
  replace E := E.trans E'
  refine W_v (.int .i64 a0) (x_move rfl) rfl (W_v (.slice A1 a1.length c1) (x_move rfl) rfl ?_)
  obtain ⟨t58, ht59, H⟩ := bindS H
  refine W_callF fn15 (ferrymanref06_Legal.con k M53 a0 A1 c1 a1 t58 hr1 ht59) S rfl rfl (by rintro _ _ _ ⟨_, rfl⟩; exact flat_nil) ?_
  rintro _ w60 _ Γ' E' S ⟨rfl, rfl⟩
  replace E := E.trans E'
  refine W_v (.bool (!(t55 == t58))) (x_bne Try.underlying4 rfl rfl) rfl (W_v (.bool (!(t55 == t58))) (x_move rfl) rfl ?_)
  obtain ⟨o85, o85h, o85H⟩ := bindS H
  refine Wl_cutN 6 (fun ρ w' => ∃ (x84 : Bool) (Mj : Hp), (x84) = o85 ∧ Agree ρ [(1, .slice A1 a1.length c1), (2, .slice A2 a2.length c2), (3, .slice A3 a3.length c3), (9, .slice A24 t22.length c25), (10, .slice A32 t30.length c33), (11, .slice A49 t47.length c50), (49, .bool x84)] ∧ M53.le Mj ∧ Ext w w' ∧ St w' Mj F [Nst rw_api_Event 32 (.slice A49 t47.length c50) t47, Nst rw_api_Event 32 (.slice A32 t30.length c33) t30, Row r_api_Event 32 (.slice A24 t22.length c25) t22]) ?_ ?_
  · have H := o85h
    have LE86 := Hp.le_refl M53
    rcases iteS H with ⟨hb83, H⟩ | ⟨hb83, H⟩
    · skip
      refine W_no (skF hb83) rfl (W_no (skF hb83) rfl (W_no (skF hb83) rfl (W_no (skF hb83) rfl (W_no (skF hb83) rfl (W_v (.bool true) (x_pick (k := true) (congrArg Value.bool hb83) rfl) rfl (Wl_nil ?_))))))
      exact ⟨true, M53, Option.some.inj H, ⟨rfl, rfl, rfl, rfl, rfl, rfl, rfl, trivial⟩, (Hp.le_refl M53), E, S.pick [0, 1, 2] (by decide)⟩
    · skip
      refine W_yes (congrArg some hb83) (W_v (.slice A32 t30.length c33) (x_move rfl) rfl (W_yes (congrArg some hb83) (W_v (.slice A1 a1.length c1) (x_move rfl) rfl (W_yes (congrArg some hb83) ?_))))
      obtain ⟨t87, ht88, H⟩ := bindS H
      refine W_call fn26 (ferrymanref06_Bare.con k M53 A1 c1 a1 t87 hr1 ht88) (Γ1 := []) (Γ2 := [_, _, _]) S rfl rfl ?_
      rintro _ w92 M93 Γ' hM94 E' S ⟨A89, c90, rfl, rfl⟩
      replace HM := Hp.le_trans HM hM94
      replace LE86 := Hp.le_trans LE86 hM94
      replace hr1 := SlR.mono hr1 hM94
      replace hr2 := SlR.mono hr2 hM94
      replace hr3 := SlR.mono hr3 hM94
      replace hf46 := SlR.mono hf46 hM94
      replace E := E.trans E'
      refine W_yes (congrArg some hb83) ?_
      replace S : St w92 M93 F [_, _, _, _] := S.pick [2, 0, 1, 3] (by decide)
      obtain ⟨t95, ht96, H⟩ := bindS H
      refine W_callN 2 fn18 (fun h9 hs9 hd9 => ferrymanref06_Same.con k _ A32 c33 t30 A89 c90 t87 t95 (SlW.wk (r := r_api_Event) (Sats.nst hs9 hd9 0 rfl)) (Sats.row hs9 hd9 1 rfl) ht96) S rfl rfl (by rintro _ _ _ ⟨_, rfl⟩; exact flat_nil) ?_
      rintro _ w97 _ Γ' E' S ⟨rfl, rfl⟩
      replace E := E.trans E'
      refine W_yes (congrArg some hb83) (W_v (.bool (!t95)) (x_not (b := t95) rfl) rfl (W_v (.bool (!t95)) (x_pick (k := false) (congrArg Value.bool hb83) rfl) rfl (Wl_nil ?_)))
      exact ⟨(!t95), M93, Option.some.inj H, ⟨rfl, rfl, rfl, rfl, rfl, rfl, rfl, trivial⟩, LE86, E, S.pick [2, 0, 3] (by decide)⟩
  as_aux_lemma =>
  rintro ρ w98 ⟨x84, M99, rfl, hρ, hM100, E, S⟩
  rw [agree_eta hρ]
  replace HM := Hp.le_trans HM hM100
  replace hr1 := SlR.mono hr1 hM100
  replace hr2 := SlR.mono hr2 hM100
  replace hr3 := SlR.mono hr3 hM100
  replace hf46 := SlR.mono hf46 hM100
  have H := o85H
  refine W_v (.bool x84) (x_move rfl) rfl ?_
  obtain ⟨o125, o125h, o125H⟩ := bindS H
  refine Wl_cutN 7 (fun ρ w' => ∃ (x124 : Bool) (Mj : Hp), (x124) = o125 ∧ Agree ρ [(1, .slice A1 a1.length c1), (2, .slice A2 a2.length c2), (3, .slice A3 a3.length c3), (9, .slice A24 t22.length c25), (10, .slice A32 t30.length c33), (11, .slice A49 t47.length c50), (57, .bool x124)] ∧ M99.le Mj ∧ Ext w w' ∧ St w' Mj F [Nst rw_api_Event 32 (.slice A49 t47.length c50) t47, Nst rw_api_Event 32 (.slice A32 t30.length c33) t30, Row r_api_Event 32 (.slice A24 t22.length c25) t22]) ?_ ?_
  · as_aux_lemma =>
      have H := o125h
      have LE126 := Hp.le_refl M99
      rcases iteS H with ⟨hb123, H⟩ | ⟨hb123, H⟩
      · skip
        refine W_no (skF hb123) rfl (W_no (skF hb123) rfl (W_no (skF hb123) rfl (W_no (skF hb123) rfl (W_no (skF hb123) rfl (W_no (skF hb123) rfl (W_v (.bool true) (x_pick (k := true) (congrArg Value.bool hb123) rfl) rfl (Wl_nil ?_)))))))
        exact ⟨true, M99, Option.some.inj H, ⟨rfl, rfl, rfl, rfl, rfl, rfl, rfl, trivial⟩, (Hp.le_refl M99), E, S.pick [0, 1, 2] (by decide)⟩
      · skip
        refine W_yes (congrArg some hb123) (W_v (.slice A49 t47.length c50) (x_move rfl) rfl (W_yes (congrArg some hb123) (W_v (.slice A1 a1.length c1) (x_move rfl) rfl (W_yes (congrArg some hb123) (W_v (.slice A3 a3.length c3) (x_move rfl) rfl (W_yes (congrArg some hb123) ?_))))))
        obtain ⟨t127, ht128, H⟩ := bindS H
        refine W_call fn27 (ferrymanref06_Without.con k M99 A1 c1 a1 A3 c3 a3 t127 hr1 hr3 ht128) (Γ1 := []) (Γ2 := [_, _, _]) S rfl rfl ?_
        rintro _ w132 M133 Γ' hM134 E' S ⟨A129, c130, rfl, rfl⟩
        replace HM := Hp.le_trans HM hM134
        replace hM100 := Hp.le_trans hM100 hM134
        replace LE126 := Hp.le_trans LE126 hM134
        replace hr1 := SlR.mono hr1 hM134
        replace hr2 := SlR.mono hr2 hM134
        replace hr3 := SlR.mono hr3 hM134
        replace hf46 := SlR.mono hf46 hM134
        replace E := E.trans E'
        refine W_yes (congrArg some hb123) ?_
        replace S : St w132 M133 F [_, _, _, _] := S.pick [1, 0, 2, 3] (by decide)
        obtain ⟨t135, ht136, H⟩ := bindS H
        refine W_callN 2 fn18 (fun h9 hs9 hd9 => ferrymanref06_Same.con k _ A49 c50 t47 A129 c130 t127 t135 (SlW.wk (r := r_api_Event) (Sats.nst hs9 hd9 0 rfl)) (Sats.row hs9 hd9 1 rfl) ht136) S rfl rfl (by rintro _ _ _ ⟨_, rfl⟩; exact flat_nil) ?_
        rintro _ w137 _ Γ' E' S ⟨rfl, rfl⟩
        replace E := E.trans E'
        refine W_yes (congrArg some hb123) (W_v (.bool (!t135)) (x_not (b := t135) rfl) rfl (W_v (.bool (!t135)) (x_pick (k := false) (congrArg Value.bool hb123) rfl) rfl (Wl_nil ?_)))
        exact ⟨(!t135), M133, Option.some.inj H, ⟨rfl, rfl, rfl, rfl, rfl, rfl, rfl, trivial⟩, LE126, E, S.pick [0, 2, 3] (by decide)⟩
  as_aux_lemma =>
  rintro ρ w138 ⟨x124, M139, rfl, hρ, hM140, E, S⟩
  rw [agree_eta hρ]
  replace HM := Hp.le_trans HM hM140
  replace hM100 := Hp.le_trans hM100 hM140
  replace hr1 := SlR.mono hr1 hM140
  replace hr2 := SlR.mono hr2 hM140
  replace hr3 := SlR.mono hr3 hM140
  replace hf46 := SlR.mono hf46 hM140
  have H := o125H
  refine W_v (.bool x124) (x_move rfl) rfl ?_
  obtain ⟨o155, o155h, o155H⟩ := bindS H
  refine Wl_cutN 8 (fun ρ w' => ∃ (x154 : Bool), (x154) = o155 ∧ Agree ρ [(1, .slice A1 a1.length c1), (3, .slice A3 a3.length c3), (9, .slice A24 t22.length c25), (10, .slice A32 t30.length c33), (11, .slice A49 t47.length c50), (66, .bool x154)] ∧ Ext w w' ∧ St w' M139 F [Nst rw_api_Event 32 (.slice A49 t47.length c50) t47, Nst rw_api_Event 32 (.slice A32 t30.length c33) t30, Row r_api_Event 32 (.slice A24 t22.length c25) t22]) ?_ ?_
  · have H := o155h
    rcases iteS H with ⟨hb153, H⟩ | ⟨hb153, H⟩
    · skip
      refine W_no (skF hb153) rfl (W_no (skF hb153) rfl (W_no (skF hb153) rfl (W_no (skF hb153) rfl (W_no (skF hb153) rfl (W_no (skF hb153) rfl (W_no (skF hb153) rfl (W_v (.bool true) (x_pick (k := true) (congrArg Value.bool hb153) rfl) rfl (Wl_nil ?_))))))))
      exact ⟨true, Option.some.inj H, ⟨rfl, rfl, rfl, rfl, rfl, rfl, trivial⟩, E, S.pick [0, 1, 2] (by decide)⟩
    · skip
      refine W_yes (congrArg some hb153) (W_v (.slice A1 a1.length c1) (x_move rfl) rfl (W_yes (congrArg some hb153) (W_v (.slice A2 a2.length c2) (x_move rfl) rfl (W_yes (congrArg some hb153) ?_))))
      obtain ⟨t156, ht157, H⟩ := bindS H
      refine W_callF fn28 (event_Same.con k M139 A1 c1 a1 A2 c2 a2 t156 hr1 hr2 ht157) S rfl rfl (by rintro _ _ _ ⟨_, rfl⟩; exact flat_nil) ?_
      rintro _ w158 _ Γ' E' S ⟨rfl, rfl⟩
      replace E := E.trans E'
      refine W_yes (congrArg some hb153) (W_v (.slice A1 a1.length c1) (x_move rfl) rfl (W_yes (congrArg some hb153) (W_v (.slice A2 a2.length c2) (x_move rfl) rfl (W_yes (congrArg some hb153) ?_))))
      obtain ⟨t159, ht160, H⟩ := bindS H
      refine W_callF fn18 (ferrymanref06_Same.con k M139 A1 c1 a1 A2 c2 a2 t159 hr1 hr2 ht160) S rfl rfl (by rintro _ _ _ ⟨_, rfl⟩; exact flat_nil) ?_
      rintro _ w161 _ Γ' E' S ⟨rfl, rfl⟩
      replace E := E.trans E'
      refine W_yes (congrArg some hb153) (W_v (.bool (!(t156 == t159))) (x_bne Try.underlying4 rfl rfl) rfl (W_v (.bool (!(t156 == t159))) (x_pick (k := false) (congrArg Value.bool hb153) rfl) rfl (Wl_nil ?_)))
      exact ⟨(!(t156 == t159)), Option.some.inj H, ⟨rfl, rfl, rfl, rfl, rfl, rfl, trivial⟩, E, S.pick [0, 1, 2] (by decide)⟩
  as_aux_lemma =>
  rintro ρ w162 ⟨x154, rfl, hρ, E, S⟩
  rw [agree_eta hρ]
  have H := o155H
  refine Wl_nil (tn ?_)
  rcases iteS H with ⟨hb163, H⟩ | ⟨hb163, H⟩
  · refine Wp_cond_true (congrArg Value.bool hb163) ?_
    refine Wp_seq (Wp_region_lit (W_v (.bool false) (x_assign rfl) rfl (Wl_nil (tn ?_))))
    refine Wp_ret ?_
    refine tr (?_)
    obtain rfl := Option.some.inj H
    exact ⟨_, _, _, fun w1 e1 => run_resR (vs := [.bool false]) (FA.cons (rfl) (FA.nil)), HM, E, S.pick [] (by decide), ⟨rfl, rfl⟩⟩
  refine Wp_cond_false (congrArg Value.bool hb163) (Wp_skip (tn (Wp_seq (Wp_seq (Wp_region_lit (W_v (.slice A32 t30.length c33) (x_move rfl) rfl (W_v (.slice A49 t47.length c50) (x_move rfl) rfl ?_)))))))
  refine W_bslice S #[.slice A32 t30.length c33, .slice A49 t47.length c50] Try.underlying58 ty22 rfl rfl #[.slice none 0 0, .slice none 0 0] (by as_aux_lemma => kernel_rfl) (by as_aux_lemma => kernel_rfl) rfl ?_
  intro b164 w165 E' S
  replace E := E.trans E'
  refine W_v (.int .i64 2) (x_len_slice (n := 2) Try.underlying58 rfl) rfl (W_v (.int .i64 0) (x_move rfl) rfl (Wl_nil (tn ?_)))
  replace S := S.nst_nss 1 rfl get_api_Event
  replace S := S.nst_nss 2 rfl get_api_Event
  replace S : St w165 M139 F [_, _, _, _] := S
  refine Wp_block ?_
  refine Wp_rounds 3 ?_
  refine Rnds_succ ?_
  refine Wp_seq (Wp_region_lit (W_v (.bool true) (x_ibin rfl rfl rfl rfl) rfl (Wl_nil (tn (Wp_seq (Wp_cond_true rfl (Wp_skip (tn ?_))))))))
  as_aux_lemma =>
  refine Wp_seq ?_
  refine Wp_block ?_
  refine Wp_seq (Wp_region_lit (W_v (pt b164 0) (x_indexAddr (i := 0) (n := 2) (c := 2) Try.underlying58 ty22 rfl rfl (by decide) (by decide)) rfl (W_v (.slice A32 t30.length c33) (x_load (S.blk 0 rfl) ty22 rfl rfl) rfl (W_v (.slice A32 t30.length c33) (x_assign rfl) rfl (Wl_nil (tn (Wp_seq (Wp_region_lit (W_v (.int .i64 0) (x_assign rfl) rfl (Wl_nil (tn ?_)))))))))))
  obtain ⟨o818, o818h, o818H⟩ := bindS H
  refine Wp_blockJ (fun ρ w' => () = o818 ∧ Agree ρ [(1, .slice A1 a1.length c1), (3, .slice A3 a3.length c3), (9, .slice A24 t22.length c25), (69, .slice (some ⟨b164, 0, none⟩) 2 2), (70, .int .i64 2), (71, .int .i64 0)] ∧ Ext w w' ∧ St w' M139 F [Blk b164 (.cells #[.slice A32 t30.length c33, .slice A49 t47.length c50] 22 (0, 0)), Nss rw_api_Event get_api_Event 32 (.slice A49 t47.length c50) t47, Nss rw_api_Event get_api_Event 32 (.slice A32 t30.length c33) t30, Row r_api_Event 32 (.slice A24 t22.length c25) t22]) ?_ ?_
  · skip
    refine Wp_loop (fun n ρ w' => ∃ (x601 : Int), ferrymanlaw06_EventTells_l2 t30 n x601 = some o818 ∧ Agree ρ [(1, .slice A1 a1.length c1), (3, .slice A3 a3.length c3), (9, .slice A24 t22.length c25), (13, .slice A32 t30.length c33), (14, .int .i64 x601), (69, .slice (some ⟨b164, 0, none⟩) 2 2), (70, .int .i64 2), (71, .int .i64 0)] ∧ Ext w w' ∧ St w' M139 F [Blk b164 (.cells #[.slice A32 t30.length c33, .slice A49 t47.length c50] 22 (0, 0)), Nss rw_api_Event get_api_Event 32 (.slice A49 t47.length c50) t47, Nss rw_api_Event get_api_Event 32 (.slice A32 t30.length c33) t30, Row r_api_Event 32 (.slice A24 t22.length c25) t22]) k ?_ ?_
    · skip
      exact ⟨(0 : Int), o818h, ⟨rfl, rfl, rfl, rfl, rfl, rfl, rfl, rfl, trivial⟩, E, S.pick [0, 1, 2, 3] (by decide)⟩
    · intro n
      rintro ρ w819 ⟨x601, H, hρ, E, S⟩
      rw [agree_eta hρ]
      cases n with
      | zero => cases H
      | succ k =>
        rw [ferrymanlaw06_EventTells_l2.eq_2] at H
        refine Wp_seq (Wp_seq (Wp_region_lit (W_v (.int .i64 x601) (x_move rfl) rfl (W_v (.slice A32 t30.length c33) (x_move rfl) rfl (W_v (.int .i64 (t30.length : Int)) (x_len_slice (n := t30.length) Try.underlying22 rfl) rfl (W_v (.bool (decide (x601 < (t30.length : Int)))) (x_ibin rfl rfl rfl rfl) rfl (Wl_nil (tn ?_))))))))
        rcases iteS H with ⟨hb820, H⟩ | ⟨hb820, H⟩
        · refine Wp_cond_true (congrArg Value.bool hb820) ?_
          refine Wp_skip (tn (Wp_seq ?_))
          refine Wp_block ?_
          refine Wp_seq (Wp_region_lit (W_v (.slice A32 t30.length c33) (x_move rfl) rfl (W_v (.int .i64 x601) (x_move rfl) rfl ?_)))
          obtain ⟨⟨p821, p822⟩, H⟩ := chkS H
          obtain ⟨l831, sh832, So833⟩ := S.nss_open 2 rfl
          have p834 : x601 < (l831.length : Int) := by rw [sh832.1]; exact p822
          obtain ⟨b823, o824, cs825, _, _, ee830, hb826, vs827, hR828, hc829⟩ := SlW.at' (So833.nst_read 2 rfl) p821 p834
          obtain ⟨v835, hs836, hq837, _⟩ := led_api_Event.led hR828
          obtain ⟨A838, c839, rfl, _⟩ := hs836.form
          have hn840 := sh832.at p821 p822
          rw [hn840] at hq837
          refine W_v (.pointer (some ⟨b823, o824 + x601.toNat * 7, none⟩)) (x_indexAddr Try.underlying22 ty32 (slA ee830) rfl p821 p822) rfl (W_v (.pointer (some ⟨b823, o824 + x601.toNat * 7 + 1, none⟩)) (x_fieldAddr (o := o824 + x601.toNat * 7) (off := 1) Try.underlying32 rfl ty3 rfl rfl) rfl ?_)
          refine W_nssstore S 2 rfl rfl ee830 p821 p822 1 ty3 rfl rfl [.int .i64 (-7)] rfl rfl rfl rfl (fun x => (⟨x.What, (-7 : Int), x.Call, ⟨x.Answer.Err, x.Answer.Found, x.Answer.Value, x.Answer.Pairs⟩⟩ : api_Event)) (by rintro _ x _ ⟨_, h, rfl⟩; exact ⟨_, h, rfl⟩) (fun _ => rfl) ?_
          intro w841 E' S
          replace E := E.trans E'
          replace S : St w841 M139 F [_, _, _, _] := S
          refine Wl_nil (tn (Wp_seq (Wp_region_lit (W_v (.int .i64 0) (x_assign rfl) rfl (Wl_nil (tn ?_))))))
          obtain ⟨o986, o986h, o986H⟩ := bindS H
          refine Wp_blockJ (fun ρ w' => () = o986 ∧ Agree ρ [(1, .slice A1 a1.length c1), (3, .slice A3 a3.length c3), (9, .slice A24 t22.length c25), (13, .slice A32 t30.length c33), (14, .int .i64 x601), (69, .slice (some ⟨b164, 0, none⟩) 2 2), (70, .int .i64 2), (71, .int .i64 0)] ∧ Ext w w' ∧ St w' M139 F [Blk b164 (.cells #[.slice A32 t30.length c33, .slice A49 t47.length c50] 22 (0, 0)), Nss rw_api_Event get_api_Event 32 (.slice A49 t47.length c50) t47, Nss rw_api_Event get_api_Event 32 (.slice A32 t30.length c33) t30, Row r_api_Event 32 (.slice A24 t22.length c25) t22]) ?_ ?_
          · skip
            refine Wp_loop (fun n ρ w' => ∃ (x938 : Int), ferrymanlaw06_EventTells_l4 t30 x601 n x938 = some o986 ∧ Agree ρ [(1, .slice A1 a1.length c1), (3, .slice A3 a3.length c3), (9, .slice A24 t22.length c25), (13, .slice A32 t30.length c33), (14, .int .i64 x601), (15, .int .i64 x938), (69, .slice (some ⟨b164, 0, none⟩) 2 2), (70, .int .i64 2), (71, .int .i64 0)] ∧ Ext w w' ∧ St w' M139 F [Blk b164 (.cells #[.slice A32 t30.length c33, .slice A49 t47.length c50] 22 (0, 0)), Nss rw_api_Event get_api_Event 32 (.slice A49 t47.length c50) t47, Nss rw_api_Event get_api_Event 32 (.slice A32 t30.length c33) t30, Row r_api_Event 32 (.slice A24 t22.length c25) t22]) k ?_ ?_
            · skip
              exact ⟨(0 : Int), o986h, ⟨rfl, rfl, rfl, rfl, rfl, rfl, rfl, rfl, rfl, trivial⟩, E, S.pick [0, 1, 2, 3] (by decide)⟩
            · intro n
              rintro ρ w987 ⟨x938, H, hρ, E, S⟩
              rw [agree_eta hρ]
              cases n with
              | zero => cases H
              | succ k =>
                rw [ferrymanlaw06_EventTells_l4.eq_2] at H
                refine Wp_seq (Wp_seq (Wp_region_lit (W_v (.int .i64 x938) (x_move rfl) rfl (W_v (.slice A32 t30.length c33) (x_move rfl) rfl (W_v (.int .i64 x601) (x_move rfl) rfl ?_)))))
                obtain ⟨⟨p988, p989⟩, H⟩ := chkS H
                obtain ⟨l998, sh999, So1000⟩ := S.nss_open 2 rfl
                have p1001 : x601 < (l998.length : Int) := by rw [sh999.1]; exact p989
                obtain ⟨b990, o991, cs992, _, _, ee997, hb993, vs994, hR995, hc996⟩ := SlW.at' (So1000.nst_read 2 rfl) p988 p1001
                obtain ⟨v1002, hs1003, hq1004, _⟩ := led_api_Event.led hR995
                obtain ⟨A1005, c1006, rfl, _⟩ := hs1003.form
                have hn1007 := sh999.at p988 p989
                rw [hn1007] at hq1004
                refine W_v (.pointer (some ⟨b990, o991 + x601.toNat * 7, none⟩)) (x_indexAddr Try.underlying22 ty32 (slA ee997) rfl p988 p989) rfl (W_v (.pointer (some ⟨b990, o991 + x601.toNat * 7 + 3, none⟩)) (x_fieldAddr (o := o991 + x601.toNat * 7) (off := 3) Try.underlying32 rfl ty30 rfl rfl) rfl (W_v (.pointer (some ⟨b990, o991 + x601.toNat * 7 + 3 + 3, none⟩)) (x_fieldAddr (o := o991 + x601.toNat * 7 + 3) (off := 3) Try.underlying30 rfl ty28 rfl rfl) rfl (W_v (.slice A1005 ((rd t30 x601).Answer.Pairs).length c1006) (x_load (Hp.of_get hb993) ty28 rfl (hc996 6 _ hq1004)) rfl (W_v (.int .i64 (((rd t30 x601).Answer.Pairs).length : Int)) (x_len_slice (n := ((rd t30 x601).Answer.Pairs).length) Try.underlying28 rfl) rfl (W_v (.bool (decide (x938 < (((rd t30 x601).Answer.Pairs).length : Int)))) (x_ibin rfl rfl rfl rfl) rfl (Wl_nil (tn ?_)))))))
                rcases iteS H with ⟨hb1008, H⟩ | ⟨hb1008, H⟩
                · refine Wp_cond_true (congrArg Value.bool hb1008) ?_
                  refine Wp_skip (tn (Wp_seq ?_))
                  refine Wp_block ?_
                  refine Wp_region_lit (W_v (.slice A32 t30.length c33) (x_move rfl) rfl (W_v (.int .i64 x601) (x_move rfl) rfl ?_))
                  obtain ⟨⟨p1009, p1010⟩, H⟩ := chkS H
                  obtain ⟨l1019, sh1020, So1021⟩ := S.nss_open 2 rfl
                  have p1022 : x601 < (l1019.length : Int) := by rw [sh1020.1]; exact p1010
                  obtain ⟨b1011, o1012, cs1013, _, _, ee1018, hb1014, vs1015, hR1016, hc1017⟩ := SlW.at' (So1021.nst_read 2 rfl) p1009 p1022
                  obtain ⟨v1023, hs1024, hq1025, _⟩ := led_api_Event.led hR1016
                  obtain ⟨A1026, c1027, rfl, _⟩ := hs1024.form
                  have hn1028 := sh1020.at p1009 p1010
                  rw [hn1028] at hq1025
                  refine W_v (.pointer (some ⟨b1011, o1012 + x601.toNat * 7, none⟩)) (x_indexAddr Try.underlying22 ty32 (slA ee1018) rfl p1009 p1010) rfl (W_v (.pointer (some ⟨b1011, o1012 + x601.toNat * 7 + 3, none⟩)) (x_fieldAddr (o := o1012 + x601.toNat * 7) (off := 3) Try.underlying32 rfl ty30 rfl rfl) rfl (W_v (.pointer (some ⟨b1011, o1012 + x601.toNat * 7 + 3 + 3, none⟩)) (x_fieldAddr (o := o1012 + x601.toNat * 7 + 3) (off := 3) Try.underlying30 rfl ty28 rfl rfl) rfl (W_v (.slice A1026 ((rd t30 x601).Answer.Pairs).length c1027) (x_load (Hp.of_get hb1014) ty28 rfl (hc1017 6 _ hq1025)) rfl (W_v (.int .i64 x938) (x_move rfl) rfl ?_))))
                  obtain ⟨⟨p1029, p1030⟩, H⟩ := chkS H
                  obtain ⟨b1031, o1032, _, _, _, ee1033, _⟩ := SlW.at' (i := x938) hs1024.r p1029 (by rw [hn1028]; exact p1030)
                  refine W_v (.pointer (some ⟨b1031, o1032 + x938.toNat * 2, none⟩)) (x_indexAddr Try.underlying28 ty43 (slA ee1033) rfl p1029 p1030) rfl (W_v (.pointer (some ⟨b1031, o1032 + x938.toNat * 2 + 1, none⟩)) (x_fieldAddr (o := o1032 + x938.toNat * 2) (off := 1) Try.underlying43 rfl ty9 rfl rfl) rfl ?_)
                  refine W_nssin So1021 2 rfl sh1020 rfl ee1018 p1009 p1022 led_api_Event txt_api_Pair hb1014 (hc1017 6 _ hq1025) (by decide) ee1033 p1029 p1030 1 rfl ty9 rfl ([115, 112, 111, 105, 108, 116] : Str) rfl ?_
                  intro w1034 E' S
                  replace E := E.trans E'
                  replace S : St w1034 M139 F [_, _, _, _] := S
                  refine Wl_nil (bn (tn (Wp_region_lit (W_v (.int .i64 x938) (x_move rfl) rfl (W_v (.int .i64 (IntKind.i64.wrap (x938 + (1 : Int)))) (x_ibin rfl rfl rfl rfl) rfl (W_v (.int .i64 (IntKind.i64.wrap (x938 + (1 : Int)))) (x_assign rfl) rfl (Wl_nil (tn ?_))))))))
                  exact ⟨k, Nat.lt_succ_self k, ⟨(IntKind.i64.wrap (x938 + (1 : Int))), H, ⟨rfl, rfl, rfl, rfl, rfl, rfl, rfl, rfl, rfl, trivial⟩, E, S.pick [0, 1, 2, 3] (by decide)⟩⟩
                refine Wp_cond_false (congrArg Value.bool hb1008) ?_
                refine Wp_exit ?_
                refine tx (tx (bsm (?_)))
                refine tn ?_
                exact ⟨Option.some.inj H, ⟨rfl, rfl, rfl, rfl, rfl, rfl, rfl, rfl, trivial⟩, E, S.pick [0, 1, 2, 3] (by decide)⟩
          rintro ρ w1035 ⟨rfl, hρ, E, S⟩
          rw [agree_eta hρ]
          have H := o986H
          refine bn (tn (Wp_region_lit (W_v (.int .i64 x601) (x_move rfl) rfl (W_v (.int .i64 (IntKind.i64.wrap (x601 + (1 : Int)))) (x_ibin rfl rfl rfl rfl) rfl (W_v (.int .i64 (IntKind.i64.wrap (x601 + (1 : Int)))) (x_assign rfl) rfl (Wl_nil (tn ?_)))))))
          exact ⟨k, Nat.lt_succ_self k, ⟨(IntKind.i64.wrap (x601 + (1 : Int))), H, ⟨rfl, rfl, rfl, rfl, rfl, rfl, rfl, rfl, trivial⟩, E, S.pick [0, 1, 2, 3] (by decide)⟩⟩
        refine Wp_cond_false (congrArg Value.bool hb820) ?_
        refine Wp_exit ?_
        refine tx (tx (bsm (?_)))
        refine tn ?_
        exact ⟨Option.some.inj H, ⟨rfl, rfl, rfl, rfl, rfl, rfl, trivial⟩, E, S.pick [0, 1, 2, 3] (by decide)⟩
  rintro ρ w1036 ⟨rfl, hρ, E, S⟩
  rw [agree_eta hρ]
  have H := o818H
  refine bn (tn (Wp_region_lit (W_v (.int .i64 1) (x_ibin rfl rfl rfl rfl) rfl (W_v (.int .i64 1) (x_move rfl) rfl (Wl_nil (tn ?_))))))
  refine Rnds_succ ?_
  as_aux_lemma =>
  refine Wp_seq (Wp_region_lit (W_v (.bool true) (x_ibin rfl rfl rfl rfl) rfl (Wl_nil (tn (Wp_seq (Wp_cond_true rfl (Wp_skip (tn (Wp_seq ?_)))))))))
  refine Wp_block ?_
  refine Wp_seq (Wp_region_lit (W_v (pt b164 1) (x_indexAddr (i := 1) (n := 2) (c := 2) Try.underlying58 ty22 rfl rfl (by decide) (by decide)) rfl (W_v (.slice A49 t47.length c50) (x_load (S.blk 0 rfl) ty22 rfl rfl) rfl (W_v (.slice A49 t47.length c50) (x_assign rfl) rfl (Wl_nil (tn (Wp_seq (Wp_region_lit (W_v (.int .i64 0) (x_assign rfl) rfl (Wl_nil (tn ?_)))))))))))
  obtain ⟨o1688, o1688h, o1688H⟩ := bindS H
  refine Wp_blockJ (fun ρ w' => () = o1688 ∧ Agree ρ [(1, .slice A1 a1.length c1), (3, .slice A3 a3.length c3), (9, .slice A24 t22.length c25), (69, .slice (some ⟨b164, 0, none⟩) 2 2), (70, .int .i64 2), (71, .int .i64 1)] ∧ Ext w w' ∧ St w' M139 F [Blk b164 (.cells #[.slice A32 t30.length c33, .slice A49 t47.length c50] 22 (0, 0)), Nss rw_api_Event get_api_Event 32 (.slice A49 t47.length c50) t47, Nss rw_api_Event get_api_Event 32 (.slice A32 t30.length c33) t30, Row r_api_Event 32 (.slice A24 t22.length c25) t22]) ?_ ?_
  · skip
    refine Wp_loop (fun n ρ w' => ∃ (x1471 : Int), ferrymanlaw06_EventTells_l7 t47 n x1471 = some o1688 ∧ Agree ρ [(1, .slice A1 a1.length c1), (3, .slice A3 a3.length c3), (9, .slice A24 t22.length c25), (13, .slice A49 t47.length c50), (14, .int .i64 x1471), (69, .slice (some ⟨b164, 0, none⟩) 2 2), (70, .int .i64 2), (71, .int .i64 1)] ∧ Ext w w' ∧ St w' M139 F [Blk b164 (.cells #[.slice A32 t30.length c33, .slice A49 t47.length c50] 22 (0, 0)), Nss rw_api_Event get_api_Event 32 (.slice A49 t47.length c50) t47, Nss rw_api_Event get_api_Event 32 (.slice A32 t30.length c33) t30, Row r_api_Event 32 (.slice A24 t22.length c25) t22]) k ?_ ?_
    · skip
      exact ⟨(0 : Int), o1688h, ⟨rfl, rfl, rfl, rfl, rfl, rfl, rfl, rfl, trivial⟩, E, S.pick [0, 1, 2, 3] (by decide)⟩
    · intro n
      rintro ρ w1689 ⟨x1471, H, hρ, E, S⟩
      rw [agree_eta hρ]
      cases n with
      | zero => cases H
      | succ k =>
        rw [ferrymanlaw06_EventTells_l7.eq_2] at H
        refine Wp_seq (Wp_seq (Wp_region_lit (W_v (.int .i64 x1471) (x_move rfl) rfl (W_v (.slice A49 t47.length c50) (x_move rfl) rfl (W_v (.int .i64 (t47.length : Int)) (x_len_slice (n := t47.length) Try.underlying22 rfl) rfl (W_v (.bool (decide (x1471 < (t47.length : Int)))) (x_ibin rfl rfl rfl rfl) rfl (Wl_nil (tn ?_))))))))
        rcases iteS H with ⟨hb1690, H⟩ | ⟨hb1690, H⟩
        · refine Wp_cond_true (congrArg Value.bool hb1690) ?_
          refine Wp_skip (tn (Wp_seq ?_))
          refine Wp_block ?_
          refine Wp_seq (Wp_region_lit (W_v (.slice A49 t47.length c50) (x_move rfl) rfl (W_v (.int .i64 x1471) (x_move rfl) rfl ?_)))
          obtain ⟨⟨p1691, p1692⟩, H⟩ := chkS H
          obtain ⟨l1701, sh1702, So1703⟩ := S.nss_open 1 rfl
          have p1704 : x1471 < (l1701.length : Int) := by rw [sh1702.1]; exact p1692
          obtain ⟨b1693, o1694, cs1695, _, _, ee1700, hb1696, vs1697, hR1698, hc1699⟩ := SlW.at' (So1703.nst_read 1 rfl) p1691 p1704
          obtain ⟨v1705, hs1706, hq1707, _⟩ := led_api_Event.led hR1698
          obtain ⟨A1708, c1709, rfl, _⟩ := hs1706.form
          have hn1710 := sh1702.at p1691 p1692
          rw [hn1710] at hq1707
          refine W_v (.pointer (some ⟨b1693, o1694 + x1471.toNat * 7, none⟩)) (x_indexAddr Try.underlying22 ty32 (slA ee1700) rfl p1691 p1692) rfl (W_v (.pointer (some ⟨b1693, o1694 + x1471.toNat * 7 + 1, none⟩)) (x_fieldAddr (o := o1694 + x1471.toNat * 7) (off := 1) Try.underlying32 rfl ty3 rfl rfl) rfl ?_)
          refine W_nssstore S 1 rfl rfl ee1700 p1691 p1692 1 ty3 rfl rfl [.int .i64 (-7)] rfl rfl rfl rfl (fun x => (⟨x.What, (-7 : Int), x.Call, ⟨x.Answer.Err, x.Answer.Found, x.Answer.Value, x.Answer.Pairs⟩⟩ : api_Event)) (by rintro _ x _ ⟨_, h, rfl⟩; exact ⟨_, h, rfl⟩) (fun _ => rfl) ?_
          intro w1711 E' S
          replace E := E.trans E'
          replace S : St w1711 M139 F [_, _, _, _] := S
          refine Wl_nil (tn (Wp_seq (Wp_region_lit (W_v (.int .i64 0) (x_assign rfl) rfl (Wl_nil (tn ?_))))))
          obtain ⟨o1856, o1856h, o1856H⟩ := bindS H
          refine Wp_blockJ (fun ρ w' => () = o1856 ∧ Agree ρ [(1, .slice A1 a1.length c1), (3, .slice A3 a3.length c3), (9, .slice A24 t22.length c25), (13, .slice A49 t47.length c50), (14, .int .i64 x1471), (69, .slice (some ⟨b164, 0, none⟩) 2 2), (70, .int .i64 2), (71, .int .i64 1)] ∧ Ext w w' ∧ St w' M139 F [Blk b164 (.cells #[.slice A32 t30.length c33, .slice A49 t47.length c50] 22 (0, 0)), Nss rw_api_Event get_api_Event 32 (.slice A49 t47.length c50) t47, Nss rw_api_Event get_api_Event 32 (.slice A32 t30.length c33) t30, Row r_api_Event 32 (.slice A24 t22.length c25) t22]) ?_ ?_
          · skip
            refine Wp_loop (fun n ρ w' => ∃ (x1808 : Int), ferrymanlaw06_EventTells_l9 t47 x1471 n x1808 = some o1856 ∧ Agree ρ [(1, .slice A1 a1.length c1), (3, .slice A3 a3.length c3), (9, .slice A24 t22.length c25), (13, .slice A49 t47.length c50), (14, .int .i64 x1471), (15, .int .i64 x1808), (69, .slice (some ⟨b164, 0, none⟩) 2 2), (70, .int .i64 2), (71, .int .i64 1)] ∧ Ext w w' ∧ St w' M139 F [Blk b164 (.cells #[.slice A32 t30.length c33, .slice A49 t47.length c50] 22 (0, 0)), Nss rw_api_Event get_api_Event 32 (.slice A49 t47.length c50) t47, Nss rw_api_Event get_api_Event 32 (.slice A32 t30.length c33) t30, Row r_api_Event 32 (.slice A24 t22.length c25) t22]) k ?_ ?_
            · skip
              exact ⟨(0 : Int), o1856h, ⟨rfl, rfl, rfl, rfl, rfl, rfl, rfl, rfl, rfl, trivial⟩, E, S.pick [0, 1, 2, 3] (by decide)⟩
            · intro n
              rintro ρ w1857 ⟨x1808, H, hρ, E, S⟩
              rw [agree_eta hρ]
              cases n with
              | zero => cases H
              | succ k =>
                rw [ferrymanlaw06_EventTells_l9.eq_2] at H
                refine Wp_seq (Wp_seq (Wp_region_lit (W_v (.int .i64 x1808) (x_move rfl) rfl (W_v (.slice A49 t47.length c50) (x_move rfl) rfl (W_v (.int .i64 x1471) (x_move rfl) rfl ?_)))))
                obtain ⟨⟨p1858, p1859⟩, H⟩ := chkS H
                obtain ⟨l1868, sh1869, So1870⟩ := S.nss_open 1 rfl
                have p1871 : x1471 < (l1868.length : Int) := by rw [sh1869.1]; exact p1859
                obtain ⟨b1860, o1861, cs1862, _, _, ee1867, hb1863, vs1864, hR1865, hc1866⟩ := SlW.at' (So1870.nst_read 1 rfl) p1858 p1871
                obtain ⟨v1872, hs1873, hq1874, _⟩ := led_api_Event.led hR1865
                obtain ⟨A1875, c1876, rfl, _⟩ := hs1873.form
                have hn1877 := sh1869.at p1858 p1859
                rw [hn1877] at hq1874
                refine W_v (.pointer (some ⟨b1860, o1861 + x1471.toNat * 7, none⟩)) (x_indexAddr Try.underlying22 ty32 (slA ee1867) rfl p1858 p1859) rfl (W_v (.pointer (some ⟨b1860, o1861 + x1471.toNat * 7 + 3, none⟩)) (x_fieldAddr (o := o1861 + x1471.toNat * 7) (off := 3) Try.underlying32 rfl ty30 rfl rfl) rfl (W_v (.pointer (some ⟨b1860, o1861 + x1471.toNat * 7 + 3 + 3, none⟩)) (x_fieldAddr (o := o1861 + x1471.toNat * 7 + 3) (off := 3) Try.underlying30 rfl ty28 rfl rfl) rfl (W_v (.slice A1875 ((rd t47 x1471).Answer.Pairs).length c1876) (x_load (Hp.of_get hb1863) ty28 rfl (hc1866 6 _ hq1874)) rfl (W_v (.int .i64 (((rd t47 x1471).Answer.Pairs).length : Int)) (x_len_slice (n := ((rd t47 x1471).Answer.Pairs).length) Try.underlying28 rfl) rfl (W_v (.bool (decide (x1808 < (((rd t47 x1471).Answer.Pairs).length : Int)))) (x_ibin rfl rfl rfl rfl) rfl (Wl_nil (tn ?_)))))))
                rcases iteS H with ⟨hb1878, H⟩ | ⟨hb1878, H⟩
                · refine Wp_cond_true (congrArg Value.bool hb1878) ?_
                  refine Wp_skip (tn (Wp_seq ?_))
                  refine Wp_block ?_
                  refine Wp_region_lit (W_v (.slice A49 t47.length c50) (x_move rfl) rfl (W_v (.int .i64 x1471) (x_move rfl) rfl ?_))
                  obtain ⟨⟨p1879, p1880⟩, H⟩ := chkS H
                  obtain ⟨l1889, sh1890, So1891⟩ := S.nss_open 1 rfl
                  have p1892 : x1471 < (l1889.length : Int) := by rw [sh1890.1]; exact p1880
                  obtain ⟨b1881, o1882, cs1883, _, _, ee1888, hb1884, vs1885, hR1886, hc1887⟩ := SlW.at' (So1891.nst_read 1 rfl) p1879 p1892
                  obtain ⟨v1893, hs1894, hq1895, _⟩ := led_api_Event.led hR1886
                  obtain ⟨A1896, c1897, rfl, _⟩ := hs1894.form
                  have hn1898 := sh1890.at p1879 p1880
                  rw [hn1898] at hq1895
                  refine W_v (.pointer (some ⟨b1881, o1882 + x1471.toNat * 7, none⟩)) (x_indexAddr Try.underlying22 ty32 (slA ee1888) rfl p1879 p1880) rfl (W_v (.pointer (some ⟨b1881, o1882 + x1471.toNat * 7 + 3, none⟩)) (x_fieldAddr (o := o1882 + x1471.toNat * 7) (off := 3) Try.underlying32 rfl ty30 rfl rfl) rfl (W_v (.pointer (some ⟨b1881, o1882 + x1471.toNat * 7 + 3 + 3, none⟩)) (x_fieldAddr (o := o1882 + x1471.toNat * 7 + 3) (off := 3) Try.underlying30 rfl ty28 rfl rfl) rfl (W_v (.slice A1896 ((rd t47 x1471).Answer.Pairs).length c1897) (x_load (Hp.of_get hb1884) ty28 rfl (hc1887 6 _ hq1895)) rfl (W_v (.int .i64 x1808) (x_move rfl) rfl ?_))))
                  obtain ⟨⟨p1899, p1900⟩, H⟩ := chkS H
                  obtain ⟨b1901, o1902, _, _, _, ee1903, _⟩ := SlW.at' (i := x1808) hs1894.r p1899 (by rw [hn1898]; exact p1900)
                  refine W_v (.pointer (some ⟨b1901, o1902 + x1808.toNat * 2, none⟩)) (x_indexAddr Try.underlying28 ty43 (slA ee1903) rfl p1899 p1900) rfl (W_v (.pointer (some ⟨b1901, o1902 + x1808.toNat * 2 + 1, none⟩)) (x_fieldAddr (o := o1902 + x1808.toNat * 2) (off := 1) Try.underlying43 rfl ty9 rfl rfl) rfl ?_)
                  refine W_nssin So1891 1 rfl sh1890 rfl ee1888 p1879 p1892 led_api_Event txt_api_Pair hb1884 (hc1887 6 _ hq1895) (by decide) ee1903 p1899 p1900 1 rfl ty9 rfl ([115, 112, 111, 105, 108, 116] : Str) rfl ?_
                  intro w1904 E' S
                  replace E := E.trans E'
                  replace S : St w1904 M139 F [_, _, _, _] := S
                  refine Wl_nil (bn (tn (Wp_region_lit (W_v (.int .i64 x1808) (x_move rfl) rfl (W_v (.int .i64 (IntKind.i64.wrap (x1808 + (1 : Int)))) (x_ibin rfl rfl rfl rfl) rfl (W_v (.int .i64 (IntKind.i64.wrap (x1808 + (1 : Int)))) (x_assign rfl) rfl (Wl_nil (tn ?_))))))))
                  exact ⟨k, Nat.lt_succ_self k, ⟨(IntKind.i64.wrap (x1808 + (1 : Int))), H, ⟨rfl, rfl, rfl, rfl, rfl, rfl, rfl, rfl, rfl, trivial⟩, E, S.pick [0, 1, 2, 3] (by decide)⟩⟩
                refine Wp_cond_false (congrArg Value.bool hb1878) ?_
                refine Wp_exit ?_
                refine tx (tx (bsm (?_)))
                refine tn ?_
                exact ⟨Option.some.inj H, ⟨rfl, rfl, rfl, rfl, rfl, rfl, rfl, rfl, trivial⟩, E, S.pick [0, 1, 2, 3] (by decide)⟩
          rintro ρ w1905 ⟨rfl, hρ, E, S⟩
          rw [agree_eta hρ]
          have H := o1856H
          refine bn (tn (Wp_region_lit (W_v (.int .i64 x1471) (x_move rfl) rfl (W_v (.int .i64 (IntKind.i64.wrap (x1471 + (1 : Int)))) (x_ibin rfl rfl rfl rfl) rfl (W_v (.int .i64 (IntKind.i64.wrap (x1471 + (1 : Int)))) (x_assign rfl) rfl (Wl_nil (tn ?_)))))))
          exact ⟨k, Nat.lt_succ_self k, ⟨(IntKind.i64.wrap (x1471 + (1 : Int))), H, ⟨rfl, rfl, rfl, rfl, rfl, rfl, rfl, rfl, trivial⟩, E, S.pick [0, 1, 2, 3] (by decide)⟩⟩
        refine Wp_cond_false (congrArg Value.bool hb1690) ?_
        refine Wp_exit ?_
        refine tx (tx (bsm (?_)))
        refine tn ?_
        exact ⟨Option.some.inj H, ⟨rfl, rfl, rfl, rfl, rfl, rfl, trivial⟩, E, S.pick [0, 1, 2, 3] (by decide)⟩
  rintro ρ w1906 ⟨rfl, hρ, E, S⟩
  rw [agree_eta hρ]
  have H := o1688H
  refine bn (tn (Wp_region_lit (W_v (.int .i64 2) (x_ibin rfl rfl rfl rfl) rfl (W_v (.int .i64 2) (x_move rfl) rfl (Wl_nil (tn ?_))))))
  refine Rnds_succ ?_
  as_aux_lemma =>
  refine Wp_seq (Wp_region_lit (W_v (.bool false) (x_ibin rfl rfl rfl rfl) rfl (Wl_nil (tn (Wp_seq (Wp_cond_false rfl ?_))))))
  refine Wp_exit ?_
  refine tx (tx (bsm (?_)))
  refine tn (Wp_seq (Wp_region_lit (W_v (.slice A1 a1.length c1) (x_move rfl) rfl (W_v (.slice A24 t22.length c25) (x_move rfl) rfl ?_))))
  replace S : St w1906 M139 F [_, _, _, _] := S.pick [3, 0, 1, 2] (by decide)
  obtain ⟨t1907, ht1908, H⟩ := bindS H
  refine W_callN 1 fn18 (fun h9 hs9 hd9 => ferrymanref06_Same.con k _ A1 c1 a1 A24 c25 t22 t1907 (SlR.mono hr1 (Hp.le_union_left _ _)) (Sats.row hs9 hd9 0 rfl) ht1908) S rfl rfl (by rintro _ _ _ ⟨_, rfl⟩; exact flat_nil) ?_
  rintro _ w1909 _ Γ' E' S ⟨rfl, rfl⟩
  replace E := E.trans E'
  refine W_v (.bool t1907) (x_move rfl) rfl ?_
  obtain ⟨o1968, o1968h, o1968H⟩ := bindS H
  refine Wl_cutN 9 (fun ρ w' => ∃ (x1967 : Bool) (Mj : Hp), (x1967) = o1968 ∧ Agree ρ [(118, .bool x1967)] ∧ M139.le Mj ∧ Ext w w' ∧ St w' Mj F []) ?_ ?_
  · as_aux_lemma =>
      have H := o1968h
      have LE1969 := Hp.le_refl M139
      rcases iteS H with ⟨hb1966, H⟩ | ⟨hb1966, H⟩
      · skip
        refine W_yes (congrArg some hb1966) (W_v (.slice A1 a1.length c1) (x_move rfl) rfl (W_yes (congrArg some hb1966) (W_v (.slice A3 a3.length c3) (x_move rfl) rfl (W_yes (congrArg some hb1966) ?_))))
        obtain ⟨t1970, ht1971, H⟩ := bindS H
        refine W_callF fn25 (ferrymanlaw06_given.con k M139 A3 c3 a3 t1970 hr3 ht1971) S rfl rfl (by rintro _ _ _ ⟨_, _, _, rfl⟩; exact (flat_cons (flat_row (fun _ _ _ _ h => h)) flat_nil)) ?_
        rintro _ w1975 _ Γ' E' S ⟨A1972, c1973, rfl, rfl⟩
        replace E := E.trans E'
        refine W_yes (congrArg some hb1966) ?_
        obtain ⟨M1976, hM1977, hf1978, S⟩ := S.row_freeze 0 rfl
        replace HM := Hp.le_trans HM hM1977
        replace hM100 := Hp.le_trans hM100 hM1977
        replace hM140 := Hp.le_trans hM140 hM1977
        replace LE1969 := Hp.le_trans LE1969 hM1977
        replace hr1 := SlR.mono hr1 hM1977
        replace hr2 := SlR.mono hr2 hM1977
        replace hr3 := SlR.mono hr3 hM1977
        replace hf46 := SlR.mono hf46 hM1977
        obtain ⟨t1979, ht1980, H⟩ := bindS H
        refine W_call fn24 (event_Without.con k M1976 A1 c1 a1 A1972 c1973 t1970 t1979 hr1 hf1978 ht1980) (Γ1 := []) (Γ2 := [_, _, _, _]) S rfl rfl ?_
        rintro _ w1984 M1985 Γ' hM1986 E' S ⟨A1981, c1982, rfl, rfl⟩
        replace HM := Hp.le_trans HM hM1986
        replace hM100 := Hp.le_trans hM100 hM1986
        replace hM140 := Hp.le_trans hM140 hM1986
        replace LE1969 := Hp.le_trans LE1969 hM1986
        replace hr1 := SlR.mono hr1 hM1986
        replace hr2 := SlR.mono hr2 hM1986
        replace hr3 := SlR.mono hr3 hM1986
        replace hf46 := SlR.mono hf46 hM1986
        replace hf1978 := SlR.mono hf1978 hM1986
        replace E := E.trans E'
        refine W_yes (congrArg some hb1966) (W_v (.slice A1 a1.length c1) (x_move rfl) rfl (W_yes (congrArg some hb1966) (W_v (.slice A3 a3.length c3) (x_move rfl) rfl (W_yes (congrArg some hb1966) ?_))))
        obtain ⟨t1987, ht1988, H⟩ := bindS H
        refine W_call fn27 (ferrymanref06_Without.con k M1985 A1 c1 a1 A3 c3 a3 t1987 hr1 hr3 ht1988) (Γ1 := []) (Γ2 := [_, _, _, _, _]) S rfl rfl ?_
        rintro _ w1992 M1993 Γ' hM1994 E' S ⟨A1989, c1990, rfl, rfl⟩
        replace HM := Hp.le_trans HM hM1994
        replace hM100 := Hp.le_trans hM100 hM1994
        replace hM140 := Hp.le_trans hM140 hM1994
        replace LE1969 := Hp.le_trans LE1969 hM1994
        replace hr1 := SlR.mono hr1 hM1994
        replace hr2 := SlR.mono hr2 hM1994
        replace hr3 := SlR.mono hr3 hM1994
        replace hf46 := SlR.mono hf46 hM1994
        replace hf1978 := SlR.mono hf1978 hM1994
        replace E := E.trans E'
        refine W_yes (congrArg some hb1966) ?_
        replace S : St w1992 M1993 F [_, _, _, _, _, _] := S.pick [1, 0, 2, 3, 4, 5] (by decide)
        obtain ⟨t1995, ht1996, H⟩ := bindS H
        refine W_callN 2 fn18 (fun h9 hs9 hd9 => ferrymanref06_Same.con k _ A1981 c1982 t1979 A1989 c1990 t1987 t1995 (SlW.wk (r := r_api_Event) (Sats.nst hs9 hd9 0 rfl)) (Sats.row hs9 hd9 1 rfl) ht1996) S rfl rfl (by rintro _ _ _ ⟨_, rfl⟩; exact flat_nil) ?_
        rintro _ w1997 _ Γ' E' S ⟨rfl, rfl⟩
        replace E := E.trans E'
        refine W_v (.bool t1995) (x_pick (k := true) (congrArg Value.bool hb1966) rfl) rfl (Wl_nil ?_)
        exact ⟨t1995, M1993, Option.some.inj H, ⟨rfl, trivial⟩, LE1969, E, S.pick [] (by decide)⟩
      · skip
        refine W_no (skT hb1966) rfl (W_no (skT hb1966) rfl (W_no (skT hb1966) rfl (W_no (skT hb1966) rfl (W_no (skT hb1966) rfl (W_no (skT hb1966) rfl (W_no (skT hb1966) rfl (W_no (skT hb1966) rfl (W_v (.bool false) (x_pick (k := false) (congrArg Value.bool hb1966) rfl) rfl (Wl_nil ?_)))))))))
        exact ⟨false, M139, Option.some.inj H, ⟨rfl, trivial⟩, (Hp.le_refl M139), E, S.pick [] (by decide)⟩
  rintro ρ w1998 ⟨x1967, M1999, rfl, hρ, hM2000, E, S⟩
  rw [agree_eta hρ]
  replace HM := Hp.le_trans HM hM2000
  replace hM100 := Hp.le_trans hM100 hM2000
  replace hM140 := Hp.le_trans hM140 hM2000
  replace hr1 := SlR.mono hr1 hM2000
  replace hr2 := SlR.mono hr2 hM2000
  replace hr3 := SlR.mono hr3 hM2000
  replace hf46 := SlR.mono hf46 hM2000
  have H := o1968H
  refine W_v (.bool x1967) (x_move rfl) rfl ?_
  obtain ⟨o2009, o2009h, o2009H⟩ := bindS H
  refine Wl_cutN 2 (fun ρ w' => ∃ (x2008 : Bool), (x2008) = o2009 ∧ Agree ρ [(121, .bool x2008)] ∧ Ext w w' ∧ St w' M1999 F []) ?_ ?_
  · have H := o2009h
    rcases iteS H with ⟨hb2007, H⟩ | ⟨hb2007, H⟩
    · skip
      refine W_yes (congrArg some hb2007) ?_
      obtain ⟨t2010, ht2011, H⟩ := bindS H
      refine W_callF fn10 (ferrymanlaw06_works.con k M1999  t2010  ht2011) S rfl rfl (by rintro _ _ _ ⟨_, rfl⟩; exact flat_nil) ?_
      rintro _ w2012 _ Γ' E' S ⟨rfl, rfl⟩
      replace E := E.trans E'
      refine W_v (.bool t2010) (x_pick (k := true) (congrArg Value.bool hb2007) rfl) rfl (Wl_nil ?_)
      exact ⟨t2010, Option.some.inj H, ⟨rfl, trivial⟩, E, S.pick [] (by decide)⟩
    · skip
      refine W_no (skT hb2007) rfl (W_v (.bool false) (x_pick (k := false) (congrArg Value.bool hb2007) rfl) rfl (Wl_nil ?_))
      exact ⟨false, Option.some.inj H, ⟨rfl, trivial⟩, E, S.pick [] (by decide)⟩
  rintro ρ w2013 ⟨x2008, rfl, hρ, E, S⟩
  rw [agree_eta hρ]
  have H := o2009H
  refine W_v (.bool x2008) (x_assign rfl) rfl (Wl_nil (tn ?_))
  refine Wp_ret ?_
  obtain rfl := Option.some.inj H
  exact ⟨_, _, _, fun w1 e1 => run_resR (vs := [.bool x2008]) (FA.cons (rfl) (FA.nil)), HM, E, S.pick [] (by decide), ⟨rfl, rfl⟩⟩
end Go.Proofs.Ytninegjnkkcepaa
