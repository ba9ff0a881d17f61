import Derived.Test.YtkknoimjgifhlaaDoorGr1B
namespace Go.Proofs.YtkknoimjgifhlaaDoor
open Go
set_option linter.unusedVariables false
set_option linter.unusedSimpArgs false
def ferrymanlaw30_small (k : Nat)  : Option (api_Config) :=
  some (⟨(1 : Int), (2 : Int), (1 : Int), (2 : Int), (9 : Int), (2 : Int), (2 : Int), (3 : Int)⟩ : api_Config)
set_option maxHeartbeats 2000000 in
theorem ferrymanlaw30_small.mono {k : Nat}  : OLe (ferrymanlaw30_small k ) (ferrymanlaw30_small (k + 1) ) := by
  unfold ferrymanlaw30_small
  repeat' (first | with_reducible exact OLe.none | with_reducible exact OLe.some | with_reducible refine OLe.ite ?_ ?_ | with_reducible refine OLe.bind ?_ (fun _ => ?_) | refine OLe.bind ?_ (fun _ => ?_) | refine OLe.ite ?_ ?_ | refine OLe.elim (fun _ => ?_) (fun _ => ?_) | split)
set_option maxHeartbeats 1000000 in
set_option maxRecDepth 100000 in
theorem ferrymanlaw30_small.con (k : Nat) (M : Hp)  (r : api_Config)  (h : ferrymanlaw30_small k  = some r) : Con Tryd.prog 8 #[] M [] (fun v M' Γ' => v = .agg #[.int .i64 r.Tasks, .int .i64 r.Active, .int .i64 r.Keys, .int .i64 r.Depth, .int .i64 r.TS, .int .i64 r.KeyLen, .int .i64 r.ValLen, .int .i64 r.Fan] ∧ Γ' = []) := by
  refine con_of_wp Tryd.func8 rfl Tryd.ntmps8 Tryd.results8 rfl ?_
  intro w F rn S hrn
  have E := Ext.refl w
  have HM := Hp.le_refl M
  have H := h
  unfold ferrymanlaw30_small at H
  refine Wp_seq (Wp_region_lit ?_)
  refine W_alloc S #[.int .i64 0, .int .i64 0, .int .i64 0, .int .i64 0, .int .i64 0, .int .i64 0, .int .i64 0, .int .i64 0] ty23 rfl rfl ?_
  intro b1 w2 E' S
  replace E := E.trans E'
  refine Wl_nil (tn (Wp_seq (Wp_region_lit (W_v (.agg #[.int .i64 1, .int .i64 2, .int .i64 1, .int .i64 2, .int .i64 9, .int .i64 2, .int .i64 2, .int .i64 3]) (x_build2 (pl := [(0, 1), (1, 1), (2, 1), (3, 1), (4, 1), (5, 1), (6, 1), (7, 1)]) #[.int .i64 1, .int .i64 2, .int .i64 1, .int .i64 2, .int .i64 9, .int .i64 2, .int .i64 2, .int .i64 3] Tryd.underlying23 ty23 (by as_aux_lemma => kernel_rfl) rfl (by as_aux_lemma => kernel_rfl)) rfl ?_))))
  refine W_store S 0 rfl ty23 rfl rfl [.int .i64 1, .int .i64 2, .int .i64 1, .int .i64 2, .int .i64 9, .int .i64 2, .int .i64 2, .int .i64 3] rfl rfl rfl #[.int .i64 1, .int .i64 2, .int .i64 1, .int .i64 2, .int .i64 9, .int .i64 2, .int .i64 2, .int .i64 3] (by as_aux_lemma => kernel_rfl) rfl ?_
  intro w4 E' S
  replace E := E.trans E'
  refine Wl_nil (tn ?_)
  refine Wp_ret ?_
  obtain rfl := Option.some.inj H
  exact ⟨_, _, _, fun w1 e1 => run_resR (vs := [.agg #[.int .i64 1, .int .i64 2, .int .i64 1, .int .i64 2, .int .i64 9, .int .i64 2, .int .i64 2, .int .i64 3]]) (FA.cons (⟨_, rfl, run_loadVar_agg ty23 ((S.of_eq e1).blk 0 rfl) (sub_of_extract rfl) rfl (by decide)⟩) (FA.nil)), HM, E, S.pick [] (by decide), ⟨rfl, rfl⟩⟩
def text_May_l0 (a0 : api_Config) : Nat → Int → Option ((Bool) ⊕ (Unit))
  | 0, _ => none
  | k + 1, x21 => (if (decide (x21 < (8 : Int))) = true then (if 0 ≤ x21 ∧ x21 < (8 : Int) then (if ((decide ((rd ([(⟨(a0.Tasks), (1 : Int), (6 : Int)⟩ : text_bound), (⟨(a0.Active), (1 : Int), (8 : Int)⟩ : text_bound), (⟨(a0.Keys), (1 : Int), (64 : Int)⟩ : text_bound), (⟨(a0.Depth), (2 : Int), (8 : Int)⟩ : text_bound), (⟨(a0.TS), (1 : Int), (1048576 : Int)⟩ : text_bound), (⟨(a0.KeyLen), (1 : Int), (64 : Int)⟩ : text_bound), (⟨(a0.ValLen), (0 : Int), (256 : Int)⟩ : text_bound), (⟨(a0.Fan), (3 : Int), (8 : Int)⟩ : text_bound)] : List text_bound) x21).n < (rd ([(⟨(a0.Tasks), (1 : Int), (6 : Int)⟩ : text_bound), (⟨(a0.Active), (1 : Int), (8 : Int)⟩ : text_bound), (⟨(a0.Keys), (1 : Int), (64 : Int)⟩ : text_bound), (⟨(a0.Depth), (2 : Int), (8 : Int)⟩ : text_bound), (⟨(a0.TS), (1 : Int), (1048576 : Int)⟩ : text_bound), (⟨(a0.KeyLen), (1 : Int), (64 : Int)⟩ : text_bound), (⟨(a0.ValLen), (0 : Int), (256 : Int)⟩ : text_bound), (⟨(a0.Fan), (3 : Int), (8 : Int)⟩ : text_bound)] : List text_bound) x21).low)) || (decide ((rd ([(⟨(a0.Tasks), (1 : Int), (6 : Int)⟩ : text_bound), (⟨(a0.Active), (1 : Int), (8 : Int)⟩ : text_bound), (⟨(a0.Keys), (1 : Int), (64 : Int)⟩ : text_bound), (⟨(a0.Depth), (2 : Int), (8 : Int)⟩ : text_bound), (⟨(a0.TS), (1 : Int), (1048576 : Int)⟩ : text_bound), (⟨(a0.KeyLen), (1 : Int), (64 : Int)⟩ : text_bound), (⟨(a0.ValLen), (0 : Int), (256 : Int)⟩ : text_bound), (⟨(a0.Fan), (3 : Int), (8 : Int)⟩ : text_bound)] : List text_bound) x21).n > (rd ([(⟨(a0.Tasks), (1 : Int), (6 : Int)⟩ : text_bound), (⟨(a0.Active), (1 : Int), (8 : Int)⟩ : text_bound), (⟨(a0.Keys), (1 : Int), (64 : Int)⟩ : text_bound), (⟨(a0.Depth), (2 : Int), (8 : Int)⟩ : text_bound), (⟨(a0.TS), (1 : Int), (1048576 : Int)⟩ : text_bound), (⟨(a0.KeyLen), (1 : Int), (64 : Int)⟩ : text_bound), (⟨(a0.ValLen), (0 : Int), (256 : Int)⟩ : text_bound), (⟨(a0.Fan), (3 : Int), (8 : Int)⟩ : text_bound)] : List text_bound) x21).high))) = true then some (.inl false) else text_May_l0 a0 k (IntKind.i64.wrap (x21 + (1 : Int)))) else none) else some (.inr ()))
set_option maxHeartbeats 2000000 in
theorem text_May_l0.mono {a0 : api_Config} : ∀ {kl : Nat} {x0}, OLe (text_May_l0 a0 kl x0) (text_May_l0 a0 (kl + 1) x0) := by
  intro kl
  induction kl with
  | zero => intros; exact OLe.none
  | succ kl ih =>
    intros
    rw [text_May_l0.eq_2, text_May_l0.eq_2]
    repeat' (first | with_reducible exact OLe.none | with_reducible exact OLe.some | with_reducible refine OLe.ite ?_ ?_ | with_reducible refine OLe.bind ?_ (fun _ => ?_) | exact ih | refine OLe.bind ?_ (fun _ => ?_) | refine OLe.ite ?_ ?_ | refine OLe.elim (fun _ => ?_) (fun _ => ?_) | split)
def text_May (k : Nat) (a0 : api_Config) : Option (Bool) :=
  (Option.bind (text_May_l0 a0 k (0 : Int)) (fun o31o => Sum.elim (fun r' => some r') (fun _ => some true) o31o))
set_option maxHeartbeats 2000000 in
theorem text_May.mono {k : Nat} {a0 : api_Config} : OLe (text_May k a0) (text_May (k + 1) a0) := by
  unfold text_May
  repeat' (first | with_reducible exact OLe.none | with_reducible exact OLe.some | with_reducible refine OLe.ite ?_ ?_ | with_reducible refine OLe.bind ?_ (fun _ => ?_) | with_reducible exact text_May_l0.mono | refine OLe.bind ?_ (fun _ => ?_) | refine OLe.ite ?_ ?_ | refine OLe.elim (fun _ => ?_) (fun _ => ?_) | split)
set_option maxHeartbeats 1000000 in
set_option maxRecDepth 100000 in
theorem text_May.con (k : Nat) (M : Hp) (a0 : api_Config) (r : Bool)  (h : text_May k a0 = some r) : Con Tryd.prog 21 #[.agg #[.int .i64 a0.Tasks, .int .i64 a0.Active, .int .i64 a0.Keys, .int .i64 a0.Depth, .int .i64 a0.TS, .int .i64 a0.KeyLen, .int .i64 a0.ValLen, .int .i64 a0.Fan]] M [] (fun v M' Γ' => v = .bool r ∧ Γ' = []) := by
  refine con_of_wp Tryd.func21 rfl Tryd.ntmps21 Tryd.results21 rfl ?_
  intro w F rn S hrn
  have E := Ext.refl w
  have HM := Hp.le_refl M
  have H := h
  unfold text_May at H
  refine Wp_seq (Wp_region_lit ?_)
  refine W_box S #[.int .i64 a0.Tasks, .int .i64 a0.Active, .int .i64 a0.Keys, .int .i64 a0.Depth, .int .i64 a0.TS, .int .i64 a0.KeyLen, .int .i64 a0.ValLen, .int .i64 a0.Fan] rfl rfl rfl ?_
  intro b1 w2 E' S
  replace E := E.trans E'
  refine W_v (.bool false) (x_assign rfl) rfl (Wl_nil (tn (Wp_seq (Wp_seq (Wp_region_lit (W_v (pt b1 0) (x_fieldAddr (o := 0) (off := 0) Tryd.underlying23 rfl ty3 rfl rfl) rfl (W_v (.int .i64 a0.Tasks) (x_load (S.blk 0 rfl) ty3 rfl rfl) rfl (W_v (.agg #[.int .i64 (a0.Tasks), .int .i64 1, .int .i64 6]) (x_build2 (pl := [(0, 1), (1, 1), (2, 1)]) #[.int .i64 (a0.Tasks), .int .i64 1, .int .i64 6] Tryd.underlying90 ty90 (by as_aux_lemma => kernel_rfl) rfl (by as_aux_lemma => kernel_rfl)) rfl (W_v (pt b1 1) (x_fieldAddr (o := 0) (off := 1) Tryd.underlying23 rfl ty3 rfl rfl) rfl (W_v (.int .i64 a0.Active) (x_load (S.blk 0 rfl) ty3 rfl rfl) rfl (W_v (.agg #[.int .i64 (a0.Active), .int .i64 1, .int .i64 8]) (x_build2 (pl := [(0, 1), (1, 1), (2, 1)]) #[.int .i64 (a0.Active), .int .i64 1, .int .i64 8] Tryd.underlying90 ty90 (by as_aux_lemma => kernel_rfl) rfl (by as_aux_lemma => kernel_rfl)) rfl (W_v (pt b1 2) (x_fieldAddr (o := 0) (off := 2) Tryd.underlying23 rfl ty3 rfl rfl) rfl (W_v (.int .i64 a0.Keys) (x_load (S.blk 0 rfl) ty3 rfl rfl) rfl (W_v (.agg #[.int .i64 (a0.Keys), .int .i64 1, .int .i64 64]) (x_build2 (pl := [(0, 1), (1, 1), (2, 1)]) #[.int .i64 (a0.Keys), .int .i64 1, .int .i64 64] Tryd.underlying90 ty90 (by as_aux_lemma => kernel_rfl) rfl (by as_aux_lemma => kernel_rfl)) rfl (W_v (pt b1 3) (x_fieldAddr (o := 0) (off := 3) Tryd.underlying23 rfl ty3 rfl rfl) rfl ?_)))))))))))))))
  refine W_v (.int .i64 a0.Depth) (x_load (S.blk 0 rfl) ty3 rfl rfl) rfl (W_v (.agg #[.int .i64 (a0.Depth), .int .i64 2, .int .i64 8]) (x_build2 (pl := [(0, 1), (1, 1), (2, 1)]) #[.int .i64 (a0.Depth), .int .i64 2, .int .i64 8] Tryd.underlying90 ty90 (by as_aux_lemma => kernel_rfl) rfl (by as_aux_lemma => kernel_rfl)) rfl (W_v (pt b1 4) (x_fieldAddr (o := 0) (off := 4) Tryd.underlying23 rfl ty3 rfl rfl) rfl (W_v (.int .i64 a0.TS) (x_load (S.blk 0 rfl) ty3 rfl rfl) rfl (W_v (.agg #[.int .i64 (a0.TS), .int .i64 1, .int .i64 1048576]) (x_build2 (pl := [(0, 1), (1, 1), (2, 1)]) #[.int .i64 (a0.TS), .int .i64 1, .int .i64 1048576] Tryd.underlying90 ty90 (by as_aux_lemma => kernel_rfl) rfl (by as_aux_lemma => kernel_rfl)) rfl (W_v (pt b1 5) (x_fieldAddr (o := 0) (off := 5) Tryd.underlying23 rfl ty3 rfl rfl) rfl (W_v (.int .i64 a0.KeyLen) (x_load (S.blk 0 rfl) ty3 rfl rfl) rfl (W_v (.agg #[.int .i64 (a0.KeyLen), .int .i64 1, .int .i64 64]) (x_build2 (pl := [(0, 1), (1, 1), (2, 1)]) #[.int .i64 (a0.KeyLen), .int .i64 1, .int .i64 64] Tryd.underlying90 ty90 (by as_aux_lemma => kernel_rfl) rfl (by as_aux_lemma => kernel_rfl)) rfl (W_v (pt b1 6) (x_fieldAddr (o := 0) (off := 6) Tryd.underlying23 rfl ty3 rfl rfl) rfl (W_v (.int .i64 a0.ValLen) (x_load (S.blk 0 rfl) ty3 rfl rfl) rfl (W_v (.agg #[.int .i64 (a0.ValLen), .int .i64 0, .int .i64 256]) (x_build2 (pl := [(0, 1), (1, 1), (2, 1)]) #[.int .i64 (a0.ValLen), .int .i64 0, .int .i64 256] Tryd.underlying90 ty90 (by as_aux_lemma => kernel_rfl) rfl (by as_aux_lemma => kernel_rfl)) rfl (W_v (pt b1 7) (x_fieldAddr (o := 0) (off := 7) Tryd.underlying23 rfl ty3 rfl rfl) rfl (W_v (.int .i64 a0.Fan) (x_load (S.blk 0 rfl) ty3 rfl rfl) rfl (W_v (.agg #[.int .i64 (a0.Fan), .int .i64 3, .int .i64 8]) (x_build2 (pl := [(0, 1), (1, 1), (2, 1)]) #[.int .i64 (a0.Fan), .int .i64 3, .int .i64 8] Tryd.underlying90 ty90 (by as_aux_lemma => kernel_rfl) rfl (by as_aux_lemma => kernel_rfl)) rfl (W_v (.agg #[.int .i64 (a0.Tasks), .int .i64 1, .int .i64 6, .int .i64 (a0.Active), .int .i64 1, .int .i64 8, .int .i64 (a0.Keys), .int .i64 1, .int .i64 64, .int .i64 (a0.Depth), .int .i64 2, .int .i64 8, .int .i64 (a0.TS), .int .i64 1, .int .i64 1048576, .int .i64 (a0.KeyLen), .int .i64 1, .int .i64 64, .int .i64 (a0.ValLen), .int .i64 0, .int .i64 256, .int .i64 (a0.Fan), .int .i64 3, .int .i64 8]) (x_buildArr #[.int .i64 (a0.Tasks), .int .i64 1, .int .i64 6, .int .i64 (a0.Active), .int .i64 1, .int .i64 8, .int .i64 (a0.Keys), .int .i64 1, .int .i64 64, .int .i64 (a0.Depth), .int .i64 2, .int .i64 8, .int .i64 (a0.TS), .int .i64 1, .int .i64 1048576, .int .i64 (a0.KeyLen), .int .i64 1, .int .i64 64, .int .i64 (a0.ValLen), .int .i64 0, .int .i64 256, .int .i64 (a0.Fan), .int .i64 3, .int .i64 8] Tryd.underlying91 ty91 ty90 rfl (by kernel_rfl)) rfl (W_v (.int .i64 0) (x_move rfl) rfl ?_)))))))))))))))
  refine Wl_nil (tn ?_)
  obtain ⟨o31, o31h, o31H⟩ := bindS H
  refine Wp_blockJ (fun ρ w' => .inr () = o31 ∧ Agree ρ [] ∧ Ext w w' ∧ St w' M F []) ?_ ?_
  · skip
    refine Wp_loop (fun n ρ w' => ∃ (x21 : Int), text_May_l0 a0 n x21 = some o31 ∧ Agree ρ [(29, .agg #[.int .i64 (a0.Tasks), .int .i64 1, .int .i64 6, .int .i64 (a0.Active), .int .i64 1, .int .i64 8, .int .i64 (a0.Keys), .int .i64 1, .int .i64 64, .int .i64 (a0.Depth), .int .i64 2, .int .i64 8, .int .i64 (a0.TS), .int .i64 1, .int .i64 1048576, .int .i64 (a0.KeyLen), .int .i64 1, .int .i64 64, .int .i64 (a0.ValLen), .int .i64 0, .int .i64 256, .int .i64 (a0.Fan), .int .i64 3, .int .i64 8]), (30, .int .i64 x21)] ∧ Ext w w' ∧ St w' M F []) k ?_ ?_
    · skip
      exact ⟨(0 : Int), o31h, ⟨rfl, rfl, trivial⟩, E, S.pick [] (by decide)⟩
    · intro n
      rintro ρ w32 ⟨x21, H, hρ, E, S⟩
      rw [agree_eta hρ]
      cases n with
      | zero => cases H
      | succ k =>
        rw [text_May_l0.eq_2] at H
        refine Wp_seq (Wp_region_lit (W_v (.bool (decide (x21 < (8 : Int)))) (x_ibin rfl rfl rfl rfl) rfl (Wl_nil (tn (Wp_seq ?_)))))
        rcases iteS H with ⟨hb33, H⟩ | ⟨hb33, H⟩
        · refine Wp_cond_true (congrArg Value.bool hb33) ?_
          refine Wp_skip (tn (Wp_seq ?_))
          refine Wp_block ?_
          refine Wp_seq (Wp_region_lit ?_)
          obtain ⟨⟨p34, p35⟩, H⟩ := chkS H
          refine W_v (.agg #[.int .i64 ((rd ([(⟨(a0.Tasks), (1 : Int), (6 : Int)⟩ : text_bound), (⟨(a0.Active), (1 : Int), (8 : Int)⟩ : text_bound), (⟨(a0.Keys), (1 : Int), (64 : Int)⟩ : text_bound), (⟨(a0.Depth), (2 : Int), (8 : Int)⟩ : text_bound), (⟨(a0.TS), (1 : Int), (1048576 : Int)⟩ : text_bound), (⟨(a0.KeyLen), (1 : Int), (64 : Int)⟩ : text_bound), (⟨(a0.ValLen), (0 : Int), (256 : Int)⟩ : text_bound), (⟨(a0.Fan), (3 : Int), (8 : Int)⟩ : text_bound)] : List text_bound) x21).n), .int .i64 ((rd ([(⟨(a0.Tasks), (1 : Int), (6 : Int)⟩ : text_bound), (⟨(a0.Active), (1 : Int), (8 : Int)⟩ : text_bound), (⟨(a0.Keys), (1 : Int), (64 : Int)⟩ : text_bound), (⟨(a0.Depth), (2 : Int), (8 : Int)⟩ : text_bound), (⟨(a0.TS), (1 : Int), (1048576 : Int)⟩ : text_bound), (⟨(a0.KeyLen), (1 : Int), (64 : Int)⟩ : text_bound), (⟨(a0.ValLen), (0 : Int), (256 : Int)⟩ : text_bound), (⟨(a0.Fan), (3 : Int), (8 : Int)⟩ : text_bound)] : List text_bound) x21).low), .int .i64 ((rd ([(⟨(a0.Tasks), (1 : Int), (6 : Int)⟩ : text_bound), (⟨(a0.Active), (1 : Int), (8 : Int)⟩ : text_bound), (⟨(a0.Keys), (1 : Int), (64 : Int)⟩ : text_bound), (⟨(a0.Depth), (2 : Int), (8 : Int)⟩ : text_bound), (⟨(a0.TS), (1 : Int), (1048576 : Int)⟩ : text_bound), (⟨(a0.KeyLen), (1 : Int), (64 : Int)⟩ : text_bound), (⟨(a0.ValLen), (0 : Int), (256 : Int)⟩ : text_bound), (⟨(a0.Fan), (3 : Int), (8 : Int)⟩ : text_bound)] : List text_bound) x21).high)]) (x_indexAgg Tryd.underlying91 ty90 rfl rfl p34 p35 (by obtain ⟨q, hq⟩ := Int.eq_ofNat_of_zero_le p34; have h9 : q = 0 ∨ q = 1 ∨ q = 2 ∨ q = 3 ∨ q = 4 ∨ q = 5 ∨ q = 6 ∨ q = 7 := (by omega); rcases h9 with rfl | rfl | rfl | rfl | rfl | rfl | rfl | rfl <;> (rw [hq] <;> rfl))) rfl ?_
          refine W_alloc S #[.int .i64 0, .int .i64 0, .int .i64 0] ty90 rfl rfl ?_
          intro b36 w37 E' S
          replace E := E.trans E'
          refine W_store S 0 rfl ty90 rfl rfl [.int .i64 ((rd ([(⟨(a0.Tasks), (1 : Int), (6 : Int)⟩ : text_bound), (⟨(a0.Active), (1 : Int), (8 : Int)⟩ : text_bound), (⟨(a0.Keys), (1 : Int), (64 : Int)⟩ : text_bound), (⟨(a0.Depth), (2 : Int), (8 : Int)⟩ : text_bound), (⟨(a0.TS), (1 : Int), (1048576 : Int)⟩ : text_bound), (⟨(a0.KeyLen), (1 : Int), (64 : Int)⟩ : text_bound), (⟨(a0.ValLen), (0 : Int), (256 : Int)⟩ : text_bound), (⟨(a0.Fan), (3 : Int), (8 : Int)⟩ : text_bound)] : List text_bound) x21).n), .int .i64 ((rd ([(⟨(a0.Tasks), (1 : Int), (6 : Int)⟩ : text_bound), (⟨(a0.Active), (1 : Int), (8 : Int)⟩ : text_bound), (⟨(a0.Keys), (1 : Int), (64 : Int)⟩ : text_bound), (⟨(a0.Depth), (2 : Int), (8 : Int)⟩ : text_bound), (⟨(a0.TS), (1 : Int), (1048576 : Int)⟩ : text_bound), (⟨(a0.KeyLen), (1 : Int), (64 : Int)⟩ : text_bound), (⟨(a0.ValLen), (0 : Int), (256 : Int)⟩ : text_bound), (⟨(a0.Fan), (3 : Int), (8 : Int)⟩ : text_bound)] : List text_bound) x21).low), .int .i64 ((rd ([(⟨(a0.Tasks), (1 : Int), (6 : Int)⟩ : text_bound), (⟨(a0.Active), (1 : Int), (8 : Int)⟩ : text_bound), (⟨(a0.Keys), (1 : Int), (64 : Int)⟩ : text_bound), (⟨(a0.Depth), (2 : Int), (8 : Int)⟩ : text_bound), (⟨(a0.TS), (1 : Int), (1048576 : Int)⟩ : text_bound), (⟨(a0.KeyLen), (1 : Int), (64 : Int)⟩ : text_bound), (⟨(a0.ValLen), (0 : Int), (256 : Int)⟩ : text_bound), (⟨(a0.Fan), (3 : Int), (8 : Int)⟩ : text_bound)] : List text_bound) x21).high)] rfl rfl rfl #[.int .i64 ((rd ([(⟨(a0.Tasks), (1 : Int), (6 : Int)⟩ : text_bound), (⟨(a0.Active), (1 : Int), (8 : Int)⟩ : text_bound), (⟨(a0.Keys), (1 : Int), (64 : Int)⟩ : text_bound), (⟨(a0.Depth), (2 : Int), (8 : Int)⟩ : text_bound), (⟨(a0.TS), (1 : Int), (1048576 : Int)⟩ : text_bound), (⟨(a0.KeyLen), (1 : Int), (64 : Int)⟩ : text_bound), (⟨(a0.ValLen), (0 : Int), (256 : Int)⟩ : text_bound), (⟨(a0.Fan), (3 : Int), (8 : Int)⟩ : text_bound)] : List text_bound) x21).n), .int .i64 ((rd ([(⟨(a0.Tasks), (1 : Int), (6 : Int)⟩ : text_bound), (⟨(a0.Active), (1 : Int), (8 : Int)⟩ : text_bound), (⟨(a0.Keys), (1 : Int), (64 : Int)⟩ : text_bound), (⟨(a0.Depth), (2 : Int), (8 : Int)⟩ : text_bound), (⟨(a0.TS), (1 : Int), (1048576 : Int)⟩ : text_bound), (⟨(a0.KeyLen), (1 : Int), (64 : Int)⟩ : text_bound), (⟨(a0.ValLen), (0 : Int), (256 : Int)⟩ : text_bound), (⟨(a0.Fan), (3 : Int), (8 : Int)⟩ : text_bound)] : List text_bound) x21).low), .int .i64 ((rd ([(⟨(a0.Tasks), (1 : Int), (6 : Int)⟩ : text_bound), (⟨(a0.Active), (1 : Int), (8 : Int)⟩ : text_bound), (⟨(a0.Keys), (1 : Int), (64 : Int)⟩ : text_bound), (⟨(a0.Depth), (2 : Int), (8 : Int)⟩ : text_bound), (⟨(a0.TS), (1 : Int), (1048576 : Int)⟩ : text_bound), (⟨(a0.KeyLen), (1 : Int), (64 : Int)⟩ : text_bound), (⟨(a0.ValLen), (0 : Int), (256 : Int)⟩ : text_bound), (⟨(a0.Fan), (3 : Int), (8 : Int)⟩ : text_bound)] : List text_bound) x21).high)] rfl rfl ?_
          intro w39 E' S
          replace E := E.trans E'
          refine Wl_nil (tn (Wp_seq (Wp_region_lit (W_v (pt b36 0) (x_fieldAddr (o := 0) (off := 0) Tryd.underlying90 rfl ty3 rfl rfl) rfl (W_v (.int .i64 ((rd ([(⟨(a0.Tasks), (1 : Int), (6 : Int)⟩ : text_bound), (⟨(a0.Active), (1 : Int), (8 : Int)⟩ : text_bound), (⟨(a0.Keys), (1 : Int), (64 : Int)⟩ : text_bound), (⟨(a0.Depth), (2 : Int), (8 : Int)⟩ : text_bound), (⟨(a0.TS), (1 : Int), (1048576 : Int)⟩ : text_bound), (⟨(a0.KeyLen), (1 : Int), (64 : Int)⟩ : text_bound), (⟨(a0.ValLen), (0 : Int), (256 : Int)⟩ : text_bound), (⟨(a0.Fan), (3 : Int), (8 : Int)⟩ : text_bound)] : List text_bound) x21).n)) (x_load (S.blk 0 rfl) ty3 rfl rfl) rfl (W_v (pt b36 1) (x_fieldAddr (o := 0) (off := 1) Tryd.underlying90 rfl ty3 rfl rfl) rfl (W_v (.int .i64 ((rd ([(⟨(a0.Tasks), (1 : Int), (6 : Int)⟩ : text_bound), (⟨(a0.Active), (1 : Int), (8 : Int)⟩ : text_bound), (⟨(a0.Keys), (1 : Int), (64 : Int)⟩ : text_bound), (⟨(a0.Depth), (2 : Int), (8 : Int)⟩ : text_bound), (⟨(a0.TS), (1 : Int), (1048576 : Int)⟩ : text_bound), (⟨(a0.KeyLen), (1 : Int), (64 : Int)⟩ : text_bound), (⟨(a0.ValLen), (0 : Int), (256 : Int)⟩ : text_bound), (⟨(a0.Fan), (3 : Int), (8 : Int)⟩ : text_bound)] : List text_bound) x21).low)) (x_load (S.blk 0 rfl) ty3 rfl rfl) rfl (W_v (.bool (decide ((rd ([(⟨(a0.Tasks), (1 : Int), (6 : Int)⟩ : text_bound), (⟨(a0.Active), (1 : Int), (8 : Int)⟩ : text_bound), (⟨(a0.Keys), (1 : Int), (64 : Int)⟩ : text_bound), (⟨(a0.Depth), (2 : Int), (8 : Int)⟩ : text_bound), (⟨(a0.TS), (1 : Int), (1048576 : Int)⟩ : text_bound), (⟨(a0.KeyLen), (1 : Int), (64 : Int)⟩ : text_bound), (⟨(a0.ValLen), (0 : Int), (256 : Int)⟩ : text_bound), (⟨(a0.Fan), (3 : Int), (8 : Int)⟩ : text_bound)] : List text_bound) x21).n < (rd ([(⟨(a0.Tasks), (1 : Int), (6 : Int)⟩ : text_bound), (⟨(a0.Active), (1 : Int), (8 : Int)⟩ : text_bound), (⟨(a0.Keys), (1 : Int), (64 : Int)⟩ : text_bound), (⟨(a0.Depth), (2 : Int), (8 : Int)⟩ : text_bound), (⟨(a0.TS), (1 : Int), (1048576 : Int)⟩ : text_bound), (⟨(a0.KeyLen), (1 : Int), (64 : Int)⟩ : text_bound), (⟨(a0.ValLen), (0 : Int), (256 : Int)⟩ : text_bound), (⟨(a0.Fan), (3 : Int), (8 : Int)⟩ : text_bound)] : List text_bound) x21).low))) (x_ibin rfl rfl rfl rfl) rfl (W_v (.bool (decide ((rd ([(⟨(a0.Tasks), (1 : Int), (6 : Int)⟩ : text_bound), (⟨(a0.Active), (1 : Int), (8 : Int)⟩ : text_bound), (⟨(a0.Keys), (1 : Int), (64 : Int)⟩ : text_bound), (⟨(a0.Depth), (2 : Int), (8 : Int)⟩ : text_bound), (⟨(a0.TS), (1 : Int), (1048576 : Int)⟩ : text_bound), (⟨(a0.KeyLen), (1 : Int), (64 : Int)⟩ : text_bound), (⟨(a0.ValLen), (0 : Int), (256 : Int)⟩ : text_bound), (⟨(a0.Fan), (3 : Int), (8 : Int)⟩ : text_bound)] : List text_bound) x21).n < (rd ([(⟨(a0.Tasks), (1 : Int), (6 : Int)⟩ : text_bound), (⟨(a0.Active), (1 : Int), (8 : Int)⟩ : text_bound), (⟨(a0.Keys), (1 : Int), (64 : Int)⟩ : text_bound), (⟨(a0.Depth), (2 : Int), (8 : Int)⟩ : text_bound), (⟨(a0.TS), (1 : Int), (1048576 : Int)⟩ : text_bound), (⟨(a0.KeyLen), (1 : Int), (64 : Int)⟩ : text_bound), (⟨(a0.ValLen), (0 : Int), (256 : Int)⟩ : text_bound), (⟨(a0.Fan), (3 : Int), (8 : Int)⟩ : text_bound)] : List text_bound) x21).low))) (x_move rfl) rfl ?_)))))))))
          refine Wl_cutN 6 (fun ρ w' => Agree ρ [(29, .agg #[.int .i64 (a0.Tasks), .int .i64 1, .int .i64 6, .int .i64 (a0.Active), .int .i64 1, .int .i64 8, .int .i64 (a0.Keys), .int .i64 1, .int .i64 64, .int .i64 (a0.Depth), .int .i64 2, .int .i64 8, .int .i64 (a0.TS), .int .i64 1, .int .i64 1048576, .int .i64 (a0.KeyLen), .int .i64 1, .int .i64 64, .int .i64 (a0.ValLen), .int .i64 0, .int .i64 256, .int .i64 (a0.Fan), .int .i64 3, .int .i64 8]), (30, .int .i64 x21), (44, .bool ((decide ((rd ([(⟨(a0.Tasks), (1 : Int), (6 : Int)⟩ : text_bound), (⟨(a0.Active), (1 : Int), (8 : Int)⟩ : text_bound), (⟨(a0.Keys), (1 : Int), (64 : Int)⟩ : text_bound), (⟨(a0.Depth), (2 : Int), (8 : Int)⟩ : text_bound), (⟨(a0.TS), (1 : Int), (1048576 : Int)⟩ : text_bound), (⟨(a0.KeyLen), (1 : Int), (64 : Int)⟩ : text_bound), (⟨(a0.ValLen), (0 : Int), (256 : Int)⟩ : text_bound), (⟨(a0.Fan), (3 : Int), (8 : Int)⟩ : text_bound)] : List text_bound) x21).n < (rd ([(⟨(a0.Tasks), (1 : Int), (6 : Int)⟩ : text_bound), (⟨(a0.Active), (1 : Int), (8 : Int)⟩ : text_bound), (⟨(a0.Keys), (1 : Int), (64 : Int)⟩ : text_bound), (⟨(a0.Depth), (2 : Int), (8 : Int)⟩ : text_bound), (⟨(a0.TS), (1 : Int), (1048576 : Int)⟩ : text_bound), (⟨(a0.KeyLen), (1 : Int), (64 : Int)⟩ : text_bound), (⟨(a0.ValLen), (0 : Int), (256 : Int)⟩ : text_bound), (⟨(a0.Fan), (3 : Int), (8 : Int)⟩ : text_bound)] : List text_bound) x21).low)) || (decide ((rd ([(⟨(a0.Tasks), (1 : Int), (6 : Int)⟩ : text_bound), (⟨(a0.Active), (1 : Int), (8 : Int)⟩ : text_bound), (⟨(a0.Keys), (1 : Int), (64 : Int)⟩ : text_bound), (⟨(a0.Depth), (2 : Int), (8 : Int)⟩ : text_bound), (⟨(a0.TS), (1 : Int), (1048576 : Int)⟩ : text_bound), (⟨(a0.KeyLen), (1 : Int), (64 : Int)⟩ : text_bound), (⟨(a0.ValLen), (0 : Int), (256 : Int)⟩ : text_bound), (⟨(a0.Fan), (3 : Int), (8 : Int)⟩ : text_bound)] : List text_bound) x21).n > (rd ([(⟨(a0.Tasks), (1 : Int), (6 : Int)⟩ : text_bound), (⟨(a0.Active), (1 : Int), (8 : Int)⟩ : text_bound), (⟨(a0.Keys), (1 : Int), (64 : Int)⟩ : text_bound), (⟨(a0.Depth), (2 : Int), (8 : Int)⟩ : text_bound), (⟨(a0.TS), (1 : Int), (1048576 : Int)⟩ : text_bound), (⟨(a0.KeyLen), (1 : Int), (64 : Int)⟩ : text_bound), (⟨(a0.ValLen), (0 : Int), (256 : Int)⟩ : text_bound), (⟨(a0.Fan), (3 : Int), (8 : Int)⟩ : text_bound)] : List text_bound) x21).high))))] ∧ w39 = w') ?_ ?_
          · rcases boolCases (decide ((rd ([(⟨(a0.Tasks), (1 : Int), (6 : Int)⟩ : text_bound), (⟨(a0.Active), (1 : Int), (8 : Int)⟩ : text_bound), (⟨(a0.Keys), (1 : Int), (64 : Int)⟩ : text_bound), (⟨(a0.Depth), (2 : Int), (8 : Int)⟩ : text_bound), (⟨(a0.TS), (1 : Int), (1048576 : Int)⟩ : text_bound), (⟨(a0.KeyLen), (1 : Int), (64 : Int)⟩ : text_bound), (⟨(a0.ValLen), (0 : Int), (256 : Int)⟩ : text_bound), (⟨(a0.Fan), (3 : Int), (8 : Int)⟩ : text_bound)] : List text_bound) x21).n < (rd ([(⟨(a0.Tasks), (1 : Int), (6 : Int)⟩ : text_bound), (⟨(a0.Active), (1 : Int), (8 : Int)⟩ : text_bound), (⟨(a0.Keys), (1 : Int), (64 : Int)⟩ : text_bound), (⟨(a0.Depth), (2 : Int), (8 : Int)⟩ : text_bound), (⟨(a0.TS), (1 : Int), (1048576 : Int)⟩ : text_bound), (⟨(a0.KeyLen), (1 : Int), (64 : Int)⟩ : text_bound), (⟨(a0.ValLen), (0 : Int), (256 : Int)⟩ : text_bound), (⟨(a0.Fan), (3 : Int), (8 : Int)⟩ : text_bound)] : List text_bound) x21).low)) with hb40 | hb40
            · skip
              refine W_yes (congrArg some hb40) (W_v (pt b36 0) (x_fieldAddr (o := 0) (off := 0) Tryd.underlying90 rfl ty3 rfl rfl) rfl (W_yes (congrArg some hb40) (W_v (.int .i64 ((rd ([(⟨(a0.Tasks), (1 : Int), (6 : Int)⟩ : text_bound), (⟨(a0.Active), (1 : Int), (8 : Int)⟩ : text_bound), (⟨(a0.Keys), (1 : Int), (64 : Int)⟩ : text_bound), (⟨(a0.Depth), (2 : Int), (8 : Int)⟩ : text_bound), (⟨(a0.TS), (1 : Int), (1048576 : Int)⟩ : text_bound), (⟨(a0.KeyLen), (1 : Int), (64 : Int)⟩ : text_bound), (⟨(a0.ValLen), (0 : Int), (256 : Int)⟩ : text_bound), (⟨(a0.Fan), (3 : Int), (8 : Int)⟩ : text_bound)] : List text_bound) x21).n)) (x_load (S.blk 0 rfl) ty3 rfl rfl) rfl (W_yes (congrArg some hb40) (W_v (pt b36 2) (x_fieldAddr (o := 0) (off := 2) Tryd.underlying90 rfl ty3 rfl rfl) rfl (W_yes (congrArg some hb40) (W_v (.int .i64 ((rd ([(⟨(a0.Tasks), (1 : Int), (6 : Int)⟩ : text_bound), (⟨(a0.Active), (1 : Int), (8 : Int)⟩ : text_bound), (⟨(a0.Keys), (1 : Int), (64 : Int)⟩ : text_bound), (⟨(a0.Depth), (2 : Int), (8 : Int)⟩ : text_bound), (⟨(a0.TS), (1 : Int), (1048576 : Int)⟩ : text_bound), (⟨(a0.KeyLen), (1 : Int), (64 : Int)⟩ : text_bound), (⟨(a0.ValLen), (0 : Int), (256 : Int)⟩ : text_bound), (⟨(a0.Fan), (3 : Int), (8 : Int)⟩ : text_bound)] : List text_bound) x21).high)) (x_load (S.blk 0 rfl) ty3 rfl rfl) rfl (W_yes (congrArg some hb40) (W_v (.bool (decide ((rd ([(⟨(a0.Tasks), (1 : Int), (6 : Int)⟩ : text_bound), (⟨(a0.Active), (1 : Int), (8 : Int)⟩ : text_bound), (⟨(a0.Keys), (1 : Int), (64 : Int)⟩ : text_bound), (⟨(a0.Depth), (2 : Int), (8 : Int)⟩ : text_bound), (⟨(a0.TS), (1 : Int), (1048576 : Int)⟩ : text_bound), (⟨(a0.KeyLen), (1 : Int), (64 : Int)⟩ : text_bound), (⟨(a0.ValLen), (0 : Int), (256 : Int)⟩ : text_bound), (⟨(a0.Fan), (3 : Int), (8 : Int)⟩ : text_bound)] : List text_bound) x21).n > (rd ([(⟨(a0.Tasks), (1 : Int), (6 : Int)⟩ : text_bound), (⟨(a0.Active), (1 : Int), (8 : Int)⟩ : text_bound), (⟨(a0.Keys), (1 : Int), (64 : Int)⟩ : text_bound), (⟨(a0.Depth), (2 : Int), (8 : Int)⟩ : text_bound), (⟨(a0.TS), (1 : Int), (1048576 : Int)⟩ : text_bound), (⟨(a0.KeyLen), (1 : Int), (64 : Int)⟩ : text_bound), (⟨(a0.ValLen), (0 : Int), (256 : Int)⟩ : text_bound), (⟨(a0.Fan), (3 : Int), (8 : Int)⟩ : text_bound)] : List text_bound) x21).high))) (x_ibin rfl rfl rfl rfl) rfl (W_v (.bool (decide ((rd ([(⟨(a0.Tasks), (1 : Int), (6 : Int)⟩ : text_bound), (⟨(a0.Active), (1 : Int), (8 : Int)⟩ : text_bound), (⟨(a0.Keys), (1 : Int), (64 : Int)⟩ : text_bound), (⟨(a0.Depth), (2 : Int), (8 : Int)⟩ : text_bound), (⟨(a0.TS), (1 : Int), (1048576 : Int)⟩ : text_bound), (⟨(a0.KeyLen), (1 : Int), (64 : Int)⟩ : text_bound), (⟨(a0.ValLen), (0 : Int), (256 : Int)⟩ : text_bound), (⟨(a0.Fan), (3 : Int), (8 : Int)⟩ : text_bound)] : List text_bound) x21).n > (rd ([(⟨(a0.Tasks), (1 : Int), (6 : Int)⟩ : text_bound), (⟨(a0.Active), (1 : Int), (8 : Int)⟩ : text_bound), (⟨(a0.Keys), (1 : Int), (64 : Int)⟩ : text_bound), (⟨(a0.Depth), (2 : Int), (8 : Int)⟩ : text_bound), (⟨(a0.TS), (1 : Int), (1048576 : Int)⟩ : text_bound), (⟨(a0.KeyLen), (1 : Int), (64 : Int)⟩ : text_bound), (⟨(a0.ValLen), (0 : Int), (256 : Int)⟩ : text_bound), (⟨(a0.Fan), (3 : Int), (8 : Int)⟩ : text_bound)] : List text_bound) x21).high))) (x_pick (k := false) (congrArg Value.bool hb40) rfl) rfl (Wl_nil ?_)))))))))))
              exact ⟨⟨rfl, rfl, (by first | rfl | (rw [hb40]; rfl) | (simp only [hb40]; rfl)), trivial⟩, rfl⟩
            · skip
              refine W_no (skF hb40) rfl (W_no (skF hb40) rfl (W_no (skF hb40) rfl (W_no (skF hb40) rfl (W_no (skF hb40) rfl (W_v (.bool true) (x_pick (k := true) (congrArg Value.bool hb40) rfl) rfl (Wl_nil ?_))))))
              exact ⟨⟨rfl, rfl, (by first | rfl | (rw [hb40]; rfl) | (simp only [hb40]; rfl)), trivial⟩, rfl⟩
          rintro ρ _ ⟨hρ, rfl⟩
          rw [agree_eta hρ]
          refine Wl_nil (tn ?_)
          rcases iteS H with ⟨hb41, H⟩ | ⟨hb41, H⟩
          · refine Wp_cond_true (congrArg Value.bool hb41) ?_
            refine Wp_seq (Wp_region_lit (W_v (.bool false) (x_assign rfl) rfl (Wl_nil (tn ?_))))
            refine Wp_ret ?_
            refine br (tr (tr (br (tr (tr (?_))))))
            obtain rfl := Option.some.inj H
            have H := o31H
            replace H := elimL H
            obtain rfl := Option.some.inj H
            exact ⟨_, _, _, fun w1 e1 => run_resR (vs := [.bool false]) (FA.cons (rfl) (FA.nil)), HM, E, S.pick [] (by decide), ⟨rfl, rfl⟩⟩
          refine Wp_cond_false (congrArg Value.bool hb41) (Wp_skip (bn (tn (Wp_region_lit (W_v (.int .i64 (IntKind.i64.wrap (x21 + (1 : Int)))) (x_ibin rfl rfl rfl rfl) rfl (W_v (.int .i64 (IntKind.i64.wrap (x21 + (1 : Int)))) (x_move rfl) rfl (Wl_nil (tn ?_))))))))
          exact ⟨k, Nat.lt_succ_self k, ⟨(IntKind.i64.wrap (x21 + (1 : Int))), H, ⟨rfl, rfl, trivial⟩, E, S.pick [] (by decide)⟩⟩
        refine Wp_cond_false (congrArg Value.bool hb33) ?_
        refine Wp_exit ?_
        refine tx (tx (bsm (?_)))
        refine tn ?_
        exact ⟨Option.some.inj H, trivial, E, S.pick [] (by decide)⟩
  rintro ρ w42 ⟨rfl, hρ, E, S⟩
  rw [agree_eta hρ]
  have H := o31H
  replace H := elimR H
  refine tn ?_
  as_aux_lemma =>
  refine Wp_seq (Wp_region_lit (W_v (.bool true) (x_assign rfl) rfl (Wl_nil (tn ?_))))
  refine Wp_ret ?_
  obtain rfl := Option.some.inj H
  exact ⟨_, _, _, fun w1 e1 => run_resR (vs := [.bool true]) (FA.cons (rfl) (FA.nil)), HM, E, S.pick [] (by decide), ⟨rfl, rfl⟩⟩
def room_Bound_l0 (a0 : api_Config) : Nat → Int → Int → Int → Option ((Int × Int))
  | 0, _, _, _ => none
  | k + 1, x25, x26, x27 => (if (decide (x27 < (2 : Int))) = true then (if 0 ≤ x27 ∧ x27 < (2 : Int) then room_Bound_l0 a0 k (IntKind.i64.wrap (x25 + (IntKind.i64.wrap ((rd ([(⟨(1 : Int), (IntKind.i64.wrap (a0.Keys * a0.Depth)), (a0.Keys)⟩ : St62), (⟨(a0.Tasks), (imax (IntKind.i64.wrap (a0.Keys * a0.Depth)) (IntKind.i64.wrap (a0.Depth + (1 : Int)))), (IntKind.i64.wrap (a0.Keys * a0.Depth))⟩ : St62)] : List St62) x27).many * (rd ([(⟨(1 : Int), (IntKind.i64.wrap (a0.Keys * a0.Depth)), (a0.Keys)⟩ : St62), (⟨(a0.Tasks), (imax (IntKind.i64.wrap (a0.Keys * a0.Depth)) (IntKind.i64.wrap (a0.Depth + (1 : Int)))), (IntKind.i64.wrap (a0.Keys * a0.Depth))⟩ : St62)] : List St62) x27).slots)))) (IntKind.i64.wrap (x26 + (IntKind.i64.wrap ((rd ([(⟨(1 : Int), (IntKind.i64.wrap (a0.Keys * a0.Depth)), (a0.Keys)⟩ : St62), (⟨(a0.Tasks), (imax (IntKind.i64.wrap (a0.Keys * a0.Depth)) (IntKind.i64.wrap (a0.Depth + (1 : Int)))), (IntKind.i64.wrap (a0.Keys * a0.Depth))⟩ : St62)] : List St62) x27).many * (rd ([(⟨(1 : Int), (IntKind.i64.wrap (a0.Keys * a0.Depth)), (a0.Keys)⟩ : St62), (⟨(a0.Tasks), (imax (IntKind.i64.wrap (a0.Keys * a0.Depth)) (IntKind.i64.wrap (a0.Depth + (1 : Int)))), (IntKind.i64.wrap (a0.Keys * a0.Depth))⟩ : St62)] : List St62) x27).anchor)))) (IntKind.i64.wrap (x27 + (1 : Int))) else none) else some (x25, x26))
set_option maxHeartbeats 2000000 in
theorem room_Bound_l0.mono {a0 : api_Config} : ∀ {kl : Nat} {x0 x1 x2}, OLe (room_Bound_l0 a0 kl x0 x1 x2) (room_Bound_l0 a0 (kl + 1) x0 x1 x2) := by
  intro kl
  induction kl with
  | zero => intros; exact OLe.none
  | succ kl ih =>
    intros
    rw [room_Bound_l0.eq_2, room_Bound_l0.eq_2]
    repeat' (first | with_reducible exact OLe.none | with_reducible exact OLe.some | with_reducible refine OLe.ite ?_ ?_ | with_reducible refine OLe.bind ?_ (fun _ => ?_) | exact ih | refine OLe.bind ?_ (fun _ => ?_) | refine OLe.ite ?_ ?_ | refine OLe.elim (fun _ => ?_) (fun _ => ?_) | split)
def room_Bound (k : Nat) (a0 : api_Config) : Option (Int × Int) :=
  (Option.bind (text_May k a0) (fun t4 => (if (!t4) = true then some ((0 : Int), (0 : Int)) else (Option.bind (room_Bound_l0 a0 k (0 : Int) (0 : Int) (0 : Int)) (fun ⟨x35, x36⟩ => some (x35, x36))))))
set_option maxHeartbeats 2000000 in
theorem room_Bound.mono {k : Nat} {a0 : api_Config} : OLe (room_Bound k a0) (room_Bound (k + 1) a0) := by
  unfold room_Bound
  repeat' (first | with_reducible exact OLe.none | with_reducible exact OLe.some | with_reducible refine OLe.ite ?_ ?_ | with_reducible refine OLe.bind ?_ (fun _ => ?_) | with_reducible exact room_Bound_l0.mono | with_reducible exact text_May.mono | refine OLe.bind ?_ (fun _ => ?_) | refine OLe.ite ?_ ?_ | refine OLe.elim (fun _ => ?_) (fun _ => ?_) | split)
set_option maxHeartbeats 1000000 in
set_option maxRecDepth 100000 in
theorem room_Bound.con (k : Nat) (M : Hp) (a0 : api_Config) (r : Int × Int)  (h : room_Bound k a0 = some r) : Con Tryd.prog 9 #[.agg #[.int .i64 a0.Tasks, .int .i64 a0.Active, .int .i64 a0.Keys, .int .i64 a0.Depth, .int .i64 a0.TS, .int .i64 a0.KeyLen, .int .i64 a0.ValLen, .int .i64 a0.Fan]] M [] (fun v M' Γ' => v = .tuple #[.int .i64 r.1, .int .i64 r.2] ∧ Γ' = []) := by
  refine con_of_wp Tryd.func9 rfl Tryd.ntmps9 Tryd.results9 rfl ?_
  intro w F rn S hrn
  have E := Ext.refl w
  have HM := Hp.le_refl M
  have H := h
  unfold room_Bound at H
  refine Wp_seq (Wp_region_lit ?_)
  refine W_box S #[.int .i64 a0.Tasks, .int .i64 a0.Active, .int .i64 a0.Keys, .int .i64 a0.Depth, .int .i64 a0.TS, .int .i64 a0.KeyLen, .int .i64 a0.ValLen, .int .i64 a0.Fan] rfl rfl rfl ?_
  intro b1 w2 E' S
  replace E := E.trans E'
  refine W_v (.int .i64 0) (x_assign rfl) rfl (W_v (.int .i64 0) (x_assign rfl) rfl (Wl_nil (tn (Wp_seq (Wp_seq (Wp_region_lit (W_v (.agg #[.int .i64 a0.Tasks, .int .i64 a0.Active, .int .i64 a0.Keys, .int .i64 a0.Depth, .int .i64 a0.TS, .int .i64 a0.KeyLen, .int .i64 a0.ValLen, .int .i64 a0.Fan]) (x_loadA (S.blk 0 rfl) ty23 rfl (sub_of_extract rfl) rfl rfl) rfl ?_)))))))
  obtain ⟨t4, ht5, H⟩ := bindS H
  refine W_callF fn21 (text_May.con k M a0 t4  ht5) S rfl rfl (by rintro _ _ _ ⟨_, rfl⟩; exact flat_nil) ?_
  rintro _ w6 _ Γ' E' S ⟨rfl, rfl⟩
  replace E := E.trans E'
  refine W_v (.bool (!t4)) (x_not (b := t4) rfl) rfl (Wl_nil (tn ?_))
  rcases iteS H with ⟨hb7, H⟩ | ⟨hb7, H⟩
  · refine Wp_cond_true (congrArg Value.bool hb7) ?_
    refine Wp_seq (Wp_region_lit (W_v (.int .i64 0) (x_assign rfl) rfl (W_v (.int .i64 0) (x_assign rfl) rfl (Wl_nil (tn ?_)))))
    refine Wp_ret ?_
    refine tr (?_)
    obtain rfl := Option.some.inj H
    exact ⟨_, _, _, fun w1 e1 => run_resR (vs := [.int .i64 0, .int .i64 0]) (FA.cons (rfl) (FA.cons (rfl) (FA.nil))), HM, E, S.pick [] (by decide), ⟨rfl, rfl⟩⟩
  refine Wp_cond_false (congrArg Value.bool hb7) (Wp_skip (tn (Wp_seq (Wp_region_lit (W_v (pt b1 2) (x_fieldAddr (o := 0) (off := 2) Tryd.underlying23 rfl ty3 rfl rfl) rfl (W_v (.int .i64 a0.Keys) (x_load (S.blk 0 rfl) ty3 rfl rfl) rfl (W_v (pt b1 3) (x_fieldAddr (o := 0) (off := 3) Tryd.underlying23 rfl ty3 rfl rfl) rfl (W_v (.int .i64 a0.Depth) (x_load (S.blk 0 rfl) ty3 rfl rfl) rfl (W_v (.int .i64 (IntKind.i64.wrap (a0.Keys * a0.Depth))) (x_ibin rfl rfl rfl rfl) rfl (W_v (.int .i64 (IntKind.i64.wrap (a0.Keys * a0.Depth))) (x_assign rfl) rfl (Wl_nil (tn ?_))))))))))))
  as_aux_lemma =>
  refine Wp_seq (Wp_seq (Wp_region_lit (W_v (.int .i64 (IntKind.i64.wrap (a0.Keys * a0.Depth))) (x_move rfl) rfl (W_v (pt b1 2) (x_fieldAddr (o := 0) (off := 2) Tryd.underlying23 rfl ty3 rfl rfl) rfl (W_v (.int .i64 a0.Keys) (x_load (S.blk 0 rfl) ty3 rfl rfl) rfl (W_v (.agg #[.int .i64 1, .int .i64 (IntKind.i64.wrap (a0.Keys * a0.Depth)), .int .i64 (a0.Keys)]) (x_build2 (pl := [(0, 1), (1, 1), (2, 1)]) #[.int .i64 1, .int .i64 (IntKind.i64.wrap (a0.Keys * a0.Depth)), .int .i64 (a0.Keys)] Tryd.underlying62 ty62 (by as_aux_lemma => kernel_rfl) rfl (by as_aux_lemma => kernel_rfl)) rfl (W_v (pt b1 0) (x_fieldAddr (o := 0) (off := 0) Tryd.underlying23 rfl ty3 rfl rfl) rfl (W_v (.int .i64 a0.Tasks) (x_load (S.blk 0 rfl) ty3 rfl rfl) rfl (W_v (.int .i64 (IntKind.i64.wrap (a0.Keys * a0.Depth))) (x_move rfl) rfl (W_v (pt b1 3) (x_fieldAddr (o := 0) (off := 3) Tryd.underlying23 rfl ty3 rfl rfl) rfl (W_v (.int .i64 a0.Depth) (x_load (S.blk 0 rfl) ty3 rfl rfl) rfl (W_v (.int .i64 (IntKind.i64.wrap (a0.Depth + (1 : Int)))) (x_ibin rfl rfl rfl rfl) rfl (W_v (.int .i64 (imax (IntKind.i64.wrap (a0.Keys * a0.Depth)) (IntKind.i64.wrap (a0.Depth + (1 : Int))))) (x_max2 rfl rfl) rfl (W_v (.int .i64 (IntKind.i64.wrap (a0.Keys * a0.Depth))) (x_move rfl) rfl (W_v (.agg #[.int .i64 (a0.Tasks), .int .i64 (imax (IntKind.i64.wrap (a0.Keys * a0.Depth)) (IntKind.i64.wrap (a0.Depth + (1 : Int)))), .int .i64 (IntKind.i64.wrap (a0.Keys * a0.Depth))]) (x_build2 (pl := [(0, 1), (1, 1), (2, 1)]) #[.int .i64 (a0.Tasks), .int .i64 (imax (IntKind.i64.wrap (a0.Keys * a0.Depth)) (IntKind.i64.wrap (a0.Depth + (1 : Int)))), .int .i64 (IntKind.i64.wrap (a0.Keys * a0.Depth))] Tryd.underlying62 ty62 (by as_aux_lemma => kernel_rfl) rfl (by as_aux_lemma => kernel_rfl)) rfl ?_)))))))))))))))
  refine W_v (.agg #[.int .i64 1, .int .i64 (IntKind.i64.wrap (a0.Keys * a0.Depth)), .int .i64 (a0.Keys), .int .i64 (a0.Tasks), .int .i64 (imax (IntKind.i64.wrap (a0.Keys * a0.Depth)) (IntKind.i64.wrap (a0.Depth + (1 : Int)))), .int .i64 (IntKind.i64.wrap (a0.Keys * a0.Depth))]) (x_buildArr #[.int .i64 1, .int .i64 (IntKind.i64.wrap (a0.Keys * a0.Depth)), .int .i64 (a0.Keys), .int .i64 (a0.Tasks), .int .i64 (imax (IntKind.i64.wrap (a0.Keys * a0.Depth)) (IntKind.i64.wrap (a0.Depth + (1 : Int)))), .int .i64 (IntKind.i64.wrap (a0.Keys * a0.Depth))] Tryd.underlying63 ty63 ty62 rfl (by kernel_rfl)) rfl (W_v (.int .i64 0) (x_move rfl) rfl (Wl_nil (tn ?_)))
  obtain ⟨o37, o37h, o37H⟩ := bindS H
  refine Wp_blockJ (fun ρ w' => ∃ (x35 : Int) (x36 : Int), (x35, x36) = o37 ∧ Agree ρ [(2, .int .i64 x35), (3, .int .i64 x36)] ∧ Ext w w' ∧ St w' M F []) ?_ ?_
  · skip
    refine Wp_loop (fun n ρ w' => ∃ (x25 : Int) (x26 : Int) (x27 : Int), room_Bound_l0 a0 n x25 x26 x27 = some o37 ∧ Agree ρ [(2, .int .i64 x25), (3, .int .i64 x26), (28, .agg #[.int .i64 1, .int .i64 (IntKind.i64.wrap (a0.Keys * a0.Depth)), .int .i64 (a0.Keys), .int .i64 (a0.Tasks), .int .i64 (imax (IntKind.i64.wrap (a0.Keys * a0.Depth)) (IntKind.i64.wrap (a0.Depth + (1 : Int)))), .int .i64 (IntKind.i64.wrap (a0.Keys * a0.Depth))]), (29, .int .i64 x27)] ∧ Ext w w' ∧ St w' M F []) k ?_ ?_
    · skip
      exact ⟨(0 : Int), (0 : Int), (0 : Int), o37h, ⟨rfl, rfl, rfl, rfl, trivial⟩, E, S.pick [] (by decide)⟩
    · intro n
      rintro ρ w38 ⟨x25, x26, x27, H, hρ, E, S⟩
      rw [agree_eta hρ]
      cases n with
      | zero => cases H
      | succ k =>
        rw [room_Bound_l0.eq_2] at H
        refine Wp_seq (Wp_region_lit (W_v (.bool (decide (x27 < (2 : Int)))) (x_ibin rfl rfl rfl rfl) rfl (Wl_nil (tn (Wp_seq ?_)))))
        rcases iteS H with ⟨hb39, H⟩ | ⟨hb39, H⟩
        · refine Wp_cond_true (congrArg Value.bool hb39) ?_
          refine Wp_skip (tn (Wp_seq ?_))
          refine Wp_block ?_
          refine Wp_seq (Wp_region_lit ?_)
          obtain ⟨⟨p40, p41⟩, H⟩ := chkS H
          refine W_v (.agg #[.int .i64 ((rd ([(⟨(1 : Int), (IntKind.i64.wrap (a0.Keys * a0.Depth)), (a0.Keys)⟩ : St62), (⟨(a0.Tasks), (imax (IntKind.i64.wrap (a0.Keys * a0.Depth)) (IntKind.i64.wrap (a0.Depth + (1 : Int)))), (IntKind.i64.wrap (a0.Keys * a0.Depth))⟩ : St62)] : List St62) x27).many), .int .i64 ((rd ([(⟨(1 : Int), (IntKind.i64.wrap (a0.Keys * a0.Depth)), (a0.Keys)⟩ : St62), (⟨(a0.Tasks), (imax (IntKind.i64.wrap (a0.Keys * a0.Depth)) (IntKind.i64.wrap (a0.Depth + (1 : Int)))), (IntKind.i64.wrap (a0.Keys * a0.Depth))⟩ : St62)] : List St62) x27).slots), .int .i64 ((rd ([(⟨(1 : Int), (IntKind.i64.wrap (a0.Keys * a0.Depth)), (a0.Keys)⟩ : St62), (⟨(a0.Tasks), (imax (IntKind.i64.wrap (a0.Keys * a0.Depth)) (IntKind.i64.wrap (a0.Depth + (1 : Int)))), (IntKind.i64.wrap (a0.Keys * a0.Depth))⟩ : St62)] : List St62) x27).anchor)]) (x_indexAgg Tryd.underlying63 ty62 rfl rfl p40 p41 (by obtain ⟨q, hq⟩ := Int.eq_ofNat_of_zero_le p40; have h9 : q = 0 ∨ q = 1 := (by omega); rcases h9 with rfl | rfl <;> (rw [hq] <;> rfl))) rfl ?_
          refine W_alloc S #[.int .i64 0, .int .i64 0, .int .i64 0] ty62 rfl rfl ?_
          intro b42 w43 E' S
          replace E := E.trans E'
          refine W_store S 0 rfl ty62 rfl rfl [.int .i64 ((rd ([(⟨(1 : Int), (IntKind.i64.wrap (a0.Keys * a0.Depth)), (a0.Keys)⟩ : St62), (⟨(a0.Tasks), (imax (IntKind.i64.wrap (a0.Keys * a0.Depth)) (IntKind.i64.wrap (a0.Depth + (1 : Int)))), (IntKind.i64.wrap (a0.Keys * a0.Depth))⟩ : St62)] : List St62) x27).many), .int .i64 ((rd ([(⟨(1 : Int), (IntKind.i64.wrap (a0.Keys * a0.Depth)), (a0.Keys)⟩ : St62), (⟨(a0.Tasks), (imax (IntKind.i64.wrap (a0.Keys * a0.Depth)) (IntKind.i64.wrap (a0.Depth + (1 : Int)))), (IntKind.i64.wrap (a0.Keys * a0.Depth))⟩ : St62)] : List St62) x27).slots), .int .i64 ((rd ([(⟨(1 : Int), (IntKind.i64.wrap (a0.Keys * a0.Depth)), (a0.Keys)⟩ : St62), (⟨(a0.Tasks), (imax (IntKind.i64.wrap (a0.Keys * a0.Depth)) (IntKind.i64.wrap (a0.Depth + (1 : Int)))), (IntKind.i64.wrap (a0.Keys * a0.Depth))⟩ : St62)] : List St62) x27).anchor)] rfl rfl rfl #[.int .i64 ((rd ([(⟨(1 : Int), (IntKind.i64.wrap (a0.Keys * a0.Depth)), (a0.Keys)⟩ : St62), (⟨(a0.Tasks), (imax (IntKind.i64.wrap (a0.Keys * a0.Depth)) (IntKind.i64.wrap (a0.Depth + (1 : Int)))), (IntKind.i64.wrap (a0.Keys * a0.Depth))⟩ : St62)] : List St62) x27).many), .int .i64 ((rd ([(⟨(1 : Int), (IntKind.i64.wrap (a0.Keys * a0.Depth)), (a0.Keys)⟩ : St62), (⟨(a0.Tasks), (imax (IntKind.i64.wrap (a0.Keys * a0.Depth)) (IntKind.i64.wrap (a0.Depth + (1 : Int)))), (IntKind.i64.wrap (a0.Keys * a0.Depth))⟩ : St62)] : List St62) x27).slots), .int .i64 ((rd ([(⟨(1 : Int), (IntKind.i64.wrap (a0.Keys * a0.Depth)), (a0.Keys)⟩ : St62), (⟨(a0.Tasks), (imax (IntKind.i64.wrap (a0.Keys * a0.Depth)) (IntKind.i64.wrap (a0.Depth + (1 : Int)))), (IntKind.i64.wrap (a0.Keys * a0.Depth))⟩ : St62)] : List St62) x27).anchor)] rfl rfl ?_
          intro w45 E' S
          replace E := E.trans E'
          refine Wl_nil (tn (Wp_seq (Wp_region_lit (W_v (.int .i64 x25) (x_move rfl) rfl (W_v (pt b42 0) (x_fieldAddr (o := 0) (off := 0) Tryd.underlying62 rfl ty3 rfl rfl) rfl (W_v (.int .i64 ((rd ([(⟨(1 : Int), (IntKind.i64.wrap (a0.Keys * a0.Depth)), (a0.Keys)⟩ : St62), (⟨(a0.Tasks), (imax (IntKind.i64.wrap (a0.Keys * a0.Depth)) (IntKind.i64.wrap (a0.Depth + (1 : Int)))), (IntKind.i64.wrap (a0.Keys * a0.Depth))⟩ : St62)] : List St62) x27).many)) (x_load (S.blk 0 rfl) ty3 rfl rfl) rfl (W_v (pt b42 1) (x_fieldAddr (o := 0) (off := 1) Tryd.underlying62 rfl ty3 rfl rfl) rfl (W_v (.int .i64 ((rd ([(⟨(1 : Int), (IntKind.i64.wrap (a0.Keys * a0.Depth)), (a0.Keys)⟩ : St62), (⟨(a0.Tasks), (imax (IntKind.i64.wrap (a0.Keys * a0.Depth)) (IntKind.i64.wrap (a0.Depth + (1 : Int)))), (IntKind.i64.wrap (a0.Keys * a0.Depth))⟩ : St62)] : List St62) x27).slots)) (x_load (S.blk 0 rfl) ty3 rfl rfl) rfl (W_v (.int .i64 (IntKind.i64.wrap ((rd ([(⟨(1 : Int), (IntKind.i64.wrap (a0.Keys * a0.Depth)), (a0.Keys)⟩ : St62), (⟨(a0.Tasks), (imax (IntKind.i64.wrap (a0.Keys * a0.Depth)) (IntKind.i64.wrap (a0.Depth + (1 : Int)))), (IntKind.i64.wrap (a0.Keys * a0.Depth))⟩ : St62)] : List St62) x27).many * (rd ([(⟨(1 : Int), (IntKind.i64.wrap (a0.Keys * a0.Depth)), (a0.Keys)⟩ : St62), (⟨(a0.Tasks), (imax (IntKind.i64.wrap (a0.Keys * a0.Depth)) (IntKind.i64.wrap (a0.Depth + (1 : Int)))), (IntKind.i64.wrap (a0.Keys * a0.Depth))⟩ : St62)] : List St62) x27).slots))) (x_ibin rfl rfl rfl rfl) rfl (W_v (.int .i64 (IntKind.i64.wrap (x25 + (IntKind.i64.wrap ((rd ([(⟨(1 : Int), (IntKind.i64.wrap (a0.Keys * a0.Depth)), (a0.Keys)⟩ : St62), (⟨(a0.Tasks), (imax (IntKind.i64.wrap (a0.Keys * a0.Depth)) (IntKind.i64.wrap (a0.Depth + (1 : Int)))), (IntKind.i64.wrap (a0.Keys * a0.Depth))⟩ : St62)] : List St62) x27).many * (rd ([(⟨(1 : Int), (IntKind.i64.wrap (a0.Keys * a0.Depth)), (a0.Keys)⟩ : St62), (⟨(a0.Tasks), (imax (IntKind.i64.wrap (a0.Keys * a0.Depth)) (IntKind.i64.wrap (a0.Depth + (1 : Int)))), (IntKind.i64.wrap (a0.Keys * a0.Depth))⟩ : St62)] : List St62) x27).slots))))) (x_ibin rfl rfl rfl rfl) rfl (W_v (.int .i64 (IntKind.i64.wrap (x25 + (IntKind.i64.wrap ((rd ([(⟨(1 : Int), (IntKind.i64.wrap (a0.Keys * a0.Depth)), (a0.Keys)⟩ : St62), (⟨(a0.Tasks), (imax (IntKind.i64.wrap (a0.Keys * a0.Depth)) (IntKind.i64.wrap (a0.Depth + (1 : Int)))), (IntKind.i64.wrap (a0.Keys * a0.Depth))⟩ : St62)] : List St62) x27).many * (rd ([(⟨(1 : Int), (IntKind.i64.wrap (a0.Keys * a0.Depth)), (a0.Keys)⟩ : St62), (⟨(a0.Tasks), (imax (IntKind.i64.wrap (a0.Keys * a0.Depth)) (IntKind.i64.wrap (a0.Depth + (1 : Int)))), (IntKind.i64.wrap (a0.Keys * a0.Depth))⟩ : St62)] : List St62) x27).slots))))) (x_assign rfl) rfl (Wl_nil (tn (Wp_region_lit (W_v (.int .i64 x26) (x_move rfl) rfl ?_)))))))))))))))
          refine W_v (pt b42 0) (x_fieldAddr (o := 0) (off := 0) Tryd.underlying62 rfl ty3 rfl rfl) rfl (W_v (.int .i64 ((rd ([(⟨(1 : Int), (IntKind.i64.wrap (a0.Keys * a0.Depth)), (a0.Keys)⟩ : St62), (⟨(a0.Tasks), (imax (IntKind.i64.wrap (a0.Keys * a0.Depth)) (IntKind.i64.wrap (a0.Depth + (1 : Int)))), (IntKind.i64.wrap (a0.Keys * a0.Depth))⟩ : St62)] : List St62) x27).many)) (x_load (S.blk 0 rfl) ty3 rfl rfl) rfl (W_v (pt b42 2) (x_fieldAddr (o := 0) (off := 2) Tryd.underlying62 rfl ty3 rfl rfl) rfl (W_v (.int .i64 ((rd ([(⟨(1 : Int), (IntKind.i64.wrap (a0.Keys * a0.Depth)), (a0.Keys)⟩ : St62), (⟨(a0.Tasks), (imax (IntKind.i64.wrap (a0.Keys * a0.Depth)) (IntKind.i64.wrap (a0.Depth + (1 : Int)))), (IntKind.i64.wrap (a0.Keys * a0.Depth))⟩ : St62)] : List St62) x27).anchor)) (x_load (S.blk 0 rfl) ty3 rfl rfl) rfl (W_v (.int .i64 (IntKind.i64.wrap ((rd ([(⟨(1 : Int), (IntKind.i64.wrap (a0.Keys * a0.Depth)), (a0.Keys)⟩ : St62), (⟨(a0.Tasks), (imax (IntKind.i64.wrap (a0.Keys * a0.Depth)) (IntKind.i64.wrap (a0.Depth + (1 : Int)))), (IntKind.i64.wrap (a0.Keys * a0.Depth))⟩ : St62)] : List St62) x27).many * (rd ([(⟨(1 : Int), (IntKind.i64.wrap (a0.Keys * a0.Depth)), (a0.Keys)⟩ : St62), (⟨(a0.Tasks), (imax (IntKind.i64.wrap (a0.Keys * a0.Depth)) (IntKind.i64.wrap (a0.Depth + (1 : Int)))), (IntKind.i64.wrap (a0.Keys * a0.Depth))⟩ : St62)] : List St62) x27).anchor))) (x_ibin rfl rfl rfl rfl) rfl (W_v (.int .i64 (IntKind.i64.wrap (x26 + (IntKind.i64.wrap ((rd ([(⟨(1 : Int), (IntKind.i64.wrap (a0.Keys * a0.Depth)), (a0.Keys)⟩ : St62), (⟨(a0.Tasks), (imax (IntKind.i64.wrap (a0.Keys * a0.Depth)) (IntKind.i64.wrap (a0.Depth + (1 : Int)))), (IntKind.i64.wrap (a0.Keys * a0.Depth))⟩ : St62)] : List St62) x27).many * (rd ([(⟨(1 : Int), (IntKind.i64.wrap (a0.Keys * a0.Depth)), (a0.Keys)⟩ : St62), (⟨(a0.Tasks), (imax (IntKind.i64.wrap (a0.Keys * a0.Depth)) (IntKind.i64.wrap (a0.Depth + (1 : Int)))), (IntKind.i64.wrap (a0.Keys * a0.Depth))⟩ : St62)] : List St62) x27).anchor))))) (x_ibin rfl rfl rfl rfl) rfl (W_v (.int .i64 (IntKind.i64.wrap (x26 + (IntKind.i64.wrap ((rd ([(⟨(1 : Int), (IntKind.i64.wrap (a0.Keys * a0.Depth)), (a0.Keys)⟩ : St62), (⟨(a0.Tasks), (imax (IntKind.i64.wrap (a0.Keys * a0.Depth)) (IntKind.i64.wrap (a0.Depth + (1 : Int)))), (IntKind.i64.wrap (a0.Keys * a0.Depth))⟩ : St62)] : List St62) x27).many * (rd ([(⟨(1 : Int), (IntKind.i64.wrap (a0.Keys * a0.Depth)), (a0.Keys)⟩ : St62), (⟨(a0.Tasks), (imax (IntKind.i64.wrap (a0.Keys * a0.Depth)) (IntKind.i64.wrap (a0.Depth + (1 : Int)))), (IntKind.i64.wrap (a0.Keys * a0.Depth))⟩ : St62)] : List St62) x27).anchor))))) (x_assign rfl) rfl (Wl_nil (bn (tn (Wp_region_lit (W_v (.int .i64 (IntKind.i64.wrap (x27 + (1 : Int)))) (x_ibin rfl rfl rfl rfl) rfl (W_v (.int .i64 (IntKind.i64.wrap (x27 + (1 : Int)))) (x_move rfl) rfl (Wl_nil (tn ?_))))))))))))))
          exact ⟨k, Nat.lt_succ_self k, ⟨(IntKind.i64.wrap (x25 + (IntKind.i64.wrap ((rd ([(⟨(1 : Int), (IntKind.i64.wrap (a0.Keys * a0.Depth)), (a0.Keys)⟩ : St62), (⟨(a0.Tasks), (imax (IntKind.i64.wrap (a0.Keys * a0.Depth)) (IntKind.i64.wrap (a0.Depth + (1 : Int)))), (IntKind.i64.wrap (a0.Keys * a0.Depth))⟩ : St62)] : List St62) x27).many * (rd ([(⟨(1 : Int), (IntKind.i64.wrap (a0.Keys * a0.Depth)), (a0.Keys)⟩ : St62), (⟨(a0.Tasks), (imax (IntKind.i64.wrap (a0.Keys * a0.Depth)) (IntKind.i64.wrap (a0.Depth + (1 : Int)))), (IntKind.i64.wrap (a0.Keys * a0.Depth))⟩ : St62)] : List St62) x27).slots)))), (IntKind.i64.wrap (x26 + (IntKind.i64.wrap ((rd ([(⟨(1 : Int), (IntKind.i64.wrap (a0.Keys * a0.Depth)), (a0.Keys)⟩ : St62), (⟨(a0.Tasks), (imax (IntKind.i64.wrap (a0.Keys * a0.Depth)) (IntKind.i64.wrap (a0.Depth + (1 : Int)))), (IntKind.i64.wrap (a0.Keys * a0.Depth))⟩ : St62)] : List St62) x27).many * (rd ([(⟨(1 : Int), (IntKind.i64.wrap (a0.Keys * a0.Depth)), (a0.Keys)⟩ : St62), (⟨(a0.Tasks), (imax (IntKind.i64.wrap (a0.Keys * a0.Depth)) (IntKind.i64.wrap (a0.Depth + (1 : Int)))), (IntKind.i64.wrap (a0.Keys * a0.Depth))⟩ : St62)] : List St62) x27).anchor)))), (IntKind.i64.wrap (x27 + (1 : Int))), H, ⟨rfl, rfl, rfl, rfl, trivial⟩, E, S.pick [] (by decide)⟩⟩
        refine Wp_cond_false (congrArg Value.bool hb39) ?_
        refine Wp_exit ?_
        refine tx (tx (bsm (?_)))
        refine tn ?_
        exact ⟨x25, x26, Option.some.inj H, ⟨rfl, rfl, trivial⟩, E, S.pick [] (by decide)⟩
  rintro ρ w46 ⟨x35, x36, rfl, hρ, E, S⟩
  rw [agree_eta hρ]
  have H := o37H
  refine tn ?_
  as_aux_lemma =>
  refine Wp_seq (Wp_region_lit (W_v (.int .i64 x35) (x_move rfl) rfl (W_v (.int .i64 x36) (x_move rfl) rfl (W_v (.int .i64 x35) (x_assign rfl) rfl (W_v (.int .i64 x36) (x_assign rfl) rfl (Wl_nil (tn ?_)))))))
  refine Wp_ret ?_
  obtain rfl := Option.some.inj H
  exact ⟨_, _, _, fun w1 e1 => run_resR (vs := [.int .i64 x35, .int .i64 x36]) (FA.cons (rfl) (FA.cons (rfl) (FA.nil))), HM, E, S.pick [] (by decide), ⟨rfl, rfl⟩⟩
def room_Steps (k : Nat) (a0 : api_Config) (a1 : Int) : Option (Int) :=
  (Option.bind (room_Bound k a0) (fun t4 => (if (t4.1 == (0 : Int)) = true then some (0 : Int) else (if a0.Fan ≠ 0 then (if (a1 == (1 : Int)) = true then some (3 : Int) else (Option.bind (α := Bool) (if (a1 == (2 : Int)) = true then some ((a1 == (2 : Int))) else (Option.bind (α := Bool) (if (a1 == (3 : Int)) = true then some ((a1 == (3 : Int))) else some ((a1 == (4 : Int)))) (fun x31 => some (x31)))) (fun x26 => (if x26 = true then some (IntKind.i64.wrap ((IntKind.i64.wrap ((IntKind.i64.wrap ((5 : Int) * (IntKind.i64.wrap ((IntKind.i64.wrap (Int.tdiv (IntKind.i64.wrap (t4.2 - (1 : Int))) a0.Fan)) + (1 : Int))))) + (24 : Int))) + (IntKind.i64.wrap ((8 : Int) * (IntKind.i64.wrap ((IntKind.i64.wrap (t4.1 + (IntKind.i64.wrap ((2 : Int) * a0.Tasks)))) + (1 : Int))))))) else (Option.bind (α := Bool) (if (a1 == (6 : Int)) = true then some ((a1 == (6 : Int))) else some ((a1 == (7 : Int)))) (fun x39 => (if x39 = true then some (IntKind.i64.wrap ((IntKind.i64.wrap ((4 : Int) + (IntKind.i64.wrap (a0.Keys * (IntKind.i64.wrap ((IntKind.i64.wrap ((5 : Int) * (IntKind.i64.wrap ((IntKind.i64.wrap (Int.tdiv (IntKind.i64.wrap (t4.2 - (1 : Int))) a0.Fan)) + (1 : Int))))) + (24 : Int))))))) + (IntKind.i64.wrap ((8 : Int) * (IntKind.i64.wrap ((IntKind.i64.wrap (t4.1 + (IntKind.i64.wrap ((2 : Int) * a0.Tasks)))) + (1 : Int))))))) else (Option.bind (α := Bool) (if (a1 == (5 : Int)) = true then some ((a1 == (5 : Int))) else (Option.bind (α := Bool) (if (a1 == (8 : Int)) = true then some ((a1 == (8 : Int))) else some ((a1 == (9 : Int)))) (fun x63 => some (x63)))) (fun x58 => (if x58 = true then some (IntKind.i64.wrap ((IntKind.i64.wrap ((6 : Int) + (IntKind.i64.wrap ((IntKind.i64.wrap ((IntKind.i64.wrap (t4.2 + a0.Tasks)) + (1 : Int))) * (IntKind.i64.wrap ((IntKind.i64.wrap ((5 : Int) * (IntKind.i64.wrap ((IntKind.i64.wrap (Int.tdiv (IntKind.i64.wrap (t4.2 - (1 : Int))) a0.Fan)) + (1 : Int))))) + (24 : Int))))))) + (IntKind.i64.wrap ((8 : Int) * (IntKind.i64.wrap ((IntKind.i64.wrap (t4.1 + (IntKind.i64.wrap ((2 : Int) * a0.Tasks)))) + (1 : Int))))))) else some (2 : Int))))))))))) else none))))
set_option maxHeartbeats 2000000 in
theorem room_Steps.mono {k : Nat} {a0 : api_Config} {a1 : Int} : OLe (room_Steps k a0 a1) (room_Steps (k + 1) a0 a1) := by
  unfold room_Steps
  repeat' (first | with_reducible exact OLe.none | with_reducible exact OLe.some | with_reducible refine OLe.ite ?_ ?_ | with_reducible refine OLe.bind ?_ (fun _ => ?_) | with_reducible exact room_Bound.mono | refine OLe.bind ?_ (fun _ => ?_) | refine OLe.ite ?_ ?_ | refine OLe.elim (fun _ => ?_) (fun _ => ?_) | split)
set_option maxHeartbeats 1000000 in
set_option maxRecDepth 100000 in
theorem room_Steps.con (k : Nat) (M : Hp) (a0 : api_Config) (a1 : Int) (r : Int)  (h : room_Steps k a0 a1 = some r) : Con Tryd.prog 11 #[.agg #[.int .i64 a0.Tasks, .int .i64 a0.Active, .int .i64 a0.Keys, .int .i64 a0.Depth, .int .i64 a0.TS, .int .i64 a0.KeyLen, .int .i64 a0.ValLen, .int .i64 a0.Fan], .int .u8 a1] M [] (fun v M' Γ' => v = .int .i64 r ∧ Γ' = []) := by
  refine con_of_wp Tryd.func11 rfl Tryd.ntmps11 Tryd.results11 rfl ?_
  intro w F rn S hrn
  have E := Ext.refl w
  have HM := Hp.le_refl M
  have H := h
  unfold room_Steps at H
  refine Wp_seq (Wp_region_lit ?_)
  refine W_box S #[.int .i64 a0.Tasks, .int .i64 a0.Active, .int .i64 a0.Keys, .int .i64 a0.Depth, .int .i64 a0.TS, .int .i64 a0.KeyLen, .int .i64 a0.ValLen, .int .i64 a0.Fan] rfl rfl rfl ?_
  intro b1 w2 E' S
  replace E := E.trans E'
  refine W_v (.int .i64 0) (x_assign rfl) rfl (Wl_nil (tn (Wp_seq (Wp_region_lit (W_v (.agg #[.int .i64 a0.Tasks, .int .i64 a0.Active, .int .i64 a0.Keys, .int .i64 a0.Depth, .int .i64 a0.TS, .int .i64 a0.KeyLen, .int .i64 a0.ValLen, .int .i64 a0.Fan]) (x_loadA (S.blk 0 rfl) ty23 rfl (sub_of_extract rfl) rfl rfl) rfl ?_)))))
  obtain ⟨t4, ht5, H⟩ := bindS H
  refine W_callF fn9 (room_Bound.con k M a0 t4  ht5) S rfl rfl (by rintro _ _ _ ⟨_, rfl⟩; exact flat_nil) ?_
  rintro _ w6 _ Γ' E' S ⟨rfl, rfl⟩
  replace E := E.trans E'
  refine W_v (.tuple #[.int .i64 t4.1, .int .i64 t4.2]) (x_move rfl) rfl (W_v (.int .i64 t4.1) (x_extract rfl rfl) rfl (W_v (.int .i64 t4.2) (x_extract rfl rfl) rfl (W_v (.int .i64 t4.1) (x_assign rfl) rfl (W_v (.int .i64 t4.2) (x_assign rfl) rfl (Wl_nil (tn (Wp_seq (Wp_seq (Wp_region_lit (W_v (.int .i64 t4.1) (x_move rfl) rfl (W_v (.bool (t4.1 == (0 : Int))) (x_ibin rfl rfl rfl rfl) rfl (Wl_nil (tn ?_)))))))))))))
  rcases iteS H with ⟨hb7, H⟩ | ⟨hb7, H⟩
  · refine Wp_cond_true (congrArg Value.bool hb7) ?_
    refine Wp_seq (Wp_region_lit (W_v (.int .i64 0) (x_assign rfl) rfl (Wl_nil (tn ?_))))
    refine Wp_ret ?_
    refine tr (?_)
    obtain rfl := Option.some.inj H
    exact ⟨_, _, _, fun w1 e1 => run_resR (vs := [.int .i64 0]) (FA.cons (rfl) (FA.nil)), HM, E, S.pick [] (by decide), ⟨rfl, rfl⟩⟩
  refine Wp_cond_false (congrArg Value.bool hb7) (Wp_skip (tn (Wp_seq (Wp_region_lit (W_v (.int .i64 t4.2) (x_move rfl) rfl (W_v (.int .i64 (IntKind.i64.wrap (t4.2 - (1 : Int)))) (x_ibin rfl rfl rfl rfl) rfl (W_v (pt b1 7) (x_fieldAddr (o := 0) (off := 7) Tryd.underlying23 rfl ty3 rfl rfl) rfl (W_v (.int .i64 a0.Fan) (x_load (S.blk 0 rfl) ty3 rfl rfl) rfl ?_))))))))
  obtain ⟨p8, H⟩ := chkS H
  refine W_v (.int .i64 (IntKind.i64.wrap (Int.tdiv (IntKind.i64.wrap (t4.2 - (1 : Int))) a0.Fan))) (x_quo rfl rfl p8) rfl (W_v (.int .i64 (IntKind.i64.wrap ((IntKind.i64.wrap (Int.tdiv (IntKind.i64.wrap (t4.2 - (1 : Int))) a0.Fan)) + (1 : Int)))) (x_ibin rfl rfl rfl rfl) rfl (W_v (.int .i64 (IntKind.i64.wrap ((IntKind.i64.wrap (Int.tdiv (IntKind.i64.wrap (t4.2 - (1 : Int))) a0.Fan)) + (1 : Int)))) (x_assign rfl) rfl (Wl_nil (tn ?_))))
  as_aux_lemma =>
  refine Wp_seq ?_
  refine Wp_region_any (S := fun w' => ∃ Mx, M.le Mx ∧ St w' Mx F [B23 b1 a0]) (L := 12) mixed ?_
  intro w9 hw10 E'
  replace S := S.heap hw10
  replace E := E.trans E'
  have D1 : ∃ Mx, Hp.le M Mx ∧ St _ Mx F [_] := ⟨_, Hp.le_refl _, S.pick [0] (by decide)⟩
  refine Wa_take (i := 0) rfl (by kernel_rfl) rfl rfl (.int .i64 (IntKind.i64.wrap ((IntKind.i64.wrap (Int.tdiv (IntKind.i64.wrap (t4.2 - (1 : Int))) a0.Fan)) + (1 : Int)))) rfl (fun w' h' => x_move rfl) D1 (Wa_take (i := 1) rfl (by kernel_rfl) rfl rfl (.int .i64 (IntKind.i64.wrap ((5 : Int) * (IntKind.i64.wrap ((IntKind.i64.wrap (Int.tdiv (IntKind.i64.wrap (t4.2 - (1 : Int))) a0.Fan)) + (1 : Int)))))) rfl (fun w' h' => x_ibin rfl rfl rfl rfl) D1 (Wa_take (i := 2) rfl (by kernel_rfl) rfl rfl (.int .i64 (IntKind.i64.wrap ((IntKind.i64.wrap ((5 : Int) * (IntKind.i64.wrap ((IntKind.i64.wrap (Int.tdiv (IntKind.i64.wrap (t4.2 - (1 : Int))) a0.Fan)) + (1 : Int))))) + (24 : Int)))) rfl (fun w' h' => x_ibin rfl rfl rfl rfl) D1 (Wa_take (i := 3) rfl (by kernel_rfl) rfl rfl (.int .i64 t4.1) rfl (fun w' h' => x_move rfl) D1 (Wa_take (i := 4) rfl (by kernel_rfl) rfl rfl (pt b1 0) rfl (fun w' h' => x_fieldAddr (o := 0) (off := 0) Tryd.underlying23 rfl ty3 rfl rfl) D1 (Wa_take (i := 5) rfl (by kernel_rfl) rfl rfl (.int .i64 a0.Tasks) rfl (fun w' h' => x_load (cls_blk h' 0 rfl) ty3 rfl rfl) D1 (Wa_take (i := 6) rfl (by kernel_rfl) rfl rfl (.int .i64 (IntKind.i64.wrap ((2 : Int) * a0.Tasks))) rfl (fun w' h' => x_ibin rfl rfl rfl rfl) D1 (Wa_take (i := 7) rfl (by kernel_rfl) rfl rfl (.int .i64 (IntKind.i64.wrap (t4.1 + (IntKind.i64.wrap ((2 : Int) * a0.Tasks))))) rfl (fun w' h' => x_ibin rfl rfl rfl rfl) D1 (Wa_take (i := 8) rfl (by kernel_rfl) rfl rfl (.int .i64 (IntKind.i64.wrap ((IntKind.i64.wrap (t4.1 + (IntKind.i64.wrap ((2 : Int) * a0.Tasks)))) + (1 : Int)))) rfl (fun w' h' => x_ibin rfl rfl rfl rfl) D1 (Wa_take (i := 9) rfl (by kernel_rfl) rfl rfl (.int .i64 (IntKind.i64.wrap ((8 : Int) * (IntKind.i64.wrap ((IntKind.i64.wrap (t4.1 + (IntKind.i64.wrap ((2 : Int) * a0.Tasks)))) + (1 : Int)))))) rfl (fun w' h' => x_ibin rfl rfl rfl rfl) D1 (Wa_take (i := 10) rfl (by kernel_rfl) rfl rfl (.int .i64 (IntKind.i64.wrap ((IntKind.i64.wrap ((5 : Int) * (IntKind.i64.wrap ((IntKind.i64.wrap (Int.tdiv (IntKind.i64.wrap (t4.2 - (1 : Int))) a0.Fan)) + (1 : Int))))) + (24 : Int)))) rfl (fun w' h' => x_assign rfl) D1 (Wa_take (i := 11) rfl (by kernel_rfl) rfl rfl (.int .i64 (IntKind.i64.wrap ((8 : Int) * (IntKind.i64.wrap ((IntKind.i64.wrap (t4.1 + (IntKind.i64.wrap ((2 : Int) * a0.Tasks)))) + (1 : Int)))))) rfl (fun w' h' => x_assign rfl) D1 ?_)))))))))))
  refine Wa_done (by kernel_rfl) ?_
  refine tn (Wp_seq (Wp_seq (Wp_region_lit (W_v (.int .u8 a1) (x_move rfl) rfl (Wl_nil (tn ?_))))))
  refine Wp_block ?_
  refine Wp_seq (Wp_region_lit (W_v (.bool (a1 == (1 : Int))) (x_ibin rfl rfl rfl rfl) rfl (W_v (.bool (a1 == (1 : Int))) (x_assign rfl) rfl (Wl_nil (tn ?_)))))
  rcases iteS H with ⟨hb11, H⟩ | ⟨hb11, H⟩
  · refine Wp_cond_true (congrArg Value.bool hb11) ?_
    refine Wp_seq (Wp_region_lit (W_v (.int .i64 3) (x_assign rfl) rfl (Wl_nil (tn ?_))))
    refine Wp_ret ?_
    refine br (tr (?_))
    obtain rfl := Option.some.inj H
    exact ⟨_, _, _, fun w1 e1 => run_resR (vs := [.int .i64 3]) (FA.cons (rfl) (FA.nil)), HM, E, S.pick [] (by decide), ⟨rfl, rfl⟩⟩
  refine Wp_cond_false (congrArg Value.bool hb11) ?_
  as_aux_lemma =>
  refine Wp_seq (Wp_seq (Wp_region_lit (W_v (.bool (a1 == (2 : Int))) (x_ibin rfl rfl rfl rfl) rfl (W_v (.bool (a1 == (2 : Int))) (x_assign rfl) rfl (Wl_nil (tn ?_))))))
  obtain ⟨o27, o27h, o27H⟩ := bindS H
  refine Wp_cut (fun ρ w' => ∃ (x26 : Bool), (x26) = o27 ∧ Agree ρ [(2, pt b1 0), (6, .int .i64 t4.2), (8, .int .i64 (IntKind.i64.wrap ((IntKind.i64.wrap ((5 : Int) * (IntKind.i64.wrap ((IntKind.i64.wrap (Int.tdiv (IntKind.i64.wrap (t4.2 - (1 : Int))) a0.Fan)) + (1 : Int))))) + (24 : Int)))), (9, .int .i64 (IntKind.i64.wrap ((8 : Int) * (IntKind.i64.wrap ((IntKind.i64.wrap (t4.1 + (IntKind.i64.wrap ((2 : Int) * a0.Tasks)))) + (1 : Int)))))), (33, .int .u8 a1), (36, .bool x26)] ∧ Ext w w' ∧ St w' M F [B23 b1 a0]) ?_ ?_
  · clear o27H
    have H := o27h
    rcases iteS H with ⟨hb28, H⟩ | ⟨hb28, H⟩
    · refine Wp_cond_true (congrArg Value.bool hb28) ?_
      refine Wp_skip (tn ?_)
      exact ⟨(a1 == (2 : Int)), Option.some.inj H, ⟨rfl, rfl, rfl, rfl, rfl, rfl, trivial⟩, E, S.pick [0] (by decide)⟩
    refine Wp_cond_false (congrArg Value.bool hb28) (Wp_seq (Wp_region_lit (W_v (.bool (a1 == (3 : Int))) (x_ibin rfl rfl rfl rfl) rfl (W_v (.bool (a1 == (3 : Int))) (x_assign rfl) rfl (Wl_nil (tn ?_))))))
    obtain ⟨o32, o32h, o32H⟩ := bindS H
    refine Wp_cut (fun ρ w' => ∃ (x31 : Bool), (x31) = o32 ∧ Agree ρ [(2, pt b1 0), (6, .int .i64 t4.2), (8, .int .i64 (IntKind.i64.wrap ((IntKind.i64.wrap ((5 : Int) * (IntKind.i64.wrap ((IntKind.i64.wrap (Int.tdiv (IntKind.i64.wrap (t4.2 - (1 : Int))) a0.Fan)) + (1 : Int))))) + (24 : Int)))), (9, .int .i64 (IntKind.i64.wrap ((8 : Int) * (IntKind.i64.wrap ((IntKind.i64.wrap (t4.1 + (IntKind.i64.wrap ((2 : Int) * a0.Tasks)))) + (1 : Int)))))), (33, .int .u8 a1), (36, .bool x31)] ∧ Ext w w' ∧ St w' M F [B23 b1 a0]) ?_ ?_
    · clear o32H
      have H := o32h
      rcases iteS H with ⟨hb33, H⟩ | ⟨hb33, H⟩
      · refine Wp_cond_true (congrArg Value.bool hb33) ?_
        refine Wp_skip (tn ?_)
        exact ⟨(a1 == (3 : Int)), Option.some.inj H, ⟨rfl, rfl, rfl, rfl, rfl, rfl, trivial⟩, E, S.pick [0] (by decide)⟩
      refine Wp_cond_false (congrArg Value.bool hb33) (Wp_region_lit (W_v (.bool (a1 == (4 : Int))) (x_ibin rfl rfl rfl rfl) rfl (W_v (.bool (a1 == (4 : Int))) (x_assign rfl) rfl (Wl_nil (tn ?_)))))
      exact ⟨(a1 == (4 : Int)), Option.some.inj H, ⟨rfl, rfl, rfl, rfl, rfl, rfl, trivial⟩, E, S.pick [0] (by decide)⟩
    rintro ρ w34 ⟨x31, rfl, hρ, E, S⟩
    rw [agree_eta hρ]
    have H := o32H
    refine tn ?_
    exact ⟨x31, Option.some.inj H, ⟨rfl, rfl, rfl, rfl, rfl, rfl, trivial⟩, E, S.pick [0] (by decide)⟩
  as_aux_lemma =>
  rintro ρ w35 ⟨x26, rfl, hρ, E, S⟩
  rw [agree_eta hρ]
  have H := o27H
  refine tn ?_
  rcases iteS H with ⟨hb36, H⟩ | ⟨hb36, H⟩
  · refine Wp_cond_true (congrArg Value.bool hb36) ?_
    refine Wp_seq (Wp_region_lit (W_v (.int .i64 (IntKind.i64.wrap ((IntKind.i64.wrap ((5 : Int) * (IntKind.i64.wrap ((IntKind.i64.wrap (Int.tdiv (IntKind.i64.wrap (t4.2 - (1 : Int))) a0.Fan)) + (1 : Int))))) + (24 : Int)))) (x_move rfl) rfl (W_v (.int .i64 (IntKind.i64.wrap ((8 : Int) * (IntKind.i64.wrap ((IntKind.i64.wrap (t4.1 + (IntKind.i64.wrap ((2 : Int) * a0.Tasks)))) + (1 : Int)))))) (x_move rfl) rfl (W_v (.int .i64 (IntKind.i64.wrap ((IntKind.i64.wrap ((IntKind.i64.wrap ((5 : Int) * (IntKind.i64.wrap ((IntKind.i64.wrap (Int.tdiv (IntKind.i64.wrap (t4.2 - (1 : Int))) a0.Fan)) + (1 : Int))))) + (24 : Int))) + (IntKind.i64.wrap ((8 : Int) * (IntKind.i64.wrap ((IntKind.i64.wrap (t4.1 + (IntKind.i64.wrap ((2 : Int) * a0.Tasks)))) + (1 : Int)))))))) (x_ibin rfl rfl rfl rfl) rfl (W_v (.int .i64 (IntKind.i64.wrap ((IntKind.i64.wrap ((IntKind.i64.wrap ((5 : Int) * (IntKind.i64.wrap ((IntKind.i64.wrap (Int.tdiv (IntKind.i64.wrap (t4.2 - (1 : Int))) a0.Fan)) + (1 : Int))))) + (24 : Int))) + (IntKind.i64.wrap ((8 : Int) * (IntKind.i64.wrap ((IntKind.i64.wrap (t4.1 + (IntKind.i64.wrap ((2 : Int) * a0.Tasks)))) + (1 : Int)))))))) (x_assign rfl) rfl (Wl_nil (tn ?_)))))))
    refine Wp_ret ?_
    refine br (tr (?_))
    obtain rfl := Option.some.inj H
    exact ⟨_, _, _, fun w1 e1 => run_resR (vs := [.int .i64 (IntKind.i64.wrap ((IntKind.i64.wrap ((IntKind.i64.wrap ((5 : Int) * (IntKind.i64.wrap ((IntKind.i64.wrap (Int.tdiv (IntKind.i64.wrap (t4.2 - (1 : Int))) a0.Fan)) + (1 : Int))))) + (24 : Int))) + (IntKind.i64.wrap ((8 : Int) * (IntKind.i64.wrap ((IntKind.i64.wrap (t4.1 + (IntKind.i64.wrap ((2 : Int) * a0.Tasks)))) + (1 : Int)))))))]) (FA.cons (rfl) (FA.nil)), HM, E, S.pick [] (by decide), ⟨rfl, rfl⟩⟩
  refine Wp_cond_false (congrArg Value.bool hb36) (Wp_seq (Wp_seq (Wp_region_lit (W_v (.bool (a1 == (6 : Int))) (x_ibin rfl rfl rfl rfl) rfl (W_v (.bool (a1 == (6 : Int))) (x_assign rfl) rfl (Wl_nil (tn ?_)))))))
  obtain ⟨o40, o40h, o40H⟩ := bindS H
  refine Wp_cut (fun ρ w' => ∃ (x39 : Bool), (x39) = o40 ∧ Agree ρ [(2, pt b1 0), (6, .int .i64 t4.2), (8, .int .i64 (IntKind.i64.wrap ((IntKind.i64.wrap ((5 : Int) * (IntKind.i64.wrap ((IntKind.i64.wrap (Int.tdiv (IntKind.i64.wrap (t4.2 - (1 : Int))) a0.Fan)) + (1 : Int))))) + (24 : Int)))), (9, .int .i64 (IntKind.i64.wrap ((8 : Int) * (IntKind.i64.wrap ((IntKind.i64.wrap (t4.1 + (IntKind.i64.wrap ((2 : Int) * a0.Tasks)))) + (1 : Int)))))), (33, .int .u8 a1), (43, .bool x39)] ∧ Ext w w' ∧ St w' M F [B23 b1 a0]) ?_ ?_
  · clear o40H
    have H := o40h
    rcases iteS H with ⟨hb41, H⟩ | ⟨hb41, H⟩
    · refine Wp_cond_true (congrArg Value.bool hb41) ?_
      refine Wp_skip (tn ?_)
      exact ⟨(a1 == (6 : Int)), Option.some.inj H, ⟨rfl, rfl, rfl, rfl, rfl, rfl, trivial⟩, E, S.pick [0] (by decide)⟩
    refine Wp_cond_false (congrArg Value.bool hb41) (Wp_region_lit (W_v (.bool (a1 == (7 : Int))) (x_ibin rfl rfl rfl rfl) rfl (W_v (.bool (a1 == (7 : Int))) (x_assign rfl) rfl (Wl_nil (tn ?_)))))
    exact ⟨(a1 == (7 : Int)), Option.some.inj H, ⟨rfl, rfl, rfl, rfl, rfl, rfl, trivial⟩, E, S.pick [0] (by decide)⟩
  as_aux_lemma =>
  rintro ρ w42 ⟨x39, rfl, hρ, E, S⟩
  rw [agree_eta hρ]
  have H := o40H
  refine tn ?_
  rcases iteS H with ⟨hb43, H⟩ | ⟨hb43, H⟩
  · refine Wp_cond_true (congrArg Value.bool hb43) ?_
    refine Wp_seq (Wp_region_lit (W_v (pt b1 2) (x_fieldAddr (o := 0) (off := 2) Tryd.underlying23 rfl ty3 rfl rfl) rfl (W_v (.int .i64 a0.Keys) (x_load (S.blk 0 rfl) ty3 rfl rfl) rfl (W_v (.int .i64 (IntKind.i64.wrap ((IntKind.i64.wrap ((5 : Int) * (IntKind.i64.wrap ((IntKind.i64.wrap (Int.tdiv (IntKind.i64.wrap (t4.2 - (1 : Int))) a0.Fan)) + (1 : Int))))) + (24 : Int)))) (x_move rfl) rfl (W_v (.int .i64 (IntKind.i64.wrap (a0.Keys * (IntKind.i64.wrap ((IntKind.i64.wrap ((5 : Int) * (IntKind.i64.wrap ((IntKind.i64.wrap (Int.tdiv (IntKind.i64.wrap (t4.2 - (1 : Int))) a0.Fan)) + (1 : Int))))) + (24 : Int)))))) (x_ibin rfl rfl rfl rfl) rfl (W_v (.int .i64 (IntKind.i64.wrap ((4 : Int) + (IntKind.i64.wrap (a0.Keys * (IntKind.i64.wrap ((IntKind.i64.wrap ((5 : Int) * (IntKind.i64.wrap ((IntKind.i64.wrap (Int.tdiv (IntKind.i64.wrap (t4.2 - (1 : Int))) a0.Fan)) + (1 : Int))))) + (24 : Int)))))))) (x_ibin rfl rfl rfl rfl) rfl (W_v (.int .i64 (IntKind.i64.wrap ((8 : Int) * (IntKind.i64.wrap ((IntKind.i64.wrap (t4.1 + (IntKind.i64.wrap ((2 : Int) * a0.Tasks)))) + (1 : Int)))))) (x_move rfl) rfl (W_v (.int .i64 (IntKind.i64.wrap ((IntKind.i64.wrap ((4 : Int) + (IntKind.i64.wrap (a0.Keys * (IntKind.i64.wrap ((IntKind.i64.wrap ((5 : Int) * (IntKind.i64.wrap ((IntKind.i64.wrap (Int.tdiv (IntKind.i64.wrap (t4.2 - (1 : Int))) a0.Fan)) + (1 : Int))))) + (24 : Int))))))) + (IntKind.i64.wrap ((8 : Int) * (IntKind.i64.wrap ((IntKind.i64.wrap (t4.1 + (IntKind.i64.wrap ((2 : Int) * a0.Tasks)))) + (1 : Int)))))))) (x_ibin rfl rfl rfl rfl) rfl (W_v (.int .i64 (IntKind.i64.wrap ((IntKind.i64.wrap ((4 : Int) + (IntKind.i64.wrap (a0.Keys * (IntKind.i64.wrap ((IntKind.i64.wrap ((5 : Int) * (IntKind.i64.wrap ((IntKind.i64.wrap (Int.tdiv (IntKind.i64.wrap (t4.2 - (1 : Int))) a0.Fan)) + (1 : Int))))) + (24 : Int))))))) + (IntKind.i64.wrap ((8 : Int) * (IntKind.i64.wrap ((IntKind.i64.wrap (t4.1 + (IntKind.i64.wrap ((2 : Int) * a0.Tasks)))) + (1 : Int)))))))) (x_assign rfl) rfl (Wl_nil (tn ?_)))))))))))
    refine Wp_ret ?_
    refine br (tr (?_))
    obtain rfl := Option.some.inj H
    exact ⟨_, _, _, fun w1 e1 => run_resR (vs := [.int .i64 (IntKind.i64.wrap ((IntKind.i64.wrap ((4 : Int) + (IntKind.i64.wrap (a0.Keys * (IntKind.i64.wrap ((IntKind.i64.wrap ((5 : Int) * (IntKind.i64.wrap ((IntKind.i64.wrap (Int.tdiv (IntKind.i64.wrap (t4.2 - (1 : Int))) a0.Fan)) + (1 : Int))))) + (24 : Int))))))) + (IntKind.i64.wrap ((8 : Int) * (IntKind.i64.wrap ((IntKind.i64.wrap (t4.1 + (IntKind.i64.wrap ((2 : Int) * a0.Tasks)))) + (1 : Int)))))))]) (FA.cons (rfl) (FA.nil)), HM, E, S.pick [] (by decide), ⟨rfl, rfl⟩⟩
  refine Wp_cond_false (congrArg Value.bool hb43) (Wp_seq (Wp_seq (Wp_region_lit (W_v (.bool (a1 == (5 : Int))) (x_ibin rfl rfl rfl rfl) rfl (W_v (.bool (a1 == (5 : Int))) (x_assign rfl) rfl (Wl_nil (tn ?_)))))))
  obtain ⟨o59, o59h, o59H⟩ := bindS H
  refine Wp_cut (fun ρ w' => ∃ (x58 : Bool), (x58) = o59 ∧ Agree ρ [(2, pt b1 0), (6, .int .i64 t4.2), (8, .int .i64 (IntKind.i64.wrap ((IntKind.i64.wrap ((5 : Int) * (IntKind.i64.wrap ((IntKind.i64.wrap (Int.tdiv (IntKind.i64.wrap (t4.2 - (1 : Int))) a0.Fan)) + (1 : Int))))) + (24 : Int)))), (9, .int .i64 (IntKind.i64.wrap ((8 : Int) * (IntKind.i64.wrap ((IntKind.i64.wrap (t4.1 + (IntKind.i64.wrap ((2 : Int) * a0.Tasks)))) + (1 : Int)))))), (53, .bool x58)] ∧ Ext w w' ∧ St w' M F [B23 b1 a0]) ?_ ?_
  · clear o59H
    have H := o59h
    rcases iteS H with ⟨hb60, H⟩ | ⟨hb60, H⟩
    · refine Wp_cond_true (congrArg Value.bool hb60) ?_
      refine Wp_skip (tn ?_)
      exact ⟨(a1 == (5 : Int)), Option.some.inj H, ⟨rfl, rfl, rfl, rfl, rfl, trivial⟩, E, S.pick [0] (by decide)⟩
    refine Wp_cond_false (congrArg Value.bool hb60) (Wp_seq (Wp_region_lit (W_v (.bool (a1 == (8 : Int))) (x_ibin rfl rfl rfl rfl) rfl (W_v (.bool (a1 == (8 : Int))) (x_assign rfl) rfl (Wl_nil (tn ?_))))))
    obtain ⟨o64, o64h, o64H⟩ := bindS H
    refine Wp_cut (fun ρ w' => ∃ (x63 : Bool), (x63) = o64 ∧ Agree ρ [(2, pt b1 0), (6, .int .i64 t4.2), (8, .int .i64 (IntKind.i64.wrap ((IntKind.i64.wrap ((5 : Int) * (IntKind.i64.wrap ((IntKind.i64.wrap (Int.tdiv (IntKind.i64.wrap (t4.2 - (1 : Int))) a0.Fan)) + (1 : Int))))) + (24 : Int)))), (9, .int .i64 (IntKind.i64.wrap ((8 : Int) * (IntKind.i64.wrap ((IntKind.i64.wrap (t4.1 + (IntKind.i64.wrap ((2 : Int) * a0.Tasks)))) + (1 : Int)))))), (53, .bool x63)] ∧ Ext w w' ∧ St w' M F [B23 b1 a0]) ?_ ?_
    · clear o64H
      have H := o64h
      rcases iteS H with ⟨hb65, H⟩ | ⟨hb65, H⟩
      · refine Wp_cond_true (congrArg Value.bool hb65) ?_
        refine Wp_skip (tn ?_)
        exact ⟨(a1 == (8 : Int)), Option.some.inj H, ⟨rfl, rfl, rfl, rfl, rfl, trivial⟩, E, S.pick [0] (by decide)⟩
      refine Wp_cond_false (congrArg Value.bool hb65) (Wp_region_lit (W_v (.bool (a1 == (9 : Int))) (x_ibin rfl rfl rfl rfl) rfl (W_v (.bool (a1 == (9 : Int))) (x_assign rfl) rfl (Wl_nil (tn ?_)))))
      exact ⟨(a1 == (9 : Int)), Option.some.inj H, ⟨rfl, rfl, rfl, rfl, rfl, trivial⟩, E, S.pick [0] (by decide)⟩
    rintro ρ w66 ⟨x63, rfl, hρ, E, S⟩
    rw [agree_eta hρ]
    have H := o64H
    refine tn ?_
    exact ⟨x63, Option.some.inj H, ⟨rfl, rfl, rfl, rfl, rfl, trivial⟩, E, S.pick [0] (by decide)⟩
  rintro ρ w67 ⟨x58, rfl, hρ, E, S⟩
  rw [agree_eta hρ]
  have H := o59H
  refine tn ?_
  rcases iteS H with ⟨hb68, H⟩ | ⟨hb68, H⟩
  · refine Wp_cond_true (congrArg Value.bool hb68) ?_
    refine Wp_seq (Wp_region_lit (W_v (.int .i64 t4.2) (x_move rfl) rfl (W_v (pt b1 0) (x_fieldAddr (o := 0) (off := 0) Tryd.underlying23 rfl ty3 rfl rfl) rfl (W_v (.int .i64 a0.Tasks) (x_load (S.blk 0 rfl) ty3 rfl rfl) rfl (W_v (.int .i64 (IntKind.i64.wrap (t4.2 + a0.Tasks))) (x_ibin rfl rfl rfl rfl) rfl (W_v (.int .i64 (IntKind.i64.wrap ((IntKind.i64.wrap (t4.2 + a0.Tasks)) + (1 : Int)))) (x_ibin rfl rfl rfl rfl) rfl (W_v (.int .i64 (IntKind.i64.wrap ((IntKind.i64.wrap ((5 : Int) * (IntKind.i64.wrap ((IntKind.i64.wrap (Int.tdiv (IntKind.i64.wrap (t4.2 - (1 : Int))) a0.Fan)) + (1 : Int))))) + (24 : Int)))) (x_move rfl) rfl (W_v (.int .i64 (IntKind.i64.wrap ((IntKind.i64.wrap ((IntKind.i64.wrap (t4.2 + a0.Tasks)) + (1 : Int))) * (IntKind.i64.wrap ((IntKind.i64.wrap ((5 : Int) * (IntKind.i64.wrap ((IntKind.i64.wrap (Int.tdiv (IntKind.i64.wrap (t4.2 - (1 : Int))) a0.Fan)) + (1 : Int))))) + (24 : Int)))))) (x_ibin rfl rfl rfl rfl) rfl (W_v (.int .i64 (IntKind.i64.wrap ((6 : Int) + (IntKind.i64.wrap ((IntKind.i64.wrap ((IntKind.i64.wrap (t4.2 + a0.Tasks)) + (1 : Int))) * (IntKind.i64.wrap ((IntKind.i64.wrap ((5 : Int) * (IntKind.i64.wrap ((IntKind.i64.wrap (Int.tdiv (IntKind.i64.wrap (t4.2 - (1 : Int))) a0.Fan)) + (1 : Int))))) + (24 : Int)))))))) (x_ibin rfl rfl rfl rfl) rfl (W_v (.int .i64 (IntKind.i64.wrap ((8 : Int) * (IntKind.i64.wrap ((IntKind.i64.wrap (t4.1 + (IntKind.i64.wrap ((2 : Int) * a0.Tasks)))) + (1 : Int)))))) (x_move rfl) rfl (W_v (.int .i64 (IntKind.i64.wrap ((IntKind.i64.wrap ((6 : Int) + (IntKind.i64.wrap ((IntKind.i64.wrap ((IntKind.i64.wrap (t4.2 + a0.Tasks)) + (1 : Int))) * (IntKind.i64.wrap ((IntKind.i64.wrap ((5 : Int) * (IntKind.i64.wrap ((IntKind.i64.wrap (Int.tdiv (IntKind.i64.wrap (t4.2 - (1 : Int))) a0.Fan)) + (1 : Int))))) + (24 : Int))))))) + (IntKind.i64.wrap ((8 : Int) * (IntKind.i64.wrap ((IntKind.i64.wrap (t4.1 + (IntKind.i64.wrap ((2 : Int) * a0.Tasks)))) + (1 : Int)))))))) (x_ibin rfl rfl rfl rfl) rfl (W_v (.int .i64 (IntKind.i64.wrap ((IntKind.i64.wrap ((6 : Int) + (IntKind.i64.wrap ((IntKind.i64.wrap ((IntKind.i64.wrap (t4.2 + a0.Tasks)) + (1 : Int))) * (IntKind.i64.wrap ((IntKind.i64.wrap ((5 : Int) * (IntKind.i64.wrap ((IntKind.i64.wrap (Int.tdiv (IntKind.i64.wrap (t4.2 - (1 : Int))) a0.Fan)) + (1 : Int))))) + (24 : Int))))))) + (IntKind.i64.wrap ((8 : Int) * (IntKind.i64.wrap ((IntKind.i64.wrap (t4.1 + (IntKind.i64.wrap ((2 : Int) * a0.Tasks)))) + (1 : Int)))))))) (x_assign rfl) rfl (Wl_nil (tn ?_))))))))))))))
    refine Wp_ret ?_
    refine br (tr (?_))
    obtain rfl := Option.some.inj H
    exact ⟨_, _, _, fun w1 e1 => run_resR (vs := [.int .i64 (IntKind.i64.wrap ((IntKind.i64.wrap ((6 : Int) + (IntKind.i64.wrap ((IntKind.i64.wrap ((IntKind.i64.wrap (t4.2 + a0.Tasks)) + (1 : Int))) * (IntKind.i64.wrap ((IntKind.i64.wrap ((5 : Int) * (IntKind.i64.wrap ((IntKind.i64.wrap (Int.tdiv (IntKind.i64.wrap (t4.2 - (1 : Int))) a0.Fan)) + (1 : Int))))) + (24 : Int))))))) + (IntKind.i64.wrap ((8 : Int) * (IntKind.i64.wrap ((IntKind.i64.wrap (t4.1 + (IntKind.i64.wrap ((2 : Int) * a0.Tasks)))) + (1 : Int)))))))]) (FA.cons (rfl) (FA.nil)), HM, E, S.pick [] (by decide), ⟨rfl, rfl⟩⟩
  refine Wp_cond_false (congrArg Value.bool hb68) (Wp_skip (bn (tn ?_)))
  as_aux_lemma =>
  refine Wp_seq (Wp_region_lit (W_v (.int .i64 2) (x_assign rfl) rfl (Wl_nil (tn ?_))))
  refine Wp_ret ?_
  obtain rfl := Option.some.inj H
  exact ⟨_, _, _, fun w1 e1 => run_resR (vs := [.int .i64 2]) (FA.cons (rfl) (FA.nil)), HM, E, S.pick [] (by decide), ⟨rfl, rfl⟩⟩
def room_Rounds_l0 (a0 : api_Config) : Nat → Int → Int → Option ((Int))
  | 0, _, _ => none
  | k + 1, x19, x20 => (if (decide (x20 < (10 : Int))) = true then (Option.bind (room_Steps k a0 x20) (fun t29 => room_Rounds_l0 a0 k (imax x19 t29) (IntKind.u8.wrap (x20 + (1 : Int))))) else some (x19))
set_option maxHeartbeats 2000000 in
theorem room_Rounds_l0.mono {a0 : api_Config} : ∀ {kl : Nat} {x0 x1}, OLe (room_Rounds_l0 a0 kl x0 x1) (room_Rounds_l0 a0 (kl + 1) x0 x1) := by
  intro kl
  induction kl with
  | zero => intros; exact OLe.none
  | succ kl ih =>
    intros
    rw [room_Rounds_l0.eq_2, room_Rounds_l0.eq_2]
    repeat' (first | with_reducible exact OLe.none | with_reducible exact OLe.some | with_reducible refine OLe.ite ?_ ?_ | with_reducible refine OLe.bind ?_ (fun _ => ?_) | with_reducible exact room_Steps.mono | exact ih | refine OLe.bind ?_ (fun _ => ?_) | refine OLe.ite ?_ ?_ | refine OLe.elim (fun _ => ?_) (fun _ => ?_) | split)
def room_Rounds (k : Nat) (a0 : api_Config) : Option (Int) :=
  (Option.bind (text_May k a0) (fun t4 => (if (!t4) = true then some (0 : Int) else (Option.bind (room_Rounds_l0 a0 k (0 : Int) (0 : Int)) (fun x25 => some (IntKind.i64.wrap (a0.Tasks * x25)))))))
set_option maxHeartbeats 2000000 in
theorem room_Rounds.mono {k : Nat} {a0 : api_Config} : OLe (room_Rounds k a0) (room_Rounds (k + 1) a0) := by
  unfold room_Rounds
  repeat' (first | with_reducible exact OLe.none | with_reducible exact OLe.some | with_reducible refine OLe.ite ?_ ?_ | with_reducible refine OLe.bind ?_ (fun _ => ?_) | with_reducible exact room_Rounds_l0.mono | with_reducible exact text_May.mono | refine OLe.bind ?_ (fun _ => ?_) | refine OLe.ite ?_ ?_ | refine OLe.elim (fun _ => ?_) (fun _ => ?_) | split)
set_option maxHeartbeats 1000000 in
set_option maxRecDepth 100000 in
theorem room_Rounds.con (k : Nat) (M : Hp) (a0 : api_Config) (r : Int)  (h : room_Rounds k a0 = some r) : Con Tryd.prog 12 #[.agg #[.int .i64 a0.Tasks, .int .i64 a0.Active, .int .i64 a0.Keys, .int .i64 a0.Depth, .int .i64 a0.TS, .int .i64 a0.KeyLen, .int .i64 a0.ValLen, .int .i64 a0.Fan]] M [] (fun v M' Γ' => v = .int .i64 r ∧ Γ' = []) := by
  refine con_of_wp Tryd.func12 rfl Tryd.ntmps12 Tryd.results12 rfl ?_
  intro w F rn S hrn
  have E := Ext.refl w
  have HM := Hp.le_refl M
  have H := h
  unfold room_Rounds at H
  refine Wp_seq (Wp_region_lit ?_)
  refine W_box S #[.int .i64 a0.Tasks, .int .i64 a0.Active, .int .i64 a0.Keys, .int .i64 a0.Depth, .int .i64 a0.TS, .int .i64 a0.KeyLen, .int .i64 a0.ValLen, .int .i64 a0.Fan] rfl rfl rfl ?_
  intro b1 w2 E' S
  replace E := E.trans E'
  refine W_v (.int .i64 0) (x_assign rfl) rfl (Wl_nil (tn (Wp_seq (Wp_seq (Wp_region_lit (W_v (.agg #[.int .i64 a0.Tasks, .int .i64 a0.Active, .int .i64 a0.Keys, .int .i64 a0.Depth, .int .i64 a0.TS, .int .i64 a0.KeyLen, .int .i64 a0.ValLen, .int .i64 a0.Fan]) (x_loadA (S.blk 0 rfl) ty23 rfl (sub_of_extract rfl) rfl rfl) rfl ?_))))))
  obtain ⟨t4, ht5, H⟩ := bindS H
  refine W_callF fn21 (text_May.con k M a0 t4  ht5) S rfl rfl (by rintro _ _ _ ⟨_, rfl⟩; exact flat_nil) ?_
  rintro _ w6 _ Γ' E' S ⟨rfl, rfl⟩
  replace E := E.trans E'
  refine W_v (.bool (!t4)) (x_not (b := t4) rfl) rfl (Wl_nil (tn ?_))
  rcases iteS H with ⟨hb7, H⟩ | ⟨hb7, H⟩
  · refine Wp_cond_true (congrArg Value.bool hb7) ?_
    refine Wp_seq (Wp_region_lit (W_v (.int .i64 0) (x_assign rfl) rfl (Wl_nil (tn ?_))))
    refine Wp_ret ?_
    refine tr (?_)
    obtain rfl := Option.some.inj H
    exact ⟨_, _, _, fun w1 e1 => run_resR (vs := [.int .i64 0]) (FA.cons (rfl) (FA.nil)), HM, E, S.pick [] (by decide), ⟨rfl, rfl⟩⟩
  refine Wp_cond_false (congrArg Value.bool hb7) (Wp_skip (tn (Wp_seq (Wp_region_lit (W_v (.int .i64 0) (x_assign rfl) rfl (Wl_nil (tn (Wp_seq (Wp_seq (Wp_region_lit (W_v (.int .u8 0) (x_move rfl) rfl (Wl_nil (tn ?_)))))))))))))
  obtain ⟨o26, o26h, o26H⟩ := bindS H
  refine Wp_blockJ (fun ρ w' => ∃ (x25 : Int), (x25) = o26 ∧ Agree ρ [(1, pt b1 0), (3, .int .i64 x25)] ∧ Ext w w' ∧ St w' M F [B23 b1 a0]) ?_ ?_
  · skip
    refine Wp_loop (fun n ρ w' => ∃ (x19 : Int) (x20 : Int), room_Rounds_l0 a0 n x19 x20 = some o26 ∧ Agree ρ [(1, pt b1 0), (3, .int .i64 x19), (8, .int .u8 x20)] ∧ Ext w w' ∧ St w' M F [B23 b1 a0]) k ?_ ?_
    · skip
      exact ⟨(0 : Int), (0 : Int), o26h, ⟨rfl, rfl, rfl, trivial⟩, E, S.pick [0] (by decide)⟩
    · intro n
      rintro ρ w27 ⟨x19, x20, H, hρ, E, S⟩
      rw [agree_eta hρ]
      cases n with
      | zero => cases H
      | succ k =>
        rw [room_Rounds_l0.eq_2] at H
        refine Wp_seq (Wp_region_lit (W_v (.bool (decide (x20 < (10 : Int)))) (x_ibin rfl rfl rfl rfl) rfl (Wl_nil (tn (Wp_seq ?_)))))
        rcases iteS H with ⟨hb28, H⟩ | ⟨hb28, H⟩
        · refine Wp_cond_true (congrArg Value.bool hb28) ?_
          refine Wp_skip (tn (Wp_seq ?_))
          refine Wp_block ?_
          refine Wp_seq (Wp_region_lit (W_v (.int .u8 x20) (x_move rfl) rfl (W_v (.int .u8 x20) (x_assign rfl) rfl (Wl_nil (tn (Wp_region_lit (W_v (.int .i64 x19) (x_move rfl) rfl (W_v (.agg #[.int .i64 a0.Tasks, .int .i64 a0.Active, .int .i64 a0.Keys, .int .i64 a0.Depth, .int .i64 a0.TS, .int .i64 a0.KeyLen, .int .i64 a0.ValLen, .int .i64 a0.Fan]) (x_loadA (S.blk 0 rfl) ty23 rfl (sub_of_extract rfl) rfl rfl) rfl (W_v (.int .u8 x20) (x_move rfl) rfl ?_)))))))))
          obtain ⟨t29, ht30, H⟩ := bindS H
          refine W_callF fn11 (room_Steps.con k M a0 x20 t29  ht30) S rfl rfl (by rintro _ _ _ ⟨_, rfl⟩; exact flat_nil) ?_
          rintro _ w31 _ Γ' E' S ⟨rfl, rfl⟩
          replace E := E.trans E'
          refine W_v (.int .i64 (imax x19 t29)) (x_max2 rfl rfl) rfl (W_v (.int .i64 (imax x19 t29)) (x_assign rfl) rfl (Wl_nil (bn (tn (Wp_region_lit (W_v (.int .u8 (IntKind.u8.wrap (x20 + (1 : Int)))) (x_ibin rfl rfl rfl rfl) rfl (W_v (.int .u8 (IntKind.u8.wrap (x20 + (1 : Int)))) (x_move rfl) rfl (Wl_nil (tn ?_)))))))))
          exact ⟨k, Nat.lt_succ_self k, ⟨(imax x19 t29), (IntKind.u8.wrap (x20 + (1 : Int))), H, ⟨rfl, rfl, rfl, trivial⟩, E, S.pick [0] (by decide)⟩⟩
        refine Wp_cond_false (congrArg Value.bool hb28) ?_
        refine Wp_exit ?_
        refine tx (tx (bsm (?_)))
        refine tn ?_
        exact ⟨x19, Option.some.inj H, ⟨rfl, rfl, trivial⟩, E, S.pick [0] (by decide)⟩
  rintro ρ w32 ⟨x25, rfl, hρ, E, S⟩
  rw [agree_eta hρ]
  have H := o26H
  refine tn ?_
  as_aux_lemma =>
  refine Wp_seq (Wp_region_lit (W_v (pt b1 0) (x_fieldAddr (o := 0) (off := 0) Tryd.underlying23 rfl ty3 rfl rfl) rfl (W_v (.int .i64 a0.Tasks) (x_load (S.blk 0 rfl) ty3 rfl rfl) rfl (W_v (.int .i64 x25) (x_move rfl) rfl (W_v (.int .i64 (IntKind.i64.wrap (a0.Tasks * x25))) (x_ibin rfl rfl rfl rfl) rfl (W_v (.int .i64 (IntKind.i64.wrap (a0.Tasks * x25))) (x_assign rfl) rfl (Wl_nil (tn ?_))))))))
  refine Wp_ret ?_
  obtain rfl := Option.some.inj H
  exact ⟨_, _, _, fun w1 e1 => run_resR (vs := [.int .i64 (IntKind.i64.wrap (a0.Tasks * x25))]) (FA.cons (rfl) (FA.nil)), HM, E, S.pick [] (by decide), ⟨rfl, rfl⟩⟩
def replay_May_1_v (k : Nat) (a0 : (List api_Call)) : Option (Bool) :=
  some (decide ((a0.length : Int) > (64 : Int)))
set_option maxHeartbeats 2000000 in
theorem replay_May_1_v.mono {k : Nat} {a0 : (List api_Call)} : OLe (replay_May_1_v k a0) (replay_May_1_v (k + 1) a0) := by
  unfold replay_May_1_v
  repeat' (first | with_reducible exact OLe.none | with_reducible exact OLe.some | with_reducible refine OLe.ite ?_ ?_ | with_reducible refine OLe.bind ?_ (fun _ => ?_) | refine OLe.bind ?_ (fun _ => ?_) | refine OLe.ite ?_ ?_ | refine OLe.elim (fun _ => ?_) (fun _ => ?_) | split)
set_option maxHeartbeats 4000000 in
set_option maxRecDepth 100000 in
theorem replay_May_1_v.con (k : Nat) (M : Hp) (A0 : Option Addr) (c0 : Nat) (a0 : (List api_Call)) (r : Bool) (hr0 : SlR r_api_Call M (.slice A0 a0.length c0) a0) (h : replay_May_1_v k a0 = some r) : Con Tryd.prog 52 #[.slice A0 a0.length c0] M [] (fun v M' Γ' => v = .bool r ∧ Γ' = []) := by
  refine con_of_wp Tryd.func52 rfl Tryd.ntmps52 Tryd.results52 rfl ?_
  intro w F rn S hrn
  have E := Ext.refl w
  have HM := Hp.le_refl M
  have H := h
  unfold replay_May_1_v at H
  refine Wp_seq (Wp_region_lit (W_v (.bool false) (x_assign rfl) rfl (Wl_nil (tn (Wp_seq (Wp_region_lit (W_v (.slice A0 a0.length c0) (x_move rfl) rfl (W_v (.int .i64 (a0.length : Int)) (x_len_slice (n := a0.length) Tryd.underlying43 rfl) rfl (W_v (.bool (decide ((a0.length : Int) > (64 : Int)))) (x_ibin rfl rfl rfl rfl) rfl (W_v (.bool (decide ((a0.length : Int) > (64 : Int)))) (x_assign rfl) rfl (Wl_nil (tn ?_))))))))))))
  refine Wp_ret ?_
  obtain rfl := Option.some.inj H
  exact ⟨_, _, _, fun w1 e1 => run_resR (vs := [.bool (decide ((a0.length : Int) > (64 : Int)))]) (FA.cons (rfl) (FA.nil)), HM, E, S.pick [] (by decide), ⟨rfl, rfl⟩⟩
def slices_IndexFunc_api_Call_api_Call_May_1_l0 (a0 : (List (List api_Call))) : Nat → Int → Option ((Int) ⊕ (Unit))
  | 0, _ => none
  | k + 1, x45 => (if (decide (x45 < (a0.length : Int))) = true then (if 0 ≤ x45 ∧ x45 < (a0.length : Int) then (Option.bind (replay_May_1_v k (rd a0 x45)) (fun t84 => (if t84 = true then some (.inl x45) else slices_IndexFunc_api_Call_api_Call_May_1_l0 a0 k (IntKind.i64.wrap (x45 + (1 : Int)))))) else none) else some (.inr ()))
set_option maxHeartbeats 2000000 in
theorem slices_IndexFunc_api_Call_api_Call_May_1_l0.mono {a0 : (List (List api_Call))} : ∀ {kl : Nat} {x0}, OLe (slices_IndexFunc_api_Call_api_Call_May_1_l0 a0 kl x0) (slices_IndexFunc_api_Call_api_Call_May_1_l0 a0 (kl + 1) x0) := by
  intro kl
  induction kl with
  | zero => intros; exact OLe.none
  | succ kl ih =>
    intros
    rw [slices_IndexFunc_api_Call_api_Call_May_1_l0.eq_2, slices_IndexFunc_api_Call_api_Call_May_1_l0.eq_2]
    repeat' (first | with_reducible exact OLe.none | with_reducible exact OLe.some | with_reducible refine OLe.ite ?_ ?_ | with_reducible refine OLe.bind ?_ (fun _ => ?_) | with_reducible exact replay_May_1_v.mono | exact ih | refine OLe.bind ?_ (fun _ => ?_) | refine OLe.ite ?_ ?_ | refine OLe.elim (fun _ => ?_) (fun _ => ?_) | split)
def slices_IndexFunc_api_Call_api_Call_May_1 (k : Nat) (a0 : (List (List api_Call))) : Option (Int) :=
  (Option.bind (slices_IndexFunc_api_Call_api_Call_May_1_l0 a0 k (0 : Int)) (fun o67o => Sum.elim (fun r' => some r') (fun _ => some (-1 : Int)) o67o))
set_option maxHeartbeats 2000000 in
theorem slices_IndexFunc_api_Call_api_Call_May_1.mono {k : Nat} {a0 : (List (List api_Call))} : OLe (slices_IndexFunc_api_Call_api_Call_May_1 k a0) (slices_IndexFunc_api_Call_api_Call_May_1 (k + 1) a0) := by
  unfold slices_IndexFunc_api_Call_api_Call_May_1
  repeat' (first | with_reducible exact OLe.none | with_reducible exact OLe.some | with_reducible refine OLe.ite ?_ ?_ | with_reducible refine OLe.bind ?_ (fun _ => ?_) | with_reducible exact slices_IndexFunc_api_Call_api_Call_May_1_l0.mono | refine OLe.bind ?_ (fun _ => ?_) | refine OLe.ite ?_ ?_ | refine OLe.elim (fun _ => ?_) (fun _ => ?_) | split)
set_option maxHeartbeats 4000000 in
set_option maxRecDepth 100000 in
theorem slices_IndexFunc_api_Call_api_Call_May_1.con (k : Nat) (M : Hp) (A0 : Option Addr) (c0 : Nat) (a0 : (List (List api_Call))) (r : Int) (hr0 : SlR (rSl r_api_Call) M (.slice A0 a0.length c0) a0) (h : slices_IndexFunc_api_Call_api_Call_May_1 k a0 = some r) : Con Tryd.prog 66 #[.slice A0 a0.length c0, .func (.func 52) #[] #[]] M [] (fun v M' Γ' => v = .int .i64 r ∧ Γ' = []) := by
  refine con_of_wp Tryd.func66 rfl Tryd.ntmps66 Tryd.results66 rfl ?_
  intro w F rn S hrn
  have E := Ext.refl w
  have HM := Hp.le_refl M
  have H := h
  unfold slices_IndexFunc_api_Call_api_Call_May_1 at H
  refine Wp_seq (Wp_region_lit (W_v (.int .i64 0) (x_assign rfl) rfl (Wl_nil (tn (Wp_seq (Wp_seq (Wp_region_lit (W_v (.slice A0 a0.length c0) (x_move rfl) rfl (W_v (.int .i64 (a0.length : Int)) (x_len_slice (n := a0.length) Tryd.underlying44 rfl) rfl (W_v (.int .i64 0) (x_move rfl) rfl (Wl_nil (tn ?_))))))))))))
  obtain ⟨o67, o67h, o67H⟩ := bindS H
  refine Wp_blockJ (fun ρ w' => .inr () = o67 ∧ Agree ρ [] ∧ Ext w w' ∧ St w' M F []) ?_ ?_
  · skip
    refine Wp_loop (fun n ρ w' => ∃ (x45 : Int), slices_IndexFunc_api_Call_api_Call_May_1_l0 a0 n x45 = some o67 ∧ Agree ρ [(0, .slice A0 a0.length c0), (1, .func (.func 52) #[] #[]), (7, .int .i64 (a0.length : Int)), (8, .int .i64 x45)] ∧ Ext w w' ∧ St w' M F []) k ?_ ?_
    · skip
      exact ⟨(0 : Int), o67h, ⟨rfl, rfl, rfl, rfl, trivial⟩, E, S.pick [] (by decide)⟩
    · intro n
      rintro ρ w68 ⟨x45, H, hρ, E, S⟩
      rw [agree_eta hρ]
      cases n with
      | zero => cases H
      | succ k =>
        rw [slices_IndexFunc_api_Call_api_Call_May_1_l0.eq_2] at H
        refine Wp_seq (Wp_region_lit (W_v (.bool (decide (x45 < (a0.length : Int)))) (x_ibin rfl rfl rfl rfl) rfl (Wl_nil (tn (Wp_seq ?_)))))
        rcases iteS H with ⟨hb69, H⟩ | ⟨hb69, H⟩
        · refine Wp_cond_true (congrArg Value.bool hb69) ?_
          refine Wp_skip (tn (Wp_seq ?_))
          refine Wp_block ?_
          refine Wp_seq (Wp_region_lit (W_v (.int .i64 x45) (x_move rfl) rfl (W_v (.int .i64 x45) (x_assign rfl) rfl (Wl_nil (tn (Wp_seq (Wp_region_lit (W_v (.func (.func 52) #[] #[]) (x_move rfl) rfl (W_v (.slice A0 a0.length c0) (x_move rfl) rfl (W_v (.int .i64 x45) (x_move rfl) rfl ?_))))))))))
          obtain ⟨⟨p70, p71⟩, H⟩ := chkS H
          obtain ⟨b72, o73, cs74, _, _, ee79, hb75, vs76, hR77, hc78⟩ := SlW.at' hr0 p70 p71
          obtain ⟨v83, hs82, rfl⟩ := hR77
          obtain ⟨A80, c81, rfl, _⟩ := hs82.form
          refine W_v (.pointer (some ⟨b72, o73 + x45.toNat * 1, none⟩)) (x_indexAddr Tryd.underlying44 ty43 (slA ee79) rfl p70 p71) rfl (W_v (.slice A80 (rd a0 x45).length c81) (x_load (S.frz hb75) ty43 rfl (hc78 0 _ rfl)) rfl ?_)
          obtain ⟨t84, ht85, H⟩ := bindS H
          refine W_callvF2 (fs := []) (cap := []) fn52 rfl (replay_May_1_v.con k M A80 c81 (rd a0 x45) t84 hs82 ht85) (Γ1 := []) (Γ2 := []) S rfl rfl (by rintro _ _ _ ⟨rfl, rfl⟩; exact flat_nil) ?_
          rintro _ w86 _ Γ' E' S ⟨rfl, rfl⟩
          replace E := E.trans E'
          replace S : St w86 M F [] := S
          refine Wl_nil (tn ?_)
          rcases iteS H with ⟨hb89, H⟩ | ⟨hb89, H⟩
          · refine Wp_cond_true (congrArg Value.bool hb89) ?_
            refine Wp_seq (Wp_region_lit (W_v (.int .i64 x45) (x_move rfl) rfl (W_v (.int .i64 x45) (x_assign rfl) rfl (Wl_nil (tn ?_)))))
            refine Wp_ret ?_
            refine br (tr (tr (br (tr (tr (?_))))))
            obtain rfl := Option.some.inj H
            have H := o67H
            replace H := elimL H
            obtain rfl := Option.some.inj H
            exact ⟨_, _, _, fun w1 e1 => run_resR (vs := [.int .i64 x45]) (FA.cons (rfl) (FA.nil)), HM, E, S.pick [] (by decide), ⟨rfl, rfl⟩⟩
          refine Wp_cond_false (congrArg Value.bool hb89) (Wp_skip (bn (tn (Wp_region_lit (W_v (.int .i64 (IntKind.i64.wrap (x45 + (1 : Int)))) (x_ibin rfl rfl rfl rfl) rfl (W_v (.int .i64 (IntKind.i64.wrap (x45 + (1 : Int)))) (x_move rfl) rfl (Wl_nil (tn ?_))))))))
          exact ⟨k, Nat.lt_succ_self k, ⟨(IntKind.i64.wrap (x45 + (1 : Int))), H, ⟨rfl, rfl, rfl, rfl, trivial⟩, E, S.pick [] (by decide)⟩⟩
        refine Wp_cond_false (congrArg Value.bool hb69) ?_
        refine Wp_exit ?_
        refine tx (tx (bsm (?_)))
        refine tn ?_
        exact ⟨Option.some.inj H, trivial, E, S.pick [] (by decide)⟩
  rintro ρ w90 ⟨rfl, hρ, E, S⟩
  rw [agree_eta hρ]
  have H := o67H
  replace H := elimR H
  refine tn ?_
  as_aux_lemma =>
  refine Wp_seq (Wp_region_lit (W_v (.int .i64 (-1)) (x_assign rfl) rfl (Wl_nil (tn ?_))))
  refine Wp_ret ?_
  obtain rfl := Option.some.inj H
  exact ⟨_, _, _, fun w1 e1 => run_resR (vs := [.int .i64 (-1)]) (FA.cons (rfl) (FA.nil)), HM, E, S.pick [] (by decide), ⟨rfl, rfl⟩⟩
def slices_ContainsFunc_api_Call_api_Call_May_1 (k : Nat) (a0 : (List (List api_Call))) : Option (Bool) :=
  (Option.bind (slices_IndexFunc_api_Call_api_Call_May_1 k a0) (fun t1 => some (decide (t1 ≥ (0 : Int)))))
set_option maxHeartbeats 2000000 in
theorem slices_ContainsFunc_api_Call_api_Call_May_1.mono {k : Nat} {a0 : (List (List api_Call))} : OLe (slices_ContainsFunc_api_Call_api_Call_May_1 k a0) (slices_ContainsFunc_api_Call_api_Call_May_1 (k + 1) a0) := by
  unfold slices_ContainsFunc_api_Call_api_Call_May_1
  repeat' (first | with_reducible exact OLe.none | with_reducible exact OLe.some | with_reducible refine OLe.ite ?_ ?_ | with_reducible refine OLe.bind ?_ (fun _ => ?_) | with_reducible exact slices_IndexFunc_api_Call_api_Call_May_1.mono | refine OLe.bind ?_ (fun _ => ?_) | refine OLe.ite ?_ ?_ | refine OLe.elim (fun _ => ?_) (fun _ => ?_) | split)
set_option maxHeartbeats 4000000 in
set_option maxRecDepth 100000 in
theorem slices_ContainsFunc_api_Call_api_Call_May_1.con (k : Nat) (M : Hp) (A0 : Option Addr) (c0 : Nat) (a0 : (List (List api_Call))) (r : Bool) (hr0 : SlR (rSl r_api_Call) M (.slice A0 a0.length c0) a0) (h : slices_ContainsFunc_api_Call_api_Call_May_1 k a0 = some r) : Con Tryd.prog 51 #[.slice A0 a0.length c0, .func (.func 52) #[] #[]] M [] (fun v M' Γ' => v = .bool r ∧ Γ' = []) := by
  refine con_of_wp Tryd.func51 rfl Tryd.ntmps51 Tryd.results51 rfl ?_
  intro w F rn S hrn
  have E := Ext.refl w
  have HM := Hp.le_refl M
  have H := h
  unfold slices_ContainsFunc_api_Call_api_Call_May_1 at H
  refine Wp_seq (Wp_region_lit (W_v (.bool false) (x_assign rfl) rfl (Wl_nil (tn (Wp_seq (Wp_region_lit (W_v (.slice A0 a0.length c0) (x_move rfl) rfl (W_v (.func (.func 52) #[] #[]) (x_move rfl) rfl ?_))))))))
  obtain ⟨t1, ht2, H⟩ := bindS H
  refine W_callF2 fn66 (slices_IndexFunc_api_Call_api_Call_May_1.con k M A0 c0 a0 t1 hr0 ht2) (Γ1 := []) (Γ2 := []) S rfl rfl (by rintro _ _ _ ⟨rfl, rfl⟩; exact flat_nil) ?_
  rintro _ w3 _ Γ' E' S ⟨rfl, rfl⟩
  replace E := E.trans E'
  replace S : St w3 M F [] := S
  refine W_v (.bool (decide (t1 ≥ (0 : Int)))) (x_ibin rfl rfl rfl rfl) rfl (W_v (.bool (decide (t1 ≥ (0 : Int)))) (x_assign rfl) rfl (Wl_nil (tn ?_)))
  refine Wp_ret ?_
  obtain rfl := Option.some.inj H
  exact ⟨_, _, _, fun w1 e1 => run_resR (vs := [.bool (decide (t1 ≥ (0 : Int)))]) (FA.cons (rfl) (FA.nil)), HM, E, S.pick [] (by decide), ⟨rfl, rfl⟩⟩
def replay_May (k : Nat) (a0 : api_Config) (a1 : (List (List api_Call))) : Option (Bool) :=
  (Option.bind (text_May k a0) (fun t4 => (Option.bind (α := Bool) (if (t4 && (decide ((a1.length : Int) ≤ a0.Tasks))) = true then (Option.bind (slices_ContainsFunc_api_Call_api_Call_May_1 k a1) (fun t21 => some ((!t21)))) else some (false)) (fun x19 => some x19))))
set_option maxHeartbeats 2000000 in
theorem replay_May.mono {k : Nat} {a0 : api_Config} {a1 : (List (List api_Call))} : OLe (replay_May k a0 a1) (replay_May (k + 1) a0 a1) := by
  unfold replay_May
  repeat' (first | with_reducible exact OLe.none | with_reducible exact OLe.some | with_reducible refine OLe.ite ?_ ?_ | with_reducible refine OLe.bind ?_ (fun _ => ?_) | with_reducible exact slices_ContainsFunc_api_Call_api_Call_May_1.mono | with_reducible exact text_May.mono | refine OLe.bind ?_ (fun _ => ?_) | refine OLe.ite ?_ ?_ | refine OLe.elim (fun _ => ?_) (fun _ => ?_) | split)
set_option maxHeartbeats 1000000 in
set_option maxRecDepth 100000 in
theorem replay_May.con (k : Nat) (M : Hp) (a0 : api_Config) (A1 : Option Addr) (c1 : Nat) (a1 : (List (List api_Call))) (r : Bool) (hr1 : SlR (rSl r_api_Call) M (.slice A1 a1.length c1) a1) (h : replay_May k a0 a1 = some r) : Con Tryd.prog 39 #[.agg #[.int .i64 a0.Tasks, .int .i64 a0.Active, .int .i64 a0.Keys, .int .i64 a0.Depth, .int .i64 a0.TS, .int .i64 a0.KeyLen, .int .i64 a0.ValLen, .int .i64 a0.Fan], .slice A1 a1.length c1] M [] (fun v M' Γ' => v = .bool r ∧ Γ' = []) := by
  refine con_of_wp Tryd.func39 rfl Tryd.ntmps39 Tryd.results39 rfl ?_
  intro w F rn S hrn
  have E := Ext.refl w
  have HM := Hp.le_refl M
  have H := h
  unfold replay_May at H
  refine Wp_seq (Wp_region_lit ?_)
  refine W_box S #[.int .i64 a0.Tasks, .int .i64 a0.Active, .int .i64 a0.Keys, .int .i64 a0.Depth, .int .i64 a0.TS, .int .i64 a0.KeyLen, .int .i64 a0.ValLen, .int .i64 a0.Fan] rfl rfl rfl ?_
  intro b1 w2 E' S
  replace E := E.trans E'
  refine W_v (.bool false) (x_assign rfl) rfl (Wl_nil (tn (Wp_seq (Wp_region_lit (W_v (.agg #[.int .i64 a0.Tasks, .int .i64 a0.Active, .int .i64 a0.Keys, .int .i64 a0.Depth, .int .i64 a0.TS, .int .i64 a0.KeyLen, .int .i64 a0.ValLen, .int .i64 a0.Fan]) (x_loadA (S.blk 0 rfl) ty23 rfl (sub_of_extract rfl) rfl rfl) rfl ?_)))))
  obtain ⟨t4, ht5, H⟩ := bindS H
  refine W_callF fn21 (text_May.con k M a0 t4  ht5) S rfl rfl (by rintro _ _ _ ⟨_, rfl⟩; exact flat_nil) ?_
  rintro _ w6 _ Γ' E' S ⟨rfl, rfl⟩
  replace E := E.trans E'
  refine W_v (.bool t4) (x_move rfl) rfl ?_
  refine Wl_cutN 6 (fun ρ w' => Agree ρ [(1, .slice A1 a1.length c1), (13, .bool (t4 && (decide ((a1.length : Int) ≤ a0.Tasks))))] ∧ w6 = w') ?_ ?_
  · rcases boolCases t4 with hb7 | hb7
    · skip
      refine W_no (skT hb7) rfl (W_no (skT hb7) rfl (W_no (skT hb7) rfl (W_no (skT hb7) rfl (W_no (skT hb7) rfl (W_v (.bool false) (x_pick (k := false) (congrArg Value.bool hb7) rfl) rfl (Wl_nil ?_))))))
      exact ⟨⟨rfl, (by first | rfl | (rw [hb7]; rfl) | (simp only [hb7]; rfl)), trivial⟩, rfl⟩
    · skip
      refine W_yes (congrArg some hb7) (W_v (.slice A1 a1.length c1) (x_move rfl) rfl (W_yes (congrArg some hb7) (W_v (.int .i64 (a1.length : Int)) (x_len_slice (n := a1.length) Tryd.underlying44 rfl) rfl (W_yes (congrArg some hb7) (W_v (pt b1 0) (x_fieldAddr (o := 0) (off := 0) Tryd.underlying23 rfl ty3 rfl rfl) rfl (W_yes (congrArg some hb7) (W_v (.int .i64 a0.Tasks) (x_load (S.blk 0 rfl) ty3 rfl rfl) rfl (W_yes (congrArg some hb7) (W_v (.bool (decide ((a1.length : Int) ≤ a0.Tasks))) (x_ibin rfl rfl rfl rfl) rfl (W_v (.bool (decide ((a1.length : Int) ≤ a0.Tasks))) (x_pick (k := true) (congrArg Value.bool hb7) rfl) rfl (Wl_nil ?_)))))))))))
      exact ⟨⟨rfl, (by first | rfl | (rw [hb7]; rfl) | (simp only [hb7]; rfl)), trivial⟩, rfl⟩
  rintro ρ _ ⟨hρ, rfl⟩
  rw [agree_eta hρ]
  refine W_v (.bool (t4 && (decide ((a1.length : Int) ≤ a0.Tasks)))) (x_move rfl) rfl ?_
  obtain ⟨o20, o20h, o20H⟩ := bindS H
  refine Wl_cutN 4 (fun ρ w' => ∃ (x19 : Bool), (x19) = o20 ∧ Agree ρ [(18, .bool x19)] ∧ Ext w w' ∧ St w' M F []) ?_ ?_
  · have H := o20h
    rcases iteS H with ⟨hb18, H⟩ | ⟨hb18, H⟩
    · skip
      refine W_yes (congrArg some hb18) (W_v (.slice A1 a1.length c1) (x_move rfl) rfl (W_yes (congrArg some hb18) ?_))
      obtain ⟨t21, ht22, H⟩ := bindS H
      refine W_callF2 fn51 (slices_ContainsFunc_api_Call_api_Call_May_1.con k M A1 c1 a1 t21 hr1 ht22) (Γ1 := []) (Γ2 := [_]) S rfl rfl (by rintro _ _ _ ⟨rfl, rfl⟩; exact flat_nil) ?_
      rintro _ w23 _ Γ' E' S ⟨rfl, rfl⟩
      replace E := E.trans E'
      replace S : St w23 M F [_] := S
      refine W_yes (congrArg some hb18) (W_v (.bool (!t21)) (x_not (b := t21) rfl) rfl (W_v (.bool (!t21)) (x_pick (k := true) (congrArg Value.bool hb18) rfl) rfl (Wl_nil ?_)))
      exact ⟨(!t21), Option.some.inj H, ⟨rfl, trivial⟩, E, S.pick [] (by decide)⟩
    · skip
      refine W_no (skT hb18) rfl (W_no (skT hb18) rfl (W_no (skT hb18) rfl (W_v (.bool false) (x_pick (k := false) (congrArg Value.bool hb18) rfl) rfl (Wl_nil ?_))))
      exact ⟨false, Option.some.inj H, ⟨rfl, trivial⟩, E, S.pick [] (by decide)⟩
  rintro ρ w26 ⟨x19, rfl, hρ, E, S⟩
  rw [agree_eta hρ]
  have H := o20H
  refine W_v (.bool x19) (x_assign rfl) rfl (Wl_nil (tn ?_))
  refine Wp_ret ?_
  obtain rfl := Option.some.inj H
  exact ⟨_, _, _, fun w1 e1 => run_resR (vs := [.bool x19]) (FA.cons (rfl) (FA.nil)), HM, E, S.pick [] (by decide), ⟨rfl, rfl⟩⟩
def model_needs (k : Nat) (a0 : Int) : Option (Bool) :=
  some (((a0 != (1 : Int)) && (a0 != (8 : Int))) && (a0 != (9 : Int)))
set_option maxHeartbeats 2000000 in
theorem model_needs.mono {k : Nat} {a0 : Int} : OLe (model_needs k a0) (model_needs (k + 1) a0) := by
  unfold model_needs
  repeat' (first | with_reducible exact OLe.none | with_reducible exact OLe.some | with_reducible refine OLe.ite ?_ ?_ | with_reducible refine OLe.bind ?_ (fun _ => ?_) | refine OLe.bind ?_ (fun _ => ?_) | refine OLe.ite ?_ ?_ | refine OLe.elim (fun _ => ?_) (fun _ => ?_) | split)
set_option maxHeartbeats 1000000 in
set_option maxRecDepth 100000 in
theorem model_needs.con (k : Nat) (M : Hp) (a0 : Int) (r : Bool)  (h : model_needs k a0 = some r) : Con Tryd.prog 37 #[.int .u8 a0] M [] (fun v M' Γ' => v = .bool r ∧ Γ' = []) := by
  refine con_of_wp Tryd.func37 rfl Tryd.ntmps37 Tryd.results37 rfl ?_
  intro w F rn S hrn
  have E := Ext.refl w
  have HM := Hp.le_refl M
  have H := h
  unfold model_needs at H
  refine Wp_seq (Wp_region_lit (W_v (.bool false) (x_assign rfl) rfl (Wl_nil (tn (Wp_seq (Wp_region_lit (W_v (.int .u8 a0) (x_move rfl) rfl (W_v (.bool (a0 != (1 : Int))) (x_ibin rfl rfl rfl rfl) rfl (W_v (.bool (a0 != (1 : Int))) (x_move rfl) rfl ?_)))))))))
  refine Wl_cutN 3 (fun ρ w' => Agree ρ [(0, .int .u8 a0), (8, .bool ((a0 != (1 : Int)) && (a0 != (8 : Int))))] ∧ w = w') ?_ ?_
  · rcases boolCases (a0 != (1 : Int)) with hb1 | hb1
    · skip
      refine W_no (skT hb1) rfl (W_no (skT hb1) rfl (W_v (.bool false) (x_pick (k := false) (congrArg Value.bool hb1) rfl) rfl (Wl_nil ?_)))
      exact ⟨⟨rfl, (by first | rfl | (rw [hb1]; rfl) | (simp only [hb1]; rfl)), trivial⟩, rfl⟩
    · skip
      refine W_yes (congrArg some hb1) (W_v (.int .u8 a0) (x_move rfl) rfl (W_yes (congrArg some hb1) (W_v (.bool (a0 != (8 : Int))) (x_ibin rfl rfl rfl rfl) rfl (W_v (.bool (a0 != (8 : Int))) (x_pick (k := true) (congrArg Value.bool hb1) rfl) rfl (Wl_nil ?_)))))
      exact ⟨⟨rfl, (by first | rfl | (rw [hb1]; rfl) | (simp only [hb1]; rfl)), trivial⟩, rfl⟩
  rintro ρ _ ⟨hρ, rfl⟩
  rw [agree_eta hρ]
  refine W_v (.bool ((a0 != (1 : Int)) && (a0 != (8 : Int)))) (x_move rfl) rfl ?_
  refine Wl_cutN 3 (fun ρ w' => Agree ρ [(12, .bool (((a0 != (1 : Int)) && (a0 != (8 : Int))) && (a0 != (9 : Int))))] ∧ w = w') ?_ ?_
  · rcases boolCases ((a0 != (1 : Int)) && (a0 != (8 : Int))) with hb2 | hb2
    · skip
      refine W_no (skT hb2) rfl (W_no (skT hb2) rfl (W_v (.bool false) (x_pick (k := false) (congrArg Value.bool hb2) rfl) rfl (Wl_nil ?_)))
      exact ⟨⟨(by first | rfl | (rw [hb2]; rfl) | (simp only [hb2]; rfl)), trivial⟩, rfl⟩
    · skip
      refine W_yes (congrArg some hb2) (W_v (.int .u8 a0) (x_move rfl) rfl (W_yes (congrArg some hb2) (W_v (.bool (a0 != (9 : Int))) (x_ibin rfl rfl rfl rfl) rfl (W_v (.bool (a0 != (9 : Int))) (x_pick (k := true) (congrArg Value.bool hb2) rfl) rfl (Wl_nil ?_)))))
      exact ⟨⟨(by first | rfl | (rw [hb2]; rfl) | (simp only [hb2]; rfl)), trivial⟩, rfl⟩
  rintro ρ _ ⟨hρ, rfl⟩
  rw [agree_eta hρ]
  refine W_v (.bool (((a0 != (1 : Int)) && (a0 != (8 : Int))) && (a0 != (9 : Int)))) (x_assign rfl) rfl (Wl_nil (tn ?_))
  refine Wp_ret ?_
  obtain rfl := Option.some.inj H
  exact ⟨_, _, _, fun w1 e1 => run_resR (vs := [.bool (((a0 != (1 : Int)) && (a0 != (8 : Int))) && (a0 != (9 : Int)))]) (FA.cons (rfl) (FA.nil)), HM, E, S.pick [] (by decide), ⟨rfl, rfl⟩⟩
def text_length_v (k : Nat) (a0 : api_Config) (a1 : Int) (a2 : Int) : Option (Unit) :=
  some ()
set_option maxHeartbeats 2000000 in
theorem text_length_v.mono {k : Nat} {a0 : api_Config} {a1 : Int} {a2 : Int} : OLe (text_length_v k a0 a1 a2) (text_length_v (k + 1) a0 a1 a2) := by
  unfold text_length_v
  repeat' (first | with_reducible exact OLe.none | with_reducible exact OLe.some | with_reducible refine OLe.ite ?_ ?_ | with_reducible refine OLe.bind ?_ (fun _ => ?_) | refine OLe.bind ?_ (fun _ => ?_) | refine OLe.ite ?_ ?_ | refine OLe.elim (fun _ => ?_) (fun _ => ?_) | split)
set_option maxHeartbeats 4000000 in
set_option maxRecDepth 100000 in
theorem text_length_v.con (k : Nat) (M : Hp) (a0 : api_Config) (a1 : Int) (a2 : Int) (r : Unit)  (h : text_length_v k a0 a1 a2 = some r) : Con Tryd.prog 65 #[.agg #[.int .i64 a0.Tasks, .int .i64 a0.Active, .int .i64 a0.Keys, .int .i64 a0.Depth, .int .i64 a0.TS, .int .i64 a0.KeyLen, .int .i64 a0.ValLen, .int .i64 a0.Fan], .int .i64 a1, .int .i64 a2] M [] (fun v M' Γ' => ∃ (bq1 : Nat) (bq3 : Nat) (bq5 : Nat), v = .func (.func 72) #[] #[pt bq1 0, pt bq3 0, pt bq5 0] ∧ Γ' = [B23 bq1 a0, Blk bq3 (.cells #[.int .i64 a1] 3 (0, 0)), Blk bq5 (.cells #[.int .i64 a2] 3 (0, 0))]) := by
  refine con_of_wp Tryd.func65 rfl Tryd.ntmps65 Tryd.results65 rfl ?_
  intro w F rn S hrn
  have E := Ext.refl w
  have HM := Hp.le_refl M
  have H := h
  unfold text_length_v at H
  refine Wp_seq (Wp_region_lit ?_)
  refine W_box S #[.int .i64 a0.Tasks, .int .i64 a0.Active, .int .i64 a0.Keys, .int .i64 a0.Depth, .int .i64 a0.TS, .int .i64 a0.KeyLen, .int .i64 a0.ValLen, .int .i64 a0.Fan] rfl rfl rfl ?_
  intro b1 w2 E' S
  replace E := E.trans E'
  refine W_box S #[.int .i64 a1] rfl rfl rfl ?_
  intro b4 w5 E' S
  replace E := E.trans E'
  refine W_box S #[.int .i64 a2] rfl rfl rfl ?_
  intro b7 w8 E' S
  replace E := E.trans E'
  refine W_v (.nilFunc) (x_assign rfl) rfl (Wl_nil (tn (Wp_seq (Wp_region_lit (W_v (.func (.func 72) #[] #[pt b1 0, pt b4 0, pt b7 0]) (x_makeFunc rfl) rfl (W_v (.func (.func 72) #[] #[pt b1 0, pt b4 0, pt b7 0]) (x_assign rfl) rfl (Wl_nil (tn ?_))))))))
  refine Wp_ret ?_
  obtain rfl := Option.some.inj H
  exact ⟨_, _, _, fun w1 e1 => run_resR (vs := [.func (.func 72) #[] #[pt b1 0, pt b4 0, pt b7 0]]) (FA.cons (rfl) (FA.nil)), HM, E, S.pick [2, 1, 0] (by decide), ⟨b1, b4, b7, rfl, rfl⟩⟩
def text_length_1 (k : Nat) (a0 : Str) (ac_0 : api_Config) (ac_1 : Int) (ac_2 : Int) : Option (Bool) :=
  (Option.bind (text_May k ac_0) (fun t1 => some ((t1 && (decide ((a0.length : Int) ≥ ac_1))) && (decide ((a0.length : Int) ≤ ac_2)))))
set_option maxHeartbeats 2000000 in
theorem text_length_1.mono {k : Nat} {a0 : Str} {ac_0 : api_Config} {ac_1 : Int} {ac_2 : Int} : OLe (text_length_1 k a0 ac_0 ac_1 ac_2) (text_length_1 (k + 1) a0 ac_0 ac_1 ac_2) := by
  unfold text_length_1
  repeat' (first | with_reducible exact OLe.none | with_reducible exact OLe.some | with_reducible refine OLe.ite ?_ ?_ | with_reducible refine OLe.bind ?_ (fun _ => ?_) | with_reducible exact text_May.mono | refine OLe.bind ?_ (fun _ => ?_) | refine OLe.ite ?_ ?_ | refine OLe.elim (fun _ => ?_) (fun _ => ?_) | split)
set_option maxHeartbeats 4000000 in
set_option maxRecDepth 100000 in
theorem text_length_1.con (k : Nat) (M : Hp) (a0 : Str) (ac_0 : api_Config) (ac_1 : Int) (ac_2 : Int) (bc_0 : Nat) (bc_1 : Nat) (bc_2 : Nat) (r : Bool)  (h : text_length_1 k a0 ac_0 ac_1 ac_2 = some r) : Con Tryd.prog 72 #[.string (bs a0), pt bc_0 0, pt bc_1 0, pt bc_2 0] M [B23 bc_0 ac_0, Blk bc_1 (.cells #[.int .i64 ac_1] 3 (0, 0)), Blk bc_2 (.cells #[.int .i64 ac_2] 3 (0, 0))] (fun v M' Γ' => v = .bool r ∧ Γ' = [B23 bc_0 ac_0, Blk bc_1 (.cells #[.int .i64 ac_1] 3 (0, 0)), Blk bc_2 (.cells #[.int .i64 ac_2] 3 (0, 0))]) := by
  refine con_of_wp Tryd.func72 rfl Tryd.ntmps72 Tryd.results72 rfl ?_
  intro w F rn S hrn
  have E := Ext.refl w
  have HM := Hp.le_refl M
  have H := h
  unfold text_length_1 at H
  refine Wp_seq (Wp_region_lit (W_v (.bool false) (x_assign rfl) rfl (Wl_nil (tn (Wp_seq (Wp_region_lit (W_v (.agg #[.int .i64 ac_0.Tasks, .int .i64 ac_0.Active, .int .i64 ac_0.Keys, .int .i64 ac_0.Depth, .int .i64 ac_0.TS, .int .i64 ac_0.KeyLen, .int .i64 ac_0.ValLen, .int .i64 ac_0.Fan]) (x_loadA (S.blk 0 rfl) ty23 rfl (sub_of_extract rfl) rfl rfl) rfl ?_)))))))
  obtain ⟨t1, ht2, H⟩ := bindS H
  refine W_callF fn21 (text_May.con k M ac_0 t1  ht2) S rfl rfl (by rintro _ _ _ ⟨_, rfl⟩; exact flat_nil) ?_
  rintro _ w3 _ Γ' E' S ⟨rfl, rfl⟩
  replace E := E.trans E'
  refine W_v (.bool t1) (x_move rfl) rfl ?_
  refine Wl_cutN 5 (fun ρ w' => Agree ρ [(0, .string (bs a0)), (3, pt bc_2 0), (13, .bool (t1 && (decide ((a0.length : Int) ≥ ac_1))))] ∧ w3 = w') ?_ ?_
  · rcases boolCases t1 with hb4 | hb4
    · skip
      refine W_no (skT hb4) rfl (W_no (skT hb4) rfl (W_no (skT hb4) rfl (W_no (skT hb4) rfl (W_v (.bool false) (x_pick (k := false) (congrArg Value.bool hb4) rfl) rfl (Wl_nil ?_)))))
      exact ⟨⟨rfl, rfl, (by first | rfl | (rw [hb4]; rfl) | (simp only [hb4]; rfl)), trivial⟩, rfl⟩
    · skip
      refine W_yes (congrArg some hb4) (W_v (.string (bs a0)) (x_move rfl) rfl (W_yes (congrArg some hb4) (W_v (.int .i64 (a0.length : Int)) (x_len_str Tryd.underlying9 rfl) rfl (W_yes (congrArg some hb4) (W_v (.int .i64 ac_1) (x_load (S.blk 1 rfl) ty3 rfl rfl) rfl (W_yes (congrArg some hb4) (W_v (.bool (decide ((a0.length : Int) ≥ ac_1))) (x_ibin rfl rfl rfl rfl) rfl (W_v (.bool (decide ((a0.length : Int) ≥ ac_1))) (x_pick (k := true) (congrArg Value.bool hb4) rfl) rfl (Wl_nil ?_)))))))))
      exact ⟨⟨rfl, rfl, (by first | rfl | (rw [hb4]; rfl) | (simp only [hb4]; rfl)), trivial⟩, rfl⟩
  rintro ρ _ ⟨hρ, rfl⟩
  rw [agree_eta hρ]
  refine W_v (.bool (t1 && (decide ((a0.length : Int) ≥ ac_1)))) (x_move rfl) rfl ?_
  refine Wl_cutN 5 (fun ρ w' => Agree ρ [(19, .bool ((t1 && (decide ((a0.length : Int) ≥ ac_1))) && (decide ((a0.length : Int) ≤ ac_2))))] ∧ w3 = w') ?_ ?_
  · rcases boolCases (t1 && (decide ((a0.length : Int) ≥ ac_1))) with hb5 | hb5
    · skip
      refine W_no (skT hb5) rfl (W_no (skT hb5) rfl (W_no (skT hb5) rfl (W_no (skT hb5) rfl (W_v (.bool false) (x_pick (k := false) (congrArg Value.bool hb5) rfl) rfl (Wl_nil ?_)))))
      exact ⟨⟨(by first | rfl | (rw [hb5]; rfl) | (simp only [hb5]; rfl)), trivial⟩, rfl⟩
    · skip
      refine W_yes (congrArg some hb5) (W_v (.string (bs a0)) (x_move rfl) rfl (W_yes (congrArg some hb5) (W_v (.int .i64 (a0.length : Int)) (x_len_str Tryd.underlying9 rfl) rfl (W_yes (congrArg some hb5) (W_v (.int .i64 ac_2) (x_load (S.blk 2 rfl) ty3 rfl rfl) rfl (W_yes (congrArg some hb5) (W_v (.bool (decide ((a0.length : Int) ≤ ac_2))) (x_ibin rfl rfl rfl rfl) rfl (W_v (.bool (decide ((a0.length : Int) ≤ ac_2))) (x_pick (k := true) (congrArg Value.bool hb5) rfl) rfl (Wl_nil ?_)))))))))
      exact ⟨⟨(by first | rfl | (rw [hb5]; rfl) | (simp only [hb5]; rfl)), trivial⟩, rfl⟩
  rintro ρ _ ⟨hρ, rfl⟩
  rw [agree_eta hρ]
  refine W_v (.bool ((t1 && (decide ((a0.length : Int) ≥ ac_1))) && (decide ((a0.length : Int) ≤ ac_2)))) (x_assign rfl) rfl (Wl_nil (tn ?_))
  refine Wp_ret ?_
  obtain rfl := Option.some.inj H
  exact ⟨_, _, _, fun w1 e1 => run_resR (vs := [.bool ((t1 && (decide ((a0.length : Int) ≥ ac_1))) && (decide ((a0.length : Int) ≤ ac_2)))]) (FA.cons (rfl) (FA.nil)), HM, E, S.pick [0, 1, 2] (by decide), ⟨rfl, rfl⟩⟩
def text_Key (k : Nat) (a0 : api_Config) (a1 : Str) : Option (Bool) :=
  (Option.bind (text_length_v k a0 (1 : Int) a0.KeyLen) (fun t4 => (Option.bind (text_length_1 k a1 a0 (1 : Int) a0.KeyLen) (fun t15 => some t15))))
set_option maxHeartbeats 2000000 in
theorem text_Key.mono {k : Nat} {a0 : api_Config} {a1 : Str} : OLe (text_Key k a0 a1) (text_Key (k + 1) a0 a1) := by
  unfold text_Key
  repeat' (first | with_reducible exact OLe.none | with_reducible exact OLe.some | with_reducible refine OLe.ite ?_ ?_ | with_reducible refine OLe.bind ?_ (fun _ => ?_) | with_reducible exact text_length_1.mono | with_reducible exact text_length_v.mono | refine OLe.bind ?_ (fun _ => ?_) | refine OLe.ite ?_ ?_ | refine OLe.elim (fun _ => ?_) (fun _ => ?_) | split)
set_option maxHeartbeats 1000000 in
set_option maxRecDepth 100000 in
theorem text_Key.con (k : Nat) (M : Hp) (a0 : api_Config) (a1 : Str) (r : Bool)  (h : text_Key k a0 a1 = some r) : Con Tryd.prog 48 #[.agg #[.int .i64 a0.Tasks, .int .i64 a0.Active, .int .i64 a0.Keys, .int .i64 a0.Depth, .int .i64 a0.TS, .int .i64 a0.KeyLen, .int .i64 a0.ValLen, .int .i64 a0.Fan], .string (bs a1)] M [] (fun v M' Γ' => v = .bool r ∧ Γ' = []) := by
  refine con_of_wp Tryd.func48 rfl Tryd.ntmps48 Tryd.results48 rfl ?_
  intro w F rn S hrn
  have E := Ext.refl w
  have HM := Hp.le_refl M
  have H := h
  unfold text_Key at H
  refine Wp_seq (Wp_region_lit ?_)
  refine W_box S #[.int .i64 a0.Tasks, .int .i64 a0.Active, .int .i64 a0.Keys, .int .i64 a0.Depth, .int .i64 a0.TS, .int .i64 a0.KeyLen, .int .i64 a0.ValLen, .int .i64 a0.Fan] rfl rfl rfl ?_
  intro b1 w2 E' S
  replace E := E.trans E'
  refine W_v (.bool false) (x_assign rfl) rfl (Wl_nil (tn (Wp_seq (Wp_region_lit (W_v (.agg #[.int .i64 a0.Tasks, .int .i64 a0.Active, .int .i64 a0.Keys, .int .i64 a0.Depth, .int .i64 a0.TS, .int .i64 a0.KeyLen, .int .i64 a0.ValLen, .int .i64 a0.Fan]) (x_loadA (S.blk 0 rfl) ty23 rfl (sub_of_extract rfl) rfl rfl) rfl (W_v (pt b1 5) (x_fieldAddr (o := 0) (off := 5) Tryd.underlying23 rfl ty3 rfl rfl) rfl (W_v (.int .i64 a0.KeyLen) (x_load (S.blk 0 rfl) ty3 rfl rfl) rfl ?_)))))))
  obtain ⟨t4, ht5, H⟩ := bindS H
  refine W_callF2 fn65 (text_length_v.con k M a0 (1 : Int) a0.KeyLen t4  ht5) (Γ1 := []) (Γ2 := [_]) S rfl rfl (by rintro _ _ _ ⟨_, _, _, rfl, rfl⟩; exact (flat_cons flat_blk (flat_cons flat_blk (flat_cons flat_blk flat_nil)))) ?_
  rintro _ w12 _ Γ' E' S ⟨b6, b8, b10, rfl, rfl⟩
  replace E := E.trans E'
  replace S : St w12 M F [_, _, _, _] := S
  refine W_v (.string (bs a1)) (x_move rfl) rfl ?_
  obtain ⟨t15, ht16, H⟩ := bindS H
  refine W_callvF2 (fs := []) (cap := [pt b6 0, pt b8 0, pt b10 0]) fn72 rfl (text_length_1.con k M a1 a0 (1 : Int) a0.KeyLen b6 b8 b10 t15  ht16) (Γ1 := [_, _, _]) (Γ2 := [_]) S rfl rfl (by rintro _ _ _ ⟨rfl, rfl⟩; exact (flat_cons flat_blk (flat_cons flat_blk (flat_cons flat_blk flat_nil)))) ?_
  rintro _ w17 _ Γ' E' S ⟨rfl, rfl⟩
  replace E := E.trans E'
  replace S : St w17 M F [_, _, _, _] := S
  refine W_v (.bool t15) (x_assign rfl) rfl (Wl_nil (tn ?_))
  refine Wp_ret ?_
  obtain rfl := Option.some.inj H
  exact ⟨_, _, _, fun w1 e1 => run_resR (vs := [.bool t15]) (FA.cons (rfl) (FA.nil)), HM, E, S.pick [] (by decide), ⟨rfl, rfl⟩⟩
def text_Value (k : Nat) (a0 : api_Config) (a1 : Str) : Option (Bool) :=
  (Option.bind (text_length_v k a0 (0 : Int) a0.ValLen) (fun t4 => (Option.bind (text_length_1 k a1 a0 (0 : Int) a0.ValLen) (fun t15 => some t15))))
set_option maxHeartbeats 2000000 in
theorem text_Value.mono {k : Nat} {a0 : api_Config} {a1 : Str} : OLe (text_Value k a0 a1) (text_Value (k + 1) a0 a1) := by
  unfold text_Value
  repeat' (first | with_reducible exact OLe.none | with_reducible exact OLe.some | with_reducible refine OLe.ite ?_ ?_ | with_reducible refine OLe.bind ?_ (fun _ => ?_) | with_reducible exact text_length_1.mono | with_reducible exact text_length_v.mono | refine OLe.bind ?_ (fun _ => ?_) | refine OLe.ite ?_ ?_ | refine OLe.elim (fun _ => ?_) (fun _ => ?_) | split)
set_option maxHeartbeats 1000000 in
set_option maxRecDepth 100000 in
theorem text_Value.con (k : Nat) (M : Hp) (a0 : api_Config) (a1 : Str) (r : Bool)  (h : text_Value k a0 a1 = some r) : Con Tryd.prog 49 #[.agg #[.int .i64 a0.Tasks, .int .i64 a0.Active, .int .i64 a0.Keys, .int .i64 a0.Depth, .int .i64 a0.TS, .int .i64 a0.KeyLen, .int .i64 a0.ValLen, .int .i64 a0.Fan], .string (bs a1)] M [] (fun v M' Γ' => v = .bool r ∧ Γ' = []) := by
  refine con_of_wp Tryd.func49 rfl Tryd.ntmps49 Tryd.results49 rfl ?_
  intro w F rn S hrn
  have E := Ext.refl w
  have HM := Hp.le_refl M
  have H := h
  unfold text_Value at H
  refine Wp_seq (Wp_region_lit ?_)
  refine W_box S #[.int .i64 a0.Tasks, .int .i64 a0.Active, .int .i64 a0.Keys, .int .i64 a0.Depth, .int .i64 a0.TS, .int .i64 a0.KeyLen, .int .i64 a0.ValLen, .int .i64 a0.Fan] rfl rfl rfl ?_
  intro b1 w2 E' S
  replace E := E.trans E'
  refine W_v (.bool false) (x_assign rfl) rfl (Wl_nil (tn (Wp_seq (Wp_region_lit (W_v (.agg #[.int .i64 a0.Tasks, .int .i64 a0.Active, .int .i64 a0.Keys, .int .i64 a0.Depth, .int .i64 a0.TS, .int .i64 a0.KeyLen, .int .i64 a0.ValLen, .int .i64 a0.Fan]) (x_loadA (S.blk 0 rfl) ty23 rfl (sub_of_extract rfl) rfl rfl) rfl (W_v (pt b1 6) (x_fieldAddr (o := 0) (off := 6) Tryd.underlying23 rfl ty3 rfl rfl) rfl (W_v (.int .i64 a0.ValLen) (x_load (S.blk 0 rfl) ty3 rfl rfl) rfl ?_)))))))
  obtain ⟨t4, ht5, H⟩ := bindS H
  refine W_callF2 fn65 (text_length_v.con k M a0 (0 : Int) a0.ValLen t4  ht5) (Γ1 := []) (Γ2 := [_]) S rfl rfl (by rintro _ _ _ ⟨_, _, _, rfl, rfl⟩; exact (flat_cons flat_blk (flat_cons flat_blk (flat_cons flat_blk flat_nil)))) ?_
  rintro _ w12 _ Γ' E' S ⟨b6, b8, b10, rfl, rfl⟩
  replace E := E.trans E'
  replace S : St w12 M F [_, _, _, _] := S
  refine W_v (.string (bs a1)) (x_move rfl) rfl ?_
  obtain ⟨t15, ht16, H⟩ := bindS H
  refine W_callvF2 (fs := []) (cap := [pt b6 0, pt b8 0, pt b10 0]) fn72 rfl (text_length_1.con k M a1 a0 (0 : Int) a0.ValLen b6 b8 b10 t15  ht16) (Γ1 := [_, _, _]) (Γ2 := [_]) S rfl rfl (by rintro _ _ _ ⟨rfl, rfl⟩; exact (flat_cons flat_blk (flat_cons flat_blk (flat_cons flat_blk flat_nil)))) ?_
  rintro _ w17 _ Γ' E' S ⟨rfl, rfl⟩
  replace E := E.trans E'
  replace S : St w17 M F [_, _, _, _] := S
  refine W_v (.bool t15) (x_assign rfl) rfl (Wl_nil (tn ?_))
  refine Wp_ret ?_
  obtain rfl := Option.some.inj H
  exact ⟨_, _, _, fun w1 e1 => run_resR (vs := [.bool t15]) (FA.cons (rfl) (FA.nil)), HM, E, S.pick [] (by decide), ⟨rfl, rfl⟩⟩
def text_Bound (k : Nat) (a0 : api_Config) (a1 : Str) : Option (Bool) :=
  (Option.bind (text_length_v k a0 (0 : Int) a0.KeyLen) (fun t4 => (Option.bind (text_length_1 k a1 a0 (0 : Int) a0.KeyLen) (fun t15 => some t15))))
set_option maxHeartbeats 2000000 in
theorem text_Bound.mono {k : Nat} {a0 : api_Config} {a1 : Str} : OLe (text_Bound k a0 a1) (text_Bound (k + 1) a0 a1) := by
  unfold text_Bound
  repeat' (first | with_reducible exact OLe.none | with_reducible exact OLe.some | with_reducible refine OLe.ite ?_ ?_ | with_reducible refine OLe.bind ?_ (fun _ => ?_) | with_reducible exact text_length_1.mono | with_reducible exact text_length_v.mono | refine OLe.bind ?_ (fun _ => ?_) | refine OLe.ite ?_ ?_ | refine OLe.elim (fun _ => ?_) (fun _ => ?_) | split)
set_option maxHeartbeats 1000000 in
set_option maxRecDepth 100000 in
theorem text_Bound.con (k : Nat) (M : Hp) (a0 : api_Config) (a1 : Str) (r : Bool)  (h : text_Bound k a0 a1 = some r) : Con Tryd.prog 50 #[.agg #[.int .i64 a0.Tasks, .int .i64 a0.Active, .int .i64 a0.Keys, .int .i64 a0.Depth, .int .i64 a0.TS, .int .i64 a0.KeyLen, .int .i64 a0.ValLen, .int .i64 a0.Fan], .string (bs a1)] M [] (fun v M' Γ' => v = .bool r ∧ Γ' = []) := by
  refine con_of_wp Tryd.func50 rfl Tryd.ntmps50 Tryd.results50 rfl ?_
  intro w F rn S hrn
  have E := Ext.refl w
  have HM := Hp.le_refl M
  have H := h
  unfold text_Bound at H
  refine Wp_seq (Wp_region_lit ?_)
  refine W_box S #[.int .i64 a0.Tasks, .int .i64 a0.Active, .int .i64 a0.Keys, .int .i64 a0.Depth, .int .i64 a0.TS, .int .i64 a0.KeyLen, .int .i64 a0.ValLen, .int .i64 a0.Fan] rfl rfl rfl ?_
  intro b1 w2 E' S
  replace E := E.trans E'
  refine W_v (.bool false) (x_assign rfl) rfl (Wl_nil (tn (Wp_seq (Wp_region_lit (W_v (.agg #[.int .i64 a0.Tasks, .int .i64 a0.Active, .int .i64 a0.Keys, .int .i64 a0.Depth, .int .i64 a0.TS, .int .i64 a0.KeyLen, .int .i64 a0.ValLen, .int .i64 a0.Fan]) (x_loadA (S.blk 0 rfl) ty23 rfl (sub_of_extract rfl) rfl rfl) rfl (W_v (pt b1 5) (x_fieldAddr (o := 0) (off := 5) Tryd.underlying23 rfl ty3 rfl rfl) rfl (W_v (.int .i64 a0.KeyLen) (x_load (S.blk 0 rfl) ty3 rfl rfl) rfl ?_)))))))
  obtain ⟨t4, ht5, H⟩ := bindS H
  refine W_callF2 fn65 (text_length_v.con k M a0 (0 : Int) a0.KeyLen t4  ht5) (Γ1 := []) (Γ2 := [_]) S rfl rfl (by rintro _ _ _ ⟨_, _, _, rfl, rfl⟩; exact (flat_cons flat_blk (flat_cons flat_blk (flat_cons flat_blk flat_nil)))) ?_
  rintro _ w12 _ Γ' E' S ⟨b6, b8, b10, rfl, rfl⟩
  replace E := E.trans E'
  replace S : St w12 M F [_, _, _, _] := S
  refine W_v (.string (bs a1)) (x_move rfl) rfl ?_
  obtain ⟨t15, ht16, H⟩ := bindS H
  refine W_callvF2 (fs := []) (cap := [pt b6 0, pt b8 0, pt b10 0]) fn72 rfl (text_length_1.con k M a1 a0 (0 : Int) a0.KeyLen b6 b8 b10 t15  ht16) (Γ1 := [_, _, _]) (Γ2 := [_]) S rfl rfl (by rintro _ _ _ ⟨rfl, rfl⟩; exact (flat_cons flat_blk (flat_cons flat_blk (flat_cons flat_blk flat_nil)))) ?_
  rintro _ w17 _ Γ' E' S ⟨rfl, rfl⟩
  replace E := E.trans E'
  replace S : St w17 M F [_, _, _, _] := S
  refine W_v (.bool t15) (x_assign rfl) rfl (Wl_nil (tn ?_))
  refine Wp_ret ?_
  obtain rfl := Option.some.inj H
  exact ⟨_, _, _, fun w1 e1 => run_resR (vs := [.bool t15]) (FA.cons (rfl) (FA.nil)), HM, E, S.pick [] (by decide), ⟨rfl, rfl⟩⟩
def keep_till_v (k : Nat) (a0 : (List api_Version)) (a1 : Int) : Option (Unit) :=
  some ()
set_option maxHeartbeats 2000000 in
theorem keep_till_v.mono {k : Nat} {a0 : (List api_Version)} {a1 : Int} : OLe (keep_till_v k a0 a1) (keep_till_v (k + 1) a0 a1) := by
  unfold keep_till_v
  repeat' (first | with_reducible exact OLe.none | with_reducible exact OLe.some | with_reducible refine OLe.ite ?_ ?_ | with_reducible refine OLe.bind ?_ (fun _ => ?_) | refine OLe.bind ?_ (fun _ => ?_) | refine OLe.ite ?_ ?_ | refine OLe.elim (fun _ => ?_) (fun _ => ?_) | split)
set_option maxHeartbeats 4000000 in
set_option maxRecDepth 100000 in
theorem keep_till_v.con (k : Nat) (M : Hp) (A0 : Option Addr) (c0 : Nat) (a0 : (List api_Version)) (a1 : Int) (r : Unit) (hr0 : SlR r_api_Version M (.slice A0 a0.length c0) a0) (h : keep_till_v k a0 a1 = some r) : Con Tryd.prog 111 #[.slice A0 a0.length c0, .int .i64 a1] M [] (fun v M' Γ' => ∃ (bq1 : Nat) (bq3 : Nat), v = .func (.func 113) #[] #[pt bq1 0, pt bq3 0] ∧ Γ' = [Blk bq1 (.cells #[.slice A0 a0.length c0] 73 (0, 0)), Blk bq3 (.cells #[.int .i64 a1] 3 (0, 0))]) := by
  refine con_of_wp Tryd.func111 rfl Tryd.ntmps111 Tryd.results111 rfl ?_
  intro w F rn S hrn
  have E := Ext.refl w
  have HM := Hp.le_refl M
  have H := h
  unfold keep_till_v at H
  refine Wp_seq (Wp_region_lit ?_)
  refine W_box S #[.slice A0 a0.length c0] rfl rfl rfl ?_
  intro b1 w2 E' S
  replace E := E.trans E'
  refine W_box S #[.int .i64 a1] rfl rfl rfl ?_
  intro b4 w5 E' S
  replace E := E.trans E'
  refine W_v (.nilFunc) (x_assign rfl) rfl (Wl_nil (tn (Wp_seq (Wp_region_lit (W_v (.func (.func 113) #[] #[pt b1 0, pt b4 0]) (x_makeFunc rfl) rfl (W_v (.func (.func 113) #[] #[pt b1 0, pt b4 0]) (x_assign rfl) rfl (Wl_nil (tn ?_))))))))
  refine Wp_ret ?_
  obtain rfl := Option.some.inj H
  exact ⟨_, _, _, fun w1 e1 => run_resR (vs := [.func (.func 113) #[] #[pt b1 0, pt b4 0]]) (FA.cons (rfl) (FA.nil)), HM, E, S.pick [1, 0] (by decide), ⟨b1, b4, rfl, rfl⟩⟩
def keep_till_1_l0 {σ ε : Type} (a_0 : (List api_Version)) (a_1 : Int) (bd : Int × Bool → σ → Option (σ ⊕ ε)) : Nat → Int → σ ⊕ ε → Option ((σ ⊕ ε) ⊕ ((σ ⊕ ε)))
  | 0, _, _ => none
  | k + 1, x53, x54 => (if (decide (x53 < (a_0.length : Int))) = true then (if 0 ≤ x53 ∧ x53 < (a_0.length : Int) then (Option.bind (toL x54) (fun s99 => Option.bind (bd (x53, (decide ((rd a_0 x53).TS ≤ a_1))) s99) (fun t101 => (if ((!(isNorm t101)) || (decide ((rd a_0 x53).TS ≤ a_1))) = true then some (.inl t101) else keep_till_1_l0 a_0 a_1 bd k (IntKind.i64.wrap (x53 + (1 : Int))) t101)))) else none) else some (.inr (x54)))
set_option maxHeartbeats 2000000 in
theorem keep_till_1_l0.mono {σ ε : Type} {a_0 : (List api_Version)} {a_1 : Int} {bd bd' : Int × Bool → σ → Option (σ ⊕ ε)} (hbd : ∀ x s, OLe (bd x s) (bd' x s)) : ∀ {kl : Nat} {x0 x1}, OLe (keep_till_1_l0 a_0 a_1 bd kl x0 x1) (keep_till_1_l0 a_0 a_1 bd' (kl + 1) x0 x1) := by
  intro kl
  induction kl with
  | zero => intros; exact OLe.none
  | succ kl ih =>
    intros
    rw [keep_till_1_l0.eq_2, keep_till_1_l0.eq_2]
    repeat' (first | with_reducible exact OLe.none | with_reducible exact OLe.some | with_reducible refine OLe.ite ?_ ?_ | with_reducible refine OLe.bind ?_ (fun _ => ?_) | exact OLe.toL | exact hbd _ _ | exact ih | refine OLe.bind ?_ (fun _ => ?_) | refine OLe.ite ?_ ?_ | refine OLe.elim (fun _ => ?_) (fun _ => ?_) | split)
def keep_till_1 {σ ε : Type} (k : Nat) (a_0 : (List api_Version)) (a_1 : Int) (bd : Int × Bool → σ → Option (σ ⊕ ε)) (s0 : σ) : Option (σ ⊕ ε) :=
  (Option.bind (keep_till_1_l0 a_0 a_1 bd k (0 : Int) (.inl s0)) (fun o80o => Sum.elim (fun r' => some r') (fun x79 => some x79) o80o))
set_option maxHeartbeats 2000000 in
theorem keep_till_1.mono {σ ε : Type} {k : Nat} {a_0 : (List api_Version)} {a_1 : Int} {bd bd' : Int × Bool → σ → Option (σ ⊕ ε)} (hbd : ∀ x s, OLe (bd x s) (bd' x s)) {s0 : σ} : OLe (keep_till_1 k a_0 a_1 bd s0) (keep_till_1 (k + 1) a_0 a_1 bd' s0) := by
  unfold keep_till_1
  repeat' (first | with_reducible exact OLe.none | with_reducible exact OLe.some | with_reducible refine OLe.ite ?_ ?_ | with_reducible refine OLe.bind ?_ (fun _ => ?_) | with_reducible exact keep_till_1_l0.mono hbd | exact OLe.toL | exact hbd _ _ | refine OLe.bind ?_ (fun _ => ?_) | refine OLe.ite ?_ ?_ | refine OLe.elim (fun _ => ?_) (fun _ => ?_) | split)
set_option maxHeartbeats 2000000 in
set_option maxRecDepth 100000 in
theorem keep_till_1.con {σ ε : Type} (k : Nat) (M : Hp) (A_0 : Option Addr) (c_0 : Nat) (a_0 : (List api_Version)) (a_1 : Int) (b_0 : Nat) (b_1 : Nat) (bd : Int × Bool → σ → Option (σ ⊕ ε)) (s0 : σ) (r : σ ⊕ ε) (hr_0 : SlR r_api_Version M (.slice A_0 a_0.length c_0) a_0) (h : keep_till_1 k a_0 a_1 bd s0 = some r) : Iter Tryd.prog 113 [pt b_0 0, pt b_1 0] M (fun (M : Hp) (x : Int × Bool) (vs : List Value) => vs = [.int .i64 x.1, .bool x.2]) bd s0 r [Blk b_0 (.cells #[.slice A_0 a_0.length c_0] 73 (0, 0)), Blk b_1 (.cells #[.int .i64 a_1] 3 (0, 0))] (fun M' Γ' => Γ' = [Blk b_0 (.cells #[.slice A_0 a_0.length c_0] 73 (0, 0)), Blk b_1 (.cells #[.int .i64 a_1] 3 (0, 0))]) := by
  intro lp B hY
  refine con_of_wp Tryd.func113 rfl Tryd.ntmps113 Tryd.results113 rfl ?_
  intro w F rn S hrn
  have E := Ext.refl w
  have HM := Hp.le_refl M
  have H := h
  unfold keep_till_1 at H
  refine Wp_seq (Wp_region_lit (W_v (.slice A_0 a_0.length c_0) (x_load (S.blk 1 rfl) ty73 rfl rfl) rfl (W_v (.int .i64 (a_0.length : Int)) (x_len_slice (n := a_0.length) Tryd.underlying73 rfl) rfl (W_v (.int .i64 0) (x_move rfl) rfl (Wl_nil (tn ?_))))))
  obtain ⟨o80, o80h, o80H⟩ := bindS H
  refine Wp_blockJ (fun ρ w' => ∃ (x79 : σ ⊕ ε) (Mj : Hp), .inr (x79) = o80 ∧ Agree ρ [] ∧ M.le Mj ∧ Ext w w' ∧ St w' Mj F [Blk b_0 (.cells #[.slice A_0 a_0.length c_0] 73 (0, 0)), Blk b_1 (.cells #[.int .i64 a_1] 3 (0, 0)), B x79]) ?_ ?_
  · skip
    refine Wp_loop (fun n ρ w' => ∃ (x53 : Int) (x54 : σ ⊕ ε) (Mj : Hp), keep_till_1_l0 a_0 a_1 bd n x53 x54 = some o80 ∧ Agree ρ [(0, .func (.yield lp) #[] #[]), (2, pt b_1 0), (6, .slice A_0 a_0.length c_0), (7, .int .i64 (a_0.length : Int)), (8, .int .i64 x53)] ∧ M.le Mj ∧ Ext w w' ∧ St w' Mj F [Blk b_0 (.cells #[.slice A_0 a_0.length c_0] 73 (0, 0)), Blk b_1 (.cells #[.int .i64 a_1] 3 (0, 0)), B x54]) k ?_ ?_
    · skip
      exact ⟨(0 : Int), (.inl s0), M, o80h, ⟨rfl, rfl, rfl, rfl, rfl, trivial⟩, (Hp.le_refl M), E, S.pick [1, 2, 0] (by decide)⟩
    · intro n
      rintro ρ w81 ⟨x53, x54, M82, H, hρ, hM83, E, S⟩
      rw [agree_eta hρ]
      replace HM := Hp.le_trans HM hM83
      replace hr_0 := SlR.mono hr_0 hM83
      cases n with
      | zero => cases H
      | succ k =>
        rw [keep_till_1_l0.eq_2] at H
        refine Wp_seq (Wp_region_lit (W_v (.bool (decide (x53 < (a_0.length : Int)))) (x_ibin rfl rfl rfl rfl) rfl (Wl_nil (tn (Wp_seq ?_)))))
        rcases iteS H with ⟨hb84, H⟩ | ⟨hb84, H⟩
        · refine Wp_cond_true (congrArg Value.bool hb84) ?_
          refine Wp_skip (tn (Wp_seq ?_))
          refine Wp_block ?_
          refine Wp_seq (Wp_region_lit (W_v (.int .i64 x53) (x_move rfl) rfl ?_))
          obtain ⟨⟨p85, p86⟩, H⟩ := chkS H
          obtain ⟨b87, o88, cs89, _, _, ee94, hb90, vs91, hR92, hc93⟩ := SlW.at' hr_0 p85 p86
          obtain rfl : vs91 = _ := hR92
          refine W_v (.pointer (some ⟨b87, o88 + x53.toNat * 4, none⟩)) (x_indexAddr Tryd.underlying73 ty75 (slA ee94) rfl p85 p86) rfl (W_v (.agg #[.int .i64 ((rd a_0 x53).Writer), .int .i64 ((rd a_0 x53).TS), .bool ((rd a_0 x53).Tomb), .string (bs ((rd a_0 x53).Value))]) (x_loadA (S.frz hb90) ty75 rfl (sub_el hc93 0 rfl) rfl rfl) rfl ?_)
          refine W_alloc S #[.int .i64 0, .int .i64 0, .bool false, .string (bs ([] : Str))] ty75 rfl rfl ?_
          intro b95 w96 E' S
          replace E := E.trans E'
          refine W_v (.int .i64 x53) (x_assign rfl) rfl ?_
          refine W_store S 0 rfl ty75 rfl rfl [.int .i64 ((rd a_0 x53).Writer), .int .i64 ((rd a_0 x53).TS), .bool ((rd a_0 x53).Tomb), .string (bs ((rd a_0 x53).Value))] rfl rfl rfl #[.int .i64 ((rd a_0 x53).Writer), .int .i64 ((rd a_0 x53).TS), .bool ((rd a_0 x53).Tomb), .string (bs ((rd a_0 x53).Value))] rfl rfl ?_
          intro w98 E' S
          replace E := E.trans E'
          refine Wl_nil (tn (Wp_seq (Wp_region_lit (W_v (.func (.yield lp) #[] #[]) (x_move rfl) rfl (W_v (.int .i64 x53) (x_move rfl) rfl (W_v (pt b95 1) (x_fieldAddr (o := 0) (off := 1) Tryd.underlying75 rfl ty3 rfl rfl) rfl (W_v (.int .i64 ((rd a_0 x53).TS)) (x_load (S.blk 0 rfl) ty3 rfl rfl) rfl (W_v (.int .i64 a_1) (x_load (S.blk 2 rfl) ty3 rfl rfl) rfl (W_v (.bool (decide ((rd a_0 x53).TS ≤ a_1))) (x_ibin rfl rfl rfl rfl) rfl ?_)))))))))
          obtain ⟨s99, hs100, H⟩ := bindS H
          obtain ⟨t101, ht102, H⟩ := bindS H
          rw [toL_eq hs100] at S
          replace S : St w98 M82 F [_, _, _, _] := S.pick [3, 0, 1, 2] (by decide)
          refine W_yield rfl (hY _ (x53, (decide ((rd a_0 x53).TS ≤ a_1))) _ s99 t101 HM (rfl) ht102) S rfl rfl ?_
          rintro _ w103 M104 _ hM105 E' S ⟨rfl, rfl⟩
          replace HM := Hp.le_trans HM hM105
          replace hM83 := Hp.le_trans hM83 hM105
          replace hr_0 := SlR.mono hr_0 hM105
          replace hb90 := hM105 _ _ hb90
          replace E := E.trans E'
          refine W_v (.bool (!(isNorm t101))) (x_not (b := (isNorm t101)) rfl) rfl (W_v (.bool (!(isNorm t101))) (x_move rfl) rfl ?_)
          refine Wl_cutN 5 (fun ρ w' => Agree ρ [(0, .func (.yield lp) #[] #[]), (2, pt b_1 0), (6, .slice A_0 a_0.length c_0), (7, .int .i64 (a_0.length : Int)), (8, .int .i64 x53), (26, .bool ((!(isNorm t101)) || (decide ((rd a_0 x53).TS ≤ a_1))))] ∧ w103 = w') ?_ ?_
          · rcases boolCases (!(isNorm t101)) with hb106 | hb106
            · skip
              refine W_yes (congrArg some hb106) (W_v (pt b95 1) (x_fieldAddr (o := 0) (off := 1) Tryd.underlying75 rfl ty3 rfl rfl) rfl (W_yes (congrArg some hb106) (W_v (.int .i64 ((rd a_0 x53).TS)) (x_load (S.blk 1 rfl) ty3 rfl rfl) rfl (W_yes (congrArg some hb106) (W_v (.int .i64 a_1) (x_load (S.blk 3 rfl) ty3 rfl rfl) rfl (W_yes (congrArg some hb106) (W_v (.bool (decide ((rd a_0 x53).TS ≤ a_1))) (x_ibin rfl rfl rfl rfl) rfl (W_v (.bool (decide ((rd a_0 x53).TS ≤ a_1))) (x_pick (k := false) (congrArg Value.bool hb106) rfl) rfl (Wl_nil ?_)))))))))
              exact ⟨⟨rfl, rfl, rfl, rfl, rfl, (by first | rfl | (rw [hb106]; rfl) | (simp only [hb106]; rfl)), trivial⟩, rfl⟩
            · skip
              refine W_no (skF hb106) rfl (W_no (skF hb106) rfl (W_no (skF hb106) rfl (W_no (skF hb106) rfl (W_v (.bool true) (x_pick (k := true) (congrArg Value.bool hb106) rfl) rfl (Wl_nil ?_)))))
              exact ⟨⟨rfl, rfl, rfl, rfl, rfl, (by first | rfl | (rw [hb106]; rfl) | (simp only [hb106]; rfl)), trivial⟩, rfl⟩
          rintro ρ _ ⟨hρ, rfl⟩
          rw [agree_eta hρ]
          refine Wl_nil (tn ?_)
          rcases iteS H with ⟨hb107, H⟩ | ⟨hb107, H⟩
          · refine Wp_cond_true (congrArg Value.bool hb107) ?_
            refine Wp_ret ?_
            refine br (tr (tr (br (tr (?_)))))
            obtain rfl := Option.some.inj H
            have H := o80H
            replace H := elimL H
            obtain rfl := Option.some.inj H
            exact ⟨_, _, _, fun w1 e1 => run_resR (vs := []) FA.nil, HM, E, S.pick [0, 2, 3] (by decide), ⟨_, rfl, rfl⟩⟩
          refine Wp_cond_false (congrArg Value.bool hb107) (Wp_skip (bn (tn (Wp_region_lit (W_v (.int .i64 (IntKind.i64.wrap (x53 + (1 : Int)))) (x_ibin rfl rfl rfl rfl) rfl (W_v (.int .i64 (IntKind.i64.wrap (x53 + (1 : Int)))) (x_move rfl) rfl (Wl_nil (tn ?_))))))))
          exact ⟨k, Nat.lt_succ_self k, ⟨(IntKind.i64.wrap (x53 + (1 : Int))), t101, M104, H, ⟨rfl, rfl, rfl, rfl, rfl, trivial⟩, hM83, E, S.pick [2, 3, 0] (by decide)⟩⟩
        refine Wp_cond_false (congrArg Value.bool hb84) ?_
        refine Wp_exit ?_
        refine tx (tx (bsm (?_)))
        refine tn ?_
        exact ⟨x54, M82, Option.some.inj H, trivial, hM83, E, S.pick [0, 1, 2] (by decide)⟩
  rintro ρ w108 ⟨x79, M109, rfl, hρ, hM110, E, S⟩
  rw [agree_eta hρ]
  replace HM := Hp.le_trans HM hM110
  replace hr_0 := SlR.mono hr_0 hM110
  have H := o80H
  replace H := elimR H
  obtain rfl := Option.some.inj H
  exact ⟨_, _, _, fun w1 e1 => run_resR (vs := []) FA.nil, HM, E, S.pick [2, 0, 1] (by decide), ⟨_, rfl, rfl⟩⟩
def keep_Seen_b0 (a0 : (List api_Version)) (k : Nat) : (Int × Bool) → Unit → Option ((Unit) ⊕ (api_Version))
  | (y170, y171), _ => (Option.bind (α := Bool) (if y171 = true then (if 0 ≤ y170 ∧ y170 < (a0.length : Int) then some ((!((rd a0 y170).Tomb))) else none) else some (false)) (fun x195 => (if x195 = true then (if 0 ≤ y170 ∧ y170 < (a0.length : Int) then some (.inr (rd a0 y170)) else none) else some (.inl ()))))
set_option maxHeartbeats 2000000 in
theorem keep_Seen_b0.mono {a0 : (List api_Version)} {k : Nat} : ∀ x s, OLe (keep_Seen_b0 a0 k x s) (keep_Seen_b0 a0 (k + 1) x s) := by
  intro x s
  unfold keep_Seen_b0
  repeat' (first | with_reducible exact OLe.none | with_reducible exact OLe.some | with_reducible refine OLe.ite ?_ ?_ | with_reducible refine OLe.bind ?_ (fun _ => ?_) | refine OLe.bind ?_ (fun _ => ?_) | refine OLe.ite ?_ ?_ | refine OLe.elim (fun _ => ?_) (fun _ => ?_) | split)
def keep_Seen (k : Nat) (a0 : (List api_Version)) (a1 : Int) : Option (api_Version × Bool) :=
  (Option.bind (keep_till_v k a0 a1) (fun t10 => (Option.bind (keep_till_1 k a0 a1 (keep_Seen_b0 a0 k) ()) (fun o167o => Sum.elim (fun _ => some ((⟨(0 : Int), (0 : Int), false, ([] : Str)⟩ : api_Version), false)) (fun x166 => some (x166, true)) o167o))))
set_option maxHeartbeats 2000000 in
theorem keep_Seen.mono {k : Nat} {a0 : (List api_Version)} {a1 : Int} : OLe (keep_Seen k a0 a1) (keep_Seen (k + 1) a0 a1) := by
  unfold keep_Seen
  repeat' (first | with_reducible exact OLe.none | with_reducible exact OLe.some | with_reducible refine OLe.ite ?_ ?_ | with_reducible refine OLe.bind ?_ (fun _ => ?_) | with_reducible exact keep_Seen_b0.mono | exact keep_till_1.mono (fun _ _ => by first | exact keep_Seen_b0.mono _ _) | with_reducible exact keep_till_v.mono | refine OLe.bind ?_ (fun _ => ?_) | refine OLe.ite ?_ ?_ | refine OLe.elim (fun _ => ?_) (fun _ => ?_) | split)
set_option maxHeartbeats 1000000 in
set_option maxRecDepth 100000 in
theorem keep_Seen.con (k : Nat) (M : Hp) (A0 : Option Addr) (c0 : Nat) (a0 : (List api_Version)) (a1 : Int) (r : api_Version × Bool) (hr0 : SlR r_api_Version M (.slice A0 a0.length c0) a0) (h : keep_Seen k a0 a1 = some r) : Con Tryd.prog 108 #[.slice A0 a0.length c0, .int .i64 a1] M [] (fun v M' Γ' => v = .tuple #[.agg #[.int .i64 r.1.Writer, .int .i64 r.1.TS, .bool r.1.Tomb, .string (bs r.1.Value)], .bool r.2] ∧ Γ' = []) := by
  refine con_of_wp Tryd.func108 rfl Tryd.ntmps108 Tryd.results108 rfl ?_
  intro w F rn S hrn
  have E := Ext.refl w
  have HM := Hp.le_refl M
  have H := h
  unfold keep_Seen at H
  refine Wp_seq (Wp_region_lit ?_)
  refine W_box S #[.slice A0 a0.length c0] rfl rfl rfl ?_
  intro b1 w2 E' S
  replace E := E.trans E'
  refine W_alloc S #[.int .i64 0, .int .i64 0, .bool false, .string (bs ([] : Str))] ty75 rfl rfl ?_
  intro b4 w5 E' S
  replace E := E.trans E'
  refine W_alloc S #[.bool false] ty4 rfl rfl ?_
  intro b7 w8 E' S
  replace E := E.trans E'
  refine Wl_nil (tn (Wp_seq (Wp_seq (Wp_region_lit (W_v (.slice A0 a0.length c0) (x_load (S.blk 2 rfl) ty73 rfl rfl) rfl (W_v (.int .i64 a1) (x_move rfl) rfl ?_))))))
  obtain ⟨t10, ht11, H⟩ := bindS H
  refine W_callF2 fn111 (keep_till_v.con k M A0 c0 a0 a1 t10 hr0 ht11) (Γ1 := []) (Γ2 := [_, _, _]) S rfl rfl (by rintro _ _ _ ⟨_, _, rfl, rfl⟩; exact (flat_cons flat_blk (flat_cons flat_blk flat_nil))) ?_
  rintro _ w16 _ Γ' E' S ⟨b12, b14, rfl, rfl⟩
  replace E := E.trans E'
  replace S : St w16 M F [_, _, _, _, _] := S
  refine Wl_nil (tn ?_)
  refine Wp_block ?_
  obtain ⟨o167, o167h, o167H⟩ := bindS H
  refine Wp_rangeFunc (σ := Unit) (ε := api_Version) (Γi := [Blk b12 (.cells #[.slice A0 a0.length c0] 73 (0, 0)), Blk b14 (.cells #[.int .i64 a1] 3 (0, 0))]) (Γr := []) (Sum.elim (fun _ => AE (ι := Unit) (fun (i : Unit) => [Blk b7 (.cells #[.bool false] 4 (0, 0)), Blk b4 (.cells #[.int .i64 0, .int .i64 0, .bool false, .string (bs ([] : Str))] 75 (0, 0)), Blk b1 (.cells #[.slice A0 a0.length c0] 73 (0, 0))]) (fun _ _ => True) (fun _ _ _ _ _ => trivial)) (fun x166 => AE (ι := Unit) (fun (i : Unit) => [Blk b7 (.cells #[.bool true] 4 (0, 0)), B75 b4 x166]) (fun _ _ => True) (fun _ _ _ _ _ => trivial))) (fun _ => Code.ret) fn113 rfl (St.close_ex (φ := (fun _ _ => True)) (hφ := (fun _ _ _ _ _ => trivial)) () trivial (S.pick [2, 3, 4, 0, 1] (by decide))) (by rintro _ _ _ rfl; rfl) (by decide) (keep_till_1.con k M A0 c0 a0 a1 b12 b14 (keep_Seen_b0 a0 k) () o167 hr0 o167h) ?_ ?_
  · intro nn lp M168 F yy vs ss tt w hM169 henc hbd S
    obtain ⟨y170, y171⟩ := yy
    obtain rfl := henc
    replace HM := Hp.le_trans HM hM169
    replace hr0 := SlR.mono hr0 hM169
    replace S : St w M168 F (AE (ι := Unit) (fun (i : Unit) => [Blk b7 (.cells #[.bool false] 4 (0, 0)), Blk b4 (.cells #[.int .i64 0, .int .i64 0, .bool false, .string (bs ([] : Str))] 75 (0, 0)), Blk b1 (.cells #[.slice A0 a0.length c0] 73 (0, 0))]) (fun _ _ => True) (fun _ _ _ _ _ => trivial) :: []) := S
    obtain ⟨_, _, S⟩ := S.open_ex
    replace S : St w M168 F [_, _, _] := S
    have E := Ext.refl w
    have LE172 := Hp.le_refl M168
    have H := hbd
    rw [keep_Seen_b0.eq_1] at H
    refine Wp_seq (Wp_region_lit (W_v (.int .i64 y170) (x_assign rfl) rfl (Wl_nil (tn (Wp_region_lit (W_v (.bool y171) (x_assign rfl) rfl (Wl_nil ?_)))))))
    refine on_n ⟨_, _, LE172, E, S, ?_⟩
    intro w F E3 S
    have E := Ext.refl w
    have LE173 := Hp.le_refl M168
    refine Wp_block ?_
    refine Wp_seq (Wp_region_lit (W_v (.bool y171) (x_move rfl) rfl (W_v (.bool y171) (x_move rfl) rfl ?_)))
    obtain ⟨o196, o196h, o196H⟩ := bindS H
    refine Wl_cutN 7 (fun ρ w' => ∃ (x195 : Bool), (x195) = o196 ∧ Agree ρ [(2, pt b1 0), (4, pt b4 0), (5, pt b7 0), (6, .int .i64 y170), (21, .bool x195)] ∧ Ext w w' ∧ St w' M168 F [Blk b7 (.cells #[.bool false] 4 (0, 0)), Blk b4 (.cells #[.int .i64 0, .int .i64 0, .bool false, .string (bs ([] : Str))] 75 (0, 0)), Blk b1 (.cells #[.slice A0 a0.length c0] 73 (0, 0))]) ?_ ?_
    · have H := o196h
      rcases iteS H with ⟨hb194, H⟩ | ⟨hb194, H⟩
      · skip
        refine W_yes (congrArg some hb194) (W_v (.slice A0 a0.length c0) (x_load (S.blk 2 rfl) ty73 rfl rfl) rfl (W_yes (congrArg some hb194) (W_v (.int .i64 y170) (x_move rfl) rfl (W_yes (congrArg some hb194) ?_))))
        obtain ⟨⟨p197, p198⟩, H⟩ := chkS H
        obtain ⟨b199, o200, cs201, _, _, ee206, hb202, vs203, hR204, hc205⟩ := SlW.at' hr0 p197 p198
        obtain rfl : vs203 = _ := hR204
        refine W_v (.pointer (some ⟨b199, o200 + y170.toNat * 4, none⟩)) (x_indexAddr Tryd.underlying73 ty75 (slA ee206) rfl p197 p198) rfl (W_yes (congrArg some hb194) (W_v (.pointer (some ⟨b199, o200 + y170.toNat * 4 + 2, none⟩)) (x_fieldAddr (o := o200 + y170.toNat * 4) (off := 2) Tryd.underlying75 rfl ty4 rfl rfl) rfl (W_yes (congrArg some hb194) (W_v (.bool ((rd a0 y170).Tomb)) (x_load (S.frz hb202) ty4 rfl (hc205 2 _ rfl)) rfl (W_yes (congrArg some hb194) (W_v (.bool (!((rd a0 y170).Tomb))) (x_not (b := ((rd a0 y170).Tomb)) rfl) rfl (W_v (.bool (!((rd a0 y170).Tomb))) (x_pick (k := true) (congrArg Value.bool hb194) rfl) rfl (Wl_nil ?_))))))))
        exact ⟨(!((rd a0 y170).Tomb)), Option.some.inj H, ⟨rfl, rfl, rfl, rfl, rfl, trivial⟩, E, S.pick [0, 1, 2] (by decide)⟩
      · skip
        refine W_no (skT hb194) rfl (W_no (skT hb194) rfl (W_no (skT hb194) rfl (W_no (skT hb194) rfl (W_no (skT hb194) rfl (W_no (skT hb194) rfl (W_v (.bool false) (x_pick (k := false) (congrArg Value.bool hb194) rfl) rfl (Wl_nil ?_)))))))
        exact ⟨false, Option.some.inj H, ⟨rfl, rfl, rfl, rfl, rfl, trivial⟩, E, S.pick [0, 1, 2] (by decide)⟩
    rintro ρ w207 ⟨x195, rfl, hρ, E, S⟩
    rw [agree_eta hρ]
    have H := o196H
    refine Wl_nil (tn ?_)
    rcases iteS H with ⟨hb208, H⟩ | ⟨hb208, H⟩
    · refine Wp_cond_true (congrArg Value.bool hb208) ?_
      refine Wp_seq (Wp_region_lit (W_v (.slice A0 a0.length c0) (x_load (S.blk 2 rfl) ty73 rfl rfl) rfl (W_v (.int .i64 y170) (x_move rfl) rfl ?_)))
      obtain ⟨⟨p209, p210⟩, H⟩ := chkS H
      obtain ⟨b211, o212, cs213, _, _, ee218, hb214, vs215, hR216, hc217⟩ := SlW.at' hr0 p209 p210
      obtain rfl : vs215 = _ := hR216
      refine W_v (.pointer (some ⟨b211, o212 + y170.toNat * 4, none⟩)) (x_indexAddr Tryd.underlying73 ty75 (slA ee218) rfl p209 p210) rfl (W_v (.agg #[.int .i64 ((rd a0 y170).Writer), .int .i64 ((rd a0 y170).TS), .bool ((rd a0 y170).Tomb), .string (bs ((rd a0 y170).Value))]) (x_loadA (S.frz hb214) ty75 rfl (sub_el hc217 0 rfl) rfl rfl) rfl ?_)
      refine W_store S 1 rfl ty75 rfl rfl [.int .i64 ((rd a0 y170).Writer), .int .i64 ((rd a0 y170).TS), .bool ((rd a0 y170).Tomb), .string (bs ((rd a0 y170).Value))] rfl rfl rfl #[.int .i64 ((rd a0 y170).Writer), .int .i64 ((rd a0 y170).TS), .bool ((rd a0 y170).Tomb), .string (bs ((rd a0 y170).Value))] rfl rfl ?_
      intro w219 E' S
      replace E := E.trans E'
      refine W_store S 0 rfl ty4 rfl rfl [.bool true] rfl rfl rfl #[.bool true] rfl rfl ?_
      intro w220 E' S
      replace E := E.trans E'
      refine Wl_nil (tn ?_)
      refine Wp_ret ?_
      refine br (?_)
      obtain rfl := Option.some.inj H
      exact endB_mk rfl LE173 E (St.close_ex (φ := (fun _ _ => True)) (hφ := (fun _ _ _ _ _ => trivial)) () trivial (S.pick [0, 1] (by decide)))
    refine Wp_cond_false (congrArg Value.bool hb208) (Wp_skip (bn ?_))
    obtain rfl := Option.some.inj H
    exact endB_mk trivial LE173 E (St.close_ex (φ := (fun _ _ => True)) (hφ := (fun _ _ _ _ _ => trivial)) () trivial (S.pick [0, 1, 2] (by decide)))
  intro w221 M222 Γ' hM223 E' hΨ S
  obtain rfl : Γ' = _ := hΨ
  replace E := E.trans E'
  replace HM := Hp.le_trans HM hM223
  replace hr0 := SlR.mono hr0 hM223
  have H := o167H
  rcases o167 with _ | x166
  · replace H := elimL H
    refine afterR_l ?_
    replace S : St w221 M222 F (AE (ι := Unit) (fun (i : Unit) => [Blk b7 (.cells #[.bool false] 4 (0, 0)), Blk b4 (.cells #[.int .i64 0, .int .i64 0, .bool false, .string (bs ([] : Str))] 75 (0, 0)), Blk b1 (.cells #[.slice A0 a0.length c0] 73 (0, 0))]) (fun _ _ => True) (fun _ _ _ _ _ => trivial) :: [Blk b12 (.cells #[.slice A0 a0.length c0] 73 (0, 0)), Blk b14 (.cells #[.int .i64 a1] 3 (0, 0))]) := S
    obtain ⟨_, _, S⟩ := S.open_ex
    replace S : St w221 M222 F [_, _, _, _, _] := S
    refine bn (tn (Wp_seq (Wp_region_lit (W_v (.agg #[.int .i64 0, .int .i64 0, .bool false, .string (bs ([] : Str))]) (x_build2 (pl := [(0, 1), (1, 1), (2, 1), (3, 1)]) #[.int .i64 0, .int .i64 0, .bool false, .string (bs ([] : Str))] Tryd.underlying75 ty75 (by as_aux_lemma => kernel_rfl) rfl (by as_aux_lemma => kernel_rfl)) rfl ?_))))
    refine W_store S 1 rfl ty75 rfl rfl [.int .i64 0, .int .i64 0, .bool false, .string (bs ([] : Str))] rfl rfl rfl #[.int .i64 0, .int .i64 0, .bool false, .string (bs ([] : Str))] rfl rfl ?_
    intro w224 E' S
    replace E := E.trans E'
    refine W_store S 0 rfl ty4 rfl rfl [.bool false] rfl rfl rfl #[.bool false] rfl rfl ?_
    intro w225 E' S
    replace E := E.trans E'
    refine Wl_nil (tn ?_)
    refine Wp_ret ?_
    obtain rfl := Option.some.inj H
    exact ⟨_, _, _, fun w1 e1 => run_resR (vs := [.agg #[.int .i64 0, .int .i64 0, .bool false, .string (bs ([] : Str))], .bool false]) (FA.cons (⟨_, rfl, run_loadVar_agg ty75 ((S.of_eq e1).blk 1 rfl) (sub_of_extract rfl) rfl (by decide)⟩) (FA.cons (⟨_, rfl, run_loadVar_one ty4 ((S.of_eq e1).blk 0 rfl) rfl⟩) (FA.nil))), HM, E, S.pick [] (by decide), ⟨rfl, rfl⟩⟩
  · replace H := elimR H
    refine afterR_r ?_
    replace S : St w221 M222 F (AE (ι := Unit) (fun (i : Unit) => [Blk b7 (.cells #[.bool true] 4 (0, 0)), B75 b4 x166]) (fun _ _ => True) (fun _ _ _ _ _ => trivial) :: [Blk b12 (.cells #[.slice A0 a0.length c0] 73 (0, 0)), Blk b14 (.cells #[.int .i64 a1] 3 (0, 0))]) := S
    obtain ⟨_, _, S⟩ := S.open_ex
    replace S : St w221 M222 F [_, _, _, _] := S
    refine Wp_ret ?_
    refine br (tr (?_))
    obtain rfl := Option.some.inj H
    exact ⟨_, _, _, fun w1 e1 => run_resR (vs := [.agg #[.int .i64 x166.Writer, .int .i64 x166.TS, .bool x166.Tomb, .string (bs x166.Value)], .bool true]) (FA.cons (⟨_, rfl, run_loadVar_agg ty75 ((S.of_eq e1).blk 1 rfl) (sub_of_extract rfl) rfl (by decide)⟩) (FA.cons (⟨_, rfl, run_loadVar_one ty4 ((S.of_eq e1).blk 0 rfl) rfl⟩) (FA.nil))), HM, E, S.pick [] (by decide), ⟨rfl, rfl⟩⟩
def keep_Clash (k : Nat) (a0 : (List api_Version)) (a1 : Int) : Option (Bool) :=
  (Option.bind (α := Bool) (if (decide ((a0.length : Int) > (0 : Int))) = true then (if 0 ≤ (0 : Int) ∧ (0 : Int) < (a0.length : Int) then some ((decide ((rd a0 (0 : Int)).TS > a1))) else none) else some (false)) (fun x22 => some x22))
set_option maxHeartbeats 2000000 in
theorem keep_Clash.mono {k : Nat} {a0 : (List api_Version)} {a1 : Int} : OLe (keep_Clash k a0 a1) (keep_Clash (k + 1) a0 a1) := by
  unfold keep_Clash
  repeat' (first | with_reducible exact OLe.none | with_reducible exact OLe.some | with_reducible refine OLe.ite ?_ ?_ | with_reducible refine OLe.bind ?_ (fun _ => ?_) | refine OLe.bind ?_ (fun _ => ?_) | refine OLe.ite ?_ ?_ | refine OLe.elim (fun _ => ?_) (fun _ => ?_) | split)
set_option maxHeartbeats 1000000 in
set_option maxRecDepth 100000 in
theorem keep_Clash.con (k : Nat) (M : Hp) (A0 : Option Addr) (c0 : Nat) (a0 : (List api_Version)) (a1 : Int) (r : Bool) (hr0 : SlR r_api_Version M (.slice A0 a0.length c0) a0) (h : keep_Clash k a0 a1 = some r) : Con Tryd.prog 109 #[.slice A0 a0.length c0, .int .i64 a1] M [] (fun v M' Γ' => v = .bool r ∧ Γ' = []) := by
  refine con_of_wp Tryd.func109 rfl Tryd.ntmps109 Tryd.results109 rfl ?_
  intro w F rn S hrn
  have E := Ext.refl w
  have HM := Hp.le_refl M
  have H := h
  unfold keep_Clash at H
  refine Wp_seq (Wp_region_lit (W_v (.bool false) (x_assign rfl) rfl (Wl_nil (tn (Wp_seq (Wp_region_lit (W_v (.slice A0 a0.length c0) (x_move rfl) rfl (W_v (.int .i64 (a0.length : Int)) (x_len_slice (n := a0.length) Tryd.underlying73 rfl) rfl (W_v (.bool (decide ((a0.length : Int) > (0 : Int)))) (x_ibin rfl rfl rfl rfl) rfl (W_v (.bool (decide ((a0.length : Int) > (0 : Int)))) (x_move rfl) rfl ?_))))))))))
  obtain ⟨o23, o23h, o23H⟩ := bindS H
  refine Wl_cutN 7 (fun ρ w' => ∃ (x22 : Bool), (x22) = o23 ∧ Agree ρ [(15, .bool x22)] ∧ Ext w w' ∧ St w' M F []) ?_ ?_
  · have H := o23h
    rcases iteS H with ⟨hb21, H⟩ | ⟨hb21, H⟩
    · skip
      refine W_yes (congrArg some hb21) (W_v (.slice A0 a0.length c0) (x_move rfl) rfl (W_yes (congrArg some hb21) ?_))
      obtain ⟨⟨p24, p25⟩, H⟩ := chkS H
      obtain ⟨b26, o27, cs28, _, _, ee33, hb29, vs30, hR31, hc32⟩ := SlW.at' hr0 p24 p25
      obtain rfl : vs30 = _ := hR31
      refine W_v (.pointer (some ⟨b26, o27 + (0 : Int).toNat * 4, none⟩)) (x_indexAddr Tryd.underlying73 ty75 (slA ee33) rfl p24 p25) rfl (W_yes (congrArg some hb21) (W_v (.pointer (some ⟨b26, o27 + (0 : Int).toNat * 4 + 1, none⟩)) (x_fieldAddr (o := o27 + (0 : Int).toNat * 4) (off := 1) Tryd.underlying75 rfl ty3 rfl rfl) rfl (W_yes (congrArg some hb21) (W_v (.int .i64 ((rd a0 (0 : Int)).TS)) (x_load (S.frz hb29) ty3 rfl (hc32 1 _ rfl)) rfl (W_yes (congrArg some hb21) (W_v (.int .i64 a1) (x_move rfl) rfl (W_yes (congrArg some hb21) (W_v (.bool (decide ((rd a0 (0 : Int)).TS > a1))) (x_ibin rfl rfl rfl rfl) rfl (W_v (.bool (decide ((rd a0 (0 : Int)).TS > a1))) (x_pick (k := true) (congrArg Value.bool hb21) rfl) rfl (Wl_nil ?_))))))))))
      exact ⟨(decide ((rd a0 (0 : Int)).TS > a1)), Option.some.inj H, ⟨rfl, trivial⟩, E, S.pick [] (by decide)⟩
    · skip
      refine W_no (skT hb21) rfl (W_no (skT hb21) rfl (W_no (skT hb21) rfl (W_no (skT hb21) rfl (W_no (skT hb21) rfl (W_no (skT hb21) rfl (W_v (.bool false) (x_pick (k := false) (congrArg Value.bool hb21) rfl) rfl (Wl_nil ?_)))))))
      exact ⟨false, Option.some.inj H, ⟨rfl, trivial⟩, E, S.pick [] (by decide)⟩
  rintro ρ w34 ⟨x22, rfl, hρ, E, S⟩
  rw [agree_eta hρ]
  have H := o23H
  refine W_v (.bool x22) (x_assign rfl) rfl (Wl_nil (tn ?_))
  refine Wp_ret ?_
  obtain rfl := Option.some.inj H
  exact ⟨_, _, _, fun w1 e1 => run_resR (vs := [.bool x22]) (FA.cons (rfl) (FA.nil)), HM, E, S.pick [] (by decide), ⟨rfl, rfl⟩⟩
def internal_bytealg_CompareString (k : Nat) (a0 : Str) (a1 : Str) : Option (Int) :=
  some (Lib.compareBytes a0 a1)
set_option maxHeartbeats 2000000 in
theorem internal_bytealg_CompareString.mono {k : Nat} {a0 : Str} {a1 : Str} : OLe (internal_bytealg_CompareString k a0 a1) (internal_bytealg_CompareString (k + 1) a0 a1) := by
  unfold internal_bytealg_CompareString
  repeat' (first | with_reducible exact OLe.none | with_reducible exact OLe.some | with_reducible refine OLe.ite ?_ ?_ | with_reducible refine OLe.bind ?_ (fun _ => ?_) | refine OLe.bind ?_ (fun _ => ?_) | refine OLe.ite ?_ ?_ | refine OLe.elim (fun _ => ?_) (fun _ => ?_) | split)
set_option maxHeartbeats 1000000 in
set_option maxRecDepth 100000 in
theorem internal_bytealg_CompareString.con (k : Nat) (M : Hp) (a0 : Str) (a1 : Str) (r : Int)  (h : internal_bytealg_CompareString k a0 a1 = some r) : Con Tryd.prog 47 #[.string (bs a0), .string (bs a1)] M [] (fun v M' Γ' => v = .int .i64 r ∧ Γ' = []) := by
  refine con_of_wp Tryd.func47 rfl Tryd.ntmps47 Tryd.results47 rfl ?_
  intro w F rn S hrn
  have E := Ext.refl w
  have HM := Hp.le_refl M
  have H := h
  unfold internal_bytealg_CompareString at H
  refine Wp_seq (Wp_region_lit (W_v (.int .i64 0) (x_assign rfl) rfl (Wl_nil (tn (Wp_seq (Wp_region_lit (W_v (.string (bs a0)) (x_move rfl) rfl (W_v (.string (bs a1)) (x_move rfl) rfl (W_v (.int .i64 (Lib.compareBytes a0 a1)) (x_cmp cmp64 rfl rfl) rfl (W_v (.int .i64 (Lib.compareBytes a0 a1)) (x_assign rfl) rfl (Wl_nil (tn ?_))))))))))))
  refine Wp_ret ?_
  obtain rfl := Option.some.inj H
  exact ⟨_, _, _, fun w1 e1 => run_resR (vs := [.int .i64 (Lib.compareBytes a0 a1)]) (FA.cons (rfl) (FA.nil)), HM, E, S.pick [] (by decide), ⟨rfl, rfl⟩⟩
def strings_Compare (k : Nat) (a0 : Str) (a1 : Str) : Option (Int) :=
  (Option.bind (internal_bytealg_CompareString k a0 a1) (fun t1 => some t1))
set_option maxHeartbeats 2000000 in
theorem strings_Compare.mono {k : Nat} {a0 : Str} {a1 : Str} : OLe (strings_Compare k a0 a1) (strings_Compare (k + 1) a0 a1) := by
  unfold strings_Compare
  repeat' (first | with_reducible exact OLe.none | with_reducible exact OLe.some | with_reducible refine OLe.ite ?_ ?_ | with_reducible refine OLe.bind ?_ (fun _ => ?_) | with_reducible exact internal_bytealg_CompareString.mono | refine OLe.bind ?_ (fun _ => ?_) | refine OLe.ite ?_ ?_ | refine OLe.elim (fun _ => ?_) (fun _ => ?_) | split)
set_option maxHeartbeats 1000000 in
set_option maxRecDepth 100000 in
theorem strings_Compare.con (k : Nat) (M : Hp) (a0 : Str) (a1 : Str) (r : Int)  (h : strings_Compare k a0 a1 = some r) : Con Tryd.prog 36 #[.string (bs a0), .string (bs a1)] M [] (fun v M' Γ' => v = .int .i64 r ∧ Γ' = []) := by
  refine con_of_wp Tryd.func36 rfl Tryd.ntmps36 Tryd.results36 rfl ?_
  intro w F rn S hrn
  have E := Ext.refl w
  have HM := Hp.le_refl M
  have H := h
  unfold strings_Compare at H
  refine Wp_seq (Wp_region_lit (W_v (.int .i64 0) (x_assign rfl) rfl (Wl_nil (tn (Wp_seq (Wp_region_lit (W_v (.string (bs a0)) (x_move rfl) rfl (W_v (.string (bs a1)) (x_move rfl) rfl ?_))))))))
  obtain ⟨t1, ht2, H⟩ := bindS H
  refine W_callF fn47 (internal_bytealg_CompareString.con k M a0 a1 t1  ht2) S rfl rfl (by rintro _ _ _ ⟨_, rfl⟩; exact flat_nil) ?_
  rintro _ w3 _ Γ' E' S ⟨rfl, rfl⟩
  replace E := E.trans E'
  refine W_v (.int .i64 t1) (x_assign rfl) rfl (Wl_nil (tn ?_))
  refine Wp_ret ?_
  obtain rfl := Option.some.inj H
  exact ⟨_, _, _, fun w1 e1 => run_resR (vs := [.int .i64 t1]) (FA.cons (rfl) (FA.nil)), HM, E, S.pick [] (by decide), ⟨rfl, rfl⟩⟩
def text_Compare (k : Nat) (a0 : Str) (a1 : Str) : Option (Int) :=
  (Option.bind (strings_Compare k a0 a1) (fun t1 => some t1))
set_option maxHeartbeats 2000000 in
theorem text_Compare.mono {k : Nat} {a0 : Str} {a1 : Str} : OLe (text_Compare k a0 a1) (text_Compare (k + 1) a0 a1) := by
  unfold text_Compare
  repeat' (first | with_reducible exact OLe.none | with_reducible exact OLe.some | with_reducible refine OLe.ite ?_ ?_ | with_reducible refine OLe.bind ?_ (fun _ => ?_) | with_reducible exact strings_Compare.mono | refine OLe.bind ?_ (fun _ => ?_) | refine OLe.ite ?_ ?_ | refine OLe.elim (fun _ => ?_) (fun _ => ?_) | split)
set_option maxHeartbeats 1000000 in
set_option maxRecDepth 100000 in
theorem text_Compare.con (k : Nat) (M : Hp) (a0 : Str) (a1 : Str) (r : Int)  (h : text_Compare k a0 a1 = some r) : Con Tryd.prog 28 #[.string (bs a0), .string (bs a1)] M [] (fun v M' Γ' => v = .int .i64 r ∧ Γ' = []) := by
  refine con_of_wp Tryd.func28 rfl Tryd.ntmps28 Tryd.results28 rfl ?_
  intro w F rn S hrn
  have E := Ext.refl w
  have HM := Hp.le_refl M
  have H := h
  unfold text_Compare at H
  refine Wp_seq (Wp_region_lit (W_v (.int .i64 0) (x_assign rfl) rfl (Wl_nil (tn (Wp_seq (Wp_region_lit (W_v (.string (bs a0)) (x_move rfl) rfl (W_v (.string (bs a1)) (x_move rfl) rfl ?_))))))))
  obtain ⟨t1, ht2, H⟩ := bindS H
  refine W_callF fn36 (strings_Compare.con k M a0 a1 t1  ht2) S rfl rfl (by rintro _ _ _ ⟨_, rfl⟩; exact flat_nil) ?_
  rintro _ w3 _ Γ' E' S ⟨rfl, rfl⟩
  replace E := E.trans E'
  refine W_v (.int .i64 t1) (x_assign rfl) rfl (Wl_nil (tn ?_))
  refine Wp_ret ?_
  obtain rfl := Option.some.inj H
  exact ⟨_, _, _, fun w1 e1 => run_resR (vs := [.int .i64 t1]) (FA.cons (rfl) (FA.nil)), HM, E, S.pick [] (by decide), ⟨rfl, rfl⟩⟩
def text_Within (k : Nat) (a0 : Str) (a1 : Str) (a2 : Str) : Option (Bool) :=
  some ((sbin .leq a1 a0) && ((sbin .eql a2 ([] : Str)) || (sbin .lss a0 a2)))
set_option maxHeartbeats 2000000 in
theorem text_Within.mono {k : Nat} {a0 : Str} {a1 : Str} {a2 : Str} : OLe (text_Within k a0 a1 a2) (text_Within (k + 1) a0 a1 a2) := by
  unfold text_Within
  repeat' (first | with_reducible exact OLe.none | with_reducible exact OLe.some | with_reducible refine OLe.ite ?_ ?_ | with_reducible refine OLe.bind ?_ (fun _ => ?_) | refine OLe.bind ?_ (fun _ => ?_) | refine OLe.ite ?_ ?_ | refine OLe.elim (fun _ => ?_) (fun _ => ?_) | split)
set_option maxHeartbeats 1000000 in
set_option maxRecDepth 100000 in
theorem text_Within.con (k : Nat) (M : Hp) (a0 : Str) (a1 : Str) (a2 : Str) (r : Bool)  (h : text_Within k a0 a1 a2 = some r) : Con Tryd.prog 103 #[.string (bs a0), .string (bs a1), .string (bs a2)] M [] (fun v M' Γ' => v = .bool r ∧ Γ' = []) := by
  refine con_of_wp Tryd.func103 rfl Tryd.ntmps103 Tryd.results103 rfl ?_
  intro w F rn S hrn
  have E := Ext.refl w
  have HM := Hp.le_refl M
  have H := h
  unfold text_Within at H
  refine Wp_seq (Wp_region_lit (W_v (.bool false) (x_assign rfl) rfl (Wl_nil (tn (Wp_seq (Wp_region_lit (W_v (.string (bs a1)) (x_move rfl) rfl (W_v (.string (bs a0)) (x_move rfl) rfl (W_v (.bool (sbin .leq a1 a0)) (x_sbin rfl rfl rfl) rfl (W_v (.bool (sbin .leq a1 a0)) (x_move rfl) rfl ?_))))))))))
  refine Wl_cutN 8 (fun ρ w' => Agree ρ [(18, .bool ((sbin .leq a1 a0) && ((sbin .eql a2 ([] : Str)) || (sbin .lss a0 a2))))] ∧ w = w') ?_ ?_
  · as_aux_lemma =>
      rcases boolCases (sbin .leq a1 a0) with hb3 | hb3
      · skip
        refine W_no (skT hb3) rfl (W_no (skT hb3) rfl (W_no (skT hb3) rfl (W_no (rfl) rfl (W_no (rfl) rfl (W_no (rfl) rfl (W_no (skT hb3) rfl (W_v (.bool false) (x_pick (k := false) (congrArg Value.bool hb3) rfl) rfl (Wl_nil ?_))))))))
        exact ⟨⟨(by first | rfl | (rw [hb3]; rfl) | (simp only [hb3]; rfl)), trivial⟩, rfl⟩
      · skip
        refine W_yes (congrArg some hb3) (W_v (.string (bs a2)) (x_move rfl) rfl (W_yes (congrArg some hb3) (W_v (.bool (sbin .eql a2 ([] : Str))) (x_sbin rfl rfl rfl) rfl (W_yes (congrArg some hb3) (W_v (.bool (sbin .eql a2 ([] : Str))) (x_move rfl) rfl ?_)))))
        refine Wl_cutN 4 (fun ρ w' => Agree ρ [(10, .bool (sbin .leq a1 a0)), (17, .bool ((sbin .eql a2 ([] : Str)) || (sbin .lss a0 a2)))] ∧ w = w') ?_ ?_
        · rcases boolCases (sbin .eql a2 ([] : Str)) with hb4 | hb4
          · skip
            refine W_yes (congrArg some hb4) (W_v (.string (bs a0)) (x_move rfl) rfl (W_yes (congrArg some hb4) (W_v (.string (bs a2)) (x_move rfl) rfl (W_yes (congrArg some hb4) (W_v (.bool (sbin .lss a0 a2)) (x_sbin rfl rfl rfl) rfl (W_yes (congrArg some hb3) (W_v (.bool (sbin .lss a0 a2)) (x_pick (k := false) (congrArg Value.bool hb4) rfl) rfl (Wl_nil ?_))))))))
            exact ⟨⟨rfl, (by first | rfl | (rw [hb4]; rfl) | (simp only [hb4]; rfl)), trivial⟩, rfl⟩
          · skip
            refine W_no (skF hb4) rfl (W_no (skF hb4) rfl (W_no (skF hb4) rfl (W_yes (congrArg some hb3) (W_v (.bool true) (x_pick (k := true) (congrArg Value.bool hb4) rfl) rfl (Wl_nil ?_)))))
            exact ⟨⟨rfl, (by first | rfl | (rw [hb4]; rfl) | (simp only [hb4]; rfl)), trivial⟩, rfl⟩
        rintro ρ _ ⟨hρ, rfl⟩
        rw [agree_eta hρ]
        refine W_v (.bool ((sbin .eql a2 ([] : Str)) || (sbin .lss a0 a2))) (x_pick (k := true) (congrArg Value.bool hb3) rfl) rfl (Wl_nil ?_)
        exact ⟨⟨(by first | rfl | (rw [hb3]; rfl) | (simp only [hb3]; rfl)), trivial⟩, rfl⟩
  rintro ρ _ ⟨hρ, rfl⟩
  rw [agree_eta hρ]
  refine W_v (.bool ((sbin .leq a1 a0) && ((sbin .eql a2 ([] : Str)) || (sbin .lss a0 a2)))) (x_assign rfl) rfl (Wl_nil (tn ?_))
  refine Wp_ret ?_
  obtain rfl := Option.some.inj H
  exact ⟨_, _, _, fun w1 e1 => run_resR (vs := [.bool ((sbin .leq a1 a0) && ((sbin .eql a2 ([] : Str)) || (sbin .lss a0 a2)))]) (FA.cons (rfl) (FA.nil)), HM, E, S.pick [] (by decide), ⟨rfl, rfl⟩⟩
def slices_Clone_api_Version_api_Version (k : Nat) (a0 : List api_Version) : Option (List api_Version) :=
  if ([] : List api_Version).length + a0.length ≤ 3518437208883 then some (([] : List api_Version) ++ a0) else none
set_option maxHeartbeats 2000000 in
theorem slices_Clone_api_Version_api_Version.mono {k : Nat} {a0 : List api_Version} : OLe (slices_Clone_api_Version_api_Version k a0) (slices_Clone_api_Version_api_Version (k + 1) a0) := by
  unfold slices_Clone_api_Version_api_Version
  repeat' (first | with_reducible exact OLe.none | with_reducible exact OLe.some | with_reducible refine OLe.ite ?_ ?_ | with_reducible refine OLe.bind ?_ (fun _ => ?_) | refine OLe.bind ?_ (fun _ => ?_) | refine OLe.ite ?_ ?_ | refine OLe.elim (fun _ => ?_) (fun _ => ?_) | split)
set_option maxHeartbeats 1000000 in
set_option maxRecDepth 100000 in
theorem slices_Clone_api_Version_api_Version.con (k : Nat) (M : Hp) (A0 : Option Addr) (c0 : Nat) (a0 : (List api_Version)) (r : (List api_Version)) (hr0 : SlR r_api_Version M (.slice A0 a0.length c0) a0) (h : slices_Clone_api_Version_api_Version k a0 = some r) : Con Tryd.prog 112 #[.slice A0 a0.length c0] M [] (fun v M' Γ' => ∃ (A0 : Option Addr) (c0 : Nat), v = .slice A0 r.length c0 ∧ Γ' = [Row r_api_Version 75 (.slice A0 r.length c0) r]) := by
  have H := h
  unfold slices_Clone_api_Version_api_Version at H
  cases A0 with
  | none =>
    obtain ⟨_, H⟩ := chkS H
    obtain rfl : a0 = [] := SlW.none_nil hr0
    refine con_of_wp Tryd.func112 rfl Tryd.ntmps112 Tryd.results112 rfl ?_
    intro w F rn S hrn
    have E := Ext.refl w
    have HM := Hp.le_refl M
    refine Wp_seq (Wp_region_lit (W_v (.slice none 0 0) (x_assign rfl) rfl (Wl_nil (tn (Wp_seq (Wp_seq (Wp_region_lit (W_v (.slice none ([] : List api_Version).length c0) (x_move rfl) rfl (W_v (.bool true) (x_eq_of rfl rfl (run_equal_slice_nil _ _ _ _ _ _ Tryd.underlying73)) rfl (Wl_nil (tn (Wp_cond_true rfl (Wp_seq (Wp_region_lit (W_v (.slice none 0 0) (x_assign rfl) rfl ?_)))))))))))))))
    refine Wl_nil (tn ?_)
    refine Wp_ret ?_
    refine tr (?_)
    obtain rfl := Option.some.inj H
    replace S := S.row_nil r_api_Version 75
    exact ⟨_, _, _, fun w1 e1 => run_resR (vs := [.slice none 0 0]) (FA.cons (rfl) (FA.nil)), HM, E, S.pick [0] (by decide), ⟨none, 0, rfl, rfl⟩⟩
  | some ad =>
    refine con_of_wp Tryd.func112 rfl Tryd.ntmps112 Tryd.results112 rfl ?_
    intro w F rn S hrn
    have E := Ext.refl w
    have HM := Hp.le_refl M
    refine Wp_seq (Wp_region_lit (W_v (.slice none 0 0) (x_assign rfl) rfl (Wl_nil (tn (Wp_seq (Wp_seq (Wp_region_lit (W_v (.slice (some ad) a0.length c0) (x_move rfl) rfl (W_v (.bool false) (x_eq_of rfl rfl (run_equal_slice_nil _ _ _ _ _ _ Tryd.underlying73)) rfl (Wl_nil (tn (Wp_cond_false rfl (Wp_skip (tn (Wp_seq ?_)))))))))))))))
    refine Wp_region_lit ?_
    refine W_bslice S #[] Tryd.underlying73 ty75 rfl rfl #[] (by as_aux_lemma => kernel_rfl) (by as_aux_lemma => kernel_rfl) rfl ?_
    intro b2 w3 E' S
    replace E := E.trans E'
    replace S := S.blk_row (r := r_api_Version) (l := ([] : List api_Version)) 0 rfl 0 (Nat.le_refl 0) rfl Cells.nil
    refine W_v (.slice (some ad) a0.length c0) (x_move rfl) rfl ?_
    obtain ⟨p5, H⟩ := chkS H
    obtain ⟨src6, hs7, hC8⟩ := src_of_read (P := Tryd.prog) (ρ := r_api_Version) (l := a0) (SlR.world hr0 S) (by decide)
    refine W_append S 0 rfl rfl rfl Tryd.underlying73 (.inl Tryd.underlying73) ty75 rfl (by decide) (by decide) hs7 hC8 rfl (by omega) rfl ?_
    intro v9 w10 E' S
    replace E := E.trans E'
    obtain ⟨A11, c12, rfl, _⟩ := (S.row_read 0 rfl).form
    refine W_v (.slice A11 (([] : List api_Version) ++ a0).length c12) (x_assign rfl) rfl (Wl_nil (tn ?_))
    refine Wp_ret ?_
    obtain rfl := Option.some.inj H
    exact ⟨_, _, _, fun w1 e1 => run_resR (vs := [.slice A11 (([] : List api_Version) ++ a0).length c12]) (FA.cons (rfl) (FA.nil)), HM, E, S.pick [0] (by decide), ⟨A11, c12, rfl, rfl⟩⟩
def keep_Kept_b0 (a0 : (List api_Version)) (k : Nat) : (Int × Bool) → Int → Option ((Int) ⊕ (Unit))
  | (y164, y165), x113 => (Option.bind (α := Int) (if (!y165) = true then some (x113) else (if 0 ≤ y164 ∧ y164 < (a0.length : Int) then (Option.bind (α := Int) (if (!((rd a0 y164).Tomb)) = true then some ((IntKind.i64.wrap (y164 + (1 : Int)))) else some (y164)) (fun x207 => some (x207))) else none)) (fun x189 => some (.inl x189)))
set_option maxHeartbeats 2000000 in
theorem keep_Kept_b0.mono {a0 : (List api_Version)} {k : Nat} : ∀ x s, OLe (keep_Kept_b0 a0 k x s) (keep_Kept_b0 a0 (k + 1) x s) := by
  intro x s
  unfold keep_Kept_b0
  repeat' (first | with_reducible exact OLe.none | with_reducible exact OLe.some | with_reducible refine OLe.ite ?_ ?_ | with_reducible refine OLe.bind ?_ (fun _ => ?_) | refine OLe.bind ?_ (fun _ => ?_) | refine OLe.ite ?_ ?_ | refine OLe.elim (fun _ => ?_) (fun _ => ?_) | split)
def keep_Kept (k : Nat) (a0 : (List api_Version)) (a1 : Int) : Option ((List api_Version)) :=
  (Option.bind (keep_till_v k a0 a1) (fun t8 => (Option.bind (keep_till_1 k a0 a1 (keep_Kept_b0 a0 k) (a0.length : Int)) (fun o161o => Sum.elim (fun x113 => (if 0 ≤ x113 ∧ x113 ≤ x113 ∧ x113 ≤ (a0.length : Int) then (Option.bind (slices_Clone_api_Version_api_Version k (List.take x113.toNat a0)) (fun t221 => some t221)) else none)) (fun _ => none) o161o))))
set_option maxHeartbeats 2000000 in
theorem keep_Kept.mono {k : Nat} {a0 : (List api_Version)} {a1 : Int} : OLe (keep_Kept k a0 a1) (keep_Kept (k + 1) a0 a1) := by
  unfold keep_Kept
  repeat' (first | with_reducible exact OLe.none | with_reducible exact OLe.some | with_reducible refine OLe.ite ?_ ?_ | with_reducible refine OLe.bind ?_ (fun _ => ?_) | with_reducible exact keep_Kept_b0.mono | exact keep_till_1.mono (fun _ _ => by first | exact keep_Kept_b0.mono _ _) | with_reducible exact keep_till_v.mono | with_reducible exact slices_Clone_api_Version_api_Version.mono | refine OLe.bind ?_ (fun _ => ?_) | refine OLe.ite ?_ ?_ | refine OLe.elim (fun _ => ?_) (fun _ => ?_) | split)
set_option maxHeartbeats 1000000 in
set_option maxRecDepth 100000 in
theorem keep_Kept.con (k : Nat) (M : Hp) (A0 : Option Addr) (c0 : Nat) (a0 : (List api_Version)) (a1 : Int) (r : (List api_Version)) (hr0 : SlR r_api_Version M (.slice A0 a0.length c0) a0) (h : keep_Kept k a0 a1 = some r) : Con Tryd.prog 107 #[.slice A0 a0.length c0, .int .i64 a1] M [] (fun v M' Γ' => ∃ (A0 : Option Addr) (c0 : Nat), v = .slice A0 r.length c0 ∧ Γ' = [Row r_api_Version 75 (.slice A0 r.length c0) r]) := by
  refine con_of_wp Tryd.func107 rfl Tryd.ntmps107 Tryd.results107 rfl ?_
  intro w F rn S hrn
  have E := Ext.refl w
  have HM := Hp.le_refl M
  have H := h
  unfold keep_Kept at H
  refine Wp_seq (Wp_region_lit ?_)
  refine W_box S #[.slice A0 a0.length c0] rfl rfl rfl ?_
  intro b1 w2 E' S
  replace E := E.trans E'
  refine W_v (.slice none 0 0) (x_assign rfl) rfl (Wl_nil (tn (Wp_seq (Wp_region_lit (W_v (.slice A0 a0.length c0) (x_load (S.blk 0 rfl) ty73 rfl rfl) rfl (W_v (.int .i64 (a0.length : Int)) (x_len_slice (n := a0.length) Tryd.underlying73 rfl) rfl ?_))))))
  refine W_alloc S #[.int .i64 0] ty3 rfl rfl ?_
  intro b4 w5 E' S
  replace E := E.trans E'
  refine W_store S 0 rfl ty3 rfl rfl [.int .i64 (a0.length : Int)] rfl rfl rfl #[.int .i64 (a0.length : Int)] rfl rfl ?_
  intro w7 E' S
  replace E := E.trans E'
  refine Wl_nil (tn (Wp_seq (Wp_seq (Wp_region_lit (W_v (.slice A0 a0.length c0) (x_load (S.blk 1 rfl) ty73 rfl rfl) rfl (W_v (.int .i64 a1) (x_move rfl) rfl ?_))))))
  obtain ⟨t8, ht9, H⟩ := bindS H
  refine W_callF2 fn111 (keep_till_v.con k M A0 c0 a0 a1 t8 hr0 ht9) (Γ1 := []) (Γ2 := [_, _]) S rfl rfl (by rintro _ _ _ ⟨_, _, rfl, rfl⟩; exact (flat_cons flat_blk (flat_cons flat_blk flat_nil))) ?_
  rintro _ w14 _ Γ' E' S ⟨b10, b12, rfl, rfl⟩
  replace E := E.trans E'
  replace S : St w14 M F [_, _, _, _] := S
  refine Wl_nil (tn ?_)
  refine Wp_block ?_
  obtain ⟨o161, o161h, o161H⟩ := bindS H
  refine Wp_rangeFunc (σ := Int) (ε := Unit) (Γi := [Blk b10 (.cells #[.slice A0 a0.length c0] 73 (0, 0)), Blk b12 (.cells #[.int .i64 a1] 3 (0, 0))]) (Γr := []) (Sum.elim (fun x113 => AE (ι := Unit) (fun (i : Unit) => [Blk b4 (.cells #[.int .i64 x113] 3 (0, 0)), Blk b1 (.cells #[.slice A0 a0.length c0] 73 (0, 0))]) (fun _ _ => True) (fun _ _ _ _ _ => trivial)) (fun _ => Star [])) (fun _ => Code.ret) fn113 rfl (St.close_ex (φ := (fun _ _ => True)) (hφ := (fun _ _ _ _ _ => trivial)) () trivial (S.pick [2, 3, 0, 1] (by decide))) (by rintro _ _ _ rfl; rfl) (by decide) (keep_till_1.con k M A0 c0 a0 a1 b10 b12 (keep_Kept_b0 a0 k) (a0.length : Int) o161 hr0 o161h) ?_ ?_
  · intro nn lp M162 F yy vs x113 tt w hM163 henc hbd S
    obtain ⟨y164, y165⟩ := yy
    obtain rfl := henc
    replace HM := Hp.le_trans HM hM163
    replace hr0 := SlR.mono hr0 hM163
    replace S : St w M162 F (AE (ι := Unit) (fun (i : Unit) => [Blk b4 (.cells #[.int .i64 x113] 3 (0, 0)), Blk b1 (.cells #[.slice A0 a0.length c0] 73 (0, 0))]) (fun _ _ => True) (fun _ _ _ _ _ => trivial) :: []) := S
    obtain ⟨_, _, S⟩ := S.open_ex
    replace S : St w M162 F [_, _] := S
    have E := Ext.refl w
    have LE166 := Hp.le_refl M162
    have H := hbd
    rw [keep_Kept_b0.eq_1] at H
    refine Wp_seq (Wp_region_lit (W_v (.int .i64 y164) (x_assign rfl) rfl (Wl_nil (tn (Wp_region_lit (W_v (.bool y165) (x_assign rfl) rfl (Wl_nil ?_)))))))
    refine on_n ⟨_, _, LE166, E, S, ?_⟩
    intro w F E3 S
    have E := Ext.refl w
    have LE167 := Hp.le_refl M162
    obtain ⟨o190, o190h, o190H⟩ := bindS H
    refine Wp_cut (fun ρ w' => ∃ (x189 : Int), (x189) = o190 ∧ Agree ρ [(2, pt b1 0), (4, .slice none 0 0), (5, pt b4 0)] ∧ Ext w w' ∧ St w' M162 F [Blk b4 (.cells #[.int .i64 x189] 3 (0, 0)), Blk b1 (.cells #[.slice A0 a0.length c0] 73 (0, 0))]) ?_ ?_
    · as_aux_lemma =>
        clear o190H
        have H := o190h
        refine Wp_block ?_
        refine Wp_seq (Wp_seq (Wp_region_lit (W_v (.bool y165) (x_move rfl) rfl (W_v (.bool (!y165)) (x_not (b := y165) rfl) rfl (Wl_nil (tn ?_))))))
        rcases iteS H with ⟨hb191, H⟩ | ⟨hb191, H⟩
        · refine Wp_cond_true (congrArg Value.bool hb191) ?_
          refine Wp_exit ?_
          refine tx (bsm (?_))
          refine tn ?_
          exact ⟨x113, Option.some.inj H, ⟨rfl, rfl, rfl, trivial⟩, E, S.pick [0, 1] (by decide)⟩
        refine Wp_cond_false (congrArg Value.bool hb191) (Wp_skip (tn (Wp_seq (Wp_region_lit (W_v (.int .i64 y164) (x_move rfl) rfl ?_)))))
        refine W_store S 0 rfl ty3 rfl rfl [.int .i64 y164] rfl rfl rfl #[.int .i64 y164] rfl rfl ?_
        intro w192 E' S
        replace E := E.trans E'
        refine Wl_nil (tn (Wp_seq (Wp_region_lit (W_v (.slice A0 a0.length c0) (x_load (S.blk 1 rfl) ty73 rfl rfl) rfl (W_v (.int .i64 y164) (x_move rfl) rfl ?_)))))
        obtain ⟨⟨p193, p194⟩, H⟩ := chkS H
        obtain ⟨b195, o196, cs197, _, _, ee202, hb198, vs199, hR200, hc201⟩ := SlW.at' hr0 p193 p194
        obtain rfl : vs199 = _ := hR200
        refine W_v (.pointer (some ⟨b195, o196 + y164.toNat * 4, none⟩)) (x_indexAddr Tryd.underlying73 ty75 (slA ee202) rfl p193 p194) rfl (W_v (.pointer (some ⟨b195, o196 + y164.toNat * 4 + 2, none⟩)) (x_fieldAddr (o := o196 + y164.toNat * 4) (off := 2) Tryd.underlying75 rfl ty4 rfl rfl) rfl (W_v (.bool ((rd a0 y164).Tomb)) (x_load (S.frz hb198) ty4 rfl (hc201 2 _ rfl)) rfl (W_v (.bool (!((rd a0 y164).Tomb))) (x_not (b := ((rd a0 y164).Tomb)) rfl) rfl (Wl_nil (tn ?_)))))
        obtain ⟨o208, o208h, o208H⟩ := bindS H
        refine Wp_cut (fun ρ w' => ∃ (x207 : Int), (x207) = o208 ∧ Agree ρ [(2, pt b1 0), (4, .slice none 0 0), (5, pt b4 0)] ∧ Ext w w' ∧ St w' M162 F [Blk b4 (.cells #[.int .i64 x207] 3 (0, 0)), Blk b1 (.cells #[.slice A0 a0.length c0] 73 (0, 0))]) ?_ ?_
        · clear o208H
          have H := o208h
          rcases iteS H with ⟨hb209, H⟩ | ⟨hb209, H⟩
          · refine Wp_cond_true (congrArg Value.bool hb209) ?_
            refine Wp_region_lit (W_v (.int .i64 y164) (x_move rfl) rfl (W_v (.int .i64 (IntKind.i64.wrap (y164 + (1 : Int)))) (x_ibin rfl rfl rfl rfl) rfl ?_))
            refine W_store S 0 rfl ty3 rfl rfl [.int .i64 (IntKind.i64.wrap (y164 + (1 : Int)))] rfl rfl rfl #[.int .i64 (IntKind.i64.wrap (y164 + (1 : Int)))] rfl rfl ?_
            intro w210 E' S
            replace E := E.trans E'
            refine Wl_nil (tn ?_)
            exact ⟨(IntKind.i64.wrap (y164 + (1 : Int))), Option.some.inj H, ⟨rfl, rfl, rfl, trivial⟩, E, S.pick [0, 1] (by decide)⟩
          refine Wp_cond_false (congrArg Value.bool hb209) (Wp_skip (tn ?_))
          exact ⟨y164, Option.some.inj H, ⟨rfl, rfl, rfl, trivial⟩, E, S.pick [0, 1] (by decide)⟩
        rintro ρ w211 ⟨x207, rfl, hρ, E, S⟩
        rw [agree_eta hρ]
        have H := o208H
        refine bn (tn ?_)
        exact ⟨x207, Option.some.inj H, ⟨rfl, rfl, rfl, trivial⟩, E, S.pick [0, 1] (by decide)⟩
    rintro ρ w212 ⟨x189, rfl, hρ, E, S⟩
    rw [agree_eta hρ]
    have H := o190H
    obtain rfl := Option.some.inj H
    exact endB_mk trivial LE167 E (St.close_ex (φ := (fun _ _ => True)) (hφ := (fun _ _ _ _ _ => trivial)) () trivial (S.pick [0, 1] (by decide)))
  intro w213 M214 Γ' hM215 E' hΨ S
  obtain rfl : Γ' = _ := hΨ
  replace E := E.trans E'
  replace HM := Hp.le_trans HM hM215
  replace hr0 := SlR.mono hr0 hM215
  have H := o161H
  rcases o161 with x113 | _
  · replace H := elimL H
    refine afterR_l ?_
    replace S : St w213 M214 F (AE (ι := Unit) (fun (i : Unit) => [Blk b4 (.cells #[.int .i64 x113] 3 (0, 0)), Blk b1 (.cells #[.slice A0 a0.length c0] 73 (0, 0))]) (fun _ _ => True) (fun _ _ _ _ _ => trivial) :: [Blk b10 (.cells #[.slice A0 a0.length c0] 73 (0, 0)), Blk b12 (.cells #[.int .i64 a1] 3 (0, 0))]) := S
    obtain ⟨_, _, S⟩ := S.open_ex
    replace S : St w213 M214 F [_, _, _, _] := S
    refine bn (tn (Wp_seq (Wp_region_lit (W_v (.slice A0 a0.length c0) (x_load (S.blk 1 rfl) ty73 rfl rfl) rfl (W_v (.int .i64 x113) (x_load (S.blk 0 rfl) ty3 rfl rfl) rfl (W_v (.int .i64 x113) (x_load (S.blk 0 rfl) ty3 rfl rfl) rfl ?_))))))
    obtain ⟨⟨p216, p217, p218⟩, H⟩ := chkS H
    obtain ⟨hs219, hx220⟩ := sl_hm hr0 p216 p217 p218
    refine W_v (.slice A0 (List.take x113.toNat a0).length x113.toNat) (hx220 Tryd.underlying73 ty75 rfl rfl rfl) rfl ?_
    obtain ⟨t221, ht222, H⟩ := bindS H
    refine W_callF fn112 (slices_Clone_api_Version_api_Version.con k M214 A0 x113.toNat (List.take x113.toNat a0) t221 hs219 ht222) S rfl rfl (by rintro _ _ _ ⟨_, _, _, rfl⟩; exact (flat_cons (flat_row (fun _ _ _ _ h => h)) flat_nil)) ?_
    rintro _ w226 _ Γ' E' S ⟨A223, c224, rfl, rfl⟩
    replace E := E.trans E'
    refine W_v (.slice A223 t221.length c224) (x_assign rfl) rfl (Wl_nil (tn ?_))
    refine Wp_ret ?_
    obtain rfl := Option.some.inj H
    exact ⟨_, _, _, fun w1 e1 => run_resR (vs := [.slice A223 t221.length c224]) (FA.cons (rfl) (FA.nil)), HM, E, S.pick [0] (by decide), ⟨A223, c224, rfl, rfl⟩⟩
  · cases H
def slices_Equal_api_Pair_api_Pair_l0 (a0 : (List api_Pair)) (a1 : (List api_Pair)) : Nat → Int → Option ((Bool) ⊕ (Unit))
  | 0, _ => none
  | k + 1, x92 => (if (decide (x92 < (a0.length : Int))) = true then (if 0 ≤ x92 ∧ x92 < (a0.length : Int) then (if 0 ≤ x92 ∧ x92 < (a1.length : Int) then (if (!(((rd a0 x92).Key == (rd a1 x92).Key) && ((rd a0 x92).Value == (rd a1 x92).Value))) = true then some (.inl false) else slices_Equal_api_Pair_api_Pair_l0 a0 a1 k (IntKind.i64.wrap (x92 + (1 : Int)))) else none) else none) else some (.inr ()))
set_option maxHeartbeats 2000000 in
theorem slices_Equal_api_Pair_api_Pair_l0.mono {a0 : (List api_Pair)} {a1 : (List api_Pair)} : ∀ {kl : Nat} {x0}, OLe (slices_Equal_api_Pair_api_Pair_l0 a0 a1 kl x0) (slices_Equal_api_Pair_api_Pair_l0 a0 a1 (kl + 1) x0) := by
  intro kl
  induction kl with
  | zero => intros; exact OLe.none
  | succ kl ih =>
    intros
    rw [slices_Equal_api_Pair_api_Pair_l0.eq_2, slices_Equal_api_Pair_api_Pair_l0.eq_2]
    repeat' (first | with_reducible exact OLe.none | with_reducible exact OLe.some | with_reducible refine OLe.ite ?_ ?_ | with_reducible refine OLe.bind ?_ (fun _ => ?_) | exact ih | refine OLe.bind ?_ (fun _ => ?_) | refine OLe.ite ?_ ?_ | refine OLe.elim (fun _ => ?_) (fun _ => ?_) | split)
def slices_Equal_api_Pair_api_Pair (k : Nat) (a0 : (List api_Pair)) (a1 : (List api_Pair)) : Option (Bool) :=
  (if ((a0.length : Int) != (a1.length : Int)) = true then some false else (Option.bind (slices_Equal_api_Pair_api_Pair_l0 a0 a1 k (0 : Int)) (fun o137o => Sum.elim (fun r' => some r') (fun _ => some true) o137o)))
set_option maxHeartbeats 2000000 in
theorem slices_Equal_api_Pair_api_Pair.mono {k : Nat} {a0 : (List api_Pair)} {a1 : (List api_Pair)} : OLe (slices_Equal_api_Pair_api_Pair k a0 a1) (slices_Equal_api_Pair_api_Pair (k + 1) a0 a1) := by
  unfold slices_Equal_api_Pair_api_Pair
  repeat' (first | with_reducible exact OLe.none | with_reducible exact OLe.some | with_reducible refine OLe.ite ?_ ?_ | with_reducible refine OLe.bind ?_ (fun _ => ?_) | with_reducible exact slices_Equal_api_Pair_api_Pair_l0.mono | refine OLe.bind ?_ (fun _ => ?_) | refine OLe.ite ?_ ?_ | refine OLe.elim (fun _ => ?_) (fun _ => ?_) | split)
set_option maxHeartbeats 1000000 in
set_option maxRecDepth 100000 in
theorem slices_Equal_api_Pair_api_Pair.con (k : Nat) (M : Hp) (A0 : Option Addr) (c0 : Nat) (a0 : (List api_Pair)) (A1 : Option Addr) (c1 : Nat) (a1 : (List api_Pair)) (r : Bool) (hr0 : SlR r_api_Pair M (.slice A0 a0.length c0) a0) (hr1 : SlR r_api_Pair M (.slice A1 a1.length c1) a1) (h : slices_Equal_api_Pair_api_Pair k a0 a1 = some r) : Con Tryd.prog 53 #[.slice A0 a0.length c0, .slice A1 a1.length c1] M [] (fun v M' Γ' => v = .bool r ∧ Γ' = []) := by
  refine con_of_wp Tryd.func53 rfl Tryd.ntmps53 Tryd.results53 rfl ?_
  intro w F rn S hrn
  have E := Ext.refl w
  have HM := Hp.le_refl M
  have H := h
  unfold slices_Equal_api_Pair_api_Pair at H
  refine Wp_seq (Wp_region_lit (W_v (.bool false) (x_assign rfl) rfl (Wl_nil (tn (Wp_seq (Wp_seq (Wp_region_lit (W_v (.slice A0 a0.length c0) (x_move rfl) rfl (W_v (.int .i64 (a0.length : Int)) (x_len_slice (n := a0.length) Tryd.underlying34 rfl) rfl (W_v (.slice A1 a1.length c1) (x_move rfl) rfl (W_v (.int .i64 (a1.length : Int)) (x_len_slice (n := a1.length) Tryd.underlying34 rfl) rfl (W_v (.bool ((a0.length : Int) != (a1.length : Int))) (x_ibin rfl rfl rfl rfl) rfl (Wl_nil (tn ?_))))))))))))))
  rcases iteS H with ⟨hb1, H⟩ | ⟨hb1, H⟩
  · refine Wp_cond_true (congrArg Value.bool hb1) ?_
    refine Wp_seq (Wp_region_lit (W_v (.bool false) (x_assign rfl) rfl (Wl_nil (tn ?_))))
    refine Wp_ret ?_
    refine tr (?_)
    obtain rfl := Option.some.inj H
    exact ⟨_, _, _, fun w1 e1 => run_resR (vs := [.bool false]) (FA.cons (rfl) (FA.nil)), HM, E, S.pick [] (by decide), ⟨rfl, rfl⟩⟩
  refine Wp_cond_false (congrArg Value.bool hb1) (Wp_skip (tn (Wp_seq (Wp_seq (Wp_region_lit (W_v (.slice A0 a0.length c0) (x_move rfl) rfl (W_v (.int .i64 (a0.length : Int)) (x_len_slice (n := a0.length) Tryd.underlying34 rfl) rfl (W_v (.int .i64 0) (x_move rfl) rfl (Wl_nil (tn ?_))))))))))
  obtain ⟨o137, o137h, o137H⟩ := bindS H
  refine Wp_blockJ (fun ρ w' => .inr () = o137 ∧ Agree ρ [] ∧ Ext w w' ∧ St w' M F []) ?_ ?_
  · skip
    refine Wp_loop (fun n ρ w' => ∃ (x92 : Int), slices_Equal_api_Pair_api_Pair_l0 a0 a1 n x92 = some o137 ∧ Agree ρ [(0, .slice A0 a0.length c0), (1, .slice A1 a1.length c1), (12, .int .i64 (a0.length : Int)), (13, .int .i64 x92)] ∧ Ext w w' ∧ St w' M F []) k ?_ ?_
    · skip
      exact ⟨(0 : Int), o137h, ⟨rfl, rfl, rfl, rfl, trivial⟩, E, S.pick [] (by decide)⟩
    · intro n
      rintro ρ w138 ⟨x92, H, hρ, E, S⟩
      rw [agree_eta hρ]
      cases n with
      | zero => cases H
      | succ k =>
        rw [slices_Equal_api_Pair_api_Pair_l0.eq_2] at H
        refine Wp_seq (Wp_region_lit (W_v (.bool (decide (x92 < (a0.length : Int)))) (x_ibin rfl rfl rfl rfl) rfl (Wl_nil (tn (Wp_seq ?_)))))
        rcases iteS H with ⟨hb139, H⟩ | ⟨hb139, H⟩
        · refine Wp_cond_true (congrArg Value.bool hb139) ?_
          refine Wp_skip (tn (Wp_seq ?_))
          refine Wp_block ?_
          refine Wp_seq (Wp_region_lit (W_v (.int .i64 x92) (x_move rfl) rfl (W_v (.int .i64 x92) (x_assign rfl) rfl (Wl_nil (tn (Wp_seq ?_))))))
          refine Wp_region_any (S := fun w' => ∃ Mx, M.le Mx ∧ St w' Mx F []) (L := 9) mixed ?_
          intro w160 hw161 E'
          replace S := S.heap hw161
          replace E := E.trans E'
          have D1 : ∃ Mx, Hp.le M Mx ∧ St _ Mx F [] := ⟨_, Hp.le_refl _, S.pick [] (by decide)⟩
          refine Wa_take (i := 0) rfl (by kernel_rfl) rfl rfl (.slice A0 a0.length c0) rfl (fun w' h' => x_move rfl) D1 (Wa_take (i := 1) rfl (by kernel_rfl) rfl rfl (.int .i64 x92) rfl (fun w' h' => x_move rfl) D1 ?_)
          obtain ⟨⟨p162, p163⟩, H⟩ := chkS H
          obtain ⟨b164, o165, cs166, _, _, ee171, hb167, vs168, hR169, hc170⟩ := SlW.at' hr0 p162 p163
          obtain rfl : vs168 = _ := hR169
          refine Wa_take (i := 2) rfl (by kernel_rfl) rfl rfl (.pointer (some ⟨b164, o165 + x92.toNat * 2, none⟩)) rfl (fun w' h' => x_indexAddr Tryd.underlying34 ty133 (slA ee171) rfl p162 p163) D1 (Wa_take (i := 3) rfl (by kernel_rfl) rfl rfl (.agg #[.string (bs ((rd a0 x92).Key)), .string (bs ((rd a0 x92).Value))]) rfl (fun w' h' => x_loadA (cls_frz h' hb167) ty133 rfl (sub_el hc170 0 rfl) rfl rfl) D1 (Wa_take (i := 4) rfl (by kernel_rfl) rfl rfl (.slice A1 a1.length c1) rfl (fun w' h' => x_move rfl) D1 (Wa_take (i := 5) rfl (by kernel_rfl) rfl rfl (.int .i64 x92) rfl (fun w' h' => x_move rfl) D1 ?_)))
          obtain ⟨⟨p172, p173⟩, H⟩ := chkS H
          obtain ⟨b174, o175, cs176, _, _, ee181, hb177, vs178, hR179, hc180⟩ := SlW.at' hr1 p172 p173
          obtain rfl : vs178 = _ := hR179
          refine Wa_take (i := 6) rfl (by kernel_rfl) rfl rfl (.pointer (some ⟨b174, o175 + x92.toNat * 2, none⟩)) rfl (fun w' h' => x_indexAddr Tryd.underlying34 ty133 (slA ee181) rfl p172 p173) D1 (Wa_take (i := 7) rfl (by kernel_rfl) rfl rfl (.agg #[.string (bs ((rd a1 x92).Key)), .string (bs ((rd a1 x92).Value))]) rfl (fun w' h' => x_loadA (cls_frz h' hb177) ty133 rfl (sub_el hc180 0 rfl) rfl rfl) D1 (Wa_take (i := 8) rfl (by kernel_rfl) rfl rfl (.bool (!(((rd a0 x92).Key == (rd a1 x92).Key) && ((rd a0 x92).Value == (rd a1 x92).Value)))) rfl (fun w' h' => x_ne_of (en133 _ _ _ _) rfl (eq133 _ ((rd a0 x92).Key) ((rd a0 x92).Value) ((rd a1 x92).Key) ((rd a1 x92).Value))) D1 ?_))
          refine Wa_done (by kernel_rfl) ?_
          refine tn ?_
          rcases iteS H with ⟨hb182, H⟩ | ⟨hb182, H⟩
          · refine Wp_cond_true (congrArg Value.bool hb182) ?_
            refine Wp_seq (Wp_region_lit (W_v (.bool false) (x_assign rfl) rfl (Wl_nil (tn ?_))))
            refine Wp_ret ?_
            refine br (tr (tr (br (tr (tr (?_))))))
            obtain rfl := Option.some.inj H
            have H := o137H
            replace H := elimL H
            obtain rfl := Option.some.inj H
            exact ⟨_, _, _, fun w1 e1 => run_resR (vs := [.bool false]) (FA.cons (rfl) (FA.nil)), HM, E, S.pick [] (by decide), ⟨rfl, rfl⟩⟩
          refine Wp_cond_false (congrArg Value.bool hb182) (Wp_skip (bn (tn (Wp_region_lit (W_v (.int .i64 (IntKind.i64.wrap (x92 + (1 : Int)))) (x_ibin rfl rfl rfl rfl) rfl (W_v (.int .i64 (IntKind.i64.wrap (x92 + (1 : Int)))) (x_move rfl) rfl (Wl_nil (tn ?_))))))))
          exact ⟨k, Nat.lt_succ_self k, ⟨(IntKind.i64.wrap (x92 + (1 : Int))), H, ⟨rfl, rfl, rfl, rfl, trivial⟩, E, S.pick [] (by decide)⟩⟩
        refine Wp_cond_false (congrArg Value.bool hb139) ?_
        refine Wp_exit ?_
        refine tx (tx (bsm (?_)))
        refine tn ?_
        exact ⟨Option.some.inj H, trivial, E, S.pick [] (by decide)⟩
  rintro ρ w183 ⟨rfl, hρ, E, S⟩
  rw [agree_eta hρ]
  have H := o137H
  replace H := elimR H
  refine tn ?_
  as_aux_lemma =>
  refine Wp_seq (Wp_region_lit (W_v (.bool true) (x_assign rfl) rfl (Wl_nil (tn ?_))))
  refine Wp_ret ?_
  obtain rfl := Option.some.inj H
  exact ⟨_, _, _, fun w1 e1 => run_resR (vs := [.bool true]) (FA.cons (rfl) (FA.nil)), HM, E, S.pick [] (by decide), ⟨rfl, rfl⟩⟩
def model_Same (k : Nat) (a0 : api_Answer) (a1 : api_Answer) : Option (Bool) :=
  (Option.bind (α := Bool) (if (((a0.Err == a1.Err) && (a0.Found == a1.Found)) && (sbin .eql a0.Value a1.Value)) = true then (Option.bind (slices_Equal_api_Pair_api_Pair k a0.Pairs a1.Pairs) (fun t18 => some (t18))) else some (false)) (fun x16 => some x16))
set_option maxHeartbeats 2000000 in
theorem model_Same.mono {k : Nat} {a0 : api_Answer} {a1 : api_Answer} : OLe (model_Same k a0 a1) (model_Same (k + 1) a0 a1) := by
  unfold model_Same
  repeat' (first | with_reducible exact OLe.none | with_reducible exact OLe.some | with_reducible refine OLe.ite ?_ ?_ | with_reducible refine OLe.bind ?_ (fun _ => ?_) | with_reducible exact slices_Equal_api_Pair_api_Pair.mono | refine OLe.bind ?_ (fun _ => ?_) | refine OLe.ite ?_ ?_ | refine OLe.elim (fun _ => ?_) (fun _ => ?_) | split)
set_option maxHeartbeats 1000000 in
set_option maxRecDepth 100000 in
theorem model_Same.con (k : Nat) (M : Hp) (A0_0 : Option Addr) (c0_0 : Nat) (a0 : api_Answer) (A1_0 : Option Addr) (c1_0 : Nat) (a1 : api_Answer) (r : Bool) (hr0_0 : SlR r_api_Pair M (.slice A0_0 a0.Pairs.length c0_0) a0.Pairs) (hr1_0 : SlR r_api_Pair M (.slice A1_0 a1.Pairs.length c1_0) a1.Pairs) (h : model_Same k a0 a1 = some r) : Con Tryd.prog 42 #[.agg #[.int .i64 a0.Err, .bool a0.Found, .string (bs a0.Value), .slice A0_0 a0.Pairs.length c0_0], .agg #[.int .i64 a1.Err, .bool a1.Found, .string (bs a1.Value), .slice A1_0 a1.Pairs.length c1_0]] M [] (fun v M' Γ' => v = .bool r ∧ Γ' = []) := by
  refine con_of_wp Tryd.func42 rfl Tryd.ntmps42 Tryd.results42 rfl ?_
  intro w F rn S hrn
  have E := Ext.refl w
  have HM := Hp.le_refl M
  have H := h
  unfold model_Same at H
  refine Wp_seq (Wp_region_lit ?_)
  refine W_box S #[.int .i64 a0.Err, .bool a0.Found, .string (bs a0.Value), .slice A0_0 a0.Pairs.length c0_0] rfl rfl rfl ?_
  intro b1 w2 E' S
  replace E := E.trans E'
  refine W_box S #[.int .i64 a1.Err, .bool a1.Found, .string (bs a1.Value), .slice A1_0 a1.Pairs.length c1_0] rfl rfl rfl ?_
  intro b4 w5 E' S
  replace E := E.trans E'
  refine W_v (.bool false) (x_assign rfl) rfl (Wl_nil (tn (Wp_seq (Wp_region_lit (W_v (pt b1 0) (x_fieldAddr (o := 0) (off := 0) Tryd.underlying36 rfl ty31 rfl rfl) rfl (W_v (.int .i64 a0.Err) (x_load (S.blk 1 rfl) ty31 rfl rfl) rfl (W_v (pt b4 0) (x_fieldAddr (o := 0) (off := 0) Tryd.underlying36 rfl ty31 rfl rfl) rfl (W_v (.int .i64 a1.Err) (x_load (S.blk 0 rfl) ty31 rfl rfl) rfl (W_v (.bool (a0.Err == a1.Err)) (x_ibin rfl rfl rfl rfl) rfl (W_v (.bool (a0.Err == a1.Err)) (x_move rfl) rfl ?_))))))))))
  refine Wl_cutN 6 (fun ρ w' => Agree ρ [(2, pt b1 0), (3, pt b4 0), (16, .bool ((a0.Err == a1.Err) && (a0.Found == a1.Found)))] ∧ w5 = w') ?_ ?_
  · rcases boolCases (a0.Err == a1.Err) with hb7 | hb7
    · skip
      refine W_no (skT hb7) rfl (W_no (skT hb7) rfl (W_no (skT hb7) rfl (W_no (skT hb7) rfl (W_no (skT hb7) rfl (W_v (.bool false) (x_pick (k := false) (congrArg Value.bool hb7) rfl) rfl (Wl_nil ?_))))))
      exact ⟨⟨rfl, rfl, (by first | rfl | (rw [hb7]; rfl) | (simp only [hb7]; rfl)), trivial⟩, rfl⟩
    · skip
      refine W_yes (congrArg some hb7) (W_v (pt b1 1) (x_fieldAddr (o := 0) (off := 1) Tryd.underlying36 rfl ty4 rfl rfl) rfl (W_yes (congrArg some hb7) (W_v (.bool a0.Found) (x_load (S.blk 1 rfl) ty4 rfl rfl) rfl (W_yes (congrArg some hb7) (W_v (pt b4 1) (x_fieldAddr (o := 0) (off := 1) Tryd.underlying36 rfl ty4 rfl rfl) rfl (W_yes (congrArg some hb7) (W_v (.bool a1.Found) (x_load (S.blk 0 rfl) ty4 rfl rfl) rfl (W_yes (congrArg some hb7) (W_v (.bool (a0.Found == a1.Found)) (x_beq Tryd.underlying4 rfl rfl) rfl (W_v (.bool (a0.Found == a1.Found)) (x_pick (k := true) (congrArg Value.bool hb7) rfl) rfl (Wl_nil ?_)))))))))))
      exact ⟨⟨rfl, rfl, (by first | rfl | (rw [hb7]; rfl) | (simp only [hb7]; rfl)), trivial⟩, rfl⟩
  as_aux_lemma =>
  rintro ρ _ ⟨hρ, rfl⟩
  rw [agree_eta hρ]
  refine W_v (.bool ((a0.Err == a1.Err) && (a0.Found == a1.Found))) (x_move rfl) rfl ?_
  refine Wl_cutN 6 (fun ρ w' => Agree ρ [(2, pt b1 0), (3, pt b4 0), (23, .bool (((a0.Err == a1.Err) && (a0.Found == a1.Found)) && (sbin .eql a0.Value a1.Value)))] ∧ w5 = w') ?_ ?_
  · rcases boolCases ((a0.Err == a1.Err) && (a0.Found == a1.Found)) with hb8 | hb8
    · skip
      refine W_no (skT hb8) rfl (W_no (skT hb8) rfl (W_no (skT hb8) rfl (W_no (skT hb8) rfl (W_no (skT hb8) rfl (W_v (.bool false) (x_pick (k := false) (congrArg Value.bool hb8) rfl) rfl (Wl_nil ?_))))))
      exact ⟨⟨rfl, rfl, (by first | rfl | (rw [hb8]; rfl) | (simp only [hb8]; rfl)), trivial⟩, rfl⟩
    · skip
      refine W_yes (congrArg some hb8) (W_v (pt b1 2) (x_fieldAddr (o := 0) (off := 2) Tryd.underlying36 rfl ty9 rfl rfl) rfl (W_yes (congrArg some hb8) (W_v (.string (bs a0.Value)) (x_load (S.blk 1 rfl) ty9 rfl rfl) rfl (W_yes (congrArg some hb8) (W_v (pt b4 2) (x_fieldAddr (o := 0) (off := 2) Tryd.underlying36 rfl ty9 rfl rfl) rfl (W_yes (congrArg some hb8) (W_v (.string (bs a1.Value)) (x_load (S.blk 0 rfl) ty9 rfl rfl) rfl (W_yes (congrArg some hb8) (W_v (.bool (sbin .eql a0.Value a1.Value)) (x_sbin rfl rfl rfl) rfl (W_v (.bool (sbin .eql a0.Value a1.Value)) (x_pick (k := true) (congrArg Value.bool hb8) rfl) rfl (Wl_nil ?_)))))))))))
      exact ⟨⟨rfl, rfl, (by first | rfl | (rw [hb8]; rfl) | (simp only [hb8]; rfl)), trivial⟩, rfl⟩
  as_aux_lemma =>
  rintro ρ _ ⟨hρ, rfl⟩
  rw [agree_eta hρ]
  refine W_v (.bool (((a0.Err == a1.Err) && (a0.Found == a1.Found)) && (sbin .eql a0.Value a1.Value))) (x_move rfl) rfl ?_
  obtain ⟨o17, o17h, o17H⟩ := bindS H
  refine Wl_cutN 6 (fun ρ w' => ∃ (x16 : Bool), (x16) = o17 ∧ Agree ρ [(30, .bool x16)] ∧ Ext w w' ∧ St w' M F []) ?_ ?_
  · have H := o17h
    rcases iteS H with ⟨hb15, H⟩ | ⟨hb15, H⟩
    · skip
      refine W_yes (congrArg some hb15) (W_v (pt b1 3) (x_fieldAddr (o := 0) (off := 3) Tryd.underlying36 rfl ty34 rfl rfl) rfl (W_yes (congrArg some hb15) (W_v (.slice A0_0 a0.Pairs.length c0_0) (x_load (S.blk 1 rfl) ty34 rfl rfl) rfl (W_yes (congrArg some hb15) (W_v (pt b4 3) (x_fieldAddr (o := 0) (off := 3) Tryd.underlying36 rfl ty34 rfl rfl) rfl (W_yes (congrArg some hb15) (W_v (.slice A1_0 a1.Pairs.length c1_0) (x_load (S.blk 0 rfl) ty34 rfl rfl) rfl (W_yes (congrArg some hb15) ?_))))))))
      obtain ⟨t18, ht19, H⟩ := bindS H
      refine W_callF fn53 (slices_Equal_api_Pair_api_Pair.con k M A0_0 c0_0 a0.Pairs A1_0 c1_0 a1.Pairs t18 hr0_0 hr1_0 ht19) S rfl rfl (by rintro _ _ _ ⟨_, rfl⟩; exact flat_nil) ?_
      rintro _ w20 _ Γ' E' S ⟨rfl, rfl⟩
      replace E := E.trans E'
      refine W_v (.bool t18) (x_pick (k := true) (congrArg Value.bool hb15) rfl) rfl (Wl_nil ?_)
      exact ⟨t18, Option.some.inj H, ⟨rfl, trivial⟩, E, S.pick [] (by decide)⟩
    · skip
      refine W_no (skT hb15) rfl (W_no (skT hb15) rfl (W_no (skT hb15) rfl (W_no (skT hb15) rfl (W_no (skT hb15) rfl (W_v (.bool false) (x_pick (k := false) (congrArg Value.bool hb15) rfl) rfl (Wl_nil ?_))))))
      exact ⟨false, Option.some.inj H, ⟨rfl, trivial⟩, E, S.pick [] (by decide)⟩
  rintro ρ w21 ⟨x16, rfl, hρ, E, S⟩
  rw [agree_eta hρ]
  have H := o17H
  refine W_v (.bool x16) (x_assign rfl) rfl (Wl_nil (tn ?_))
  refine Wp_ret ?_
  obtain rfl := Option.some.inj H
  exact ⟨_, _, _, fun w1 e1 => run_resR (vs := [.bool x16]) (FA.cons (rfl) (FA.nil)), HM, E, S.pick [] (by decide), ⟨rfl, rfl⟩⟩
def slices_Clone_api_Pair_api_Pair (k : Nat) (a0 : List api_Pair) : Option (List api_Pair) :=
  if ([] : List api_Pair).length + a0.length ≤ 4398046511104 then some (([] : List api_Pair) ++ a0) else none
set_option maxHeartbeats 2000000 in
theorem slices_Clone_api_Pair_api_Pair.mono {k : Nat} {a0 : List api_Pair} : OLe (slices_Clone_api_Pair_api_Pair k a0) (slices_Clone_api_Pair_api_Pair (k + 1) a0) := by
  unfold slices_Clone_api_Pair_api_Pair
  repeat' (first | with_reducible exact OLe.none | with_reducible exact OLe.some | with_reducible refine OLe.ite ?_ ?_ | with_reducible refine OLe.bind ?_ (fun _ => ?_) | refine OLe.bind ?_ (fun _ => ?_) | refine OLe.ite ?_ ?_ | refine OLe.elim (fun _ => ?_) (fun _ => ?_) | split)
set_option maxHeartbeats 1000000 in
set_option maxRecDepth 100000 in
theorem slices_Clone_api_Pair_api_Pair.con (k : Nat) (M : Hp) (A0 : Option Addr) (c0 : Nat) (a0 : (List api_Pair)) (r : (List api_Pair)) (hr0 : SlR r_api_Pair M (.slice A0 a0.length c0) a0) (h : slices_Clone_api_Pair_api_Pair k a0 = some r) : Con Tryd.prog 122 #[.slice A0 a0.length c0] M [] (fun v M' Γ' => ∃ (A0 : Option Addr) (c0 : Nat), v = .slice A0 r.length c0 ∧ Γ' = [Row r_api_Pair 133 (.slice A0 r.length c0) r]) := by
  have H := h
  unfold slices_Clone_api_Pair_api_Pair at H
  cases A0 with
  | none =>
    obtain ⟨_, H⟩ := chkS H
    obtain rfl : a0 = [] := SlW.none_nil hr0
    refine con_of_wp Tryd.func122 rfl Tryd.ntmps122 Tryd.results122 rfl ?_
    intro w F rn S hrn
    have E := Ext.refl w
    have HM := Hp.le_refl M
    refine Wp_seq (Wp_region_lit (W_v (.slice none 0 0) (x_assign rfl) rfl (Wl_nil (tn (Wp_seq (Wp_seq (Wp_region_lit (W_v (.slice none ([] : List api_Pair).length c0) (x_move rfl) rfl (W_v (.bool true) (x_eq_of rfl rfl (run_equal_slice_nil _ _ _ _ _ _ Tryd.underlying34)) rfl (Wl_nil (tn (Wp_cond_true rfl (Wp_seq (Wp_region_lit (W_v (.slice none 0 0) (x_assign rfl) rfl ?_)))))))))))))))
    refine Wl_nil (tn ?_)
    refine Wp_ret ?_
    refine tr (?_)
    obtain rfl := Option.some.inj H
    replace S := S.row_nil r_api_Pair 133
    exact ⟨_, _, _, fun w1 e1 => run_resR (vs := [.slice none 0 0]) (FA.cons (rfl) (FA.nil)), HM, E, S.pick [0] (by decide), ⟨none, 0, rfl, rfl⟩⟩
  | some ad =>
    refine con_of_wp Tryd.func122 rfl Tryd.ntmps122 Tryd.results122 rfl ?_
    intro w F rn S hrn
    have E := Ext.refl w
    have HM := Hp.le_refl M
    refine Wp_seq (Wp_region_lit (W_v (.slice none 0 0) (x_assign rfl) rfl (Wl_nil (tn (Wp_seq (Wp_seq (Wp_region_lit (W_v (.slice (some ad) a0.length c0) (x_move rfl) rfl (W_v (.bool false) (x_eq_of rfl rfl (run_equal_slice_nil _ _ _ _ _ _ Tryd.underlying34)) rfl (Wl_nil (tn (Wp_cond_false rfl (Wp_skip (tn (Wp_seq ?_)))))))))))))))
    refine Wp_region_lit ?_
    refine W_bslice S #[] Tryd.underlying34 ty133 rfl rfl #[] (by as_aux_lemma => kernel_rfl) (by as_aux_lemma => kernel_rfl) rfl ?_
    intro b2 w3 E' S
    replace E := E.trans E'
    replace S := S.blk_row (r := r_api_Pair) (l := ([] : List api_Pair)) 0 rfl 0 (Nat.le_refl 0) rfl Cells.nil
    refine W_v (.slice (some ad) a0.length c0) (x_move rfl) rfl ?_
    obtain ⟨p5, H⟩ := chkS H
    obtain ⟨src6, hs7, hC8⟩ := src_of_read (P := Tryd.prog) (ρ := r_api_Pair) (l := a0) (SlR.world hr0 S) (by decide)
    refine W_append S 0 rfl rfl rfl Tryd.underlying34 (.inl Tryd.underlying34) ty133 rfl (by decide) (by decide) hs7 hC8 rfl (by omega) rfl ?_
    intro v9 w10 E' S
    replace E := E.trans E'
    obtain ⟨A11, c12, rfl, _⟩ := (S.row_read 0 rfl).form
    refine W_v (.slice A11 (([] : List api_Pair) ++ a0).length c12) (x_assign rfl) rfl (Wl_nil (tn ?_))
    refine Wp_ret ?_
    obtain rfl := Option.some.inj H
    exact ⟨_, _, _, fun w1 e1 => run_resR (vs := [.slice A11 (([] : List api_Pair) ++ a0).length c12]) (FA.cons (rfl) (FA.nil)), HM, E, S.pick [0] (by decide), ⟨A11, c12, rfl, rfl⟩⟩
end Go.Proofs.YtkknoimjgifhlaaDoor
