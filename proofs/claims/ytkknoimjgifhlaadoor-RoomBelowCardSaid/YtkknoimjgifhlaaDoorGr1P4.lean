import Derived.Test.YtkknoimjgifhlaaDoorGr1B
import Derived.Test.YtkknoimjgifhlaaDoorGr1P0
import Derived.Test.YtkknoimjgifhlaaDoorGr1P1
import Derived.Test.YtkknoimjgifhlaaDoorGr1P2
import Derived.Test.YtkknoimjgifhlaaDoorGr1P3
namespace Go.Proofs.YtkknoimjgifhlaaDoor
open Go
set_option linter.unusedVariables false
set_option linter.unusedSimpArgs false
def replay_over_v_l0 (a2 : (List api_Event)) : Nat → Int → List (List api_Call) → List replay_Done → List Int → List event_task → List api_Event → model_Model → Option (((Unit) ⊕ (Unit) ⊕ (replay_run)) ⊕ (List (List api_Call) × List replay_Done × List Int × List event_task × List api_Event × model_Model))
  | 0, _, _, _, _, _, _, _ => none
  | k + 1, x232, x233, x237, x241, x245, x249, x253 => (if (decide (x232 < (a2.length : Int))) = true then (if 0 ≤ x232 ∧ x232 < (a2.length : Int) then (Option.bind (replay_run_step_PRpoo_poooo_OO k (⟨x233, (⟨x245, x249⟩ : event_Recorder), x253, x237, x241⟩ : replay_run) x232 (rd a2 x232)) (fun t380 => (if (t380.1 == (4 : Int)) = true then some (.inl (Sum.inr (Sum.inl ()))) else replay_over_v_l0 a2 k (IntKind.i64.wrap (x232 + (1 : Int))) t380.2.programs t380.2.done t380.2.last t380.2.r.tasks t380.2.r.l t380.2.m))) else none) else some (.inr (x233, x237, x241, x245, x249, x253)))
set_option maxHeartbeats 2000000 in
theorem replay_over_v_l0.mono {a2 : (List api_Event)} : ∀ {kl : Nat} {x0 x1 x2 x3 x4 x5 x6}, OLe (replay_over_v_l0 a2 kl x0 x1 x2 x3 x4 x5 x6) (replay_over_v_l0 a2 (kl + 1) x0 x1 x2 x3 x4 x5 x6) := by
  intro kl
  induction kl with
  | zero => intros; exact OLe.none
  | succ kl ih =>
    intros
    rw [replay_over_v_l0.eq_2, replay_over_v_l0.eq_2]
    repeat' (first | with_reducible exact OLe.none | with_reducible exact OLe.some | with_reducible refine OLe.ite ?_ ?_ | with_reducible refine OLe.bind ?_ (fun _ => ?_) | with_reducible exact replay_run_step_PRpoo_poooo_OO.mono | exact ih | refine OLe.bind ?_ (fun _ => ?_) | refine OLe.ite ?_ ?_ | refine OLe.elim (fun _ => ?_) (fun _ => ?_) | split)
def replay_over_v (k : Nat) (a0 : api_Config) (a1 : (List (List api_Call))) (a2 : (List api_Event)) : Option ((Unit) ⊕ (Unit) ⊕ (replay_run)) :=
  (Option.bind (replay_begun_v k a0 a1) (fun t4 => (Sum.elim (fun t6 => some (Sum.inl ())) (Sum.elim (fun t7 => (Option.bind (replay_over_v_l0 a2 k (0 : Int) t7.programs t7.done t7.last t7.r.tasks t7.r.l t7.m) (fun o357o => Sum.elim (fun r' => some r') (fun ⟨x322, x326, x330, x334, x338, x342⟩ => some (Sum.inr (Sum.inr (⟨x322, (⟨x334, x338⟩ : event_Recorder), x342, x326, x330⟩ : replay_run)))) o357o))) (Sum.elim (fun t8 => some (Sum.inl ())) (Sum.elim (fun t9 => some (Sum.inl ())) (fun t10 => some (Sum.inl ())))))) t4))
set_option maxHeartbeats 2000000 in
theorem replay_over_v.mono {k : Nat} {a0 : api_Config} {a1 : (List (List api_Call))} {a2 : (List api_Event)} : OLe (replay_over_v k a0 a1 a2) (replay_over_v (k + 1) a0 a1 a2) := by
  unfold replay_over_v
  repeat' (first | with_reducible exact OLe.none | with_reducible exact OLe.some | with_reducible refine OLe.ite ?_ ?_ | with_reducible refine OLe.bind ?_ (fun _ => ?_) | with_reducible exact replay_begun_v.mono | with_reducible exact replay_over_v_l0.mono | refine OLe.bind ?_ (fun _ => ?_) | refine OLe.ite ?_ ?_ | refine OLe.elim (fun _ => ?_) (fun _ => ?_) | split)
set_option maxHeartbeats 4000000 in
set_option maxRecDepth 100000 in
theorem replay_over_v.con (k : Nat) (M : Hp) (a0 : api_Config) (A1 : Option Addr) (c1 : Nat) (a1 : (List (List api_Call))) (A2 : Option Addr) (c2 : Nat) (a2 : (List api_Event)) (r : (Unit) ⊕ (Unit) ⊕ (replay_run)) (hr1 : SlR (rSl r_api_Call) M (.slice A1 a1.length c1) a1) (hr2 : SlR r_api_Event M (.slice A2 a2.length c2) a2) (hg0 : ∃ gt fr, M 0 = some (.cells #[.nilFunc, .func (.func 92) #[] #[], .func (.func 93) #[] #[], .func (.func 94) #[] #[], .func (.func 95) #[] #[], .func (.func 96) #[] #[], .func (.func 97) #[] #[], .func (.func 98) #[] #[], .func (.func 99) #[] #[], .func (.func 100) #[] #[]] gt fr)) (hg1 : ∃ gt fr, M 1 = some (.cells #[.nilFunc, .func (.func 114) #[] #[], .func (.func 116) #[] #[], .func (.func 118) #[] #[]] gt fr)) (h : replay_over_v k a0 a1 a2 = some r) : Con Tryd.prog 25 #[.agg #[.int .i64 a0.Tasks, .int .i64 a0.Active, .int .i64 a0.Keys, .int .i64 a0.Depth, .int .i64 a0.TS, .int .i64 a0.KeyLen, .int .i64 a0.ValLen, .int .i64 a0.Fan], .slice A1 a1.length c1, .slice A2 a2.length c2] M [] (fun v M' Γ' => (Sum.elim (fun x => v = .tuple #[.pointer none, .int .i64 1] ∧ Γ' = []) (Sum.elim (fun x => v = .tuple #[.pointer none, .int .i64 4] ∧ Γ' = []) (fun x => ∃ (bq1 : Nat) (Aq3 : Option Addr) (cq4 : Nat) (bq6 : Nat) (Aq8 : Option Addr) (cq9 : Nat) (Aq11 : Option Addr) (cq12 : Nat) (bq14 : Nat) (Aq16 : Option Addr) (cq17 : Nat) (Aq19 : Option Addr) (cq20 : Nat) (Aq22 : Option Addr) (cq23 : Nat) (Aq25 : Option Addr) (cq26 : Nat) (vsq28 : List (Str × Value)) (Aq30 : Option Addr) (cq31 : Nat) (Aq33 : Option Addr) (cq34 : Nat), v = .tuple #[pt bq1 0, .int .i64 0] ∧ SlR (rSl r_api_Call) M' (.slice Aq3 x.programs.length cq4) x.programs ∧ MRel r_model_row M' x.m.rows vsq28 ∧ Γ' = [B72 bq1 x Aq3 cq4 bq6 bq14 Aq30 cq31 Aq33 cq34, Blk bq6 (.cells #[.slice Aq8 x.r.tasks.length cq9, .slice Aq11 x.r.l.length cq12] 130 (0, 0)), Row r_event_task 135 (.slice Aq8 x.r.tasks.length cq9) x.r.tasks, Row r_api_Event 38 (.slice Aq11 x.r.l.length cq12) x.r.l, B83 bq14 x.m Aq16 Aq19 Aq22 cq23 Aq25, MapC enc_model_name (Value.int .i64) Aq16 x.m.names, MapC (Value.int .i64) (Value.int .i64) Aq19 x.m.many, Row r_model_tx 109 (.slice Aq22 x.m.txs.length cq23) x.m.txs, MapC encS (fun v : Value => v) Aq25 vsq28, Row r_replay_Done 53 (.slice Aq30 x.done.length cq31) x.done, Row (rInt .i64) 3 (.slice Aq33 x.last.length cq34) x.last]))) r) := by
  refine con_of_wp Tryd.func25 rfl Tryd.ntmps25 Tryd.results25 rfl ?_
  intro w F rn S hrn
  have E := Ext.refl w
  have HM := Hp.le_refl M
  have H := h
  unfold replay_over_v at H
  refine Wp_seq (Wp_region_lit ?_)
  refine W_box S #[.int .i64 a0.Tasks, .int .i64 a0.Active, .int .i64 a0.Keys, .int .i64 a0.Depth, .int .i64 a0.TS, .int .i64 a0.KeyLen, .int .i64 a0.ValLen, .int .i64 a0.Fan] rfl rfl rfl ?_
  intro b1 w2 E' S
  replace E := E.trans E'
  refine W_v (.pointer none) (x_assign rfl) rfl (W_v (.int .i64 0) (x_assign rfl) rfl (Wl_nil (tn (Wp_seq (Wp_region_lit (W_v (.agg #[.int .i64 a0.Tasks, .int .i64 a0.Active, .int .i64 a0.Keys, .int .i64 a0.Depth, .int .i64 a0.TS, .int .i64 a0.KeyLen, .int .i64 a0.ValLen, .int .i64 a0.Fan]) (x_loadA (S.blk 0 rfl) ty23 rfl (sub_of_extract rfl) rfl rfl) rfl (W_v (.slice A1 a1.length c1) (x_move rfl) rfl ?_)))))))
  obtain ⟨t4, ht5, H⟩ := bindS H
  rcases t4 with t6 | t7 | t8 | t9 | t10
  · skip
    replace H := elimL H
    refine W_callF2 fn31 (replay_begun_v.con k M a0 A1 c1 a1 (Sum.inl t6) hr1 ht5) (Γ1 := []) (Γ2 := [_]) S rfl rfl (by rintro _ _ _ ⟨rfl, rfl⟩; exact flat_nil) ?_
    rintro _ w11 _ Γ' E' S ⟨rfl, rfl⟩
    replace E := E.trans E'
    replace S : St w11 M F [_] := S
    refine W_v (.tuple #[.pointer none, .bool false]) (x_move rfl) rfl (W_v (.pointer none) (x_extract rfl rfl) rfl (W_v (.bool false) (x_extract rfl rfl) rfl (W_v (.pointer none) (x_assign rfl) rfl (W_v (.bool false) (x_assign rfl) rfl (Wl_nil (tn (Wp_seq (Wp_seq (Wp_region_lit (W_v (.bool false) (x_move rfl) rfl (W_v (.bool true) (x_not (b := false) rfl) rfl (Wl_nil (tn (Wp_cond_true rfl (Wp_seq ?_)))))))))))))))
    refine Wp_region_lit (W_v (.pointer none) (x_assign rfl) rfl (W_v (.int .i64 1) (x_assign rfl) rfl (Wl_nil (tn ?_))))
    refine Wp_ret ?_
    refine tr (?_)
    obtain rfl := Option.some.inj H
    exact ⟨_, _, _, fun w1 e1 => run_resR (vs := [.pointer none, .int .i64 1]) (FA.cons (rfl) (FA.cons (rfl) (FA.nil))), HM, E, S.pick [] (by decide), ⟨rfl, rfl⟩⟩
  · skip
    replace H := elimR H
    replace H := elimL H
    refine W_call fn31 (replay_begun_v.con k M a0 A1 c1 a1 (Sum.inr (Sum.inl t7)) hr1 ht5) (Γ1 := []) (Γ2 := [_]) S rfl rfl ?_
    rintro _ w49 M50 Γ' hM51 E' S ⟨b14, A16, c17, b19, A21, c22, A24, c25, b27, A29, c30, A32, c33, A35, c36, A38, c39, vs41, A43, c44, A46, c47, rfl, hs18, hm42, rfl⟩
    replace hg0 : ∃ gt fr, _ := (let ⟨gt, fr, h8⟩ := hg0; ⟨gt, fr, hM51 _ _ h8⟩)
    replace hg1 : ∃ gt fr, _ := (let ⟨gt, fr, h8⟩ := hg1; ⟨gt, fr, hM51 _ _ h8⟩)
    replace HM := Hp.le_trans HM hM51
    replace hr1 := SlR.mono hr1 hM51
    replace hr2 := SlR.mono hr2 hM51
    replace E := E.trans E'
    replace S : St w49 M50 F [_, _, _, _, _, _, _, _, _, _, _, _] := S
    refine W_v (.tuple #[pt b14 0, .bool true]) (x_move rfl) rfl (W_v (pt b14 0) (x_extract rfl rfl) rfl (W_v (.bool true) (x_extract rfl rfl) rfl (W_v (pt b14 0) (x_assign rfl) rfl (W_v (.bool true) (x_assign rfl) rfl (Wl_nil (tn (Wp_seq (Wp_seq (Wp_region_lit (W_v (.bool true) (x_move rfl) rfl (W_v (.bool false) (x_not (b := true) rfl) rfl (Wl_nil (tn (Wp_cond_false rfl (Wp_skip ?_)))))))))))))))
    refine tn (Wp_seq (Wp_seq (Wp_region_lit (W_v (.slice A2 a2.length c2) (x_move rfl) rfl (W_v (.int .i64 (a2.length : Int)) (x_len_slice (n := a2.length) Tryd.underlying39 rfl) rfl (W_v (.int .i64 0) (x_move rfl) rfl (Wl_nil (tn ?_))))))))
    obtain ⟨o357, o357h, o357H⟩ := bindS H
    refine Wp_blockJ (fun ρ w' => ∃ (x322 : List (List api_Call)) (x326 : List replay_Done) (x330 : List Int) (x334 : List event_task) (x338 : List api_Event) (x342 : model_Model) (A323 : Option Addr) (c324 : Nat) (A327 : Option Addr) (c328 : Nat) (A331 : Option Addr) (c332 : Nat) (A335 : Option Addr) (c336 : Nat) (A339 : Option Addr) (c340 : Nat) (A343 : Option Addr) (c344 : Nat) (A346 : Option Addr) (c347 : Nat) (A349 : Option Addr) (c350 : Nat) (A352 : Option Addr) (c353 : Nat) (vs355 : List (Str × Value)) (Mj : Hp), .inr (x322, x326, x330, x334, x338, x342) = o357 ∧ Agree ρ [(8, pt b14 0)] ∧ M50.le Mj ∧ Ext w w' ∧ St w' Mj F [MapC encS (fun v : Value => v) A352 vs355, Row r_model_tx 109 (.slice A349 x342.txs.length c350) x342.txs, MapC (Value.int .i64) (Value.int .i64) A346 x342.many, MapC enc_model_name (Value.int .i64) A343 x342.names, Row r_api_Event 38 (.slice A339 x338.length c340) x338, Row r_event_task 135 (.slice A335 x334.length c336) x334, Row (rInt .i64) 3 (.slice A331 x330.length c332) x330, Row r_replay_Done 53 (.slice A327 x326.length c328) x326, Blk b14 (.cells #[.slice A323 x322.length c324, pt b19 0, pt b27 0, .slice A327 x326.length c328, .slice A331 x330.length c332] 72 (0, 0)), Blk b19 (.cells #[.slice A335 x334.length c336, .slice A339 x338.length c340] 130 (0, 0)), B83 b27 x342 A343 A346 A349 c350 A352] ∧ SlR (rSl r_api_Call) Mj (.slice A323 x322.length c324) x322 ∧ MRel r_model_row Mj x342.rows vs355) ?_ ?_
    · skip
      refine Wp_loop (fun n ρ w' => ∃ (x232 : Int) (x233 : List (List api_Call)) (x237 : List replay_Done) (x241 : List Int) (x245 : List event_task) (x249 : List api_Event) (x253 : model_Model) (A234 : Option Addr) (c235 : Nat) (A238 : Option Addr) (c239 : Nat) (A242 : Option Addr) (c243 : Nat) (A246 : Option Addr) (c247 : Nat) (A250 : Option Addr) (c251 : Nat) (A254 : Option Addr) (c255 : Nat) (A257 : Option Addr) (c258 : Nat) (A260 : Option Addr) (c261 : Nat) (A263 : Option Addr) (c264 : Nat) (vs266 : List (Str × Value)) (Mj : Hp), replay_over_v_l0 a2 n x232 x233 x237 x241 x245 x249 x253 = some o357 ∧ Agree ρ [(8, pt b14 0), (20, .slice A2 a2.length c2), (21, .int .i64 (a2.length : Int)), (22, .int .i64 x232)] ∧ M50.le Mj ∧ Ext w w' ∧ St w' Mj F [MapC encS (fun v : Value => v) A263 vs266, Row r_model_tx 109 (.slice A260 x253.txs.length c261) x253.txs, MapC (Value.int .i64) (Value.int .i64) A257 x253.many, MapC enc_model_name (Value.int .i64) A254 x253.names, Row r_api_Event 38 (.slice A250 x249.length c251) x249, Row r_event_task 135 (.slice A246 x245.length c247) x245, Row (rInt .i64) 3 (.slice A242 x241.length c243) x241, Row r_replay_Done 53 (.slice A238 x237.length c239) x237, Blk b14 (.cells #[.slice A234 x233.length c235, pt b19 0, pt b27 0, .slice A238 x237.length c239, .slice A242 x241.length c243] 72 (0, 0)), Blk b19 (.cells #[.slice A246 x245.length c247, .slice A250 x249.length c251] 130 (0, 0)), B83 b27 x253 A254 A257 A260 c261 A263] ∧ SlR (rSl r_api_Call) Mj (.slice A234 x233.length c235) x233 ∧ MRel r_model_row Mj x253.rows vs266) k ?_ ?_
      · skip
        exact ⟨(0 : Int), t7.programs, t7.done, t7.last, t7.r.tasks, t7.r.l, t7.m, A16, c17, A43, c44, A46, c47, A21, c22, A24, c25, A29, c30, A32, c33, A35, c36, A38, c39, vs41, M50, o357h, ⟨rfl, rfl, rfl, rfl, trivial⟩, (Hp.le_refl M50), E, S.pick [8, 7, 6, 5, 3, 2, 10, 9, 0, 1, 4] (by decide), hs18, hm42⟩
      · intro n
        rintro ρ w358 ⟨x232, x233, x237, x241, x245, x249, x253, A234, c235, A238, c239, A242, c243, A246, c247, A250, c251, A254, c255, A257, c258, A260, c261, A263, c264, vs266, M359, H, hρ, hM360, E, S, hs236, hm267⟩
        rw [agree_eta hρ]
        replace hg0 : ∃ gt fr, _ := (let ⟨gt, fr, h8⟩ := hg0; ⟨gt, fr, hM360 _ _ h8⟩)
        replace hg1 : ∃ gt fr, _ := (let ⟨gt, fr, h8⟩ := hg1; ⟨gt, fr, hM360 _ _ h8⟩)
        replace HM := Hp.le_trans HM hM360
        replace hr1 := SlR.mono hr1 hM360
        replace hr2 := SlR.mono hr2 hM360
        replace hs18 := SlR.mono hs18 hM360
        replace hm42 := MRel.mono hm42 hM360
        cases n with
        | zero => cases H
        | succ k =>
          rw [replay_over_v_l0.eq_2] at H
          refine Wp_seq (Wp_region_lit (W_v (.bool (decide (x232 < (a2.length : Int)))) (x_ibin rfl rfl rfl rfl) rfl (Wl_nil (tn (Wp_seq ?_)))))
          rcases iteS H with ⟨hb361, H⟩ | ⟨hb361, H⟩
          · refine Wp_cond_true (congrArg Value.bool hb361) ?_
            refine Wp_skip (tn (Wp_seq ?_))
            refine Wp_block ?_
            refine Wp_seq (Wp_region_lit (W_v (.int .i64 x232) (x_move rfl) rfl ?_))
            obtain ⟨⟨p362, p363⟩, H⟩ := chkS H
            obtain ⟨b364, o365, cs366, _, _, ee371, hb367, vs368, hR369, hc370⟩ := SlW.at' hr2 p362 p363
            obtain ⟨v375, hs374, rfl⟩ := hR369
            obtain ⟨A372, c373, rfl, _⟩ := hs374.form
            refine W_v (.pointer (some ⟨b364, o365 + x232.toNat * 7, none⟩)) (x_indexAddr Tryd.underlying39 ty38 (slA ee371) rfl p362 p363) rfl (W_v (.agg #[.int .u8 ((rd a2 x232).What), .int .i64 ((rd a2 x232).Task), .int .i64 ((rd a2 x232).Call), .int .i64 ((rd a2 x232).Answer.Err), .bool ((rd a2 x232).Answer.Found), .string (bs ((rd a2 x232).Answer.Value)), .slice A372 ((rd a2 x232).Answer.Pairs).length c373]) (x_loadA (S.frz hb367) ty38 rfl (sub_el hc370 0 rfl) rfl rfl) rfl ?_)
            refine W_alloc S #[.int .u8 0, .int .i64 0, .int .i64 0, .int .i64 0, .bool false, .string (bs ([] : Str)), .slice none 0 0] ty38 rfl rfl ?_
            intro b376 w377 E' S
            replace E := E.trans E'
            refine W_v (.int .i64 x232) (x_assign rfl) rfl ?_
            refine W_store S 0 rfl ty38 rfl rfl [.int .u8 ((rd a2 x232).What), .int .i64 ((rd a2 x232).Task), .int .i64 ((rd a2 x232).Call), .int .i64 ((rd a2 x232).Answer.Err), .bool ((rd a2 x232).Answer.Found), .string (bs ((rd a2 x232).Answer.Value)), .slice A372 ((rd a2 x232).Answer.Pairs).length c373] rfl rfl rfl #[.int .u8 ((rd a2 x232).What), .int .i64 ((rd a2 x232).Task), .int .i64 ((rd a2 x232).Call), .int .i64 ((rd a2 x232).Answer.Err), .bool ((rd a2 x232).Answer.Found), .string (bs ((rd a2 x232).Answer.Value)), .slice A372 ((rd a2 x232).Answer.Pairs).length c373] (by as_aux_lemma => kernel_rfl) rfl ?_
            intro w379 E' S
            replace E := E.trans E'
            refine Wl_nil (tn (Wp_seq (Wp_region_lit (W_v (pt b14 0) (x_move rfl) rfl (W_v (.int .i64 x232) (x_move rfl) rfl (W_v (.agg #[.int .u8 ((rd a2 x232).What), .int .i64 ((rd a2 x232).Task), .int .i64 ((rd a2 x232).Call), .int .i64 ((rd a2 x232).Answer.Err), .bool ((rd a2 x232).Answer.Found), .string (bs ((rd a2 x232).Answer.Value)), .slice A372 ((rd a2 x232).Answer.Pairs).length c373]) (x_loadA (S.blk 0 rfl) ty38 rfl (sub_of_extract rfl) rfl rfl) rfl ?_))))))
            obtain ⟨t380, ht381, H⟩ := bindS H
            replace S : St w379 M359 F [_, _, _, _, _, _, _, _, _, _, _, _] := S.pick [9, 10, 6, 5, 11, 4, 3, 2, 1, 8, 7, 0] (by decide)
            refine W_call fn32 (replay_run_step_PRpoo_poooo_OO.con k M359 A234 c235 A246 c247 A250 c251 A254 c255 A257 c258 A260 c261 A263 c264 vs266 A238 c239 A242 c243 (⟨x233, (⟨x245, x249⟩ : event_Recorder), x253, x237, x241⟩ : replay_run) x232 A372 c373 (rd a2 x232) b19 b27 b14 t380 hs236 hm267 hs374 hg0 hg1 ht381) (Γ1 := [_, _, _, _, _, _, _, _, _, _, _]) (Γ2 := [_]) S rfl rfl ?_
            rintro _ w411 M412 Γ' hM413 E' S ⟨A382, c383, A385, c386, A388, c389, A391, c392, A394, c395, A397, c398, A400, c401, vs403, A405, c406, A408, c409, rfl, hs384, hm404, rfl⟩
            replace hg0 : ∃ gt fr, _ := (let ⟨gt, fr, h8⟩ := hg0; ⟨gt, fr, hM413 _ _ h8⟩)
            replace hg1 : ∃ gt fr, _ := (let ⟨gt, fr, h8⟩ := hg1; ⟨gt, fr, hM413 _ _ h8⟩)
            replace HM := Hp.le_trans HM hM413
            replace hM360 := Hp.le_trans hM360 hM413
            replace hr1 := SlR.mono hr1 hM413
            replace hr2 := SlR.mono hr2 hM413
            replace hs18 := SlR.mono hs18 hM413
            replace hm42 := MRel.mono hm42 hM413
            replace hs236 := SlR.mono hs236 hM413
            replace hm267 := MRel.mono hm267 hM413
            replace hb367 := hM413 _ _ hb367
            replace hs374 := SlR.mono hs374 hM413
            replace E := E.trans E'
            replace S : St w411 M412 F [_, _, _, _, _, _, _, _, _, _, _, _] := S
            refine W_v (.bool (t380.1 == (4 : Int))) (x_ibin rfl rfl rfl rfl) rfl (Wl_nil (tn ?_))
            rcases iteS H with ⟨hb414, H⟩ | ⟨hb414, H⟩
            · refine Wp_cond_true (congrArg Value.bool hb414) ?_
              refine Wp_seq (Wp_region_lit (W_v (.pointer none) (x_assign rfl) rfl (W_v (.int .i64 4) (x_assign rfl) rfl (Wl_nil (tn ?_)))))
              refine Wp_ret ?_
              refine br (tr (tr (br (tr (tr (?_))))))
              obtain rfl := Option.some.inj H
              have H := o357H
              replace H := elimL H
              obtain rfl := Option.some.inj H
              exact ⟨_, _, _, fun w1 e1 => run_resR (vs := [.pointer none, .int .i64 4]) (FA.cons (rfl) (FA.cons (rfl) (FA.nil))), HM, E, S.pick [] (by decide), ⟨rfl, rfl⟩⟩
            refine Wp_cond_false (congrArg Value.bool hb414) (Wp_skip (bn (tn (Wp_region_lit (W_v (.int .i64 (IntKind.i64.wrap (x232 + (1 : Int)))) (x_ibin rfl rfl rfl rfl) rfl (W_v (.int .i64 (IntKind.i64.wrap (x232 + (1 : Int)))) (x_move rfl) rfl (Wl_nil (tn ?_))))))))
            exact ⟨k, Nat.lt_succ_self k, ⟨(IntKind.i64.wrap (x232 + (1 : Int))), t380.2.programs, t380.2.done, t380.2.last, t380.2.r.tasks, t380.2.r.l, t380.2.m, A382, c383, A405, c406, A408, c409, A385, c386, A388, c389, A391, c392, A394, c395, A397, c398, A400, c401, vs403, M412, H, ⟨rfl, rfl, rfl, rfl, trivial⟩, hM360, E, S.pick [8, 7, 6, 5, 3, 2, 10, 9, 0, 1, 4] (by decide), hs384, hm404⟩⟩
          refine Wp_cond_false (congrArg Value.bool hb361) ?_
          refine Wp_exit ?_
          refine tx (tx (bsm (?_)))
          refine tn ?_
          exact ⟨x233, x237, x241, x245, x249, x253, A234, c235, A238, c239, A242, c243, A246, c247, A250, c251, A254, c255, A257, c258, A260, c261, A263, c264, vs266, M359, Option.some.inj H, ⟨rfl, trivial⟩, hM360, E, S.pick [0, 1, 2, 3, 4, 5, 6, 7, 8, 9, 10] (by decide), hs236, hm267⟩
    rintro ρ w415 ⟨x322, x326, x330, x334, x338, x342, A323, c324, A327, c328, A331, c332, A335, c336, A339, c340, A343, c344, A346, c347, A349, c350, A352, c353, vs355, M416, rfl, hρ, hM417, E, S, hs325, hm356⟩
    rw [agree_eta hρ]
    replace hg0 : ∃ gt fr, _ := (let ⟨gt, fr, h8⟩ := hg0; ⟨gt, fr, hM417 _ _ h8⟩)
    replace hg1 : ∃ gt fr, _ := (let ⟨gt, fr, h8⟩ := hg1; ⟨gt, fr, hM417 _ _ h8⟩)
    replace HM := Hp.le_trans HM hM417
    replace hr1 := SlR.mono hr1 hM417
    replace hr2 := SlR.mono hr2 hM417
    replace hs18 := SlR.mono hs18 hM417
    replace hm42 := MRel.mono hm42 hM417
    have H := o357H
    replace H := elimR H
    refine tn ?_
    as_aux_lemma =>
    refine Wp_seq (Wp_region_lit (W_v (pt b14 0) (x_move rfl) rfl (W_v (pt b14 0) (x_assign rfl) rfl (W_v (.int .i64 0) (x_assign rfl) rfl (Wl_nil (tn ?_))))))
    refine Wp_ret ?_
    obtain rfl := Option.some.inj H
    exact ⟨_, _, _, fun w1 e1 => run_resR (vs := [pt b14 0, .int .i64 0]) (FA.cons (rfl) (FA.cons (rfl) (FA.nil))), HM, E, S.pick [8, 9, 5, 4, 10, 3, 2, 1, 0, 7, 6] (by decide), ⟨b14, A323, c324, b19, A335, c336, A339, c340, b27, A343, c344, A346, c347, A349, c350, A352, c353, vs355, A327, c328, A331, c332, rfl, hs325, hm356, rfl⟩⟩
  · skip
    replace H := elimR H
    replace H := elimR H
    replace H := elimL H
    refine W_call fn31 (replay_begun_v.con k M a0 A1 c1 a1 (Sum.inr (Sum.inr (Sum.inl t8))) hr1 ht5) (Γ1 := []) (Γ2 := [_]) S rfl rfl ?_
    rintro _ w445 M446 Γ' hM447 E' S ⟨b418, A420, c421, b423, A425, c426, A428, c429, A431, c432, A434, c435, vs437, A439, c440, A442, c443, rfl, hs422, hm438, rfl⟩
    replace hg0 : ∃ gt fr, _ := (let ⟨gt, fr, h8⟩ := hg0; ⟨gt, fr, hM447 _ _ h8⟩)
    replace hg1 : ∃ gt fr, _ := (let ⟨gt, fr, h8⟩ := hg1; ⟨gt, fr, hM447 _ _ h8⟩)
    replace HM := Hp.le_trans HM hM447
    replace hr1 := SlR.mono hr1 hM447
    replace hr2 := SlR.mono hr2 hM447
    replace E := E.trans E'
    replace S : St w445 M446 F [_, _, _, _, _, _, _, _, _] := S
    refine W_v (.tuple #[pt b418 0, .bool false]) (x_move rfl) rfl (W_v (pt b418 0) (x_extract rfl rfl) rfl (W_v (.bool false) (x_extract rfl rfl) rfl (W_v (pt b418 0) (x_assign rfl) rfl (W_v (.bool false) (x_assign rfl) rfl (Wl_nil (tn (Wp_seq (Wp_seq (Wp_region_lit (W_v (.bool false) (x_move rfl) rfl (W_v (.bool true) (x_not (b := false) rfl) rfl (Wl_nil (tn (Wp_cond_true rfl (Wp_seq ?_)))))))))))))))
    refine Wp_region_lit (W_v (.pointer none) (x_assign rfl) rfl (W_v (.int .i64 1) (x_assign rfl) rfl (Wl_nil (tn ?_))))
    refine Wp_ret ?_
    refine tr (?_)
    obtain rfl := Option.some.inj H
    exact ⟨_, _, _, fun w1 e1 => run_resR (vs := [.pointer none, .int .i64 1]) (FA.cons (rfl) (FA.cons (rfl) (FA.nil))), HM, E, S.pick [] (by decide), ⟨rfl, rfl⟩⟩
  · skip
    replace H := elimR H
    replace H := elimR H
    replace H := elimR H
    replace H := elimL H
    refine W_call fn31 (replay_begun_v.con k M a0 A1 c1 a1 (Sum.inr (Sum.inr (Sum.inr (Sum.inl t9)))) hr1 ht5) (Γ1 := []) (Γ2 := [_]) S rfl rfl ?_
    rintro _ w459 M460 Γ' hM461 E' S ⟨b448, A450, c451, A453, c454, A456, c457, rfl, hs452, rfl⟩
    replace hg0 : ∃ gt fr, _ := (let ⟨gt, fr, h8⟩ := hg0; ⟨gt, fr, hM461 _ _ h8⟩)
    replace hg1 : ∃ gt fr, _ := (let ⟨gt, fr, h8⟩ := hg1; ⟨gt, fr, hM461 _ _ h8⟩)
    replace HM := Hp.le_trans HM hM461
    replace hr1 := SlR.mono hr1 hM461
    replace hr2 := SlR.mono hr2 hM461
    replace E := E.trans E'
    replace S : St w459 M460 F [_, _, _, _] := S
    refine W_v (.tuple #[pt b448 0, .bool false]) (x_move rfl) rfl (W_v (pt b448 0) (x_extract rfl rfl) rfl (W_v (.bool false) (x_extract rfl rfl) rfl (W_v (pt b448 0) (x_assign rfl) rfl (W_v (.bool false) (x_assign rfl) rfl (Wl_nil (tn (Wp_seq (Wp_seq (Wp_region_lit (W_v (.bool false) (x_move rfl) rfl (W_v (.bool true) (x_not (b := false) rfl) rfl (Wl_nil (tn (Wp_cond_true rfl (Wp_seq ?_)))))))))))))))
    refine Wp_region_lit (W_v (.pointer none) (x_assign rfl) rfl (W_v (.int .i64 1) (x_assign rfl) rfl (Wl_nil (tn ?_))))
    refine Wp_ret ?_
    refine tr (?_)
    obtain rfl := Option.some.inj H
    exact ⟨_, _, _, fun w1 e1 => run_resR (vs := [.pointer none, .int .i64 1]) (FA.cons (rfl) (FA.cons (rfl) (FA.nil))), HM, E, S.pick [] (by decide), ⟨rfl, rfl⟩⟩
  · skip
    replace H := elimR H
    replace H := elimR H
    replace H := elimR H
    replace H := elimR H
    refine W_call fn31 (replay_begun_v.con k M a0 A1 c1 a1 (Sum.inr (Sum.inr (Sum.inr (Sum.inr t10)))) hr1 ht5) (Γ1 := []) (Γ2 := [_]) S rfl rfl ?_
    rintro _ w481 M482 Γ' hM483 E' S ⟨b462, A464, c465, b467, A469, c470, A472, c473, A475, c476, A478, c479, rfl, hs466, rfl⟩
    replace hg0 : ∃ gt fr, _ := (let ⟨gt, fr, h8⟩ := hg0; ⟨gt, fr, hM483 _ _ h8⟩)
    replace hg1 : ∃ gt fr, _ := (let ⟨gt, fr, h8⟩ := hg1; ⟨gt, fr, hM483 _ _ h8⟩)
    replace HM := Hp.le_trans HM hM483
    replace hr1 := SlR.mono hr1 hM483
    replace hr2 := SlR.mono hr2 hM483
    replace E := E.trans E'
    replace S : St w481 M482 F [_, _, _, _, _, _, _] := S
    refine W_v (.tuple #[pt b462 0, .bool false]) (x_move rfl) rfl (W_v (pt b462 0) (x_extract rfl rfl) rfl (W_v (.bool false) (x_extract rfl rfl) rfl (W_v (pt b462 0) (x_assign rfl) rfl (W_v (.bool false) (x_assign rfl) rfl (Wl_nil (tn (Wp_seq (Wp_seq (Wp_region_lit (W_v (.bool false) (x_move rfl) rfl (W_v (.bool true) (x_not (b := false) rfl) rfl (Wl_nil (tn (Wp_cond_true rfl (Wp_seq ?_)))))))))))))))
    refine Wp_region_lit (W_v (.pointer none) (x_assign rfl) rfl (W_v (.int .i64 1) (x_assign rfl) rfl (Wl_nil (tn ?_))))
    refine Wp_ret ?_
    refine tr (?_)
    obtain rfl := Option.some.inj H
    exact ⟨_, _, _, fun w1 e1 => run_resR (vs := [.pointer none, .int .i64 1]) (FA.cons (rfl) (FA.cons (rfl) (FA.nil))), HM, E, S.pick [] (by decide), ⟨rfl, rfl⟩⟩
def replay_Answers (k : Nat) (a0 : api_Config) (a1 : (List (List api_Call))) (a2 : (List api_Event)) : Option ((List replay_Done)) :=
  (Option.bind (replay_over_v k a0 a1 a2) (fun t4 => (Sum.elim (fun t6 => some ([] : (List replay_Done))) (Sum.elim (fun t7 => some ([] : (List replay_Done))) (fun t8 => some t8.done))) t4))
set_option maxHeartbeats 2000000 in
theorem replay_Answers.mono {k : Nat} {a0 : api_Config} {a1 : (List (List api_Call))} {a2 : (List api_Event)} : OLe (replay_Answers k a0 a1 a2) (replay_Answers (k + 1) a0 a1 a2) := by
  unfold replay_Answers
  repeat' (first | with_reducible exact OLe.none | with_reducible exact OLe.some | with_reducible refine OLe.ite ?_ ?_ | with_reducible refine OLe.bind ?_ (fun _ => ?_) | with_reducible exact replay_over_v.mono | refine OLe.bind ?_ (fun _ => ?_) | refine OLe.ite ?_ ?_ | refine OLe.elim (fun _ => ?_) (fun _ => ?_) | split)
set_option maxHeartbeats 1000000 in
set_option maxRecDepth 100000 in
theorem replay_Answers.con (k : Nat) (M : Hp) (a0 : api_Config) (A1 : Option Addr) (c1 : Nat) (a1 : (List (List api_Call))) (A2 : Option Addr) (c2 : Nat) (a2 : (List api_Event)) (r : (List replay_Done)) (hr1 : SlR (rSl r_api_Call) M (.slice A1 a1.length c1) a1) (hr2 : SlR r_api_Event M (.slice A2 a2.length c2) a2) (hg0 : ∃ gt fr, M 0 = some (.cells #[.nilFunc, .func (.func 92) #[] #[], .func (.func 93) #[] #[], .func (.func 94) #[] #[], .func (.func 95) #[] #[], .func (.func 96) #[] #[], .func (.func 97) #[] #[], .func (.func 98) #[] #[], .func (.func 99) #[] #[], .func (.func 100) #[] #[]] gt fr)) (hg1 : ∃ gt fr, M 1 = some (.cells #[.nilFunc, .func (.func 114) #[] #[], .func (.func 116) #[] #[], .func (.func 118) #[] #[]] gt fr)) (h : replay_Answers k a0 a1 a2 = some r) : Con Tryd.prog 17 #[.agg #[.int .i64 a0.Tasks, .int .i64 a0.Active, .int .i64 a0.Keys, .int .i64 a0.Depth, .int .i64 a0.TS, .int .i64 a0.KeyLen, .int .i64 a0.ValLen, .int .i64 a0.Fan], .slice A1 a1.length c1, .slice A2 a2.length c2] M [] (fun v M' Γ' => ∃ (A0 : Option Addr) (c0 : Nat), v = .slice A0 r.length c0 ∧ Γ' = [Row r_replay_Done 53 (.slice A0 r.length c0) r]) := by
  refine con_of_wp Tryd.func17 rfl Tryd.ntmps17 Tryd.results17 rfl ?_
  intro w F rn S hrn
  have E := Ext.refl w
  have HM := Hp.le_refl M
  have H := h
  unfold replay_Answers at H
  refine Wp_seq (Wp_region_lit ?_)
  refine W_box S #[.int .i64 a0.Tasks, .int .i64 a0.Active, .int .i64 a0.Keys, .int .i64 a0.Depth, .int .i64 a0.TS, .int .i64 a0.KeyLen, .int .i64 a0.ValLen, .int .i64 a0.Fan] rfl rfl rfl ?_
  intro b1 w2 E' S
  replace E := E.trans E'
  refine W_v (.slice none 0 0) (x_assign rfl) rfl (Wl_nil (tn (Wp_seq (Wp_region_lit (W_v (.agg #[.int .i64 a0.Tasks, .int .i64 a0.Active, .int .i64 a0.Keys, .int .i64 a0.Depth, .int .i64 a0.TS, .int .i64 a0.KeyLen, .int .i64 a0.ValLen, .int .i64 a0.Fan]) (x_loadA (S.blk 0 rfl) ty23 rfl (sub_of_extract rfl) rfl rfl) rfl (W_v (.slice A1 a1.length c1) (x_move rfl) rfl (W_v (.slice A2 a2.length c2) (x_move rfl) rfl ?_)))))))
  obtain ⟨t4, ht5, H⟩ := bindS H
  rcases t4 with t6 | t7 | t8
  · skip
    replace H := elimL H
    refine W_callF2 fn25 (replay_over_v.con k M a0 A1 c1 a1 A2 c2 a2 (Sum.inl t6) hr1 hr2 hg0 hg1 ht5) (Γ1 := []) (Γ2 := [_]) S rfl rfl (by rintro _ _ _ ⟨rfl, rfl⟩; exact flat_nil) ?_
    rintro _ w9 _ Γ' E' S ⟨rfl, rfl⟩
    replace E := E.trans E'
    replace S : St w9 M F [_] := S
    refine W_v (.tuple #[.pointer none, .int .i64 1]) (x_move rfl) rfl (W_v (.pointer none) (x_extract rfl rfl) rfl (W_v (.int .i64 1) (x_extract rfl rfl) rfl (W_v (.pointer none) (x_assign rfl) rfl (W_v (.int .i64 1) (x_assign rfl) rfl (Wl_nil (tn (Wp_seq (Wp_seq (Wp_region_lit (W_v (.int .i64 1) (x_move rfl) rfl (W_v (.bool true) (x_ibin rfl rfl rfl rfl) rfl (Wl_nil (tn (Wp_cond_true rfl (Wp_seq ?_)))))))))))))))
    refine Wp_region_lit (W_v (.slice none 0 0) (x_assign rfl) rfl (Wl_nil (tn ?_)))
    refine Wp_ret ?_
    refine tr (?_)
    obtain rfl := Option.some.inj H
    replace S := S.row_nil r_replay_Done 53
    exact ⟨_, _, _, fun w1 e1 => run_resR (vs := [.slice none 0 0]) (FA.cons (rfl) (FA.nil)), HM, E, S.pick [0] (by decide), ⟨none, 0, rfl, rfl⟩⟩
  · skip
    replace H := elimR H
    replace H := elimL H
    refine W_callF2 fn25 (replay_over_v.con k M a0 A1 c1 a1 A2 c2 a2 (Sum.inr (Sum.inl t7)) hr1 hr2 hg0 hg1 ht5) (Γ1 := []) (Γ2 := [_]) S rfl rfl (by rintro _ _ _ ⟨rfl, rfl⟩; exact flat_nil) ?_
    rintro _ w13 _ Γ' E' S ⟨rfl, rfl⟩
    replace E := E.trans E'
    replace S : St w13 M F [_] := S
    refine W_v (.tuple #[.pointer none, .int .i64 4]) (x_move rfl) rfl (W_v (.pointer none) (x_extract rfl rfl) rfl (W_v (.int .i64 4) (x_extract rfl rfl) rfl (W_v (.pointer none) (x_assign rfl) rfl (W_v (.int .i64 4) (x_assign rfl) rfl (Wl_nil (tn (Wp_seq (Wp_seq (Wp_region_lit (W_v (.int .i64 4) (x_move rfl) rfl (W_v (.bool true) (x_ibin rfl rfl rfl rfl) rfl (Wl_nil (tn (Wp_cond_true rfl (Wp_seq ?_)))))))))))))))
    refine Wp_region_lit (W_v (.slice none 0 0) (x_assign rfl) rfl (Wl_nil (tn ?_)))
    refine Wp_ret ?_
    refine tr (?_)
    obtain rfl := Option.some.inj H
    replace S := S.row_nil r_replay_Done 53
    exact ⟨_, _, _, fun w1 e1 => run_resR (vs := [.slice none 0 0]) (FA.cons (rfl) (FA.nil)), HM, E, S.pick [0] (by decide), ⟨none, 0, rfl, rfl⟩⟩
  · skip
    replace H := elimR H
    replace H := elimR H
    refine W_call fn25 (replay_over_v.con k M a0 A1 c1 a1 A2 c2 a2 (Sum.inr (Sum.inr t8)) hr1 hr2 hg0 hg1 ht5) (Γ1 := []) (Γ2 := [_]) S rfl rfl ?_
    rintro _ w52 M53 Γ' hM54 E' S ⟨b17, A19, c20, b22, A24, c25, A27, c28, b30, A32, c33, A35, c36, A38, c39, A41, c42, vs44, A46, c47, A49, c50, rfl, hs21, hm45, rfl⟩
    replace hg0 : ∃ gt fr, _ := (let ⟨gt, fr, h8⟩ := hg0; ⟨gt, fr, hM54 _ _ h8⟩)
    replace hg1 : ∃ gt fr, _ := (let ⟨gt, fr, h8⟩ := hg1; ⟨gt, fr, hM54 _ _ h8⟩)
    replace HM := Hp.le_trans HM hM54
    replace hr1 := SlR.mono hr1 hM54
    replace hr2 := SlR.mono hr2 hM54
    replace E := E.trans E'
    replace S : St w52 M53 F [_, _, _, _, _, _, _, _, _, _, _, _] := S
    refine W_v (.tuple #[pt b17 0, .int .i64 0]) (x_move rfl) rfl (W_v (pt b17 0) (x_extract rfl rfl) rfl (W_v (.int .i64 0) (x_extract rfl rfl) rfl (W_v (pt b17 0) (x_assign rfl) rfl (W_v (.int .i64 0) (x_assign rfl) rfl (Wl_nil (tn (Wp_seq (Wp_seq (Wp_region_lit (W_v (.int .i64 0) (x_move rfl) rfl (W_v (.bool false) (x_ibin rfl rfl rfl rfl) rfl (Wl_nil (tn (Wp_cond_false rfl (Wp_skip ?_)))))))))))))))
    refine tn (Wp_seq (Wp_region_lit (W_v (pt b17 0) (x_move rfl) rfl (W_v (pt b17 0) (x_nilptr rfl) rfl (W_v (pt b17 3) (x_fieldAddr (o := 0) (off := 3) Tryd.underlying72 rfl ty50 rfl rfl) rfl (W_v (.slice A46 t8.done.length c47) (x_load (S.blk 0 rfl) ty50 rfl rfl) rfl (W_v (.slice A46 t8.done.length c47) (x_assign rfl) rfl (Wl_nil (tn ?_)))))))))
    refine Wp_ret ?_
    obtain rfl := Option.some.inj H
    exact ⟨_, _, _, fun w1 e1 => run_resR (vs := [.slice A46 t8.done.length c47]) (FA.cons (rfl) (FA.nil)), HM, E, S.pick [9] (by decide), ⟨A46, c47, rfl, rfl⟩⟩
def replay_Model_v (k : Nat) (a0 : api_Config) (a1 : (List (List api_Call))) (a2 : (List api_Event)) : Option ((Unit) ⊕ (Unit) ⊕ (model_Model)) :=
  (Option.bind (replay_over_v k a0 a1 a2) (fun t4 => (Sum.elim (fun t6 => some (Sum.inl ())) (Sum.elim (fun t7 => some (Sum.inr (Sum.inl ()))) (fun t8 => some (Sum.inr (Sum.inr t8.m))))) t4))
set_option maxHeartbeats 2000000 in
theorem replay_Model_v.mono {k : Nat} {a0 : api_Config} {a1 : (List (List api_Call))} {a2 : (List api_Event)} : OLe (replay_Model_v k a0 a1 a2) (replay_Model_v (k + 1) a0 a1 a2) := by
  unfold replay_Model_v
  repeat' (first | with_reducible exact OLe.none | with_reducible exact OLe.some | with_reducible refine OLe.ite ?_ ?_ | with_reducible refine OLe.bind ?_ (fun _ => ?_) | with_reducible exact replay_over_v.mono | refine OLe.bind ?_ (fun _ => ?_) | refine OLe.ite ?_ ?_ | refine OLe.elim (fun _ => ?_) (fun _ => ?_) | split)
set_option maxHeartbeats 4000000 in
set_option maxRecDepth 100000 in
theorem replay_Model_v.con (k : Nat) (M : Hp) (a0 : api_Config) (A1 : Option Addr) (c1 : Nat) (a1 : (List (List api_Call))) (A2 : Option Addr) (c2 : Nat) (a2 : (List api_Event)) (r : (Unit) ⊕ (Unit) ⊕ (model_Model)) (hr1 : SlR (rSl r_api_Call) M (.slice A1 a1.length c1) a1) (hr2 : SlR r_api_Event M (.slice A2 a2.length c2) a2) (hg0 : ∃ gt fr, M 0 = some (.cells #[.nilFunc, .func (.func 92) #[] #[], .func (.func 93) #[] #[], .func (.func 94) #[] #[], .func (.func 95) #[] #[], .func (.func 96) #[] #[], .func (.func 97) #[] #[], .func (.func 98) #[] #[], .func (.func 99) #[] #[], .func (.func 100) #[] #[]] gt fr)) (hg1 : ∃ gt fr, M 1 = some (.cells #[.nilFunc, .func (.func 114) #[] #[], .func (.func 116) #[] #[], .func (.func 118) #[] #[]] gt fr)) (h : replay_Model_v k a0 a1 a2 = some r) : Con Tryd.prog 18 #[.agg #[.int .i64 a0.Tasks, .int .i64 a0.Active, .int .i64 a0.Keys, .int .i64 a0.Depth, .int .i64 a0.TS, .int .i64 a0.KeyLen, .int .i64 a0.ValLen, .int .i64 a0.Fan], .slice A1 a1.length c1, .slice A2 a2.length c2] M [] (fun v M' Γ' => (Sum.elim (fun x => v = .tuple #[.pointer none, .int .i64 1] ∧ Γ' = []) (Sum.elim (fun x => v = .tuple #[.pointer none, .int .i64 4] ∧ Γ' = []) (fun x => ∃ (bq1 : Nat) (Aq3 : Option Addr) (cq4 : Nat) (Aq6 : Option Addr) (cq7 : Nat) (Aq9 : Option Addr) (cq10 : Nat) (Aq12 : Option Addr) (cq13 : Nat) (vsq15 : List (Str × Value)), v = .tuple #[pt bq1 0, .int .i64 0] ∧ MRel r_model_row M' x.rows vsq15 ∧ Γ' = [B83 bq1 x Aq3 Aq6 Aq9 cq10 Aq12, MapC enc_model_name (Value.int .i64) Aq3 x.names, MapC (Value.int .i64) (Value.int .i64) Aq6 x.many, Row r_model_tx 109 (.slice Aq9 x.txs.length cq10) x.txs, MapC encS (fun v : Value => v) Aq12 vsq15]))) r) := by
  refine con_of_wp Tryd.func18 rfl Tryd.ntmps18 Tryd.results18 rfl ?_
  intro w F rn S hrn
  have E := Ext.refl w
  have HM := Hp.le_refl M
  have H := h
  unfold replay_Model_v at H
  refine Wp_seq (Wp_region_lit ?_)
  refine W_box S #[.int .i64 a0.Tasks, .int .i64 a0.Active, .int .i64 a0.Keys, .int .i64 a0.Depth, .int .i64 a0.TS, .int .i64 a0.KeyLen, .int .i64 a0.ValLen, .int .i64 a0.Fan] rfl rfl rfl ?_
  intro b1 w2 E' S
  replace E := E.trans E'
  refine W_v (.pointer none) (x_assign rfl) rfl (W_v (.int .i64 0) (x_assign rfl) rfl (Wl_nil (tn (Wp_seq (Wp_region_lit (W_v (.agg #[.int .i64 a0.Tasks, .int .i64 a0.Active, .int .i64 a0.Keys, .int .i64 a0.Depth, .int .i64 a0.TS, .int .i64 a0.KeyLen, .int .i64 a0.ValLen, .int .i64 a0.Fan]) (x_loadA (S.blk 0 rfl) ty23 rfl (sub_of_extract rfl) rfl rfl) rfl (W_v (.slice A1 a1.length c1) (x_move rfl) rfl (W_v (.slice A2 a2.length c2) (x_move rfl) rfl ?_))))))))
  obtain ⟨t4, ht5, H⟩ := bindS H
  rcases t4 with t6 | t7 | t8
  · skip
    replace H := elimL H
    refine W_callF2 fn25 (replay_over_v.con k M a0 A1 c1 a1 A2 c2 a2 (Sum.inl t6) hr1 hr2 hg0 hg1 ht5) (Γ1 := []) (Γ2 := [_]) S rfl rfl (by rintro _ _ _ ⟨rfl, rfl⟩; exact flat_nil) ?_
    rintro _ w9 _ Γ' E' S ⟨rfl, rfl⟩
    replace E := E.trans E'
    replace S : St w9 M F [_] := S
    refine W_v (.tuple #[.pointer none, .int .i64 1]) (x_move rfl) rfl (W_v (.pointer none) (x_extract rfl rfl) rfl (W_v (.int .i64 1) (x_extract rfl rfl) rfl (W_v (.pointer none) (x_assign rfl) rfl (W_v (.int .i64 1) (x_assign rfl) rfl (Wl_nil (tn (Wp_seq (Wp_seq (Wp_region_lit (W_v (.int .i64 1) (x_move rfl) rfl (W_v (.bool true) (x_ibin rfl rfl rfl rfl) rfl (Wl_nil (tn (Wp_cond_true rfl (Wp_seq ?_)))))))))))))))
    refine Wp_region_lit (W_v (.int .i64 1) (x_move rfl) rfl (W_v (.pointer none) (x_assign rfl) rfl (W_v (.int .i64 1) (x_assign rfl) rfl (Wl_nil (tn ?_)))))
    refine Wp_ret ?_
    refine tr (?_)
    obtain rfl := Option.some.inj H
    exact ⟨_, _, _, fun w1 e1 => run_resR (vs := [.pointer none, .int .i64 1]) (FA.cons (rfl) (FA.cons (rfl) (FA.nil))), HM, E, S.pick [] (by decide), ⟨rfl, rfl⟩⟩
  · skip
    replace H := elimR H
    replace H := elimL H
    refine W_callF2 fn25 (replay_over_v.con k M a0 A1 c1 a1 A2 c2 a2 (Sum.inr (Sum.inl t7)) hr1 hr2 hg0 hg1 ht5) (Γ1 := []) (Γ2 := [_]) S rfl rfl (by rintro _ _ _ ⟨rfl, rfl⟩; exact flat_nil) ?_
    rintro _ w12 _ Γ' E' S ⟨rfl, rfl⟩
    replace E := E.trans E'
    replace S : St w12 M F [_] := S
    refine W_v (.tuple #[.pointer none, .int .i64 4]) (x_move rfl) rfl (W_v (.pointer none) (x_extract rfl rfl) rfl (W_v (.int .i64 4) (x_extract rfl rfl) rfl (W_v (.pointer none) (x_assign rfl) rfl (W_v (.int .i64 4) (x_assign rfl) rfl (Wl_nil (tn (Wp_seq (Wp_seq (Wp_region_lit (W_v (.int .i64 4) (x_move rfl) rfl (W_v (.bool true) (x_ibin rfl rfl rfl rfl) rfl (Wl_nil (tn (Wp_cond_true rfl (Wp_seq ?_)))))))))))))))
    refine Wp_region_lit (W_v (.int .i64 4) (x_move rfl) rfl (W_v (.pointer none) (x_assign rfl) rfl (W_v (.int .i64 4) (x_assign rfl) rfl (Wl_nil (tn ?_)))))
    refine Wp_ret ?_
    refine tr (?_)
    obtain rfl := Option.some.inj H
    exact ⟨_, _, _, fun w1 e1 => run_resR (vs := [.pointer none, .int .i64 4]) (FA.cons (rfl) (FA.cons (rfl) (FA.nil))), HM, E, S.pick [] (by decide), ⟨rfl, rfl⟩⟩
  · skip
    replace H := elimR H
    replace H := elimR H
    refine W_call fn25 (replay_over_v.con k M a0 A1 c1 a1 A2 c2 a2 (Sum.inr (Sum.inr t8)) hr1 hr2 hg0 hg1 ht5) (Γ1 := []) (Γ2 := [_]) S rfl rfl ?_
    rintro _ w50 M51 Γ' hM52 E' S ⟨b15, A17, c18, b20, A22, c23, A25, c26, b28, A30, c31, A33, c34, A36, c37, A39, c40, vs42, A44, c45, A47, c48, rfl, hs19, hm43, rfl⟩
    replace hg0 : ∃ gt fr, _ := (let ⟨gt, fr, h8⟩ := hg0; ⟨gt, fr, hM52 _ _ h8⟩)
    replace hg1 : ∃ gt fr, _ := (let ⟨gt, fr, h8⟩ := hg1; ⟨gt, fr, hM52 _ _ h8⟩)
    replace HM := Hp.le_trans HM hM52
    replace hr1 := SlR.mono hr1 hM52
    replace hr2 := SlR.mono hr2 hM52
    replace E := E.trans E'
    replace S : St w50 M51 F [_, _, _, _, _, _, _, _, _, _, _, _] := S
    refine W_v (.tuple #[pt b15 0, .int .i64 0]) (x_move rfl) rfl (W_v (pt b15 0) (x_extract rfl rfl) rfl (W_v (.int .i64 0) (x_extract rfl rfl) rfl (W_v (pt b15 0) (x_assign rfl) rfl (W_v (.int .i64 0) (x_assign rfl) rfl (Wl_nil (tn (Wp_seq (Wp_seq (Wp_region_lit (W_v (.int .i64 0) (x_move rfl) rfl (W_v (.bool false) (x_ibin rfl rfl rfl rfl) rfl (Wl_nil (tn (Wp_cond_false rfl (Wp_skip ?_)))))))))))))))
    refine tn (Wp_seq (Wp_region_lit (W_v (pt b15 0) (x_move rfl) rfl (W_v (pt b15 0) (x_nilptr rfl) rfl (W_v (pt b15 2) (x_fieldAddr (o := 0) (off := 2) Tryd.underlying72 rfl ty54 rfl rfl) rfl (W_v (pt b28 0) (x_load (S.blk 0 rfl) ty54 rfl rfl) rfl (W_v (pt b28 0) (x_assign rfl) rfl (W_v (.int .i64 0) (x_assign rfl) rfl (Wl_nil (tn ?_))))))))))
    refine Wp_ret ?_
    obtain rfl := Option.some.inj H
    exact ⟨_, _, _, fun w1 e1 => run_resR (vs := [pt b28 0, .int .i64 0]) (FA.cons (rfl) (FA.cons (rfl) (FA.nil))), HM, E, S.pick [4, 5, 6, 7, 8] (by decide), ⟨b28, A30, c31, A33, c34, A36, c37, A39, c40, vs42, rfl, hm43, rfl⟩⟩
def model_Model_Retained_POOOO_l0 (a0 : model_Model) (t1 : (List Str)) : Nat → Int → Int → Option ((Int))
  | 0, _, _ => none
  | k + 1, x95, x96 => (if (decide (x96 < (t1.length : Int))) = true then (if 0 ≤ x96 ∧ x96 < (t1.length : Int) then model_Model_Retained_POOOO_l0 a0 t1 k (IntKind.i64.wrap (x95 + (IntKind.i64.wrap (((((mget a0.rows (rd t1 x96)).getD (⟨[], ⟨0, 0, false, []⟩⟩ : model_row)).l).length : Int) + (imin (1 : Int) (((mget a0.rows (rd t1 x96)).getD (⟨[], ⟨0, 0, false, []⟩⟩ : model_row)).intent.Writer)))))) (IntKind.i64.wrap (x96 + (1 : Int))) else none) else some (x95))
set_option maxHeartbeats 2000000 in
theorem model_Model_Retained_POOOO_l0.mono {a0 : model_Model} {t1 : (List Str)} : ∀ {kl : Nat} {x0 x1}, OLe (model_Model_Retained_POOOO_l0 a0 t1 kl x0 x1) (model_Model_Retained_POOOO_l0 a0 t1 (kl + 1) x0 x1) := by
  intro kl
  induction kl with
  | zero => intros; exact OLe.none
  | succ kl ih =>
    intros
    rw [model_Model_Retained_POOOO_l0.eq_2, model_Model_Retained_POOOO_l0.eq_2]
    repeat' (first | with_reducible exact OLe.none | with_reducible exact OLe.some | with_reducible refine OLe.ite ?_ ?_ | with_reducible refine OLe.bind ?_ (fun _ => ?_) | exact ih | refine OLe.bind ?_ (fun _ => ?_) | refine OLe.ite ?_ ?_ | refine OLe.elim (fun _ => ?_) (fun _ => ?_) | split)
def model_Model_Retained_POOOO (k : Nat) (a0 : model_Model) : Option (Int) :=
  (Option.bind (model_Model_Keys_POOOO k a0) (fun t1 => (Option.bind (model_Model_Retained_POOOO_l0 a0 t1 k (0 : Int) (0 : Int)) (fun x138 => some x138))))
set_option maxHeartbeats 2000000 in
theorem model_Model_Retained_POOOO.mono {k : Nat} {a0 : model_Model} : OLe (model_Model_Retained_POOOO k a0) (model_Model_Retained_POOOO (k + 1) a0) := by
  unfold model_Model_Retained_POOOO
  repeat' (first | with_reducible exact OLe.none | with_reducible exact OLe.some | with_reducible refine OLe.ite ?_ ?_ | with_reducible refine OLe.bind ?_ (fun _ => ?_) | with_reducible exact model_Model_Keys_POOOO.mono | with_reducible exact model_Model_Retained_POOOO_l0.mono | refine OLe.bind ?_ (fun _ => ?_) | refine OLe.ite ?_ ?_ | refine OLe.elim (fun _ => ?_) (fun _ => ?_) | split)
set_option maxHeartbeats 4000000 in
set_option maxRecDepth 100000 in
theorem model_Model_Retained_POOOO.con (k : Nat) (M : Hp) (A0_8 : Option Addr) (c0_8 : Nat) (A0_9 : Option Addr) (c0_9 : Nat) (A0_10 : Option Addr) (c0_10 : Nat) (A0_11 : Option Addr) (c0_11 : Nat) (vs0_11 : List (Str × Value)) (a0 : model_Model) (bo0 : Nat) (r : Int) (hm0_11 : MRel r_model_row M a0.rows vs0_11) (h : model_Model_Retained_POOOO k a0 = some r) : Con Tryd.prog 19 #[pt bo0 0] M [B83 bo0 a0 A0_8 A0_9 A0_10 c0_10 A0_11, MapC enc_model_name (Value.int .i64) A0_8 a0.names, MapC (Value.int .i64) (Value.int .i64) A0_9 a0.many, Row r_model_tx 109 (.slice A0_10 a0.txs.length c0_10) a0.txs, MapC encS (fun v : Value => v) A0_11 vs0_11] (fun v M' Γ' => v = .int .i64 r ∧ Γ' = [B83 bo0 a0 A0_8 A0_9 A0_10 c0_10 A0_11, MapC enc_model_name (Value.int .i64) A0_8 a0.names, MapC (Value.int .i64) (Value.int .i64) A0_9 a0.many, Row r_model_tx 109 (.slice A0_10 a0.txs.length c0_10) a0.txs, MapC encS (fun v : Value => v) A0_11 vs0_11]) := by
  refine con_of_wp Tryd.func19 rfl Tryd.ntmps19 Tryd.results19 rfl ?_
  intro w F rn S hrn
  have E := Ext.refl w
  have HM := Hp.le_refl M
  have H := h
  unfold model_Model_Retained_POOOO at H
  refine Wp_seq (Wp_region_lit (W_v (.int .i64 0) (x_assign rfl) rfl (Wl_nil (tn (Wp_seq (Wp_region_lit (W_v (.int .i64 0) (x_assign rfl) rfl (Wl_nil (tn (Wp_seq (Wp_seq (Wp_region_lit (W_v (pt bo0 0) (x_move rfl) rfl ?_)))))))))))))
  obtain ⟨t1, ht2, H⟩ := bindS H
  refine W_callF2 fn20 (model_Model_Keys_POOOO.con k M A0_8 c0_8 A0_9 c0_9 A0_10 c0_10 A0_11 c0_11 vs0_11 a0 bo0 t1 hm0_11 ht2) (Γ1 := [_, _, _, _, _]) (Γ2 := []) S rfl rfl (by rintro _ _ _ ⟨_, _, rfl, rfl⟩; exact (flat_cons (flat_row (fun _ _ _ _ h => h)) (flat_cons flat_blk (flat_cons flat_map (flat_cons flat_map (flat_cons (flat_row (fun _ _ _ _ h => h)) (flat_cons flat_map flat_nil))))))) ?_
  rintro _ w6 _ Γ' E' S ⟨A3, c4, rfl, rfl⟩
  replace E := E.trans E'
  replace S : St w6 M F [_, _, _, _, _, _] := S
  refine W_v (.int .i64 (t1.length : Int)) (x_len_slice (n := t1.length) Tryd.underlying58 rfl) rfl (W_v (.int .i64 0) (x_move rfl) rfl (Wl_nil (tn ?_)))
  obtain ⟨o139, o139h, o139H⟩ := bindS H
  refine Wp_blockJ (fun ρ w' => ∃ (x138 : Int), (x138) = o139 ∧ Agree ρ [(3, .int .i64 x138)] ∧ Ext w w' ∧ St w' M F [B83 bo0 a0 A0_8 A0_9 A0_10 c0_10 A0_11, MapC enc_model_name (Value.int .i64) A0_8 a0.names, MapC (Value.int .i64) (Value.int .i64) A0_9 a0.many, Row r_model_tx 109 (.slice A0_10 a0.txs.length c0_10) a0.txs, MapC encS (fun v : Value => v) A0_11 vs0_11]) ?_ ?_
  · skip
    refine Wp_loop (fun n ρ w' => ∃ (x95 : Int) (x96 : Int), model_Model_Retained_POOOO_l0 a0 t1 n x95 x96 = some o139 ∧ Agree ρ [(0, pt bo0 0), (3, .int .i64 x95), (7, .slice A3 t1.length c4), (8, .int .i64 (t1.length : Int)), (9, .int .i64 x96)] ∧ Ext w w' ∧ St w' M F [Row rStr 9 (.slice A3 t1.length c4) t1, B83 bo0 a0 A0_8 A0_9 A0_10 c0_10 A0_11, MapC enc_model_name (Value.int .i64) A0_8 a0.names, MapC (Value.int .i64) (Value.int .i64) A0_9 a0.many, Row r_model_tx 109 (.slice A0_10 a0.txs.length c0_10) a0.txs, MapC encS (fun v : Value => v) A0_11 vs0_11]) k ?_ ?_
    · skip
      exact ⟨(0 : Int), (0 : Int), o139h, ⟨rfl, rfl, rfl, rfl, rfl, trivial⟩, E, S.pick [0, 1, 2, 3, 4, 5] (by decide)⟩
    · intro n
      rintro ρ w140 ⟨x95, x96, H, hρ, E, S⟩
      rw [agree_eta hρ]
      cases n with
      | zero => cases H
      | succ k =>
        rw [model_Model_Retained_POOOO_l0.eq_2] at H
        refine Wp_seq (Wp_region_lit (W_v (.bool (decide (x96 < (t1.length : Int)))) (x_ibin rfl rfl rfl rfl) rfl (Wl_nil (tn (Wp_seq ?_)))))
        rcases iteS H with ⟨hb141, H⟩ | ⟨hb141, H⟩
        · refine Wp_cond_true (congrArg Value.bool hb141) ?_
          refine Wp_skip (tn (Wp_seq ?_))
          refine Wp_block ?_
          refine Wp_seq (Wp_region_lit ?_)
          obtain ⟨⟨p142, p143⟩, H⟩ := chkS H
          obtain ⟨b144, o145, cs146, _, _, ee151, hb147, vs148, hR149, hc150⟩ := SlW.at' (S.row_read 0 rfl) p142 p143
          obtain rfl : vs148 = _ := hR149
          refine W_v (.pointer (some ⟨b144, o145 + x96.toNat * 1, none⟩)) (x_indexAddr Tryd.underlying58 ty9 (slA ee151) rfl p142 p143) rfl (W_v (.string (bs (rd t1 x96))) (x_load (Hp.of_get hb147) ty9 rfl (hc150 0 _ rfl)) rfl (W_v (.string (bs (rd t1 x96))) (x_assign rfl) rfl (Wl_nil (tn ?_))))
          refine Wp_region_any (S := fun w' => ∃ Mx, M.le Mx ∧ St w' Mx F [Row rStr 9 (.slice A3 t1.length c4) t1, B83 bo0 a0 A0_8 A0_9 A0_10 c0_10 A0_11, MapC enc_model_name (Value.int .i64) A0_8 a0.names, MapC (Value.int .i64) (Value.int .i64) A0_9 a0.many, Row r_model_tx 109 (.slice A0_10 a0.txs.length c0_10) a0.txs, MapC encS (fun v : Value => v) A0_11 vs0_11]) (L := 21) mixed ?_
          intro w166 hw167 E'
          replace S := S.heap hw167
          replace E := E.trans E'
          have D1 : ∃ Mx, Hp.le M Mx ∧ St _ Mx F [_, _, _, _, _, _] := ⟨_, Hp.le_refl _, S.pick [0, 1, 2, 3, 4, 5] (by decide)⟩
          refine Wa_take (i := 0) rfl (by kernel_rfl) rfl rfl (.int .i64 x95) rfl (fun w' h' => x_move rfl) D1 (Wa_take (i := 1) rfl (by kernel_rfl) rfl rfl (pt bo0 0) rfl (fun w' h' => x_move rfl) D1 (Wa_take (i := 2) rfl (by kernel_rfl) rfl rfl (pt bo0 0) rfl (fun w' h' => x_nilptr rfl) D1 (Wa_take (i := 3) rfl (by kernel_rfl) rfl rfl (pt bo0 11) rfl (fun w' h' => x_fieldAddr (o := 0) (off := 11) Tryd.underlying83 rfl ty81 rfl rfl) D1 (Wa_take (i := 4) rfl (by kernel_rfl) rfl rfl (.map (mb A0_11)) rfl (fun w' h' => x_load (cls_blk h' 1 rfl) ty81 rfl rfl) D1 (Wa_take (i := 5) rfl (by kernel_rfl) rfl rfl (.string (bs (rd t1 x96))) rfl (fun w' h' => x_move rfl) D1 ?_)))))
          obtain ⟨cs168, hR169, he170⟩ := hm0_11.get (rd t1 x96) (z := (⟨[], ⟨0, 0, false, []⟩⟩ : model_row)) (zc := [.slice none 0 0, .int .i64 0, .int .i64 0, .bool false, .string (bs ([] : Str))]) ⟨_, SlW.nil _ _, rfl⟩
          obtain ⟨v174, hs173, rfl⟩ := hR169
          obtain ⟨A171, c172, rfl, _⟩ := hs173.form
          refine Wa_take (i := 6) rfl (by kernel_rfl) rfl rfl (.agg #[.slice A171 (((mget a0.rows (rd t1 x96)).getD (⟨[], ⟨0, 0, false, []⟩⟩ : model_row)).l).length c172, .int .i64 (((mget a0.rows (rd t1 x96)).getD (⟨[], ⟨0, 0, false, []⟩⟩ : model_row)).intent.Writer), .int .i64 (((mget a0.rows (rd t1 x96)).getD (⟨[], ⟨0, 0, false, []⟩⟩ : model_row)).intent.TS), .bool (((mget a0.rows (rd t1 x96)).getD (⟨[], ⟨0, 0, false, []⟩⟩ : model_row)).intent.Tomb), .string (bs (((mget a0.rows (rd t1 x96)).getD (⟨[], ⟨0, 0, false, []⟩⟩ : model_row)).intent.Value))]) rfl (fun w' h' => Exists.elim h' fun Mx h9 => (Eq.trans (x_lookup h9.2 5 rfl Tryd.underlying81 key9 (Value.agg #[.slice none 0 0, .int .i64 0, .int .i64 0, .bool false, .string (bs ([] : Str))]) (fun _ => ty77.zero) (rd t1 x96) rfl rfl) (by rw [show (mget vs0_11 (rd t1 x96)).getD (Value.agg #[.slice none 0 0, .int .i64 0, .int .i64 0, .bool false, .string (bs ([] : Str))]) = _ from he170]))) D1 (Wa_take (i := 7) rfl (by kernel_rfl) rfl rfl (.slice A171 (((mget a0.rows (rd t1 x96)).getD (⟨[], ⟨0, 0, false, []⟩⟩ : model_row)).l).length c172) rfl (fun w' h' => x_field Tryd.underlying77 rfl rfl ty73 rfl) D1 (Wa_take (i := 8) rfl (by kernel_rfl) rfl rfl (.int .i64 ((((mget a0.rows (rd t1 x96)).getD (⟨[], ⟨0, 0, false, []⟩⟩ : model_row)).l).length : Int)) rfl (fun w' h' => x_len_slice (n := (((mget a0.rows (rd t1 x96)).getD (⟨[], ⟨0, 0, false, []⟩⟩ : model_row)).l).length) Tryd.underlying73 rfl) D1 (Wa_take (i := 9) rfl (by kernel_rfl) rfl rfl (pt bo0 0) rfl (fun w' h' => x_move rfl) D1 (Wa_take (i := 10) rfl (by kernel_rfl) rfl rfl (pt bo0 0) rfl (fun w' h' => x_nilptr rfl) D1 (Wa_take (i := 11) rfl (by kernel_rfl) rfl rfl (pt bo0 11) rfl (fun w' h' => x_fieldAddr (o := 0) (off := 11) Tryd.underlying83 rfl ty81 rfl rfl) D1 (Wa_take (i := 12) rfl (by kernel_rfl) rfl rfl (.map (mb A0_11)) rfl (fun w' h' => x_load (cls_blk h' 1 rfl) ty81 rfl rfl) D1 (Wa_take (i := 13) rfl (by kernel_rfl) rfl rfl (.string (bs (rd t1 x96))) rfl (fun w' h' => x_move rfl) D1 ?_)))))))
          obtain ⟨cs175, hR176, he177⟩ := hm0_11.get (rd t1 x96) (z := (⟨[], ⟨0, 0, false, []⟩⟩ : model_row)) (zc := [.slice none 0 0, .int .i64 0, .int .i64 0, .bool false, .string (bs ([] : Str))]) ⟨_, SlW.nil _ _, rfl⟩
          obtain ⟨v181, hs180, rfl⟩ := hR176
          obtain ⟨A178, c179, rfl, _⟩ := hs180.form
          refine Wa_take (i := 14) rfl (by kernel_rfl) rfl rfl (.agg #[.slice A178 (((mget a0.rows (rd t1 x96)).getD (⟨[], ⟨0, 0, false, []⟩⟩ : model_row)).l).length c179, .int .i64 (((mget a0.rows (rd t1 x96)).getD (⟨[], ⟨0, 0, false, []⟩⟩ : model_row)).intent.Writer), .int .i64 (((mget a0.rows (rd t1 x96)).getD (⟨[], ⟨0, 0, false, []⟩⟩ : model_row)).intent.TS), .bool (((mget a0.rows (rd t1 x96)).getD (⟨[], ⟨0, 0, false, []⟩⟩ : model_row)).intent.Tomb), .string (bs (((mget a0.rows (rd t1 x96)).getD (⟨[], ⟨0, 0, false, []⟩⟩ : model_row)).intent.Value))]) rfl (fun w' h' => Exists.elim h' fun Mx h9 => (Eq.trans (x_lookup h9.2 5 rfl Tryd.underlying81 key9 (Value.agg #[.slice none 0 0, .int .i64 0, .int .i64 0, .bool false, .string (bs ([] : Str))]) (fun _ => ty77.zero) (rd t1 x96) rfl rfl) (by rw [show (mget vs0_11 (rd t1 x96)).getD (Value.agg #[.slice none 0 0, .int .i64 0, .int .i64 0, .bool false, .string (bs ([] : Str))]) = _ from he177]))) D1 (Wa_take (i := 15) rfl (by kernel_rfl) rfl rfl (.agg #[.int .i64 (((mget a0.rows (rd t1 x96)).getD (⟨[], ⟨0, 0, false, []⟩⟩ : model_row)).intent.Writer), .int .i64 (((mget a0.rows (rd t1 x96)).getD (⟨[], ⟨0, 0, false, []⟩⟩ : model_row)).intent.TS), .bool (((mget a0.rows (rd t1 x96)).getD (⟨[], ⟨0, 0, false, []⟩⟩ : model_row)).intent.Tomb), .string (bs (((mget a0.rows (rd t1 x96)).getD (⟨[], ⟨0, 0, false, []⟩⟩ : model_row)).intent.Value))]) rfl (fun w' h' => x_fieldAgg Tryd.underlying77 rfl rfl ty75 rfl) D1 (Wa_take (i := 16) rfl (by kernel_rfl) rfl rfl (.int .i64 (((mget a0.rows (rd t1 x96)).getD (⟨[], ⟨0, 0, false, []⟩⟩ : model_row)).intent.Writer)) rfl (fun w' h' => x_field Tryd.underlying75 rfl rfl ty3 rfl) D1 (Wa_take (i := 17) rfl (by kernel_rfl) rfl rfl (.int .i64 (imin (1 : Int) (((mget a0.rows (rd t1 x96)).getD (⟨[], ⟨0, 0, false, []⟩⟩ : model_row)).intent.Writer))) rfl (fun w' h' => x_min2 rfl rfl) D1 (Wa_take (i := 18) rfl (by kernel_rfl) rfl rfl (.int .i64 (IntKind.i64.wrap (((((mget a0.rows (rd t1 x96)).getD (⟨[], ⟨0, 0, false, []⟩⟩ : model_row)).l).length : Int) + (imin (1 : Int) (((mget a0.rows (rd t1 x96)).getD (⟨[], ⟨0, 0, false, []⟩⟩ : model_row)).intent.Writer))))) rfl (fun w' h' => x_ibin rfl rfl rfl rfl) D1 (Wa_take (i := 19) rfl (by kernel_rfl) rfl rfl (.int .i64 (IntKind.i64.wrap (x95 + (IntKind.i64.wrap (((((mget a0.rows (rd t1 x96)).getD (⟨[], ⟨0, 0, false, []⟩⟩ : model_row)).l).length : Int) + (imin (1 : Int) (((mget a0.rows (rd t1 x96)).getD (⟨[], ⟨0, 0, false, []⟩⟩ : model_row)).intent.Writer))))))) rfl (fun w' h' => x_ibin rfl rfl rfl rfl) D1 (Wa_take (i := 20) rfl (by kernel_rfl) rfl rfl (.int .i64 (IntKind.i64.wrap (x95 + (IntKind.i64.wrap (((((mget a0.rows (rd t1 x96)).getD (⟨[], ⟨0, 0, false, []⟩⟩ : model_row)).l).length : Int) + (imin (1 : Int) (((mget a0.rows (rd t1 x96)).getD (⟨[], ⟨0, 0, false, []⟩⟩ : model_row)).intent.Writer))))))) rfl (fun w' h' => x_assign rfl) D1 ?_))))))
          refine Wa_done (by kernel_rfl) ?_
          refine bn (tn (Wp_region_lit (W_v (.int .i64 (IntKind.i64.wrap (x96 + (1 : Int)))) (x_ibin rfl rfl rfl rfl) rfl (W_v (.int .i64 (IntKind.i64.wrap (x96 + (1 : Int)))) (x_move rfl) rfl (Wl_nil (tn ?_))))))
          exact ⟨k, Nat.lt_succ_self k, ⟨(IntKind.i64.wrap (x95 + (IntKind.i64.wrap (((((mget a0.rows (rd t1 x96)).getD (⟨[], ⟨0, 0, false, []⟩⟩ : model_row)).l).length : Int) + (imin (1 : Int) (((mget a0.rows (rd t1 x96)).getD (⟨[], ⟨0, 0, false, []⟩⟩ : model_row)).intent.Writer)))))), (IntKind.i64.wrap (x96 + (1 : Int))), H, ⟨rfl, rfl, rfl, rfl, rfl, trivial⟩, E, S.pick [0, 1, 2, 3, 4, 5] (by decide)⟩⟩
        refine Wp_cond_false (congrArg Value.bool hb141) ?_
        refine Wp_exit ?_
        refine tx (tx (bsm (?_)))
        refine tn ?_
        exact ⟨x95, Option.some.inj H, ⟨rfl, trivial⟩, E, S.pick [1, 2, 3, 4, 5] (by decide)⟩
  rintro ρ w182 ⟨x138, rfl, hρ, E, S⟩
  rw [agree_eta hρ]
  have H := o139H
  refine tn ?_
  as_aux_lemma =>
  refine Wp_seq (Wp_region_lit (W_v (.int .i64 x138) (x_move rfl) rfl (W_v (.int .i64 x138) (x_assign rfl) rfl (Wl_nil (tn ?_)))))
  refine Wp_ret ?_
  obtain rfl := Option.some.inj H
  exact ⟨_, _, _, fun w1 e1 => run_resR (vs := [.int .i64 x138]) (FA.cons (rfl) (FA.nil)), HM, E, S.pick [0, 1, 2, 3, 4] (by decide), ⟨rfl, rfl⟩⟩
def room_Now_1 (k : Nat) (a0 : api_Call) (a1 : Int) (ac_0 : api_Config) : Option (Int × Int) :=
  (Option.bind (α := Bool) (if (a0.Kind == (3 : Int)) = true then some ((a0.Kind == (3 : Int))) else some ((a0.Kind == (4 : Int)))) (fun x6 => (if x6 = true then some ((2 : Int), (1 : Int)) else (if (a0.Kind == (9 : Int)) = true then some ((IntKind.i64.wrap (ac_0.Depth + (1 : Int))), (0 : Int)) else some (a1, a1)))))
set_option maxHeartbeats 2000000 in
theorem room_Now_1.mono {k : Nat} {a0 : api_Call} {a1 : Int} {ac_0 : api_Config} : OLe (room_Now_1 k a0 a1 ac_0) (room_Now_1 (k + 1) a0 a1 ac_0) := by
  unfold room_Now_1
  repeat' (first | with_reducible exact OLe.none | with_reducible exact OLe.some | with_reducible refine OLe.ite ?_ ?_ | with_reducible refine OLe.bind ?_ (fun _ => ?_) | refine OLe.bind ?_ (fun _ => ?_) | refine OLe.ite ?_ ?_ | refine OLe.elim (fun _ => ?_) (fun _ => ?_) | split)
set_option maxHeartbeats 4000000 in
set_option maxRecDepth 100000 in
theorem room_Now_1.con (k : Nat) (M : Hp) (a0 : api_Call) (a1 : Int) (ac_0 : api_Config) (bc_0 : Nat) (r : Int × Int)  (h : room_Now_1 k a0 a1 ac_0 = some r) : Con Tryd.prog 23 #[.agg #[.int .u8 a0.Kind, .int .i64 a0.Tx, .string (bs a0.Key), .string (bs a0.End), .string (bs a0.Value), .int .i64 a0.Limit, .int .u8 a0.Engine], .int .i64 a1, pt bc_0 0] M [B23 bc_0 ac_0] (fun v M' Γ' => v = .tuple #[.int .i64 r.1, .int .i64 r.2] ∧ Γ' = [B23 bc_0 ac_0]) := by
  refine con_of_wp Tryd.func23 rfl Tryd.ntmps23 Tryd.results23 rfl ?_
  intro w F rn S hrn
  have E := Ext.refl w
  have HM := Hp.le_refl M
  have H := h
  unfold room_Now_1 at H
  refine Wp_seq (Wp_region_lit ?_)
  refine W_box S #[.int .u8 a0.Kind, .int .i64 a0.Tx, .string (bs a0.Key), .string (bs a0.End), .string (bs a0.Value), .int .i64 a0.Limit, .int .u8 a0.Engine] rfl rfl rfl ?_
  intro b1 w2 E' S
  replace E := E.trans E'
  refine W_v (.int .i64 0) (x_assign rfl) rfl (W_v (.int .i64 0) (x_assign rfl) rfl (Wl_nil (tn (Wp_seq (Wp_seq (Wp_region_lit (W_v (pt b1 0) (x_fieldAddr (o := 0) (off := 0) Tryd.underlying42 rfl ty5 rfl rfl) rfl (W_v (.int .u8 a0.Kind) (x_load (S.blk 0 rfl) ty5 rfl rfl) rfl (Wl_nil (tn ?_))))))))))
  refine Wp_block ?_
  refine Wp_seq (Wp_seq (Wp_region_lit (W_v (.bool (a0.Kind == (3 : Int))) (x_ibin rfl rfl rfl rfl) rfl (W_v (.bool (a0.Kind == (3 : Int))) (x_assign rfl) rfl (Wl_nil (tn ?_))))))
  obtain ⟨o7, o7h, o7H⟩ := bindS H
  refine Wp_cut (fun ρ w' => ∃ (x6 : Bool), (x6) = o7 ∧ Agree ρ [(1, .int .i64 a1), (2, pt bc_0 0), (8, .int .u8 a0.Kind), (9, .bool x6)] ∧ Ext w w' ∧ St w' M F [B23 bc_0 ac_0]) ?_ ?_
  · clear o7H
    have H := o7h
    rcases iteS H with ⟨hb8, H⟩ | ⟨hb8, H⟩
    · refine Wp_cond_true (congrArg Value.bool hb8) ?_
      refine Wp_skip (tn ?_)
      exact ⟨(a0.Kind == (3 : Int)), Option.some.inj H, ⟨rfl, rfl, rfl, rfl, trivial⟩, E, S.pick [1] (by decide)⟩
    refine Wp_cond_false (congrArg Value.bool hb8) (Wp_region_lit (W_v (.bool (a0.Kind == (4 : Int))) (x_ibin rfl rfl rfl rfl) rfl (W_v (.bool (a0.Kind == (4 : Int))) (x_assign rfl) rfl (Wl_nil (tn ?_)))))
    exact ⟨(a0.Kind == (4 : Int)), Option.some.inj H, ⟨rfl, rfl, rfl, rfl, trivial⟩, E, S.pick [1] (by decide)⟩
  as_aux_lemma =>
  rintro ρ w9 ⟨x6, rfl, hρ, E, S⟩
  rw [agree_eta hρ]
  have H := o7H
  refine tn ?_
  rcases iteS H with ⟨hb10, H⟩ | ⟨hb10, H⟩
  · refine Wp_cond_true (congrArg Value.bool hb10) ?_
    refine Wp_seq (Wp_region_lit (W_v (.int .i64 2) (x_assign rfl) rfl (W_v (.int .i64 1) (x_assign rfl) rfl (Wl_nil (tn ?_)))))
    refine Wp_ret ?_
    refine br (tr (?_))
    obtain rfl := Option.some.inj H
    exact ⟨_, _, _, fun w1 e1 => run_resR (vs := [.int .i64 2, .int .i64 1]) (FA.cons (rfl) (FA.cons (rfl) (FA.nil))), HM, E, S.pick [0] (by decide), ⟨rfl, rfl⟩⟩
  refine Wp_cond_false (congrArg Value.bool hb10) (Wp_seq (Wp_region_lit (W_v (.bool (a0.Kind == (9 : Int))) (x_ibin rfl rfl rfl rfl) rfl (W_v (.bool (a0.Kind == (9 : Int))) (x_assign rfl) rfl (Wl_nil (tn ?_))))))
  rcases iteS H with ⟨hb11, H⟩ | ⟨hb11, H⟩
  · refine Wp_cond_true (congrArg Value.bool hb11) ?_
    refine Wp_seq (Wp_region_lit (W_v (pt bc_0 3) (x_fieldAddr (o := 0) (off := 3) Tryd.underlying23 rfl ty3 rfl rfl) rfl (W_v (.int .i64 ac_0.Depth) (x_load (S.blk 0 rfl) ty3 rfl rfl) rfl (W_v (.int .i64 (IntKind.i64.wrap (ac_0.Depth + (1 : Int)))) (x_ibin rfl rfl rfl rfl) rfl (W_v (.int .i64 (IntKind.i64.wrap (ac_0.Depth + (1 : Int)))) (x_assign rfl) rfl (W_v (.int .i64 0) (x_assign rfl) rfl (Wl_nil (tn ?_))))))))
    refine Wp_ret ?_
    refine br (tr (?_))
    obtain rfl := Option.some.inj H
    exact ⟨_, _, _, fun w1 e1 => run_resR (vs := [.int .i64 (IntKind.i64.wrap (ac_0.Depth + (1 : Int))), .int .i64 0]) (FA.cons (rfl) (FA.cons (rfl) (FA.nil))), HM, E, S.pick [0] (by decide), ⟨rfl, rfl⟩⟩
  refine Wp_cond_false (congrArg Value.bool hb11) (Wp_skip (bn (tn (Wp_seq (Wp_region_lit (W_v (.int .i64 a1) (x_move rfl) rfl (W_v (.int .i64 a1) (x_move rfl) rfl (W_v (.int .i64 a1) (x_assign rfl) rfl (W_v (.int .i64 a1) (x_assign rfl) rfl (Wl_nil (tn ?_)))))))))))
  refine Wp_ret ?_
  obtain rfl := Option.some.inj H
  exact ⟨_, _, _, fun w1 e1 => run_resR (vs := [.int .i64 a1, .int .i64 a1]) (FA.cons (rfl) (FA.cons (rfl) (FA.nil))), HM, E, S.pick [0] (by decide), ⟨rfl, rfl⟩⟩
def room_Now_l0 (a0 : api_Config) (a1 : (List (List api_Call))) (t73 : (List replay_Done)) : Nat → Int → Int → Int → model_Model → Option ((Int × Int))
  | 0, _, _, _, _ => none
  | k + 1, x1207, x1208, x1209, x1210 => (if (decide (x1209 < (t73.length : Int))) = true then (Option.bind (α := Int × Int × model_Model) (if 0 ≤ x1209 ∧ x1209 < (t73.length : Int) then (if 0 ≤ (rd t73 x1209).Task ∧ (rd t73 x1209).Task < (a1.length : Int) then (if 0 ≤ (rd t73 x1209).Call ∧ (rd t73 x1209).Call < ((rd a1 ((rd t73 x1209).Task)).length : Int) then (Option.bind (α := Int) (Option.bind (model_Model_Retained_POOOO k x1210) (fun t2218 => some (t2218))) (fun x2217 => (Option.bind (model_Model_Do_POOOO k x1210 ((rd t73 x1209).Task) (rd (rd a1 ((rd t73 x1209).Task)) ((rd t73 x1209).Call))) (fun t2267 => (Option.bind (model_Model_Retained_POOOO k t2267.2) (fun t2301 => (Option.bind (room_Now_1 k (rd (rd a1 ((rd t73 x1209).Task)) ((rd t73 x1209).Call)) (imax (0 : Int) (IntKind.i64.wrap (x2217 - t2301))) a0) (fun t2306 => (Option.bind (α := Int × Int) (if (decide ((rd t73 x1209).Back < (0 : Int))) = true then some ((IntKind.i64.wrap (x1207 + t2306.1)), (IntKind.i64.wrap (x1208 + t2306.2))) else some (x1207, x1208)) (fun ⟨x2313, x2314⟩ => some (x2313, x2314, t2267.2))))))))))) else none) else none) else none) (fun ⟨x2038, x2039, x2040⟩ => room_Now_l0 a0 a1 t73 k x2038 x2039 (IntKind.i64.wrap (x1209 + (1 : Int))) x2040)) else some (x1207, x1208))
set_option maxHeartbeats 2000000 in
theorem room_Now_l0.mono {a0 : api_Config} {a1 : (List (List api_Call))} {t73 : (List replay_Done)} : ∀ {kl : Nat} {x0 x1 x2 x3}, OLe (room_Now_l0 a0 a1 t73 kl x0 x1 x2 x3) (room_Now_l0 a0 a1 t73 (kl + 1) x0 x1 x2 x3) := by
  intro kl
  induction kl with
  | zero => intros; exact OLe.none
  | succ kl ih =>
    intros
    rw [room_Now_l0.eq_2, room_Now_l0.eq_2]
    repeat' (first | with_reducible exact OLe.none | with_reducible exact OLe.some | with_reducible refine OLe.ite ?_ ?_ | with_reducible refine OLe.bind ?_ (fun _ => ?_) | with_reducible exact model_Model_Do_POOOO.mono | with_reducible exact model_Model_Retained_POOOO.mono | with_reducible exact room_Now_1.mono | exact ih | refine OLe.bind ?_ (fun _ => ?_) | refine OLe.ite ?_ ?_ | refine OLe.elim (fun _ => ?_) (fun _ => ?_) | split)
def room_Now (k : Nat) (a0 : api_Config) (a1 : (List (List api_Call))) (a2 : (List api_Event)) : Option (Int × Int × Int) :=
  (Option.bind (replay_Model_v k a0 a1 a2) (fun t4 => (Sum.elim (fun t6 => some ((0 : Int), (0 : Int), (1 : Int))) (Sum.elim (fun t7 => some ((0 : Int), (0 : Int), (4 : Int))) (fun t8 => (Option.bind (model_Model_Retained_POOOO k t8) (fun t34 => (Option.bind (model_Model_Keys_POOOO k t8) (fun t39 => (Option.bind (model_New_v k a0) (fun t47 => (Sum.elim (fun t49 => some ((0 : Int), (0 : Int), (1 : Int))) (fun t50 => (Option.bind (replay_Answers k a0 a1 a2) (fun t73 => (Option.bind (room_Now_l0 a0 a1 t73 k t34 (t39.length : Int) (0 : Int) t50) (fun ⟨x1770, x1771⟩ => some (x1770, x1771, (0 : Int)))))))) t47))))))))) t4))
set_option maxHeartbeats 2000000 in
theorem room_Now.mono {k : Nat} {a0 : api_Config} {a1 : (List (List api_Call))} {a2 : (List api_Event)} : OLe (room_Now k a0 a1 a2) (room_Now (k + 1) a0 a1 a2) := by
  unfold room_Now
  repeat' (first | with_reducible exact OLe.none | with_reducible exact OLe.some | with_reducible refine OLe.ite ?_ ?_ | with_reducible refine OLe.bind ?_ (fun _ => ?_) | with_reducible exact model_Model_Keys_POOOO.mono | with_reducible exact model_Model_Retained_POOOO.mono | with_reducible exact model_New_v.mono | with_reducible exact replay_Answers.mono | with_reducible exact replay_Model_v.mono | with_reducible exact room_Now_l0.mono | refine OLe.bind ?_ (fun _ => ?_) | refine OLe.ite ?_ ?_ | refine OLe.elim (fun _ => ?_) (fun _ => ?_) | split)
set_option maxHeartbeats 1000000 in
set_option maxRecDepth 100000 in
theorem room_Now.con (k : Nat) (M : Hp) (a0 : api_Config) (A1 : Option Addr) (c1 : Nat) (a1 : (List (List api_Call))) (A2 : Option Addr) (c2 : Nat) (a2 : (List api_Event)) (r : Int × Int × Int) (hr1 : SlR (rSl r_api_Call) M (.slice A1 a1.length c1) a1) (hr2 : SlR r_api_Event M (.slice A2 a2.length c2) a2) (hg0 : ∃ gt fr, M 0 = some (.cells #[.nilFunc, .func (.func 92) #[] #[], .func (.func 93) #[] #[], .func (.func 94) #[] #[], .func (.func 95) #[] #[], .func (.func 96) #[] #[], .func (.func 97) #[] #[], .func (.func 98) #[] #[], .func (.func 99) #[] #[], .func (.func 100) #[] #[]] gt fr)) (hg1 : ∃ gt fr, M 1 = some (.cells #[.nilFunc, .func (.func 114) #[] #[], .func (.func 116) #[] #[], .func (.func 118) #[] #[]] gt fr)) (h : room_Now k a0 a1 a2 = some r) : Con Tryd.prog 13 #[.agg #[.int .i64 a0.Tasks, .int .i64 a0.Active, .int .i64 a0.Keys, .int .i64 a0.Depth, .int .i64 a0.TS, .int .i64 a0.KeyLen, .int .i64 a0.ValLen, .int .i64 a0.Fan], .slice A1 a1.length c1, .slice A2 a2.length c2] M [] (fun v M' Γ' => v = .tuple #[.int .i64 r.1, .int .i64 r.2.1, .int .i64 r.2.2] ∧ Γ' = []) := by
  refine con_of_wp Tryd.func13 rfl Tryd.ntmps13 Tryd.results13 rfl ?_
  intro w F rn S hrn
  have E := Ext.refl w
  have HM := Hp.le_refl M
  have H := h
  unfold room_Now at H
  refine Wp_seq (Wp_region_lit ?_)
  refine W_box S #[.int .i64 a0.Tasks, .int .i64 a0.Active, .int .i64 a0.Keys, .int .i64 a0.Depth, .int .i64 a0.TS, .int .i64 a0.KeyLen, .int .i64 a0.ValLen, .int .i64 a0.Fan] rfl rfl rfl ?_
  intro b1 w2 E' S
  replace E := E.trans E'
  refine W_v (.int .i64 0) (x_assign rfl) rfl (W_v (.int .i64 0) (x_assign rfl) rfl (W_v (.int .i64 0) (x_assign rfl) rfl (Wl_nil (tn (Wp_seq (Wp_region_lit (W_v (.agg #[.int .i64 a0.Tasks, .int .i64 a0.Active, .int .i64 a0.Keys, .int .i64 a0.Depth, .int .i64 a0.TS, .int .i64 a0.KeyLen, .int .i64 a0.ValLen, .int .i64 a0.Fan]) (x_loadA (S.blk 0 rfl) ty23 rfl (sub_of_extract rfl) rfl rfl) rfl (W_v (.slice A1 a1.length c1) (x_move rfl) rfl (W_v (.slice A2 a2.length c2) (x_move rfl) rfl ?_)))))))))
  obtain ⟨t4, ht5, H⟩ := bindS H
  rcases t4 with t6 | t7 | t8
  · skip
    replace H := elimL H
    refine W_callF2 fn18 (replay_Model_v.con k M a0 A1 c1 a1 A2 c2 a2 (Sum.inl t6) hr1 hr2 hg0 hg1 ht5) (Γ1 := []) (Γ2 := [_]) S rfl rfl (by rintro _ _ _ ⟨rfl, rfl⟩; exact flat_nil) ?_
    rintro _ w9 _ Γ' E' S ⟨rfl, rfl⟩
    replace E := E.trans E'
    replace S : St w9 M F [_] := S
    refine W_v (.tuple #[.pointer none, .int .i64 1]) (x_move rfl) rfl (W_v (.pointer none) (x_extract rfl rfl) rfl (W_v (.int .i64 1) (x_extract rfl rfl) rfl (W_v (.pointer none) (x_assign rfl) rfl (W_v (.int .i64 1) (x_assign rfl) rfl (Wl_nil (tn (Wp_seq (Wp_seq (Wp_region_lit (W_v (.int .i64 1) (x_move rfl) rfl (W_v (.bool true) (x_ibin rfl rfl rfl rfl) rfl (Wl_nil (tn (Wp_cond_true rfl (Wp_seq ?_)))))))))))))))
    refine Wp_region_lit (W_v (.int .i64 1) (x_move rfl) rfl (W_v (.int .i64 0) (x_assign rfl) rfl (W_v (.int .i64 0) (x_assign rfl) rfl (W_v (.int .i64 1) (x_assign rfl) rfl (Wl_nil (tn ?_))))))
    refine Wp_ret ?_
    refine tr (?_)
    obtain rfl := Option.some.inj H
    exact ⟨_, _, _, fun w1 e1 => run_resR (vs := [.int .i64 0, .int .i64 0, .int .i64 1]) (FA.cons (rfl) (FA.cons (rfl) (FA.cons (rfl) (FA.nil)))), HM, E, S.pick [] (by decide), ⟨rfl, rfl⟩⟩
  · skip
    replace H := elimR H
    replace H := elimL H
    refine W_callF2 fn18 (replay_Model_v.con k M a0 A1 c1 a1 A2 c2 a2 (Sum.inr (Sum.inl t7)) hr1 hr2 hg0 hg1 ht5) (Γ1 := []) (Γ2 := [_]) S rfl rfl (by rintro _ _ _ ⟨rfl, rfl⟩; exact flat_nil) ?_
    rintro _ w12 _ Γ' E' S ⟨rfl, rfl⟩
    replace E := E.trans E'
    replace S : St w12 M F [_] := S
    refine W_v (.tuple #[.pointer none, .int .i64 4]) (x_move rfl) rfl (W_v (.pointer none) (x_extract rfl rfl) rfl (W_v (.int .i64 4) (x_extract rfl rfl) rfl (W_v (.pointer none) (x_assign rfl) rfl (W_v (.int .i64 4) (x_assign rfl) rfl (Wl_nil (tn (Wp_seq (Wp_seq (Wp_region_lit (W_v (.int .i64 4) (x_move rfl) rfl (W_v (.bool true) (x_ibin rfl rfl rfl rfl) rfl (Wl_nil (tn (Wp_cond_true rfl (Wp_seq ?_)))))))))))))))
    refine Wp_region_lit (W_v (.int .i64 4) (x_move rfl) rfl (W_v (.int .i64 0) (x_assign rfl) rfl (W_v (.int .i64 0) (x_assign rfl) rfl (W_v (.int .i64 4) (x_assign rfl) rfl (Wl_nil (tn ?_))))))
    refine Wp_ret ?_
    refine tr (?_)
    obtain rfl := Option.some.inj H
    exact ⟨_, _, _, fun w1 e1 => run_resR (vs := [.int .i64 0, .int .i64 0, .int .i64 4]) (FA.cons (rfl) (FA.cons (rfl) (FA.cons (rfl) (FA.nil)))), HM, E, S.pick [] (by decide), ⟨rfl, rfl⟩⟩
  · skip
    replace H := elimR H
    replace H := elimR H
    refine W_call fn18 (replay_Model_v.con k M a0 A1 c1 a1 A2 c2 a2 (Sum.inr (Sum.inr t8)) hr1 hr2 hg0 hg1 ht5) (Γ1 := []) (Γ2 := [_]) S rfl rfl ?_
    rintro _ w31 M32 Γ' hM33 E' S ⟨b15, A17, c18, A20, c21, A23, c24, A26, c27, vs29, rfl, hm30, rfl⟩
    replace hg0 : ∃ gt fr, _ := (let ⟨gt, fr, h8⟩ := hg0; ⟨gt, fr, hM33 _ _ h8⟩)
    replace hg1 : ∃ gt fr, _ := (let ⟨gt, fr, h8⟩ := hg1; ⟨gt, fr, hM33 _ _ h8⟩)
    replace HM := Hp.le_trans HM hM33
    replace hr1 := SlR.mono hr1 hM33
    replace hr2 := SlR.mono hr2 hM33
    replace E := E.trans E'
    replace S : St w31 M32 F [_, _, _, _, _, _] := S
    refine W_v (.tuple #[pt b15 0, .int .i64 0]) (x_move rfl) rfl (W_v (pt b15 0) (x_extract rfl rfl) rfl (W_v (.int .i64 0) (x_extract rfl rfl) rfl (W_v (pt b15 0) (x_assign rfl) rfl (W_v (.int .i64 0) (x_assign rfl) rfl (Wl_nil (tn (Wp_seq (Wp_seq (Wp_region_lit (W_v (.int .i64 0) (x_move rfl) rfl (W_v (.bool false) (x_ibin rfl rfl rfl rfl) rfl (Wl_nil (tn (Wp_cond_false rfl (Wp_skip ?_)))))))))))))))
    refine tn (Wp_seq (Wp_region_lit (W_v (pt b15 0) (x_move rfl) rfl ?_)))
    obtain ⟨t34, ht35, H⟩ := bindS H
    refine W_callF2 fn19 (model_Model_Retained_POOOO.con k M32 A17 c18 A20 c21 A23 c24 A26 c27 vs29 t8 b15 t34 hm30 ht35) (Γ1 := [_, _, _, _, _]) (Γ2 := [_]) S rfl rfl (by rintro _ _ _ ⟨rfl, rfl⟩; exact (flat_cons flat_blk (flat_cons flat_map (flat_cons flat_map (flat_cons (flat_row (fun _ _ _ _ h => h)) (flat_cons flat_map flat_nil)))))) ?_
    rintro _ w36 _ Γ' E' S ⟨rfl, rfl⟩
    replace E := E.trans E'
    replace S : St w36 M32 F [_, _, _, _, _, _] := S
    refine W_v (pt b15 0) (x_move rfl) rfl ?_
    obtain ⟨t39, ht40, H⟩ := bindS H
    refine W_callF2 fn20 (model_Model_Keys_POOOO.con k M32 A17 c18 A20 c21 A23 c24 A26 c27 vs29 t8 b15 t39 hm30 ht40) (Γ1 := [_, _, _, _, _]) (Γ2 := [_]) S rfl rfl (by rintro _ _ _ ⟨_, _, rfl, rfl⟩; exact (flat_cons (flat_row (fun _ _ _ _ h => h)) (flat_cons flat_blk (flat_cons flat_map (flat_cons flat_map (flat_cons (flat_row (fun _ _ _ _ h => h)) (flat_cons flat_map flat_nil))))))) ?_
    rintro _ w44 _ Γ' E' S ⟨A41, c42, rfl, rfl⟩
    replace E := E.trans E'
    replace S : St w44 M32 F [_, _, _, _, _, _, _] := S
    refine W_v (.int .i64 (t39.length : Int)) (x_len_slice (n := t39.length) Tryd.underlying58 rfl) rfl (W_v (.int .i64 t34) (x_assign rfl) rfl (W_v (.int .i64 (t39.length : Int)) (x_assign rfl) rfl (Wl_nil (tn (Wp_seq (Wp_region_lit (W_v (.agg #[.int .i64 a0.Tasks, .int .i64 a0.Active, .int .i64 a0.Keys, .int .i64 a0.Depth, .int .i64 a0.TS, .int .i64 a0.KeyLen, .int .i64 a0.ValLen, .int .i64 a0.Fan]) (x_loadA (S.blk 6 rfl) ty23 rfl (sub_of_extract rfl) rfl rfl) rfl ?_)))))))
    obtain ⟨t47, ht48, H⟩ := bindS H
    rcases t47 with t49 | t50
    · skip
      replace H := elimL H
      refine W_callF2 fn22 (model_New_v.con k M32 a0 (Sum.inl t49)  ht48) (Γ1 := []) (Γ2 := [_, _, _, _, _, _, _]) S rfl rfl (by rintro _ _ _ ⟨rfl, rfl⟩; exact flat_nil) ?_
      rintro _ w51 _ Γ' E' S ⟨rfl, rfl⟩
      replace E := E.trans E'
      replace S : St w51 M32 F [_, _, _, _, _, _, _] := S
      refine W_v (.tuple #[.pointer none, .int .i64 1]) (x_move rfl) rfl (W_v (.pointer none) (x_extract rfl rfl) rfl (W_v (.int .i64 1) (x_extract rfl rfl) rfl (W_v (.pointer none) (x_assign rfl) rfl (W_v (.int .i64 1) (x_assign rfl) rfl (Wl_nil (tn (Wp_seq (Wp_seq (Wp_region_lit (W_v (.int .i64 1) (x_move rfl) rfl (W_v (.bool true) (x_ibin rfl rfl rfl rfl) rfl (Wl_nil (tn (Wp_cond_true rfl (Wp_seq ?_)))))))))))))))
      refine Wp_region_lit (W_v (.int .i64 1) (x_move rfl) rfl (W_v (.int .i64 0) (x_assign rfl) rfl (W_v (.int .i64 0) (x_assign rfl) rfl (W_v (.int .i64 1) (x_assign rfl) rfl (Wl_nil (tn ?_))))))
      refine Wp_ret ?_
      refine tr (?_)
      obtain rfl := Option.some.inj H
      exact ⟨_, _, _, fun w1 e1 => run_resR (vs := [.int .i64 0, .int .i64 0, .int .i64 1]) (FA.cons (rfl) (FA.cons (rfl) (FA.cons (rfl) (FA.nil)))), HM, E, S.pick [] (by decide), ⟨rfl, rfl⟩⟩
    · skip
      replace H := elimR H
      refine W_call fn22 (model_New_v.con k M32 a0 (Sum.inr t50)  ht48) (Γ1 := []) (Γ2 := [_, _, _, _, _, _, _]) S rfl rfl ?_
      rintro _ w70 M71 Γ' hM72 E' S ⟨b54, A56, c57, A59, c60, A62, c63, A65, c66, vs68, rfl, hm69, rfl⟩
      replace hg0 : ∃ gt fr, _ := (let ⟨gt, fr, h8⟩ := hg0; ⟨gt, fr, hM72 _ _ h8⟩)
      replace hg1 : ∃ gt fr, _ := (let ⟨gt, fr, h8⟩ := hg1; ⟨gt, fr, hM72 _ _ h8⟩)
      replace HM := Hp.le_trans HM hM72
      replace hr1 := SlR.mono hr1 hM72
      replace hr2 := SlR.mono hr2 hM72
      replace hm30 := MRel.mono hm30 hM72
      replace E := E.trans E'
      replace S : St w70 M71 F [_, _, _, _, _, _, _, _, _, _, _, _] := S
      refine W_v (.tuple #[pt b54 0, .int .i64 0]) (x_move rfl) rfl (W_v (pt b54 0) (x_extract rfl rfl) rfl (W_v (.int .i64 0) (x_extract rfl rfl) rfl (W_v (pt b54 0) (x_assign rfl) rfl (W_v (.int .i64 0) (x_assign rfl) rfl (Wl_nil (tn (Wp_seq (Wp_seq (Wp_region_lit (W_v (.int .i64 0) (x_move rfl) rfl (W_v (.bool false) (x_ibin rfl rfl rfl rfl) rfl (Wl_nil (tn (Wp_cond_false rfl (Wp_skip ?_)))))))))))))))
      refine tn (Wp_seq (Wp_region_lit (W_v (.func (.func 23) #[] #[pt b1 0]) (x_makeFunc rfl) rfl (W_v (.func (.func 23) #[] #[pt b1 0]) (x_assign rfl) rfl (Wl_nil (tn (Wp_seq (Wp_seq (Wp_region_lit (W_v (.agg #[.int .i64 a0.Tasks, .int .i64 a0.Active, .int .i64 a0.Keys, .int .i64 a0.Depth, .int .i64 a0.TS, .int .i64 a0.KeyLen, .int .i64 a0.ValLen, .int .i64 a0.Fan]) (x_loadA (S.blk 11 rfl) ty23 rfl (sub_of_extract rfl) rfl rfl) rfl (W_v (.slice A1 a1.length c1) (x_move rfl) rfl (W_v (.slice A2 a2.length c2) (x_move rfl) rfl ?_))))))))))))
      obtain ⟨t73, ht74, H⟩ := bindS H
      refine W_call fn17 (replay_Answers.con k M71 a0 A1 c1 a1 A2 c2 a2 t73 hr1 hr2 hg0 hg1 ht74) (Γ1 := []) (Γ2 := [_, _, _, _, _, _, _, _, _, _, _, _]) S rfl rfl ?_
      rintro _ w78 M79 Γ' hM80 E' S ⟨A75, c76, rfl, rfl⟩
      replace hg0 : ∃ gt fr, _ := (let ⟨gt, fr, h8⟩ := hg0; ⟨gt, fr, hM80 _ _ h8⟩)
      replace hg1 : ∃ gt fr, _ := (let ⟨gt, fr, h8⟩ := hg1; ⟨gt, fr, hM80 _ _ h8⟩)
      replace HM := Hp.le_trans HM hM80
      replace hr1 := SlR.mono hr1 hM80
      replace hr2 := SlR.mono hr2 hM80
      replace hm30 := MRel.mono hm30 hM80
      replace hm69 := MRel.mono hm69 hM80
      replace E := E.trans E'
      refine W_v (.int .i64 (t73.length : Int)) (x_len_slice (n := t73.length) Tryd.underlying50 rfl) rfl (W_v (.int .i64 0) (x_move rfl) rfl (Wl_nil (tn ?_)))
      obtain ⟨o1772, o1772h, o1772H⟩ := bindS H
      refine Wp_blockJ (fun ρ w' => ∃ (x1770 : Int) (x1771 : Int) (Mj : Hp), (x1770, x1771) = o1772 ∧ Agree ρ [(6, .int .i64 x1770), (7, .int .i64 x1771)] ∧ M79.le Mj ∧ Ext w w' ∧ St w' Mj F []) ?_ ?_
      · skip
        refine Wp_loop (fun n ρ w' => ∃ (x1207 : Int) (x1208 : Int) (x1209 : Int) (x1210 : model_Model) (A1211 : Option Addr) (c1212 : Nat) (A1214 : Option Addr) (c1215 : Nat) (A1217 : Option Addr) (c1218 : Nat) (A1220 : Option Addr) (c1221 : Nat) (vs1223 : List (Str × Value)) (Mj : Hp), room_Now_l0 a0 a1 t73 n x1207 x1208 x1209 x1210 = some o1772 ∧ Agree ρ [(1, .slice A1 a1.length c1), (6, .int .i64 x1207), (7, .int .i64 x1208), (10, pt b54 0), (11, .func (.func 23) #[] #[pt b1 0]), (45, .slice A75 t73.length c76), (46, .int .i64 (t73.length : Int)), (47, .int .i64 x1209)] ∧ M79.le Mj ∧ Ext w w' ∧ St w' Mj F [MapC encS (fun v : Value => v) A1220 vs1223, Row r_model_tx 109 (.slice A1217 x1210.txs.length c1218) x1210.txs, MapC (Value.int .i64) (Value.int .i64) A1214 x1210.many, MapC enc_model_name (Value.int .i64) A1211 x1210.names, Row r_replay_Done 53 (.slice A75 t73.length c76) t73, B83 b54 x1210 A1211 A1214 A1217 c1218 A1220, B23 b1 a0] ∧ MRel r_model_row Mj x1210.rows vs1223) k ?_ ?_
        · skip
          exact ⟨t34, (t39.length : Int), (0 : Int), t50, A56, c57, A59, c60, A62, c63, A65, c66, vs68, M79, o1772h, ⟨rfl, rfl, rfl, rfl, rfl, rfl, rfl, rfl, trivial⟩, (Hp.le_refl M79), E, S.pick [5, 4, 3, 2, 0, 1, 12] (by decide), hm69⟩
        · intro n
          rintro ρ w1773 ⟨x1207, x1208, x1209, x1210, A1211, c1212, A1214, c1215, A1217, c1218, A1220, c1221, vs1223, M1774, H, hρ, hM1775, E, S, hm1224⟩
          rw [agree_eta hρ]
          replace hg0 : ∃ gt fr, _ := (let ⟨gt, fr, h8⟩ := hg0; ⟨gt, fr, hM1775 _ _ h8⟩)
          replace hg1 : ∃ gt fr, _ := (let ⟨gt, fr, h8⟩ := hg1; ⟨gt, fr, hM1775 _ _ h8⟩)
          replace HM := Hp.le_trans HM hM1775
          replace hr1 := SlR.mono hr1 hM1775
          replace hr2 := SlR.mono hr2 hM1775
          replace hm30 := MRel.mono hm30 hM1775
          replace hm69 := MRel.mono hm69 hM1775
          cases n with
          | zero => cases H
          | succ k =>
            rw [room_Now_l0.eq_2] at H
            refine Wp_seq (Wp_region_lit (W_v (.bool (decide (x1209 < (t73.length : Int)))) (x_ibin rfl rfl rfl rfl) rfl (Wl_nil (tn (Wp_seq ?_)))))
            rcases iteS H with ⟨hb1776, H⟩ | ⟨hb1776, H⟩
            · refine Wp_cond_true (congrArg Value.bool hb1776) ?_
              refine Wp_skip (tn (Wp_seq ?_))
              obtain ⟨o2055, o2055h, o2055H⟩ := bindS H
              refine Wp_cut (fun ρ w' => ∃ (x2038 : Int) (x2039 : Int) (x2040 : model_Model) (A2041 : Option Addr) (c2042 : Nat) (A2044 : Option Addr) (c2045 : Nat) (A2047 : Option Addr) (c2048 : Nat) (A2050 : Option Addr) (c2051 : Nat) (vs2053 : List (Str × Value)) (Mj : Hp), (x2038, x2039, x2040) = o2055 ∧ Agree ρ [(1, .slice A1 a1.length c1), (6, .int .i64 x2038), (7, .int .i64 x2039), (10, pt b54 0), (11, .func (.func 23) #[] #[pt b1 0]), (45, .slice A75 t73.length c76), (46, .int .i64 (t73.length : Int)), (47, .int .i64 x1209)] ∧ M1774.le Mj ∧ Ext w w' ∧ St w' Mj F [MapC encS (fun v : Value => v) A2050 vs2053, Row r_model_tx 109 (.slice A2047 x2040.txs.length c2048) x2040.txs, MapC (Value.int .i64) (Value.int .i64) A2044 x2040.many, MapC enc_model_name (Value.int .i64) A2041 x2040.names, B23 b1 a0, B83 b54 x2040 A2041 A2044 A2047 c2048 A2050, Row r_replay_Done 53 (.slice A75 t73.length c76) t73] ∧ MRel r_model_row Mj x2040.rows vs2053) ?_ ?_
              · as_aux_lemma =>
                  clear o2055H
                  have H := o2055h
                  have LE2056 := Hp.le_refl M1774
                  refine Wp_block ?_
                  refine Wp_seq (Wp_region_lit ?_)
                  obtain ⟨⟨p2057, p2058⟩, H⟩ := chkS H
                  obtain ⟨b2059, o2060, cs2061, _, _, ee2066, hb2062, vs2063, hR2064, hc2065⟩ := SlW.at' (S.row_read 4 rfl) p2057 p2058
                  obtain ⟨v2070, hs2069, rfl⟩ := hR2064
                  obtain ⟨A2067, c2068, rfl, _⟩ := hs2069.form
                  refine W_v (.pointer (some ⟨b2059, o2060 + x1209.toNat * 8, none⟩)) (x_indexAddr Tryd.underlying50 ty53 (slA ee2066) rfl p2057 p2058) rfl (W_v (.agg #[.int .i64 ((rd t73 x1209).Task), .int .i64 ((rd t73 x1209).Call), .int .i64 ((rd t73 x1209).Answer.Err), .bool ((rd t73 x1209).Answer.Found), .string (bs ((rd t73 x1209).Answer.Value)), .slice A2067 ((rd t73 x1209).Answer.Pairs).length c2068, .int .i64 ((rd t73 x1209).Mark), .int .i64 ((rd t73 x1209).Back)]) (x_loadA (Hp.of_get hb2062) ty53 rfl (sub_el hc2065 0 rfl) rfl rfl) rfl ?_)
                  refine W_alloc S #[.int .i64 0, .int .i64 0, .int .i64 0, .bool false, .string (bs ([] : Str)), .slice none 0 0, .int .i64 0, .int .i64 0] ty53 rfl rfl ?_
                  intro b2071 w2072 E' S
                  replace E := E.trans E'
                  refine W_store S 0 rfl ty53 rfl rfl [.int .i64 ((rd t73 x1209).Task), .int .i64 ((rd t73 x1209).Call), .int .i64 ((rd t73 x1209).Answer.Err), .bool ((rd t73 x1209).Answer.Found), .string (bs ((rd t73 x1209).Answer.Value)), .slice A2067 ((rd t73 x1209).Answer.Pairs).length c2068, .int .i64 ((rd t73 x1209).Mark), .int .i64 ((rd t73 x1209).Back)] rfl rfl rfl #[.int .i64 ((rd t73 x1209).Task), .int .i64 ((rd t73 x1209).Call), .int .i64 ((rd t73 x1209).Answer.Err), .bool ((rd t73 x1209).Answer.Found), .string (bs ((rd t73 x1209).Answer.Value)), .slice A2067 ((rd t73 x1209).Answer.Pairs).length c2068, .int .i64 ((rd t73 x1209).Mark), .int .i64 ((rd t73 x1209).Back)] (by as_aux_lemma => kernel_rfl) rfl ?_
                  intro w2074 E' S
                  replace E := E.trans E'
                  refine Wl_nil (tn (Wp_seq ?_))
                  refine Wp_region_any (S := fun w' => ∃ Mx, M1774.le Mx ∧ St w' Mx F [B53 b2071 (rd t73 x1209) A2067 c2068, MapC encS (fun v : Value => v) A1220 vs1223, Row r_model_tx 109 (.slice A1217 x1210.txs.length c1218) x1210.txs, MapC (Value.int .i64) (Value.int .i64) A1214 x1210.many, MapC enc_model_name (Value.int .i64) A1211 x1210.names, Row r_replay_Done 53 (.slice A75 t73.length c76) t73, B83 b54 x1210 A1211 A1214 A1217 c1218 A1220, B23 b1 a0]) (L := 12) mixed ?_
                  intro w2170 hw2171 E'
                  replace S := S.heap hw2171
                  replace E := E.trans E'
                  have D1 : ∃ Mx, Hp.le M1774 Mx ∧ St _ Mx F [_, _, _, _, _, _, _, _] := ⟨_, Hp.le_refl _, S.pick [0, 1, 2, 3, 4, 5, 6, 7] (by decide)⟩
                  refine Wa_take (i := 0) rfl (by kernel_rfl) rfl rfl (.slice A1 a1.length c1) rfl (fun w' h' => x_move rfl) D1 (Wa_take (i := 1) rfl (by kernel_rfl) rfl rfl (pt b2071 0) rfl (fun w' h' => x_fieldAddr (o := 0) (off := 0) Tryd.underlying53 rfl ty3 rfl rfl) D1 (Wa_take (i := 2) rfl (by kernel_rfl) rfl rfl (.int .i64 ((rd t73 x1209).Task)) rfl (fun w' h' => x_load (cls_blk h' 0 rfl) ty3 rfl rfl) D1 ?_))
                  obtain ⟨⟨p2172, p2173⟩, H⟩ := chkS H
                  obtain ⟨b2174, o2175, cs2176, _, _, ee2181, hb2177, vs2178, hR2179, hc2180⟩ := SlW.at' hr1 p2172 p2173
                  obtain ⟨v2185, hs2184, rfl⟩ := hR2179
                  obtain ⟨A2182, c2183, rfl, _⟩ := hs2184.form
                  have hs2184z := hs2184
                  refine Wa_take (i := 3) rfl (by kernel_rfl) rfl rfl (.pointer (some ⟨b2174, o2175 + ((rd t73 x1209).Task).toNat * 1, none⟩)) rfl (fun w' h' => x_indexAddr Tryd.underlying44 ty43 (slA ee2181) rfl p2172 p2173) D1 (Wa_take (i := 4) rfl (by kernel_rfl) rfl rfl (.slice A2182 (rd a1 ((rd t73 x1209).Task)).length c2183) rfl (fun w' h' => x_load (cls_frz h' hb2177) ty43 rfl (hc2180 0 _ rfl)) D1 (Wa_take (i := 5) rfl (by kernel_rfl) rfl rfl (pt b2071 1) rfl (fun w' h' => x_fieldAddr (o := 0) (off := 1) Tryd.underlying53 rfl ty3 rfl rfl) D1 (Wa_take (i := 6) rfl (by kernel_rfl) rfl rfl (.int .i64 ((rd t73 x1209).Call)) rfl (fun w' h' => x_load (cls_blk h' 0 rfl) ty3 rfl rfl) D1 ?_)))
                  obtain ⟨⟨p2186, p2187⟩, H⟩ := chkS H
                  obtain ⟨b2188, o2189, cs2190, _, _, ee2195, hb2191, vs2192, hR2193, hc2194⟩ := SlW.at' hs2184z p2186 p2187
                  obtain rfl : vs2192 = _ := hR2193
                  refine Wa_take (i := 7) rfl (by kernel_rfl) rfl rfl (.pointer (some ⟨b2188, o2189 + ((rd t73 x1209).Call).toNat * 7, none⟩)) rfl (fun w' h' => x_indexAddr Tryd.underlying43 ty42 (slA ee2195) rfl p2186 p2187) D1 (Wa_take (i := 8) rfl (by kernel_rfl) rfl rfl (.agg #[.int .u8 ((rd (rd a1 ((rd t73 x1209).Task)) ((rd t73 x1209).Call)).Kind), .int .i64 ((rd (rd a1 ((rd t73 x1209).Task)) ((rd t73 x1209).Call)).Tx), .string (bs ((rd (rd a1 ((rd t73 x1209).Task)) ((rd t73 x1209).Call)).Key)), .string (bs ((rd (rd a1 ((rd t73 x1209).Task)) ((rd t73 x1209).Call)).End)), .string (bs ((rd (rd a1 ((rd t73 x1209).Task)) ((rd t73 x1209).Call)).Value)), .int .i64 ((rd (rd a1 ((rd t73 x1209).Task)) ((rd t73 x1209).Call)).Limit), .int .u8 ((rd (rd a1 ((rd t73 x1209).Task)) ((rd t73 x1209).Call)).Engine)]) rfl (fun w' h' => x_loadA (cls_frz h' hb2191) ty42 rfl (sub_el hc2194 0 rfl) rfl rfl) D1 (Wa_take (i := 9) rfl (by kernel_rfl) rfl rfl (pt b54 0) rfl (fun w' h' => x_move rfl) D1 ?_))
                  obtain ⟨o2242, o2242h, o2242H⟩ := bindS H
                  refine Wa_join (fun ρ w' => ∃ (x2217 : Int) (b2215 : Nat), (x2217) = o2242 ∧ Agree ρ [(1, .slice A1 a1.length c1), (6, .int .i64 x1207), (7, .int .i64 x1208), (10, pt b54 0), (11, .func (.func 23) #[] #[pt b1 0]), (13, pt b2071 0), (14, pt b2215 0), (45, .slice A75 t73.length c76), (46, .int .i64 (t73.length : Int)), (47, .int .i64 x1209), (59, .agg #[.int .u8 ((rd (rd a1 ((rd t73 x1209).Task)) ((rd t73 x1209).Call)).Kind), .int .i64 ((rd (rd a1 ((rd t73 x1209).Task)) ((rd t73 x1209).Call)).Tx), .string (bs ((rd (rd a1 ((rd t73 x1209).Task)) ((rd t73 x1209).Call)).Key)), .string (bs ((rd (rd a1 ((rd t73 x1209).Task)) ((rd t73 x1209).Call)).End)), .string (bs ((rd (rd a1 ((rd t73 x1209).Task)) ((rd t73 x1209).Call)).Value)), .int .i64 ((rd (rd a1 ((rd t73 x1209).Task)) ((rd t73 x1209).Call)).Limit), .int .u8 ((rd (rd a1 ((rd t73 x1209).Task)) ((rd t73 x1209).Call)).Engine)]), (61, .int .i64 x2217)] ∧ Ext w w' ∧ St w' M1774 F [Blk b2215 (.cells #[.int .u8 0, .int .i64 0, .string (bs ([] : Str)), .string (bs ([] : Str)), .string (bs ([] : Str)), .int .i64 0, .int .u8 0] 42 (0, 0)), B83 b54 x1210 A1211 A1214 A1217 c1218 A1220, MapC enc_model_name (Value.int .i64) A1211 x1210.names, MapC (Value.int .i64) (Value.int .i64) A1214 x1210.many, Row r_model_tx 109 (.slice A1217 x1210.txs.length c1218) x1210.txs, MapC encS (fun v : Value => v) A1220 vs1223, B53 b2071 (rd t73 x1209) A2067 c2068, Row r_replay_Done 53 (.slice A75 t73.length c76) t73, B23 b1 a0]) 2 (Ls 14 [0, 1, 2, 3, 4, 5, 6, 7, 8, 9, 10, 11]) ?_ ?_
                  rotate_left
                  · intro hq2246
                    refine Wa_join (fun ρ w' => ∃ (b2208 : Nat), (Option.bind (model_Model_Retained_POOOO k x1210) (fun t2237 => some (t2237))) = some o2242 ∧ Agree ρ [(1, .slice A1 a1.length c1), (6, .int .i64 x1207), (7, .int .i64 x1208), (10, pt b54 0), (11, .func (.func 23) #[] #[pt b1 0]), (13, pt b2071 0), (14, pt b2208 0), (45, .slice A75 t73.length c76), (46, .int .i64 (t73.length : Int)), (47, .int .i64 x1209), (59, .agg #[.int .u8 ((rd (rd a1 ((rd t73 x1209).Task)) ((rd t73 x1209).Call)).Kind), .int .i64 ((rd (rd a1 ((rd t73 x1209).Task)) ((rd t73 x1209).Call)).Tx), .string (bs ((rd (rd a1 ((rd t73 x1209).Task)) ((rd t73 x1209).Call)).Key)), .string (bs ((rd (rd a1 ((rd t73 x1209).Task)) ((rd t73 x1209).Call)).End)), .string (bs ((rd (rd a1 ((rd t73 x1209).Task)) ((rd t73 x1209).Call)).Value)), .int .i64 ((rd (rd a1 ((rd t73 x1209).Task)) ((rd t73 x1209).Call)).Limit), .int .u8 ((rd (rd a1 ((rd t73 x1209).Task)) ((rd t73 x1209).Call)).Engine)]), (60, pt b54 0)] ∧ Ext w w' ∧ St w' M1774 F [Blk b2208 (.cells #[.int .u8 0, .int .i64 0, .string (bs ([] : Str)), .string (bs ([] : Str)), .string (bs ([] : Str)), .int .i64 0, .int .u8 0] 42 (0, 0)), B53 b2071 (rd t73 x1209) A2067 c2068, MapC encS (fun v : Value => v) A1220 vs1223, Row r_model_tx 109 (.slice A1217 x1210.txs.length c1218) x1210.txs, MapC (Value.int .i64) (Value.int .i64) A1214 x1210.many, MapC enc_model_name (Value.int .i64) A1211 x1210.names, Row r_replay_Done 53 (.slice A75 t73.length c76) t73, B83 b54 x1210 A1211 A1214 A1217 c1218 A1220, B23 b1 a0]) 3 (Ls 14 [0, 1, 2, 3, 4, 5, 6, 7, 8, 9, 11]) ?_ ?_
                    · clear o2242h
                      rintro ρ w2247 ⟨b2208, H, hρ, E, S⟩
                      rw [agree_eta hρ]
                      refine Wa_solo (i := 10) rfl (by kernel_rfl) ?_
                      obtain ⟨t2248, ht2249, H⟩ := bindS H
                      replace S : St w2247 M1774 F [_, _, _, _, _, _, _, _, _] := S.pick [7, 5, 4, 3, 2, 0, 1, 6, 8] (by decide)
                      refine W_callF2 fn19 (model_Model_Retained_POOOO.con k M1774 A1211 c1212 A1214 c1215 A1217 c1218 A1220 c1221 vs1223 x1210 b54 t2248 hm1224 ht2249) (Γ1 := [_, _, _, _, _]) (Γ2 := [_, _, _, _]) S rfl rfl (by rintro _ _ _ ⟨rfl, rfl⟩; exact (flat_cons flat_blk (flat_cons flat_map (flat_cons flat_map (flat_cons (flat_row (fun _ _ _ _ h => h)) (flat_cons flat_map flat_nil)))))) ?_
                      rintro _ w2250 _ Γ' E' S ⟨rfl, rfl⟩
                      replace E := E.trans E'
                      replace S : St w2250 M1774 F [_, _, _, _, _, _, _, _, _] := S
                      refine Wl_nil (on_n ⟨.inr ⟨M1774, Hp.le_refl M1774, (S.pick [6, 4, 3, 2, 1, 7, 0, 8] (by decide))⟩, ?_⟩)
                      exact hq2246 _ _ ⟨t2248, b2208, Option.some.inj H, ⟨rfl, rfl, rfl, rfl, rfl, rfl, rfl, rfl, rfl, rfl, rfl, rfl, trivial⟩, E, S.pick [5, 0, 1, 2, 3, 4, 6, 7, 8] (by decide)⟩
                    intro hq2245
                    refine Wa_join (fun ρ w' => ∃ (x2204 : Int), some (x2204) = some o2242 ∧ Agree ρ [(1, .slice A1 a1.length c1), (6, .int .i64 x1207), (7, .int .i64 x1208), (10, pt b54 0), (11, .func (.func 23) #[] #[pt b1 0]), (13, pt b2071 0), (45, .slice A75 t73.length c76), (46, .int .i64 (t73.length : Int)), (47, .int .i64 x1209), (59, .agg #[.int .u8 ((rd (rd a1 ((rd t73 x1209).Task)) ((rd t73 x1209).Call)).Kind), .int .i64 ((rd (rd a1 ((rd t73 x1209).Task)) ((rd t73 x1209).Call)).Tx), .string (bs ((rd (rd a1 ((rd t73 x1209).Task)) ((rd t73 x1209).Call)).Key)), .string (bs ((rd (rd a1 ((rd t73 x1209).Task)) ((rd t73 x1209).Call)).End)), .string (bs ((rd (rd a1 ((rd t73 x1209).Task)) ((rd t73 x1209).Call)).Value)), .int .i64 ((rd (rd a1 ((rd t73 x1209).Task)) ((rd t73 x1209).Call)).Limit), .int .u8 ((rd (rd a1 ((rd t73 x1209).Task)) ((rd t73 x1209).Call)).Engine)]), (61, .int .i64 x2204)] ∧ Ext w w' ∧ St w' M1774 F [B83 b54 x1210 A1211 A1214 A1217 c1218 A1220, MapC enc_model_name (Value.int .i64) A1211 x1210.names, MapC (Value.int .i64) (Value.int .i64) A1214 x1210.many, Row r_model_tx 109 (.slice A1217 x1210.txs.length c1218) x1210.txs, MapC encS (fun v : Value => v) A1220 vs1223, B53 b2071 (rd t73 x1209) A2067 c2068, Row r_replay_Done 53 (.slice A75 t73.length c76) t73, B23 b1 a0]) 3 (Ls 14 [0, 1, 2, 3, 4, 5, 6, 7, 8, 9, 10]) ?_ ?_
                    · clear o2242h
                      rintro ρ w2253 ⟨x2204, H, hρ, E, S⟩
                      rw [agree_eta hρ]
                      refine Wa_solo (i := 11) rfl (by kernel_rfl) ?_
                      refine W_alloc S #[.int .u8 0, .int .i64 0, .string (bs ([] : Str)), .string (bs ([] : Str)), .string (bs ([] : Str)), .int .i64 0, .int .u8 0] ty42 rfl rfl ?_
                      intro b2254 w2255 E' S
                      replace E := E.trans E'
                      refine Wl_nil (on_n ⟨.inr ⟨M1774, Hp.le_refl M1774, (S.pick [6, 5, 4, 3, 2, 7, 1, 8] (by decide))⟩, ?_⟩)
                      exact hq2246 _ _ ⟨x2204, b2254, Option.some.inj H, ⟨rfl, rfl, rfl, rfl, rfl, rfl, rfl, rfl, rfl, rfl, rfl, rfl, trivial⟩, E, S.pick [0, 1, 2, 3, 4, 5, 6, 7, 8] (by decide)⟩
                    intro hq2244
                    have H := o2242h
                    refine Wa_oneOf (rs := [10, 11]) (by kernel_rfl) (by decide) ?_
                    simp only [List.forall_mem_cons, List.not_mem_nil, false_implies, implies_true, and_true]
                    refine ⟨?_, ?_⟩
                    · refine ⟨_, rfl, ?_⟩
                      obtain ⟨t2257, ht2258, H⟩ := bindS H
                      replace S : St w2170 M1774 F [_, _, _, _, _, _, _, _] := S.pick [6, 4, 3, 2, 1, 0, 5, 7] (by decide)
                      refine W_callF2 fn19 (model_Model_Retained_POOOO.con k M1774 A1211 c1212 A1214 c1215 A1217 c1218 A1220 c1221 vs1223 x1210 b54 t2257 hm1224 ht2258) (Γ1 := [_, _, _, _, _]) (Γ2 := [_, _, _]) S rfl rfl (by rintro _ _ _ ⟨rfl, rfl⟩; exact (flat_cons flat_blk (flat_cons flat_map (flat_cons flat_map (flat_cons (flat_row (fun _ _ _ _ h => h)) (flat_cons flat_map flat_nil)))))) ?_
                      rintro _ w2259 _ Γ' E' S ⟨rfl, rfl⟩
                      replace E := E.trans E'
                      replace S : St w2259 M1774 F [_, _, _, _, _, _, _, _] := S
                      refine Wl_nil (on_n ⟨.inr ⟨M1774, Hp.le_refl M1774, (S.pick [5, 4, 3, 2, 1, 6, 0, 7] (by decide))⟩, ?_⟩)
                      exact hq2244 _ _ ⟨t2257, H, ⟨rfl, rfl, rfl, rfl, rfl, rfl, rfl, rfl, rfl, rfl, rfl, trivial⟩, E, S.pick [0, 1, 2, 3, 4, 5, 6, 7] (by decide)⟩
                    · refine ⟨_, rfl, ?_⟩
                      refine W_alloc S #[.int .u8 0, .int .i64 0, .string (bs ([] : Str)), .string (bs ([] : Str)), .string (bs ([] : Str)), .int .i64 0, .int .u8 0] ty42 rfl rfl ?_
                      intro b2262 w2263 E' S
                      replace E := E.trans E'
                      refine Wl_nil (on_n ⟨.inr ⟨M1774, Hp.le_refl M1774, (S.pick [1, 2, 3, 4, 5, 6, 7, 8] (by decide))⟩, ?_⟩)
                      exact hq2245 _ _ ⟨b2262, H, ⟨rfl, rfl, rfl, rfl, rfl, rfl, rfl, rfl, rfl, rfl, rfl, rfl, trivial⟩, E, S.pick [0, 1, 2, 3, 4, 5, 6, 7, 8] (by decide)⟩
                  rintro ρ w2265 ⟨x2217, b2215, rfl, hρ, E, S⟩
                  rw [agree_eta hρ]
                  have H := o2242H
                  refine Wa_solo (i := 12) rfl (by kernel_rfl) ?_
                  refine W_store S 0 rfl ty42 rfl rfl [.int .u8 ((rd (rd a1 ((rd t73 x1209).Task)) ((rd t73 x1209).Call)).Kind), .int .i64 ((rd (rd a1 ((rd t73 x1209).Task)) ((rd t73 x1209).Call)).Tx), .string (bs ((rd (rd a1 ((rd t73 x1209).Task)) ((rd t73 x1209).Call)).Key)), .string (bs ((rd (rd a1 ((rd t73 x1209).Task)) ((rd t73 x1209).Call)).End)), .string (bs ((rd (rd a1 ((rd t73 x1209).Task)) ((rd t73 x1209).Call)).Value)), .int .i64 ((rd (rd a1 ((rd t73 x1209).Task)) ((rd t73 x1209).Call)).Limit), .int .u8 ((rd (rd a1 ((rd t73 x1209).Task)) ((rd t73 x1209).Call)).Engine)] rfl rfl rfl #[.int .u8 ((rd (rd a1 ((rd t73 x1209).Task)) ((rd t73 x1209).Call)).Kind), .int .i64 ((rd (rd a1 ((rd t73 x1209).Task)) ((rd t73 x1209).Call)).Tx), .string (bs ((rd (rd a1 ((rd t73 x1209).Task)) ((rd t73 x1209).Call)).Key)), .string (bs ((rd (rd a1 ((rd t73 x1209).Task)) ((rd t73 x1209).Call)).End)), .string (bs ((rd (rd a1 ((rd t73 x1209).Task)) ((rd t73 x1209).Call)).Value)), .int .i64 ((rd (rd a1 ((rd t73 x1209).Task)) ((rd t73 x1209).Call)).Limit), .int .u8 ((rd (rd a1 ((rd t73 x1209).Task)) ((rd t73 x1209).Call)).Engine)] (by as_aux_lemma => kernel_rfl) rfl ?_
                  intro w2266 E' S
                  replace E := E.trans E'
                  refine Wl_nil (on_n ⟨.inl (by decide), ?_⟩)
                  refine Wa_solo (i := 13) rfl (by kernel_rfl) ?_
                  refine W_v (.int .i64 x2217) (x_assign rfl) rfl ?_
                  refine Wl_nil (on_n ⟨.inl (by decide), ?_⟩)
                  refine Wa_done (by kernel_rfl) ?_
                  refine tn ?_
                  as_aux_lemma =>
                  refine Wp_seq (Wp_region_lit (W_v (pt b54 0) (x_move rfl) rfl (W_v (pt b2071 0) (x_fieldAddr (o := 0) (off := 0) Tryd.underlying53 rfl ty3 rfl rfl) rfl (W_v (.int .i64 ((rd t73 x1209).Task)) (x_load (S.blk 6 rfl) ty3 rfl rfl) rfl (W_v (.agg #[.int .u8 ((rd (rd a1 ((rd t73 x1209).Task)) ((rd t73 x1209).Call)).Kind), .int .i64 ((rd (rd a1 ((rd t73 x1209).Task)) ((rd t73 x1209).Call)).Tx), .string (bs ((rd (rd a1 ((rd t73 x1209).Task)) ((rd t73 x1209).Call)).Key)), .string (bs ((rd (rd a1 ((rd t73 x1209).Task)) ((rd t73 x1209).Call)).End)), .string (bs ((rd (rd a1 ((rd t73 x1209).Task)) ((rd t73 x1209).Call)).Value)), .int .i64 ((rd (rd a1 ((rd t73 x1209).Task)) ((rd t73 x1209).Call)).Limit), .int .u8 ((rd (rd a1 ((rd t73 x1209).Task)) ((rd t73 x1209).Call)).Engine)]) (x_loadA (S.blk 0 rfl) ty42 rfl (sub_of_extract rfl) rfl rfl) rfl ?_)))))
                  obtain ⟨t2267, ht2268, H⟩ := bindS H
                  replace S : St w2266 M1774 F [_, _, _, _, _, _, _, _, _] := S.pick [1, 2, 3, 4, 5, 0, 6, 7, 8] (by decide)
                  refine W_call fn24 (model_Model_Do_POOOO.con k M1774 A1211 c1212 A1214 c1215 A1217 c1218 A1220 c1221 vs1223 x1210 ((rd t73 x1209).Task) (rd (rd a1 ((rd t73 x1209).Task)) ((rd t73 x1209).Call)) b54 t2267 hm1224 hg0 hg1 ht2268) (Γ1 := [_, _, _, _, _]) (Γ2 := [_, _, _, _]) S rfl rfl ?_
                  rintro _ w2286 M2287 Γ' hM2288 E' S ⟨A2269, c2270, A2272, c2273, A2275, c2276, A2278, c2279, A2281, c2282, vs2284, rfl, hm2285, rfl⟩
                  replace hg0 : ∃ gt fr, _ := (let ⟨gt, fr, h8⟩ := hg0; ⟨gt, fr, hM2288 _ _ h8⟩)
                  replace hg1 : ∃ gt fr, _ := (let ⟨gt, fr, h8⟩ := hg1; ⟨gt, fr, hM2288 _ _ h8⟩)
                  replace HM := Hp.le_trans HM hM2288
                  replace hM1775 := Hp.le_trans hM1775 hM2288
                  replace LE2056 := Hp.le_trans LE2056 hM2288
                  replace hr1 := SlR.mono hr1 hM2288
                  replace hr2 := SlR.mono hr2 hM2288
                  replace hm30 := MRel.mono hm30 hM2288
                  replace hm69 := MRel.mono hm69 hM2288
                  replace hm1224 := MRel.mono hm1224 hM2288
                  replace hs2069 := SlR.mono hs2069 hM2288
                  replace hs2184 := SlR.mono hs2184 hM2288
                  replace E := E.trans E'
                  replace S : St w2286 M2287 F [_, _, _, _, _, _, _, _, _, _] := S
                  refine Wl_nil (tn (Wp_seq ?_))
                  refine Wp_region_any (S := fun w' => ∃ Mx, M2287.le Mx ∧ St w' Mx F [Row r_api_Pair 133 (.slice A2269 t2267.1.Pairs.length c2270) t2267.1.Pairs, B83 b54 t2267.2 A2272 A2275 A2278 c2279 A2281, MapC enc_model_name (Value.int .i64) A2272 t2267.2.names, MapC (Value.int .i64) (Value.int .i64) A2275 t2267.2.many, Row r_model_tx 109 (.slice A2278 t2267.2.txs.length c2279) t2267.2.txs, MapC encS (fun v : Value => v) A2281 vs2284, B42 b2215 (rd (rd a1 ((rd t73 x1209).Task)) ((rd t73 x1209).Call)), B53 b2071 (rd t73 x1209) A2067 c2068, Row r_replay_Done 53 (.slice A75 t73.length c76) t73, B23 b1 a0]) (L := 13) mixed ?_
                  intro w2299 hw2300 E'
                  replace S := S.heap hw2300
                  replace E := E.trans E'
                  have D2 : ∃ Mx, Hp.le M2287 Mx ∧ St _ Mx F [_, _, _, _, _, _, _, _, _, _] := ⟨_, Hp.le_refl _, S.pick [0, 1, 2, 3, 4, 5, 6, 7, 8, 9] (by decide)⟩
                  refine Wa_take (i := 0) rfl (by kernel_rfl) rfl rfl (.func (.func 23) #[] #[pt b1 0]) rfl (fun w' h' => x_move rfl) D2 (Wa_take (i := 1) rfl (by kernel_rfl) rfl rfl (.agg #[.int .u8 ((rd (rd a1 ((rd t73 x1209).Task)) ((rd t73 x1209).Call)).Kind), .int .i64 ((rd (rd a1 ((rd t73 x1209).Task)) ((rd t73 x1209).Call)).Tx), .string (bs ((rd (rd a1 ((rd t73 x1209).Task)) ((rd t73 x1209).Call)).Key)), .string (bs ((rd (rd a1 ((rd t73 x1209).Task)) ((rd t73 x1209).Call)).End)), .string (bs ((rd (rd a1 ((rd t73 x1209).Task)) ((rd t73 x1209).Call)).Value)), .int .i64 ((rd (rd a1 ((rd t73 x1209).Task)) ((rd t73 x1209).Call)).Limit), .int .u8 ((rd (rd a1 ((rd t73 x1209).Task)) ((rd t73 x1209).Call)).Engine)]) rfl (fun w' h' => x_loadA (cls_blk h' 6 rfl) ty42 rfl (sub_of_extract rfl) rfl rfl) D2 (Wa_take (i := 2) rfl (by kernel_rfl) rfl rfl (.int .i64 x2217) rfl (fun w' h' => x_move rfl) D2 (Wa_take (i := 3) rfl (by kernel_rfl) rfl rfl (pt b54 0) rfl (fun w' h' => x_move rfl) D2 ?_)))
                  refine Wa_solo (i := 4) rfl (by kernel_rfl) ?_
                  obtain ⟨t2301, ht2302, H⟩ := bindS H
                  replace S : St w2299 M2287 F [_, _, _, _, _, _, _, _, _, _] := S.pick [1, 2, 3, 4, 5, 0, 6, 7, 8, 9] (by decide)
                  refine W_callF2 fn19 (model_Model_Retained_POOOO.con k M2287 A2272 c2273 A2275 c2276 A2278 c2279 A2281 c2282 vs2284 t2267.2 b54 t2301 hm2285 ht2302) (Γ1 := [_, _, _, _, _]) (Γ2 := [_, _, _, _, _]) S rfl rfl (by rintro _ _ _ ⟨rfl, rfl⟩; exact (flat_cons flat_blk (flat_cons flat_map (flat_cons flat_map (flat_cons (flat_row (fun _ _ _ _ h => h)) (flat_cons flat_map flat_nil)))))) ?_
                  rintro _ w2303 _ Γ' E' S ⟨rfl, rfl⟩
                  replace E := E.trans E'
                  replace S : St w2303 M2287 F [_, _, _, _, _, _, _, _, _, _] := S
                  refine Wl_nil (on_n ⟨.inr ⟨M2287, Hp.le_refl M2287, (S.pick [5, 0, 1, 2, 3, 4, 6, 7, 8, 9] (by decide))⟩, ?_⟩)
                  have D3 : ∃ Mx, Hp.le M2287 Mx ∧ St _ Mx F [_, _, _, _, _, _, _, _, _, _] := ⟨_, Hp.le_refl _, S.pick [5, 0, 1, 2, 3, 4, 6, 7, 8, 9] (by decide)⟩
                  refine Wa_take (i := 5) rfl (by kernel_rfl) rfl rfl (.int .i64 (IntKind.i64.wrap (x2217 - t2301))) rfl (fun w' h' => x_ibin rfl rfl rfl rfl) D3 (Wa_take (i := 6) rfl (by kernel_rfl) rfl rfl (.int .i64 (imax (0 : Int) (IntKind.i64.wrap (x2217 - t2301)))) rfl (fun w' h' => x_max2 rfl rfl) D3 ?_)
                  refine Wa_solo (i := 7) rfl (by kernel_rfl) ?_
                  obtain ⟨t2306, ht2307, H⟩ := bindS H
                  replace S : St w2303 M2287 F [_, _, _, _, _, _, _, _, _, _] := S.pick [9, 0, 1, 2, 3, 4, 5, 6, 7, 8] (by decide)
                  refine W_callvF2 (fs := []) (cap := [pt b1 0]) fn23 rfl (room_Now_1.con k M2287 (rd (rd a1 ((rd t73 x1209).Task)) ((rd t73 x1209).Call)) (imax (0 : Int) (IntKind.i64.wrap (x2217 - t2301))) a0 b1 t2306  ht2307) (Γ1 := [_]) (Γ2 := [_, _, _, _, _, _, _, _, _]) S rfl rfl (by rintro _ _ _ ⟨rfl, rfl⟩; exact (flat_cons flat_blk flat_nil)) ?_
                  rintro _ w2308 _ Γ' E' S ⟨rfl, rfl⟩
                  replace E := E.trans E'
                  replace S : St w2308 M2287 F [_, _, _, _, _, _, _, _, _, _] := S
                  refine Wl_nil (on_n ⟨.inr ⟨M2287, Hp.le_refl M2287, (S.pick [6, 1, 2, 3, 4, 5, 7, 8, 9, 0] (by decide))⟩, ?_⟩)
                  have D4 : ∃ Mx, Hp.le M2287 Mx ∧ St _ Mx F [_, _, _, _, _, _, _, _, _, _] := ⟨_, Hp.le_refl _, S.pick [6, 1, 2, 3, 4, 5, 7, 8, 9, 0] (by decide)⟩
                  refine Wa_take (i := 8) rfl (by kernel_rfl) rfl rfl (.tuple #[.int .i64 t2306.1, .int .i64 t2306.2]) rfl (fun w' h' => x_move rfl) D4 (Wa_take (i := 9) rfl (by kernel_rfl) rfl rfl (.int .i64 t2306.1) rfl (fun w' h' => x_extract rfl rfl) D4 (Wa_take (i := 10) rfl (by kernel_rfl) rfl rfl (.int .i64 t2306.2) rfl (fun w' h' => x_extract rfl rfl) D4 (Wa_take (i := 11) rfl (by kernel_rfl) rfl rfl (.int .i64 t2306.1) rfl (fun w' h' => x_assign rfl) D4 (Wa_take (i := 12) rfl (by kernel_rfl) rfl rfl (.int .i64 t2306.2) rfl (fun w' h' => x_assign rfl) D4 ?_))))
                  refine Wa_done (by kernel_rfl) ?_
                  refine tn ?_
                  as_aux_lemma =>
                  refine Wp_seq (Wp_region_lit (W_v (pt b2071 7) (x_fieldAddr (o := 0) (off := 7) Tryd.underlying53 rfl ty3 rfl rfl) rfl (W_v (.int .i64 ((rd t73 x1209).Back)) (x_load (S.blk 8 rfl) ty3 rfl rfl) rfl (W_v (.bool (decide ((rd t73 x1209).Back < (0 : Int)))) (x_ibin rfl rfl rfl rfl) rfl (Wl_nil (tn ?_))))))
                  obtain ⟨o2315, o2315h, o2315H⟩ := bindS H
                  refine Wp_cut (fun ρ w' => ∃ (x2313 : Int) (x2314 : Int), (x2313, x2314) = o2315 ∧ Agree ρ [(1, .slice A1 a1.length c1), (6, .int .i64 x2313), (7, .int .i64 x2314), (10, pt b54 0), (11, .func (.func 23) #[] #[pt b1 0]), (45, .slice A75 t73.length c76), (46, .int .i64 (t73.length : Int)), (47, .int .i64 x1209)] ∧ Ext w w' ∧ St w' M2287 F [B23 b1 a0, B83 b54 t2267.2 A2272 A2275 A2278 c2279 A2281, MapC enc_model_name (Value.int .i64) A2272 t2267.2.names, MapC (Value.int .i64) (Value.int .i64) A2275 t2267.2.many, Row r_model_tx 109 (.slice A2278 t2267.2.txs.length c2279) t2267.2.txs, MapC encS (fun v : Value => v) A2281 vs2284, Row r_replay_Done 53 (.slice A75 t73.length c76) t73]) ?_ ?_
                  · clear o2315H
                    have H := o2315h
                    rcases iteS H with ⟨hb2316, H⟩ | ⟨hb2316, H⟩
                    · refine Wp_cond_true (congrArg Value.bool hb2316) ?_
                      refine Wp_seq (Wp_region_lit (W_v (.int .i64 x1207) (x_move rfl) rfl (W_v (.int .i64 t2306.1) (x_move rfl) rfl (W_v (.int .i64 (IntKind.i64.wrap (x1207 + t2306.1))) (x_ibin rfl rfl rfl rfl) rfl (W_v (.int .i64 (IntKind.i64.wrap (x1207 + t2306.1))) (x_assign rfl) rfl (Wl_nil (tn (Wp_region_lit (W_v (.int .i64 x1208) (x_move rfl) rfl (W_v (.int .i64 t2306.2) (x_move rfl) rfl (W_v (.int .i64 (IntKind.i64.wrap (x1208 + t2306.2))) (x_ibin rfl rfl rfl rfl) rfl (W_v (.int .i64 (IntKind.i64.wrap (x1208 + t2306.2))) (x_assign rfl) rfl (Wl_nil (tn ?_))))))))))))))
                      exact ⟨(IntKind.i64.wrap (x1207 + t2306.1)), (IntKind.i64.wrap (x1208 + t2306.2)), Option.some.inj H, ⟨rfl, rfl, rfl, rfl, rfl, rfl, rfl, rfl, trivial⟩, E, S.pick [0, 1, 2, 3, 4, 5, 9] (by decide)⟩
                    refine Wp_cond_false (congrArg Value.bool hb2316) (Wp_skip (tn ?_))
                    exact ⟨x1207, x1208, Option.some.inj H, ⟨rfl, rfl, rfl, rfl, rfl, rfl, rfl, rfl, trivial⟩, E, S.pick [0, 1, 2, 3, 4, 5, 9] (by decide)⟩
                  rintro ρ w2317 ⟨x2313, x2314, rfl, hρ, E, S⟩
                  rw [agree_eta hρ]
                  have H := o2315H
                  refine bn (tn ?_)
                  exact ⟨x2313, x2314, t2267.2, A2272, c2273, A2275, c2276, A2278, c2279, A2281, c2282, vs2284, M2287, Option.some.inj H, ⟨rfl, rfl, rfl, rfl, rfl, rfl, rfl, rfl, trivial⟩, LE2056, E, S.pick [5, 4, 3, 2, 0, 1, 6] (by decide), hm2285⟩
              rintro ρ w2318 ⟨x2038, x2039, x2040, A2041, c2042, A2044, c2045, A2047, c2048, A2050, c2051, vs2053, M2319, rfl, hρ, hM2320, E, S, hm2054⟩
              rw [agree_eta hρ]
              replace hg0 : ∃ gt fr, _ := (let ⟨gt, fr, h8⟩ := hg0; ⟨gt, fr, hM2320 _ _ h8⟩)
              replace hg1 : ∃ gt fr, _ := (let ⟨gt, fr, h8⟩ := hg1; ⟨gt, fr, hM2320 _ _ h8⟩)
              replace HM := Hp.le_trans HM hM2320
              replace hM1775 := Hp.le_trans hM1775 hM2320
              replace hr1 := SlR.mono hr1 hM2320
              replace hr2 := SlR.mono hr2 hM2320
              replace hm30 := MRel.mono hm30 hM2320
              replace hm69 := MRel.mono hm69 hM2320
              replace hm1224 := MRel.mono hm1224 hM2320
              have H := o2055H
              refine tn (Wp_region_lit (W_v (.int .i64 (IntKind.i64.wrap (x1209 + (1 : Int)))) (x_ibin rfl rfl rfl rfl) rfl (W_v (.int .i64 (IntKind.i64.wrap (x1209 + (1 : Int)))) (x_move rfl) rfl (Wl_nil (tn ?_)))))
              exact ⟨k, Nat.lt_succ_self k, ⟨x2038, x2039, (IntKind.i64.wrap (x1209 + (1 : Int))), x2040, A2041, c2042, A2044, c2045, A2047, c2048, A2050, c2051, vs2053, M2319, H, ⟨rfl, rfl, rfl, rfl, rfl, rfl, rfl, rfl, trivial⟩, hM1775, E, S.pick [0, 1, 2, 3, 6, 5, 4] (by decide), hm2054⟩⟩
            refine Wp_cond_false (congrArg Value.bool hb1776) ?_
            refine Wp_exit ?_
            refine tx (tx (bsm (?_)))
            refine tn ?_
            exact ⟨x1207, x1208, M1774, Option.some.inj H, ⟨rfl, rfl, trivial⟩, hM1775, E, S.pick [] (by decide)⟩
      rintro ρ w2321 ⟨x1770, x1771, M2322, rfl, hρ, hM2323, E, S⟩
      rw [agree_eta hρ]
      replace hg0 : ∃ gt fr, _ := (let ⟨gt, fr, h8⟩ := hg0; ⟨gt, fr, hM2323 _ _ h8⟩)
      replace hg1 : ∃ gt fr, _ := (let ⟨gt, fr, h8⟩ := hg1; ⟨gt, fr, hM2323 _ _ h8⟩)
      replace HM := Hp.le_trans HM hM2323
      replace hr1 := SlR.mono hr1 hM2323
      replace hr2 := SlR.mono hr2 hM2323
      replace hm30 := MRel.mono hm30 hM2323
      replace hm69 := MRel.mono hm69 hM2323
      have H := o1772H
      refine tn ?_
      as_aux_lemma =>
      refine Wp_seq (Wp_region_lit (W_v (.int .i64 x1770) (x_move rfl) rfl (W_v (.int .i64 x1771) (x_move rfl) rfl (W_v (.int .i64 x1770) (x_assign rfl) rfl (W_v (.int .i64 x1771) (x_assign rfl) rfl (W_v (.int .i64 0) (x_assign rfl) rfl (Wl_nil (tn ?_))))))))
      refine Wp_ret ?_
      obtain rfl := Option.some.inj H
      exact ⟨_, _, _, fun w1 e1 => run_resR (vs := [.int .i64 x1770, .int .i64 x1771, .int .i64 0]) (FA.cons (rfl) (FA.cons (rfl) (FA.cons (rfl) (FA.nil)))), HM, E, S.pick [] (by decide), ⟨rfl, rfl⟩⟩
def ferrymanlaw30_is (k : Nat) (a0 : api_Config) (a1 : (List (List api_Call))) (a2 : (List api_Event)) (a3 : Int) (a4 : Int) : Option (Bool) :=
  (Option.bind (room_Now k a0 a1 a2) (fun t4 => some (((t4.1 == a3) && (t4.2.1 == a4)) && (t4.2.2 == (0 : Int)))))
set_option maxHeartbeats 2000000 in
theorem ferrymanlaw30_is.mono {k : Nat} {a0 : api_Config} {a1 : (List (List api_Call))} {a2 : (List api_Event)} {a3 : Int} {a4 : Int} : OLe (ferrymanlaw30_is k a0 a1 a2 a3 a4) (ferrymanlaw30_is (k + 1) a0 a1 a2 a3 a4) := by
  unfold ferrymanlaw30_is
  repeat' (first | with_reducible exact OLe.none | with_reducible exact OLe.some | with_reducible refine OLe.ite ?_ ?_ | with_reducible refine OLe.bind ?_ (fun _ => ?_) | with_reducible exact room_Now.mono | refine OLe.bind ?_ (fun _ => ?_) | refine OLe.ite ?_ ?_ | refine OLe.elim (fun _ => ?_) (fun _ => ?_) | split)
set_option maxHeartbeats 1000000 in
set_option maxRecDepth 100000 in
theorem ferrymanlaw30_is.con (k : Nat) (M : Hp) (a0 : api_Config) (A1 : Option Addr) (c1 : Nat) (a1 : (List (List api_Call))) (A2 : Option Addr) (c2 : Nat) (a2 : (List api_Event)) (a3 : Int) (a4 : Int) (r : Bool) (hr1 : SlR (rSl r_api_Call) M (.slice A1 a1.length c1) a1) (hr2 : SlR r_api_Event M (.slice A2 a2.length c2) a2) (hg0 : ∃ gt fr, M 0 = some (.cells #[.nilFunc, .func (.func 92) #[] #[], .func (.func 93) #[] #[], .func (.func 94) #[] #[], .func (.func 95) #[] #[], .func (.func 96) #[] #[], .func (.func 97) #[] #[], .func (.func 98) #[] #[], .func (.func 99) #[] #[], .func (.func 100) #[] #[]] gt fr)) (hg1 : ∃ gt fr, M 1 = some (.cells #[.nilFunc, .func (.func 114) #[] #[], .func (.func 116) #[] #[], .func (.func 118) #[] #[]] gt fr)) (h : ferrymanlaw30_is k a0 a1 a2 a3 a4 = some r) : Con Tryd.prog 14 #[.agg #[.int .i64 a0.Tasks, .int .i64 a0.Active, .int .i64 a0.Keys, .int .i64 a0.Depth, .int .i64 a0.TS, .int .i64 a0.KeyLen, .int .i64 a0.ValLen, .int .i64 a0.Fan], .slice A1 a1.length c1, .slice A2 a2.length c2, .int .i64 a3, .int .i64 a4] M [] (fun v M' Γ' => v = .bool r ∧ Γ' = []) := by
  refine con_of_wp Tryd.func14 rfl Tryd.ntmps14 Tryd.results14 rfl ?_
  intro w F rn S hrn
  have E := Ext.refl w
  have HM := Hp.le_refl M
  have H := h
  unfold ferrymanlaw30_is at H
  refine Wp_seq (Wp_region_lit ?_)
  refine W_box S #[.int .i64 a0.Tasks, .int .i64 a0.Active, .int .i64 a0.Keys, .int .i64 a0.Depth, .int .i64 a0.TS, .int .i64 a0.KeyLen, .int .i64 a0.ValLen, .int .i64 a0.Fan] rfl rfl rfl ?_
  intro b1 w2 E' S
  replace E := E.trans E'
  refine W_v (.bool false) (x_assign rfl) rfl (Wl_nil (tn (Wp_seq (Wp_region_lit (W_v (.agg #[.int .i64 a0.Tasks, .int .i64 a0.Active, .int .i64 a0.Keys, .int .i64 a0.Depth, .int .i64 a0.TS, .int .i64 a0.KeyLen, .int .i64 a0.ValLen, .int .i64 a0.Fan]) (x_loadA (S.blk 0 rfl) ty23 rfl (sub_of_extract rfl) rfl rfl) rfl (W_v (.slice A1 a1.length c1) (x_move rfl) rfl (W_v (.slice A2 a2.length c2) (x_move rfl) rfl ?_)))))))
  obtain ⟨t4, ht5, H⟩ := bindS H
  refine W_callF fn13 (room_Now.con k M a0 A1 c1 a1 A2 c2 a2 t4 hr1 hr2 hg0 hg1 ht5) S rfl rfl (by rintro _ _ _ ⟨_, rfl⟩; exact flat_nil) ?_
  rintro _ w6 _ Γ' E' S ⟨rfl, rfl⟩
  replace E := E.trans E'
  refine W_v (.tuple #[.int .i64 t4.1, .int .i64 t4.2.1, .int .i64 t4.2.2]) (x_move rfl) rfl (W_v (.int .i64 t4.1) (x_extract rfl rfl) rfl (W_v (.int .i64 t4.2.1) (x_extract rfl rfl) rfl (W_v (.int .i64 t4.2.2) (x_extract rfl rfl) rfl (W_v (.int .i64 t4.1) (x_assign rfl) rfl (W_v (.int .i64 t4.2.1) (x_assign rfl) rfl (W_v (.int .i64 t4.2.2) (x_assign rfl) rfl (Wl_nil (tn (Wp_seq (Wp_region_lit (W_v (.int .i64 t4.1) (x_move rfl) rfl (W_v (.int .i64 a3) (x_move rfl) rfl (W_v (.bool (t4.1 == a3)) (x_ibin rfl rfl rfl rfl) rfl (W_v (.bool (t4.1 == a3)) (x_move rfl) rfl ?_))))))))))))))
  refine Wl_cutN 4 (fun ρ w' => Agree ρ [(13, .int .i64 t4.2.2), (29, .bool ((t4.1 == a3) && (t4.2.1 == a4)))] ∧ w6 = w') ?_ ?_
  · rcases boolCases (t4.1 == a3) with hb7 | hb7
    · skip
      refine W_no (skT hb7) rfl (W_no (skT hb7) rfl (W_no (skT hb7) rfl (W_v (.bool false) (x_pick (k := false) (congrArg Value.bool hb7) rfl) rfl (Wl_nil ?_))))
      exact ⟨⟨rfl, (by first | rfl | (rw [hb7]; rfl) | (simp only [hb7]; rfl)), trivial⟩, rfl⟩
    · skip
      refine W_yes (congrArg some hb7) (W_v (.int .i64 t4.2.1) (x_move rfl) rfl (W_yes (congrArg some hb7) (W_v (.int .i64 a4) (x_move rfl) rfl (W_yes (congrArg some hb7) (W_v (.bool (t4.2.1 == a4)) (x_ibin rfl rfl rfl rfl) rfl (W_v (.bool (t4.2.1 == a4)) (x_pick (k := true) (congrArg Value.bool hb7) rfl) rfl (Wl_nil ?_)))))))
      exact ⟨⟨rfl, (by first | rfl | (rw [hb7]; rfl) | (simp only [hb7]; rfl)), trivial⟩, rfl⟩
  rintro ρ _ ⟨hρ, rfl⟩
  rw [agree_eta hρ]
  refine W_v (.bool ((t4.1 == a3) && (t4.2.1 == a4))) (x_move rfl) rfl ?_
  refine Wl_cutN 3 (fun ρ w' => Agree ρ [(33, .bool (((t4.1 == a3) && (t4.2.1 == a4)) && (t4.2.2 == (0 : Int))))] ∧ w6 = w') ?_ ?_
  · rcases boolCases ((t4.1 == a3) && (t4.2.1 == a4)) with hb8 | hb8
    · skip
      refine W_no (skT hb8) rfl (W_no (skT hb8) rfl (W_v (.bool false) (x_pick (k := false) (congrArg Value.bool hb8) rfl) rfl (Wl_nil ?_)))
      exact ⟨⟨(by first | rfl | (rw [hb8]; rfl) | (simp only [hb8]; rfl)), trivial⟩, rfl⟩
    · skip
      refine W_yes (congrArg some hb8) (W_v (.int .i64 t4.2.2) (x_move rfl) rfl (W_yes (congrArg some hb8) (W_v (.bool (t4.2.2 == (0 : Int))) (x_ibin rfl rfl rfl rfl) rfl (W_v (.bool (t4.2.2 == (0 : Int))) (x_pick (k := true) (congrArg Value.bool hb8) rfl) rfl (Wl_nil ?_)))))
      exact ⟨⟨(by first | rfl | (rw [hb8]; rfl) | (simp only [hb8]; rfl)), trivial⟩, rfl⟩
  rintro ρ _ ⟨hρ, rfl⟩
  rw [agree_eta hρ]
  refine W_v (.bool (((t4.1 == a3) && (t4.2.1 == a4)) && (t4.2.2 == (0 : Int)))) (x_assign rfl) rfl (Wl_nil (tn ?_))
  refine Wp_ret ?_
  obtain rfl := Option.some.inj H
  exact ⟨_, _, _, fun w1 e1 => run_resR (vs := [.bool (((t4.1 == a3) && (t4.2.1 == a4)) && (t4.2.2 == (0 : Int)))]) (FA.cons (rfl) (FA.nil)), HM, E, S.pick [] (by decide), ⟨rfl, rfl⟩⟩
def ferrymanlaw30_run_l0 (a0 : (List (List api_Call))) (a1 : Int) : Nat → List api_Event → Int → Option ((List api_Event))
  | 0, _, _ => none
  | k + 1, x88, x92 => (if (decide (x92 < a1)) = true then (if 0 ≤ (0 : Int) ∧ (0 : Int) < (a0.length : Int) then (if 0 ≤ x92 ∧ x92 < ((rd a0 (0 : Int)).length : Int) then (Option.bind (α := List api_Event) (some ([(⟨(1 : Int), (0 : Int), x92, ⟨(0 : Int), false, ([] : Str), ([] : (List api_Pair))⟩⟩ : api_Event), (⟨(2 : Int), (0 : Int), x92, ⟨(0 : Int), false, ([] : Str), ([] : (List api_Pair))⟩⟩ : api_Event), (⟨(3 : Int), (0 : Int), x92, ⟨(0 : Int), ((rd (rd a0 (0 : Int)) x92).Kind == (4 : Int)), ([] : Str), ([] : (List api_Pair))⟩⟩ : api_Event)] : List api_Event)) (fun x166 => (if x88.length + x166.length ≤ 1759218604441 then ferrymanlaw30_run_l0 a0 a1 k (x88 ++ x166) (IntKind.i64.wrap (x92 + (1 : Int))) else none))) else none) else none) else some (x88))
set_option maxHeartbeats 2000000 in
theorem ferrymanlaw30_run_l0.mono {a0 : (List (List api_Call))} {a1 : Int} : ∀ {kl : Nat} {x0 x1}, OLe (ferrymanlaw30_run_l0 a0 a1 kl x0 x1) (ferrymanlaw30_run_l0 a0 a1 (kl + 1) x0 x1) := by
  intro kl
  induction kl with
  | zero => intros; exact OLe.none
  | succ kl ih =>
    intros
    rw [ferrymanlaw30_run_l0.eq_2, ferrymanlaw30_run_l0.eq_2]
    repeat' (first | with_reducible exact OLe.none | with_reducible exact OLe.some | with_reducible refine OLe.ite ?_ ?_ | with_reducible refine OLe.bind ?_ (fun _ => ?_) | exact ih | refine OLe.bind ?_ (fun _ => ?_) | refine OLe.ite ?_ ?_ | refine OLe.elim (fun _ => ?_) (fun _ => ?_) | split)
def ferrymanlaw30_run (k : Nat) (a0 : (List (List api_Call))) (a1 : Int) : Option ((List api_Event)) :=
  (Option.bind (ferrymanlaw30_run_l0 a0 a1 k ([] : List api_Event) (0 : Int)) (fun x131 => some x131))
set_option maxHeartbeats 2000000 in
theorem ferrymanlaw30_run.mono {k : Nat} {a0 : (List (List api_Call))} {a1 : Int} : OLe (ferrymanlaw30_run k a0 a1) (ferrymanlaw30_run (k + 1) a0 a1) := by
  unfold ferrymanlaw30_run
  repeat' (first | with_reducible exact OLe.none | with_reducible exact OLe.some | with_reducible refine OLe.ite ?_ ?_ | with_reducible refine OLe.bind ?_ (fun _ => ?_) | with_reducible exact ferrymanlaw30_run_l0.mono | refine OLe.bind ?_ (fun _ => ?_) | refine OLe.ite ?_ ?_ | refine OLe.elim (fun _ => ?_) (fun _ => ?_) | split)
set_option maxHeartbeats 1000000 in
set_option maxRecDepth 100000 in
theorem ferrymanlaw30_run.con (k : Nat) (M : Hp) (A0 : Option Addr) (c0 : Nat) (a0 : (List (List api_Call))) (a1 : Int) (r : (List api_Event)) (hr0 : SlR (rSl r_api_Call) M (.slice A0 a0.length c0) a0) (h : ferrymanlaw30_run k a0 a1 = some r) : Con Tryd.prog 15 #[.slice A0 a0.length c0, .int .i64 a1] M [] (fun v M' Γ' => ∃ (A0 : Option Addr) (c0 : Nat), v = .slice A0 r.length c0 ∧ Γ' = [Row r_api_Event 38 (.slice A0 r.length c0) r]) := by
  refine con_of_wp Tryd.func15 rfl Tryd.ntmps15 Tryd.results15 rfl ?_
  intro w F rn S hrn
  have E := Ext.refl w
  have HM := Hp.le_refl M
  have H := h
  unfold ferrymanlaw30_run at H
  refine Wp_seq (Wp_region_lit (W_v (.slice none 0 0) (x_assign rfl) rfl (Wl_nil (tn (Wp_seq (Wp_region_lit (W_v (.slice none 0 0) (x_assign rfl) rfl (Wl_nil (tn (Wp_seq (Wp_seq (Wp_region_lit (W_v (.int .i64 0) (x_assign rfl) rfl (Wl_nil (tn ?_)))))))))))))))
  obtain ⟨o135, o135h, o135H⟩ := bindS H
  refine Wp_blockJ (fun ρ w' => ∃ (x131 : List api_Event) (A132 : Option Addr) (c133 : Nat), (x131) = o135 ∧ Agree ρ [(5, .slice A132 x131.length c133)] ∧ Ext w w' ∧ St w' M F [Row r_api_Event 38 (.slice A132 x131.length c133) x131]) ?_ ?_
  · skip
    refine Wp_loop (fun n ρ w' => ∃ (x88 : List api_Event) (x92 : Int) (A89 : Option Addr) (c90 : Nat), ferrymanlaw30_run_l0 a0 a1 n x88 x92 = some o135 ∧ Agree ρ [(0, .slice A0 a0.length c0), (1, .int .i64 a1), (5, .slice A89 x88.length c90), (6, .int .i64 x92)] ∧ Ext w w' ∧ St w' M F [Row r_api_Event 38 (.slice A89 x88.length c90) x88]) k ?_ ?_
    · skip
      replace S := S.row_nil r_api_Event 38
      exact ⟨([] : List api_Event), (0 : Int), none, 0, o135h, ⟨rfl, rfl, rfl, rfl, trivial⟩, E, S.pick [0] (by decide)⟩
    · intro n
      rintro ρ w137 ⟨x88, x92, A89, c90, H, hρ, E, S⟩
      rw [agree_eta hρ]
      cases n with
      | zero => cases H
      | succ k =>
        rw [ferrymanlaw30_run_l0.eq_2] at H
        refine Wp_seq (Wp_seq (Wp_region_lit (W_v (.int .i64 x92) (x_move rfl) rfl (W_v (.int .i64 a1) (x_move rfl) rfl (W_v (.bool (decide (x92 < a1))) (x_ibin rfl rfl rfl rfl) rfl (Wl_nil (tn ?_)))))))
        rcases iteS H with ⟨hb138, H⟩ | ⟨hb138, H⟩
        · refine Wp_cond_true (congrArg Value.bool hb138) ?_
          refine Wp_skip (tn (Wp_seq ?_))
          refine Wp_block ?_
          refine Wp_region_lit (W_v (.slice A89 x88.length c90) (x_move rfl) rfl (W_v (.int .i64 x92) (x_move rfl) rfl (W_v (.agg #[.int .u8 1, .int .i64 0, .int .i64 x92, .int .i64 0, .bool false, .string (bs ([] : Str)), .slice none 0 0]) (x_build2 (pl := [(0, 1), (1, 1), (2, 1), (3, 4)]) #[.int .u8 1, .int .i64 0, .int .i64 x92, .int .i64 0, .bool false, .string (bs ([] : Str)), .slice none 0 0] Tryd.underlying38 ty38 (by as_aux_lemma => kernel_rfl) rfl (by as_aux_lemma => kernel_rfl)) rfl (W_v (.int .i64 x92) (x_move rfl) rfl (W_v (.agg #[.int .u8 2, .int .i64 0, .int .i64 x92, .int .i64 0, .bool false, .string (bs ([] : Str)), .slice none 0 0]) (x_build2 (pl := [(0, 1), (1, 1), (2, 1), (3, 4)]) #[.int .u8 2, .int .i64 0, .int .i64 x92, .int .i64 0, .bool false, .string (bs ([] : Str)), .slice none 0 0] Tryd.underlying38 ty38 (by as_aux_lemma => kernel_rfl) rfl (by as_aux_lemma => kernel_rfl)) rfl (W_v (.int .i64 x92) (x_move rfl) rfl (W_v (.slice A0 a0.length c0) (x_move rfl) rfl ?_)))))))
          obtain ⟨⟨p139, p140⟩, H⟩ := chkS H
          obtain ⟨b141, o142, cs143, _, _, ee148, hb144, vs145, hR146, hc147⟩ := SlW.at' hr0 p139 p140
          obtain ⟨v152, hs151, rfl⟩ := hR146
          obtain ⟨A149, c150, rfl, _⟩ := hs151.form
          refine W_v (.pointer (some ⟨b141, o142 + (0 : Int).toNat * 1, none⟩)) (x_indexAddr Tryd.underlying44 ty43 (slA ee148) rfl p139 p140) rfl (W_v (.slice A149 (rd a0 (0 : Int)).length c150) (x_load (S.frz hb144) ty43 rfl (hc147 0 _ rfl)) rfl (W_v (.int .i64 x92) (x_move rfl) rfl ?_))
          obtain ⟨⟨p153, p154⟩, H⟩ := chkS H
          obtain ⟨b155, o156, cs157, _, _, ee162, hb158, vs159, hR160, hc161⟩ := SlW.at' hs151 p153 p154
          obtain rfl : vs159 = _ := hR160
          refine W_v (.pointer (some ⟨b155, o156 + x92.toNat * 7, none⟩)) (x_indexAddr Tryd.underlying43 ty42 (slA ee162) rfl p153 p154) rfl (W_v (.pointer (some ⟨b155, o156 + x92.toNat * 7, none⟩)) (x_fieldAddr (o := o156 + x92.toNat * 7) (off := 0) Tryd.underlying42 rfl ty5 rfl rfl) rfl (W_v (.int .u8 ((rd (rd a0 (0 : Int)) x92).Kind)) (x_load (S.frz hb158) ty5 rfl (hc161 0 _ rfl)) rfl (W_v (.bool ((rd (rd a0 (0 : Int)) x92).Kind == (4 : Int))) (x_ibin rfl rfl rfl rfl) rfl (W_v (.agg #[.int .i64 0, .bool ((rd (rd a0 (0 : Int)) x92).Kind == (4 : Int)), .string (bs ([] : Str)), .slice none 0 0]) (x_build2 (pl := [(0, 1), (1, 1), (2, 1), (3, 1)]) #[.int .i64 0, .bool ((rd (rd a0 (0 : Int)) x92).Kind == (4 : Int)), .string (bs ([] : Str)), .slice none 0 0] Tryd.underlying36 ty36 (by as_aux_lemma => kernel_rfl) rfl (by as_aux_lemma => kernel_rfl)) rfl (W_v (.agg #[.int .u8 3, .int .i64 0, .int .i64 x92, .int .i64 0, .bool ((rd (rd a0 (0 : Int)) x92).Kind == (4 : Int)), .string (bs ([] : Str)), .slice none 0 0]) (x_build2 (pl := [(0, 1), (1, 1), (2, 1), (3, 4)]) #[.int .u8 3, .int .i64 0, .int .i64 x92, .int .i64 0, .bool ((rd (rd a0 (0 : Int)) x92).Kind == (4 : Int)), .string (bs ([] : Str)), .slice none 0 0] Tryd.underlying38 ty38 (by as_aux_lemma => kernel_rfl) rfl (by as_aux_lemma => kernel_rfl)) rfl ?_)))))
          refine W_bslice S #[.int .u8 1, .int .i64 0, .int .i64 x92, .int .i64 0, .bool false, .string (bs ([] : Str)), .slice none 0 0, .int .u8 2, .int .i64 0, .int .i64 x92, .int .i64 0, .bool false, .string (bs ([] : Str)), .slice none 0 0, .int .u8 3, .int .i64 0, .int .i64 x92, .int .i64 0, .bool ((rd (rd a0 (0 : Int)) x92).Kind == (4 : Int)), .string (bs ([] : Str)), .slice none 0 0] Tryd.underlying39 ty38 rfl rfl #[.int .u8 0, .int .i64 0, .int .i64 0, .int .i64 0, .bool false, .string (bs ([] : Str)), .slice none 0 0, .int .u8 0, .int .i64 0, .int .i64 0, .int .i64 0, .bool false, .string (bs ([] : Str)), .slice none 0 0, .int .u8 0, .int .i64 0, .int .i64 0, .int .i64 0, .bool false, .string (bs ([] : Str)), .slice none 0 0] (by as_aux_lemma => kernel_rfl) (by as_aux_lemma => kernel_rfl) rfl ?_
          intro b163 w164 E' S
          replace E := E.trans E'
          replace S := S.blk_row (r := r_api_Event) (l := ([(⟨(1 : Int), (0 : Int), x92, ⟨(0 : Int), false, ([] : Str), ([] : (List api_Pair))⟩⟩ : api_Event), (⟨(2 : Int), (0 : Int), x92, ⟨(0 : Int), false, ([] : Str), ([] : (List api_Pair))⟩⟩ : api_Event), (⟨(3 : Int), (0 : Int), x92, ⟨(0 : Int), ((rd (rd a0 (0 : Int)) x92).Kind == (4 : Int)), ([] : Str), ([] : (List api_Pair))⟩⟩ : api_Event)] : List api_Event)) 0 rfl 3 (Nat.le_refl 3) rfl (Cells.cons (vs := [.int .u8 1, .int .i64 0, .int .i64 x92, .int .i64 0, .bool false, .string (bs ([] : Str)), .slice none 0 0]) (⟨_, (SlW.nil _ _), rfl⟩) (Cells.cons (vs := [.int .u8 2, .int .i64 0, .int .i64 x92, .int .i64 0, .bool false, .string (bs ([] : Str)), .slice none 0 0]) (⟨_, (SlW.nil _ _), rfl⟩) (Cells.cons (vs := [.int .u8 3, .int .i64 0, .int .i64 x92, .int .i64 0, .bool ((rd (rd a0 (0 : Int)) x92).Kind == (4 : Int)), .string (bs ([] : Str)), .slice none 0 0]) (⟨_, (SlW.nil _ _), rfl⟩) Cells.nil)))
          obtain ⟨x166, he167, H⟩ := bindS H
          replace he167 := Option.some.inj he167
          rw [he167] at S
          refine Eq.mpr (congrArg (fun z => Wl _ _ _ _ _ _ (upd _ _ z) _) (show Value.slice (some ⟨b163, 0, none⟩) 3 3 = Value.slice (some ⟨b163, 0, none⟩) x166.length 3 from (by rw [← he167]; rfl))) ?_
          obtain ⟨p168, H⟩ := chkS H
          obtain ⟨src169, hs170, hC171⟩ := src_of_read (P := Tryd.prog) (ρ := r_api_Event) (l := x166) (S.row_read 0 rfl) (by decide)
          refine W_append S 1 rfl rfl rfl Tryd.underlying39 (.inl Tryd.underlying39) ty38 rfl (by decide) (by decide) hs170 hC171 rfl (by omega) rfl ?_
          intro v172 w173 E' S
          replace E := E.trans E'
          obtain ⟨A174, c175, rfl, _⟩ := (S.row_read 1 rfl).form
          refine W_v (.slice A174 (x88 ++ x166).length c175) (x_assign rfl) rfl (Wl_nil (bn (tn (Wp_region_lit (W_v (.int .i64 x92) (x_move rfl) rfl (W_v (.int .i64 (IntKind.i64.wrap (x92 + (1 : Int)))) (x_ibin rfl rfl rfl rfl) rfl (W_v (.int .i64 (IntKind.i64.wrap (x92 + (1 : Int)))) (x_assign rfl) rfl (Wl_nil (tn ?_)))))))))
          exact ⟨k, Nat.lt_succ_self k, ⟨(x88 ++ x166), (IntKind.i64.wrap (x92 + (1 : Int))), A174, c175, H, ⟨rfl, rfl, rfl, rfl, trivial⟩, E, S.pick [1] (by decide)⟩⟩
        refine Wp_cond_false (congrArg Value.bool hb138) ?_
        refine Wp_exit ?_
        refine tx (tx (bsm (?_)))
        refine tn ?_
        exact ⟨x88, A89, c90, Option.some.inj H, ⟨rfl, trivial⟩, E, S.pick [0] (by decide)⟩
  rintro ρ w176 ⟨x131, A132, c133, rfl, hρ, E, S⟩
  rw [agree_eta hρ]
  have H := o135H
  refine tn ?_
  as_aux_lemma =>
  refine Wp_seq (Wp_region_lit (W_v (.slice A132 x131.length c133) (x_move rfl) rfl (W_v (.slice A132 x131.length c133) (x_assign rfl) rfl (Wl_nil (tn ?_)))))
  refine Wp_ret ?_
  obtain rfl := Option.some.inj H
  exact ⟨_, _, _, fun w1 e1 => run_resR (vs := [.slice A132 x131.length c133]) (FA.cons (rfl) (FA.nil)), HM, E, S.pick [0] (by decide), ⟨A132, c133, rfl, rfl⟩⟩
def ferrymanlaw30_works (k : Nat)  : Option (Bool) :=
  (Option.bind (ferrymanlaw30_small k ) (fun t1 => (Option.bind (α := List api_Call) (some ([(⟨(1 : Int), (0 : Int), ([] : Str), ([] : Str), ([] : Str), (0 : Int), (0 : Int)⟩ : api_Call), (⟨(3 : Int), (1 : Int), ([97] : Str), ([] : Str), ([] : Str), (0 : Int), (0 : Int)⟩ : api_Call)] : List api_Call)) (fun x11 => (Option.bind (room_Bound k t1) (fun t19 => (Option.bind (ferrymanlaw30_run k ([x11] : List (List api_Call)) (2 : Int)) (fun t25 => (Option.bind (α := Bool) (if ((t19.1 == (5 : Int)) && (t19.2 == (3 : Int))) = true then (Option.bind (room_Steps k t1 (1 : Int)) (fun t222 => some ((t222 == (3 : Int))))) else some (false)) (fun x220 => (Option.bind (α := Bool) (if x220 = true then (Option.bind (room_Steps k t1 (2 : Int)) (fun t232 => some ((t232 == (93 : Int))))) else some (false)) (fun x230 => (Option.bind (α := Bool) (if x230 = true then (Option.bind (room_Steps k t1 (6 : Int)) (fun t242 => some ((t242 == (97 : Int))))) else some (false)) (fun x240 => (Option.bind (α := Bool) (if x240 = true then (Option.bind (room_Steps k t1 (5 : Int)) (fun t252 => some ((t252 == (215 : Int))))) else some (false)) (fun x250 => (Option.bind (α := Bool) (if x250 = true then (Option.bind (room_Rounds k t1) (fun t262 => some ((t262 == (215 : Int))))) else some (false)) (fun x260 => (Option.bind (α := Bool) (if x260 = true then (if 0 ≤ (5 : Int) ∧ (5 : Int) ≤ (t25.length : Int) then (Option.bind (ferrymanlaw30_is k t1 ([x11] : List (List api_Call)) (List.take (5 : Int).toNat t25) (3 : Int) (2 : Int)) (fun t282 => some (t282))) else none) else some (false)) (fun x275 => (Option.bind (α := Bool) (if x275 = true then (Option.bind (ferrymanlaw30_is k t1 ([x11] : List (List api_Call)) t25 (1 : Int) (1 : Int)) (fun t292 => some (t292))) else some (false)) (fun x290 => some x290))))))))))))))))))))))
set_option maxHeartbeats 2000000 in
theorem ferrymanlaw30_works.mono {k : Nat}  : OLe (ferrymanlaw30_works k ) (ferrymanlaw30_works (k + 1) ) := by
  unfold ferrymanlaw30_works
  repeat' (first | with_reducible exact OLe.none | with_reducible exact OLe.some | with_reducible refine OLe.ite ?_ ?_ | with_reducible refine OLe.bind ?_ (fun _ => ?_) | with_reducible exact ferrymanlaw30_is.mono | with_reducible exact ferrymanlaw30_run.mono | with_reducible exact ferrymanlaw30_small.mono | with_reducible exact room_Bound.mono | with_reducible exact room_Rounds.mono | with_reducible exact room_Steps.mono | refine OLe.bind ?_ (fun _ => ?_) | refine OLe.ite ?_ ?_ | refine OLe.elim (fun _ => ?_) (fun _ => ?_) | split)
set_option maxHeartbeats 1000000 in
set_option maxRecDepth 100000 in
theorem ferrymanlaw30_works.con (k : Nat) (M : Hp)  (r : Bool)  (hg0 : ∃ gt fr, M 0 = some (.cells #[.nilFunc, .func (.func 92) #[] #[], .func (.func 93) #[] #[], .func (.func 94) #[] #[], .func (.func 95) #[] #[], .func (.func 96) #[] #[], .func (.func 97) #[] #[], .func (.func 98) #[] #[], .func (.func 99) #[] #[], .func (.func 100) #[] #[]] gt fr)) (hg1 : ∃ gt fr, M 1 = some (.cells #[.nilFunc, .func (.func 114) #[] #[], .func (.func 116) #[] #[], .func (.func 118) #[] #[]] gt fr)) (h : ferrymanlaw30_works k  = some r) : Con Tryd.prog 10 #[] M [] (fun v M' Γ' => v = .bool r ∧ Γ' = []) := by
  refine con_of_wp Tryd.func10 rfl Tryd.ntmps10 Tryd.results10 rfl ?_
  intro w F rn S hrn
  have E := Ext.refl w
  have HM := Hp.le_refl M
  have H := h
  unfold ferrymanlaw30_works at H
  refine Wp_seq (Wp_region_lit (W_v (.bool false) (x_assign rfl) rfl (Wl_nil (tn (Wp_seq (Wp_region_lit ?_))))))
  obtain ⟨t1, ht2, H⟩ := bindS H
  refine W_callF fn8 (ferrymanlaw30_small.con k M  t1  ht2) S rfl rfl (by rintro _ _ _ ⟨_, rfl⟩; exact flat_nil) ?_
  rintro _ w3 _ Γ' E' S ⟨rfl, rfl⟩
  replace E := E.trans E'
  refine W_alloc S #[.int .i64 0, .int .i64 0, .int .i64 0, .int .i64 0, .int .i64 0, .int .i64 0, .int .i64 0, .int .i64 0] ty23 rfl rfl ?_
  intro b4 w5 E' S
  replace E := E.trans E'
  refine W_store S 0 rfl ty23 rfl rfl [.int .i64 t1.Tasks, .int .i64 t1.Active, .int .i64 t1.Keys, .int .i64 t1.Depth, .int .i64 t1.TS, .int .i64 t1.KeyLen, .int .i64 t1.ValLen, .int .i64 t1.Fan] rfl rfl rfl #[.int .i64 t1.Tasks, .int .i64 t1.Active, .int .i64 t1.Keys, .int .i64 t1.Depth, .int .i64 t1.TS, .int .i64 t1.KeyLen, .int .i64 t1.ValLen, .int .i64 t1.Fan] (by as_aux_lemma => kernel_rfl) rfl ?_
  intro w7 E' S
  replace E := E.trans E'
  refine Wl_nil (tn (Wp_seq (Wp_region_lit (W_v (.agg #[.int .u8 1, .int .i64 0, .string (bs ([] : Str)), .string (bs ([] : Str)), .string (bs ([] : Str)), .int .i64 0, .int .u8 0]) (x_build2 (pl := [(0, 1), (1, 1), (2, 1), (3, 1), (4, 1), (5, 1), (6, 1)]) #[.int .u8 1, .int .i64 0, .string (bs ([] : Str)), .string (bs ([] : Str)), .string (bs ([] : Str)), .int .i64 0, .int .u8 0] Tryd.underlying42 ty42 (by as_aux_lemma => kernel_rfl) rfl (by as_aux_lemma => kernel_rfl)) rfl (W_v (.agg #[.int .u8 3, .int .i64 1, .string (bs ([97] : Str)), .string (bs ([] : Str)), .string (bs ([] : Str)), .int .i64 0, .int .u8 0]) (x_build2 (pl := [(0, 1), (1, 1), (2, 1), (3, 1), (4, 1), (5, 1), (6, 1)]) #[.int .u8 3, .int .i64 1, .string (bs ([97] : Str)), .string (bs ([] : Str)), .string (bs ([] : Str)), .int .i64 0, .int .u8 0] Tryd.underlying42 ty42 (by as_aux_lemma => kernel_rfl) rfl (by as_aux_lemma => kernel_rfl)) rfl ?_)))))
  refine W_bslice S #[.int .u8 1, .int .i64 0, .string (bs ([] : Str)), .string (bs ([] : Str)), .string (bs ([] : Str)), .int .i64 0, .int .u8 0, .int .u8 3, .int .i64 1, .string (bs ([97] : Str)), .string (bs ([] : Str)), .string (bs ([] : Str)), .int .i64 0, .int .u8 0] Tryd.underlying43 ty42 rfl rfl #[.int .u8 0, .int .i64 0, .string (bs ([] : Str)), .string (bs ([] : Str)), .string (bs ([] : Str)), .int .i64 0, .int .u8 0, .int .u8 0, .int .i64 0, .string (bs ([] : Str)), .string (bs ([] : Str)), .string (bs ([] : Str)), .int .i64 0, .int .u8 0] (by as_aux_lemma => kernel_rfl) (by as_aux_lemma => kernel_rfl) rfl ?_
  intro b8 w9 E' S
  replace E := E.trans E'
  replace S := S.blk_row (r := r_api_Call) (l := ([(⟨(1 : Int), (0 : Int), ([] : Str), ([] : Str), ([] : Str), (0 : Int), (0 : Int)⟩ : api_Call), (⟨(3 : Int), (1 : Int), ([97] : Str), ([] : Str), ([] : Str), (0 : Int), (0 : Int)⟩ : api_Call)] : List api_Call)) 0 rfl 2 (Nat.le_refl 2) rfl (Cells.cons (vs := [.int .u8 1, .int .i64 0, .string (bs ([] : Str)), .string (bs ([] : Str)), .string (bs ([] : Str)), .int .i64 0, .int .u8 0]) (rfl) (Cells.cons (vs := [.int .u8 3, .int .i64 1, .string (bs ([97] : Str)), .string (bs ([] : Str)), .string (bs ([] : Str)), .int .i64 0, .int .u8 0]) (rfl) Cells.nil))
  obtain ⟨x11, he12, H⟩ := bindS H
  replace he12 := Option.some.inj he12
  try unfold B23 at S
  rw [he12] at S
  refine Eq.mpr (congrArg (fun z => Wl _ _ _ _ _ _ (upd _ _ z) _) (show Value.slice (some ⟨b8, 0, none⟩) 2 2 = Value.slice (some ⟨b8, 0, none⟩) x11.length 2 from (by rw [← he12]; rfl))) ?_
  obtain ⟨M13, hM14, hf15, S⟩ := S.row_freeze 0 rfl
  replace hg0 : ∃ gt fr, _ := (let ⟨gt, fr, h8⟩ := hg0; ⟨gt, fr, hM14 _ _ h8⟩)
  replace hg1 : ∃ gt fr, _ := (let ⟨gt, fr, h8⟩ := hg1; ⟨gt, fr, hM14 _ _ h8⟩)
  replace HM := Hp.le_trans HM hM14
  refine W_bslice S #[.slice (some ⟨b8, 0, none⟩) x11.length 2] Tryd.underlying44 ty43 rfl rfl #[.slice none 0 0] (by as_aux_lemma => kernel_rfl) (by as_aux_lemma => kernel_rfl) rfl ?_
  intro b16 w17 E' S
  replace E := E.trans E'
  replace S := S.blk_row (r := (rSl r_api_Call)) (l := ([x11] : List (List api_Call))) 0 rfl 1 (Nat.le_refl 1) rfl (Cells.cons (vs := [.slice (some ⟨b8, 0, none⟩) x11.length 2]) (⟨_, hf15, rfl⟩) Cells.nil)
  refine W_v (.slice (some ⟨b16, 0, none⟩) ([x11] : List (List api_Call)).length 1) (x_assign rfl) rfl (Wl_nil (tn (Wp_seq (Wp_region_lit (W_v (.agg #[.int .i64 t1.Tasks, .int .i64 t1.Active, .int .i64 t1.Keys, .int .i64 t1.Depth, .int .i64 t1.TS, .int .i64 t1.KeyLen, .int .i64 t1.ValLen, .int .i64 t1.Fan]) (x_loadA (S.blk 1 rfl) ty23 rfl (sub_of_extract rfl) rfl rfl) rfl ?_)))))
  obtain ⟨t19, ht20, H⟩ := bindS H
  refine W_callF fn9 (room_Bound.con k M13 t1 t19  ht20) S rfl rfl (by rintro _ _ _ ⟨_, rfl⟩; exact flat_nil) ?_
  rintro _ w21 _ Γ' E' S ⟨rfl, rfl⟩
  replace E := E.trans E'
  refine W_v (.tuple #[.int .i64 t19.1, .int .i64 t19.2]) (x_move rfl) rfl (W_v (.int .i64 t19.1) (x_extract rfl rfl) rfl (W_v (.int .i64 t19.2) (x_extract rfl rfl) rfl (W_v (.int .i64 t19.1) (x_assign rfl) rfl (W_v (.int .i64 t19.2) (x_assign rfl) rfl (Wl_nil (tn ?_))))))
  as_aux_lemma =>
  refine Wp_seq (Wp_region_lit (W_v (.slice (some ⟨b16, 0, none⟩) ([x11] : List (List api_Call)).length 1) (x_move rfl) rfl ?_))
  obtain ⟨M22, hM23, hf24, S⟩ := S.row_freeze 0 rfl
  replace hg0 : ∃ gt fr, _ := (let ⟨gt, fr, h8⟩ := hg0; ⟨gt, fr, hM23 _ _ h8⟩)
  replace hg1 : ∃ gt fr, _ := (let ⟨gt, fr, h8⟩ := hg1; ⟨gt, fr, hM23 _ _ h8⟩)
  replace HM := Hp.le_trans HM hM23
  replace hf15 := SlR.mono hf15 hM23
  obtain ⟨t25, ht26, H⟩ := bindS H
  refine W_call fn15 (ferrymanlaw30_run.con k M22 (some ⟨b16, 0, none⟩) 1 ([x11] : List (List api_Call)) (2 : Int) t25 hf24 ht26) (Γ1 := []) (Γ2 := [_]) S rfl rfl ?_
  rintro _ w30 M31 Γ' hM32 E' S ⟨A27, c28, rfl, rfl⟩
  replace hg0 : ∃ gt fr, _ := (let ⟨gt, fr, h8⟩ := hg0; ⟨gt, fr, hM32 _ _ h8⟩)
  replace hg1 : ∃ gt fr, _ := (let ⟨gt, fr, h8⟩ := hg1; ⟨gt, fr, hM32 _ _ h8⟩)
  replace HM := Hp.le_trans HM hM32
  replace hf15 := SlR.mono hf15 hM32
  replace hf24 := SlR.mono hf24 hM32
  replace E := E.trans E'
  refine W_v (.slice A27 t25.length c28) (x_assign rfl) rfl (Wl_nil (tn (Wp_seq ?_)))
  obtain ⟨M129, hM130, hf131, S⟩ := S.row_freeze 0 rfl
  replace hg0 : ∃ gt fr, _ := (let ⟨gt, fr, h8⟩ := hg0; ⟨gt, fr, hM130 _ _ h8⟩)
  replace hg1 : ∃ gt fr, _ := (let ⟨gt, fr, h8⟩ := hg1; ⟨gt, fr, hM130 _ _ h8⟩)
  replace HM := Hp.le_trans HM hM130
  replace hf15 := SlR.mono hf15 hM130
  replace hf24 := SlR.mono hf24 hM130
  refine Wp_region_any (S := fun w' => ∃ Mx, M129.le Mx ∧ St w' Mx F [B23 b4 t1]) (L := 45) mixed ?_
  intro w213 hw214 E'
  replace S := S.heap hw214
  replace E := E.trans E'
  have D1 : ∃ Mx, Hp.le M129 Mx ∧ St _ Mx F [_] := ⟨_, Hp.le_refl _, S.pick [0] (by decide)⟩
  refine Wa_take (i := 0) rfl (by kernel_rfl) rfl rfl (.int .i64 t19.1) rfl (fun w' h' => x_move rfl) D1 (Wa_take (i := 1) rfl (by kernel_rfl) rfl rfl (.bool (t19.1 == (5 : Int))) rfl (fun w' h' => x_ibin rfl rfl rfl rfl) D1 (Wa_take (i := 2) rfl (by kernel_rfl) rfl rfl (.bool (t19.1 == (5 : Int))) rfl (fun w' h' => x_move rfl) D1 ?_))
  refine Wa_join (fun ρ w' => Agree ρ [(0, .bool false), (1, pt b4 0), (2, .slice (some ⟨b16, 0, none⟩) ([x11] : List (List api_Call)).length 1), (5, .slice A27 t25.length c28), (23, .bool ((t19.1 == (5 : Int)) && (t19.2 == (3 : Int))))] ∧ w213 = w') 39 (Ls 45 [0, 1, 2, 3, 4, 5]) ?_ ?_
  rotate_left
  · intro hrest
    rcases boolCases (t19.1 == (5 : Int)) with hb215 | hb215
    · skip
      have D2 : ∃ Mx, Hp.le M129 Mx ∧ St _ Mx F [_] := ⟨_, Hp.le_refl _, S.pick [0] (by decide)⟩
      refine Wa_takeN (i := 3) rfl (by kernel_rfl) rfl rfl rfl (skT hb215) D2 (Wa_takeN (i := 4) rfl (by kernel_rfl) rfl rfl rfl (skT hb215) D2 (Wa_take (i := 5) rfl (by kernel_rfl) rfl rfl (.bool false) rfl (fun w' h' => x_pick (k := false) (congrArg Value.bool hb215) rfl) D2 ?_))
      exact hrest _ _ ⟨⟨rfl, rfl, rfl, rfl, (by first | rfl | (rw [hb215]; rfl) | (simp only [hb215]; rfl)), trivial⟩, rfl⟩
    · skip
      have D3 : ∃ Mx, Hp.le M129 Mx ∧ St _ Mx F [_] := ⟨_, Hp.le_refl _, S.pick [0] (by decide)⟩
      refine Wa_takeY (i := 3) rfl (by kernel_rfl) rfl rfl (.int .i64 t19.2) rfl (congrArg some hb215) (fun w' h' => x_move rfl) D3 (Wa_takeY (i := 4) rfl (by kernel_rfl) rfl rfl (.bool (t19.2 == (3 : Int))) rfl (congrArg some hb215) (fun w' h' => x_ibin rfl rfl rfl rfl) D3 (Wa_take (i := 5) rfl (by kernel_rfl) rfl rfl (.bool (t19.2 == (3 : Int))) rfl (fun w' h' => x_pick (k := true) (congrArg Value.bool hb215) rfl) D3 ?_))
      exact hrest _ _ ⟨⟨rfl, rfl, rfl, rfl, (by first | rfl | (rw [hb215]; rfl) | (simp only [hb215]; rfl)), trivial⟩, rfl⟩
  rintro ρ _ ⟨hρ, rfl⟩
  rw [agree_eta hρ]
  refine Wa_take (i := 6) rfl (by kernel_rfl) rfl rfl (.bool ((t19.1 == (5 : Int)) && (t19.2 == (3 : Int)))) rfl (fun w' h' => x_move rfl) (⟨M129, Hp.le_refl M129, (S.pick [0] (by decide))⟩) ?_
  obtain ⟨o221, o221h, o221H⟩ := bindS H
  refine Wa_join (fun ρ w' => ∃ (x220 : Bool), (x220) = o221 ∧ Agree ρ [(0, .bool false), (1, pt b4 0), (2, .slice (some ⟨b16, 0, none⟩) ([x11] : List (List api_Call)).length 1), (5, .slice A27 t25.length c28), (28, .bool x220)] ∧ Ext w w' ∧ St w' M129 F [B23 b4 t1]) 34 (Ls 45 [0, 1, 2, 3, 4, 5, 6, 7, 8, 9, 10]) ?_ ?_
  rotate_left
  · intro hrest
    have H := o221h
    rcases iteS H with ⟨hb219, H⟩ | ⟨hb219, H⟩
    · skip
      refine Wa_takeY (i := 7) rfl (by kernel_rfl) rfl rfl (.agg #[.int .i64 t1.Tasks, .int .i64 t1.Active, .int .i64 t1.Keys, .int .i64 t1.Depth, .int .i64 t1.TS, .int .i64 t1.KeyLen, .int .i64 t1.ValLen, .int .i64 t1.Fan]) rfl (congrArg some hb219) (fun w' h' => x_loadA (cls_blk h' 0 rfl) ty23 rfl (sub_of_extract rfl) rfl rfl) (⟨M129, Hp.le_refl M129, (S.pick [0] (by decide))⟩) ?_
      refine Wa_solo (i := 8) rfl (by kernel_rfl) ?_
      refine W_yes (congrArg some hb219) ?_
      obtain ⟨t222, ht223, H⟩ := bindS H
      refine W_callF fn11 (room_Steps.con k M129 t1 (1 : Int) t222  ht223) S rfl rfl (by rintro _ _ _ ⟨_, rfl⟩; exact flat_nil) ?_
      rintro _ w224 _ Γ' E' S ⟨rfl, rfl⟩
      replace E := E.trans E'
      refine Wl_nil (on_n ⟨.inr ⟨M129, Hp.le_refl M129, (S.pick [0] (by decide))⟩, ?_⟩)
      have D6 : ∃ Mx, Hp.le M129 Mx ∧ St _ Mx F [_] := ⟨_, Hp.le_refl _, S.pick [0] (by decide)⟩
      refine Wa_takeY (i := 9) rfl (by kernel_rfl) rfl rfl (.bool (t222 == (3 : Int))) rfl (congrArg some hb219) (fun w' h' => x_ibin rfl rfl rfl rfl) D6 (Wa_take (i := 10) rfl (by kernel_rfl) rfl rfl (.bool (t222 == (3 : Int))) rfl (fun w' h' => x_pick (k := true) (congrArg Value.bool hb219) rfl) D6 ?_)
      exact hrest _ _ ⟨(t222 == (3 : Int)), Option.some.inj H, ⟨rfl, rfl, rfl, rfl, rfl, trivial⟩, E, S.pick [0] (by decide)⟩
    · skip
      have D7 : ∃ Mx, Hp.le M129 Mx ∧ St _ Mx F [_] := ⟨_, Hp.le_refl _, S.pick [0] (by decide)⟩
      refine Wa_takeN (i := 7) rfl (by kernel_rfl) rfl rfl rfl (skT hb219) D7 (Wa_takeN (i := 8) rfl (by kernel_rfl) rfl rfl rfl (skT hb219) D7 (Wa_takeN (i := 9) rfl (by kernel_rfl) rfl rfl rfl (skT hb219) D7 (Wa_take (i := 10) rfl (by kernel_rfl) rfl rfl (.bool false) rfl (fun w' h' => x_pick (k := false) (congrArg Value.bool hb219) rfl) D7 ?_)))
      exact hrest _ _ ⟨false, Option.some.inj H, ⟨rfl, rfl, rfl, rfl, rfl, trivial⟩, E, S.pick [0] (by decide)⟩
  rintro ρ w225 ⟨x220, rfl, hρ, E, S⟩
  rw [agree_eta hρ]
  have H := o221H
  refine Wa_take (i := 11) rfl (by kernel_rfl) rfl rfl (.bool x220) rfl (fun w' h' => x_move rfl) (⟨M129, Hp.le_refl M129, (S.pick [0] (by decide))⟩) ?_
  obtain ⟨o231, o231h, o231H⟩ := bindS H
  refine Wa_join (fun ρ w' => ∃ (x230 : Bool), (x230) = o231 ∧ Agree ρ [(0, .bool false), (1, pt b4 0), (2, .slice (some ⟨b16, 0, none⟩) ([x11] : List (List api_Call)).length 1), (5, .slice A27 t25.length c28), (33, .bool x230)] ∧ Ext w w' ∧ St w' M129 F [B23 b4 t1]) 29 (Ls 45 [0, 1, 2, 3, 4, 5, 6, 7, 8, 9, 10, 11, 12, 13, 14, 15]) ?_ ?_
  rotate_left
  · intro hrest
    have H := o231h
    rcases iteS H with ⟨hb229, H⟩ | ⟨hb229, H⟩
    · skip
      refine Wa_takeY (i := 12) rfl (by kernel_rfl) rfl rfl (.agg #[.int .i64 t1.Tasks, .int .i64 t1.Active, .int .i64 t1.Keys, .int .i64 t1.Depth, .int .i64 t1.TS, .int .i64 t1.KeyLen, .int .i64 t1.ValLen, .int .i64 t1.Fan]) rfl (congrArg some hb229) (fun w' h' => x_loadA (cls_blk h' 0 rfl) ty23 rfl (sub_of_extract rfl) rfl rfl) (⟨M129, Hp.le_refl M129, (S.pick [0] (by decide))⟩) ?_
      refine Wa_solo (i := 13) rfl (by kernel_rfl) ?_
      refine W_yes (congrArg some hb229) ?_
      obtain ⟨t232, ht233, H⟩ := bindS H
      refine W_callF fn11 (room_Steps.con k M129 t1 (2 : Int) t232  ht233) S rfl rfl (by rintro _ _ _ ⟨_, rfl⟩; exact flat_nil) ?_
      rintro _ w234 _ Γ' E' S ⟨rfl, rfl⟩
      replace E := E.trans E'
      refine Wl_nil (on_n ⟨.inr ⟨M129, Hp.le_refl M129, (S.pick [0] (by decide))⟩, ?_⟩)
      have D10 : ∃ Mx, Hp.le M129 Mx ∧ St _ Mx F [_] := ⟨_, Hp.le_refl _, S.pick [0] (by decide)⟩
      refine Wa_takeY (i := 14) rfl (by kernel_rfl) rfl rfl (.bool (t232 == (93 : Int))) rfl (congrArg some hb229) (fun w' h' => x_ibin rfl rfl rfl rfl) D10 (Wa_take (i := 15) rfl (by kernel_rfl) rfl rfl (.bool (t232 == (93 : Int))) rfl (fun w' h' => x_pick (k := true) (congrArg Value.bool hb229) rfl) D10 ?_)
      exact hrest _ _ ⟨(t232 == (93 : Int)), Option.some.inj H, ⟨rfl, rfl, rfl, rfl, rfl, trivial⟩, E, S.pick [0] (by decide)⟩
    · skip
      have D11 : ∃ Mx, Hp.le M129 Mx ∧ St _ Mx F [_] := ⟨_, Hp.le_refl _, S.pick [0] (by decide)⟩
      refine Wa_takeN (i := 12) rfl (by kernel_rfl) rfl rfl rfl (skT hb229) D11 (Wa_takeN (i := 13) rfl (by kernel_rfl) rfl rfl rfl (skT hb229) D11 (Wa_takeN (i := 14) rfl (by kernel_rfl) rfl rfl rfl (skT hb229) D11 (Wa_take (i := 15) rfl (by kernel_rfl) rfl rfl (.bool false) rfl (fun w' h' => x_pick (k := false) (congrArg Value.bool hb229) rfl) D11 ?_)))
      exact hrest _ _ ⟨false, Option.some.inj H, ⟨rfl, rfl, rfl, rfl, rfl, trivial⟩, E, S.pick [0] (by decide)⟩
  rintro ρ w235 ⟨x230, rfl, hρ, E, S⟩
  rw [agree_eta hρ]
  have H := o231H
  refine Wa_take (i := 16) rfl (by kernel_rfl) rfl rfl (.bool x230) rfl (fun w' h' => x_move rfl) (⟨M129, Hp.le_refl M129, (S.pick [0] (by decide))⟩) ?_
  obtain ⟨o241, o241h, o241H⟩ := bindS H
  refine Wa_join (fun ρ w' => ∃ (x240 : Bool), (x240) = o241 ∧ Agree ρ [(0, .bool false), (1, pt b4 0), (2, .slice (some ⟨b16, 0, none⟩) ([x11] : List (List api_Call)).length 1), (5, .slice A27 t25.length c28), (38, .bool x240)] ∧ Ext w w' ∧ St w' M129 F [B23 b4 t1]) 24 (Ls 45 [0, 1, 2, 3, 4, 5, 6, 7, 8, 9, 10, 11, 12, 13, 14, 15, 16, 17, 18, 19, 20]) ?_ ?_
  rotate_left
  · intro hrest
    have H := o241h
    rcases iteS H with ⟨hb239, H⟩ | ⟨hb239, H⟩
    · skip
      refine Wa_takeY (i := 17) rfl (by kernel_rfl) rfl rfl (.agg #[.int .i64 t1.Tasks, .int .i64 t1.Active, .int .i64 t1.Keys, .int .i64 t1.Depth, .int .i64 t1.TS, .int .i64 t1.KeyLen, .int .i64 t1.ValLen, .int .i64 t1.Fan]) rfl (congrArg some hb239) (fun w' h' => x_loadA (cls_blk h' 0 rfl) ty23 rfl (sub_of_extract rfl) rfl rfl) (⟨M129, Hp.le_refl M129, (S.pick [0] (by decide))⟩) ?_
      refine Wa_solo (i := 18) rfl (by kernel_rfl) ?_
      refine W_yes (congrArg some hb239) ?_
      obtain ⟨t242, ht243, H⟩ := bindS H
      refine W_callF fn11 (room_Steps.con k M129 t1 (6 : Int) t242  ht243) S rfl rfl (by rintro _ _ _ ⟨_, rfl⟩; exact flat_nil) ?_
      rintro _ w244 _ Γ' E' S ⟨rfl, rfl⟩
      replace E := E.trans E'
      refine Wl_nil (on_n ⟨.inr ⟨M129, Hp.le_refl M129, (S.pick [0] (by decide))⟩, ?_⟩)
      have D14 : ∃ Mx, Hp.le M129 Mx ∧ St _ Mx F [_] := ⟨_, Hp.le_refl _, S.pick [0] (by decide)⟩
      refine Wa_takeY (i := 19) rfl (by kernel_rfl) rfl rfl (.bool (t242 == (97 : Int))) rfl (congrArg some hb239) (fun w' h' => x_ibin rfl rfl rfl rfl) D14 (Wa_take (i := 20) rfl (by kernel_rfl) rfl rfl (.bool (t242 == (97 : Int))) rfl (fun w' h' => x_pick (k := true) (congrArg Value.bool hb239) rfl) D14 ?_)
      exact hrest _ _ ⟨(t242 == (97 : Int)), Option.some.inj H, ⟨rfl, rfl, rfl, rfl, rfl, trivial⟩, E, S.pick [0] (by decide)⟩
    · skip
      have D15 : ∃ Mx, Hp.le M129 Mx ∧ St _ Mx F [_] := ⟨_, Hp.le_refl _, S.pick [0] (by decide)⟩
      refine Wa_takeN (i := 17) rfl (by kernel_rfl) rfl rfl rfl (skT hb239) D15 (Wa_takeN (i := 18) rfl (by kernel_rfl) rfl rfl rfl (skT hb239) D15 (Wa_takeN (i := 19) rfl (by kernel_rfl) rfl rfl rfl (skT hb239) D15 (Wa_take (i := 20) rfl (by kernel_rfl) rfl rfl (.bool false) rfl (fun w' h' => x_pick (k := false) (congrArg Value.bool hb239) rfl) D15 ?_)))
      exact hrest _ _ ⟨false, Option.some.inj H, ⟨rfl, rfl, rfl, rfl, rfl, trivial⟩, E, S.pick [0] (by decide)⟩
  rintro ρ w245 ⟨x240, rfl, hρ, E, S⟩
  rw [agree_eta hρ]
  have H := o241H
  refine Wa_take (i := 21) rfl (by kernel_rfl) rfl rfl (.bool x240) rfl (fun w' h' => x_move rfl) (⟨M129, Hp.le_refl M129, (S.pick [0] (by decide))⟩) ?_
  obtain ⟨o251, o251h, o251H⟩ := bindS H
  refine Wa_join (fun ρ w' => ∃ (x250 : Bool), (x250) = o251 ∧ Agree ρ [(0, .bool false), (1, pt b4 0), (2, .slice (some ⟨b16, 0, none⟩) ([x11] : List (List api_Call)).length 1), (5, .slice A27 t25.length c28), (43, .bool x250)] ∧ Ext w w' ∧ St w' M129 F [B23 b4 t1]) 19 (Ls 45 [0, 1, 2, 3, 4, 5, 6, 7, 8, 9, 10, 11, 12, 13, 14, 15, 16, 17, 18, 19, 20, 21, 22, 23, 24, 25]) ?_ ?_
  rotate_left
  · intro hrest
    have H := o251h
    rcases iteS H with ⟨hb249, H⟩ | ⟨hb249, H⟩
    · skip
      refine Wa_takeY (i := 22) rfl (by kernel_rfl) rfl rfl (.agg #[.int .i64 t1.Tasks, .int .i64 t1.Active, .int .i64 t1.Keys, .int .i64 t1.Depth, .int .i64 t1.TS, .int .i64 t1.KeyLen, .int .i64 t1.ValLen, .int .i64 t1.Fan]) rfl (congrArg some hb249) (fun w' h' => x_loadA (cls_blk h' 0 rfl) ty23 rfl (sub_of_extract rfl) rfl rfl) (⟨M129, Hp.le_refl M129, (S.pick [0] (by decide))⟩) ?_
      refine Wa_solo (i := 23) rfl (by kernel_rfl) ?_
      refine W_yes (congrArg some hb249) ?_
      obtain ⟨t252, ht253, H⟩ := bindS H
      refine W_callF fn11 (room_Steps.con k M129 t1 (5 : Int) t252  ht253) S rfl rfl (by rintro _ _ _ ⟨_, rfl⟩; exact flat_nil) ?_
      rintro _ w254 _ Γ' E' S ⟨rfl, rfl⟩
      replace E := E.trans E'
      refine Wl_nil (on_n ⟨.inr ⟨M129, Hp.le_refl M129, (S.pick [0] (by decide))⟩, ?_⟩)
      have D18 : ∃ Mx, Hp.le M129 Mx ∧ St _ Mx F [_] := ⟨_, Hp.le_refl _, S.pick [0] (by decide)⟩
      refine Wa_takeY (i := 24) rfl (by kernel_rfl) rfl rfl (.bool (t252 == (215 : Int))) rfl (congrArg some hb249) (fun w' h' => x_ibin rfl rfl rfl rfl) D18 (Wa_take (i := 25) rfl (by kernel_rfl) rfl rfl (.bool (t252 == (215 : Int))) rfl (fun w' h' => x_pick (k := true) (congrArg Value.bool hb249) rfl) D18 ?_)
      exact hrest _ _ ⟨(t252 == (215 : Int)), Option.some.inj H, ⟨rfl, rfl, rfl, rfl, rfl, trivial⟩, E, S.pick [0] (by decide)⟩
    · skip
      have D19 : ∃ Mx, Hp.le M129 Mx ∧ St _ Mx F [_] := ⟨_, Hp.le_refl _, S.pick [0] (by decide)⟩
      refine Wa_takeN (i := 22) rfl (by kernel_rfl) rfl rfl rfl (skT hb249) D19 (Wa_takeN (i := 23) rfl (by kernel_rfl) rfl rfl rfl (skT hb249) D19 (Wa_takeN (i := 24) rfl (by kernel_rfl) rfl rfl rfl (skT hb249) D19 (Wa_take (i := 25) rfl (by kernel_rfl) rfl rfl (.bool false) rfl (fun w' h' => x_pick (k := false) (congrArg Value.bool hb249) rfl) D19 ?_)))
      exact hrest _ _ ⟨false, Option.some.inj H, ⟨rfl, rfl, rfl, rfl, rfl, trivial⟩, E, S.pick [0] (by decide)⟩
  rintro ρ w255 ⟨x250, rfl, hρ, E, S⟩
  rw [agree_eta hρ]
  have H := o251H
  refine Wa_take (i := 26) rfl (by kernel_rfl) rfl rfl (.bool x250) rfl (fun w' h' => x_move rfl) (⟨M129, Hp.le_refl M129, (S.pick [0] (by decide))⟩) ?_
  obtain ⟨o261, o261h, o261H⟩ := bindS H
  refine Wa_join (fun ρ w' => ∃ (x260 : Bool), (x260) = o261 ∧ Agree ρ [(0, .bool false), (1, pt b4 0), (2, .slice (some ⟨b16, 0, none⟩) ([x11] : List (List api_Call)).length 1), (5, .slice A27 t25.length c28), (48, .bool x260)] ∧ Ext w w' ∧ St w' M129 F [B23 b4 t1]) 14 (Ls 45 [0, 1, 2, 3, 4, 5, 6, 7, 8, 9, 10, 11, 12, 13, 14, 15, 16, 17, 18, 19, 20, 21, 22, 23, 24, 25, 26, 27, 28, 29, 30]) ?_ ?_
  rotate_left
  · intro hrest
    have H := o261h
    rcases iteS H with ⟨hb259, H⟩ | ⟨hb259, H⟩
    · skip
      refine Wa_takeY (i := 27) rfl (by kernel_rfl) rfl rfl (.agg #[.int .i64 t1.Tasks, .int .i64 t1.Active, .int .i64 t1.Keys, .int .i64 t1.Depth, .int .i64 t1.TS, .int .i64 t1.KeyLen, .int .i64 t1.ValLen, .int .i64 t1.Fan]) rfl (congrArg some hb259) (fun w' h' => x_loadA (cls_blk h' 0 rfl) ty23 rfl (sub_of_extract rfl) rfl rfl) (⟨M129, Hp.le_refl M129, (S.pick [0] (by decide))⟩) ?_
      refine Wa_solo (i := 28) rfl (by kernel_rfl) ?_
      refine W_yes (congrArg some hb259) ?_
      obtain ⟨t262, ht263, H⟩ := bindS H
      refine W_callF fn12 (room_Rounds.con k M129 t1 t262  ht263) S rfl rfl (by rintro _ _ _ ⟨_, rfl⟩; exact flat_nil) ?_
      rintro _ w264 _ Γ' E' S ⟨rfl, rfl⟩
      replace E := E.trans E'
      refine Wl_nil (on_n ⟨.inr ⟨M129, Hp.le_refl M129, (S.pick [0] (by decide))⟩, ?_⟩)
      have D22 : ∃ Mx, Hp.le M129 Mx ∧ St _ Mx F [_] := ⟨_, Hp.le_refl _, S.pick [0] (by decide)⟩
      refine Wa_takeY (i := 29) rfl (by kernel_rfl) rfl rfl (.bool (t262 == (215 : Int))) rfl (congrArg some hb259) (fun w' h' => x_ibin rfl rfl rfl rfl) D22 (Wa_take (i := 30) rfl (by kernel_rfl) rfl rfl (.bool (t262 == (215 : Int))) rfl (fun w' h' => x_pick (k := true) (congrArg Value.bool hb259) rfl) D22 ?_)
      exact hrest _ _ ⟨(t262 == (215 : Int)), Option.some.inj H, ⟨rfl, rfl, rfl, rfl, rfl, trivial⟩, E, S.pick [0] (by decide)⟩
    · skip
      have D23 : ∃ Mx, Hp.le M129 Mx ∧ St _ Mx F [_] := ⟨_, Hp.le_refl _, S.pick [0] (by decide)⟩
      refine Wa_takeN (i := 27) rfl (by kernel_rfl) rfl rfl rfl (skT hb259) D23 (Wa_takeN (i := 28) rfl (by kernel_rfl) rfl rfl rfl (skT hb259) D23 (Wa_takeN (i := 29) rfl (by kernel_rfl) rfl rfl rfl (skT hb259) D23 (Wa_take (i := 30) rfl (by kernel_rfl) rfl rfl (.bool false) rfl (fun w' h' => x_pick (k := false) (congrArg Value.bool hb259) rfl) D23 ?_)))
      exact hrest _ _ ⟨false, Option.some.inj H, ⟨rfl, rfl, rfl, rfl, rfl, trivial⟩, E, S.pick [0] (by decide)⟩
  rintro ρ w265 ⟨x260, rfl, hρ, E, S⟩
  rw [agree_eta hρ]
  have H := o261H
  refine Wa_take (i := 31) rfl (by kernel_rfl) rfl rfl (.bool x260) rfl (fun w' h' => x_move rfl) (⟨M129, Hp.le_refl M129, (S.pick [0] (by decide))⟩) ?_
  obtain ⟨o276, o276h, o276H⟩ := bindS H
  refine Wa_join (fun ρ w' => ∃ (x275 : Bool), (x275) = o276 ∧ Agree ρ [(0, .bool false), (1, pt b4 0), (2, .slice (some ⟨b16, 0, none⟩) ([x11] : List (List api_Call)).length 1), (5, .slice A27 t25.length c28), (55, .bool x275)] ∧ Ext w w' ∧ St w' M129 F [B23 b4 t1]) 7 (Ls 45 [0, 1, 2, 3, 4, 5, 6, 7, 8, 9, 10, 11, 12, 13, 14, 15, 16, 17, 18, 19, 20, 21, 22, 23, 24, 25, 26, 27, 28, 29, 30, 31, 32, 33, 34, 35, 36, 37]) ?_ ?_
  rotate_left
  · intro hrest
    have H := o276h
    rcases iteS H with ⟨hb274, H⟩ | ⟨hb274, H⟩
    · skip
      have D25 : ∃ Mx, Hp.le M129 Mx ∧ St _ Mx F [_] := ⟨_, Hp.le_refl _, S.pick [0] (by decide)⟩
      refine Wa_takeY (i := 32) rfl (by kernel_rfl) rfl rfl (.agg #[.int .i64 t1.Tasks, .int .i64 t1.Active, .int .i64 t1.Keys, .int .i64 t1.Depth, .int .i64 t1.TS, .int .i64 t1.KeyLen, .int .i64 t1.ValLen, .int .i64 t1.Fan]) rfl (congrArg some hb274) (fun w' h' => x_loadA (cls_blk h' 0 rfl) ty23 rfl (sub_of_extract rfl) rfl rfl) D25 (Wa_takeY (i := 33) rfl (by kernel_rfl) rfl rfl (.slice (some ⟨b16, 0, none⟩) ([x11] : List (List api_Call)).length 1) rfl (congrArg some hb274) (fun w' h' => x_move rfl) D25 (Wa_takeY (i := 34) rfl (by kernel_rfl) rfl rfl (.slice A27 t25.length c28) rfl (congrArg some hb274) (fun w' h' => x_move rfl) D25 ?_))
      obtain ⟨⟨p277, p278⟩, H⟩ := chkS H
      obtain ⟨hs280, hx281⟩ := sl_hi hf131 p277 p278
      have hs280z := hs280
      refine Wa_takeY (i := 35) rfl (by kernel_rfl) rfl rfl (.slice A27 (List.take (5 : Int).toNat t25).length c28) rfl (congrArg some hb274) (fun w' h' => hx281 Tryd.underlying39 ty38 rfl rfl) D25 ?_
      refine Wa_solo (i := 36) rfl (by kernel_rfl) ?_
      refine W_yes (congrArg some hb274) ?_
      obtain ⟨t282, ht283, H⟩ := bindS H
      refine W_callF fn14 (ferrymanlaw30_is.con k M129 t1 (some ⟨b16, 0, none⟩) 1 ([x11] : List (List api_Call)) A27 c28 (List.take (5 : Int).toNat t25) (3 : Int) (2 : Int) t282 hf24 hs280 hg0 hg1 ht283) S rfl rfl (by rintro _ _ _ ⟨_, rfl⟩; exact flat_nil) ?_
      rintro _ w284 _ Γ' E' S ⟨rfl, rfl⟩
      replace E := E.trans E'
      refine Wl_nil (on_n ⟨.inr ⟨M129, Hp.le_refl M129, (S.pick [0] (by decide))⟩, ?_⟩)
      refine Wa_take (i := 37) rfl (by kernel_rfl) rfl rfl (.bool t282) rfl (fun w' h' => x_pick (k := true) (congrArg Value.bool hb274) rfl) (⟨M129, Hp.le_refl M129, (S.pick [0] (by decide))⟩) ?_
      exact hrest _ _ ⟨t282, Option.some.inj H, ⟨rfl, rfl, rfl, rfl, rfl, trivial⟩, E, S.pick [0] (by decide)⟩
    · skip
      have D27 : ∃ Mx, Hp.le M129 Mx ∧ St _ Mx F [_] := ⟨_, Hp.le_refl _, S.pick [0] (by decide)⟩
      refine Wa_takeN (i := 32) rfl (by kernel_rfl) rfl rfl rfl (skT hb274) D27 (Wa_takeN (i := 33) rfl (by kernel_rfl) rfl rfl rfl (skT hb274) D27 (Wa_takeN (i := 34) rfl (by kernel_rfl) rfl rfl rfl (skT hb274) D27 (Wa_takeN (i := 35) rfl (by kernel_rfl) rfl rfl rfl (skT hb274) D27 (Wa_takeN (i := 36) rfl (by kernel_rfl) rfl rfl rfl (skT hb274) D27 (Wa_take (i := 37) rfl (by kernel_rfl) rfl rfl (.bool false) rfl (fun w' h' => x_pick (k := false) (congrArg Value.bool hb274) rfl) D27 ?_)))))
      exact hrest _ _ ⟨false, Option.some.inj H, ⟨rfl, rfl, rfl, rfl, rfl, trivial⟩, E, S.pick [0] (by decide)⟩
  rintro ρ w285 ⟨x275, rfl, hρ, E, S⟩
  rw [agree_eta hρ]
  have H := o276H
  refine Wa_take (i := 38) rfl (by kernel_rfl) rfl rfl (.bool x275) rfl (fun w' h' => x_move rfl) (⟨M129, Hp.le_refl M129, (S.pick [0] (by decide))⟩) ?_
  obtain ⟨o291, o291h, o291H⟩ := bindS H
  refine Wa_join (fun ρ w' => ∃ (x290 : Bool), (x290) = o291 ∧ Agree ρ [(0, .bool false), (61, .bool x290)] ∧ Ext w w' ∧ St w' M129 F [B23 b4 t1]) 1 (Ls 45 [0, 1, 2, 3, 4, 5, 6, 7, 8, 9, 10, 11, 12, 13, 14, 15, 16, 17, 18, 19, 20, 21, 22, 23, 24, 25, 26, 27, 28, 29, 30, 31, 32, 33, 34, 35, 36, 37, 38, 39, 40, 41, 42, 43]) ?_ ?_
  rotate_left
  · intro hrest
    have H := o291h
    rcases iteS H with ⟨hb289, H⟩ | ⟨hb289, H⟩
    · skip
      have D29 : ∃ Mx, Hp.le M129 Mx ∧ St _ Mx F [_] := ⟨_, Hp.le_refl _, S.pick [0] (by decide)⟩
      refine Wa_takeY (i := 39) rfl (by kernel_rfl) rfl rfl (.agg #[.int .i64 t1.Tasks, .int .i64 t1.Active, .int .i64 t1.Keys, .int .i64 t1.Depth, .int .i64 t1.TS, .int .i64 t1.KeyLen, .int .i64 t1.ValLen, .int .i64 t1.Fan]) rfl (congrArg some hb289) (fun w' h' => x_loadA (cls_blk h' 0 rfl) ty23 rfl (sub_of_extract rfl) rfl rfl) D29 (Wa_takeY (i := 40) rfl (by kernel_rfl) rfl rfl (.slice (some ⟨b16, 0, none⟩) ([x11] : List (List api_Call)).length 1) rfl (congrArg some hb289) (fun w' h' => x_move rfl) D29 (Wa_takeY (i := 41) rfl (by kernel_rfl) rfl rfl (.slice A27 t25.length c28) rfl (congrArg some hb289) (fun w' h' => x_move rfl) D29 ?_))
      refine Wa_solo (i := 42) rfl (by kernel_rfl) ?_
      refine W_yes (congrArg some hb289) ?_
      obtain ⟨t292, ht293, H⟩ := bindS H
      refine W_callF fn14 (ferrymanlaw30_is.con k M129 t1 (some ⟨b16, 0, none⟩) 1 ([x11] : List (List api_Call)) A27 c28 t25 (1 : Int) (1 : Int) t292 hf24 hf131 hg0 hg1 ht293) S rfl rfl (by rintro _ _ _ ⟨_, rfl⟩; exact flat_nil) ?_
      rintro _ w294 _ Γ' E' S ⟨rfl, rfl⟩
      replace E := E.trans E'
      refine Wl_nil (on_n ⟨.inr ⟨M129, Hp.le_refl M129, (S.pick [0] (by decide))⟩, ?_⟩)
      refine Wa_take (i := 43) rfl (by kernel_rfl) rfl rfl (.bool t292) rfl (fun w' h' => x_pick (k := true) (congrArg Value.bool hb289) rfl) (⟨M129, Hp.le_refl M129, (S.pick [0] (by decide))⟩) ?_
      exact hrest _ _ ⟨t292, Option.some.inj H, ⟨rfl, rfl, trivial⟩, E, S.pick [0] (by decide)⟩
    · skip
      have D31 : ∃ Mx, Hp.le M129 Mx ∧ St _ Mx F [_] := ⟨_, Hp.le_refl _, S.pick [0] (by decide)⟩
      refine Wa_takeN (i := 39) rfl (by kernel_rfl) rfl rfl rfl (skT hb289) D31 (Wa_takeN (i := 40) rfl (by kernel_rfl) rfl rfl rfl (skT hb289) D31 (Wa_takeN (i := 41) rfl (by kernel_rfl) rfl rfl rfl (skT hb289) D31 (Wa_takeN (i := 42) rfl (by kernel_rfl) rfl rfl rfl (skT hb289) D31 (Wa_take (i := 43) rfl (by kernel_rfl) rfl rfl (.bool false) rfl (fun w' h' => x_pick (k := false) (congrArg Value.bool hb289) rfl) D31 ?_))))
      exact hrest _ _ ⟨false, Option.some.inj H, ⟨rfl, rfl, trivial⟩, E, S.pick [0] (by decide)⟩
  rintro ρ w295 ⟨x290, rfl, hρ, E, S⟩
  rw [agree_eta hρ]
  have H := o291H
  refine Wa_take (i := 44) rfl (by kernel_rfl) rfl rfl (.bool x290) rfl (fun w' h' => x_assign rfl) (⟨M129, Hp.le_refl M129, (S.pick [0] (by decide))⟩) ?_
  refine Wa_done (by kernel_rfl) ?_
  refine tn ?_
  refine Wp_ret ?_
  obtain rfl := Option.some.inj H
  exact ⟨_, _, _, fun w1 e1 => run_resR (vs := [.bool x290]) (FA.cons (rfl) (FA.nil)), HM, E, S.pick [] (by decide), ⟨rfl, rfl⟩⟩
def ferrymanlaw30_long_l5 (a0 : (List (List api_Call))) (x632 : Int) : Nat → Int → Int → Option ((Int))
  | 0, _, _ => none
  | k + 1, x918, x919 => (if 0 ≤ x632 ∧ x632 < (a0.length : Int) then (if ((decide (x919 < ((rd a0 x632).length : Int))) && (decide (x918 < (8000 : Int)))) = true then (if 0 ≤ x632 ∧ x632 < (a0.length : Int) then (if 0 ≤ x919 ∧ x919 < ((rd a0 x632).length : Int) then ferrymanlaw30_long_l5 a0 x632 k (IntKind.i64.wrap ((IntKind.i64.wrap ((IntKind.i64.wrap ((IntKind.i64.wrap (x918 + (5 : Int))) + (imin (8000 : Int) (((rd (rd a0 x632) x919).Key).length : Int)))) + (imin (8000 : Int) (((rd (rd a0 x632) x919).End).length : Int)))) + (imin (8000 : Int) (((rd (rd a0 x632) x919).Value).length : Int)))) (IntKind.i64.wrap (x919 + (1 : Int))) else none) else none) else some (x918)) else none)
set_option maxHeartbeats 2000000 in
theorem ferrymanlaw30_long_l5.mono {a0 : (List (List api_Call))} {x632 : Int} : ∀ {kl : Nat} {x0 x1}, OLe (ferrymanlaw30_long_l5 a0 x632 kl x0 x1) (ferrymanlaw30_long_l5 a0 x632 (kl + 1) x0 x1) := by
  intro kl
  induction kl with
  | zero => intros; exact OLe.none
  | succ kl ih =>
    intros
    rw [ferrymanlaw30_long_l5.eq_2, ferrymanlaw30_long_l5.eq_2]
    repeat' (first | with_reducible exact OLe.none | with_reducible exact OLe.some | with_reducible refine OLe.ite ?_ ?_ | with_reducible refine OLe.bind ?_ (fun _ => ?_) | exact ih | refine OLe.bind ?_ (fun _ => ?_) | refine OLe.ite ?_ ?_ | refine OLe.elim (fun _ => ?_) (fun _ => ?_) | split)
def ferrymanlaw30_long_l3 (a0 : (List (List api_Call))) : Nat → Int → Int → Option ((Int))
  | 0, _, _ => none
  | k + 1, x631, x632 => (if ((decide (x632 < (a0.length : Int))) && (decide (x631 < (8000 : Int)))) = true then (Option.bind (ferrymanlaw30_long_l5 a0 x632 k (IntKind.i64.wrap (x631 + (1 : Int))) (0 : Int)) (fun x964 => ferrymanlaw30_long_l3 a0 k x964 (IntKind.i64.wrap (x632 + (1 : Int))))) else some (x631))
set_option maxHeartbeats 2000000 in
theorem ferrymanlaw30_long_l3.mono {a0 : (List (List api_Call))} : ∀ {kl : Nat} {x0 x1}, OLe (ferrymanlaw30_long_l3 a0 kl x0 x1) (ferrymanlaw30_long_l3 a0 (kl + 1) x0 x1) := by
  intro kl
  induction kl with
  | zero => intros; exact OLe.none
  | succ kl ih =>
    intros
    rw [ferrymanlaw30_long_l3.eq_2, ferrymanlaw30_long_l3.eq_2]
    repeat' (first | with_reducible exact OLe.none | with_reducible exact OLe.some | with_reducible refine OLe.ite ?_ ?_ | with_reducible refine OLe.bind ?_ (fun _ => ?_) | with_reducible exact ferrymanlaw30_long_l5.mono | exact ih | refine OLe.bind ?_ (fun _ => ?_) | refine OLe.ite ?_ ?_ | refine OLe.elim (fun _ => ?_) (fun _ => ?_) | split)
def ferrymanlaw30_long_l0 (a1 : (List api_Event)) : Nat → Int → Int → Option ((Int))
  | 0, _, _ => none
  | k + 1, x125, x126 => (if ((decide (x126 < (a1.length : Int))) && (decide (x125 < (8000 : Int)))) = true then (if 0 ≤ x126 ∧ x126 < (a1.length : Int) then (if 0 ≤ x126 ∧ x126 < (a1.length : Int) then ferrymanlaw30_long_l0 a1 k (IntKind.i64.wrap ((IntKind.i64.wrap (x125 + (imin (8000 : Int) (((rd a1 x126).Answer.Value).length : Int)))) + (IntKind.i64.wrap ((5 : Int) * (imin (8000 : Int) (((rd a1 x126).Answer.Pairs).length : Int)))))) (IntKind.i64.wrap (x126 + (1 : Int))) else none) else none) else some (x125))
set_option maxHeartbeats 2000000 in
theorem ferrymanlaw30_long_l0.mono {a1 : (List api_Event)} : ∀ {kl : Nat} {x0 x1}, OLe (ferrymanlaw30_long_l0 a1 kl x0 x1) (ferrymanlaw30_long_l0 a1 (kl + 1) x0 x1) := by
  intro kl
  induction kl with
  | zero => intros; exact OLe.none
  | succ kl ih =>
    intros
    rw [ferrymanlaw30_long_l0.eq_2, ferrymanlaw30_long_l0.eq_2]
    repeat' (first | with_reducible exact OLe.none | with_reducible exact OLe.some | with_reducible refine OLe.ite ?_ ?_ | with_reducible refine OLe.bind ?_ (fun _ => ?_) | exact ih | refine OLe.bind ?_ (fun _ => ?_) | refine OLe.ite ?_ ?_ | refine OLe.elim (fun _ => ?_) (fun _ => ?_) | split)
def ferrymanlaw30_long (k : Nat) (a0 : (List (List api_Call))) (a1 : (List api_Event)) : Option (Bool) :=
  (Option.bind (ferrymanlaw30_long_l0 a1 k (IntKind.i64.wrap ((30 : Int) * (imin (1000 : Int) (a1.length : Int)))) (0 : Int)) (fun x187 => (Option.bind (ferrymanlaw30_long_l3 a0 k x187 (0 : Int)) (fun x821 => some (decide (x821 ≥ (8000 : Int)))))))
set_option maxHeartbeats 2000000 in
theorem ferrymanlaw30_long.mono {k : Nat} {a0 : (List (List api_Call))} {a1 : (List api_Event)} : OLe (ferrymanlaw30_long k a0 a1) (ferrymanlaw30_long (k + 1) a0 a1) := by
  unfold ferrymanlaw30_long
  repeat' (first | with_reducible exact OLe.none | with_reducible exact OLe.some | with_reducible refine OLe.ite ?_ ?_ | with_reducible refine OLe.bind ?_ (fun _ => ?_) | with_reducible exact ferrymanlaw30_long_l0.mono | with_reducible exact ferrymanlaw30_long_l3.mono | refine OLe.bind ?_ (fun _ => ?_) | refine OLe.ite ?_ ?_ | refine OLe.elim (fun _ => ?_) (fun _ => ?_) | split)
set_option maxHeartbeats 1000000 in
set_option maxRecDepth 100000 in
theorem ferrymanlaw30_long.con (k : Nat) (M : Hp) (A0 : Option Addr) (c0 : Nat) (a0 : (List (List api_Call))) (A1 : Option Addr) (c1 : Nat) (a1 : (List api_Event)) (r : Bool) (hr0 : SlR (rSl r_api_Call) M (.slice A0 a0.length c0) a0) (hr1 : SlR r_api_Event M (.slice A1 a1.length c1) a1) (h : ferrymanlaw30_long k a0 a1 = some r) : Con Tryd.prog 16 #[.slice A0 a0.length c0, .slice A1 a1.length c1] M [] (fun v M' Γ' => v = .bool r ∧ Γ' = []) := by
  refine con_of_wp Tryd.func16 rfl Tryd.ntmps16 Tryd.results16 rfl ?_
  intro w F rn S hrn
  have E := Ext.refl w
  have HM := Hp.le_refl M
  have H := h
  unfold ferrymanlaw30_long at H
  refine Wp_seq (Wp_region_lit (W_v (.bool false) (x_assign rfl) rfl (Wl_nil (tn (Wp_seq (Wp_region_lit (W_v (.slice A1 a1.length c1) (x_move rfl) rfl (W_v (.int .i64 (a1.length : Int)) (x_len_slice (n := a1.length) Tryd.underlying39 rfl) rfl (W_v (.int .i64 (imin (1000 : Int) (a1.length : Int))) (x_min2 rfl rfl) rfl (W_v (.int .i64 (IntKind.i64.wrap ((30 : Int) * (imin (1000 : Int) (a1.length : Int))))) (x_ibin rfl rfl rfl rfl) rfl (W_v (.int .i64 (IntKind.i64.wrap ((30 : Int) * (imin (1000 : Int) (a1.length : Int))))) (x_assign rfl) rfl (Wl_nil (tn (Wp_seq (Wp_seq ?_)))))))))))))))
  refine Wp_region_lit (W_v (.int .i64 0) (x_assign rfl) rfl (Wl_nil (tn ?_)))
  obtain ⟨o188, o188h, o188H⟩ := bindS H
  refine Wp_blockJ (fun ρ w' => ∃ (x187 : Int), (x187) = o188 ∧ Agree ρ [(0, .slice A0 a0.length c0), (5, .int .i64 x187)] ∧ Ext w w' ∧ St w' M F []) ?_ ?_
  · skip
    refine Wp_loop (fun n ρ w' => ∃ (x125 : Int) (x126 : Int), ferrymanlaw30_long_l0 a1 n x125 x126 = some o188 ∧ Agree ρ [(0, .slice A0 a0.length c0), (1, .slice A1 a1.length c1), (5, .int .i64 x125), (6, .int .i64 x126)] ∧ Ext w w' ∧ St w' M F []) k ?_ ?_
    · skip
      exact ⟨(IntKind.i64.wrap ((30 : Int) * (imin (1000 : Int) (a1.length : Int)))), (0 : Int), o188h, ⟨rfl, rfl, rfl, rfl, trivial⟩, E, S.pick [] (by decide)⟩
    · intro n
      rintro ρ w189 ⟨x125, x126, H, hρ, E, S⟩
      rw [agree_eta hρ]
      cases n with
      | zero => cases H
      | succ k =>
        rw [ferrymanlaw30_long_l0.eq_2] at H
        refine Wp_seq (Wp_seq (Wp_region_lit (W_v (.int .i64 x126) (x_move rfl) rfl (W_v (.slice A1 a1.length c1) (x_move rfl) rfl (W_v (.int .i64 (a1.length : Int)) (x_len_slice (n := a1.length) Tryd.underlying39 rfl) rfl (W_v (.bool (decide (x126 < (a1.length : Int)))) (x_ibin rfl rfl rfl rfl) rfl (W_v (.bool (decide (x126 < (a1.length : Int)))) (x_move rfl) rfl ?_)))))))
        refine Wl_cutN 3 (fun ρ w' => Agree ρ [(0, .slice A0 a0.length c0), (1, .slice A1 a1.length c1), (5, .int .i64 x125), (6, .int .i64 x126), (21, .bool ((decide (x126 < (a1.length : Int))) && (decide (x125 < (8000 : Int)))))] ∧ w189 = w') ?_ ?_
        · rcases boolCases (decide (x126 < (a1.length : Int))) with hb190 | hb190
          · skip
            refine W_no (skT hb190) rfl (W_no (skT hb190) rfl (W_v (.bool false) (x_pick (k := false) (congrArg Value.bool hb190) rfl) rfl (Wl_nil ?_)))
            exact ⟨⟨rfl, rfl, rfl, rfl, (by first | rfl | (rw [hb190]; rfl) | (simp only [hb190]; rfl)), trivial⟩, rfl⟩
          · skip
            refine W_yes (congrArg some hb190) (W_v (.int .i64 x125) (x_move rfl) rfl (W_yes (congrArg some hb190) (W_v (.bool (decide (x125 < (8000 : Int)))) (x_ibin rfl rfl rfl rfl) rfl (W_v (.bool (decide (x125 < (8000 : Int)))) (x_pick (k := true) (congrArg Value.bool hb190) rfl) rfl (Wl_nil ?_)))))
            exact ⟨⟨rfl, rfl, rfl, rfl, (by first | rfl | (rw [hb190]; rfl) | (simp only [hb190]; rfl)), trivial⟩, rfl⟩
        as_aux_lemma =>
        rintro ρ _ ⟨hρ, rfl⟩
        rw [agree_eta hρ]
        refine Wl_nil (tn ?_)
        rcases iteS H with ⟨hb191, H⟩ | ⟨hb191, H⟩
        · refine Wp_cond_true (congrArg Value.bool hb191) ?_
          refine Wp_skip (tn (Wp_seq ?_))
          refine Wp_block ?_
          refine Wp_region_any (S := fun w' => ∃ Mx, M.le Mx ∧ St w' Mx F []) (L := 21) mixed ?_
          intro w220 hw221 E'
          replace S := S.heap hw221
          replace E := E.trans E'
          have D1 : ∃ Mx, Hp.le M Mx ∧ St _ Mx F [] := ⟨_, Hp.le_refl _, S.pick [] (by decide)⟩
          refine Wa_take (i := 0) rfl (by kernel_rfl) rfl rfl (.int .i64 x125) rfl (fun w' h' => x_move rfl) D1 (Wa_take (i := 1) rfl (by kernel_rfl) rfl rfl (.slice A1 a1.length c1) rfl (fun w' h' => x_move rfl) D1 (Wa_take (i := 2) rfl (by kernel_rfl) rfl rfl (.int .i64 x126) rfl (fun w' h' => x_move rfl) D1 ?_))
          obtain ⟨⟨p222, p223⟩, H⟩ := chkS H
          obtain ⟨b224, o225, cs226, _, _, ee231, hb227, vs228, hR229, hc230⟩ := SlW.at' hr1 p222 p223
          obtain ⟨v235, hs234, rfl⟩ := hR229
          obtain ⟨A232, c233, rfl, _⟩ := hs234.form
          have hs234z := hs234
          refine Wa_take (i := 3) rfl (by kernel_rfl) rfl rfl (.pointer (some ⟨b224, o225 + x126.toNat * 7, none⟩)) rfl (fun w' h' => x_indexAddr Tryd.underlying39 ty38 (slA ee231) rfl p222 p223) D1 (Wa_take (i := 4) rfl (by kernel_rfl) rfl rfl (.pointer (some ⟨b224, o225 + x126.toNat * 7 + 3, none⟩)) rfl (fun w' h' => x_fieldAddr (o := o225 + x126.toNat * 7) (off := 3) Tryd.underlying38 rfl ty36 rfl rfl) D1 (Wa_take (i := 5) rfl (by kernel_rfl) rfl rfl (.pointer (some ⟨b224, o225 + x126.toNat * 7 + 3 + 2, none⟩)) rfl (fun w' h' => x_fieldAddr (o := o225 + x126.toNat * 7 + 3) (off := 2) Tryd.underlying36 rfl ty9 rfl rfl) D1 (Wa_take (i := 6) rfl (by kernel_rfl) rfl rfl (.string (bs ((rd a1 x126).Answer.Value))) rfl (fun w' h' => x_load (cls_frz h' hb227) ty9 rfl (hc230 5 _ rfl)) D1 (Wa_take (i := 7) rfl (by kernel_rfl) rfl rfl (.int .i64 (((rd a1 x126).Answer.Value).length : Int)) rfl (fun w' h' => x_len_str Tryd.underlying9 rfl) D1 (Wa_take (i := 8) rfl (by kernel_rfl) rfl rfl (.int .i64 (imin (8000 : Int) (((rd a1 x126).Answer.Value).length : Int))) rfl (fun w' h' => x_min2 rfl rfl) D1 (Wa_take (i := 9) rfl (by kernel_rfl) rfl rfl (.int .i64 (IntKind.i64.wrap (x125 + (imin (8000 : Int) (((rd a1 x126).Answer.Value).length : Int))))) rfl (fun w' h' => x_ibin rfl rfl rfl rfl) D1 (Wa_take (i := 10) rfl (by kernel_rfl) rfl rfl (.slice A1 a1.length c1) rfl (fun w' h' => x_move rfl) D1 (Wa_take (i := 11) rfl (by kernel_rfl) rfl rfl (.int .i64 x126) rfl (fun w' h' => x_move rfl) D1 ?_))))))))
          obtain ⟨⟨p236, p237⟩, H⟩ := chkS H
          obtain ⟨b238, o239, cs240, _, _, ee245, hb241, vs242, hR243, hc244⟩ := SlW.at' hr1 p236 p237
          obtain ⟨v249, hs248, rfl⟩ := hR243
          obtain ⟨A246, c247, rfl, _⟩ := hs248.form
          have hs248z := hs248
          refine Wa_take (i := 12) rfl (by kernel_rfl) rfl rfl (.pointer (some ⟨b238, o239 + x126.toNat * 7, none⟩)) rfl (fun w' h' => x_indexAddr Tryd.underlying39 ty38 (slA ee245) rfl p236 p237) D1 (Wa_take (i := 13) rfl (by kernel_rfl) rfl rfl (.pointer (some ⟨b238, o239 + x126.toNat * 7 + 3, none⟩)) rfl (fun w' h' => x_fieldAddr (o := o239 + x126.toNat * 7) (off := 3) Tryd.underlying38 rfl ty36 rfl rfl) D1 (Wa_take (i := 14) rfl (by kernel_rfl) rfl rfl (.pointer (some ⟨b238, o239 + x126.toNat * 7 + 3 + 3, none⟩)) rfl (fun w' h' => x_fieldAddr (o := o239 + x126.toNat * 7 + 3) (off := 3) Tryd.underlying36 rfl ty34 rfl rfl) D1 (Wa_take (i := 15) rfl (by kernel_rfl) rfl rfl (.slice A246 ((rd a1 x126).Answer.Pairs).length c247) rfl (fun w' h' => x_load (cls_frz h' hb241) ty34 rfl (hc244 6 _ rfl)) D1 (Wa_take (i := 16) rfl (by kernel_rfl) rfl rfl (.int .i64 (((rd a1 x126).Answer.Pairs).length : Int)) rfl (fun w' h' => x_len_slice (n := ((rd a1 x126).Answer.Pairs).length) Tryd.underlying34 rfl) D1 (Wa_take (i := 17) rfl (by kernel_rfl) rfl rfl (.int .i64 (imin (8000 : Int) (((rd a1 x126).Answer.Pairs).length : Int))) rfl (fun w' h' => x_min2 rfl rfl) D1 (Wa_take (i := 18) rfl (by kernel_rfl) rfl rfl (.int .i64 (IntKind.i64.wrap ((5 : Int) * (imin (8000 : Int) (((rd a1 x126).Answer.Pairs).length : Int))))) rfl (fun w' h' => x_ibin rfl rfl rfl rfl) D1 (Wa_take (i := 19) rfl (by kernel_rfl) rfl rfl (.int .i64 (IntKind.i64.wrap ((IntKind.i64.wrap (x125 + (imin (8000 : Int) (((rd a1 x126).Answer.Value).length : Int)))) + (IntKind.i64.wrap ((5 : Int) * (imin (8000 : Int) (((rd a1 x126).Answer.Pairs).length : Int))))))) rfl (fun w' h' => x_ibin rfl rfl rfl rfl) D1 (Wa_take (i := 20) rfl (by kernel_rfl) rfl rfl (.int .i64 (IntKind.i64.wrap ((IntKind.i64.wrap (x125 + (imin (8000 : Int) (((rd a1 x126).Answer.Value).length : Int)))) + (IntKind.i64.wrap ((5 : Int) * (imin (8000 : Int) (((rd a1 x126).Answer.Pairs).length : Int))))))) rfl (fun w' h' => x_assign rfl) D1 ?_))))))))
          refine Wa_done (by kernel_rfl) ?_
          refine bn (tn (Wp_region_lit (W_v (.int .i64 x126) (x_move rfl) rfl (W_v (.int .i64 (IntKind.i64.wrap (x126 + (1 : Int)))) (x_ibin rfl rfl rfl rfl) rfl (W_v (.int .i64 (IntKind.i64.wrap (x126 + (1 : Int)))) (x_assign rfl) rfl (Wl_nil (tn ?_)))))))
          exact ⟨k, Nat.lt_succ_self k, ⟨(IntKind.i64.wrap ((IntKind.i64.wrap (x125 + (imin (8000 : Int) (((rd a1 x126).Answer.Value).length : Int)))) + (IntKind.i64.wrap ((5 : Int) * (imin (8000 : Int) (((rd a1 x126).Answer.Pairs).length : Int)))))), (IntKind.i64.wrap (x126 + (1 : Int))), H, ⟨rfl, rfl, rfl, rfl, trivial⟩, E, S.pick [] (by decide)⟩⟩
        refine Wp_cond_false (congrArg Value.bool hb191) ?_
        refine Wp_exit ?_
        refine tx (tx (bsm (?_)))
        refine tn ?_
        exact ⟨x125, Option.some.inj H, ⟨rfl, rfl, trivial⟩, E, S.pick [] (by decide)⟩
  rintro ρ w250 ⟨x187, rfl, hρ, E, S⟩
  rw [agree_eta hρ]
  have H := o188H
  refine tn ?_
  as_aux_lemma =>
  refine Wp_seq (Wp_seq (Wp_region_lit (W_v (.int .i64 0) (x_assign rfl) rfl (Wl_nil (tn ?_)))))
  obtain ⟨o822, o822h, o822H⟩ := bindS H
  refine Wp_blockJ (fun ρ w' => ∃ (x821 : Int), (x821) = o822 ∧ Agree ρ [(5, .int .i64 x821)] ∧ Ext w w' ∧ St w' M F []) ?_ ?_
  · skip
    refine Wp_loop (fun n ρ w' => ∃ (x631 : Int) (x632 : Int), ferrymanlaw30_long_l3 a0 n x631 x632 = some o822 ∧ Agree ρ [(0, .slice A0 a0.length c0), (5, .int .i64 x631), (7, .int .i64 x632)] ∧ Ext w w' ∧ St w' M F []) k ?_ ?_
    · skip
      exact ⟨x187, (0 : Int), o822h, ⟨rfl, rfl, rfl, trivial⟩, E, S.pick [] (by decide)⟩
    · intro n
      rintro ρ w823 ⟨x631, x632, H, hρ, E, S⟩
      rw [agree_eta hρ]
      cases n with
      | zero => cases H
      | succ k =>
        rw [ferrymanlaw30_long_l3.eq_2] at H
        refine Wp_seq (Wp_seq (Wp_region_lit (W_v (.int .i64 x632) (x_move rfl) rfl (W_v (.slice A0 a0.length c0) (x_move rfl) rfl (W_v (.int .i64 (a0.length : Int)) (x_len_slice (n := a0.length) Tryd.underlying44 rfl) rfl (W_v (.bool (decide (x632 < (a0.length : Int)))) (x_ibin rfl rfl rfl rfl) rfl (W_v (.bool (decide (x632 < (a0.length : Int)))) (x_move rfl) rfl ?_)))))))
        refine Wl_cutN 3 (fun ρ w' => Agree ρ [(0, .slice A0 a0.length c0), (5, .int .i64 x631), (7, .int .i64 x632), (51, .bool ((decide (x632 < (a0.length : Int))) && (decide (x631 < (8000 : Int)))))] ∧ w823 = w') ?_ ?_
        · rcases boolCases (decide (x632 < (a0.length : Int))) with hb824 | hb824
          · skip
            refine W_no (skT hb824) rfl (W_no (skT hb824) rfl (W_v (.bool false) (x_pick (k := false) (congrArg Value.bool hb824) rfl) rfl (Wl_nil ?_)))
            exact ⟨⟨rfl, rfl, rfl, (by first | rfl | (rw [hb824]; rfl) | (simp only [hb824]; rfl)), trivial⟩, rfl⟩
          · skip
            refine W_yes (congrArg some hb824) (W_v (.int .i64 x631) (x_move rfl) rfl (W_yes (congrArg some hb824) (W_v (.bool (decide (x631 < (8000 : Int)))) (x_ibin rfl rfl rfl rfl) rfl (W_v (.bool (decide (x631 < (8000 : Int)))) (x_pick (k := true) (congrArg Value.bool hb824) rfl) rfl (Wl_nil ?_)))))
            exact ⟨⟨rfl, rfl, rfl, (by first | rfl | (rw [hb824]; rfl) | (simp only [hb824]; rfl)), trivial⟩, rfl⟩
        as_aux_lemma =>
        rintro ρ _ ⟨hρ, rfl⟩
        rw [agree_eta hρ]
        refine Wl_nil (tn ?_)
        rcases iteS H with ⟨hb825, H⟩ | ⟨hb825, H⟩
        · refine Wp_cond_true (congrArg Value.bool hb825) ?_
          refine Wp_skip (tn (Wp_seq ?_))
          refine Wp_block ?_
          refine Wp_seq (Wp_region_lit (W_v (.int .i64 x631) (x_move rfl) rfl (W_v (.int .i64 (IntKind.i64.wrap (x631 + (1 : Int)))) (x_ibin rfl rfl rfl rfl) rfl (W_v (.int .i64 (IntKind.i64.wrap (x631 + (1 : Int)))) (x_assign rfl) rfl (Wl_nil (tn (Wp_seq (Wp_region_lit (W_v (.int .i64 0) (x_assign rfl) rfl (Wl_nil (tn ?_)))))))))))
          obtain ⟨o965, o965h, o965H⟩ := bindS H
          refine Wp_blockJ (fun ρ w' => ∃ (x964 : Int), (x964) = o965 ∧ Agree ρ [(0, .slice A0 a0.length c0), (5, .int .i64 x964), (7, .int .i64 x632)] ∧ Ext w w' ∧ St w' M F []) ?_ ?_
          · skip
            refine Wp_loop (fun n ρ w' => ∃ (x918 : Int) (x919 : Int), ferrymanlaw30_long_l5 a0 x632 n x918 x919 = some o965 ∧ Agree ρ [(0, .slice A0 a0.length c0), (5, .int .i64 x918), (7, .int .i64 x632), (8, .int .i64 x919)] ∧ Ext w w' ∧ St w' M F []) k ?_ ?_
            · skip
              exact ⟨(IntKind.i64.wrap (x631 + (1 : Int))), (0 : Int), o965h, ⟨rfl, rfl, rfl, rfl, trivial⟩, E, S.pick [] (by decide)⟩
            · intro n
              rintro ρ w966 ⟨x918, x919, H, hρ, E, S⟩
              rw [agree_eta hρ]
              cases n with
              | zero => cases H
              | succ k =>
                rw [ferrymanlaw30_long_l5.eq_2] at H
                refine Wp_seq (Wp_seq (Wp_region_lit (W_v (.int .i64 x919) (x_move rfl) rfl (W_v (.slice A0 a0.length c0) (x_move rfl) rfl (W_v (.int .i64 x632) (x_move rfl) rfl ?_)))))
                obtain ⟨⟨p967, p968⟩, H⟩ := chkS H
                obtain ⟨b969, o970, cs971, _, _, ee976, hb972, vs973, hR974, hc975⟩ := SlW.at' hr0 p967 p968
                obtain ⟨v980, hs979, rfl⟩ := hR974
                obtain ⟨A977, c978, rfl, _⟩ := hs979.form
                refine W_v (.pointer (some ⟨b969, o970 + x632.toNat * 1, none⟩)) (x_indexAddr Tryd.underlying44 ty43 (slA ee976) rfl p967 p968) rfl (W_v (.slice A977 (rd a0 x632).length c978) (x_load (S.frz hb972) ty43 rfl (hc975 0 _ rfl)) rfl (W_v (.int .i64 ((rd a0 x632).length : Int)) (x_len_slice (n := (rd a0 x632).length) Tryd.underlying43 rfl) rfl (W_v (.bool (decide (x919 < ((rd a0 x632).length : Int)))) (x_ibin rfl rfl rfl rfl) rfl (W_v (.bool (decide (x919 < ((rd a0 x632).length : Int)))) (x_move rfl) rfl ?_))))
                refine Wl_cutN 3 (fun ρ w' => Agree ρ [(0, .slice A0 a0.length c0), (5, .int .i64 x918), (7, .int .i64 x632), (8, .int .i64 x919), (66, .bool ((decide (x919 < ((rd a0 x632).length : Int))) && (decide (x918 < (8000 : Int)))))] ∧ w966 = w') ?_ ?_
                · rcases boolCases (decide (x919 < ((rd a0 x632).length : Int))) with hb981 | hb981
                  · skip
                    refine W_no (skT hb981) rfl (W_no (skT hb981) rfl (W_v (.bool false) (x_pick (k := false) (congrArg Value.bool hb981) rfl) rfl (Wl_nil ?_)))
                    exact ⟨⟨rfl, rfl, rfl, rfl, (by first | rfl | (rw [hb981]; rfl) | (simp only [hb981]; rfl)), trivial⟩, rfl⟩
                  · skip
                    refine W_yes (congrArg some hb981) (W_v (.int .i64 x918) (x_move rfl) rfl (W_yes (congrArg some hb981) (W_v (.bool (decide (x918 < (8000 : Int)))) (x_ibin rfl rfl rfl rfl) rfl (W_v (.bool (decide (x918 < (8000 : Int)))) (x_pick (k := true) (congrArg Value.bool hb981) rfl) rfl (Wl_nil ?_)))))
                    exact ⟨⟨rfl, rfl, rfl, rfl, (by first | rfl | (rw [hb981]; rfl) | (simp only [hb981]; rfl)), trivial⟩, rfl⟩
                as_aux_lemma =>
                rintro ρ _ ⟨hρ, rfl⟩
                rw [agree_eta hρ]
                refine Wl_nil (tn ?_)
                rcases iteS H with ⟨hb982, H⟩ | ⟨hb982, H⟩
                · refine Wp_cond_true (congrArg Value.bool hb982) ?_
                  refine Wp_skip (tn (Wp_seq ?_))
                  refine Wp_block ?_
                  refine Wp_seq (Wp_region_lit (W_v (.slice A0 a0.length c0) (x_move rfl) rfl (W_v (.int .i64 x632) (x_move rfl) rfl ?_)))
                  obtain ⟨⟨p983, p984⟩, H⟩ := chkS H
                  obtain ⟨b985, o986, cs987, _, _, ee992, hb988, vs989, hR990, hc991⟩ := SlW.at' hr0 p983 p984
                  obtain ⟨v996, hs995, rfl⟩ := hR990
                  obtain ⟨A993, c994, rfl, _⟩ := hs995.form
                  refine W_v (.pointer (some ⟨b985, o986 + x632.toNat * 1, none⟩)) (x_indexAddr Tryd.underlying44 ty43 (slA ee992) rfl p983 p984) rfl (W_v (.slice A993 (rd a0 x632).length c994) (x_load (S.frz hb988) ty43 rfl (hc991 0 _ rfl)) rfl (W_v (.int .i64 x919) (x_move rfl) rfl ?_))
                  obtain ⟨⟨p997, p998⟩, H⟩ := chkS H
                  obtain ⟨b999, o1000, cs1001, _, _, ee1006, hb1002, vs1003, hR1004, hc1005⟩ := SlW.at' hs995 p997 p998
                  obtain rfl : vs1003 = _ := hR1004
                  refine W_v (.pointer (some ⟨b999, o1000 + x919.toNat * 7, none⟩)) (x_indexAddr Tryd.underlying43 ty42 (slA ee1006) rfl p997 p998) rfl (W_v (.agg #[.int .u8 ((rd (rd a0 x632) x919).Kind), .int .i64 ((rd (rd a0 x632) x919).Tx), .string (bs ((rd (rd a0 x632) x919).Key)), .string (bs ((rd (rd a0 x632) x919).End)), .string (bs ((rd (rd a0 x632) x919).Value)), .int .i64 ((rd (rd a0 x632) x919).Limit), .int .u8 ((rd (rd a0 x632) x919).Engine)]) (x_loadA (S.frz hb1002) ty42 rfl (sub_el hc1005 0 rfl) rfl rfl) rfl ?_)
                  refine W_alloc S #[.int .u8 0, .int .i64 0, .string (bs ([] : Str)), .string (bs ([] : Str)), .string (bs ([] : Str)), .int .i64 0, .int .u8 0] ty42 rfl rfl ?_
                  intro b1007 w1008 E' S
                  replace E := E.trans E'
                  refine W_store S 0 rfl ty42 rfl rfl [.int .u8 ((rd (rd a0 x632) x919).Kind), .int .i64 ((rd (rd a0 x632) x919).Tx), .string (bs ((rd (rd a0 x632) x919).Key)), .string (bs ((rd (rd a0 x632) x919).End)), .string (bs ((rd (rd a0 x632) x919).Value)), .int .i64 ((rd (rd a0 x632) x919).Limit), .int .u8 ((rd (rd a0 x632) x919).Engine)] rfl rfl rfl #[.int .u8 ((rd (rd a0 x632) x919).Kind), .int .i64 ((rd (rd a0 x632) x919).Tx), .string (bs ((rd (rd a0 x632) x919).Key)), .string (bs ((rd (rd a0 x632) x919).End)), .string (bs ((rd (rd a0 x632) x919).Value)), .int .i64 ((rd (rd a0 x632) x919).Limit), .int .u8 ((rd (rd a0 x632) x919).Engine)] (by as_aux_lemma => kernel_rfl) rfl ?_
                  intro w1010 E' S
                  replace E := E.trans E'
                  refine Wl_nil (tn (Wp_region_lit (W_v (.int .i64 x918) (x_move rfl) rfl (W_v (.int .i64 (IntKind.i64.wrap (x918 + (5 : Int)))) (x_ibin rfl rfl rfl rfl) rfl (W_v (pt b1007 2) (x_fieldAddr (o := 0) (off := 2) Tryd.underlying42 rfl ty9 rfl rfl) rfl (W_v (.string (bs ((rd (rd a0 x632) x919).Key))) (x_load (S.blk 0 rfl) ty9 rfl rfl) rfl (W_v (.int .i64 (((rd (rd a0 x632) x919).Key).length : Int)) (x_len_str Tryd.underlying9 rfl) rfl (W_v (.int .i64 (imin (8000 : Int) (((rd (rd a0 x632) x919).Key).length : Int))) (x_min2 rfl rfl) rfl (W_v (.int .i64 (IntKind.i64.wrap ((IntKind.i64.wrap (x918 + (5 : Int))) + (imin (8000 : Int) (((rd (rd a0 x632) x919).Key).length : Int))))) (x_ibin rfl rfl rfl rfl) rfl (W_v (pt b1007 3) (x_fieldAddr (o := 0) (off := 3) Tryd.underlying42 rfl ty9 rfl rfl) rfl (W_v (.string (bs ((rd (rd a0 x632) x919).End))) (x_load (S.blk 0 rfl) ty9 rfl rfl) rfl (W_v (.int .i64 (((rd (rd a0 x632) x919).End).length : Int)) (x_len_str Tryd.underlying9 rfl) rfl (W_v (.int .i64 (imin (8000 : Int) (((rd (rd a0 x632) x919).End).length : Int))) (x_min2 rfl rfl) rfl (W_v (.int .i64 (IntKind.i64.wrap ((IntKind.i64.wrap ((IntKind.i64.wrap (x918 + (5 : Int))) + (imin (8000 : Int) (((rd (rd a0 x632) x919).Key).length : Int)))) + (imin (8000 : Int) (((rd (rd a0 x632) x919).End).length : Int))))) (x_ibin rfl rfl rfl rfl) rfl (W_v (pt b1007 4) (x_fieldAddr (o := 0) (off := 4) Tryd.underlying42 rfl ty9 rfl rfl) rfl ?_)))))))))))))))
                  refine W_v (.string (bs ((rd (rd a0 x632) x919).Value))) (x_load (S.blk 0 rfl) ty9 rfl rfl) rfl (W_v (.int .i64 (((rd (rd a0 x632) x919).Value).length : Int)) (x_len_str Tryd.underlying9 rfl) rfl (W_v (.int .i64 (imin (8000 : Int) (((rd (rd a0 x632) x919).Value).length : Int))) (x_min2 rfl rfl) rfl (W_v (.int .i64 (IntKind.i64.wrap ((IntKind.i64.wrap ((IntKind.i64.wrap ((IntKind.i64.wrap (x918 + (5 : Int))) + (imin (8000 : Int) (((rd (rd a0 x632) x919).Key).length : Int)))) + (imin (8000 : Int) (((rd (rd a0 x632) x919).End).length : Int)))) + (imin (8000 : Int) (((rd (rd a0 x632) x919).Value).length : Int))))) (x_ibin rfl rfl rfl rfl) rfl (W_v (.int .i64 (IntKind.i64.wrap ((IntKind.i64.wrap ((IntKind.i64.wrap ((IntKind.i64.wrap (x918 + (5 : Int))) + (imin (8000 : Int) (((rd (rd a0 x632) x919).Key).length : Int)))) + (imin (8000 : Int) (((rd (rd a0 x632) x919).End).length : Int)))) + (imin (8000 : Int) (((rd (rd a0 x632) x919).Value).length : Int))))) (x_assign rfl) rfl (Wl_nil (bn (tn (Wp_region_lit (W_v (.int .i64 x919) (x_move rfl) rfl (W_v (.int .i64 (IntKind.i64.wrap (x919 + (1 : Int)))) (x_ibin rfl rfl rfl rfl) rfl (W_v (.int .i64 (IntKind.i64.wrap (x919 + (1 : Int)))) (x_assign rfl) rfl (Wl_nil (tn ?_)))))))))))))
                  exact ⟨k, Nat.lt_succ_self k, ⟨(IntKind.i64.wrap ((IntKind.i64.wrap ((IntKind.i64.wrap ((IntKind.i64.wrap (x918 + (5 : Int))) + (imin (8000 : Int) (((rd (rd a0 x632) x919).Key).length : Int)))) + (imin (8000 : Int) (((rd (rd a0 x632) x919).End).length : Int)))) + (imin (8000 : Int) (((rd (rd a0 x632) x919).Value).length : Int)))), (IntKind.i64.wrap (x919 + (1 : Int))), H, ⟨rfl, rfl, rfl, rfl, trivial⟩, E, S.pick [] (by decide)⟩⟩
                refine Wp_cond_false (congrArg Value.bool hb982) ?_
                refine Wp_exit ?_
                refine tx (tx (bsm (?_)))
                refine tn ?_
                exact ⟨x918, Option.some.inj H, ⟨rfl, rfl, rfl, trivial⟩, E, S.pick [] (by decide)⟩
          rintro ρ w1011 ⟨x964, rfl, hρ, E, S⟩
          rw [agree_eta hρ]
          have H := o965H
          refine bn (tn (Wp_region_lit (W_v (.int .i64 x632) (x_move rfl) rfl (W_v (.int .i64 (IntKind.i64.wrap (x632 + (1 : Int)))) (x_ibin rfl rfl rfl rfl) rfl (W_v (.int .i64 (IntKind.i64.wrap (x632 + (1 : Int)))) (x_assign rfl) rfl (Wl_nil (tn ?_)))))))
          exact ⟨k, Nat.lt_succ_self k, ⟨x964, (IntKind.i64.wrap (x632 + (1 : Int))), H, ⟨rfl, rfl, rfl, trivial⟩, E, S.pick [] (by decide)⟩⟩
        refine Wp_cond_false (congrArg Value.bool hb825) ?_
        refine Wp_exit ?_
        refine tx (tx (bsm (?_)))
        refine tn ?_
        exact ⟨x631, Option.some.inj H, ⟨rfl, trivial⟩, E, S.pick [] (by decide)⟩
  rintro ρ w1012 ⟨x821, rfl, hρ, E, S⟩
  rw [agree_eta hρ]
  have H := o822H
  refine tn ?_
  as_aux_lemma =>
  refine Wp_seq (Wp_region_lit (W_v (.int .i64 x821) (x_move rfl) rfl (W_v (.bool (decide (x821 ≥ (8000 : Int)))) (x_ibin rfl rfl rfl rfl) rfl (W_v (.bool (decide (x821 ≥ (8000 : Int)))) (x_assign rfl) rfl (Wl_nil (tn ?_))))))
  refine Wp_ret ?_
  obtain rfl := Option.some.inj H
  exact ⟨_, _, _, fun w1 e1 => run_resR (vs := [.bool (decide (x821 ≥ (8000 : Int)))]) (FA.cons (rfl) (FA.nil)), HM, E, S.pick [] (by decide), ⟨rfl, rfl⟩⟩
end Go.Proofs.YtkknoimjgifhlaaDoor
