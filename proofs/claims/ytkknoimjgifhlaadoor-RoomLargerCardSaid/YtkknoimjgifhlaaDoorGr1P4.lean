import Derived.Test.YtkknoimjgifhlaaDoorGr1B
import Derived.Test.YtkknoimjgifhlaaDoorGr1P1
import Derived.Test.YtkknoimjgifhlaaDoorGr1P2
import Derived.Test.YtkknoimjgifhlaaDoorGr1P3
namespace Go.Proofs.YtkknoimjgifhlaaDoor
open Go
set_option linter.unusedVariables false
set_option linter.unusedSimpArgs false
/-! ### ferryman/replay.over: function 25 -/
def replay_over_v_l0 (a2 : (List api_Event)) : Nat → Int → List (List api_Call) → List replay_Done → List Int → List event_task → List api_Event → model_Model → Option (((Int) ⊕ (replay_run)) ⊕ (List (List api_Call) × List replay_Done × List Int × List event_task × List api_Event × model_Model))
  | 0, _, _, _, _, _, _, _ => none
  | k + 1, x232, x233, x237, x241, x245, x249, x253 => (if (decide (x232 < (a2.length : Int))) = true then (if 0 ≤ x232 ∧ x232 < (a2.length : Int) then (Option.bind (replay_run_step_PRpoo_poooo_OO k (⟨x233, (⟨x245, x249⟩ : event_Recorder), x253, x237, x241⟩ : replay_run) x232 (rd a2 x232)) (fun t380 => (if (t380.1 == (4 : Int)) = true then some (.inl (Sum.inl (4 : Int))) else replay_over_v_l0 a2 k (IntKind.i64.wrap (x232 + (1 : Int))) t380.2.programs t380.2.done t380.2.last t380.2.r.tasks t380.2.r.l t380.2.m))) else none) else some (.inr (x233, x237, x241, x245, x249, x253)))
set_option maxHeartbeats 2000000 in
theorem replay_over_v_l0.mono {a2 : (List api_Event)} : ∀ {kl : Nat} {x0 x1 x2 x3 x4 x5 x6}, OLe (replay_over_v_l0 a2 kl x0 x1 x2 x3 x4 x5 x6) (replay_over_v_l0 a2 (kl + 1) x0 x1 x2 x3 x4 x5 x6) := by
  intro kl
  induction kl with
  | zero => intros; exact OLe.none
  | succ kl ih =>
    intros
    rw [replay_over_v_l0.eq_2, replay_over_v_l0.eq_2]
    repeat' (first | with_reducible exact OLe.none | with_reducible exact OLe.some | with_reducible refine OLe.ite ?_ ?_ | with_reducible refine OLe.bind ?_ (fun _ => ?_) | with_reducible exact replay_run_step_PRpoo_poooo_OO.mono | exact ih | refine OLe.bind ?_ (fun _ => ?_) | refine OLe.ite ?_ ?_ | refine OLe.elim (fun _ => ?_) (fun _ => ?_) | split)
def replay_over_v (k : Nat) (a0 : api_Config) (a1 : (List (List api_Call))) (a2 : (List api_Event)) : Option ((Int) ⊕ (replay_run)) :=
  (Option.bind (replay_begun_v k a0 a1) (fun t4 => (Sum.elim (fun t6 => some (Sum.inl (1 : Int))) (Sum.elim (fun t7 => (Option.bind (replay_over_v_l0 a2 k (0 : Int) t7.programs t7.done t7.last t7.r.tasks t7.r.l t7.m) (fun o357o => Sum.elim (fun r' => some r') (fun ⟨x322, x326, x330, x334, x338, x342⟩ => some (Sum.inr (⟨x322, (⟨x334, x338⟩ : event_Recorder), x342, x326, x330⟩ : replay_run))) o357o))) (Sum.elim (fun t8 => some (Sum.inl (1 : Int))) (Sum.elim (fun t9 => some (Sum.inl (1 : Int))) (fun t10 => some (Sum.inl (1 : Int))))))) t4))
set_option maxHeartbeats 2000000 in
theorem replay_over_v.mono {k : Nat} {a0 : api_Config} {a1 : (List (List api_Call))} {a2 : (List api_Event)} : OLe (replay_over_v k a0 a1 a2) (replay_over_v (k + 1) a0 a1 a2) := by
  unfold replay_over_v
  repeat' (first | with_reducible exact OLe.none | with_reducible exact OLe.some | with_reducible refine OLe.ite ?_ ?_ | with_reducible refine OLe.bind ?_ (fun _ => ?_) | with_reducible exact replay_begun_v.mono | with_reducible exact replay_over_v_l0.mono | refine OLe.bind ?_ (fun _ => ?_) | refine OLe.ite ?_ ?_ | refine OLe.elim (fun _ => ?_) (fun _ => ?_) | split)
set_option maxHeartbeats 4000000 in
set_option maxRecDepth 100000 in
theorem replay_over_v.con (k : Nat) (M : Hp) (a0 : api_Config) (A1 : Option Addr) (c1 : Nat) (a1 : (List (List api_Call))) (A2 : Option Addr) (c2 : Nat) (a2 : (List api_Event)) (r : (Int) ⊕ (replay_run)) (hr1 : SlR (rSl r_api_Call) M (.slice A1 a1.length c1) a1) (hr2 : SlR r_api_Event M (.slice A2 a2.length c2) a2) (hg0 : ∃ gt fr, M 0 = some (.cells #[.nilFunc, .func (.func 92) #[] #[], .func (.func 93) #[] #[], .func (.func 94) #[] #[], .func (.func 95) #[] #[], .func (.func 96) #[] #[], .func (.func 97) #[] #[], .func (.func 98) #[] #[], .func (.func 99) #[] #[], .func (.func 100) #[] #[]] gt fr)) (hg1 : ∃ gt fr, M 1 = some (.cells #[.nilFunc, .func (.func 114) #[] #[], .func (.func 116) #[] #[], .func (.func 118) #[] #[]] gt fr)) (h : replay_over_v k a0 a1 a2 = some r) : Con Tryd.prog 25 #[.agg #[.int .i64 a0.Tasks, .int .i64 a0.Active, .int .i64 a0.Keys, .int .i64 a0.Depth, .int .i64 a0.TS, .int .i64 a0.KeyLen, .int .i64 a0.ValLen, .int .i64 a0.Fan], .slice A1 a1.length c1, .slice A2 a2.length c2] M [] (fun v M' Γ' => (Sum.elim (fun x => v = .tuple #[.pointer none, .int .i64 x] ∧ Γ' = []) (fun x => ∃ (bq1 : Nat) (Aq3 : Option Addr) (cq4 : Nat) (bq6 : Nat) (Aq8 : Option Addr) (cq9 : Nat) (Aq11 : Option Addr) (cq12 : Nat) (bq14 : Nat) (Aq16 : Option Addr) (cq17 : Nat) (Aq19 : Option Addr) (cq20 : Nat) (Aq22 : Option Addr) (cq23 : Nat) (Aq25 : Option Addr) (cq26 : Nat) (vsq28 : List (Str × Value)) (Aq30 : Option Addr) (cq31 : Nat) (Aq33 : Option Addr) (cq34 : Nat), v = .tuple #[pt bq1 0, .int .i64 0] ∧ SlR (rSl r_api_Call) M' (.slice Aq3 x.programs.length cq4) x.programs ∧ MRel r_model_row M' x.m.rows vsq28 ∧ Γ' = [B72 bq1 x Aq3 cq4 bq6 bq14 Aq30 cq31 Aq33 cq34, Blk bq6 (.cells #[.slice Aq8 x.r.tasks.length cq9, .slice Aq11 x.r.l.length cq12] 130 (0, 0)), Row r_event_task 135 (.slice Aq8 x.r.tasks.length cq9) x.r.tasks, Row r_api_Event 38 (.slice Aq11 x.r.l.length cq12) x.r.l, B83 bq14 x.m Aq16 Aq19 Aq22 cq23 Aq25, MapC enc_model_name (Value.int .i64) Aq16 x.m.names, MapC (Value.int .i64) (Value.int .i64) Aq19 x.m.many, Row r_model_tx 109 (.slice Aq22 x.m.txs.length cq23) x.m.txs, MapC encS (fun v : Value => v) Aq25 vsq28, Row r_replay_Done 53 (.slice Aq30 x.done.length cq31) x.done, Row (rInt .i64) 3 (.slice Aq33 x.last.length cq34) x.last])) r) := by
  refine con_of_wp Tryd.func25 rfl Tryd.ntmps25 Tryd.results25 rfl ?_
  intro w F rn S hrn
  have E := Ext.refl w
  have HM := Hp.le_refl M
  have H := h
  unfold replay_over_v at H
  refine Wp_seq (Wp_region_lit ?_)
  refine W_box S #[.int .i64 a0.Tasks, .int .i64 a0.Active, .int .i64 a0.Keys, .int .i64 a0.Depth, .int .i64 a0.TS, .int .i64 a0.KeyLen, .int .i64 a0.ValLen, .int .i64 a0.Fan] rfl rfl rfl ?_
  intro b1 w2 E' S
  replace E := E.trans E'
  clear E'
  refine W_v (.pointer none) (x_assign rfl) rfl (W_v (.int .i64 0) (x_assign rfl) rfl (Wl_nil (tn (Wp_seq (Wp_region_lit ?_)))))
  refine W_v (.agg #[.int .i64 a0.Tasks, .int .i64 a0.Active, .int .i64 a0.Keys, .int .i64 a0.Depth, .int .i64 a0.TS, .int .i64 a0.KeyLen, .int .i64 a0.ValLen, .int .i64 a0.Fan]) (x_loadA (S.blk 0 rfl) ty23 rfl (sub_of_extract rfl) rfl rfl) rfl (W_v (.slice A1 a1.length c1) (x_move rfl) rfl ?_)
  obtain ⟨t4, ht5, H⟩ := bindS H
  rcases t4 with t6 | t7 | t8 | t9 | t10
  · skip
    replace H := elimL H
    refine W_callF2 fn31 (replay_begun_v.con k M a0 A1 c1 a1 (Sum.inl t6) hr1 ht5) (Γ1 := []) (Γ2 := [_]) S rfl rfl (by rintro _ _ _ ⟨rfl, rfl⟩; exact flat_nil) ?_
    rintro _ w11 _ Γ' E' S ⟨rfl, rfl⟩
    replace E := E.trans E'
    clear E'
    replace S : St w11 M F [_] := S
    refine W_v (.tuple #[.pointer none, .bool false]) (x_move rfl) rfl (W_v (.pointer none) (x_extract rfl rfl) rfl (W_v (.bool false) (x_extract rfl rfl) rfl (W_v (.pointer none) (x_assign rfl) rfl (W_v (.bool false) (x_assign rfl) rfl (Wl_nil ?_)))))
    refine tn (Wp_seq (Wp_seq (Wp_region_lit (W_v (.bool false) (x_move rfl) rfl (W_v (.bool true) (x_not (b := false) rfl) rfl ?_)))))
    refine Wl_nil (tn (Wp_cond_true rfl (Wp_seq (Wp_region_lit (W_v (.pointer none) (x_assign rfl) rfl ?_)))))
    refine W_v (.int .i64 1) (x_assign rfl) rfl (Wl_nil (tn ?_))
    refine Wp_ret ?_
    refine tr (?_)
    obtain rfl := Option.some.inj H
    exact ⟨_, _, _, fun w1 e1 => run_resR (vs := [.pointer none, .int .i64 1]) (FA.cons (rfl) (FA.cons (rfl) (FA.nil))), HM, E, S.pick [] (by decide), ⟨rfl, rfl⟩⟩
  · skip
    replace H := elimR H
    replace H := elimL H
    refine W_call fn31 (replay_begun_v.con k M a0 A1 c1 a1 (Sum.inr (Sum.inl t7)) hr1 ht5) (Γ1 := []) (Γ2 := [_]) S rfl rfl ?_
    rintro _ w49 M50 Γ' hM51 E' S ⟨b14, A16, c17, b19, A21, c22, A24, c25, b27, A29, c30, A32, c33, A35, c36, A38, c39, vs41, A43, c44, A46, c47, rfl, hs18, hm42, rfl⟩
    replace hg0 : ∃ gt fr, _ := (let ⟨gt, fr, h8⟩ := hg0; ⟨gt, fr, hM51 _ _ h8⟩)
    replace hg1 : ∃ gt fr, _ := (let ⟨gt, fr, h8⟩ := hg1; ⟨gt, fr, hM51 _ _ h8⟩)
    replace HM := Hp.le_trans HM hM51
    replace hr1 := SlR.mono hr1 hM51
    replace hr2 := SlR.mono hr2 hM51
    replace E := E.trans E'
    clear E'
    replace S : St w49 M50 F [_, _, _, _, _, _, _, _, _, _, _, _] := S
    refine W_v (.tuple #[pt b14 0, .bool true]) (x_move rfl) rfl (W_v (pt b14 0) (x_extract rfl rfl) rfl (W_v (.bool true) (x_extract rfl rfl) rfl (W_v (pt b14 0) (x_assign rfl) rfl (W_v (.bool true) (x_assign rfl) rfl (Wl_nil ?_)))))
    refine tn (Wp_seq (Wp_seq (Wp_region_lit (W_v (.bool true) (x_move rfl) rfl (W_v (.bool false) (x_not (b := true) rfl) rfl ?_)))))
    refine Wl_nil (tn (Wp_cond_false rfl (Wp_skip (tn (Wp_seq ?_)))))
    refine Wp_seq (Wp_region_lit (W_v (.slice A2 a2.length c2) (x_move rfl) rfl (W_v (.int .i64 (a2.length : Int)) (x_len_slice (n := a2.length) Tryd.underlying39 rfl) rfl (W_v (.int .i64 0) (x_move rfl) rfl (Wl_nil ?_)))))
    refine tn ?_
    obtain ⟨o357, o357h, o357H⟩ := bindS H
    clear H
    refine Wp_blockJ (fun ρ w' => ∃ (x322 : List (List api_Call)) (x326 : List replay_Done) (x330 : List Int) (x334 : List event_task) (x338 : List api_Event) (x342 : model_Model) (A323 : Option Addr) (c324 : Nat) (A327 : Option Addr) (c328 : Nat) (A331 : Option Addr) (c332 : Nat) (A335 : Option Addr) (c336 : Nat) (A339 : Option Addr) (c340 : Nat) (A343 : Option Addr) (c344 : Nat) (A346 : Option Addr) (c347 : Nat) (A349 : Option Addr) (c350 : Nat) (A352 : Option Addr) (c353 : Nat) (vs355 : List (Str × Value)) (Mj : Hp), .inr (x322, x326, x330, x334, x338, x342) = o357 ∧ Agree ρ [(8, pt b14 0)] ∧ M50.le Mj ∧ Ext w w' ∧ St w' Mj F [MapC encS (fun v : Value => v) A352 vs355, Row r_model_tx 109 (.slice A349 x342.txs.length c350) x342.txs, MapC (Value.int .i64) (Value.int .i64) A346 x342.many, MapC enc_model_name (Value.int .i64) A343 x342.names, Row r_api_Event 38 (.slice A339 x338.length c340) x338, Row r_event_task 135 (.slice A335 x334.length c336) x334, Row (rInt .i64) 3 (.slice A331 x330.length c332) x330, Row r_replay_Done 53 (.slice A327 x326.length c328) x326, Blk b14 (.cells #[.slice A323 x322.length c324, pt b19 0, pt b27 0, .slice A327 x326.length c328, .slice A331 x330.length c332] 72 (0, 0)), Blk b19 (.cells #[.slice A335 x334.length c336, .slice A339 x338.length c340] 130 (0, 0)), B83 b27 x342 A343 A346 A349 c350 A352] ∧ SlR (rSl r_api_Call) Mj (.slice A323 x322.length c324) x322 ∧ MRel r_model_row Mj x342.rows vs355) ?_ ?_
    · skip
      refine Wp_loop (fun n ρ w' => ∃ (x232 : Int) (x233 : List (List api_Call)) (x237 : List replay_Done) (x241 : List Int) (x245 : List event_task) (x249 : List api_Event) (x253 : model_Model) (A234 : Option Addr) (c235 : Nat) (A238 : Option Addr) (c239 : Nat) (A242 : Option Addr) (c243 : Nat) (A246 : Option Addr) (c247 : Nat) (A250 : Option Addr) (c251 : Nat) (A254 : Option Addr) (c255 : Nat) (A257 : Option Addr) (c258 : Nat) (A260 : Option Addr) (c261 : Nat) (A263 : Option Addr) (c264 : Nat) (vs266 : List (Str × Value)) (Mj : Hp), replay_over_v_l0 a2 n x232 x233 x237 x241 x245 x249 x253 = some o357 ∧ Agree ρ [(8, pt b14 0), (20, .slice A2 a2.length c2), (21, .int .i64 (a2.length : Int)), (22, .int .i64 x232)] ∧ M50.le Mj ∧ Ext w w' ∧ St w' Mj F [MapC encS (fun v : Value => v) A263 vs266, Row r_model_tx 109 (.slice A260 x253.txs.length c261) x253.txs, MapC (Value.int .i64) (Value.int .i64) A257 x253.many, MapC enc_model_name (Value.int .i64) A254 x253.names, Row r_api_Event 38 (.slice A250 x249.length c251) x249, Row r_event_task 135 (.slice A246 x245.length c247) x245, Row (rInt .i64) 3 (.slice A242 x241.length c243) x241, Row r_replay_Done 53 (.slice A238 x237.length c239) x237, Blk b14 (.cells #[.slice A234 x233.length c235, pt b19 0, pt b27 0, .slice A238 x237.length c239, .slice A242 x241.length c243] 72 (0, 0)), Blk b19 (.cells #[.slice A246 x245.length c247, .slice A250 x249.length c251] 130 (0, 0)), B83 b27 x253 A254 A257 A260 c261 A263] ∧ SlR (rSl r_api_Call) Mj (.slice A234 x233.length c235) x233 ∧ MRel r_model_row Mj x253.rows vs266) k ?_ ?_
      · skip
        exact ⟨(0 : Int), t7.programs, t7.done, t7.last, t7.r.tasks, t7.r.l, t7.m, A16, c17, A43, c44, A46, c47, A21, c22, A24, c25, A29, c30, A32, c33, A35, c36, A38, c39, vs41, M50, o357h, ⟨rfl, rfl, rfl, rfl, trivial⟩, (Hp.le_refl M50), E, S.pick [8, 7, 6, 5, 3, 2, 10, 9, 0, 1, 4] (by decide), hs18, hm42⟩
      · intro n
        rintro ρ w358 ⟨x232, x233, x237, x241, x245, x249, x253, A234, c235, A238, c239, A242, c243, A246, c247, A250, c251, A254, c255, A257, c258, A260, c261, A263, c264, vs266, M359, H, hρ, hM360, E, S, hs236, hm267⟩
        rw [agree_eta hρ]
        clear hρ
        replace hg0 : ∃ gt fr, _ := (let ⟨gt, fr, h8⟩ := hg0; ⟨gt, fr, hM360 _ _ h8⟩)
        replace hg1 : ∃ gt fr, _ := (let ⟨gt, fr, h8⟩ := hg1; ⟨gt, fr, hM360 _ _ h8⟩)
        replace HM := Hp.le_trans HM hM360
        replace hr1 := SlR.mono hr1 hM360
        replace hr2 := SlR.mono hr2 hM360
        replace hs18 := SlR.mono hs18 hM360
        replace hm42 := MRel.mono hm42 hM360
        cases n with
        | zero => cases H
        | succ k =>
          rw [replay_over_v_l0.eq_2] at H
          refine Wp_seq (Wp_region_lit (W_v (.bool (decide (x232 < (a2.length : Int)))) (x_ibin rfl rfl rfl rfl) rfl (Wl_nil (tn (Wp_seq ?_)))))
          rcases iteS H with ⟨hb361, H⟩ | ⟨hb361, H⟩
          · refine Wp_cond_true (congrArg Value.bool hb361) ?_
            refine Wp_skip (tn (Wp_seq ?_))
            refine Wp_block ?_
            refine Wp_seq (Wp_region_lit (W_v (.int .i64 x232) (x_move rfl) rfl ?_))
            obtain ⟨⟨p362, p363⟩, H⟩ := chkS H
            obtain ⟨b364, o365, cs366, _, _, ee371, hb367, vs368, hR369, hc370⟩ := SlW.at' hr2 p362 p363
            obtain ⟨v375, hs374, rfl⟩ := hR369
            obtain ⟨A372, c373, rfl, _⟩ := hs374.form
            refine W_v (.pointer (some ⟨b364, o365 + x232.toNat * 7, none⟩)) (x_indexAddr Tryd.underlying39 ty38 (slA ee371) rfl p362 p363) rfl (W_v (.agg #[.int .u8 ((rd a2 x232).What), .int .i64 ((rd a2 x232).Task), .int .i64 ((rd a2 x232).Call), .int .i64 ((rd a2 x232).Answer.Err), .bool ((rd a2 x232).Answer.Found), .string (bs ((rd a2 x232).Answer.Value)), .slice A372 ((rd a2 x232).Answer.Pairs).length c373]) (x_loadA (S.frz hb367) ty38 rfl (sub_el hc370 0 rfl) rfl rfl) rfl ?_)
            refine W_alloc S #[.int .u8 0, .int .i64 0, .int .i64 0, .int .i64 0, .bool false, .string (bs ([] : Str)), .slice none 0 0] ty38 rfl rfl ?_
            intro b376 w377 E' S
            replace E := E.trans E'
            clear E'
            refine W_v (.int .i64 x232) (x_assign rfl) rfl ?_
            refine W_store S 0 rfl ty38 rfl rfl [.int .u8 ((rd a2 x232).What), .int .i64 ((rd a2 x232).Task), .int .i64 ((rd a2 x232).Call), .int .i64 ((rd a2 x232).Answer.Err), .bool ((rd a2 x232).Answer.Found), .string (bs ((rd a2 x232).Answer.Value)), .slice A372 ((rd a2 x232).Answer.Pairs).length c373] rfl rfl rfl #[.int .u8 ((rd a2 x232).What), .int .i64 ((rd a2 x232).Task), .int .i64 ((rd a2 x232).Call), .int .i64 ((rd a2 x232).Answer.Err), .bool ((rd a2 x232).Answer.Found), .string (bs ((rd a2 x232).Answer.Value)), .slice A372 ((rd a2 x232).Answer.Pairs).length c373] (by as_aux_lemma => kernel_rfl) rfl ?_
            intro w379 E' S
            replace E := E.trans E'
            clear E'
            refine Wl_nil (tn (Wp_seq (Wp_region_lit (W_v (pt b14 0) (x_move rfl) rfl (W_v (.int .i64 x232) (x_move rfl) rfl ?_)))))
            refine W_v (.agg #[.int .u8 ((rd a2 x232).What), .int .i64 ((rd a2 x232).Task), .int .i64 ((rd a2 x232).Call), .int .i64 ((rd a2 x232).Answer.Err), .bool ((rd a2 x232).Answer.Found), .string (bs ((rd a2 x232).Answer.Value)), .slice A372 ((rd a2 x232).Answer.Pairs).length c373]) (x_loadA (S.blk 0 rfl) ty38 rfl (sub_of_extract rfl) rfl rfl) rfl ?_
            obtain ⟨t380, ht381, H⟩ := bindS H
            replace S : St w379 M359 F [_, _, _, _, _, _, _, _, _, _, _, _] := S.pick [9, 10, 6, 5, 11, 4, 3, 2, 1, 8, 7, 0] (by decide)
            refine W_call fn32 (replay_run_step_PRpoo_poooo_OO.con k M359 A234 c235 A246 c247 A250 c251 A254 c255 A257 c258 A260 c261 A263 c264 vs266 A238 c239 A242 c243 (⟨x233, (⟨x245, x249⟩ : event_Recorder), x253, x237, x241⟩ : replay_run) x232 A372 c373 (rd a2 x232) b19 b27 b14 t380 hs236 hm267 hs374 hg0 hg1 ht381) (Γ1 := [_, _, _, _, _, _, _, _, _, _, _]) (Γ2 := [_]) S rfl rfl ?_
            rintro _ w411 M412 Γ' hM413 E' S ⟨A382, c383, A385, c386, A388, c389, A391, c392, A394, c395, A397, c398, A400, c401, vs403, A405, c406, A408, c409, rfl, hs384, hm404, rfl⟩
            replace hg0 : ∃ gt fr, _ := (let ⟨gt, fr, h8⟩ := hg0; ⟨gt, fr, hM413 _ _ h8⟩)
            replace hg1 : ∃ gt fr, _ := (let ⟨gt, fr, h8⟩ := hg1; ⟨gt, fr, hM413 _ _ h8⟩)
            replace HM := Hp.le_trans HM hM413
            replace hM360 := Hp.le_trans hM360 hM413
            replace hr1 := SlR.mono hr1 hM413
            replace hr2 := SlR.mono hr2 hM413
            replace hs18 := SlR.mono hs18 hM413
            replace hm42 := MRel.mono hm42 hM413
            replace hs236 := SlR.mono hs236 hM413
            replace hm267 := MRel.mono hm267 hM413
            replace hb367 := hM413 _ _ hb367
            replace hs374 := SlR.mono hs374 hM413
            replace E := E.trans E'
            clear E'
            replace S : St w411 M412 F [_, _, _, _, _, _, _, _, _, _, _, _] := S
            refine W_v (.bool (t380.1 == (4 : Int))) (x_ibin rfl rfl rfl rfl) rfl (Wl_nil (tn ?_))
            rcases iteS H with ⟨hb414, H⟩ | ⟨hb414, H⟩
            · refine Wp_cond_true (congrArg Value.bool hb414) ?_
              refine Wp_seq (Wp_region_lit (W_v (.pointer none) (x_assign rfl) rfl (W_v (.int .i64 4) (x_assign rfl) rfl (Wl_nil (tn ?_)))))
              refine Wp_ret ?_
              refine br (tr (tr (br (tr (tr (?_))))))
              obtain rfl := Option.some.inj H
              have H := o357H
              replace H := elimL H
              obtain rfl := Option.some.inj H
              exact ⟨_, _, _, fun w1 e1 => run_resR (vs := [.pointer none, .int .i64 4]) (FA.cons (rfl) (FA.cons (rfl) (FA.nil))), HM, E, S.pick [] (by decide), ⟨rfl, rfl⟩⟩
            refine Wp_cond_false (congrArg Value.bool hb414) (Wp_skip (bn (tn (Wp_region_lit (W_v (.int .i64 (IntKind.i64.wrap (x232 + (1 : Int)))) (x_ibin rfl rfl rfl rfl) rfl ?_)))))
            refine W_v (.int .i64 (IntKind.i64.wrap (x232 + (1 : Int)))) (x_move rfl) rfl (Wl_nil (tn ?_))
            exact ⟨k, Nat.lt_succ_self k, ⟨(IntKind.i64.wrap (x232 + (1 : Int))), t380.2.programs, t380.2.done, t380.2.last, t380.2.r.tasks, t380.2.r.l, t380.2.m, A382, c383, A405, c406, A408, c409, A385, c386, A388, c389, A391, c392, A394, c395, A397, c398, A400, c401, vs403, M412, H, ⟨rfl, rfl, rfl, rfl, trivial⟩, hM360, E, S.pick [8, 7, 6, 5, 3, 2, 10, 9, 0, 1, 4] (by decide), hs384, hm404⟩⟩
          refine Wp_cond_false (congrArg Value.bool hb361) ?_
          refine Wp_exit ?_
          refine tx (tx (bsm (?_)))
          refine tn ?_
          exact ⟨x233, x237, x241, x245, x249, x253, A234, c235, A238, c239, A242, c243, A246, c247, A250, c251, A254, c255, A257, c258, A260, c261, A263, c264, vs266, M359, Option.some.inj H, ⟨rfl, trivial⟩, hM360, E, S.pick [0, 1, 2, 3, 4, 5, 6, 7, 8, 9, 10] (by decide), hs236, hm267⟩
    clear o357h
    rintro ρ w415 ⟨x322, x326, x330, x334, x338, x342, A323, c324, A327, c328, A331, c332, A335, c336, A339, c340, A343, c344, A346, c347, A349, c350, A352, c353, vs355, M416, rfl, hρ, hM417, E, S, hs325, hm356⟩
    rw [agree_eta hρ]
    clear hρ
    replace hg0 : ∃ gt fr, _ := (let ⟨gt, fr, h8⟩ := hg0; ⟨gt, fr, hM417 _ _ h8⟩)
    replace hg1 : ∃ gt fr, _ := (let ⟨gt, fr, h8⟩ := hg1; ⟨gt, fr, hM417 _ _ h8⟩)
    replace HM := Hp.le_trans HM hM417
    replace hr1 := SlR.mono hr1 hM417
    replace hr2 := SlR.mono hr2 hM417
    replace hs18 := SlR.mono hs18 hM417
    replace hm42 := MRel.mono hm42 hM417
    have H := o357H
    clear o357H
    replace H := elimR H
    refine tn ?_
    as_aux_lemma =>
    refine Wp_seq (Wp_region_lit (W_v (pt b14 0) (x_move rfl) rfl (W_v (pt b14 0) (x_assign rfl) rfl (W_v (.int .i64 0) (x_assign rfl) rfl (Wl_nil ?_)))))
    refine tn ?_
    refine Wp_ret ?_
    obtain rfl := Option.some.inj H
    exact ⟨_, _, _, fun w1 e1 => run_resR (vs := [pt b14 0, .int .i64 0]) (FA.cons (rfl) (FA.cons (rfl) (FA.nil))), HM, E, S.pick [8, 9, 5, 4, 10, 3, 2, 1, 0, 7, 6] (by decide), ⟨b14, A323, c324, b19, A335, c336, A339, c340, b27, A343, c344, A346, c347, A349, c350, A352, c353, vs355, A327, c328, A331, c332, rfl, hs325, hm356, rfl⟩⟩
  · skip
    replace H := elimR H
    replace H := elimR H
    replace H := elimL H
    refine W_call fn31 (replay_begun_v.con k M a0 A1 c1 a1 (Sum.inr (Sum.inr (Sum.inl t8))) hr1 ht5) (Γ1 := []) (Γ2 := [_]) S rfl rfl ?_
    rintro _ w445 M446 Γ' hM447 E' S ⟨b418, A420, c421, b423, A425, c426, A428, c429, A431, c432, A434, c435, vs437, A439, c440, A442, c443, rfl, hs422, hm438, rfl⟩
    replace hg0 : ∃ gt fr, _ := (let ⟨gt, fr, h8⟩ := hg0; ⟨gt, fr, hM447 _ _ h8⟩)
    replace hg1 : ∃ gt fr, _ := (let ⟨gt, fr, h8⟩ := hg1; ⟨gt, fr, hM447 _ _ h8⟩)
    replace HM := Hp.le_trans HM hM447
    replace hr1 := SlR.mono hr1 hM447
    replace hr2 := SlR.mono hr2 hM447
    replace E := E.trans E'
    clear E'
    replace S : St w445 M446 F [_, _, _, _, _, _, _, _, _] := S
    refine W_v (.tuple #[pt b418 0, .bool false]) (x_move rfl) rfl (W_v (pt b418 0) (x_extract rfl rfl) rfl (W_v (.bool false) (x_extract rfl rfl) rfl (W_v (pt b418 0) (x_assign rfl) rfl (W_v (.bool false) (x_assign rfl) rfl (Wl_nil ?_)))))
    refine tn (Wp_seq (Wp_seq (Wp_region_lit (W_v (.bool false) (x_move rfl) rfl (W_v (.bool true) (x_not (b := false) rfl) rfl ?_)))))
    refine Wl_nil (tn (Wp_cond_true rfl (Wp_seq (Wp_region_lit (W_v (.pointer none) (x_assign rfl) rfl ?_)))))
    refine W_v (.int .i64 1) (x_assign rfl) rfl (Wl_nil (tn ?_))
    refine Wp_ret ?_
    refine tr (?_)
    obtain rfl := Option.some.inj H
    exact ⟨_, _, _, fun w1 e1 => run_resR (vs := [.pointer none, .int .i64 1]) (FA.cons (rfl) (FA.cons (rfl) (FA.nil))), HM, E, S.pick [] (by decide), ⟨rfl, rfl⟩⟩
  · skip
    replace H := elimR H
    replace H := elimR H
    replace H := elimR H
    replace H := elimL H
    refine W_call fn31 (replay_begun_v.con k M a0 A1 c1 a1 (Sum.inr (Sum.inr (Sum.inr (Sum.inl t9)))) hr1 ht5) (Γ1 := []) (Γ2 := [_]) S rfl rfl ?_
    rintro _ w459 M460 Γ' hM461 E' S ⟨b448, A450, c451, A453, c454, A456, c457, rfl, hs452, rfl⟩
    replace hg0 : ∃ gt fr, _ := (let ⟨gt, fr, h8⟩ := hg0; ⟨gt, fr, hM461 _ _ h8⟩)
    replace hg1 : ∃ gt fr, _ := (let ⟨gt, fr, h8⟩ := hg1; ⟨gt, fr, hM461 _ _ h8⟩)
    replace HM := Hp.le_trans HM hM461
    replace hr1 := SlR.mono hr1 hM461
    replace hr2 := SlR.mono hr2 hM461
    replace E := E.trans E'
    clear E'
    replace S : St w459 M460 F [_, _, _, _] := S
    refine W_v (.tuple #[pt b448 0, .bool false]) (x_move rfl) rfl (W_v (pt b448 0) (x_extract rfl rfl) rfl (W_v (.bool false) (x_extract rfl rfl) rfl (W_v (pt b448 0) (x_assign rfl) rfl (W_v (.bool false) (x_assign rfl) rfl (Wl_nil ?_)))))
    refine tn (Wp_seq (Wp_seq (Wp_region_lit (W_v (.bool false) (x_move rfl) rfl (W_v (.bool true) (x_not (b := false) rfl) rfl ?_)))))
    refine Wl_nil (tn (Wp_cond_true rfl (Wp_seq (Wp_region_lit (W_v (.pointer none) (x_assign rfl) rfl ?_)))))
    refine W_v (.int .i64 1) (x_assign rfl) rfl (Wl_nil (tn ?_))
    refine Wp_ret ?_
    refine tr (?_)
    obtain rfl := Option.some.inj H
    exact ⟨_, _, _, fun w1 e1 => run_resR (vs := [.pointer none, .int .i64 1]) (FA.cons (rfl) (FA.cons (rfl) (FA.nil))), HM, E, S.pick [] (by decide), ⟨rfl, rfl⟩⟩
  · skip
    replace H := elimR H
    replace H := elimR H
    replace H := elimR H
    replace H := elimR H
    refine W_call fn31 (replay_begun_v.con k M a0 A1 c1 a1 (Sum.inr (Sum.inr (Sum.inr (Sum.inr t10)))) hr1 ht5) (Γ1 := []) (Γ2 := [_]) S rfl rfl ?_
    rintro _ w481 M482 Γ' hM483 E' S ⟨b462, A464, c465, b467, A469, c470, A472, c473, A475, c476, A478, c479, rfl, hs466, rfl⟩
    replace hg0 : ∃ gt fr, _ := (let ⟨gt, fr, h8⟩ := hg0; ⟨gt, fr, hM483 _ _ h8⟩)
    replace hg1 : ∃ gt fr, _ := (let ⟨gt, fr, h8⟩ := hg1; ⟨gt, fr, hM483 _ _ h8⟩)
    replace HM := Hp.le_trans HM hM483
    replace hr1 := SlR.mono hr1 hM483
    replace hr2 := SlR.mono hr2 hM483
    replace E := E.trans E'
    clear E'
    replace S : St w481 M482 F [_, _, _, _, _, _, _] := S
    refine W_v (.tuple #[pt b462 0, .bool false]) (x_move rfl) rfl (W_v (pt b462 0) (x_extract rfl rfl) rfl (W_v (.bool false) (x_extract rfl rfl) rfl (W_v (pt b462 0) (x_assign rfl) rfl (W_v (.bool false) (x_assign rfl) rfl (Wl_nil ?_)))))
    refine tn (Wp_seq (Wp_seq (Wp_region_lit (W_v (.bool false) (x_move rfl) rfl (W_v (.bool true) (x_not (b := false) rfl) rfl ?_)))))
    refine Wl_nil (tn (Wp_cond_true rfl (Wp_seq (Wp_region_lit (W_v (.pointer none) (x_assign rfl) rfl ?_)))))
    refine W_v (.int .i64 1) (x_assign rfl) rfl (Wl_nil (tn ?_))
    refine Wp_ret ?_
    refine tr (?_)
    obtain rfl := Option.some.inj H
    exact ⟨_, _, _, fun w1 e1 => run_resR (vs := [.pointer none, .int .i64 1]) (FA.cons (rfl) (FA.cons (rfl) (FA.nil))), HM, E, S.pick [] (by decide), ⟨rfl, rfl⟩⟩
/-! ### ferryman/replay.Answers: function 17 -/
def replay_Answers (k : Nat) (a0 : api_Config) (a1 : (List (List api_Call))) (a2 : (List api_Event)) : Option ((List replay_Done)) :=
  (Option.bind (replay_over_v k a0 a1 a2) (fun t4 => (Sum.elim (fun t6 => (if (t6 != (0 : Int)) = true then some ([] : (List replay_Done)) else none)) (fun t7 => some t7.done)) t4))
set_option maxHeartbeats 2000000 in
theorem replay_Answers.mono {k : Nat} {a0 : api_Config} {a1 : (List (List api_Call))} {a2 : (List api_Event)} : OLe (replay_Answers k a0 a1 a2) (replay_Answers (k + 1) a0 a1 a2) := by
  unfold replay_Answers
  repeat' (first | with_reducible exact OLe.none | with_reducible exact OLe.some | with_reducible refine OLe.ite ?_ ?_ | with_reducible refine OLe.bind ?_ (fun _ => ?_) | with_reducible exact replay_over_v.mono | refine OLe.bind ?_ (fun _ => ?_) | refine OLe.ite ?_ ?_ | refine OLe.elim (fun _ => ?_) (fun _ => ?_) | split)
set_option maxHeartbeats 1000000 in
set_option maxRecDepth 100000 in
theorem replay_Answers.con (k : Nat) (M : Hp) (a0 : api_Config) (A1 : Option Addr) (c1 : Nat) (a1 : (List (List api_Call))) (A2 : Option Addr) (c2 : Nat) (a2 : (List api_Event)) (r : (List replay_Done)) (hr1 : SlR (rSl r_api_Call) M (.slice A1 a1.length c1) a1) (hr2 : SlR r_api_Event M (.slice A2 a2.length c2) a2) (hg0 : ∃ gt fr, M 0 = some (.cells #[.nilFunc, .func (.func 92) #[] #[], .func (.func 93) #[] #[], .func (.func 94) #[] #[], .func (.func 95) #[] #[], .func (.func 96) #[] #[], .func (.func 97) #[] #[], .func (.func 98) #[] #[], .func (.func 99) #[] #[], .func (.func 100) #[] #[]] gt fr)) (hg1 : ∃ gt fr, M 1 = some (.cells #[.nilFunc, .func (.func 114) #[] #[], .func (.func 116) #[] #[], .func (.func 118) #[] #[]] gt fr)) (h : replay_Answers k a0 a1 a2 = some r) : Con Tryd.prog 17 #[.agg #[.int .i64 a0.Tasks, .int .i64 a0.Active, .int .i64 a0.Keys, .int .i64 a0.Depth, .int .i64 a0.TS, .int .i64 a0.KeyLen, .int .i64 a0.ValLen, .int .i64 a0.Fan], .slice A1 a1.length c1, .slice A2 a2.length c2] M [] (fun v M' Γ' => ∃ (A0 : Option Addr) (c0 : Nat), v = .slice A0 r.length c0 ∧ Γ' = [Row r_replay_Done 53 (.slice A0 r.length c0) r]) := by
  refine con_of_wp Tryd.func17 rfl Tryd.ntmps17 Tryd.results17 rfl ?_
  intro w F rn S hrn
  have E := Ext.refl w
  have HM := Hp.le_refl M
  have H := h
  unfold replay_Answers at H
  refine Wp_seq (Wp_region_lit ?_)
  refine W_box S #[.int .i64 a0.Tasks, .int .i64 a0.Active, .int .i64 a0.Keys, .int .i64 a0.Depth, .int .i64 a0.TS, .int .i64 a0.KeyLen, .int .i64 a0.ValLen, .int .i64 a0.Fan] rfl rfl rfl ?_
  intro b1 w2 E' S
  replace E := E.trans E'
  clear E'
  refine W_v (.slice none 0 0) (x_assign rfl) rfl (Wl_nil (tn (Wp_seq (Wp_region_lit (W_v (.agg #[.int .i64 a0.Tasks, .int .i64 a0.Active, .int .i64 a0.Keys, .int .i64 a0.Depth, .int .i64 a0.TS, .int .i64 a0.KeyLen, .int .i64 a0.ValLen, .int .i64 a0.Fan]) (x_loadA (S.blk 0 rfl) ty23 rfl (sub_of_extract rfl) rfl rfl) rfl ?_)))))
  refine W_v (.slice A1 a1.length c1) (x_move rfl) rfl (W_v (.slice A2 a2.length c2) (x_move rfl) rfl ?_)
  obtain ⟨t4, ht5, H⟩ := bindS H
  rcases t4 with t6 | t7
  · skip
    replace H := elimL H
    refine W_callF2 fn25 (replay_over_v.con k M a0 A1 c1 a1 A2 c2 a2 (Sum.inl t6) hr1 hr2 hg0 hg1 ht5) (Γ1 := []) (Γ2 := [_]) S rfl rfl (by rintro _ _ _ ⟨rfl, rfl⟩; exact flat_nil) ?_
    rintro _ w8 _ Γ' E' S ⟨rfl, rfl⟩
    replace E := E.trans E'
    clear E'
    replace S : St w8 M F [_] := S
    refine W_v (.tuple #[.pointer none, .int .i64 t6]) (x_move rfl) rfl (W_v (.pointer none) (x_extract rfl rfl) rfl (W_v (.int .i64 t6) (x_extract rfl rfl) rfl (W_v (.pointer none) (x_assign rfl) rfl (W_v (.int .i64 t6) (x_assign rfl) rfl (Wl_nil ?_)))))
    refine tn (Wp_seq (Wp_seq (Wp_region_lit (W_v (.int .i64 t6) (x_move rfl) rfl (W_v (.bool (t6 != (0 : Int))) (x_ibin rfl rfl rfl rfl) rfl ?_)))))
    refine Wl_nil (tn ?_)
    rcases iteS H with ⟨hb11, H⟩ | ⟨hb11, H⟩
    · refine Wp_cond_true (congrArg Value.bool hb11) ?_
      refine Wp_seq (Wp_region_lit (W_v (.slice none 0 0) (x_assign rfl) rfl (Wl_nil (tn ?_))))
      refine Wp_ret ?_
      refine tr (?_)
      obtain rfl := Option.some.inj H
      replace S := S.row_nil r_replay_Done 53
      exact ⟨_, _, _, fun w1 e1 => run_resR (vs := [.slice none 0 0]) (FA.cons (rfl) (FA.nil)), HM, E, S.pick [0] (by decide), ⟨none, 0, rfl, rfl⟩⟩
    refine Wp_cond_false (congrArg Value.bool hb11) (Wp_skip (tn (Wp_seq (Wp_region_lit (W_v (.pointer none) (x_move rfl) rfl ?_)))))
    cases H
  · skip
    replace H := elimR H
    refine W_call fn25 (replay_over_v.con k M a0 A1 c1 a1 A2 c2 a2 (Sum.inr t7) hr1 hr2 hg0 hg1 ht5) (Γ1 := []) (Γ2 := [_]) S rfl rfl ?_
    rintro _ w48 M49 Γ' hM50 E' S ⟨b13, A15, c16, b18, A20, c21, A23, c24, b26, A28, c29, A31, c32, A34, c35, A37, c38, vs40, A42, c43, A45, c46, rfl, hs17, hm41, rfl⟩
    replace hg0 : ∃ gt fr, _ := (let ⟨gt, fr, h8⟩ := hg0; ⟨gt, fr, hM50 _ _ h8⟩)
    replace hg1 : ∃ gt fr, _ := (let ⟨gt, fr, h8⟩ := hg1; ⟨gt, fr, hM50 _ _ h8⟩)
    replace HM := Hp.le_trans HM hM50
    replace hr1 := SlR.mono hr1 hM50
    replace hr2 := SlR.mono hr2 hM50
    replace E := E.trans E'
    clear E'
    replace S : St w48 M49 F [_, _, _, _, _, _, _, _, _, _, _, _] := S
    refine W_v (.tuple #[pt b13 0, .int .i64 0]) (x_move rfl) rfl (W_v (pt b13 0) (x_extract rfl rfl) rfl (W_v (.int .i64 0) (x_extract rfl rfl) rfl (W_v (pt b13 0) (x_assign rfl) rfl (W_v (.int .i64 0) (x_assign rfl) rfl (Wl_nil ?_)))))
    refine tn (Wp_seq (Wp_seq (Wp_region_lit (W_v (.int .i64 0) (x_move rfl) rfl (W_v (.bool false) (x_ibin rfl rfl rfl rfl) rfl ?_)))))
    refine Wl_nil (tn (Wp_cond_false rfl (Wp_skip (tn (Wp_seq ?_)))))
    refine Wp_region_lit (W_v (pt b13 0) (x_move rfl) rfl (W_v (pt b13 0) (x_nilptr rfl) rfl (W_v (pt b13 3) (x_fieldAddr (o := 0) (off := 3) Tryd.underlying72 rfl ty50 rfl rfl) rfl (W_v (.slice A42 t7.done.length c43) (x_load (S.blk 0 rfl) ty50 rfl rfl) rfl (W_v (.slice A42 t7.done.length c43) (x_assign rfl) rfl ?_)))))
    refine Wl_nil (tn ?_)
    refine Wp_ret ?_
    obtain rfl := Option.some.inj H
    exact ⟨_, _, _, fun w1 e1 => run_resR (vs := [.slice A42 t7.done.length c43]) (FA.cons (rfl) (FA.nil)), HM, E, S.pick [9] (by decide), ⟨A42, c43, rfl, rfl⟩⟩
/-! ### ferryman/replay.Model: function 18 -/
def replay_Model_v (k : Nat) (a0 : api_Config) (a1 : (List (List api_Call))) (a2 : (List api_Event)) : Option ((Int) ⊕ (model_Model)) :=
  (Option.bind (replay_over_v k a0 a1 a2) (fun t4 => (Sum.elim (fun t6 => (if (t6 != (0 : Int)) = true then some (Sum.inl t6) else none)) (fun t7 => some (Sum.inr t7.m))) t4))
set_option maxHeartbeats 2000000 in
theorem replay_Model_v.mono {k : Nat} {a0 : api_Config} {a1 : (List (List api_Call))} {a2 : (List api_Event)} : OLe (replay_Model_v k a0 a1 a2) (replay_Model_v (k + 1) a0 a1 a2) := by
  unfold replay_Model_v
  repeat' (first | with_reducible exact OLe.none | with_reducible exact OLe.some | with_reducible refine OLe.ite ?_ ?_ | with_reducible refine OLe.bind ?_ (fun _ => ?_) | with_reducible exact replay_over_v.mono | refine OLe.bind ?_ (fun _ => ?_) | refine OLe.ite ?_ ?_ | refine OLe.elim (fun _ => ?_) (fun _ => ?_) | split)
set_option maxHeartbeats 4000000 in
set_option maxRecDepth 100000 in
theorem replay_Model_v.con (k : Nat) (M : Hp) (a0 : api_Config) (A1 : Option Addr) (c1 : Nat) (a1 : (List (List api_Call))) (A2 : Option Addr) (c2 : Nat) (a2 : (List api_Event)) (r : (Int) ⊕ (model_Model)) (hr1 : SlR (rSl r_api_Call) M (.slice A1 a1.length c1) a1) (hr2 : SlR r_api_Event M (.slice A2 a2.length c2) a2) (hg0 : ∃ gt fr, M 0 = some (.cells #[.nilFunc, .func (.func 92) #[] #[], .func (.func 93) #[] #[], .func (.func 94) #[] #[], .func (.func 95) #[] #[], .func (.func 96) #[] #[], .func (.func 97) #[] #[], .func (.func 98) #[] #[], .func (.func 99) #[] #[], .func (.func 100) #[] #[]] gt fr)) (hg1 : ∃ gt fr, M 1 = some (.cells #[.nilFunc, .func (.func 114) #[] #[], .func (.func 116) #[] #[], .func (.func 118) #[] #[]] gt fr)) (h : replay_Model_v k a0 a1 a2 = some r) : Con Tryd.prog 18 #[.agg #[.int .i64 a0.Tasks, .int .i64 a0.Active, .int .i64 a0.Keys, .int .i64 a0.Depth, .int .i64 a0.TS, .int .i64 a0.KeyLen, .int .i64 a0.ValLen, .int .i64 a0.Fan], .slice A1 a1.length c1, .slice A2 a2.length c2] M [] (fun v M' Γ' => (Sum.elim (fun x => v = .tuple #[.pointer none, .int .i64 x] ∧ Γ' = []) (fun x => ∃ (bq1 : Nat) (Aq3 : Option Addr) (cq4 : Nat) (Aq6 : Option Addr) (cq7 : Nat) (Aq9 : Option Addr) (cq10 : Nat) (Aq12 : Option Addr) (cq13 : Nat) (vsq15 : List (Str × Value)), v = .tuple #[pt bq1 0, .int .i64 0] ∧ MRel r_model_row M' x.rows vsq15 ∧ Γ' = [B83 bq1 x Aq3 Aq6 Aq9 cq10 Aq12, MapC enc_model_name (Value.int .i64) Aq3 x.names, MapC (Value.int .i64) (Value.int .i64) Aq6 x.many, Row r_model_tx 109 (.slice Aq9 x.txs.length cq10) x.txs, MapC encS (fun v : Value => v) Aq12 vsq15])) r) := by
  refine con_of_wp Tryd.func18 rfl Tryd.ntmps18 Tryd.results18 rfl ?_
  intro w F rn S hrn
  have E := Ext.refl w
  have HM := Hp.le_refl M
  have H := h
  unfold replay_Model_v at H
  refine Wp_seq (Wp_region_lit ?_)
  refine W_box S #[.int .i64 a0.Tasks, .int .i64 a0.Active, .int .i64 a0.Keys, .int .i64 a0.Depth, .int .i64 a0.TS, .int .i64 a0.KeyLen, .int .i64 a0.ValLen, .int .i64 a0.Fan] rfl rfl rfl ?_
  intro b1 w2 E' S
  replace E := E.trans E'
  clear E'
  refine W_v (.pointer none) (x_assign rfl) rfl (W_v (.int .i64 0) (x_assign rfl) rfl (Wl_nil (tn (Wp_seq (Wp_region_lit ?_)))))
  refine W_v (.agg #[.int .i64 a0.Tasks, .int .i64 a0.Active, .int .i64 a0.Keys, .int .i64 a0.Depth, .int .i64 a0.TS, .int .i64 a0.KeyLen, .int .i64 a0.ValLen, .int .i64 a0.Fan]) (x_loadA (S.blk 0 rfl) ty23 rfl (sub_of_extract rfl) rfl rfl) rfl (W_v (.slice A1 a1.length c1) (x_move rfl) rfl (W_v (.slice A2 a2.length c2) (x_move rfl) rfl ?_))
  obtain ⟨t4, ht5, H⟩ := bindS H
  rcases t4 with t6 | t7
  · skip
    replace H := elimL H
    refine W_callF2 fn25 (replay_over_v.con k M a0 A1 c1 a1 A2 c2 a2 (Sum.inl t6) hr1 hr2 hg0 hg1 ht5) (Γ1 := []) (Γ2 := [_]) S rfl rfl (by rintro _ _ _ ⟨rfl, rfl⟩; exact flat_nil) ?_
    rintro _ w8 _ Γ' E' S ⟨rfl, rfl⟩
    replace E := E.trans E'
    clear E'
    replace S : St w8 M F [_] := S
    refine W_v (.tuple #[.pointer none, .int .i64 t6]) (x_move rfl) rfl (W_v (.pointer none) (x_extract rfl rfl) rfl (W_v (.int .i64 t6) (x_extract rfl rfl) rfl (W_v (.pointer none) (x_assign rfl) rfl (W_v (.int .i64 t6) (x_assign rfl) rfl (Wl_nil ?_)))))
    refine tn (Wp_seq (Wp_seq (Wp_region_lit (W_v (.int .i64 t6) (x_move rfl) rfl (W_v (.bool (t6 != (0 : Int))) (x_ibin rfl rfl rfl rfl) rfl ?_)))))
    refine Wl_nil (tn ?_)
    rcases iteS H with ⟨hb11, H⟩ | ⟨hb11, H⟩
    · refine Wp_cond_true (congrArg Value.bool hb11) ?_
      refine Wp_seq (Wp_region_lit (W_v (.int .i64 t6) (x_move rfl) rfl (W_v (.pointer none) (x_assign rfl) rfl (W_v (.int .i64 t6) (x_assign rfl) rfl (Wl_nil ?_)))))
      refine tn ?_
      refine Wp_ret ?_
      refine tr (?_)
      obtain rfl := Option.some.inj H
      exact ⟨_, _, _, fun w1 e1 => run_resR (vs := [.pointer none, .int .i64 t6]) (FA.cons (rfl) (FA.cons (rfl) (FA.nil))), HM, E, S.pick [] (by decide), ⟨rfl, rfl⟩⟩
    refine Wp_cond_false (congrArg Value.bool hb11) (Wp_skip (tn (Wp_seq (Wp_region_lit (W_v (.pointer none) (x_move rfl) rfl ?_)))))
    cases H
  · skip
    replace H := elimR H
    refine W_call fn25 (replay_over_v.con k M a0 A1 c1 a1 A2 c2 a2 (Sum.inr t7) hr1 hr2 hg0 hg1 ht5) (Γ1 := []) (Γ2 := [_]) S rfl rfl ?_
    rintro _ w47 M48 Γ' hM49 E' S ⟨b12, A14, c15, b17, A19, c20, A22, c23, b25, A27, c28, A30, c31, A33, c34, A36, c37, vs39, A41, c42, A44, c45, rfl, hs16, hm40, rfl⟩
    replace hg0 : ∃ gt fr, _ := (let ⟨gt, fr, h8⟩ := hg0; ⟨gt, fr, hM49 _ _ h8⟩)
    replace hg1 : ∃ gt fr, _ := (let ⟨gt, fr, h8⟩ := hg1; ⟨gt, fr, hM49 _ _ h8⟩)
    replace HM := Hp.le_trans HM hM49
    replace hr1 := SlR.mono hr1 hM49
    replace hr2 := SlR.mono hr2 hM49
    replace E := E.trans E'
    clear E'
    replace S : St w47 M48 F [_, _, _, _, _, _, _, _, _, _, _, _] := S
    refine W_v (.tuple #[pt b12 0, .int .i64 0]) (x_move rfl) rfl (W_v (pt b12 0) (x_extract rfl rfl) rfl (W_v (.int .i64 0) (x_extract rfl rfl) rfl (W_v (pt b12 0) (x_assign rfl) rfl (W_v (.int .i64 0) (x_assign rfl) rfl (Wl_nil ?_)))))
    refine tn (Wp_seq (Wp_seq (Wp_region_lit (W_v (.int .i64 0) (x_move rfl) rfl (W_v (.bool false) (x_ibin rfl rfl rfl rfl) rfl ?_)))))
    refine Wl_nil (tn (Wp_cond_false rfl (Wp_skip (tn (Wp_seq ?_)))))
    refine Wp_region_lit (W_v (pt b12 0) (x_move rfl) rfl (W_v (pt b12 0) (x_nilptr rfl) rfl (W_v (pt b12 2) (x_fieldAddr (o := 0) (off := 2) Tryd.underlying72 rfl ty54 rfl rfl) rfl (W_v (pt b25 0) (x_load (S.blk 0 rfl) ty54 rfl rfl) rfl (W_v (pt b25 0) (x_assign rfl) rfl ?_)))))
    refine W_v (.int .i64 0) (x_assign rfl) rfl (Wl_nil (tn ?_))
    refine Wp_ret ?_
    obtain rfl := Option.some.inj H
    exact ⟨_, _, _, fun w1 e1 => run_resR (vs := [pt b25 0, .int .i64 0]) (FA.cons (rfl) (FA.cons (rfl) (FA.nil))), HM, E, S.pick [4, 5, 6, 7, 8] (by decide), ⟨b25, A27, c28, A30, c31, A33, c34, A36, c37, vs39, rfl, hm40, rfl⟩⟩
/-! ### (*ferryman/model.Model).Keys: function 20 -/
def model_Model_Keys_Z (k : Nat)  : Option ((List Str)) :=
  some ([] : List Str)
set_option maxHeartbeats 2000000 in
theorem model_Model_Keys_Z.mono {k : Nat}  : OLe (model_Model_Keys_Z k ) (model_Model_Keys_Z (k + 1) ) := by
  unfold model_Model_Keys_Z
  repeat' (first | with_reducible exact OLe.none | with_reducible exact OLe.some | with_reducible refine OLe.ite ?_ ?_ | with_reducible refine OLe.bind ?_ (fun _ => ?_) | refine OLe.bind ?_ (fun _ => ?_) | refine OLe.ite ?_ ?_ | refine OLe.elim (fun _ => ?_) (fun _ => ?_) | split)
set_option maxHeartbeats 4000000 in
set_option maxRecDepth 100000 in
theorem model_Model_Keys_Z.con (k : Nat) (M : Hp)  (r : (List Str))  (h : model_Model_Keys_Z k  = some r) : Con Tryd.prog 20 #[.pointer none] M [] (fun v M' Γ' => ∃ (Aq1 : Option Addr) (cq2 : Nat), v = .slice Aq1 r.length cq2 ∧ Γ' = [Row rStr 9 (.slice Aq1 r.length cq2) r]) := by
  refine con_of_wp Tryd.func20 rfl Tryd.ntmps20 Tryd.results20 rfl ?_
  intro w F rn S hrn
  have E := Ext.refl w
  have HM := Hp.le_refl M
  have H := h
  unfold model_Model_Keys_Z at H
  refine Wp_seq (Wp_region_lit (W_v (.slice none 0 0) (x_assign rfl) rfl (Wl_nil (tn (Wp_seq ?_)))))
  refine Wp_seq (Wp_region_lit (W_v (.pointer none) (x_move rfl) rfl (W_v (.bool true) (x_eq_of (r := true) rfl rfl (run_eq_ptrnn Tryd.underlying54)) rfl (Wl_nil (tn ?_)))))
  refine Wp_cond_true rfl (Wp_seq (Wp_region_lit (W_v (.slice none 0 0) (x_assign rfl) rfl (Wl_nil (tn ?_)))))
  refine Wp_ret ?_
  refine tr (?_)
  obtain rfl := Option.some.inj H
  replace S := S.row_nil rStr 9
  exact ⟨_, _, _, fun w1 e1 => run_resR (vs := [.slice none ([] : List Str).length 0]) (FA.cons (rfl) (FA.nil)), HM, E, S.pick [0] (by decide), ⟨none, 0, rfl, rfl⟩⟩
/-! ### (*ferryman/model.Model).Retained: function 19 -/
def model_Model_Retained_Z_l0 (t1 : (List Str)) : Nat → Option ((Unit))
  | 0 => none
  | k + 1 => (if (decide ((0 : Int) < (t1.length : Int))) = true then (if 0 ≤ (0 : Int) ∧ (0 : Int) < (t1.length : Int) then none else none) else some ())
set_option maxHeartbeats 2000000 in
theorem model_Model_Retained_Z_l0.mono {t1 : (List Str)} : ∀ {kl : Nat}, OLe (model_Model_Retained_Z_l0 t1 kl ) (model_Model_Retained_Z_l0 t1 (kl + 1) ) := by
  intro kl
  induction kl with
  | zero => intros; exact OLe.none
  | succ kl ih =>
    intros
    rw [model_Model_Retained_Z_l0.eq_2, model_Model_Retained_Z_l0.eq_2]
    repeat' (first | with_reducible exact OLe.none | with_reducible exact OLe.some | with_reducible refine OLe.ite ?_ ?_ | with_reducible refine OLe.bind ?_ (fun _ => ?_) | exact ih | refine OLe.bind ?_ (fun _ => ?_) | refine OLe.ite ?_ ?_ | refine OLe.elim (fun _ => ?_) (fun _ => ?_) | split)
def model_Model_Retained_Z (k : Nat)  : Option (Int) :=
  (Option.bind (model_Model_Keys_Z k ) (fun t1 => (Option.bind (model_Model_Retained_Z_l0 t1 k ) (fun _ => some (0 : Int)))))
set_option maxHeartbeats 2000000 in
theorem model_Model_Retained_Z.mono {k : Nat}  : OLe (model_Model_Retained_Z k ) (model_Model_Retained_Z (k + 1) ) := by
  unfold model_Model_Retained_Z
  repeat' (first | with_reducible exact OLe.none | with_reducible exact OLe.some | with_reducible refine OLe.ite ?_ ?_ | with_reducible refine OLe.bind ?_ (fun _ => ?_) | with_reducible exact model_Model_Keys_Z.mono | with_reducible exact model_Model_Retained_Z_l0.mono | refine OLe.bind ?_ (fun _ => ?_) | refine OLe.ite ?_ ?_ | refine OLe.elim (fun _ => ?_) (fun _ => ?_) | split)
set_option maxHeartbeats 4000000 in
set_option maxRecDepth 100000 in
theorem model_Model_Retained_Z.con (k : Nat) (M : Hp)  (r : Int)  (h : model_Model_Retained_Z k  = some r) : Con Tryd.prog 19 #[.pointer none] M [] (fun v M' Γ' => v = .int .i64 r ∧ Γ' = []) := by
  refine con_of_wp Tryd.func19 rfl Tryd.ntmps19 Tryd.results19 rfl ?_
  intro w F rn S hrn
  have E := Ext.refl w
  have HM := Hp.le_refl M
  have H := h
  unfold model_Model_Retained_Z at H
  refine Wp_seq (Wp_region_lit (W_v (.int .i64 0) (x_assign rfl) rfl (Wl_nil (tn (Wp_seq ?_)))))
  refine Wp_region_lit (W_v (.int .i64 0) (x_assign rfl) rfl (Wl_nil (tn (Wp_seq (Wp_seq ?_)))))
  refine Wp_region_lit (W_v (.pointer none) (x_move rfl) rfl ?_)
  obtain ⟨t1, ht2, H⟩ := bindS H
  refine W_callF2 fn20 (model_Model_Keys_Z.con k M  t1  ht2) (Γ1 := []) (Γ2 := []) S rfl rfl (by rintro _ _ _ ⟨_, _, rfl, rfl⟩; exact (flat_cons (flat_row (fun _ _ _ _ h => h)) flat_nil)) ?_
  rintro _ w6 _ Γ' E' S ⟨A3, c4, rfl, rfl⟩
  replace E := E.trans E'
  clear E'
  replace S : St w6 M F [_] := S
  refine W_v (.int .i64 (t1.length : Int)) (x_len_slice (n := t1.length) Tryd.underlying58 rfl) rfl (W_v (.int .i64 0) (x_move rfl) rfl (Wl_nil (tn ?_)))
  obtain ⟨o48, o48h, o48H⟩ := bindS H
  clear H
  refine Wp_blockJ (fun ρ w' => () = o48 ∧ Agree ρ [(3, .int .i64 0)] ∧ Ext w w' ∧ St w' M F []) ?_ ?_
  · skip
    refine Wp_loop (fun n ρ w' => model_Model_Retained_Z_l0 t1 n  = some o48 ∧ Agree ρ [(0, .pointer none), (3, .int .i64 0), (7, .slice A3 t1.length c4), (8, .int .i64 (t1.length : Int)), (9, .int .i64 0)] ∧ Ext w w' ∧ St w' M F [Row rStr 9 (.slice A3 t1.length c4) t1]) k ?_ ?_
    · skip
      exact ⟨o48h, ⟨rfl, rfl, rfl, rfl, rfl, trivial⟩, E, S.pick [0] (by decide)⟩
    · intro n
      rintro ρ w49 ⟨H, hρ, E, S⟩
      rw [agree_eta hρ]
      clear hρ
      cases n with
      | zero => cases H
      | succ k =>
        rw [model_Model_Retained_Z_l0.eq_2] at H
        refine Wp_seq (Wp_region_lit (W_v (.bool (decide ((0 : Int) < (t1.length : Int)))) (x_ibin rfl rfl rfl rfl) rfl (Wl_nil (tn (Wp_seq ?_)))))
        rcases iteS H with ⟨hb50, H⟩ | ⟨hb50, H⟩
        · refine Wp_cond_true (congrArg Value.bool hb50) ?_
          refine Wp_skip (tn (Wp_seq ?_))
          refine Wp_block ?_
          refine Wp_seq (Wp_region_lit ?_)
          obtain ⟨⟨p51, p52⟩, H⟩ := chkS H
          obtain ⟨b53, o54, cs55, _, _, ee60, hb56, vs57, hR58, hc59⟩ := SlW.at' (S.row_read 0 rfl) p51 p52
          obtain rfl : vs57 = _ := hR58
          refine W_v (.pointer (some ⟨b53, o54 + (0 : Int).toNat * 1, none⟩)) (x_indexAddr Tryd.underlying58 ty9 (slA ee60) rfl p51 p52) rfl (W_v (.string (bs (rd t1 (0 : Int)))) (x_load (Hp.of_get hb56) ty9 rfl (hc59 0 _ rfl)) rfl (W_v (.string (bs (rd t1 (0 : Int)))) (x_assign rfl) rfl (Wl_nil (tn ?_))))
          refine Wp_region_any (S := fun w' => ∃ Mx, M.le Mx ∧ St w' Mx F [Row rStr 9 (.slice A3 t1.length c4) t1]) (L := 21) mixed ?_
          intro w61 hw62 E'
          replace S := S.heap hw62
          replace E := E.trans E'
          clear E'
          have D1 : ∃ Mx, Hp.le M Mx ∧ St _ Mx F [_] := ⟨_, Hp.le_refl _, S.pick [0] (by decide)⟩
          refine Wa_take (i := 0) rfl (by kernel_rfl) rfl rfl (.int .i64 0) rfl (fun w' h' => x_move rfl) D1 (Wa_take (i := 1) rfl (by kernel_rfl) rfl rfl (.pointer none) rfl (fun w' h' => x_move rfl) D1 ?_)
          cases H
        refine Wp_cond_false (congrArg Value.bool hb50) ?_
        refine Wp_exit ?_
        refine tx (tx (bsm (?_)))
        refine tn ?_
        exact ⟨Option.some.inj H, ⟨rfl, trivial⟩, E, S.pick [] (by decide)⟩
  clear o48h
  rintro ρ w63 ⟨rfl, hρ, E, S⟩
  rw [agree_eta hρ]
  clear hρ
  have H := o48H
  clear o48H
  refine tn ?_
  as_aux_lemma =>
  refine Wp_seq (Wp_region_lit (W_v (.int .i64 0) (x_move rfl) rfl (W_v (.int .i64 0) (x_assign rfl) rfl (Wl_nil (tn ?_)))))
  refine Wp_ret ?_
  obtain rfl := Option.some.inj H
  exact ⟨_, _, _, fun w1 e1 => run_resR (vs := [.int .i64 0]) (FA.cons (rfl) (FA.nil)), HM, E, S.pick [] (by decide), ⟨rfl, rfl⟩⟩
/-! ### (*ferryman/model.Model).Retained: function 19 -/
def model_Model_Retained_POOOO_l0 (a0 : model_Model) (t1 : (List Str)) : Nat → Int → Int → Option ((Int))
  | 0, _, _ => none
  | k + 1, x95, x96 => (if (decide (x96 < (t1.length : Int))) = true then (if 0 ≤ x96 ∧ x96 < (t1.length : Int) then model_Model_Retained_POOOO_l0 a0 t1 k (IntKind.i64.wrap (x95 + (IntKind.i64.wrap (((((mget a0.rows (rd t1 x96)).getD (⟨[], ⟨0, 0, false, []⟩⟩ : model_row)).l).length : Int) + (imin (1 : Int) (((mget a0.rows (rd t1 x96)).getD (⟨[], ⟨0, 0, false, []⟩⟩ : model_row)).intent.Writer)))))) (IntKind.i64.wrap (x96 + (1 : Int))) else none) else some (x95))
set_option maxHeartbeats 2000000 in
theorem model_Model_Retained_POOOO_l0.mono {a0 : model_Model} {t1 : (List Str)} : ∀ {kl : Nat} {x0 x1}, OLe (model_Model_Retained_POOOO_l0 a0 t1 kl x0 x1) (model_Model_Retained_POOOO_l0 a0 t1 (kl + 1) x0 x1) := by
  intro kl
  induction kl with
  | zero => intros; exact OLe.none
  | succ kl ih =>
    intros
    rw [model_Model_Retained_POOOO_l0.eq_2, model_Model_Retained_POOOO_l0.eq_2]
    repeat' (first | with_reducible exact OLe.none | with_reducible exact OLe.some | with_reducible refine OLe.ite ?_ ?_ | with_reducible refine OLe.bind ?_ (fun _ => ?_) | exact ih | refine OLe.bind ?_ (fun _ => ?_) | refine OLe.ite ?_ ?_ | refine OLe.elim (fun _ => ?_) (fun _ => ?_) | split)
def model_Model_Retained_POOOO (k : Nat) (a0 : model_Model) : Option (Int) :=
  (Option.bind (model_Model_Keys_POOOO k a0) (fun t1 => (Option.bind (model_Model_Retained_POOOO_l0 a0 t1 k (0 : Int) (0 : Int)) (fun x138 => some x138))))
set_option maxHeartbeats 2000000 in
theorem model_Model_Retained_POOOO.mono {k : Nat} {a0 : model_Model} : OLe (model_Model_Retained_POOOO k a0) (model_Model_Retained_POOOO (k + 1) a0) := by
  unfold model_Model_Retained_POOOO
  repeat' (first | with_reducible exact OLe.none | with_reducible exact OLe.some | with_reducible refine OLe.ite ?_ ?_ | with_reducible refine OLe.bind ?_ (fun _ => ?_) | with_reducible exact model_Model_Keys_POOOO.mono | with_reducible exact model_Model_Retained_POOOO_l0.mono | refine OLe.bind ?_ (fun _ => ?_) | refine OLe.ite ?_ ?_ | refine OLe.elim (fun _ => ?_) (fun _ => ?_) | split)
set_option maxHeartbeats 4000000 in
set_option maxRecDepth 100000 in
theorem model_Model_Retained_POOOO.con (k : Nat) (M : Hp) (A0_8 : Option Addr) (c0_8 : Nat) (A0_9 : Option Addr) (c0_9 : Nat) (A0_10 : Option Addr) (c0_10 : Nat) (A0_11 : Option Addr) (c0_11 : Nat) (vs0_11 : List (Str × Value)) (a0 : model_Model) (bo0 : Nat) (r : Int) (hm0_11 : MRel r_model_row M a0.rows vs0_11) (h : model_Model_Retained_POOOO k a0 = some r) : Con Tryd.prog 19 #[pt bo0 0] M [B83 bo0 a0 A0_8 A0_9 A0_10 c0_10 A0_11, MapC enc_model_name (Value.int .i64) A0_8 a0.names, MapC (Value.int .i64) (Value.int .i64) A0_9 a0.many, Row r_model_tx 109 (.slice A0_10 a0.txs.length c0_10) a0.txs, MapC encS (fun v : Value => v) A0_11 vs0_11] (fun v M' Γ' => v = .int .i64 r ∧ Γ' = [B83 bo0 a0 A0_8 A0_9 A0_10 c0_10 A0_11, MapC enc_model_name (Value.int .i64) A0_8 a0.names, MapC (Value.int .i64) (Value.int .i64) A0_9 a0.many, Row r_model_tx 109 (.slice A0_10 a0.txs.length c0_10) a0.txs, MapC encS (fun v : Value => v) A0_11 vs0_11]) := by
  refine con_of_wp Tryd.func19 rfl Tryd.ntmps19 Tryd.results19 rfl ?_
  intro w F rn S hrn
  have E := Ext.refl w
  have HM := Hp.le_refl M
  have H := h
  unfold model_Model_Retained_POOOO at H
  refine Wp_seq (Wp_region_lit (W_v (.int .i64 0) (x_assign rfl) rfl (Wl_nil (tn (Wp_seq ?_)))))
  refine Wp_region_lit (W_v (.int .i64 0) (x_assign rfl) rfl (Wl_nil (tn (Wp_seq (Wp_seq ?_)))))
  refine Wp_region_lit (W_v (pt bo0 0) (x_move rfl) rfl ?_)
  obtain ⟨t1, ht2, H⟩ := bindS H
  refine W_callF2 fn20 (model_Model_Keys_POOOO.con k M A0_8 c0_8 A0_9 c0_9 A0_10 c0_10 A0_11 c0_11 vs0_11 a0 bo0 t1 hm0_11 ht2) (Γ1 := [_, _, _, _, _]) (Γ2 := []) S rfl rfl (by rintro _ _ _ ⟨_, _, rfl, rfl⟩; exact (flat_cons (flat_row (fun _ _ _ _ h => h)) (flat_cons flat_blk (flat_cons flat_map (flat_cons flat_map (flat_cons (flat_row (fun _ _ _ _ h => h)) (flat_cons flat_map flat_nil))))))) ?_
  rintro _ w6 _ Γ' E' S ⟨A3, c4, rfl, rfl⟩
  replace E := E.trans E'
  clear E'
  replace S : St w6 M F [_, _, _, _, _, _] := S
  refine W_v (.int .i64 (t1.length : Int)) (x_len_slice (n := t1.length) Tryd.underlying58 rfl) rfl (W_v (.int .i64 0) (x_move rfl) rfl (Wl_nil (tn ?_)))
  obtain ⟨o139, o139h, o139H⟩ := bindS H
  clear H
  refine Wp_blockJ (fun ρ w' => ∃ (x138 : Int), (x138) = o139 ∧ Agree ρ [(3, .int .i64 x138)] ∧ Ext w w' ∧ St w' M F [B83 bo0 a0 A0_8 A0_9 A0_10 c0_10 A0_11, MapC enc_model_name (Value.int .i64) A0_8 a0.names, MapC (Value.int .i64) (Value.int .i64) A0_9 a0.many, Row r_model_tx 109 (.slice A0_10 a0.txs.length c0_10) a0.txs, MapC encS (fun v : Value => v) A0_11 vs0_11]) ?_ ?_
  · skip
    refine Wp_loop (fun n ρ w' => ∃ (x95 : Int) (x96 : Int), model_Model_Retained_POOOO_l0 a0 t1 n x95 x96 = some o139 ∧ Agree ρ [(0, pt bo0 0), (3, .int .i64 x95), (7, .slice A3 t1.length c4), (8, .int .i64 (t1.length : Int)), (9, .int .i64 x96)] ∧ Ext w w' ∧ St w' M F [Row rStr 9 (.slice A3 t1.length c4) t1, B83 bo0 a0 A0_8 A0_9 A0_10 c0_10 A0_11, MapC enc_model_name (Value.int .i64) A0_8 a0.names, MapC (Value.int .i64) (Value.int .i64) A0_9 a0.many, Row r_model_tx 109 (.slice A0_10 a0.txs.length c0_10) a0.txs, MapC encS (fun v : Value => v) A0_11 vs0_11]) k ?_ ?_
    · skip
      exact ⟨(0 : Int), (0 : Int), o139h, ⟨rfl, rfl, rfl, rfl, rfl, trivial⟩, E, S.pick [0, 1, 2, 3, 4, 5] (by decide)⟩
    · intro n
      rintro ρ w140 ⟨x95, x96, H, hρ, E, S⟩
      rw [agree_eta hρ]
      clear hρ
      cases n with
      | zero => cases H
      | succ k =>
        rw [model_Model_Retained_POOOO_l0.eq_2] at H
        refine Wp_seq (Wp_region_lit (W_v (.bool (decide (x96 < (t1.length : Int)))) (x_ibin rfl rfl rfl rfl) rfl (Wl_nil (tn (Wp_seq ?_)))))
        rcases iteS H with ⟨hb141, H⟩ | ⟨hb141, H⟩
        · refine Wp_cond_true (congrArg Value.bool hb141) ?_
          refine Wp_skip (tn (Wp_seq ?_))
          refine Wp_block ?_
          refine Wp_seq (Wp_region_lit ?_)
          obtain ⟨⟨p142, p143⟩, H⟩ := chkS H
          obtain ⟨b144, o145, cs146, _, _, ee151, hb147, vs148, hR149, hc150⟩ := SlW.at' (S.row_read 0 rfl) p142 p143
          obtain rfl : vs148 = _ := hR149
          refine W_v (.pointer (some ⟨b144, o145 + x96.toNat * 1, none⟩)) (x_indexAddr Tryd.underlying58 ty9 (slA ee151) rfl p142 p143) rfl (W_v (.string (bs (rd t1 x96))) (x_load (Hp.of_get hb147) ty9 rfl (hc150 0 _ rfl)) rfl (W_v (.string (bs (rd t1 x96))) (x_assign rfl) rfl (Wl_nil (tn ?_))))
          refine Wp_region_any (S := fun w' => ∃ Mx, M.le Mx ∧ St w' Mx F [Row rStr 9 (.slice A3 t1.length c4) t1, B83 bo0 a0 A0_8 A0_9 A0_10 c0_10 A0_11, MapC enc_model_name (Value.int .i64) A0_8 a0.names, MapC (Value.int .i64) (Value.int .i64) A0_9 a0.many, Row r_model_tx 109 (.slice A0_10 a0.txs.length c0_10) a0.txs, MapC encS (fun v : Value => v) A0_11 vs0_11]) (L := 21) mixed ?_
          intro w166 hw167 E'
          replace S := S.heap hw167
          replace E := E.trans E'
          clear E'
          have D1 : ∃ Mx, Hp.le M Mx ∧ St _ Mx F [_, _, _, _, _, _] := ⟨_, Hp.le_refl _, S.pick [0, 1, 2, 3, 4, 5] (by decide)⟩
          refine Wa_take (i := 0) rfl (by kernel_rfl) rfl rfl (.int .i64 x95) rfl (fun w' h' => x_move rfl) D1 (Wa_take (i := 1) rfl (by kernel_rfl) rfl rfl (pt bo0 0) rfl (fun w' h' => x_move rfl) D1 (Wa_take (i := 2) rfl (by kernel_rfl) rfl rfl (pt bo0 0) rfl (fun w' h' => x_nilptr rfl) D1 (Wa_take (i := 3) rfl (by kernel_rfl) rfl rfl (pt bo0 11) rfl (fun w' h' => x_fieldAddr (o := 0) (off := 11) Tryd.underlying83 rfl ty81 rfl rfl) D1 (Wa_take (i := 4) rfl (by kernel_rfl) rfl rfl (.map (mb A0_11)) rfl (fun w' h' => x_load (cls_blk h' 1 rfl) ty81 rfl rfl) D1 (Wa_take (i := 5) rfl (by kernel_rfl) rfl rfl (.string (bs (rd t1 x96))) rfl (fun w' h' => x_move rfl) D1 ?_)))))
          obtain ⟨cs168, hR169, he170⟩ := hm0_11.get (rd t1 x96) (z := (⟨[], ⟨0, 0, false, []⟩⟩ : model_row)) (zc := [.slice none 0 0, .int .i64 0, .int .i64 0, .bool false, .string (bs ([] : Str))]) ⟨_, SlW.nil _ _, rfl⟩
          obtain ⟨v174, hs173, rfl⟩ := hR169
          obtain ⟨A171, c172, rfl, _⟩ := hs173.form
          refine Wa_take (i := 6) rfl (by kernel_rfl) rfl rfl (.agg #[.slice A171 (((mget a0.rows (rd t1 x96)).getD (⟨[], ⟨0, 0, false, []⟩⟩ : model_row)).l).length c172, .int .i64 (((mget a0.rows (rd t1 x96)).getD (⟨[], ⟨0, 0, false, []⟩⟩ : model_row)).intent.Writer), .int .i64 (((mget a0.rows (rd t1 x96)).getD (⟨[], ⟨0, 0, false, []⟩⟩ : model_row)).intent.TS), .bool (((mget a0.rows (rd t1 x96)).getD (⟨[], ⟨0, 0, false, []⟩⟩ : model_row)).intent.Tomb), .string (bs (((mget a0.rows (rd t1 x96)).getD (⟨[], ⟨0, 0, false, []⟩⟩ : model_row)).intent.Value))]) rfl (fun w' h' => Exists.elim h' fun Mx h9 => (Eq.trans (x_lookup h9.2 5 rfl Tryd.underlying81 key9 (Value.agg #[.slice none 0 0, .int .i64 0, .int .i64 0, .bool false, .string (bs ([] : Str))]) (fun _ => ty77.zero) (rd t1 x96) rfl rfl) (by rw [show (mget vs0_11 (rd t1 x96)).getD (Value.agg #[.slice none 0 0, .int .i64 0, .int .i64 0, .bool false, .string (bs ([] : Str))]) = _ from he170]))) D1 (Wa_take (i := 7) rfl (by kernel_rfl) rfl rfl (.slice A171 (((mget a0.rows (rd t1 x96)).getD (⟨[], ⟨0, 0, false, []⟩⟩ : model_row)).l).length c172) rfl (fun w' h' => x_field Tryd.underlying77 rfl rfl ty73 rfl) D1 (Wa_take (i := 8) rfl (by kernel_rfl) rfl rfl (.int .i64 ((((mget a0.rows (rd t1 x96)).getD (⟨[], ⟨0, 0, false, []⟩⟩ : model_row)).l).length : Int)) rfl (fun w' h' => x_len_slice (n := (((mget a0.rows (rd t1 x96)).getD (⟨[], ⟨0, 0, false, []⟩⟩ : model_row)).l).length) Tryd.underlying73 rfl) D1 ?_))
          refine Wa_take (i := 9) rfl (by kernel_rfl) rfl rfl (pt bo0 0) rfl (fun w' h' => x_move rfl) D1 (Wa_take (i := 10) rfl (by kernel_rfl) rfl rfl (pt bo0 0) rfl (fun w' h' => x_nilptr rfl) D1 (Wa_take (i := 11) rfl (by kernel_rfl) rfl rfl (pt bo0 11) rfl (fun w' h' => x_fieldAddr (o := 0) (off := 11) Tryd.underlying83 rfl ty81 rfl rfl) D1 (Wa_take (i := 12) rfl (by kernel_rfl) rfl rfl (.map (mb A0_11)) rfl (fun w' h' => x_load (cls_blk h' 1 rfl) ty81 rfl rfl) D1 (Wa_take (i := 13) rfl (by kernel_rfl) rfl rfl (.string (bs (rd t1 x96))) rfl (fun w' h' => x_move rfl) D1 ?_))))
          obtain ⟨cs175, hR176, he177⟩ := hm0_11.get (rd t1 x96) (z := (⟨[], ⟨0, 0, false, []⟩⟩ : model_row)) (zc := [.slice none 0 0, .int .i64 0, .int .i64 0, .bool false, .string (bs ([] : Str))]) ⟨_, SlW.nil _ _, rfl⟩
          obtain ⟨v181, hs180, rfl⟩ := hR176
          obtain ⟨A178, c179, rfl, _⟩ := hs180.form
          refine Wa_take (i := 14) rfl (by kernel_rfl) rfl rfl (.agg #[.slice A178 (((mget a0.rows (rd t1 x96)).getD (⟨[], ⟨0, 0, false, []⟩⟩ : model_row)).l).length c179, .int .i64 (((mget a0.rows (rd t1 x96)).getD (⟨[], ⟨0, 0, false, []⟩⟩ : model_row)).intent.Writer), .int .i64 (((mget a0.rows (rd t1 x96)).getD (⟨[], ⟨0, 0, false, []⟩⟩ : model_row)).intent.TS), .bool (((mget a0.rows (rd t1 x96)).getD (⟨[], ⟨0, 0, false, []⟩⟩ : model_row)).intent.Tomb), .string (bs (((mget a0.rows (rd t1 x96)).getD (⟨[], ⟨0, 0, false, []⟩⟩ : model_row)).intent.Value))]) rfl (fun w' h' => Exists.elim h' fun Mx h9 => (Eq.trans (x_lookup h9.2 5 rfl Tryd.underlying81 key9 (Value.agg #[.slice none 0 0, .int .i64 0, .int .i64 0, .bool false, .string (bs ([] : Str))]) (fun _ => ty77.zero) (rd t1 x96) rfl rfl) (by rw [show (mget vs0_11 (rd t1 x96)).getD (Value.agg #[.slice none 0 0, .int .i64 0, .int .i64 0, .bool false, .string (bs ([] : Str))]) = _ from he177]))) D1 (Wa_take (i := 15) rfl (by kernel_rfl) rfl rfl (.agg #[.int .i64 (((mget a0.rows (rd t1 x96)).getD (⟨[], ⟨0, 0, false, []⟩⟩ : model_row)).intent.Writer), .int .i64 (((mget a0.rows (rd t1 x96)).getD (⟨[], ⟨0, 0, false, []⟩⟩ : model_row)).intent.TS), .bool (((mget a0.rows (rd t1 x96)).getD (⟨[], ⟨0, 0, false, []⟩⟩ : model_row)).intent.Tomb), .string (bs (((mget a0.rows (rd t1 x96)).getD (⟨[], ⟨0, 0, false, []⟩⟩ : model_row)).intent.Value))]) rfl (fun w' h' => x_fieldAgg Tryd.underlying77 rfl rfl ty75 rfl) D1 ?_)
          refine Wa_take (i := 16) rfl (by kernel_rfl) rfl rfl (.int .i64 (((mget a0.rows (rd t1 x96)).getD (⟨[], ⟨0, 0, false, []⟩⟩ : model_row)).intent.Writer)) rfl (fun w' h' => x_field Tryd.underlying75 rfl rfl ty3 rfl) D1 (Wa_take (i := 17) rfl (by kernel_rfl) rfl rfl (.int .i64 (imin (1 : Int) (((mget a0.rows (rd t1 x96)).getD (⟨[], ⟨0, 0, false, []⟩⟩ : model_row)).intent.Writer))) rfl (fun w' h' => x_min2 rfl rfl) D1 (Wa_take (i := 18) rfl (by kernel_rfl) rfl rfl (.int .i64 (IntKind.i64.wrap (((((mget a0.rows (rd t1 x96)).getD (⟨[], ⟨0, 0, false, []⟩⟩ : model_row)).l).length : Int) + (imin (1 : Int) (((mget a0.rows (rd t1 x96)).getD (⟨[], ⟨0, 0, false, []⟩⟩ : model_row)).intent.Writer))))) rfl (fun w' h' => x_ibin rfl rfl rfl rfl) D1 (Wa_take (i := 19) rfl (by kernel_rfl) rfl rfl (.int .i64 (IntKind.i64.wrap (x95 + (IntKind.i64.wrap (((((mget a0.rows (rd t1 x96)).getD (⟨[], ⟨0, 0, false, []⟩⟩ : model_row)).l).length : Int) + (imin (1 : Int) (((mget a0.rows (rd t1 x96)).getD (⟨[], ⟨0, 0, false, []⟩⟩ : model_row)).intent.Writer))))))) rfl (fun w' h' => x_ibin rfl rfl rfl rfl) D1 (Wa_take (i := 20) rfl (by kernel_rfl) rfl rfl (.int .i64 (IntKind.i64.wrap (x95 + (IntKind.i64.wrap (((((mget a0.rows (rd t1 x96)).getD (⟨[], ⟨0, 0, false, []⟩⟩ : model_row)).l).length : Int) + (imin (1 : Int) (((mget a0.rows (rd t1 x96)).getD (⟨[], ⟨0, 0, false, []⟩⟩ : model_row)).intent.Writer))))))) rfl (fun w' h' => x_assign rfl) D1 ?_))))
          refine Wa_done (by kernel_rfl) ?_
          refine bn (tn (Wp_region_lit (W_v (.int .i64 (IntKind.i64.wrap (x96 + (1 : Int)))) (x_ibin rfl rfl rfl rfl) rfl (W_v (.int .i64 (IntKind.i64.wrap (x96 + (1 : Int)))) (x_move rfl) rfl (Wl_nil ?_)))))
          refine tn ?_
          exact ⟨k, Nat.lt_succ_self k, ⟨(IntKind.i64.wrap (x95 + (IntKind.i64.wrap (((((mget a0.rows (rd t1 x96)).getD (⟨[], ⟨0, 0, false, []⟩⟩ : model_row)).l).length : Int) + (imin (1 : Int) (((mget a0.rows (rd t1 x96)).getD (⟨[], ⟨0, 0, false, []⟩⟩ : model_row)).intent.Writer)))))), (IntKind.i64.wrap (x96 + (1 : Int))), H, ⟨rfl, rfl, rfl, rfl, rfl, trivial⟩, E, S.pick [0, 1, 2, 3, 4, 5] (by decide)⟩⟩
        refine Wp_cond_false (congrArg Value.bool hb141) ?_
        refine Wp_exit ?_
        refine tx (tx (bsm (?_)))
        refine tn ?_
        exact ⟨x95, Option.some.inj H, ⟨rfl, trivial⟩, E, S.pick [1, 2, 3, 4, 5] (by decide)⟩
  clear o139h
  rintro ρ w182 ⟨x138, rfl, hρ, E, S⟩
  rw [agree_eta hρ]
  clear hρ
  have H := o139H
  clear o139H
  refine tn ?_
  as_aux_lemma =>
  refine Wp_seq (Wp_region_lit (W_v (.int .i64 x138) (x_move rfl) rfl (W_v (.int .i64 x138) (x_assign rfl) rfl (Wl_nil (tn ?_)))))
  refine Wp_ret ?_
  obtain rfl := Option.some.inj H
  exact ⟨_, _, _, fun w1 e1 => run_resR (vs := [.int .i64 x138]) (FA.cons (rfl) (FA.nil)), HM, E, S.pick [0, 1, 2, 3, 4] (by decide), ⟨rfl, rfl⟩⟩
/-! ### ferryman/room.Now$1: function 23 -/
def room_Now_1 (k : Nat) (a0 : api_Call) (a1 : Int) (ac_0 : api_Config) : Option (Int × Int) :=
  (Option.bind (α := Bool) (if (a0.Kind == (3 : Int)) = true then some ((a0.Kind == (3 : Int))) else some ((a0.Kind == (4 : Int)))) (fun x6 => (if x6 = true then some ((2 : Int), (1 : Int)) else (if (a0.Kind == (9 : Int)) = true then some ((IntKind.i64.wrap (ac_0.Depth + (1 : Int))), (0 : Int)) else some (a1, a1)))))
set_option maxHeartbeats 2000000 in
theorem room_Now_1.mono {k : Nat} {a0 : api_Call} {a1 : Int} {ac_0 : api_Config} : OLe (room_Now_1 k a0 a1 ac_0) (room_Now_1 (k + 1) a0 a1 ac_0) := by
  unfold room_Now_1
  repeat' (first | with_reducible exact OLe.none | with_reducible exact OLe.some | with_reducible refine OLe.ite ?_ ?_ | with_reducible refine OLe.bind ?_ (fun _ => ?_) | refine OLe.bind ?_ (fun _ => ?_) | refine OLe.ite ?_ ?_ | refine OLe.elim (fun _ => ?_) (fun _ => ?_) | split)
set_option maxHeartbeats 4000000 in
set_option maxRecDepth 100000 in
theorem room_Now_1.con (k : Nat) (M : Hp) (a0 : api_Call) (a1 : Int) (ac_0 : api_Config) (bc_0 : Nat) (r : Int × Int)  (h : room_Now_1 k a0 a1 ac_0 = some r) : Con Tryd.prog 23 #[.agg #[.int .u8 a0.Kind, .int .i64 a0.Tx, .string (bs a0.Key), .string (bs a0.End), .string (bs a0.Value), .int .i64 a0.Limit, .int .u8 a0.Engine], .int .i64 a1, pt bc_0 0] M [B23 bc_0 ac_0] (fun v M' Γ' => v = .tuple #[.int .i64 r.1, .int .i64 r.2] ∧ Γ' = [B23 bc_0 ac_0]) := by
  refine con_of_wp Tryd.func23 rfl Tryd.ntmps23 Tryd.results23 rfl ?_
  intro w F rn S hrn
  have E := Ext.refl w
  have HM := Hp.le_refl M
  have H := h
  unfold room_Now_1 at H
  refine Wp_seq (Wp_region_lit ?_)
  refine W_box S #[.int .u8 a0.Kind, .int .i64 a0.Tx, .string (bs a0.Key), .string (bs a0.End), .string (bs a0.Value), .int .i64 a0.Limit, .int .u8 a0.Engine] rfl rfl rfl ?_
  intro b1 w2 E' S
  replace E := E.trans E'
  clear E'
  refine W_v (.int .i64 0) (x_assign rfl) rfl (W_v (.int .i64 0) (x_assign rfl) rfl (Wl_nil (tn (Wp_seq (Wp_seq ?_)))))
  refine Wp_region_lit (W_v (pt b1 0) (x_fieldAddr (o := 0) (off := 0) Tryd.underlying42 rfl ty5 rfl rfl) rfl (W_v (.int .u8 a0.Kind) (x_load (S.blk 0 rfl) ty5 rfl rfl) rfl (Wl_nil (tn ?_))))
  refine Wp_block ?_
  refine Wp_seq (Wp_seq (Wp_region_lit (W_v (.bool (a0.Kind == (3 : Int))) (x_ibin rfl rfl rfl rfl) rfl (W_v (.bool (a0.Kind == (3 : Int))) (x_assign rfl) rfl (Wl_nil ?_)))))
  refine tn ?_
  obtain ⟨o7, o7h, o7H⟩ := bindS H
  refine Wp_cut (fun ρ w' => ∃ (x6 : Bool), (x6) = o7 ∧ Agree ρ [(1, .int .i64 a1), (2, pt bc_0 0), (8, .int .u8 a0.Kind), (9, .bool x6)] ∧ Ext w w' ∧ St w' M F [B23 bc_0 ac_0]) ?_ ?_
  · clear o7H
    have H := o7h
    clear o7h
    rcases iteS H with ⟨hb8, H⟩ | ⟨hb8, H⟩
    · refine Wp_cond_true (congrArg Value.bool hb8) ?_
      refine Wp_skip (tn ?_)
      exact ⟨(a0.Kind == (3 : Int)), Option.some.inj H, ⟨rfl, rfl, rfl, rfl, trivial⟩, E, S.pick [1] (by decide)⟩
    refine Wp_cond_false (congrArg Value.bool hb8) (Wp_region_lit (W_v (.bool (a0.Kind == (4 : Int))) (x_ibin rfl rfl rfl rfl) rfl (W_v (.bool (a0.Kind == (4 : Int))) (x_assign rfl) rfl (Wl_nil (tn ?_)))))
    exact ⟨(a0.Kind == (4 : Int)), Option.some.inj H, ⟨rfl, rfl, rfl, rfl, trivial⟩, E, S.pick [1] (by decide)⟩
  as_aux_lemma =>
  clear o7h
  rintro ρ w9 ⟨x6, rfl, hρ, E, S⟩
  rw [agree_eta hρ]
  clear hρ
  have H := o7H
  clear o7H
  refine tn ?_
  rcases iteS H with ⟨hb10, H⟩ | ⟨hb10, H⟩
  · refine Wp_cond_true (congrArg Value.bool hb10) ?_
    refine Wp_seq (Wp_region_lit (W_v (.int .i64 2) (x_assign rfl) rfl (W_v (.int .i64 1) (x_assign rfl) rfl (Wl_nil (tn ?_)))))
    refine Wp_ret ?_
    refine br (tr (?_))
    obtain rfl := Option.some.inj H
    exact ⟨_, _, _, fun w1 e1 => run_resR (vs := [.int .i64 2, .int .i64 1]) (FA.cons (rfl) (FA.cons (rfl) (FA.nil))), HM, E, S.pick [0] (by decide), ⟨rfl, rfl⟩⟩
  refine Wp_cond_false (congrArg Value.bool hb10) (Wp_seq (Wp_region_lit (W_v (.bool (a0.Kind == (9 : Int))) (x_ibin rfl rfl rfl rfl) rfl (W_v (.bool (a0.Kind == (9 : Int))) (x_assign rfl) rfl (Wl_nil ?_)))))
  refine tn ?_
  rcases iteS H with ⟨hb11, H⟩ | ⟨hb11, H⟩
  · refine Wp_cond_true (congrArg Value.bool hb11) ?_
    refine Wp_seq (Wp_region_lit (W_v (pt bc_0 3) (x_fieldAddr (o := 0) (off := 3) Tryd.underlying23 rfl ty3 rfl rfl) rfl (W_v (.int .i64 ac_0.Depth) (x_load (S.blk 0 rfl) ty3 rfl rfl) rfl (W_v (.int .i64 (IntKind.i64.wrap (ac_0.Depth + (1 : Int)))) (x_ibin rfl rfl rfl rfl) rfl (W_v (.int .i64 (IntKind.i64.wrap (ac_0.Depth + (1 : Int)))) (x_assign rfl) rfl ?_)))))
    refine W_v (.int .i64 0) (x_assign rfl) rfl (Wl_nil (tn ?_))
    refine Wp_ret ?_
    refine br (tr (?_))
    obtain rfl := Option.some.inj H
    exact ⟨_, _, _, fun w1 e1 => run_resR (vs := [.int .i64 (IntKind.i64.wrap (ac_0.Depth + (1 : Int))), .int .i64 0]) (FA.cons (rfl) (FA.cons (rfl) (FA.nil))), HM, E, S.pick [0] (by decide), ⟨rfl, rfl⟩⟩
  refine Wp_cond_false (congrArg Value.bool hb11) (Wp_skip (bn (tn ?_)))
  as_aux_lemma =>
  refine Wp_seq (Wp_region_lit (W_v (.int .i64 a1) (x_move rfl) rfl (W_v (.int .i64 a1) (x_move rfl) rfl (W_v (.int .i64 a1) (x_assign rfl) rfl (W_v (.int .i64 a1) (x_assign rfl) rfl ?_)))))
  refine Wl_nil (tn ?_)
  refine Wp_ret ?_
  obtain rfl := Option.some.inj H
  exact ⟨_, _, _, fun w1 e1 => run_resR (vs := [.int .i64 a1, .int .i64 a1]) (FA.cons (rfl) (FA.cons (rfl) (FA.nil))), HM, E, S.pick [0] (by decide), ⟨rfl, rfl⟩⟩
/-! ### ferryman/room.Now: function 13 -/
def room_Now_l0 (a0 : api_Config) (a1 : (List (List api_Call))) (t51 : (List replay_Done)) : Nat → Int → Int → Int → model_Model → Option ((Int × Int))
  | 0, _, _, _, _ => none
  | k + 1, x1185, x1186, x1187, x1188 => (if (decide (x1187 < (t51.length : Int))) = true then (Option.bind (α := Int × Int × model_Model) (if 0 ≤ x1187 ∧ x1187 < (t51.length : Int) then (if 0 ≤ (rd t51 x1187).Task ∧ (rd t51 x1187).Task < (a1.length : Int) then (if 0 ≤ (rd t51 x1187).Call ∧ (rd t51 x1187).Call < ((rd a1 ((rd t51 x1187).Task)).length : Int) then (Option.bind (α := Int) (Option.bind (model_Model_Retained_POOOO k x1188) (fun t2196 => some (t2196))) (fun x2195 => (Option.bind (model_Model_Do_POOOO k x1188 ((rd t51 x1187).Task) (rd (rd a1 ((rd t51 x1187).Task)) ((rd t51 x1187).Call))) (fun t2245 => (Option.bind (model_Model_Retained_POOOO k t2245.2) (fun t2279 => (Option.bind (room_Now_1 k (rd (rd a1 ((rd t51 x1187).Task)) ((rd t51 x1187).Call)) (imax (0 : Int) (IntKind.i64.wrap (x2195 - t2279))) a0) (fun t2284 => (Option.bind (α := Int × Int) (if (decide ((rd t51 x1187).Back < (0 : Int))) = true then some ((IntKind.i64.wrap (x1185 + t2284.1)), (IntKind.i64.wrap (x1186 + t2284.2))) else some (x1185, x1186)) (fun ⟨x2291, x2292⟩ => some (x2291, x2292, t2245.2))))))))))) else none) else none) else none) (fun ⟨x2016, x2017, x2018⟩ => room_Now_l0 a0 a1 t51 k x2016 x2017 (IntKind.i64.wrap (x1187 + (1 : Int))) x2018)) else some (x1185, x1186))
set_option maxHeartbeats 2000000 in
theorem room_Now_l0.mono {a0 : api_Config} {a1 : (List (List api_Call))} {t51 : (List replay_Done)} : ∀ {kl : Nat} {x0 x1 x2 x3}, OLe (room_Now_l0 a0 a1 t51 kl x0 x1 x2 x3) (room_Now_l0 a0 a1 t51 (kl + 1) x0 x1 x2 x3) := by
  intro kl
  induction kl with
  | zero => intros; exact OLe.none
  | succ kl ih =>
    intros
    rw [room_Now_l0.eq_2, room_Now_l0.eq_2]
    repeat' (first | with_reducible exact OLe.none | with_reducible exact OLe.some | with_reducible refine OLe.ite ?_ ?_ | with_reducible refine OLe.bind ?_ (fun _ => ?_) | with_reducible exact model_Model_Do_POOOO.mono | with_reducible exact model_Model_Retained_POOOO.mono | with_reducible exact room_Now_1.mono | exact ih | refine OLe.bind ?_ (fun _ => ?_) | refine OLe.ite ?_ ?_ | refine OLe.elim (fun _ => ?_) (fun _ => ?_) | split)
def room_Now_l1 (a0 : api_Config) (a1 : (List (List api_Call))) (t2360 : (List replay_Done)) : Nat → Int → Int → Int → model_Model → Option ((Int × Int))
  | 0, _, _, _, _ => none
  | k + 1, x3494, x3495, x3496, x3497 => (if (decide (x3496 < (t2360.length : Int))) = true then (Option.bind (α := Int × Int × model_Model) (if 0 ≤ x3496 ∧ x3496 < (t2360.length : Int) then (if 0 ≤ (rd t2360 x3496).Task ∧ (rd t2360 x3496).Task < (a1.length : Int) then (if 0 ≤ (rd t2360 x3496).Call ∧ (rd t2360 x3496).Call < ((rd a1 ((rd t2360 x3496).Task)).length : Int) then (Option.bind (α := Int) (Option.bind (model_Model_Retained_POOOO k x3497) (fun t4505 => some (t4505))) (fun x4504 => (Option.bind (model_Model_Do_POOOO k x3497 ((rd t2360 x3496).Task) (rd (rd a1 ((rd t2360 x3496).Task)) ((rd t2360 x3496).Call))) (fun t4554 => (Option.bind (model_Model_Retained_POOOO k t4554.2) (fun t4588 => (Option.bind (room_Now_1 k (rd (rd a1 ((rd t2360 x3496).Task)) ((rd t2360 x3496).Call)) (imax (0 : Int) (IntKind.i64.wrap (x4504 - t4588))) a0) (fun t4593 => (Option.bind (α := Int × Int) (if (decide ((rd t2360 x3496).Back < (0 : Int))) = true then some ((IntKind.i64.wrap (x3494 + t4593.1)), (IntKind.i64.wrap (x3495 + t4593.2))) else some (x3494, x3495)) (fun ⟨x4600, x4601⟩ => some (x4600, x4601, t4554.2))))))))))) else none) else none) else none) (fun ⟨x4325, x4326, x4327⟩ => room_Now_l1 a0 a1 t2360 k x4325 x4326 (IntKind.i64.wrap (x3496 + (1 : Int))) x4327)) else some (x3494, x3495))
set_option maxHeartbeats 2000000 in
theorem room_Now_l1.mono {a0 : api_Config} {a1 : (List (List api_Call))} {t2360 : (List replay_Done)} : ∀ {kl : Nat} {x0 x1 x2 x3}, OLe (room_Now_l1 a0 a1 t2360 kl x0 x1 x2 x3) (room_Now_l1 a0 a1 t2360 (kl + 1) x0 x1 x2 x3) := by
  intro kl
  induction kl with
  | zero => intros; exact OLe.none
  | succ kl ih =>
    intros
    rw [room_Now_l1.eq_2, room_Now_l1.eq_2]
    repeat' (first | with_reducible exact OLe.none | with_reducible exact OLe.some | with_reducible refine OLe.ite ?_ ?_ | with_reducible refine OLe.bind ?_ (fun _ => ?_) | with_reducible exact model_Model_Do_POOOO.mono | with_reducible exact model_Model_Retained_POOOO.mono | with_reducible exact room_Now_1.mono | exact ih | refine OLe.bind ?_ (fun _ => ?_) | refine OLe.ite ?_ ?_ | refine OLe.elim (fun _ => ?_) (fun _ => ?_) | split)
def room_Now (k : Nat) (a0 : api_Config) (a1 : (List (List api_Call))) (a2 : (List api_Event)) : Option (Int × Int × Int) :=
  (Option.bind (replay_Model_v k a0 a1 a2) (fun t4 => (Sum.elim (fun t6 => (if (t6 != (0 : Int)) = true then some ((0 : Int), (0 : Int), t6) else (Option.bind (model_Model_Retained_Z k ) (fun t12 => (Option.bind (model_Model_Keys_Z k ) (fun t17 => (Option.bind (model_New_v k a0) (fun t25 => (Sum.elim (fun t27 => some ((0 : Int), (0 : Int), (1 : Int))) (fun t28 => (Option.bind (replay_Answers k a0 a1 a2) (fun t51 => (Option.bind (room_Now_l0 a0 a1 t51 k t12 (t17.length : Int) (0 : Int) t28) (fun ⟨x1748, x1749⟩ => some (x1748, x1749, (0 : Int)))))))) t25)))))))) (fun t7 => (Option.bind (model_Model_Retained_POOOO k t7) (fun t2321 => (Option.bind (model_Model_Keys_POOOO k t7) (fun t2326 => (Option.bind (model_New_v k a0) (fun t2334 => (Sum.elim (fun t2336 => some ((0 : Int), (0 : Int), (1 : Int))) (fun t2337 => (Option.bind (replay_Answers k a0 a1 a2) (fun t2360 => (Option.bind (room_Now_l1 a0 a1 t2360 k t2321 (t2326.length : Int) (0 : Int) t2337) (fun ⟨x4057, x4058⟩ => some (x4057, x4058, (0 : Int)))))))) t2334)))))))) t4))
set_option maxHeartbeats 2000000 in
theorem room_Now.mono {k : Nat} {a0 : api_Config} {a1 : (List (List api_Call))} {a2 : (List api_Event)} : OLe (room_Now k a0 a1 a2) (room_Now (k + 1) a0 a1 a2) := by
  unfold room_Now
  repeat' (first | with_reducible exact OLe.none | with_reducible exact OLe.some | with_reducible refine OLe.ite ?_ ?_ | with_reducible refine OLe.bind ?_ (fun _ => ?_) | with_reducible exact model_Model_Keys_POOOO.mono | with_reducible exact model_Model_Keys_Z.mono | with_reducible exact model_Model_Retained_POOOO.mono | with_reducible exact model_Model_Retained_Z.mono | with_reducible exact model_New_v.mono | with_reducible exact replay_Answers.mono | with_reducible exact replay_Model_v.mono | with_reducible exact room_Now_l0.mono | with_reducible exact room_Now_l1.mono | refine OLe.bind ?_ (fun _ => ?_) | refine OLe.ite ?_ ?_ | refine OLe.elim (fun _ => ?_) (fun _ => ?_) | split)
set_option maxHeartbeats 8000000 in
set_option maxRecDepth 100000 in
theorem room_Now.con (k : Nat) (M : Hp) (a0 : api_Config) (A1 : Option Addr) (c1 : Nat) (a1 : (List (List api_Call))) (A2 : Option Addr) (c2 : Nat) (a2 : (List api_Event)) (r : Int × Int × Int) (hr1 : SlR (rSl r_api_Call) M (.slice A1 a1.length c1) a1) (hr2 : SlR r_api_Event M (.slice A2 a2.length c2) a2) (hg0 : ∃ gt fr, M 0 = some (.cells #[.nilFunc, .func (.func 92) #[] #[], .func (.func 93) #[] #[], .func (.func 94) #[] #[], .func (.func 95) #[] #[], .func (.func 96) #[] #[], .func (.func 97) #[] #[], .func (.func 98) #[] #[], .func (.func 99) #[] #[], .func (.func 100) #[] #[]] gt fr)) (hg1 : ∃ gt fr, M 1 = some (.cells #[.nilFunc, .func (.func 114) #[] #[], .func (.func 116) #[] #[], .func (.func 118) #[] #[]] gt fr)) (h : room_Now k a0 a1 a2 = some r) : Con Tryd.prog 13 #[.agg #[.int .i64 a0.Tasks, .int .i64 a0.Active, .int .i64 a0.Keys, .int .i64 a0.Depth, .int .i64 a0.TS, .int .i64 a0.KeyLen, .int .i64 a0.ValLen, .int .i64 a0.Fan], .slice A1 a1.length c1, .slice A2 a2.length c2] M [] (fun v M' Γ' => v = .tuple #[.int .i64 r.1, .int .i64 r.2.1, .int .i64 r.2.2] ∧ Γ' = []) := by
  refine con_of_wp Tryd.func13 rfl Tryd.ntmps13 Tryd.results13 rfl ?_
  intro w F rn S hrn
  have E := Ext.refl w
  have HM := Hp.le_refl M
  have H := h
  unfold room_Now at H
  refine Wp_seq (Wp_region_lit ?_)
  refine W_box S #[.int .i64 a0.Tasks, .int .i64 a0.Active, .int .i64 a0.Keys, .int .i64 a0.Depth, .int .i64 a0.TS, .int .i64 a0.KeyLen, .int .i64 a0.ValLen, .int .i64 a0.Fan] rfl rfl rfl ?_
  intro b1 w2 E' S
  replace E := E.trans E'
  clear E'
  refine W_v (.int .i64 0) (x_assign rfl) rfl (W_v (.int .i64 0) (x_assign rfl) rfl (W_v (.int .i64 0) (x_assign rfl) rfl (Wl_nil (tn (Wp_seq ?_)))))
  refine Wp_region_lit (W_v (.agg #[.int .i64 a0.Tasks, .int .i64 a0.Active, .int .i64 a0.Keys, .int .i64 a0.Depth, .int .i64 a0.TS, .int .i64 a0.KeyLen, .int .i64 a0.ValLen, .int .i64 a0.Fan]) (x_loadA (S.blk 0 rfl) ty23 rfl (sub_of_extract rfl) rfl rfl) rfl (W_v (.slice A1 a1.length c1) (x_move rfl) rfl (W_v (.slice A2 a2.length c2) (x_move rfl) rfl ?_)))
  obtain ⟨t4, ht5, H⟩ := bindS H
  rcases t4 with t6 | t7
  · skip
    replace H := elimL H
    refine W_callF2 fn18 (replay_Model_v.con k M a0 A1 c1 a1 A2 c2 a2 (Sum.inl t6) hr1 hr2 hg0 hg1 ht5) (Γ1 := []) (Γ2 := [_]) S rfl rfl (by rintro _ _ _ ⟨rfl, rfl⟩; exact flat_nil) ?_
    rintro _ w8 _ Γ' E' S ⟨rfl, rfl⟩
    replace E := E.trans E'
    clear E'
    replace S : St w8 M F [_] := S
    refine W_v (.tuple #[.pointer none, .int .i64 t6]) (x_move rfl) rfl (W_v (.pointer none) (x_extract rfl rfl) rfl (W_v (.int .i64 t6) (x_extract rfl rfl) rfl (W_v (.pointer none) (x_assign rfl) rfl (W_v (.int .i64 t6) (x_assign rfl) rfl (Wl_nil ?_)))))
    refine tn (Wp_seq (Wp_seq (Wp_region_lit (W_v (.int .i64 t6) (x_move rfl) rfl (W_v (.bool (t6 != (0 : Int))) (x_ibin rfl rfl rfl rfl) rfl ?_)))))
    refine Wl_nil (tn ?_)
    rcases iteS H with ⟨hb11, H⟩ | ⟨hb11, H⟩
    · refine Wp_cond_true (congrArg Value.bool hb11) ?_
      refine Wp_seq (Wp_region_lit (W_v (.int .i64 t6) (x_move rfl) rfl (W_v (.int .i64 0) (x_assign rfl) rfl (W_v (.int .i64 0) (x_assign rfl) rfl (W_v (.int .i64 t6) (x_assign rfl) rfl ?_)))))
      refine Wl_nil (tn ?_)
      refine Wp_ret ?_
      refine tr (?_)
      obtain rfl := Option.some.inj H
      exact ⟨_, _, _, fun w1 e1 => run_resR (vs := [.int .i64 0, .int .i64 0, .int .i64 t6]) (FA.cons (rfl) (FA.cons (rfl) (FA.cons (rfl) (FA.nil)))), HM, E, S.pick [] (by decide), ⟨rfl, rfl⟩⟩
    refine Wp_cond_false (congrArg Value.bool hb11) (Wp_skip (tn (Wp_seq (Wp_region_lit (W_v (.pointer none) (x_move rfl) rfl ?_)))))
    obtain ⟨t12, ht13, H⟩ := bindS H
    refine W_callF2 fn19 (model_Model_Retained_Z.con k M  t12  ht13) (Γ1 := []) (Γ2 := [_]) S rfl rfl (by rintro _ _ _ ⟨rfl, rfl⟩; exact flat_nil) ?_
    rintro _ w14 _ Γ' E' S ⟨rfl, rfl⟩
    replace E := E.trans E'
    clear E'
    replace S : St w14 M F [_] := S
    refine W_v (.pointer none) (x_move rfl) rfl ?_
    obtain ⟨t17, ht18, H⟩ := bindS H
    refine W_callF2 fn20 (model_Model_Keys_Z.con k M  t17  ht18) (Γ1 := []) (Γ2 := [_]) S rfl rfl (by rintro _ _ _ ⟨_, _, rfl, rfl⟩; exact (flat_cons (flat_row (fun _ _ _ _ h => h)) flat_nil)) ?_
    rintro _ w22 _ Γ' E' S ⟨A19, c20, rfl, rfl⟩
    replace E := E.trans E'
    clear E'
    replace S : St w22 M F [_, _] := S
    refine W_v (.int .i64 (t17.length : Int)) (x_len_slice (n := t17.length) Tryd.underlying58 rfl) rfl (W_v (.int .i64 t12) (x_assign rfl) rfl (W_v (.int .i64 (t17.length : Int)) (x_assign rfl) rfl (Wl_nil (tn ?_))))
    as_aux_lemma =>
    refine Wp_seq (Wp_region_lit (W_v (.agg #[.int .i64 a0.Tasks, .int .i64 a0.Active, .int .i64 a0.Keys, .int .i64 a0.Depth, .int .i64 a0.TS, .int .i64 a0.KeyLen, .int .i64 a0.ValLen, .int .i64 a0.Fan]) (x_loadA (S.blk 1 rfl) ty23 rfl (sub_of_extract rfl) rfl rfl) rfl ?_))
    obtain ⟨t25, ht26, H⟩ := bindS H
    rcases t25 with t27 | t28
    · skip
      replace H := elimL H
      refine W_callF2 fn22 (model_New_v.con k M a0 (Sum.inl t27)  ht26) (Γ1 := []) (Γ2 := [_, _]) S rfl rfl (by rintro _ _ _ ⟨rfl, rfl⟩; exact flat_nil) ?_
      rintro _ w29 _ Γ' E' S ⟨rfl, rfl⟩
      replace E := E.trans E'
      clear E'
      replace S : St w29 M F [_, _] := S
      refine W_v (.tuple #[.pointer none, .int .i64 1]) (x_move rfl) rfl (W_v (.pointer none) (x_extract rfl rfl) rfl (W_v (.int .i64 1) (x_extract rfl rfl) rfl (W_v (.pointer none) (x_assign rfl) rfl (W_v (.int .i64 1) (x_assign rfl) rfl (Wl_nil ?_)))))
      refine tn (Wp_seq (Wp_seq (Wp_region_lit (W_v (.int .i64 1) (x_move rfl) rfl (W_v (.bool true) (x_ibin rfl rfl rfl rfl) rfl ?_)))))
      refine Wl_nil (tn (Wp_cond_true rfl (Wp_seq (Wp_region_lit (W_v (.int .i64 1) (x_move rfl) rfl ?_)))))
      refine W_v (.int .i64 0) (x_assign rfl) rfl (W_v (.int .i64 0) (x_assign rfl) rfl (W_v (.int .i64 1) (x_assign rfl) rfl (Wl_nil (tn ?_))))
      refine Wp_ret ?_
      refine tr (?_)
      obtain rfl := Option.some.inj H
      exact ⟨_, _, _, fun w1 e1 => run_resR (vs := [.int .i64 0, .int .i64 0, .int .i64 1]) (FA.cons (rfl) (FA.cons (rfl) (FA.cons (rfl) (FA.nil)))), HM, E, S.pick [] (by decide), ⟨rfl, rfl⟩⟩
    · skip
      replace H := elimR H
      refine W_call fn22 (model_New_v.con k M a0 (Sum.inr t28)  ht26) (Γ1 := []) (Γ2 := [_, _]) S rfl rfl ?_
      rintro _ w48 M49 Γ' hM50 E' S ⟨b32, A34, c35, A37, c38, A40, c41, A43, c44, vs46, rfl, hm47, rfl⟩
      replace hg0 : ∃ gt fr, _ := (let ⟨gt, fr, h8⟩ := hg0; ⟨gt, fr, hM50 _ _ h8⟩)
      replace hg1 : ∃ gt fr, _ := (let ⟨gt, fr, h8⟩ := hg1; ⟨gt, fr, hM50 _ _ h8⟩)
      replace HM := Hp.le_trans HM hM50
      replace hr1 := SlR.mono hr1 hM50
      replace hr2 := SlR.mono hr2 hM50
      replace E := E.trans E'
      clear E'
      replace S : St w48 M49 F [_, _, _, _, _, _, _] := S
      refine W_v (.tuple #[pt b32 0, .int .i64 0]) (x_move rfl) rfl (W_v (pt b32 0) (x_extract rfl rfl) rfl (W_v (.int .i64 0) (x_extract rfl rfl) rfl (W_v (pt b32 0) (x_assign rfl) rfl (W_v (.int .i64 0) (x_assign rfl) rfl (Wl_nil ?_)))))
      refine tn (Wp_seq (Wp_seq (Wp_region_lit (W_v (.int .i64 0) (x_move rfl) rfl (W_v (.bool false) (x_ibin rfl rfl rfl rfl) rfl ?_)))))
      refine Wl_nil (tn (Wp_cond_false rfl (Wp_skip (tn (Wp_seq ?_)))))
      refine Wp_region_lit (W_v (.func (.func 23) #[] #[pt b1 0]) (x_makeFunc rfl) rfl (W_v (.func (.func 23) #[] #[pt b1 0]) (x_assign rfl) rfl (Wl_nil (tn (Wp_seq ?_)))))
      refine Wp_seq (Wp_region_lit (W_v (.agg #[.int .i64 a0.Tasks, .int .i64 a0.Active, .int .i64 a0.Keys, .int .i64 a0.Depth, .int .i64 a0.TS, .int .i64 a0.KeyLen, .int .i64 a0.ValLen, .int .i64 a0.Fan]) (x_loadA (S.blk 6 rfl) ty23 rfl (sub_of_extract rfl) rfl rfl) rfl (W_v (.slice A1 a1.length c1) (x_move rfl) rfl (W_v (.slice A2 a2.length c2) (x_move rfl) rfl ?_))))
      obtain ⟨t51, ht52, H⟩ := bindS H
      refine W_call fn17 (replay_Answers.con k M49 a0 A1 c1 a1 A2 c2 a2 t51 hr1 hr2 hg0 hg1 ht52) (Γ1 := []) (Γ2 := [_, _, _, _, _, _, _]) S rfl rfl ?_
      rintro _ w56 M57 Γ' hM58 E' S ⟨A53, c54, rfl, rfl⟩
      replace hg0 : ∃ gt fr, _ := (let ⟨gt, fr, h8⟩ := hg0; ⟨gt, fr, hM58 _ _ h8⟩)
      replace hg1 : ∃ gt fr, _ := (let ⟨gt, fr, h8⟩ := hg1; ⟨gt, fr, hM58 _ _ h8⟩)
      replace HM := Hp.le_trans HM hM58
      replace hr1 := SlR.mono hr1 hM58
      replace hr2 := SlR.mono hr2 hM58
      replace hm47 := MRel.mono hm47 hM58
      replace E := E.trans E'
      clear E'
      refine W_v (.int .i64 (t51.length : Int)) (x_len_slice (n := t51.length) Tryd.underlying50 rfl) rfl (W_v (.int .i64 0) (x_move rfl) rfl (Wl_nil (tn ?_)))
      obtain ⟨o1750, o1750h, o1750H⟩ := bindS H
      clear H
      refine Wp_blockJ (fun ρ w' => ∃ (x1748 : Int) (x1749 : Int) (Mj : Hp), (x1748, x1749) = o1750 ∧ Agree ρ [(6, .int .i64 x1748), (7, .int .i64 x1749)] ∧ M57.le Mj ∧ Ext w w' ∧ St w' Mj F []) ?_ ?_
      · skip
        refine Wp_loop (fun n ρ w' => ∃ (x1185 : Int) (x1186 : Int) (x1187 : Int) (x1188 : model_Model) (A1189 : Option Addr) (c1190 : Nat) (A1192 : Option Addr) (c1193 : Nat) (A1195 : Option Addr) (c1196 : Nat) (A1198 : Option Addr) (c1199 : Nat) (vs1201 : List (Str × Value)) (Mj : Hp), room_Now_l0 a0 a1 t51 n x1185 x1186 x1187 x1188 = some o1750 ∧ Agree ρ [(1, .slice A1 a1.length c1), (6, .int .i64 x1185), (7, .int .i64 x1186), (10, pt b32 0), (11, .func (.func 23) #[] #[pt b1 0]), (45, .slice A53 t51.length c54), (46, .int .i64 (t51.length : Int)), (47, .int .i64 x1187)] ∧ M57.le Mj ∧ Ext w w' ∧ St w' Mj F [MapC encS (fun v : Value => v) A1198 vs1201, Row r_model_tx 109 (.slice A1195 x1188.txs.length c1196) x1188.txs, MapC (Value.int .i64) (Value.int .i64) A1192 x1188.many, MapC enc_model_name (Value.int .i64) A1189 x1188.names, Row r_replay_Done 53 (.slice A53 t51.length c54) t51, B83 b32 x1188 A1189 A1192 A1195 c1196 A1198, B23 b1 a0] ∧ MRel r_model_row Mj x1188.rows vs1201) k ?_ ?_
        · skip
          exact ⟨t12, (t17.length : Int), (0 : Int), t28, A34, c35, A37, c38, A40, c41, A43, c44, vs46, M57, o1750h, ⟨rfl, rfl, rfl, rfl, rfl, rfl, rfl, rfl, trivial⟩, (Hp.le_refl M57), E, S.pick [5, 4, 3, 2, 0, 1, 7] (by decide), hm47⟩
        · intro n
          rintro ρ w1751 ⟨x1185, x1186, x1187, x1188, A1189, c1190, A1192, c1193, A1195, c1196, A1198, c1199, vs1201, M1752, H, hρ, hM1753, E, S, hm1202⟩
          rw [agree_eta hρ]
          clear hρ
          replace hg0 : ∃ gt fr, _ := (let ⟨gt, fr, h8⟩ := hg0; ⟨gt, fr, hM1753 _ _ h8⟩)
          replace hg1 : ∃ gt fr, _ := (let ⟨gt, fr, h8⟩ := hg1; ⟨gt, fr, hM1753 _ _ h8⟩)
          replace HM := Hp.le_trans HM hM1753
          replace hr1 := SlR.mono hr1 hM1753
          replace hr2 := SlR.mono hr2 hM1753
          replace hm47 := MRel.mono hm47 hM1753
          cases n with
          | zero => cases H
          | succ k =>
            rw [room_Now_l0.eq_2] at H
            refine Wp_seq (Wp_region_lit (W_v (.bool (decide (x1187 < (t51.length : Int)))) (x_ibin rfl rfl rfl rfl) rfl (Wl_nil (tn (Wp_seq ?_)))))
            rcases iteS H with ⟨hb1754, H⟩ | ⟨hb1754, H⟩
            · refine Wp_cond_true (congrArg Value.bool hb1754) ?_
              refine Wp_skip (tn (Wp_seq ?_))
              obtain ⟨o2033, o2033h, o2033H⟩ := bindS H
              refine Wp_cut (fun ρ w' => ∃ (x2016 : Int) (x2017 : Int) (x2018 : model_Model) (A2019 : Option Addr) (c2020 : Nat) (A2022 : Option Addr) (c2023 : Nat) (A2025 : Option Addr) (c2026 : Nat) (A2028 : Option Addr) (c2029 : Nat) (vs2031 : List (Str × Value)) (Mj : Hp), (x2016, x2017, x2018) = o2033 ∧ Agree ρ [(1, .slice A1 a1.length c1), (6, .int .i64 x2016), (7, .int .i64 x2017), (10, pt b32 0), (11, .func (.func 23) #[] #[pt b1 0]), (45, .slice A53 t51.length c54), (46, .int .i64 (t51.length : Int)), (47, .int .i64 x1187)] ∧ M1752.le Mj ∧ Ext w w' ∧ St w' Mj F [MapC encS (fun v : Value => v) A2028 vs2031, Row r_model_tx 109 (.slice A2025 x2018.txs.length c2026) x2018.txs, MapC (Value.int .i64) (Value.int .i64) A2022 x2018.many, MapC enc_model_name (Value.int .i64) A2019 x2018.names, B23 b1 a0, B83 b32 x2018 A2019 A2022 A2025 c2026 A2028, Row r_replay_Done 53 (.slice A53 t51.length c54) t51] ∧ MRel r_model_row Mj x2018.rows vs2031) ?_ ?_
              · as_aux_lemma =>
                  clear o2033H
                  have H := o2033h
                  clear o2033h
                  have LE2034 := Hp.le_refl M1752
                  refine Wp_block ?_
                  refine Wp_seq (Wp_region_lit ?_)
                  obtain ⟨⟨p2035, p2036⟩, H⟩ := chkS H
                  obtain ⟨b2037, o2038, cs2039, _, _, ee2044, hb2040, vs2041, hR2042, hc2043⟩ := SlW.at' (S.row_read 4 rfl) p2035 p2036
                  obtain ⟨v2048, hs2047, rfl⟩ := hR2042
                  obtain ⟨A2045, c2046, rfl, _⟩ := hs2047.form
                  refine W_v (.pointer (some ⟨b2037, o2038 + x1187.toNat * 8, none⟩)) (x_indexAddr Tryd.underlying50 ty53 (slA ee2044) rfl p2035 p2036) rfl (W_v (.agg #[.int .i64 ((rd t51 x1187).Task), .int .i64 ((rd t51 x1187).Call), .int .i64 ((rd t51 x1187).Answer.Err), .bool ((rd t51 x1187).Answer.Found), .string (bs ((rd t51 x1187).Answer.Value)), .slice A2045 ((rd t51 x1187).Answer.Pairs).length c2046, .int .i64 ((rd t51 x1187).Mark), .int .i64 ((rd t51 x1187).Back)]) (x_loadA (Hp.of_get hb2040) ty53 rfl (sub_el hc2043 0 rfl) rfl rfl) rfl ?_)
                  refine W_alloc S #[.int .i64 0, .int .i64 0, .int .i64 0, .bool false, .string (bs ([] : Str)), .slice none 0 0, .int .i64 0, .int .i64 0] ty53 rfl rfl ?_
                  intro b2049 w2050 E' S
                  replace E := E.trans E'
                  clear E'
                  refine W_store S 0 rfl ty53 rfl rfl [.int .i64 ((rd t51 x1187).Task), .int .i64 ((rd t51 x1187).Call), .int .i64 ((rd t51 x1187).Answer.Err), .bool ((rd t51 x1187).Answer.Found), .string (bs ((rd t51 x1187).Answer.Value)), .slice A2045 ((rd t51 x1187).Answer.Pairs).length c2046, .int .i64 ((rd t51 x1187).Mark), .int .i64 ((rd t51 x1187).Back)] rfl rfl rfl #[.int .i64 ((rd t51 x1187).Task), .int .i64 ((rd t51 x1187).Call), .int .i64 ((rd t51 x1187).Answer.Err), .bool ((rd t51 x1187).Answer.Found), .string (bs ((rd t51 x1187).Answer.Value)), .slice A2045 ((rd t51 x1187).Answer.Pairs).length c2046, .int .i64 ((rd t51 x1187).Mark), .int .i64 ((rd t51 x1187).Back)] (by as_aux_lemma => kernel_rfl) rfl ?_
                  intro w2052 E' S
                  replace E := E.trans E'
                  clear E'
                  refine Wl_nil (tn (Wp_seq ?_))
                  refine Wp_region_any (S := fun w' => ∃ Mx, M1752.le Mx ∧ St w' Mx F [B53 b2049 (rd t51 x1187) A2045 c2046, MapC encS (fun v : Value => v) A1198 vs1201, Row r_model_tx 109 (.slice A1195 x1188.txs.length c1196) x1188.txs, MapC (Value.int .i64) (Value.int .i64) A1192 x1188.many, MapC enc_model_name (Value.int .i64) A1189 x1188.names, Row r_replay_Done 53 (.slice A53 t51.length c54) t51, B83 b32 x1188 A1189 A1192 A1195 c1196 A1198, B23 b1 a0]) (L := 12) mixed ?_
                  intro w2148 hw2149 E'
                  replace S := S.heap hw2149
                  replace E := E.trans E'
                  clear E'
                  have D1 : ∃ Mx, Hp.le M1752 Mx ∧ St _ Mx F [_, _, _, _, _, _, _, _] := ⟨_, Hp.le_refl _, S.pick [0, 1, 2, 3, 4, 5, 6, 7] (by decide)⟩
                  refine Wa_take (i := 0) rfl (by kernel_rfl) rfl rfl (.slice A1 a1.length c1) rfl (fun w' h' => x_move rfl) D1 (Wa_take (i := 1) rfl (by kernel_rfl) rfl rfl (pt b2049 0) rfl (fun w' h' => x_fieldAddr (o := 0) (off := 0) Tryd.underlying53 rfl ty3 rfl rfl) D1 (Wa_take (i := 2) rfl (by kernel_rfl) rfl rfl (.int .i64 ((rd t51 x1187).Task)) rfl (fun w' h' => x_load (cls_blk h' 0 rfl) ty3 rfl rfl) D1 ?_))
                  obtain ⟨⟨p2150, p2151⟩, H⟩ := chkS H
                  obtain ⟨b2152, o2153, cs2154, _, _, ee2159, hb2155, vs2156, hR2157, hc2158⟩ := SlW.at' hr1 p2150 p2151
                  obtain ⟨v2163, hs2162, rfl⟩ := hR2157
                  obtain ⟨A2160, c2161, rfl, _⟩ := hs2162.form
                  have hs2162z := hs2162
                  refine Wa_take (i := 3) rfl (by kernel_rfl) rfl rfl (.pointer (some ⟨b2152, o2153 + ((rd t51 x1187).Task).toNat * 1, none⟩)) rfl (fun w' h' => x_indexAddr Tryd.underlying44 ty43 (slA ee2159) rfl p2150 p2151) D1 (Wa_take (i := 4) rfl (by kernel_rfl) rfl rfl (.slice A2160 (rd a1 ((rd t51 x1187).Task)).length c2161) rfl (fun w' h' => x_load (cls_frz h' hb2155) ty43 rfl (hc2158 0 _ rfl)) D1 (Wa_take (i := 5) rfl (by kernel_rfl) rfl rfl (pt b2049 1) rfl (fun w' h' => x_fieldAddr (o := 0) (off := 1) Tryd.underlying53 rfl ty3 rfl rfl) D1 (Wa_take (i := 6) rfl (by kernel_rfl) rfl rfl (.int .i64 ((rd t51 x1187).Call)) rfl (fun w' h' => x_load (cls_blk h' 0 rfl) ty3 rfl rfl) D1 ?_)))
                  obtain ⟨⟨p2164, p2165⟩, H⟩ := chkS H
                  obtain ⟨b2166, o2167, cs2168, _, _, ee2173, hb2169, vs2170, hR2171, hc2172⟩ := SlW.at' hs2162z p2164 p2165
                  obtain rfl : vs2170 = _ := hR2171
                  refine Wa_take (i := 7) rfl (by kernel_rfl) rfl rfl (.pointer (some ⟨b2166, o2167 + ((rd t51 x1187).Call).toNat * 7, none⟩)) rfl (fun w' h' => x_indexAddr Tryd.underlying43 ty42 (slA ee2173) rfl p2164 p2165) D1 (Wa_take (i := 8) rfl (by kernel_rfl) rfl rfl (.agg #[.int .u8 ((rd (rd a1 ((rd t51 x1187).Task)) ((rd t51 x1187).Call)).Kind), .int .i64 ((rd (rd a1 ((rd t51 x1187).Task)) ((rd t51 x1187).Call)).Tx), .string (bs ((rd (rd a1 ((rd t51 x1187).Task)) ((rd t51 x1187).Call)).Key)), .string (bs ((rd (rd a1 ((rd t51 x1187).Task)) ((rd t51 x1187).Call)).End)), .string (bs ((rd (rd a1 ((rd t51 x1187).Task)) ((rd t51 x1187).Call)).Value)), .int .i64 ((rd (rd a1 ((rd t51 x1187).Task)) ((rd t51 x1187).Call)).Limit), .int .u8 ((rd (rd a1 ((rd t51 x1187).Task)) ((rd t51 x1187).Call)).Engine)]) rfl (fun w' h' => x_loadA (cls_frz h' hb2169) ty42 rfl (sub_el hc2172 0 rfl) rfl rfl) D1 (Wa_take (i := 9) rfl (by kernel_rfl) rfl rfl (pt b32 0) rfl (fun w' h' => x_move rfl) D1 ?_))
                  obtain ⟨o2220, o2220h, o2220H⟩ := bindS H
                  clear H
                  refine Wa_join (fun ρ w' => ∃ (x2195 : Int) (b2193 : Nat), (x2195) = o2220 ∧ Agree ρ [(1, .slice A1 a1.length c1), (6, .int .i64 x1185), (7, .int .i64 x1186), (10, pt b32 0), (11, .func (.func 23) #[] #[pt b1 0]), (13, pt b2049 0), (14, pt b2193 0), (45, .slice A53 t51.length c54), (46, .int .i64 (t51.length : Int)), (47, .int .i64 x1187), (59, .agg #[.int .u8 ((rd (rd a1 ((rd t51 x1187).Task)) ((rd t51 x1187).Call)).Kind), .int .i64 ((rd (rd a1 ((rd t51 x1187).Task)) ((rd t51 x1187).Call)).Tx), .string (bs ((rd (rd a1 ((rd t51 x1187).Task)) ((rd t51 x1187).Call)).Key)), .string (bs ((rd (rd a1 ((rd t51 x1187).Task)) ((rd t51 x1187).Call)).End)), .string (bs ((rd (rd a1 ((rd t51 x1187).Task)) ((rd t51 x1187).Call)).Value)), .int .i64 ((rd (rd a1 ((rd t51 x1187).Task)) ((rd t51 x1187).Call)).Limit), .int .u8 ((rd (rd a1 ((rd t51 x1187).Task)) ((rd t51 x1187).Call)).Engine)]), (61, .int .i64 x2195)] ∧ Ext w w' ∧ St w' M1752 F [Blk b2193 (.cells #[.int .u8 0, .int .i64 0, .string (bs ([] : Str)), .string (bs ([] : Str)), .string (bs ([] : Str)), .int .i64 0, .int .u8 0] 42 (0, 0)), B83 b32 x1188 A1189 A1192 A1195 c1196 A1198, MapC enc_model_name (Value.int .i64) A1189 x1188.names, MapC (Value.int .i64) (Value.int .i64) A1192 x1188.many, Row r_model_tx 109 (.slice A1195 x1188.txs.length c1196) x1188.txs, MapC encS (fun v : Value => v) A1198 vs1201, B53 b2049 (rd t51 x1187) A2045 c2046, Row r_replay_Done 53 (.slice A53 t51.length c54) t51, B23 b1 a0]) 2 (Ls 14 [0, 1, 2, 3, 4, 5, 6, 7, 8, 9, 10, 11]) ?_ ?_
                  rotate_left
                  · intro hq2224
                    clear o2220H
                    refine Wa_join (fun ρ w' => ∃ (b2186 : Nat), (Option.bind (model_Model_Retained_POOOO k x1188) (fun t2215 => some (t2215))) = some o2220 ∧ Agree ρ [(1, .slice A1 a1.length c1), (6, .int .i64 x1185), (7, .int .i64 x1186), (10, pt b32 0), (11, .func (.func 23) #[] #[pt b1 0]), (13, pt b2049 0), (14, pt b2186 0), (45, .slice A53 t51.length c54), (46, .int .i64 (t51.length : Int)), (47, .int .i64 x1187), (59, .agg #[.int .u8 ((rd (rd a1 ((rd t51 x1187).Task)) ((rd t51 x1187).Call)).Kind), .int .i64 ((rd (rd a1 ((rd t51 x1187).Task)) ((rd t51 x1187).Call)).Tx), .string (bs ((rd (rd a1 ((rd t51 x1187).Task)) ((rd t51 x1187).Call)).Key)), .string (bs ((rd (rd a1 ((rd t51 x1187).Task)) ((rd t51 x1187).Call)).End)), .string (bs ((rd (rd a1 ((rd t51 x1187).Task)) ((rd t51 x1187).Call)).Value)), .int .i64 ((rd (rd a1 ((rd t51 x1187).Task)) ((rd t51 x1187).Call)).Limit), .int .u8 ((rd (rd a1 ((rd t51 x1187).Task)) ((rd t51 x1187).Call)).Engine)]), (60, pt b32 0)] ∧ Ext w w' ∧ St w' M1752 F [Blk b2186 (.cells #[.int .u8 0, .int .i64 0, .string (bs ([] : Str)), .string (bs ([] : Str)), .string (bs ([] : Str)), .int .i64 0, .int .u8 0] 42 (0, 0)), B53 b2049 (rd t51 x1187) A2045 c2046, MapC encS (fun v : Value => v) A1198 vs1201, Row r_model_tx 109 (.slice A1195 x1188.txs.length c1196) x1188.txs, MapC (Value.int .i64) (Value.int .i64) A1192 x1188.many, MapC enc_model_name (Value.int .i64) A1189 x1188.names, Row r_replay_Done 53 (.slice A53 t51.length c54) t51, B83 b32 x1188 A1189 A1192 A1195 c1196 A1198, B23 b1 a0]) 3 (Ls 14 [0, 1, 2, 3, 4, 5, 6, 7, 8, 9, 11]) ?_ ?_
                    · clear o2220h
                      rintro ρ w2225 ⟨b2186, H, hρ, E, S⟩
                      rw [agree_eta hρ]
                      clear hρ
                      refine Wa_solo (i := 10) rfl (by kernel_rfl) ?_
                      obtain ⟨t2226, ht2227, H⟩ := bindS H
                      replace S : St w2225 M1752 F [_, _, _, _, _, _, _, _, _] := S.pick [7, 5, 4, 3, 2, 0, 1, 6, 8] (by decide)
                      refine W_callF2 fn19 (model_Model_Retained_POOOO.con k M1752 A1189 c1190 A1192 c1193 A1195 c1196 A1198 c1199 vs1201 x1188 b32 t2226 hm1202 ht2227) (Γ1 := [_, _, _, _, _]) (Γ2 := [_, _, _, _]) S rfl rfl (by rintro _ _ _ ⟨rfl, rfl⟩; exact (flat_cons flat_blk (flat_cons flat_map (flat_cons flat_map (flat_cons (flat_row (fun _ _ _ _ h => h)) (flat_cons flat_map flat_nil)))))) ?_
                      rintro _ w2228 _ Γ' E' S ⟨rfl, rfl⟩
                      replace E := E.trans E'
                      clear E'
                      replace S : St w2228 M1752 F [_, _, _, _, _, _, _, _, _] := S
                      refine Wl_nil (on_n ⟨.inr ⟨M1752, Hp.le_refl M1752, (S.pick [6, 4, 3, 2, 1, 7, 0, 8] (by decide))⟩, ?_⟩)
                      exact hq2224 _ _ ⟨t2226, b2186, Option.some.inj H, ⟨rfl, rfl, rfl, rfl, rfl, rfl, rfl, rfl, rfl, rfl, rfl, rfl, trivial⟩, E, S.pick [5, 0, 1, 2, 3, 4, 6, 7, 8] (by decide)⟩
                    intro hq2223
                    refine Wa_join (fun ρ w' => ∃ (x2182 : Int), some (x2182) = some o2220 ∧ Agree ρ [(1, .slice A1 a1.length c1), (6, .int .i64 x1185), (7, .int .i64 x1186), (10, pt b32 0), (11, .func (.func 23) #[] #[pt b1 0]), (13, pt b2049 0), (45, .slice A53 t51.length c54), (46, .int .i64 (t51.length : Int)), (47, .int .i64 x1187), (59, .agg #[.int .u8 ((rd (rd a1 ((rd t51 x1187).Task)) ((rd t51 x1187).Call)).Kind), .int .i64 ((rd (rd a1 ((rd t51 x1187).Task)) ((rd t51 x1187).Call)).Tx), .string (bs ((rd (rd a1 ((rd t51 x1187).Task)) ((rd t51 x1187).Call)).Key)), .string (bs ((rd (rd a1 ((rd t51 x1187).Task)) ((rd t51 x1187).Call)).End)), .string (bs ((rd (rd a1 ((rd t51 x1187).Task)) ((rd t51 x1187).Call)).Value)), .int .i64 ((rd (rd a1 ((rd t51 x1187).Task)) ((rd t51 x1187).Call)).Limit), .int .u8 ((rd (rd a1 ((rd t51 x1187).Task)) ((rd t51 x1187).Call)).Engine)]), (61, .int .i64 x2182)] ∧ Ext w w' ∧ St w' M1752 F [B83 b32 x1188 A1189 A1192 A1195 c1196 A1198, MapC enc_model_name (Value.int .i64) A1189 x1188.names, MapC (Value.int .i64) (Value.int .i64) A1192 x1188.many, Row r_model_tx 109 (.slice A1195 x1188.txs.length c1196) x1188.txs, MapC encS (fun v : Value => v) A1198 vs1201, B53 b2049 (rd t51 x1187) A2045 c2046, Row r_replay_Done 53 (.slice A53 t51.length c54) t51, B23 b1 a0]) 3 (Ls 14 [0, 1, 2, 3, 4, 5, 6, 7, 8, 9, 10]) ?_ ?_
                    · clear o2220h
                      rintro ρ w2231 ⟨x2182, H, hρ, E, S⟩
                      rw [agree_eta hρ]
                      clear hρ
                      refine Wa_solo (i := 11) rfl (by kernel_rfl) ?_
                      refine W_alloc S #[.int .u8 0, .int .i64 0, .string (bs ([] : Str)), .string (bs ([] : Str)), .string (bs ([] : Str)), .int .i64 0, .int .u8 0] ty42 rfl rfl ?_
                      intro b2232 w2233 E' S
                      replace E := E.trans E'
                      clear E'
                      refine Wl_nil (on_n ⟨.inr ⟨M1752, Hp.le_refl M1752, (S.pick [6, 5, 4, 3, 2, 7, 1, 8] (by decide))⟩, ?_⟩)
                      exact hq2224 _ _ ⟨x2182, b2232, Option.some.inj H, ⟨rfl, rfl, rfl, rfl, rfl, rfl, rfl, rfl, rfl, rfl, rfl, rfl, trivial⟩, E, S.pick [0, 1, 2, 3, 4, 5, 6, 7, 8] (by decide)⟩
                    intro hq2222
                    have H := o2220h
                    refine Wa_oneOf (rs := [10, 11]) (by kernel_rfl) (by decide) ?_
                    simp only [List.forall_mem_cons, List.not_mem_nil, false_implies, implies_true, and_true]
                    refine ⟨?_, ?_⟩
                    · refine ⟨_, rfl, ?_⟩
                      obtain ⟨t2235, ht2236, H⟩ := bindS H
                      replace S : St w2148 M1752 F [_, _, _, _, _, _, _, _] := S.pick [6, 4, 3, 2, 1, 0, 5, 7] (by decide)
                      refine W_callF2 fn19 (model_Model_Retained_POOOO.con k M1752 A1189 c1190 A1192 c1193 A1195 c1196 A1198 c1199 vs1201 x1188 b32 t2235 hm1202 ht2236) (Γ1 := [_, _, _, _, _]) (Γ2 := [_, _, _]) S rfl rfl (by rintro _ _ _ ⟨rfl, rfl⟩; exact (flat_cons flat_blk (flat_cons flat_map (flat_cons flat_map (flat_cons (flat_row (fun _ _ _ _ h => h)) (flat_cons flat_map flat_nil)))))) ?_
                      rintro _ w2237 _ Γ' E' S ⟨rfl, rfl⟩
                      replace E := E.trans E'
                      clear E'
                      replace S : St w2237 M1752 F [_, _, _, _, _, _, _, _] := S
                      refine Wl_nil (on_n ⟨.inr ⟨M1752, Hp.le_refl M1752, (S.pick [5, 4, 3, 2, 1, 6, 0, 7] (by decide))⟩, ?_⟩)
                      exact hq2222 _ _ ⟨t2235, H, ⟨rfl, rfl, rfl, rfl, rfl, rfl, rfl, rfl, rfl, rfl, rfl, trivial⟩, E, S.pick [0, 1, 2, 3, 4, 5, 6, 7] (by decide)⟩
                    · refine ⟨_, rfl, ?_⟩
                      refine W_alloc S #[.int .u8 0, .int .i64 0, .string (bs ([] : Str)), .string (bs ([] : Str)), .string (bs ([] : Str)), .int .i64 0, .int .u8 0] ty42 rfl rfl ?_
                      intro b2240 w2241 E' S
                      replace E := E.trans E'
                      clear E'
                      refine Wl_nil (on_n ⟨.inr ⟨M1752, Hp.le_refl M1752, (S.pick [1, 2, 3, 4, 5, 6, 7, 8] (by decide))⟩, ?_⟩)
                      exact hq2223 _ _ ⟨b2240, H, ⟨rfl, rfl, rfl, rfl, rfl, rfl, rfl, rfl, rfl, rfl, rfl, rfl, trivial⟩, E, S.pick [0, 1, 2, 3, 4, 5, 6, 7, 8] (by decide)⟩
                  clear o2220h
                  rintro ρ w2243 ⟨x2195, b2193, rfl, hρ, E, S⟩
                  rw [agree_eta hρ]
                  clear hρ
                  have H := o2220H
                  clear o2220H
                  refine Wa_solo (i := 12) rfl (by kernel_rfl) ?_
                  refine W_store S 0 rfl ty42 rfl rfl [.int .u8 ((rd (rd a1 ((rd t51 x1187).Task)) ((rd t51 x1187).Call)).Kind), .int .i64 ((rd (rd a1 ((rd t51 x1187).Task)) ((rd t51 x1187).Call)).Tx), .string (bs ((rd (rd a1 ((rd t51 x1187).Task)) ((rd t51 x1187).Call)).Key)), .string (bs ((rd (rd a1 ((rd t51 x1187).Task)) ((rd t51 x1187).Call)).End)), .string (bs ((rd (rd a1 ((rd t51 x1187).Task)) ((rd t51 x1187).Call)).Value)), .int .i64 ((rd (rd a1 ((rd t51 x1187).Task)) ((rd t51 x1187).Call)).Limit), .int .u8 ((rd (rd a1 ((rd t51 x1187).Task)) ((rd t51 x1187).Call)).Engine)] rfl rfl rfl #[.int .u8 ((rd (rd a1 ((rd t51 x1187).Task)) ((rd t51 x1187).Call)).Kind), .int .i64 ((rd (rd a1 ((rd t51 x1187).Task)) ((rd t51 x1187).Call)).Tx), .string (bs ((rd (rd a1 ((rd t51 x1187).Task)) ((rd t51 x1187).Call)).Key)), .string (bs ((rd (rd a1 ((rd t51 x1187).Task)) ((rd t51 x1187).Call)).End)), .string (bs ((rd (rd a1 ((rd t51 x1187).Task)) ((rd t51 x1187).Call)).Value)), .int .i64 ((rd (rd a1 ((rd t51 x1187).Task)) ((rd t51 x1187).Call)).Limit), .int .u8 ((rd (rd a1 ((rd t51 x1187).Task)) ((rd t51 x1187).Call)).Engine)] (by as_aux_lemma => kernel_rfl) rfl ?_
                  intro w2244 E' S
                  replace E := E.trans E'
                  clear E'
                  refine Wl_nil (on_n ⟨.inl (by decide), ?_⟩)
                  refine Wa_solo (i := 13) rfl (by kernel_rfl) ?_
                  refine W_v (.int .i64 x2195) (x_assign rfl) rfl ?_
                  refine Wl_nil (on_n ⟨.inl (by decide), ?_⟩)
                  refine Wa_done (by kernel_rfl) ?_
                  refine tn ?_
                  as_aux_lemma =>
                  refine Wp_seq (Wp_region_lit (W_v (pt b32 0) (x_move rfl) rfl (W_v (pt b2049 0) (x_fieldAddr (o := 0) (off := 0) Tryd.underlying53 rfl ty3 rfl rfl) rfl (W_v (.int .i64 ((rd t51 x1187).Task)) (x_load (S.blk 6 rfl) ty3 rfl rfl) rfl (W_v (.agg #[.int .u8 ((rd (rd a1 ((rd t51 x1187).Task)) ((rd t51 x1187).Call)).Kind), .int .i64 ((rd (rd a1 ((rd t51 x1187).Task)) ((rd t51 x1187).Call)).Tx), .string (bs ((rd (rd a1 ((rd t51 x1187).Task)) ((rd t51 x1187).Call)).Key)), .string (bs ((rd (rd a1 ((rd t51 x1187).Task)) ((rd t51 x1187).Call)).End)), .string (bs ((rd (rd a1 ((rd t51 x1187).Task)) ((rd t51 x1187).Call)).Value)), .int .i64 ((rd (rd a1 ((rd t51 x1187).Task)) ((rd t51 x1187).Call)).Limit), .int .u8 ((rd (rd a1 ((rd t51 x1187).Task)) ((rd t51 x1187).Call)).Engine)]) (x_loadA (S.blk 0 rfl) ty42 rfl (sub_of_extract rfl) rfl rfl) rfl ?_)))))
                  obtain ⟨t2245, ht2246, H⟩ := bindS H
                  replace S : St w2244 M1752 F [_, _, _, _, _, _, _, _, _] := S.pick [1, 2, 3, 4, 5, 0, 6, 7, 8] (by decide)
                  refine W_call fn24 (model_Model_Do_POOOO.con k M1752 A1189 c1190 A1192 c1193 A1195 c1196 A1198 c1199 vs1201 x1188 ((rd t51 x1187).Task) (rd (rd a1 ((rd t51 x1187).Task)) ((rd t51 x1187).Call)) b32 t2245 hm1202 hg0 hg1 ht2246) (Γ1 := [_, _, _, _, _]) (Γ2 := [_, _, _, _]) S rfl rfl ?_
                  rintro _ w2264 M2265 Γ' hM2266 E' S ⟨A2247, c2248, A2250, c2251, A2253, c2254, A2256, c2257, A2259, c2260, vs2262, rfl, hm2263, rfl⟩
                  replace hg0 : ∃ gt fr, _ := (let ⟨gt, fr, h8⟩ := hg0; ⟨gt, fr, hM2266 _ _ h8⟩)
                  replace hg1 : ∃ gt fr, _ := (let ⟨gt, fr, h8⟩ := hg1; ⟨gt, fr, hM2266 _ _ h8⟩)
                  replace HM := Hp.le_trans HM hM2266
                  replace hM1753 := Hp.le_trans hM1753 hM2266
                  replace LE2034 := Hp.le_trans LE2034 hM2266
                  replace hr1 := SlR.mono hr1 hM2266
                  replace hr2 := SlR.mono hr2 hM2266
                  replace hm47 := MRel.mono hm47 hM2266
                  replace hm1202 := MRel.mono hm1202 hM2266
                  replace hs2047 := SlR.mono hs2047 hM2266
                  replace hs2162 := SlR.mono hs2162 hM2266
                  replace E := E.trans E'
                  clear E'
                  replace S : St w2264 M2265 F [_, _, _, _, _, _, _, _, _, _] := S
                  refine Wl_nil (tn (Wp_seq ?_))
                  refine Wp_region_any (S := fun w' => ∃ Mx, M2265.le Mx ∧ St w' Mx F [Row r_api_Pair 133 (.slice A2247 t2245.1.Pairs.length c2248) t2245.1.Pairs, B83 b32 t2245.2 A2250 A2253 A2256 c2257 A2259, MapC enc_model_name (Value.int .i64) A2250 t2245.2.names, MapC (Value.int .i64) (Value.int .i64) A2253 t2245.2.many, Row r_model_tx 109 (.slice A2256 t2245.2.txs.length c2257) t2245.2.txs, MapC encS (fun v : Value => v) A2259 vs2262, B42 b2193 (rd (rd a1 ((rd t51 x1187).Task)) ((rd t51 x1187).Call)), B53 b2049 (rd t51 x1187) A2045 c2046, Row r_replay_Done 53 (.slice A53 t51.length c54) t51, B23 b1 a0]) (L := 13) mixed ?_
                  intro w2277 hw2278 E'
                  replace S := S.heap hw2278
                  replace E := E.trans E'
                  clear E'
                  have D2 : ∃ Mx, Hp.le M2265 Mx ∧ St _ Mx F [_, _, _, _, _, _, _, _, _, _] := ⟨_, Hp.le_refl _, S.pick [0, 1, 2, 3, 4, 5, 6, 7, 8, 9] (by decide)⟩
                  refine Wa_take (i := 0) rfl (by kernel_rfl) rfl rfl (.func (.func 23) #[] #[pt b1 0]) rfl (fun w' h' => x_move rfl) D2 (Wa_take (i := 1) rfl (by kernel_rfl) rfl rfl (.agg #[.int .u8 ((rd (rd a1 ((rd t51 x1187).Task)) ((rd t51 x1187).Call)).Kind), .int .i64 ((rd (rd a1 ((rd t51 x1187).Task)) ((rd t51 x1187).Call)).Tx), .string (bs ((rd (rd a1 ((rd t51 x1187).Task)) ((rd t51 x1187).Call)).Key)), .string (bs ((rd (rd a1 ((rd t51 x1187).Task)) ((rd t51 x1187).Call)).End)), .string (bs ((rd (rd a1 ((rd t51 x1187).Task)) ((rd t51 x1187).Call)).Value)), .int .i64 ((rd (rd a1 ((rd t51 x1187).Task)) ((rd t51 x1187).Call)).Limit), .int .u8 ((rd (rd a1 ((rd t51 x1187).Task)) ((rd t51 x1187).Call)).Engine)]) rfl (fun w' h' => x_loadA (cls_blk h' 6 rfl) ty42 rfl (sub_of_extract rfl) rfl rfl) D2 (Wa_take (i := 2) rfl (by kernel_rfl) rfl rfl (.int .i64 x2195) rfl (fun w' h' => x_move rfl) D2 (Wa_take (i := 3) rfl (by kernel_rfl) rfl rfl (pt b32 0) rfl (fun w' h' => x_move rfl) D2 ?_)))
                  refine Wa_solo (i := 4) rfl (by kernel_rfl) ?_
                  obtain ⟨t2279, ht2280, H⟩ := bindS H
                  replace S : St w2277 M2265 F [_, _, _, _, _, _, _, _, _, _] := S.pick [1, 2, 3, 4, 5, 0, 6, 7, 8, 9] (by decide)
                  refine W_callF2 fn19 (model_Model_Retained_POOOO.con k M2265 A2250 c2251 A2253 c2254 A2256 c2257 A2259 c2260 vs2262 t2245.2 b32 t2279 hm2263 ht2280) (Γ1 := [_, _, _, _, _]) (Γ2 := [_, _, _, _, _]) S rfl rfl (by rintro _ _ _ ⟨rfl, rfl⟩; exact (flat_cons flat_blk (flat_cons flat_map (flat_cons flat_map (flat_cons (flat_row (fun _ _ _ _ h => h)) (flat_cons flat_map flat_nil)))))) ?_
                  rintro _ w2281 _ Γ' E' S ⟨rfl, rfl⟩
                  replace E := E.trans E'
                  clear E'
                  replace S : St w2281 M2265 F [_, _, _, _, _, _, _, _, _, _] := S
                  refine Wl_nil (on_n ⟨.inr ⟨M2265, Hp.le_refl M2265, (S.pick [5, 0, 1, 2, 3, 4, 6, 7, 8, 9] (by decide))⟩, ?_⟩)
                  have D3 : ∃ Mx, Hp.le M2265 Mx ∧ St _ Mx F [_, _, _, _, _, _, _, _, _, _] := ⟨_, Hp.le_refl _, S.pick [5, 0, 1, 2, 3, 4, 6, 7, 8, 9] (by decide)⟩
                  refine Wa_take (i := 5) rfl (by kernel_rfl) rfl rfl (.int .i64 (IntKind.i64.wrap (x2195 - t2279))) rfl (fun w' h' => x_ibin rfl rfl rfl rfl) D3 (Wa_take (i := 6) rfl (by kernel_rfl) rfl rfl (.int .i64 (imax (0 : Int) (IntKind.i64.wrap (x2195 - t2279)))) rfl (fun w' h' => x_max2 rfl rfl) D3 ?_)
                  refine Wa_solo (i := 7) rfl (by kernel_rfl) ?_
                  obtain ⟨t2284, ht2285, H⟩ := bindS H
                  replace S : St w2281 M2265 F [_, _, _, _, _, _, _, _, _, _] := S.pick [9, 0, 1, 2, 3, 4, 5, 6, 7, 8] (by decide)
                  refine W_callvF2 (fs := []) (cap := [pt b1 0]) fn23 rfl (room_Now_1.con k M2265 (rd (rd a1 ((rd t51 x1187).Task)) ((rd t51 x1187).Call)) (imax (0 : Int) (IntKind.i64.wrap (x2195 - t2279))) a0 b1 t2284  ht2285) (Γ1 := [_]) (Γ2 := [_, _, _, _, _, _, _, _, _]) S rfl rfl (by rintro _ _ _ ⟨rfl, rfl⟩; exact (flat_cons flat_blk flat_nil)) ?_
                  rintro _ w2286 _ Γ' E' S ⟨rfl, rfl⟩
                  replace E := E.trans E'
                  clear E'
                  replace S : St w2286 M2265 F [_, _, _, _, _, _, _, _, _, _] := S
                  refine Wl_nil (on_n ⟨.inr ⟨M2265, Hp.le_refl M2265, (S.pick [6, 1, 2, 3, 4, 5, 7, 8, 9, 0] (by decide))⟩, ?_⟩)
                  have D4 : ∃ Mx, Hp.le M2265 Mx ∧ St _ Mx F [_, _, _, _, _, _, _, _, _, _] := ⟨_, Hp.le_refl _, S.pick [6, 1, 2, 3, 4, 5, 7, 8, 9, 0] (by decide)⟩
                  refine Wa_take (i := 8) rfl (by kernel_rfl) rfl rfl (.tuple #[.int .i64 t2284.1, .int .i64 t2284.2]) rfl (fun w' h' => x_move rfl) D4 (Wa_take (i := 9) rfl (by kernel_rfl) rfl rfl (.int .i64 t2284.1) rfl (fun w' h' => x_extract rfl rfl) D4 (Wa_take (i := 10) rfl (by kernel_rfl) rfl rfl (.int .i64 t2284.2) rfl (fun w' h' => x_extract rfl rfl) D4 (Wa_take (i := 11) rfl (by kernel_rfl) rfl rfl (.int .i64 t2284.1) rfl (fun w' h' => x_assign rfl) D4 (Wa_take (i := 12) rfl (by kernel_rfl) rfl rfl (.int .i64 t2284.2) rfl (fun w' h' => x_assign rfl) D4 ?_))))
                  refine Wa_done (by kernel_rfl) ?_
                  refine tn ?_
                  as_aux_lemma =>
                  refine Wp_seq (Wp_region_lit (W_v (pt b2049 7) (x_fieldAddr (o := 0) (off := 7) Tryd.underlying53 rfl ty3 rfl rfl) rfl (W_v (.int .i64 ((rd t51 x1187).Back)) (x_load (S.blk 8 rfl) ty3 rfl rfl) rfl (W_v (.bool (decide ((rd t51 x1187).Back < (0 : Int)))) (x_ibin rfl rfl rfl rfl) rfl (Wl_nil ?_)))))
                  refine tn ?_
                  obtain ⟨o2293, o2293h, o2293H⟩ := bindS H
                  refine Wp_cut (fun ρ w' => ∃ (x2291 : Int) (x2292 : Int), (x2291, x2292) = o2293 ∧ Agree ρ [(1, .slice A1 a1.length c1), (6, .int .i64 x2291), (7, .int .i64 x2292), (10, pt b32 0), (11, .func (.func 23) #[] #[pt b1 0]), (45, .slice A53 t51.length c54), (46, .int .i64 (t51.length : Int)), (47, .int .i64 x1187)] ∧ Ext w w' ∧ St w' M2265 F [B23 b1 a0, B83 b32 t2245.2 A2250 A2253 A2256 c2257 A2259, MapC enc_model_name (Value.int .i64) A2250 t2245.2.names, MapC (Value.int .i64) (Value.int .i64) A2253 t2245.2.many, Row r_model_tx 109 (.slice A2256 t2245.2.txs.length c2257) t2245.2.txs, MapC encS (fun v : Value => v) A2259 vs2262, Row r_replay_Done 53 (.slice A53 t51.length c54) t51]) ?_ ?_
                  · clear o2293H
                    have H := o2293h
                    clear o2293h
                    rcases iteS H with ⟨hb2294, H⟩ | ⟨hb2294, H⟩
                    · refine Wp_cond_true (congrArg Value.bool hb2294) ?_
                      refine Wp_seq (Wp_region_lit (W_v (.int .i64 x1185) (x_move rfl) rfl (W_v (.int .i64 t2284.1) (x_move rfl) rfl (W_v (.int .i64 (IntKind.i64.wrap (x1185 + t2284.1))) (x_ibin rfl rfl rfl rfl) rfl (W_v (.int .i64 (IntKind.i64.wrap (x1185 + t2284.1))) (x_assign rfl) rfl ?_)))))
                      refine Wl_nil (tn (Wp_region_lit (W_v (.int .i64 x1186) (x_move rfl) rfl (W_v (.int .i64 t2284.2) (x_move rfl) rfl (W_v (.int .i64 (IntKind.i64.wrap (x1186 + t2284.2))) (x_ibin rfl rfl rfl rfl) rfl ?_)))))
                      refine W_v (.int .i64 (IntKind.i64.wrap (x1186 + t2284.2))) (x_assign rfl) rfl (Wl_nil (tn ?_))
                      exact ⟨(IntKind.i64.wrap (x1185 + t2284.1)), (IntKind.i64.wrap (x1186 + t2284.2)), Option.some.inj H, ⟨rfl, rfl, rfl, rfl, rfl, rfl, rfl, rfl, trivial⟩, E, S.pick [0, 1, 2, 3, 4, 5, 9] (by decide)⟩
                    refine Wp_cond_false (congrArg Value.bool hb2294) (Wp_skip (tn ?_))
                    exact ⟨x1185, x1186, Option.some.inj H, ⟨rfl, rfl, rfl, rfl, rfl, rfl, rfl, rfl, trivial⟩, E, S.pick [0, 1, 2, 3, 4, 5, 9] (by decide)⟩
                  clear o2293h
                  rintro ρ w2295 ⟨x2291, x2292, rfl, hρ, E, S⟩
                  rw [agree_eta hρ]
                  clear hρ
                  have H := o2293H
                  clear o2293H
                  refine bn (tn ?_)
                  exact ⟨x2291, x2292, t2245.2, A2250, c2251, A2253, c2254, A2256, c2257, A2259, c2260, vs2262, M2265, Option.some.inj H, ⟨rfl, rfl, rfl, rfl, rfl, rfl, rfl, rfl, trivial⟩, LE2034, E, S.pick [5, 4, 3, 2, 0, 1, 6] (by decide), hm2263⟩
              clear o2033h
              rintro ρ w2296 ⟨x2016, x2017, x2018, A2019, c2020, A2022, c2023, A2025, c2026, A2028, c2029, vs2031, M2297, rfl, hρ, hM2298, E, S, hm2032⟩
              rw [agree_eta hρ]
              clear hρ
              replace hg0 : ∃ gt fr, _ := (let ⟨gt, fr, h8⟩ := hg0; ⟨gt, fr, hM2298 _ _ h8⟩)
              replace hg1 : ∃ gt fr, _ := (let ⟨gt, fr, h8⟩ := hg1; ⟨gt, fr, hM2298 _ _ h8⟩)
              replace HM := Hp.le_trans HM hM2298
              replace hM1753 := Hp.le_trans hM1753 hM2298
              replace hr1 := SlR.mono hr1 hM2298
              replace hr2 := SlR.mono hr2 hM2298
              replace hm47 := MRel.mono hm47 hM2298
              replace hm1202 := MRel.mono hm1202 hM2298
              have H := o2033H
              clear o2033H
              refine tn (Wp_region_lit (W_v (.int .i64 (IntKind.i64.wrap (x1187 + (1 : Int)))) (x_ibin rfl rfl rfl rfl) rfl (W_v (.int .i64 (IntKind.i64.wrap (x1187 + (1 : Int)))) (x_move rfl) rfl (Wl_nil (tn ?_)))))
              exact ⟨k, Nat.lt_succ_self k, ⟨x2016, x2017, (IntKind.i64.wrap (x1187 + (1 : Int))), x2018, A2019, c2020, A2022, c2023, A2025, c2026, A2028, c2029, vs2031, M2297, H, ⟨rfl, rfl, rfl, rfl, rfl, rfl, rfl, rfl, trivial⟩, hM1753, E, S.pick [0, 1, 2, 3, 6, 5, 4] (by decide), hm2032⟩⟩
            refine Wp_cond_false (congrArg Value.bool hb1754) ?_
            refine Wp_exit ?_
            refine tx (tx (bsm (?_)))
            refine tn ?_
            exact ⟨x1185, x1186, M1752, Option.some.inj H, ⟨rfl, rfl, trivial⟩, hM1753, E, S.pick [] (by decide)⟩
      clear o1750h
      rintro ρ w2299 ⟨x1748, x1749, M2300, rfl, hρ, hM2301, E, S⟩
      rw [agree_eta hρ]
      clear hρ
      replace hg0 : ∃ gt fr, _ := (let ⟨gt, fr, h8⟩ := hg0; ⟨gt, fr, hM2301 _ _ h8⟩)
      replace hg1 : ∃ gt fr, _ := (let ⟨gt, fr, h8⟩ := hg1; ⟨gt, fr, hM2301 _ _ h8⟩)
      replace HM := Hp.le_trans HM hM2301
      replace hr1 := SlR.mono hr1 hM2301
      replace hr2 := SlR.mono hr2 hM2301
      replace hm47 := MRel.mono hm47 hM2301
      have H := o1750H
      clear o1750H
      refine tn ?_
      as_aux_lemma =>
      refine Wp_seq (Wp_region_lit (W_v (.int .i64 x1748) (x_move rfl) rfl (W_v (.int .i64 x1749) (x_move rfl) rfl (W_v (.int .i64 x1748) (x_assign rfl) rfl (W_v (.int .i64 x1749) (x_assign rfl) rfl ?_)))))
      refine W_v (.int .i64 0) (x_assign rfl) rfl (Wl_nil (tn ?_))
      refine Wp_ret ?_
      obtain rfl := Option.some.inj H
      exact ⟨_, _, _, fun w1 e1 => run_resR (vs := [.int .i64 x1748, .int .i64 x1749, .int .i64 0]) (FA.cons (rfl) (FA.cons (rfl) (FA.cons (rfl) (FA.nil)))), HM, E, S.pick [] (by decide), ⟨rfl, rfl⟩⟩
  · skip
    replace H := elimR H
    refine W_call fn18 (replay_Model_v.con k M a0 A1 c1 a1 A2 c2 a2 (Sum.inr t7) hr1 hr2 hg0 hg1 ht5) (Γ1 := []) (Γ2 := [_]) S rfl rfl ?_
    rintro _ w2318 M2319 Γ' hM2320 E' S ⟨b2302, A2304, c2305, A2307, c2308, A2310, c2311, A2313, c2314, vs2316, rfl, hm2317, rfl⟩
    replace hg0 : ∃ gt fr, _ := (let ⟨gt, fr, h8⟩ := hg0; ⟨gt, fr, hM2320 _ _ h8⟩)
    replace hg1 : ∃ gt fr, _ := (let ⟨gt, fr, h8⟩ := hg1; ⟨gt, fr, hM2320 _ _ h8⟩)
    replace HM := Hp.le_trans HM hM2320
    replace hr1 := SlR.mono hr1 hM2320
    replace hr2 := SlR.mono hr2 hM2320
    replace E := E.trans E'
    clear E'
    replace S : St w2318 M2319 F [_, _, _, _, _, _] := S
    refine W_v (.tuple #[pt b2302 0, .int .i64 0]) (x_move rfl) rfl (W_v (pt b2302 0) (x_extract rfl rfl) rfl (W_v (.int .i64 0) (x_extract rfl rfl) rfl (W_v (pt b2302 0) (x_assign rfl) rfl (W_v (.int .i64 0) (x_assign rfl) rfl (Wl_nil ?_)))))
    refine tn (Wp_seq (Wp_seq (Wp_region_lit (W_v (.int .i64 0) (x_move rfl) rfl (W_v (.bool false) (x_ibin rfl rfl rfl rfl) rfl ?_)))))
    refine Wl_nil (tn (Wp_cond_false rfl (Wp_skip (tn (Wp_seq ?_)))))
    refine Wp_region_lit (W_v (pt b2302 0) (x_move rfl) rfl ?_)
    obtain ⟨t2321, ht2322, H⟩ := bindS H
    refine W_callF2 fn19 (model_Model_Retained_POOOO.con k M2319 A2304 c2305 A2307 c2308 A2310 c2311 A2313 c2314 vs2316 t7 b2302 t2321 hm2317 ht2322) (Γ1 := [_, _, _, _, _]) (Γ2 := [_]) S rfl rfl (by rintro _ _ _ ⟨rfl, rfl⟩; exact (flat_cons flat_blk (flat_cons flat_map (flat_cons flat_map (flat_cons (flat_row (fun _ _ _ _ h => h)) (flat_cons flat_map flat_nil)))))) ?_
    rintro _ w2323 _ Γ' E' S ⟨rfl, rfl⟩
    replace E := E.trans E'
    clear E'
    replace S : St w2323 M2319 F [_, _, _, _, _, _] := S
    refine W_v (pt b2302 0) (x_move rfl) rfl ?_
    obtain ⟨t2326, ht2327, H⟩ := bindS H
    refine W_callF2 fn20 (model_Model_Keys_POOOO.con k M2319 A2304 c2305 A2307 c2308 A2310 c2311 A2313 c2314 vs2316 t7 b2302 t2326 hm2317 ht2327) (Γ1 := [_, _, _, _, _]) (Γ2 := [_]) S rfl rfl (by rintro _ _ _ ⟨_, _, rfl, rfl⟩; exact (flat_cons (flat_row (fun _ _ _ _ h => h)) (flat_cons flat_blk (flat_cons flat_map (flat_cons flat_map (flat_cons (flat_row (fun _ _ _ _ h => h)) (flat_cons flat_map flat_nil))))))) ?_
    rintro _ w2331 _ Γ' E' S ⟨A2328, c2329, rfl, rfl⟩
    replace E := E.trans E'
    clear E'
    replace S : St w2331 M2319 F [_, _, _, _, _, _, _] := S
    refine W_v (.int .i64 (t2326.length : Int)) (x_len_slice (n := t2326.length) Tryd.underlying58 rfl) rfl (W_v (.int .i64 t2321) (x_assign rfl) rfl (W_v (.int .i64 (t2326.length : Int)) (x_assign rfl) rfl (Wl_nil (tn (Wp_seq ?_)))))
    refine Wp_region_lit (W_v (.agg #[.int .i64 a0.Tasks, .int .i64 a0.Active, .int .i64 a0.Keys, .int .i64 a0.Depth, .int .i64 a0.TS, .int .i64 a0.KeyLen, .int .i64 a0.ValLen, .int .i64 a0.Fan]) (x_loadA (S.blk 6 rfl) ty23 rfl (sub_of_extract rfl) rfl rfl) rfl ?_)
    obtain ⟨t2334, ht2335, H⟩ := bindS H
    rcases t2334 with t2336 | t2337
    · skip
      replace H := elimL H
      refine W_callF2 fn22 (model_New_v.con k M2319 a0 (Sum.inl t2336)  ht2335) (Γ1 := []) (Γ2 := [_, _, _, _, _, _, _]) S rfl rfl (by rintro _ _ _ ⟨rfl, rfl⟩; exact flat_nil) ?_
      rintro _ w2338 _ Γ' E' S ⟨rfl, rfl⟩
      replace E := E.trans E'
      clear E'
      replace S : St w2338 M2319 F [_, _, _, _, _, _, _] := S
      refine W_v (.tuple #[.pointer none, .int .i64 1]) (x_move rfl) rfl (W_v (.pointer none) (x_extract rfl rfl) rfl (W_v (.int .i64 1) (x_extract rfl rfl) rfl (W_v (.pointer none) (x_assign rfl) rfl (W_v (.int .i64 1) (x_assign rfl) rfl (Wl_nil ?_)))))
      refine tn (Wp_seq (Wp_seq (Wp_region_lit (W_v (.int .i64 1) (x_move rfl) rfl (W_v (.bool true) (x_ibin rfl rfl rfl rfl) rfl ?_)))))
      refine Wl_nil (tn (Wp_cond_true rfl (Wp_seq (Wp_region_lit (W_v (.int .i64 1) (x_move rfl) rfl ?_)))))
      refine W_v (.int .i64 0) (x_assign rfl) rfl (W_v (.int .i64 0) (x_assign rfl) rfl (W_v (.int .i64 1) (x_assign rfl) rfl (Wl_nil (tn ?_))))
      refine Wp_ret ?_
      refine tr (?_)
      obtain rfl := Option.some.inj H
      exact ⟨_, _, _, fun w1 e1 => run_resR (vs := [.int .i64 0, .int .i64 0, .int .i64 1]) (FA.cons (rfl) (FA.cons (rfl) (FA.cons (rfl) (FA.nil)))), HM, E, S.pick [] (by decide), ⟨rfl, rfl⟩⟩
    · skip
      replace H := elimR H
      refine W_call fn22 (model_New_v.con k M2319 a0 (Sum.inr t2337)  ht2335) (Γ1 := []) (Γ2 := [_, _, _, _, _, _, _]) S rfl rfl ?_
      rintro _ w2357 M2358 Γ' hM2359 E' S ⟨b2341, A2343, c2344, A2346, c2347, A2349, c2350, A2352, c2353, vs2355, rfl, hm2356, rfl⟩
      replace hg0 : ∃ gt fr, _ := (let ⟨gt, fr, h8⟩ := hg0; ⟨gt, fr, hM2359 _ _ h8⟩)
      replace hg1 : ∃ gt fr, _ := (let ⟨gt, fr, h8⟩ := hg1; ⟨gt, fr, hM2359 _ _ h8⟩)
      replace HM := Hp.le_trans HM hM2359
      replace hr1 := SlR.mono hr1 hM2359
      replace hr2 := SlR.mono hr2 hM2359
      replace hm2317 := MRel.mono hm2317 hM2359
      replace E := E.trans E'
      clear E'
      replace S : St w2357 M2358 F [_, _, _, _, _, _, _, _, _, _, _, _] := S
      refine W_v (.tuple #[pt b2341 0, .int .i64 0]) (x_move rfl) rfl (W_v (pt b2341 0) (x_extract rfl rfl) rfl (W_v (.int .i64 0) (x_extract rfl rfl) rfl (W_v (pt b2341 0) (x_assign rfl) rfl (W_v (.int .i64 0) (x_assign rfl) rfl (Wl_nil ?_)))))
      refine tn (Wp_seq (Wp_seq (Wp_region_lit (W_v (.int .i64 0) (x_move rfl) rfl (W_v (.bool false) (x_ibin rfl rfl rfl rfl) rfl ?_)))))
      refine Wl_nil (tn (Wp_cond_false rfl (Wp_skip (tn (Wp_seq ?_)))))
      refine Wp_region_lit (W_v (.func (.func 23) #[] #[pt b1 0]) (x_makeFunc rfl) rfl (W_v (.func (.func 23) #[] #[pt b1 0]) (x_assign rfl) rfl (Wl_nil (tn (Wp_seq ?_)))))
      refine Wp_seq (Wp_region_lit (W_v (.agg #[.int .i64 a0.Tasks, .int .i64 a0.Active, .int .i64 a0.Keys, .int .i64 a0.Depth, .int .i64 a0.TS, .int .i64 a0.KeyLen, .int .i64 a0.ValLen, .int .i64 a0.Fan]) (x_loadA (S.blk 11 rfl) ty23 rfl (sub_of_extract rfl) rfl rfl) rfl (W_v (.slice A1 a1.length c1) (x_move rfl) rfl (W_v (.slice A2 a2.length c2) (x_move rfl) rfl ?_))))
      obtain ⟨t2360, ht2361, H⟩ := bindS H
      refine W_call fn17 (replay_Answers.con k M2358 a0 A1 c1 a1 A2 c2 a2 t2360 hr1 hr2 hg0 hg1 ht2361) (Γ1 := []) (Γ2 := [_, _, _, _, _, _, _, _, _, _, _, _]) S rfl rfl ?_
      rintro _ w2365 M2366 Γ' hM2367 E' S ⟨A2362, c2363, rfl, rfl⟩
      replace hg0 : ∃ gt fr, _ := (let ⟨gt, fr, h8⟩ := hg0; ⟨gt, fr, hM2367 _ _ h8⟩)
      replace hg1 : ∃ gt fr, _ := (let ⟨gt, fr, h8⟩ := hg1; ⟨gt, fr, hM2367 _ _ h8⟩)
      replace HM := Hp.le_trans HM hM2367
      replace hr1 := SlR.mono hr1 hM2367
      replace hr2 := SlR.mono hr2 hM2367
      replace hm2317 := MRel.mono hm2317 hM2367
      replace hm2356 := MRel.mono hm2356 hM2367
      replace E := E.trans E'
      clear E'
      refine W_v (.int .i64 (t2360.length : Int)) (x_len_slice (n := t2360.length) Tryd.underlying50 rfl) rfl (W_v (.int .i64 0) (x_move rfl) rfl (Wl_nil (tn ?_)))
      obtain ⟨o4059, o4059h, o4059H⟩ := bindS H
      clear H
      refine Wp_blockJ (fun ρ w' => ∃ (x4057 : Int) (x4058 : Int) (Mj : Hp), (x4057, x4058) = o4059 ∧ Agree ρ [(6, .int .i64 x4057), (7, .int .i64 x4058)] ∧ M2366.le Mj ∧ Ext w w' ∧ St w' Mj F []) ?_ ?_
      · skip
        refine Wp_loop (fun n ρ w' => ∃ (x3494 : Int) (x3495 : Int) (x3496 : Int) (x3497 : model_Model) (A3498 : Option Addr) (c3499 : Nat) (A3501 : Option Addr) (c3502 : Nat) (A3504 : Option Addr) (c3505 : Nat) (A3507 : Option Addr) (c3508 : Nat) (vs3510 : List (Str × Value)) (Mj : Hp), room_Now_l1 a0 a1 t2360 n x3494 x3495 x3496 x3497 = some o4059 ∧ Agree ρ [(1, .slice A1 a1.length c1), (6, .int .i64 x3494), (7, .int .i64 x3495), (10, pt b2341 0), (11, .func (.func 23) #[] #[pt b1 0]), (45, .slice A2362 t2360.length c2363), (46, .int .i64 (t2360.length : Int)), (47, .int .i64 x3496)] ∧ M2366.le Mj ∧ Ext w w' ∧ St w' Mj F [MapC encS (fun v : Value => v) A3507 vs3510, Row r_model_tx 109 (.slice A3504 x3497.txs.length c3505) x3497.txs, MapC (Value.int .i64) (Value.int .i64) A3501 x3497.many, MapC enc_model_name (Value.int .i64) A3498 x3497.names, Row r_replay_Done 53 (.slice A2362 t2360.length c2363) t2360, B83 b2341 x3497 A3498 A3501 A3504 c3505 A3507, B23 b1 a0] ∧ MRel r_model_row Mj x3497.rows vs3510) k ?_ ?_
        · skip
          exact ⟨t2321, (t2326.length : Int), (0 : Int), t2337, A2343, c2344, A2346, c2347, A2349, c2350, A2352, c2353, vs2355, M2366, o4059h, ⟨rfl, rfl, rfl, rfl, rfl, rfl, rfl, rfl, trivial⟩, (Hp.le_refl M2366), E, S.pick [5, 4, 3, 2, 0, 1, 12] (by decide), hm2356⟩
        · intro n
          rintro ρ w4060 ⟨x3494, x3495, x3496, x3497, A3498, c3499, A3501, c3502, A3504, c3505, A3507, c3508, vs3510, M4061, H, hρ, hM4062, E, S, hm3511⟩
          rw [agree_eta hρ]
          clear hρ
          replace hg0 : ∃ gt fr, _ := (let ⟨gt, fr, h8⟩ := hg0; ⟨gt, fr, hM4062 _ _ h8⟩)
          replace hg1 : ∃ gt fr, _ := (let ⟨gt, fr, h8⟩ := hg1; ⟨gt, fr, hM4062 _ _ h8⟩)
          replace HM := Hp.le_trans HM hM4062
          replace hr1 := SlR.mono hr1 hM4062
          replace hr2 := SlR.mono hr2 hM4062
          replace hm2317 := MRel.mono hm2317 hM4062
          replace hm2356 := MRel.mono hm2356 hM4062
          cases n with
          | zero => cases H
          | succ k =>
            rw [room_Now_l1.eq_2] at H
            refine Wp_seq (Wp_region_lit (W_v (.bool (decide (x3496 < (t2360.length : Int)))) (x_ibin rfl rfl rfl rfl) rfl (Wl_nil (tn (Wp_seq ?_)))))
            rcases iteS H with ⟨hb4063, H⟩ | ⟨hb4063, H⟩
            · refine Wp_cond_true (congrArg Value.bool hb4063) ?_
              refine Wp_skip (tn (Wp_seq ?_))
              obtain ⟨o4342, o4342h, o4342H⟩ := bindS H
              refine Wp_cut (fun ρ w' => ∃ (x4325 : Int) (x4326 : Int) (x4327 : model_Model) (A4328 : Option Addr) (c4329 : Nat) (A4331 : Option Addr) (c4332 : Nat) (A4334 : Option Addr) (c4335 : Nat) (A4337 : Option Addr) (c4338 : Nat) (vs4340 : List (Str × Value)) (Mj : Hp), (x4325, x4326, x4327) = o4342 ∧ Agree ρ [(1, .slice A1 a1.length c1), (6, .int .i64 x4325), (7, .int .i64 x4326), (10, pt b2341 0), (11, .func (.func 23) #[] #[pt b1 0]), (45, .slice A2362 t2360.length c2363), (46, .int .i64 (t2360.length : Int)), (47, .int .i64 x3496)] ∧ M4061.le Mj ∧ Ext w w' ∧ St w' Mj F [MapC encS (fun v : Value => v) A4337 vs4340, Row r_model_tx 109 (.slice A4334 x4327.txs.length c4335) x4327.txs, MapC (Value.int .i64) (Value.int .i64) A4331 x4327.many, MapC enc_model_name (Value.int .i64) A4328 x4327.names, B23 b1 a0, B83 b2341 x4327 A4328 A4331 A4334 c4335 A4337, Row r_replay_Done 53 (.slice A2362 t2360.length c2363) t2360] ∧ MRel r_model_row Mj x4327.rows vs4340) ?_ ?_
              · as_aux_lemma =>
                  clear o4342H
                  have H := o4342h
                  clear o4342h
                  have LE4343 := Hp.le_refl M4061
                  refine Wp_block ?_
                  refine Wp_seq (Wp_region_lit ?_)
                  obtain ⟨⟨p4344, p4345⟩, H⟩ := chkS H
                  obtain ⟨b4346, o4347, cs4348, _, _, ee4353, hb4349, vs4350, hR4351, hc4352⟩ := SlW.at' (S.row_read 4 rfl) p4344 p4345
                  obtain ⟨v4357, hs4356, rfl⟩ := hR4351
                  obtain ⟨A4354, c4355, rfl, _⟩ := hs4356.form
                  refine W_v (.pointer (some ⟨b4346, o4347 + x3496.toNat * 8, none⟩)) (x_indexAddr Tryd.underlying50 ty53 (slA ee4353) rfl p4344 p4345) rfl (W_v (.agg #[.int .i64 ((rd t2360 x3496).Task), .int .i64 ((rd t2360 x3496).Call), .int .i64 ((rd t2360 x3496).Answer.Err), .bool ((rd t2360 x3496).Answer.Found), .string (bs ((rd t2360 x3496).Answer.Value)), .slice A4354 ((rd t2360 x3496).Answer.Pairs).length c4355, .int .i64 ((rd t2360 x3496).Mark), .int .i64 ((rd t2360 x3496).Back)]) (x_loadA (Hp.of_get hb4349) ty53 rfl (sub_el hc4352 0 rfl) rfl rfl) rfl ?_)
                  refine W_alloc S #[.int .i64 0, .int .i64 0, .int .i64 0, .bool false, .string (bs ([] : Str)), .slice none 0 0, .int .i64 0, .int .i64 0] ty53 rfl rfl ?_
                  intro b4358 w4359 E' S
                  replace E := E.trans E'
                  clear E'
                  refine W_store S 0 rfl ty53 rfl rfl [.int .i64 ((rd t2360 x3496).Task), .int .i64 ((rd t2360 x3496).Call), .int .i64 ((rd t2360 x3496).Answer.Err), .bool ((rd t2360 x3496).Answer.Found), .string (bs ((rd t2360 x3496).Answer.Value)), .slice A4354 ((rd t2360 x3496).Answer.Pairs).length c4355, .int .i64 ((rd t2360 x3496).Mark), .int .i64 ((rd t2360 x3496).Back)] rfl rfl rfl #[.int .i64 ((rd t2360 x3496).Task), .int .i64 ((rd t2360 x3496).Call), .int .i64 ((rd t2360 x3496).Answer.Err), .bool ((rd t2360 x3496).Answer.Found), .string (bs ((rd t2360 x3496).Answer.Value)), .slice A4354 ((rd t2360 x3496).Answer.Pairs).length c4355, .int .i64 ((rd t2360 x3496).Mark), .int .i64 ((rd t2360 x3496).Back)] (by as_aux_lemma => kernel_rfl) rfl ?_
                  intro w4361 E' S
                  replace E := E.trans E'
                  clear E'
                  refine Wl_nil (tn (Wp_seq ?_))
                  refine Wp_region_any (S := fun w' => ∃ Mx, M4061.le Mx ∧ St w' Mx F [B53 b4358 (rd t2360 x3496) A4354 c4355, MapC encS (fun v : Value => v) A3507 vs3510, Row r_model_tx 109 (.slice A3504 x3497.txs.length c3505) x3497.txs, MapC (Value.int .i64) (Value.int .i64) A3501 x3497.many, MapC enc_model_name (Value.int .i64) A3498 x3497.names, Row r_replay_Done 53 (.slice A2362 t2360.length c2363) t2360, B83 b2341 x3497 A3498 A3501 A3504 c3505 A3507, B23 b1 a0]) (L := 12) mixed ?_
                  intro w4457 hw4458 E'
                  replace S := S.heap hw4458
                  replace E := E.trans E'
                  clear E'
                  have D5 : ∃ Mx, Hp.le M4061 Mx ∧ St _ Mx F [_, _, _, _, _, _, _, _] := ⟨_, Hp.le_refl _, S.pick [0, 1, 2, 3, 4, 5, 6, 7] (by decide)⟩
                  refine Wa_take (i := 0) rfl (by kernel_rfl) rfl rfl (.slice A1 a1.length c1) rfl (fun w' h' => x_move rfl) D5 (Wa_take (i := 1) rfl (by kernel_rfl) rfl rfl (pt b4358 0) rfl (fun w' h' => x_fieldAddr (o := 0) (off := 0) Tryd.underlying53 rfl ty3 rfl rfl) D5 (Wa_take (i := 2) rfl (by kernel_rfl) rfl rfl (.int .i64 ((rd t2360 x3496).Task)) rfl (fun w' h' => x_load (cls_blk h' 0 rfl) ty3 rfl rfl) D5 ?_))
                  obtain ⟨⟨p4459, p4460⟩, H⟩ := chkS H
                  obtain ⟨b4461, o4462, cs4463, _, _, ee4468, hb4464, vs4465, hR4466, hc4467⟩ := SlW.at' hr1 p4459 p4460
                  obtain ⟨v4472, hs4471, rfl⟩ := hR4466
                  obtain ⟨A4469, c4470, rfl, _⟩ := hs4471.form
                  have hs4471z := hs4471
                  refine Wa_take (i := 3) rfl (by kernel_rfl) rfl rfl (.pointer (some ⟨b4461, o4462 + ((rd t2360 x3496).Task).toNat * 1, none⟩)) rfl (fun w' h' => x_indexAddr Tryd.underlying44 ty43 (slA ee4468) rfl p4459 p4460) D5 (Wa_take (i := 4) rfl (by kernel_rfl) rfl rfl (.slice A4469 (rd a1 ((rd t2360 x3496).Task)).length c4470) rfl (fun w' h' => x_load (cls_frz h' hb4464) ty43 rfl (hc4467 0 _ rfl)) D5 (Wa_take (i := 5) rfl (by kernel_rfl) rfl rfl (pt b4358 1) rfl (fun w' h' => x_fieldAddr (o := 0) (off := 1) Tryd.underlying53 rfl ty3 rfl rfl) D5 (Wa_take (i := 6) rfl (by kernel_rfl) rfl rfl (.int .i64 ((rd t2360 x3496).Call)) rfl (fun w' h' => x_load (cls_blk h' 0 rfl) ty3 rfl rfl) D5 ?_)))
                  obtain ⟨⟨p4473, p4474⟩, H⟩ := chkS H
                  obtain ⟨b4475, o4476, cs4477, _, _, ee4482, hb4478, vs4479, hR4480, hc4481⟩ := SlW.at' hs4471z p4473 p4474
                  obtain rfl : vs4479 = _ := hR4480
                  refine Wa_take (i := 7) rfl (by kernel_rfl) rfl rfl (.pointer (some ⟨b4475, o4476 + ((rd t2360 x3496).Call).toNat * 7, none⟩)) rfl (fun w' h' => x_indexAddr Tryd.underlying43 ty42 (slA ee4482) rfl p4473 p4474) D5 (Wa_take (i := 8) rfl (by kernel_rfl) rfl rfl (.agg #[.int .u8 ((rd (rd a1 ((rd t2360 x3496).Task)) ((rd t2360 x3496).Call)).Kind), .int .i64 ((rd (rd a1 ((rd t2360 x3496).Task)) ((rd t2360 x3496).Call)).Tx), .string (bs ((rd (rd a1 ((rd t2360 x3496).Task)) ((rd t2360 x3496).Call)).Key)), .string (bs ((rd (rd a1 ((rd t2360 x3496).Task)) ((rd t2360 x3496).Call)).End)), .string (bs ((rd (rd a1 ((rd t2360 x3496).Task)) ((rd t2360 x3496).Call)).Value)), .int .i64 ((rd (rd a1 ((rd t2360 x3496).Task)) ((rd t2360 x3496).Call)).Limit), .int .u8 ((rd (rd a1 ((rd t2360 x3496).Task)) ((rd t2360 x3496).Call)).Engine)]) rfl (fun w' h' => x_loadA (cls_frz h' hb4478) ty42 rfl (sub_el hc4481 0 rfl) rfl rfl) D5 (Wa_take (i := 9) rfl (by kernel_rfl) rfl rfl (pt b2341 0) rfl (fun w' h' => x_move rfl) D5 ?_))
                  obtain ⟨o4529, o4529h, o4529H⟩ := bindS H
                  clear H
                  refine Wa_join (fun ρ w' => ∃ (x4504 : Int) (b4502 : Nat), (x4504) = o4529 ∧ Agree ρ [(1, .slice A1 a1.length c1), (6, .int .i64 x3494), (7, .int .i64 x3495), (10, pt b2341 0), (11, .func (.func 23) #[] #[pt b1 0]), (13, pt b4358 0), (14, pt b4502 0), (45, .slice A2362 t2360.length c2363), (46, .int .i64 (t2360.length : Int)), (47, .int .i64 x3496), (59, .agg #[.int .u8 ((rd (rd a1 ((rd t2360 x3496).Task)) ((rd t2360 x3496).Call)).Kind), .int .i64 ((rd (rd a1 ((rd t2360 x3496).Task)) ((rd t2360 x3496).Call)).Tx), .string (bs ((rd (rd a1 ((rd t2360 x3496).Task)) ((rd t2360 x3496).Call)).Key)), .string (bs ((rd (rd a1 ((rd t2360 x3496).Task)) ((rd t2360 x3496).Call)).End)), .string (bs ((rd (rd a1 ((rd t2360 x3496).Task)) ((rd t2360 x3496).Call)).Value)), .int .i64 ((rd (rd a1 ((rd t2360 x3496).Task)) ((rd t2360 x3496).Call)).Limit), .int .u8 ((rd (rd a1 ((rd t2360 x3496).Task)) ((rd t2360 x3496).Call)).Engine)]), (61, .int .i64 x4504)] ∧ Ext w w' ∧ St w' M4061 F [Blk b4502 (.cells #[.int .u8 0, .int .i64 0, .string (bs ([] : Str)), .string (bs ([] : Str)), .string (bs ([] : Str)), .int .i64 0, .int .u8 0] 42 (0, 0)), B83 b2341 x3497 A3498 A3501 A3504 c3505 A3507, MapC enc_model_name (Value.int .i64) A3498 x3497.names, MapC (Value.int .i64) (Value.int .i64) A3501 x3497.many, Row r_model_tx 109 (.slice A3504 x3497.txs.length c3505) x3497.txs, MapC encS (fun v : Value => v) A3507 vs3510, B53 b4358 (rd t2360 x3496) A4354 c4355, Row r_replay_Done 53 (.slice A2362 t2360.length c2363) t2360, B23 b1 a0]) 2 (Ls 14 [0, 1, 2, 3, 4, 5, 6, 7, 8, 9, 10, 11]) ?_ ?_
                  rotate_left
                  · intro hq4533
                    clear o4529H
                    refine Wa_join (fun ρ w' => ∃ (b4495 : Nat), (Option.bind (model_Model_Retained_POOOO k x3497) (fun t4524 => some (t4524))) = some o4529 ∧ Agree ρ [(1, .slice A1 a1.length c1), (6, .int .i64 x3494), (7, .int .i64 x3495), (10, pt b2341 0), (11, .func (.func 23) #[] #[pt b1 0]), (13, pt b4358 0), (14, pt b4495 0), (45, .slice A2362 t2360.length c2363), (46, .int .i64 (t2360.length : Int)), (47, .int .i64 x3496), (59, .agg #[.int .u8 ((rd (rd a1 ((rd t2360 x3496).Task)) ((rd t2360 x3496).Call)).Kind), .int .i64 ((rd (rd a1 ((rd t2360 x3496).Task)) ((rd t2360 x3496).Call)).Tx), .string (bs ((rd (rd a1 ((rd t2360 x3496).Task)) ((rd t2360 x3496).Call)).Key)), .string (bs ((rd (rd a1 ((rd t2360 x3496).Task)) ((rd t2360 x3496).Call)).End)), .string (bs ((rd (rd a1 ((rd t2360 x3496).Task)) ((rd t2360 x3496).Call)).Value)), .int .i64 ((rd (rd a1 ((rd t2360 x3496).Task)) ((rd t2360 x3496).Call)).Limit), .int .u8 ((rd (rd a1 ((rd t2360 x3496).Task)) ((rd t2360 x3496).Call)).Engine)]), (60, pt b2341 0)] ∧ Ext w w' ∧ St w' M4061 F [Blk b4495 (.cells #[.int .u8 0, .int .i64 0, .string (bs ([] : Str)), .string (bs ([] : Str)), .string (bs ([] : Str)), .int .i64 0, .int .u8 0] 42 (0, 0)), B53 b4358 (rd t2360 x3496) A4354 c4355, MapC encS (fun v : Value => v) A3507 vs3510, Row r_model_tx 109 (.slice A3504 x3497.txs.length c3505) x3497.txs, MapC (Value.int .i64) (Value.int .i64) A3501 x3497.many, MapC enc_model_name (Value.int .i64) A3498 x3497.names, Row r_replay_Done 53 (.slice A2362 t2360.length c2363) t2360, B83 b2341 x3497 A3498 A3501 A3504 c3505 A3507, B23 b1 a0]) 3 (Ls 14 [0, 1, 2, 3, 4, 5, 6, 7, 8, 9, 11]) ?_ ?_
                    · clear o4529h
                      rintro ρ w4534 ⟨b4495, H, hρ, E, S⟩
                      rw [agree_eta hρ]
                      clear hρ
                      refine Wa_solo (i := 10) rfl (by kernel_rfl) ?_
                      obtain ⟨t4535, ht4536, H⟩ := bindS H
                      replace S : St w4534 M4061 F [_, _, _, _, _, _, _, _, _] := S.pick [7, 5, 4, 3, 2, 0, 1, 6, 8] (by decide)
                      refine W_callF2 fn19 (model_Model_Retained_POOOO.con k M4061 A3498 c3499 A3501 c3502 A3504 c3505 A3507 c3508 vs3510 x3497 b2341 t4535 hm3511 ht4536) (Γ1 := [_, _, _, _, _]) (Γ2 := [_, _, _, _]) S rfl rfl (by rintro _ _ _ ⟨rfl, rfl⟩; exact (flat_cons flat_blk (flat_cons flat_map (flat_cons flat_map (flat_cons (flat_row (fun _ _ _ _ h => h)) (flat_cons flat_map flat_nil)))))) ?_
                      rintro _ w4537 _ Γ' E' S ⟨rfl, rfl⟩
                      replace E := E.trans E'
                      clear E'
                      replace S : St w4537 M4061 F [_, _, _, _, _, _, _, _, _] := S
                      refine Wl_nil (on_n ⟨.inr ⟨M4061, Hp.le_refl M4061, (S.pick [6, 4, 3, 2, 1, 7, 0, 8] (by decide))⟩, ?_⟩)
                      exact hq4533 _ _ ⟨t4535, b4495, Option.some.inj H, ⟨rfl, rfl, rfl, rfl, rfl, rfl, rfl, rfl, rfl, rfl, rfl, rfl, trivial⟩, E, S.pick [5, 0, 1, 2, 3, 4, 6, 7, 8] (by decide)⟩
                    intro hq4532
                    refine Wa_join (fun ρ w' => ∃ (x4491 : Int), some (x4491) = some o4529 ∧ Agree ρ [(1, .slice A1 a1.length c1), (6, .int .i64 x3494), (7, .int .i64 x3495), (10, pt b2341 0), (11, .func (.func 23) #[] #[pt b1 0]), (13, pt b4358 0), (45, .slice A2362 t2360.length c2363), (46, .int .i64 (t2360.length : Int)), (47, .int .i64 x3496), (59, .agg #[.int .u8 ((rd (rd a1 ((rd t2360 x3496).Task)) ((rd t2360 x3496).Call)).Kind), .int .i64 ((rd (rd a1 ((rd t2360 x3496).Task)) ((rd t2360 x3496).Call)).Tx), .string (bs ((rd (rd a1 ((rd t2360 x3496).Task)) ((rd t2360 x3496).Call)).Key)), .string (bs ((rd (rd a1 ((rd t2360 x3496).Task)) ((rd t2360 x3496).Call)).End)), .string (bs ((rd (rd a1 ((rd t2360 x3496).Task)) ((rd t2360 x3496).Call)).Value)), .int .i64 ((rd (rd a1 ((rd t2360 x3496).Task)) ((rd t2360 x3496).Call)).Limit), .int .u8 ((rd (rd a1 ((rd t2360 x3496).Task)) ((rd t2360 x3496).Call)).Engine)]), (61, .int .i64 x4491)] ∧ Ext w w' ∧ St w' M4061 F [B83 b2341 x3497 A3498 A3501 A3504 c3505 A3507, MapC enc_model_name (Value.int .i64) A3498 x3497.names, MapC (Value.int .i64) (Value.int .i64) A3501 x3497.many, Row r_model_tx 109 (.slice A3504 x3497.txs.length c3505) x3497.txs, MapC encS (fun v : Value => v) A3507 vs3510, B53 b4358 (rd t2360 x3496) A4354 c4355, Row r_replay_Done 53 (.slice A2362 t2360.length c2363) t2360, B23 b1 a0]) 3 (Ls 14 [0, 1, 2, 3, 4, 5, 6, 7, 8, 9, 10]) ?_ ?_
                    · clear o4529h
                      rintro ρ w4540 ⟨x4491, H, hρ, E, S⟩
                      rw [agree_eta hρ]
                      clear hρ
                      refine Wa_solo (i := 11) rfl (by kernel_rfl) ?_
                      refine W_alloc S #[.int .u8 0, .int .i64 0, .string (bs ([] : Str)), .string (bs ([] : Str)), .string (bs ([] : Str)), .int .i64 0, .int .u8 0] ty42 rfl rfl ?_
                      intro b4541 w4542 E' S
                      replace E := E.trans E'
                      clear E'
                      refine Wl_nil (on_n ⟨.inr ⟨M4061, Hp.le_refl M4061, (S.pick [6, 5, 4, 3, 2, 7, 1, 8] (by decide))⟩, ?_⟩)
                      exact hq4533 _ _ ⟨x4491, b4541, Option.some.inj H, ⟨rfl, rfl, rfl, rfl, rfl, rfl, rfl, rfl, rfl, rfl, rfl, rfl, trivial⟩, E, S.pick [0, 1, 2, 3, 4, 5, 6, 7, 8] (by decide)⟩
                    intro hq4531
                    have H := o4529h
                    refine Wa_oneOf (rs := [10, 11]) (by kernel_rfl) (by decide) ?_
                    simp only [List.forall_mem_cons, List.not_mem_nil, false_implies, implies_true, and_true]
                    refine ⟨?_, ?_⟩
                    · refine ⟨_, rfl, ?_⟩
                      obtain ⟨t4544, ht4545, H⟩ := bindS H
                      replace S : St w4457 M4061 F [_, _, _, _, _, _, _, _] := S.pick [6, 4, 3, 2, 1, 0, 5, 7] (by decide)
                      refine W_callF2 fn19 (model_Model_Retained_POOOO.con k M4061 A3498 c3499 A3501 c3502 A3504 c3505 A3507 c3508 vs3510 x3497 b2341 t4544 hm3511 ht4545) (Γ1 := [_, _, _, _, _]) (Γ2 := [_, _, _]) S rfl rfl (by rintro _ _ _ ⟨rfl, rfl⟩; exact (flat_cons flat_blk (flat_cons flat_map (flat_cons flat_map (flat_cons (flat_row (fun _ _ _ _ h => h)) (flat_cons flat_map flat_nil)))))) ?_
                      rintro _ w4546 _ Γ' E' S ⟨rfl, rfl⟩
                      replace E := E.trans E'
                      clear E'
                      replace S : St w4546 M4061 F [_, _, _, _, _, _, _, _] := S
                      refine Wl_nil (on_n ⟨.inr ⟨M4061, Hp.le_refl M4061, (S.pick [5, 4, 3, 2, 1, 6, 0, 7] (by decide))⟩, ?_⟩)
                      exact hq4531 _ _ ⟨t4544, H, ⟨rfl, rfl, rfl, rfl, rfl, rfl, rfl, rfl, rfl, rfl, rfl, trivial⟩, E, S.pick [0, 1, 2, 3, 4, 5, 6, 7] (by decide)⟩
                    · refine ⟨_, rfl, ?_⟩
                      refine W_alloc S #[.int .u8 0, .int .i64 0, .string (bs ([] : Str)), .string (bs ([] : Str)), .string (bs ([] : Str)), .int .i64 0, .int .u8 0] ty42 rfl rfl ?_
                      intro b4549 w4550 E' S
                      replace E := E.trans E'
                      clear E'
                      refine Wl_nil (on_n ⟨.inr ⟨M4061, Hp.le_refl M4061, (S.pick [1, 2, 3, 4, 5, 6, 7, 8] (by decide))⟩, ?_⟩)
                      exact hq4532 _ _ ⟨b4549, H, ⟨rfl, rfl, rfl, rfl, rfl, rfl, rfl, rfl, rfl, rfl, rfl, rfl, trivial⟩, E, S.pick [0, 1, 2, 3, 4, 5, 6, 7, 8] (by decide)⟩
                  clear o4529h
                  rintro ρ w4552 ⟨x4504, b4502, rfl, hρ, E, S⟩
                  rw [agree_eta hρ]
                  clear hρ
                  have H := o4529H
                  clear o4529H
                  refine Wa_solo (i := 12) rfl (by kernel_rfl) ?_
                  refine W_store S 0 rfl ty42 rfl rfl [.int .u8 ((rd (rd a1 ((rd t2360 x3496).Task)) ((rd t2360 x3496).Call)).Kind), .int .i64 ((rd (rd a1 ((rd t2360 x3496).Task)) ((rd t2360 x3496).Call)).Tx), .string (bs ((rd (rd a1 ((rd t2360 x3496).Task)) ((rd t2360 x3496).Call)).Key)), .string (bs ((rd (rd a1 ((rd t2360 x3496).Task)) ((rd t2360 x3496).Call)).End)), .string (bs ((rd (rd a1 ((rd t2360 x3496).Task)) ((rd t2360 x3496).Call)).Value)), .int .i64 ((rd (rd a1 ((rd t2360 x3496).Task)) ((rd t2360 x3496).Call)).Limit), .int .u8 ((rd (rd a1 ((rd t2360 x3496).Task)) ((rd t2360 x3496).Call)).Engine)] rfl rfl rfl #[.int .u8 ((rd (rd a1 ((rd t2360 x3496).Task)) ((rd t2360 x3496).Call)).Kind), .int .i64 ((rd (rd a1 ((rd t2360 x3496).Task)) ((rd t2360 x3496).Call)).Tx), .string (bs ((rd (rd a1 ((rd t2360 x3496).Task)) ((rd t2360 x3496).Call)).Key)), .string (bs ((rd (rd a1 ((rd t2360 x3496).Task)) ((rd t2360 x3496).Call)).End)), .string (bs ((rd (rd a1 ((rd t2360 x3496).Task)) ((rd t2360 x3496).Call)).Value)), .int .i64 ((rd (rd a1 ((rd t2360 x3496).Task)) ((rd t2360 x3496).Call)).Limit), .int .u8 ((rd (rd a1 ((rd t2360 x3496).Task)) ((rd t2360 x3496).Call)).Engine)] (by as_aux_lemma => kernel_rfl) rfl ?_
                  intro w4553 E' S
                  replace E := E.trans E'
                  clear E'
                  refine Wl_nil (on_n ⟨.inl (by decide), ?_⟩)
                  refine Wa_solo (i := 13) rfl (by kernel_rfl) ?_
                  refine W_v (.int .i64 x4504) (x_assign rfl) rfl ?_
                  refine Wl_nil (on_n ⟨.inl (by decide), ?_⟩)
                  refine Wa_done (by kernel_rfl) ?_
                  refine tn ?_
                  as_aux_lemma =>
                  refine Wp_seq (Wp_region_lit (W_v (pt b2341 0) (x_move rfl) rfl (W_v (pt b4358 0) (x_fieldAddr (o := 0) (off := 0) Tryd.underlying53 rfl ty3 rfl rfl) rfl (W_v (.int .i64 ((rd t2360 x3496).Task)) (x_load (S.blk 6 rfl) ty3 rfl rfl) rfl (W_v (.agg #[.int .u8 ((rd (rd a1 ((rd t2360 x3496).Task)) ((rd t2360 x3496).Call)).Kind), .int .i64 ((rd (rd a1 ((rd t2360 x3496).Task)) ((rd t2360 x3496).Call)).Tx), .string (bs ((rd (rd a1 ((rd t2360 x3496).Task)) ((rd t2360 x3496).Call)).Key)), .string (bs ((rd (rd a1 ((rd t2360 x3496).Task)) ((rd t2360 x3496).Call)).End)), .string (bs ((rd (rd a1 ((rd t2360 x3496).Task)) ((rd t2360 x3496).Call)).Value)), .int .i64 ((rd (rd a1 ((rd t2360 x3496).Task)) ((rd t2360 x3496).Call)).Limit), .int .u8 ((rd (rd a1 ((rd t2360 x3496).Task)) ((rd t2360 x3496).Call)).Engine)]) (x_loadA (S.blk 0 rfl) ty42 rfl (sub_of_extract rfl) rfl rfl) rfl ?_)))))
                  obtain ⟨t4554, ht4555, H⟩ := bindS H
                  replace S : St w4553 M4061 F [_, _, _, _, _, _, _, _, _] := S.pick [1, 2, 3, 4, 5, 0, 6, 7, 8] (by decide)
                  refine W_call fn24 (model_Model_Do_POOOO.con k M4061 A3498 c3499 A3501 c3502 A3504 c3505 A3507 c3508 vs3510 x3497 ((rd t2360 x3496).Task) (rd (rd a1 ((rd t2360 x3496).Task)) ((rd t2360 x3496).Call)) b2341 t4554 hm3511 hg0 hg1 ht4555) (Γ1 := [_, _, _, _, _]) (Γ2 := [_, _, _, _]) S rfl rfl ?_
                  rintro _ w4573 M4574 Γ' hM4575 E' S ⟨A4556, c4557, A4559, c4560, A4562, c4563, A4565, c4566, A4568, c4569, vs4571, rfl, hm4572, rfl⟩
                  replace hg0 : ∃ gt fr, _ := (let ⟨gt, fr, h8⟩ := hg0; ⟨gt, fr, hM4575 _ _ h8⟩)
                  replace hg1 : ∃ gt fr, _ := (let ⟨gt, fr, h8⟩ := hg1; ⟨gt, fr, hM4575 _ _ h8⟩)
                  replace HM := Hp.le_trans HM hM4575
                  replace hM4062 := Hp.le_trans hM4062 hM4575
                  replace LE4343 := Hp.le_trans LE4343 hM4575
                  replace hr1 := SlR.mono hr1 hM4575
                  replace hr2 := SlR.mono hr2 hM4575
                  replace hm2317 := MRel.mono hm2317 hM4575
                  replace hm2356 := MRel.mono hm2356 hM4575
                  replace hm3511 := MRel.mono hm3511 hM4575
                  replace hs4356 := SlR.mono hs4356 hM4575
                  replace hs4471 := SlR.mono hs4471 hM4575
                  replace E := E.trans E'
                  clear E'
                  replace S : St w4573 M4574 F [_, _, _, _, _, _, _, _, _, _] := S
                  refine Wl_nil (tn (Wp_seq ?_))
                  refine Wp_region_any (S := fun w' => ∃ Mx, M4574.le Mx ∧ St w' Mx F [Row r_api_Pair 133 (.slice A4556 t4554.1.Pairs.length c4557) t4554.1.Pairs, B83 b2341 t4554.2 A4559 A4562 A4565 c4566 A4568, MapC enc_model_name (Value.int .i64) A4559 t4554.2.names, MapC (Value.int .i64) (Value.int .i64) A4562 t4554.2.many, Row r_model_tx 109 (.slice A4565 t4554.2.txs.length c4566) t4554.2.txs, MapC encS (fun v : Value => v) A4568 vs4571, B42 b4502 (rd (rd a1 ((rd t2360 x3496).Task)) ((rd t2360 x3496).Call)), B53 b4358 (rd t2360 x3496) A4354 c4355, Row r_replay_Done 53 (.slice A2362 t2360.length c2363) t2360, B23 b1 a0]) (L := 13) mixed ?_
                  intro w4586 hw4587 E'
                  replace S := S.heap hw4587
                  replace E := E.trans E'
                  clear E'
                  have D6 : ∃ Mx, Hp.le M4574 Mx ∧ St _ Mx F [_, _, _, _, _, _, _, _, _, _] := ⟨_, Hp.le_refl _, S.pick [0, 1, 2, 3, 4, 5, 6, 7, 8, 9] (by decide)⟩
                  refine Wa_take (i := 0) rfl (by kernel_rfl) rfl rfl (.func (.func 23) #[] #[pt b1 0]) rfl (fun w' h' => x_move rfl) D6 (Wa_take (i := 1) rfl (by kernel_rfl) rfl rfl (.agg #[.int .u8 ((rd (rd a1 ((rd t2360 x3496).Task)) ((rd t2360 x3496).Call)).Kind), .int .i64 ((rd (rd a1 ((rd t2360 x3496).Task)) ((rd t2360 x3496).Call)).Tx), .string (bs ((rd (rd a1 ((rd t2360 x3496).Task)) ((rd t2360 x3496).Call)).Key)), .string (bs ((rd (rd a1 ((rd t2360 x3496).Task)) ((rd t2360 x3496).Call)).End)), .string (bs ((rd (rd a1 ((rd t2360 x3496).Task)) ((rd t2360 x3496).Call)).Value)), .int .i64 ((rd (rd a1 ((rd t2360 x3496).Task)) ((rd t2360 x3496).Call)).Limit), .int .u8 ((rd (rd a1 ((rd t2360 x3496).Task)) ((rd t2360 x3496).Call)).Engine)]) rfl (fun w' h' => x_loadA (cls_blk h' 6 rfl) ty42 rfl (sub_of_extract rfl) rfl rfl) D6 (Wa_take (i := 2) rfl (by kernel_rfl) rfl rfl (.int .i64 x4504) rfl (fun w' h' => x_move rfl) D6 (Wa_take (i := 3) rfl (by kernel_rfl) rfl rfl (pt b2341 0) rfl (fun w' h' => x_move rfl) D6 ?_)))
                  refine Wa_solo (i := 4) rfl (by kernel_rfl) ?_
                  obtain ⟨t4588, ht4589, H⟩ := bindS H
                  replace S : St w4586 M4574 F [_, _, _, _, _, _, _, _, _, _] := S.pick [1, 2, 3, 4, 5, 0, 6, 7, 8, 9] (by decide)
                  refine W_callF2 fn19 (model_Model_Retained_POOOO.con k M4574 A4559 c4560 A4562 c4563 A4565 c4566 A4568 c4569 vs4571 t4554.2 b2341 t4588 hm4572 ht4589) (Γ1 := [_, _, _, _, _]) (Γ2 := [_, _, _, _, _]) S rfl rfl (by rintro _ _ _ ⟨rfl, rfl⟩; exact (flat_cons flat_blk (flat_cons flat_map (flat_cons flat_map (flat_cons (flat_row (fun _ _ _ _ h => h)) (flat_cons flat_map flat_nil)))))) ?_
                  rintro _ w4590 _ Γ' E' S ⟨rfl, rfl⟩
                  replace E := E.trans E'
                  clear E'
                  replace S : St w4590 M4574 F [_, _, _, _, _, _, _, _, _, _] := S
                  refine Wl_nil (on_n ⟨.inr ⟨M4574, Hp.le_refl M4574, (S.pick [5, 0, 1, 2, 3, 4, 6, 7, 8, 9] (by decide))⟩, ?_⟩)
                  have D7 : ∃ Mx, Hp.le M4574 Mx ∧ St _ Mx F [_, _, _, _, _, _, _, _, _, _] := ⟨_, Hp.le_refl _, S.pick [5, 0, 1, 2, 3, 4, 6, 7, 8, 9] (by decide)⟩
                  refine Wa_take (i := 5) rfl (by kernel_rfl) rfl rfl (.int .i64 (IntKind.i64.wrap (x4504 - t4588))) rfl (fun w' h' => x_ibin rfl rfl rfl rfl) D7 (Wa_take (i := 6) rfl (by kernel_rfl) rfl rfl (.int .i64 (imax (0 : Int) (IntKind.i64.wrap (x4504 - t4588)))) rfl (fun w' h' => x_max2 rfl rfl) D7 ?_)
                  refine Wa_solo (i := 7) rfl (by kernel_rfl) ?_
                  obtain ⟨t4593, ht4594, H⟩ := bindS H
                  replace S : St w4590 M4574 F [_, _, _, _, _, _, _, _, _, _] := S.pick [9, 0, 1, 2, 3, 4, 5, 6, 7, 8] (by decide)
                  refine W_callvF2 (fs := []) (cap := [pt b1 0]) fn23 rfl (room_Now_1.con k M4574 (rd (rd a1 ((rd t2360 x3496).Task)) ((rd t2360 x3496).Call)) (imax (0 : Int) (IntKind.i64.wrap (x4504 - t4588))) a0 b1 t4593  ht4594) (Γ1 := [_]) (Γ2 := [_, _, _, _, _, _, _, _, _]) S rfl rfl (by rintro _ _ _ ⟨rfl, rfl⟩; exact (flat_cons flat_blk flat_nil)) ?_
                  rintro _ w4595 _ Γ' E' S ⟨rfl, rfl⟩
                  replace E := E.trans E'
                  clear E'
                  replace S : St w4595 M4574 F [_, _, _, _, _, _, _, _, _, _] := S
                  refine Wl_nil (on_n ⟨.inr ⟨M4574, Hp.le_refl M4574, (S.pick [6, 1, 2, 3, 4, 5, 7, 8, 9, 0] (by decide))⟩, ?_⟩)
                  have D8 : ∃ Mx, Hp.le M4574 Mx ∧ St _ Mx F [_, _, _, _, _, _, _, _, _, _] := ⟨_, Hp.le_refl _, S.pick [6, 1, 2, 3, 4, 5, 7, 8, 9, 0] (by decide)⟩
                  refine Wa_take (i := 8) rfl (by kernel_rfl) rfl rfl (.tuple #[.int .i64 t4593.1, .int .i64 t4593.2]) rfl (fun w' h' => x_move rfl) D8 (Wa_take (i := 9) rfl (by kernel_rfl) rfl rfl (.int .i64 t4593.1) rfl (fun w' h' => x_extract rfl rfl) D8 (Wa_take (i := 10) rfl (by kernel_rfl) rfl rfl (.int .i64 t4593.2) rfl (fun w' h' => x_extract rfl rfl) D8 (Wa_take (i := 11) rfl (by kernel_rfl) rfl rfl (.int .i64 t4593.1) rfl (fun w' h' => x_assign rfl) D8 (Wa_take (i := 12) rfl (by kernel_rfl) rfl rfl (.int .i64 t4593.2) rfl (fun w' h' => x_assign rfl) D8 ?_))))
                  refine Wa_done (by kernel_rfl) ?_
                  refine tn ?_
                  as_aux_lemma =>
                  refine Wp_seq (Wp_region_lit (W_v (pt b4358 7) (x_fieldAddr (o := 0) (off := 7) Tryd.underlying53 rfl ty3 rfl rfl) rfl (W_v (.int .i64 ((rd t2360 x3496).Back)) (x_load (S.blk 8 rfl) ty3 rfl rfl) rfl (W_v (.bool (decide ((rd t2360 x3496).Back < (0 : Int)))) (x_ibin rfl rfl rfl rfl) rfl (Wl_nil ?_)))))
                  refine tn ?_
                  obtain ⟨o4602, o4602h, o4602H⟩ := bindS H
                  refine Wp_cut (fun ρ w' => ∃ (x4600 : Int) (x4601 : Int), (x4600, x4601) = o4602 ∧ Agree ρ [(1, .slice A1 a1.length c1), (6, .int .i64 x4600), (7, .int .i64 x4601), (10, pt b2341 0), (11, .func (.func 23) #[] #[pt b1 0]), (45, .slice A2362 t2360.length c2363), (46, .int .i64 (t2360.length : Int)), (47, .int .i64 x3496)] ∧ Ext w w' ∧ St w' M4574 F [B23 b1 a0, B83 b2341 t4554.2 A4559 A4562 A4565 c4566 A4568, MapC enc_model_name (Value.int .i64) A4559 t4554.2.names, MapC (Value.int .i64) (Value.int .i64) A4562 t4554.2.many, Row r_model_tx 109 (.slice A4565 t4554.2.txs.length c4566) t4554.2.txs, MapC encS (fun v : Value => v) A4568 vs4571, Row r_replay_Done 53 (.slice A2362 t2360.length c2363) t2360]) ?_ ?_
                  · clear o4602H
                    have H := o4602h
                    clear o4602h
                    rcases iteS H with ⟨hb4603, H⟩ | ⟨hb4603, H⟩
                    · refine Wp_cond_true (congrArg Value.bool hb4603) ?_
                      refine Wp_seq (Wp_region_lit (W_v (.int .i64 x3494) (x_move rfl) rfl (W_v (.int .i64 t4593.1) (x_move rfl) rfl (W_v (.int .i64 (IntKind.i64.wrap (x3494 + t4593.1))) (x_ibin rfl rfl rfl rfl) rfl (W_v (.int .i64 (IntKind.i64.wrap (x3494 + t4593.1))) (x_assign rfl) rfl ?_)))))
                      refine Wl_nil (tn (Wp_region_lit (W_v (.int .i64 x3495) (x_move rfl) rfl (W_v (.int .i64 t4593.2) (x_move rfl) rfl (W_v (.int .i64 (IntKind.i64.wrap (x3495 + t4593.2))) (x_ibin rfl rfl rfl rfl) rfl ?_)))))
                      refine W_v (.int .i64 (IntKind.i64.wrap (x3495 + t4593.2))) (x_assign rfl) rfl (Wl_nil (tn ?_))
                      exact ⟨(IntKind.i64.wrap (x3494 + t4593.1)), (IntKind.i64.wrap (x3495 + t4593.2)), Option.some.inj H, ⟨rfl, rfl, rfl, rfl, rfl, rfl, rfl, rfl, trivial⟩, E, S.pick [0, 1, 2, 3, 4, 5, 9] (by decide)⟩
                    refine Wp_cond_false (congrArg Value.bool hb4603) (Wp_skip (tn ?_))
                    exact ⟨x3494, x3495, Option.some.inj H, ⟨rfl, rfl, rfl, rfl, rfl, rfl, rfl, rfl, trivial⟩, E, S.pick [0, 1, 2, 3, 4, 5, 9] (by decide)⟩
                  clear o4602h
                  rintro ρ w4604 ⟨x4600, x4601, rfl, hρ, E, S⟩
                  rw [agree_eta hρ]
                  clear hρ
                  have H := o4602H
                  clear o4602H
                  refine bn (tn ?_)
                  exact ⟨x4600, x4601, t4554.2, A4559, c4560, A4562, c4563, A4565, c4566, A4568, c4569, vs4571, M4574, Option.some.inj H, ⟨rfl, rfl, rfl, rfl, rfl, rfl, rfl, rfl, trivial⟩, LE4343, E, S.pick [5, 4, 3, 2, 0, 1, 6] (by decide), hm4572⟩
              clear o4342h
              rintro ρ w4605 ⟨x4325, x4326, x4327, A4328, c4329, A4331, c4332, A4334, c4335, A4337, c4338, vs4340, M4606, rfl, hρ, hM4607, E, S, hm4341⟩
              rw [agree_eta hρ]
              clear hρ
              replace hg0 : ∃ gt fr, _ := (let ⟨gt, fr, h8⟩ := hg0; ⟨gt, fr, hM4607 _ _ h8⟩)
              replace hg1 : ∃ gt fr, _ := (let ⟨gt, fr, h8⟩ := hg1; ⟨gt, fr, hM4607 _ _ h8⟩)
              replace HM := Hp.le_trans HM hM4607
              replace hM4062 := Hp.le_trans hM4062 hM4607
              replace hr1 := SlR.mono hr1 hM4607
              replace hr2 := SlR.mono hr2 hM4607
              replace hm2317 := MRel.mono hm2317 hM4607
              replace hm2356 := MRel.mono hm2356 hM4607
              replace hm3511 := MRel.mono hm3511 hM4607
              have H := o4342H
              clear o4342H
              refine tn (Wp_region_lit (W_v (.int .i64 (IntKind.i64.wrap (x3496 + (1 : Int)))) (x_ibin rfl rfl rfl rfl) rfl (W_v (.int .i64 (IntKind.i64.wrap (x3496 + (1 : Int)))) (x_move rfl) rfl (Wl_nil (tn ?_)))))
              exact ⟨k, Nat.lt_succ_self k, ⟨x4325, x4326, (IntKind.i64.wrap (x3496 + (1 : Int))), x4327, A4328, c4329, A4331, c4332, A4334, c4335, A4337, c4338, vs4340, M4606, H, ⟨rfl, rfl, rfl, rfl, rfl, rfl, rfl, rfl, trivial⟩, hM4062, E, S.pick [0, 1, 2, 3, 6, 5, 4] (by decide), hm4341⟩⟩
            refine Wp_cond_false (congrArg Value.bool hb4063) ?_
            refine Wp_exit ?_
            refine tx (tx (bsm (?_)))
            refine tn ?_
            exact ⟨x3494, x3495, M4061, Option.some.inj H, ⟨rfl, rfl, trivial⟩, hM4062, E, S.pick [] (by decide)⟩
      clear o4059h
      rintro ρ w4608 ⟨x4057, x4058, M4609, rfl, hρ, hM4610, E, S⟩
      rw [agree_eta hρ]
      clear hρ
      replace hg0 : ∃ gt fr, _ := (let ⟨gt, fr, h8⟩ := hg0; ⟨gt, fr, hM4610 _ _ h8⟩)
      replace hg1 : ∃ gt fr, _ := (let ⟨gt, fr, h8⟩ := hg1; ⟨gt, fr, hM4610 _ _ h8⟩)
      replace HM := Hp.le_trans HM hM4610
      replace hr1 := SlR.mono hr1 hM4610
      replace hr2 := SlR.mono hr2 hM4610
      replace hm2317 := MRel.mono hm2317 hM4610
      replace hm2356 := MRel.mono hm2356 hM4610
      have H := o4059H
      clear o4059H
      refine tn ?_
      as_aux_lemma =>
      refine Wp_seq (Wp_region_lit (W_v (.int .i64 x4057) (x_move rfl) rfl (W_v (.int .i64 x4058) (x_move rfl) rfl (W_v (.int .i64 x4057) (x_assign rfl) rfl (W_v (.int .i64 x4058) (x_assign rfl) rfl ?_)))))
      refine W_v (.int .i64 0) (x_assign rfl) rfl (Wl_nil (tn ?_))
      refine Wp_ret ?_
      obtain rfl := Option.some.inj H
      exact ⟨_, _, _, fun w1 e1 => run_resR (vs := [.int .i64 x4057, .int .i64 x4058, .int .i64 0]) (FA.cons (rfl) (FA.cons (rfl) (FA.cons (rfl) (FA.nil)))), HM, E, S.pick [] (by decide), ⟨rfl, rfl⟩⟩
/-! ### ferryman/ferrymanlaw30.is: function 14 -/
def ferrymanlaw30_is (k : Nat) (a0 : api_Config) (a1 : (List (List api_Call))) (a2 : (List api_Event)) (a3 : Int) (a4 : Int) : Option (Bool) :=
  (Option.bind (room_Now k a0 a1 a2) (fun t4 => some (((t4.1 == a3) && (t4.2.1 == a4)) && (t4.2.2 == (0 : Int)))))
set_option maxHeartbeats 2000000 in
theorem ferrymanlaw30_is.mono {k : Nat} {a0 : api_Config} {a1 : (List (List api_Call))} {a2 : (List api_Event)} {a3 : Int} {a4 : Int} : OLe (ferrymanlaw30_is k a0 a1 a2 a3 a4) (ferrymanlaw30_is (k + 1) a0 a1 a2 a3 a4) := by
  unfold ferrymanlaw30_is
  repeat' (first | with_reducible exact OLe.none | with_reducible exact OLe.some | with_reducible refine OLe.ite ?_ ?_ | with_reducible refine OLe.bind ?_ (fun _ => ?_) | with_reducible exact room_Now.mono | refine OLe.bind ?_ (fun _ => ?_) | refine OLe.ite ?_ ?_ | refine OLe.elim (fun _ => ?_) (fun _ => ?_) | split)
set_option maxHeartbeats 1000000 in
set_option maxRecDepth 100000 in
theorem ferrymanlaw30_is.con (k : Nat) (M : Hp) (a0 : api_Config) (A1 : Option Addr) (c1 : Nat) (a1 : (List (List api_Call))) (A2 : Option Addr) (c2 : Nat) (a2 : (List api_Event)) (a3 : Int) (a4 : Int) (r : Bool) (hr1 : SlR (rSl r_api_Call) M (.slice A1 a1.length c1) a1) (hr2 : SlR r_api_Event M (.slice A2 a2.length c2) a2) (hg0 : ∃ gt fr, M 0 = some (.cells #[.nilFunc, .func (.func 92) #[] #[], .func (.func 93) #[] #[], .func (.func 94) #[] #[], .func (.func 95) #[] #[], .func (.func 96) #[] #[], .func (.func 97) #[] #[], .func (.func 98) #[] #[], .func (.func 99) #[] #[], .func (.func 100) #[] #[]] gt fr)) (hg1 : ∃ gt fr, M 1 = some (.cells #[.nilFunc, .func (.func 114) #[] #[], .func (.func 116) #[] #[], .func (.func 118) #[] #[]] gt fr)) (h : ferrymanlaw30_is k a0 a1 a2 a3 a4 = some r) : Con Tryd.prog 14 #[.agg #[.int .i64 a0.Tasks, .int .i64 a0.Active, .int .i64 a0.Keys, .int .i64 a0.Depth, .int .i64 a0.TS, .int .i64 a0.KeyLen, .int .i64 a0.ValLen, .int .i64 a0.Fan], .slice A1 a1.length c1, .slice A2 a2.length c2, .int .i64 a3, .int .i64 a4] M [] (fun v M' Γ' => v = .bool r ∧ Γ' = []) := by
  refine con_of_wp Tryd.func14 rfl Tryd.ntmps14 Tryd.results14 rfl ?_
  intro w F rn S hrn
  have E := Ext.refl w
  have HM := Hp.le_refl M
  have H := h
  unfold ferrymanlaw30_is at H
  refine Wp_seq (Wp_region_lit ?_)
  refine W_box S #[.int .i64 a0.Tasks, .int .i64 a0.Active, .int .i64 a0.Keys, .int .i64 a0.Depth, .int .i64 a0.TS, .int .i64 a0.KeyLen, .int .i64 a0.ValLen, .int .i64 a0.Fan] rfl rfl rfl ?_
  intro b1 w2 E' S
  replace E := E.trans E'
  clear E'
  refine W_v (.bool false) (x_assign rfl) rfl (Wl_nil (tn (Wp_seq (Wp_region_lit (W_v (.agg #[.int .i64 a0.Tasks, .int .i64 a0.Active, .int .i64 a0.Keys, .int .i64 a0.Depth, .int .i64 a0.TS, .int .i64 a0.KeyLen, .int .i64 a0.ValLen, .int .i64 a0.Fan]) (x_loadA (S.blk 0 rfl) ty23 rfl (sub_of_extract rfl) rfl rfl) rfl ?_)))))
  refine W_v (.slice A1 a1.length c1) (x_move rfl) rfl (W_v (.slice A2 a2.length c2) (x_move rfl) rfl ?_)
  obtain ⟨t4, ht5, H⟩ := bindS H
  refine W_callF fn13 (room_Now.con k M a0 A1 c1 a1 A2 c2 a2 t4 hr1 hr2 hg0 hg1 ht5) S rfl rfl (by rintro _ _ _ ⟨_, rfl⟩; exact flat_nil) ?_
  rintro _ w6 _ Γ' E' S ⟨rfl, rfl⟩
  replace E := E.trans E'
  clear E'
  refine W_v (.tuple #[.int .i64 t4.1, .int .i64 t4.2.1, .int .i64 t4.2.2]) (x_move rfl) rfl (W_v (.int .i64 t4.1) (x_extract rfl rfl) rfl (W_v (.int .i64 t4.2.1) (x_extract rfl rfl) rfl (W_v (.int .i64 t4.2.2) (x_extract rfl rfl) rfl (W_v (.int .i64 t4.1) (x_assign rfl) rfl (W_v (.int .i64 t4.2.1) (x_assign rfl) rfl ?_)))))
  refine W_v (.int .i64 t4.2.2) (x_assign rfl) rfl (Wl_nil (tn (Wp_seq (Wp_region_lit (W_v (.int .i64 t4.1) (x_move rfl) rfl ?_)))))
  refine W_v (.int .i64 a3) (x_move rfl) rfl (W_v (.bool (t4.1 == a3)) (x_ibin rfl rfl rfl rfl) rfl (W_v (.bool (t4.1 == a3)) (x_move rfl) rfl ?_))
  refine Wl_cutN 4 (fun ρ w' => Agree ρ [(13, .int .i64 t4.2.2), (29, .bool ((t4.1 == a3) && (t4.2.1 == a4)))] ∧ w6 = w') ?_ ?_
  · rcases boolCases (t4.1 == a3) with hb7 | hb7
    · skip
      refine W_no (skT hb7) rfl (W_no (skT hb7) rfl (W_no (skT hb7) rfl (W_v (.bool false) (x_pick (k := false) (congrArg Value.bool hb7) rfl) rfl (Wl_nil ?_))))
      exact ⟨⟨rfl, (by first | rfl | (rw [hb7]; rfl) | (simp only [hb7]; rfl)), trivial⟩, rfl⟩
    · skip
      refine W_yes (congrArg some hb7) (W_v (.int .i64 t4.2.1) (x_move rfl) rfl (W_yes (congrArg some hb7) (W_v (.int .i64 a4) (x_move rfl) rfl (W_yes (congrArg some hb7) (W_v (.bool (t4.2.1 == a4)) (x_ibin rfl rfl rfl rfl) rfl ?_)))))
      refine W_v (.bool (t4.2.1 == a4)) (x_pick (k := true) (congrArg Value.bool hb7) rfl) rfl (Wl_nil ?_)
      exact ⟨⟨rfl, (by first | rfl | (rw [hb7]; rfl) | (simp only [hb7]; rfl)), trivial⟩, rfl⟩
  rintro ρ _ ⟨hρ, rfl⟩
  rw [agree_eta hρ]
  clear hρ
  refine W_v (.bool ((t4.1 == a3) && (t4.2.1 == a4))) (x_move rfl) rfl ?_
  refine Wl_cutN 3 (fun ρ w' => Agree ρ [(33, .bool (((t4.1 == a3) && (t4.2.1 == a4)) && (t4.2.2 == (0 : Int))))] ∧ w6 = w') ?_ ?_
  · rcases boolCases ((t4.1 == a3) && (t4.2.1 == a4)) with hb8 | hb8
    · skip
      refine W_no (skT hb8) rfl (W_no (skT hb8) rfl (W_v (.bool false) (x_pick (k := false) (congrArg Value.bool hb8) rfl) rfl (Wl_nil ?_)))
      exact ⟨⟨(by first | rfl | (rw [hb8]; rfl) | (simp only [hb8]; rfl)), trivial⟩, rfl⟩
    · skip
      refine W_yes (congrArg some hb8) (W_v (.int .i64 t4.2.2) (x_move rfl) rfl (W_yes (congrArg some hb8) (W_v (.bool (t4.2.2 == (0 : Int))) (x_ibin rfl rfl rfl rfl) rfl (W_v (.bool (t4.2.2 == (0 : Int))) (x_pick (k := true) (congrArg Value.bool hb8) rfl) rfl (Wl_nil ?_)))))
      exact ⟨⟨(by first | rfl | (rw [hb8]; rfl) | (simp only [hb8]; rfl)), trivial⟩, rfl⟩
  rintro ρ _ ⟨hρ, rfl⟩
  rw [agree_eta hρ]
  clear hρ
  refine W_v (.bool (((t4.1 == a3) && (t4.2.1 == a4)) && (t4.2.2 == (0 : Int)))) (x_assign rfl) rfl (Wl_nil (tn ?_))
  refine Wp_ret ?_
  obtain rfl := Option.some.inj H
  exact ⟨_, _, _, fun w1 e1 => run_resR (vs := [.bool (((t4.1 == a3) && (t4.2.1 == a4)) && (t4.2.2 == (0 : Int)))]) (FA.cons (rfl) (FA.nil)), HM, E, S.pick [] (by decide), ⟨rfl, rfl⟩⟩
/-! ### ferryman/ferrymanlaw30.run: function 15 -/
def ferrymanlaw30_run_l0 (a0 : (List (List api_Call))) (a1 : Int) : Nat → List api_Event → Int → Option ((List api_Event))
  | 0, _, _ => none
  | k + 1, x88, x92 => (if (decide (x92 < a1)) = true then (if 0 ≤ (0 : Int) ∧ (0 : Int) < (a0.length : Int) then (if 0 ≤ x92 ∧ x92 < ((rd a0 (0 : Int)).length : Int) then (Option.bind (α := List api_Event) (some ([(⟨(1 : Int), (0 : Int), x92, ⟨(0 : Int), false, ([] : Str), ([] : (List api_Pair))⟩⟩ : api_Event), (⟨(2 : Int), (0 : Int), x92, ⟨(0 : Int), false, ([] : Str), ([] : (List api_Pair))⟩⟩ : api_Event), (⟨(3 : Int), (0 : Int), x92, ⟨(0 : Int), ((rd (rd a0 (0 : Int)) x92).Kind == (4 : Int)), ([] : Str), ([] : (List api_Pair))⟩⟩ : api_Event)] : List api_Event)) (fun x166 => (if x88.length + x166.length ≤ 1759218604441 then ferrymanlaw30_run_l0 a0 a1 k (x88 ++ x166) (IntKind.i64.wrap (x92 + (1 : Int))) else none))) else none) else none) else some (x88))
set_option maxHeartbeats 2000000 in
theorem ferrymanlaw30_run_l0.mono {a0 : (List (List api_Call))} {a1 : Int} : ∀ {kl : Nat} {x0 x1}, OLe (ferrymanlaw30_run_l0 a0 a1 kl x0 x1) (ferrymanlaw30_run_l0 a0 a1 (kl + 1) x0 x1) := by
  intro kl
  induction kl with
  | zero => intros; exact OLe.none
  | succ kl ih =>
    intros
    rw [ferrymanlaw30_run_l0.eq_2, ferrymanlaw30_run_l0.eq_2]
    repeat' (first | with_reducible exact OLe.none | with_reducible exact OLe.some | with_reducible refine OLe.ite ?_ ?_ | with_reducible refine OLe.bind ?_ (fun _ => ?_) | exact ih | refine OLe.bind ?_ (fun _ => ?_) | refine OLe.ite ?_ ?_ | refine OLe.elim (fun _ => ?_) (fun _ => ?_) | split)
def ferrymanlaw30_run (k : Nat) (a0 : (List (List api_Call))) (a1 : Int) : Option ((List api_Event)) :=
  (Option.bind (ferrymanlaw30_run_l0 a0 a1 k ([] : List api_Event) (0 : Int)) (fun x131 => some x131))
set_option maxHeartbeats 2000000 in
theorem ferrymanlaw30_run.mono {k : Nat} {a0 : (List (List api_Call))} {a1 : Int} : OLe (ferrymanlaw30_run k a0 a1) (ferrymanlaw30_run (k + 1) a0 a1) := by
  unfold ferrymanlaw30_run
  repeat' (first | with_reducible exact OLe.none | with_reducible exact OLe.some | with_reducible refine OLe.ite ?_ ?_ | with_reducible refine OLe.bind ?_ (fun _ => ?_) | with_reducible exact ferrymanlaw30_run_l0.mono | refine OLe.bind ?_ (fun _ => ?_) | refine OLe.ite ?_ ?_ | refine OLe.elim (fun _ => ?_) (fun _ => ?_) | split)
set_option maxHeartbeats 1000000 in
set_option maxRecDepth 100000 in
theorem ferrymanlaw30_run.con (k : Nat) (M : Hp) (A0 : Option Addr) (c0 : Nat) (a0 : (List (List api_Call))) (a1 : Int) (r : (List api_Event)) (hr0 : SlR (rSl r_api_Call) M (.slice A0 a0.length c0) a0) (h : ferrymanlaw30_run k a0 a1 = some r) : Con Tryd.prog 15 #[.slice A0 a0.length c0, .int .i64 a1] M [] (fun v M' Γ' => ∃ (A0 : Option Addr) (c0 : Nat), v = .slice A0 r.length c0 ∧ Γ' = [Row r_api_Event 38 (.slice A0 r.length c0) r]) := by
  refine con_of_wp Tryd.func15 rfl Tryd.ntmps15 Tryd.results15 rfl ?_
  intro w F rn S hrn
  have E := Ext.refl w
  have HM := Hp.le_refl M
  have H := h
  unfold ferrymanlaw30_run at H
  refine Wp_seq (Wp_region_lit (W_v (.slice none 0 0) (x_assign rfl) rfl (Wl_nil (tn (Wp_seq ?_)))))
  refine Wp_region_lit (W_v (.slice none 0 0) (x_assign rfl) rfl (Wl_nil (tn (Wp_seq (Wp_seq ?_)))))
  refine Wp_region_lit (W_v (.int .i64 0) (x_assign rfl) rfl (Wl_nil (tn ?_)))
  obtain ⟨o135, o135h, o135H⟩ := bindS H
  clear H
  refine Wp_blockJ (fun ρ w' => ∃ (x131 : List api_Event) (A132 : Option Addr) (c133 : Nat), (x131) = o135 ∧ Agree ρ [(5, .slice A132 x131.length c133)] ∧ Ext w w' ∧ St w' M F [Row r_api_Event 38 (.slice A132 x131.length c133) x131]) ?_ ?_
  · skip
    refine Wp_loop (fun n ρ w' => ∃ (x88 : List api_Event) (x92 : Int) (A89 : Option Addr) (c90 : Nat), ferrymanlaw30_run_l0 a0 a1 n x88 x92 = some o135 ∧ Agree ρ [(0, .slice A0 a0.length c0), (1, .int .i64 a1), (5, .slice A89 x88.length c90), (6, .int .i64 x92)] ∧ Ext w w' ∧ St w' M F [Row r_api_Event 38 (.slice A89 x88.length c90) x88]) k ?_ ?_
    · skip
      replace S := S.row_nil r_api_Event 38
      exact ⟨([] : List api_Event), (0 : Int), none, 0, o135h, ⟨rfl, rfl, rfl, rfl, trivial⟩, E, S.pick [0] (by decide)⟩
    · intro n
      rintro ρ w137 ⟨x88, x92, A89, c90, H, hρ, E, S⟩
      rw [agree_eta hρ]
      clear hρ
      cases n with
      | zero => cases H
      | succ k =>
        rw [ferrymanlaw30_run_l0.eq_2] at H
        refine Wp_seq (Wp_seq (Wp_region_lit (W_v (.int .i64 x92) (x_move rfl) rfl (W_v (.int .i64 a1) (x_move rfl) rfl (W_v (.bool (decide (x92 < a1))) (x_ibin rfl rfl rfl rfl) rfl ?_)))))
        refine Wl_nil (tn ?_)
        rcases iteS H with ⟨hb138, H⟩ | ⟨hb138, H⟩
        · refine Wp_cond_true (congrArg Value.bool hb138) ?_
          refine Wp_skip (tn (Wp_seq ?_))
          refine Wp_block ?_
          refine Wp_region_lit (W_v (.slice A89 x88.length c90) (x_move rfl) rfl (W_v (.int .i64 x92) (x_move rfl) rfl (W_v (.agg #[.int .u8 1, .int .i64 0, .int .i64 x92, .int .i64 0, .bool false, .string (bs ([] : Str)), .slice none 0 0]) (x_build2 (pl := [(0, 1), (1, 1), (2, 1), (3, 4)]) #[.int .u8 1, .int .i64 0, .int .i64 x92, .int .i64 0, .bool false, .string (bs ([] : Str)), .slice none 0 0] Tryd.underlying38 ty38 (by as_aux_lemma => kernel_rfl) rfl (by as_aux_lemma => kernel_rfl)) rfl (W_v (.int .i64 x92) (x_move rfl) rfl (W_v (.agg #[.int .u8 2, .int .i64 0, .int .i64 x92, .int .i64 0, .bool false, .string (bs ([] : Str)), .slice none 0 0]) (x_build2 (pl := [(0, 1), (1, 1), (2, 1), (3, 4)]) #[.int .u8 2, .int .i64 0, .int .i64 x92, .int .i64 0, .bool false, .string (bs ([] : Str)), .slice none 0 0] Tryd.underlying38 ty38 (by as_aux_lemma => kernel_rfl) rfl (by as_aux_lemma => kernel_rfl)) rfl ?_)))))
          refine W_v (.int .i64 x92) (x_move rfl) rfl (W_v (.slice A0 a0.length c0) (x_move rfl) rfl ?_)
          obtain ⟨⟨p139, p140⟩, H⟩ := chkS H
          obtain ⟨b141, o142, cs143, _, _, ee148, hb144, vs145, hR146, hc147⟩ := SlW.at' hr0 p139 p140
          obtain ⟨v152, hs151, rfl⟩ := hR146
          obtain ⟨A149, c150, rfl, _⟩ := hs151.form
          refine W_v (.pointer (some ⟨b141, o142 + (0 : Int).toNat * 1, none⟩)) (x_indexAddr Tryd.underlying44 ty43 (slA ee148) rfl p139 p140) rfl (W_v (.slice A149 (rd a0 (0 : Int)).length c150) (x_load (S.frz hb144) ty43 rfl (hc147 0 _ rfl)) rfl (W_v (.int .i64 x92) (x_move rfl) rfl ?_))
          obtain ⟨⟨p153, p154⟩, H⟩ := chkS H
          obtain ⟨b155, o156, cs157, _, _, ee162, hb158, vs159, hR160, hc161⟩ := SlW.at' hs151 p153 p154
          obtain rfl : vs159 = _ := hR160
          refine W_v (.pointer (some ⟨b155, o156 + x92.toNat * 7, none⟩)) (x_indexAddr Tryd.underlying43 ty42 (slA ee162) rfl p153 p154) rfl (W_v (.pointer (some ⟨b155, o156 + x92.toNat * 7, none⟩)) (x_fieldAddr (o := o156 + x92.toNat * 7) (off := 0) Tryd.underlying42 rfl ty5 rfl rfl) rfl (W_v (.int .u8 ((rd (rd a0 (0 : Int)) x92).Kind)) (x_load (S.frz hb158) ty5 rfl (hc161 0 _ rfl)) rfl (W_v (.bool ((rd (rd a0 (0 : Int)) x92).Kind == (4 : Int))) (x_ibin rfl rfl rfl rfl) rfl (W_v (.agg #[.int .i64 0, .bool ((rd (rd a0 (0 : Int)) x92).Kind == (4 : Int)), .string (bs ([] : Str)), .slice none 0 0]) (x_build2 (pl := [(0, 1), (1, 1), (2, 1), (3, 1)]) #[.int .i64 0, .bool ((rd (rd a0 (0 : Int)) x92).Kind == (4 : Int)), .string (bs ([] : Str)), .slice none 0 0] Tryd.underlying36 ty36 (by as_aux_lemma => kernel_rfl) rfl (by as_aux_lemma => kernel_rfl)) rfl (W_v (.agg #[.int .u8 3, .int .i64 0, .int .i64 x92, .int .i64 0, .bool ((rd (rd a0 (0 : Int)) x92).Kind == (4 : Int)), .string (bs ([] : Str)), .slice none 0 0]) (x_build2 (pl := [(0, 1), (1, 1), (2, 1), (3, 4)]) #[.int .u8 3, .int .i64 0, .int .i64 x92, .int .i64 0, .bool ((rd (rd a0 (0 : Int)) x92).Kind == (4 : Int)), .string (bs ([] : Str)), .slice none 0 0] Tryd.underlying38 ty38 (by as_aux_lemma => kernel_rfl) rfl (by as_aux_lemma => kernel_rfl)) rfl ?_)))))
          refine W_bslice S #[.int .u8 1, .int .i64 0, .int .i64 x92, .int .i64 0, .bool false, .string (bs ([] : Str)), .slice none 0 0, .int .u8 2, .int .i64 0, .int .i64 x92, .int .i64 0, .bool false, .string (bs ([] : Str)), .slice none 0 0, .int .u8 3, .int .i64 0, .int .i64 x92, .int .i64 0, .bool ((rd (rd a0 (0 : Int)) x92).Kind == (4 : Int)), .string (bs ([] : Str)), .slice none 0 0] Tryd.underlying39 ty38 rfl rfl #[.int .u8 0, .int .i64 0, .int .i64 0, .int .i64 0, .bool false, .string (bs ([] : Str)), .slice none 0 0, .int .u8 0, .int .i64 0, .int .i64 0, .int .i64 0, .bool false, .string (bs ([] : Str)), .slice none 0 0, .int .u8 0, .int .i64 0, .int .i64 0, .int .i64 0, .bool false, .string (bs ([] : Str)), .slice none 0 0] (by as_aux_lemma => kernel_rfl) (by as_aux_lemma => kernel_rfl) rfl ?_
          intro b163 w164 E' S
          replace E := E.trans E'
          clear E'
          replace S := S.blk_row (r := r_api_Event) (l := ([(⟨(1 : Int), (0 : Int), x92, ⟨(0 : Int), false, ([] : Str), ([] : (List api_Pair))⟩⟩ : api_Event), (⟨(2 : Int), (0 : Int), x92, ⟨(0 : Int), false, ([] : Str), ([] : (List api_Pair))⟩⟩ : api_Event), (⟨(3 : Int), (0 : Int), x92, ⟨(0 : Int), ((rd (rd a0 (0 : Int)) x92).Kind == (4 : Int)), ([] : Str), ([] : (List api_Pair))⟩⟩ : api_Event)] : List api_Event)) 0 rfl 3 (Nat.le_refl 3) rfl (Cells.cons (vs := [.int .u8 1, .int .i64 0, .int .i64 x92, .int .i64 0, .bool false, .string (bs ([] : Str)), .slice none 0 0]) (⟨_, (SlW.nil _ _), rfl⟩) (Cells.cons (vs := [.int .u8 2, .int .i64 0, .int .i64 x92, .int .i64 0, .bool false, .string (bs ([] : Str)), .slice none 0 0]) (⟨_, (SlW.nil _ _), rfl⟩) (Cells.cons (vs := [.int .u8 3, .int .i64 0, .int .i64 x92, .int .i64 0, .bool ((rd (rd a0 (0 : Int)) x92).Kind == (4 : Int)), .string (bs ([] : Str)), .slice none 0 0]) (⟨_, (SlW.nil _ _), rfl⟩) Cells.nil)))
          obtain ⟨x166, he167, H⟩ := bindS H
          replace he167 := Option.some.inj he167
          rw [he167] at S
          refine Eq.mpr (congrArg (fun z => Wl _ _ _ _ _ _ (upd _ _ z) _) (show Value.slice (some ⟨b163, 0, none⟩) 3 3 = Value.slice (some ⟨b163, 0, none⟩) x166.length 3 from (by rw [← he167]; rfl))) ?_
          clear he167
          obtain ⟨p168, H⟩ := chkS H
          obtain ⟨src169, hs170, hC171⟩ := src_of_read (P := Tryd.prog) (ρ := r_api_Event) (l := x166) (S.row_read 0 rfl) (by decide)
          refine W_append S 1 rfl rfl rfl Tryd.underlying39 (.inl Tryd.underlying39) ty38 rfl (by decide) (by decide) hs170 hC171 rfl (by omega) rfl ?_
          intro v172 w173 E' S
          replace E := E.trans E'
          clear E'
          obtain ⟨A174, c175, rfl, _⟩ := (S.row_read 1 rfl).form
          refine W_v (.slice A174 (x88 ++ x166).length c175) (x_assign rfl) rfl (Wl_nil (bn (tn (Wp_region_lit (W_v (.int .i64 x92) (x_move rfl) rfl ?_)))))
          refine W_v (.int .i64 (IntKind.i64.wrap (x92 + (1 : Int)))) (x_ibin rfl rfl rfl rfl) rfl (W_v (.int .i64 (IntKind.i64.wrap (x92 + (1 : Int)))) (x_assign rfl) rfl (Wl_nil (tn ?_)))
          exact ⟨k, Nat.lt_succ_self k, ⟨(x88 ++ x166), (IntKind.i64.wrap (x92 + (1 : Int))), A174, c175, H, ⟨rfl, rfl, rfl, rfl, trivial⟩, E, S.pick [1] (by decide)⟩⟩
        refine Wp_cond_false (congrArg Value.bool hb138) ?_
        refine Wp_exit ?_
        refine tx (tx (bsm (?_)))
        refine tn ?_
        exact ⟨x88, A89, c90, Option.some.inj H, ⟨rfl, trivial⟩, E, S.pick [0] (by decide)⟩
  clear o135h
  rintro ρ w176 ⟨x131, A132, c133, rfl, hρ, E, S⟩
  rw [agree_eta hρ]
  clear hρ
  have H := o135H
  clear o135H
  refine tn ?_
  as_aux_lemma =>
  refine Wp_seq (Wp_region_lit (W_v (.slice A132 x131.length c133) (x_move rfl) rfl (W_v (.slice A132 x131.length c133) (x_assign rfl) rfl (Wl_nil (tn ?_)))))
  refine Wp_ret ?_
  obtain rfl := Option.some.inj H
  exact ⟨_, _, _, fun w1 e1 => run_resR (vs := [.slice A132 x131.length c133]) (FA.cons (rfl) (FA.nil)), HM, E, S.pick [0] (by decide), ⟨A132, c133, rfl, rfl⟩⟩
end Go.Proofs.YtkknoimjgifhlaaDoor
