import Derived.Test.YtkknoimjgifhlaaDoorGr1B
import Derived.Test.YtkknoimjgifhlaaDoorGr1P0
namespace Go.Proofs.YtkknoimjgifhlaaDoor
open Go
set_option linter.unusedVariables false
set_option linter.unusedSimpArgs false
def event_own (k : Nat) (a0 : api_Event) : Option (api_Event) :=
  (Option.bind (slices_Clone_api_Pair_api_Pair k a0.Answer.Pairs) (fun t7 => some (⟨a0.What, a0.Task, a0.Call, ⟨a0.Answer.Err, a0.Answer.Found, a0.Answer.Value, t7⟩⟩ : api_Event)))
set_option maxHeartbeats 2000000 in
theorem event_own.mono {k : Nat} {a0 : api_Event} : OLe (event_own k a0) (event_own (k + 1) a0) := by
  unfold event_own
  repeat' (first | with_reducible exact OLe.none | with_reducible exact OLe.some | with_reducible refine OLe.ite ?_ ?_ | with_reducible refine OLe.bind ?_ (fun _ => ?_) | with_reducible exact slices_Clone_api_Pair_api_Pair.mono | refine OLe.bind ?_ (fun _ => ?_) | refine OLe.ite ?_ ?_ | refine OLe.elim (fun _ => ?_) (fun _ => ?_) | split)
set_option maxHeartbeats 1000000 in
set_option maxRecDepth 100000 in
theorem event_own.con (k : Nat) (M : Hp) (A0_0 : Option Addr) (c0_0 : Nat) (a0 : api_Event) (r : api_Event) (hr0_0 : SlR r_api_Pair M (.slice A0_0 a0.Answer.Pairs.length c0_0) a0.Answer.Pairs) (h : event_own k a0 = some r) : Con Tryd.prog 121 #[.agg #[.int .u8 a0.What, .int .i64 a0.Task, .int .i64 a0.Call, .int .i64 a0.Answer.Err, .bool a0.Answer.Found, .string (bs a0.Answer.Value), .slice A0_0 a0.Answer.Pairs.length c0_0]] M [] (fun v M' Γ' => ∃ (A0 : Option Addr) (c0 : Nat), v = .agg #[.int .u8 r.What, .int .i64 r.Task, .int .i64 r.Call, .int .i64 r.Answer.Err, .bool r.Answer.Found, .string (bs r.Answer.Value), .slice A0 r.Answer.Pairs.length c0] ∧ Γ' = [Row r_api_Pair 133 (.slice A0 r.Answer.Pairs.length c0) r.Answer.Pairs]) := by
  refine con_of_wp Tryd.func121 rfl Tryd.ntmps121 Tryd.results121 rfl ?_
  intro w F rn S hrn
  have E := Ext.refl w
  have HM := Hp.le_refl M
  have H := h
  unfold event_own at H
  refine Wp_seq (Wp_region_lit ?_)
  refine W_box S #[.int .u8 a0.What, .int .i64 a0.Task, .int .i64 a0.Call, .int .i64 a0.Answer.Err, .bool a0.Answer.Found, .string (bs a0.Answer.Value), .slice A0_0 a0.Answer.Pairs.length c0_0] rfl rfl rfl ?_
  intro b1 w2 E' S
  replace E := E.trans E'
  refine W_alloc S #[.int .u8 0, .int .i64 0, .int .i64 0, .int .i64 0, .bool false, .string (bs ([] : Str)), .slice none 0 0] ty38 rfl rfl ?_
  intro b4 w5 E' S
  replace E := E.trans E'
  refine Wl_nil (tn (Wp_seq (Wp_region_lit (W_v (pt b1 3) (x_fieldAddr (o := 0) (off := 3) Tryd.underlying38 rfl ty36 rfl rfl) rfl (W_v (pt b1 6) (x_fieldAddr (o := 3) (off := 3) Tryd.underlying36 rfl ty34 rfl rfl) rfl (W_v (.slice A0_0 a0.Answer.Pairs.length c0_0) (x_load (S.blk 1 rfl) ty34 rfl rfl) rfl ?_))))))
  obtain ⟨t7, ht8, H⟩ := bindS H
  refine W_callF fn122 (slices_Clone_api_Pair_api_Pair.con k M A0_0 c0_0 a0.Answer.Pairs t7 hr0_0 ht8) S rfl rfl (by rintro _ _ _ ⟨_, _, _, rfl⟩; exact (flat_cons (flat_row (fun _ _ _ _ h => h)) flat_nil)) ?_
  rintro _ w12 _ Γ' E' S ⟨A9, c10, rfl, rfl⟩
  replace E := E.trans E'
  refine W_v (pt b1 3) (x_fieldAddr (o := 0) (off := 3) Tryd.underlying38 rfl ty36 rfl rfl) rfl (W_v (pt b1 6) (x_fieldAddr (o := 3) (off := 3) Tryd.underlying36 rfl ty34 rfl rfl) rfl ?_)
  refine W_store S 2 rfl ty34 rfl rfl [.slice A9 t7.length c10] rfl rfl rfl #[.int .u8 a0.What, .int .i64 a0.Task, .int .i64 a0.Call, .int .i64 a0.Answer.Err, .bool a0.Answer.Found, .string (bs a0.Answer.Value), .slice A9 t7.length c10] rfl rfl ?_
  intro w13 E' S
  replace E := E.trans E'
  refine Wl_nil (tn (Wp_seq (Wp_region_lit (W_v (.agg #[.int .u8 a0.What, .int .i64 a0.Task, .int .i64 a0.Call, .int .i64 a0.Answer.Err, .bool a0.Answer.Found, .string (bs a0.Answer.Value), .slice A9 t7.length c10]) (x_loadA (S.blk 2 rfl) ty38 rfl (sub_of_extract rfl) rfl rfl) rfl ?_))))
  refine W_store S 1 rfl ty38 rfl rfl [.int .u8 a0.What, .int .i64 a0.Task, .int .i64 a0.Call, .int .i64 a0.Answer.Err, .bool a0.Answer.Found, .string (bs a0.Answer.Value), .slice A9 t7.length c10] rfl rfl rfl #[.int .u8 a0.What, .int .i64 a0.Task, .int .i64 a0.Call, .int .i64 a0.Answer.Err, .bool a0.Answer.Found, .string (bs a0.Answer.Value), .slice A9 t7.length c10] (by as_aux_lemma => kernel_rfl) rfl ?_
  intro w14 E' S
  replace E := E.trans E'
  refine Wl_nil (tn ?_)
  refine Wp_ret ?_
  obtain rfl := Option.some.inj H
  exact ⟨_, _, _, fun w1 e1 => run_resR (vs := [.agg #[.int .u8 a0.What, .int .i64 a0.Task, .int .i64 a0.Call, .int .i64 a0.Answer.Err, .bool a0.Answer.Found, .string (bs a0.Answer.Value), .slice A9 t7.length c10]]) (FA.cons (⟨_, rfl, run_loadVar_agg ty38 ((S.of_eq e1).blk 1 rfl) (sub_of_extract rfl) rfl (by decide)⟩) (FA.nil)), HM, E, S.pick [0] (by decide), ⟨A9, c10, rfl, rfl⟩⟩
def event_New_v (k : Nat) (a0 : Int) : Option ((Unit) ⊕ (event_Recorder)) :=
  (if ((decide (a0 < (1 : Int))) || (decide (a0 > (6 : Int)))) = true then some (Sum.inl ()) else (if 0 ≤ a0 ∧ a0 ≤ a0 ∧ a0 * 16 ≤ 140737488355328 ∧ a0 ≤ 9223372036854775807 then some (Sum.inr (⟨(List.replicate a0.toNat (⟨0, 0⟩ : event_task)), ([] : List api_Event)⟩ : event_Recorder)) else none))
set_option maxHeartbeats 2000000 in
theorem event_New_v.mono {k : Nat} {a0 : Int} : OLe (event_New_v k a0) (event_New_v (k + 1) a0) := by
  unfold event_New_v
  repeat' (first | with_reducible exact OLe.none | with_reducible exact OLe.some | with_reducible refine OLe.ite ?_ ?_ | with_reducible refine OLe.bind ?_ (fun _ => ?_) | refine OLe.bind ?_ (fun _ => ?_) | refine OLe.ite ?_ ?_ | refine OLe.elim (fun _ => ?_) (fun _ => ?_) | split)
set_option maxHeartbeats 4000000 in
set_option maxRecDepth 100000 in
theorem event_New_v.con (k : Nat) (M : Hp) (a0 : Int) (r : (Unit) ⊕ (event_Recorder))  (h : event_New_v k a0 = some r) : Con Tryd.prog 40 #[.int .i64 a0] M [] (fun v M' Γ' => (Sum.elim (fun x => v = .tuple #[.pointer none, .int .i64 1] ∧ Γ' = []) (fun x => ∃ (bq1 : Nat) (Aq3 : Option Addr) (cq4 : Nat) (Aq6 : Option Addr) (cq7 : Nat), v = .tuple #[pt bq1 0, .int .i64 0] ∧ Γ' = [Blk bq1 (.cells #[.slice Aq3 x.tasks.length cq4, .slice Aq6 x.l.length cq7] 130 (0, 0)), Row r_event_task 135 (.slice Aq3 x.tasks.length cq4) x.tasks, Row r_api_Event 38 (.slice Aq6 x.l.length cq7) x.l])) r) := by
  refine con_of_wp Tryd.func40 rfl Tryd.ntmps40 Tryd.results40 rfl ?_
  intro w F rn S hrn
  have E := Ext.refl w
  have HM := Hp.le_refl M
  have H := h
  unfold event_New_v at H
  refine Wp_seq (Wp_region_lit (W_v (.pointer none) (x_assign rfl) rfl (W_v (.int .i64 0) (x_assign rfl) rfl (Wl_nil (tn (Wp_seq (Wp_seq (Wp_region_lit (W_v (.int .i64 a0) (x_move rfl) rfl (W_v (.bool (decide (a0 < (1 : Int)))) (x_ibin rfl rfl rfl rfl) rfl (W_v (.bool (decide (a0 < (1 : Int)))) (x_move rfl) rfl ?_)))))))))))
  refine Wl_cutN 3 (fun ρ w' => Agree ρ [(0, .int .i64 a0), (9, .bool ((decide (a0 < (1 : Int))) || (decide (a0 > (6 : Int)))))] ∧ w = w') ?_ ?_
  · rcases boolCases (decide (a0 < (1 : Int))) with hb1 | hb1
    · skip
      refine W_yes (congrArg some hb1) (W_v (.int .i64 a0) (x_move rfl) rfl (W_yes (congrArg some hb1) (W_v (.bool (decide (a0 > (6 : Int)))) (x_ibin rfl rfl rfl rfl) rfl (W_v (.bool (decide (a0 > (6 : Int)))) (x_pick (k := false) (congrArg Value.bool hb1) rfl) rfl (Wl_nil ?_)))))
      exact ⟨⟨rfl, (by first | rfl | (rw [hb1]; rfl) | (simp only [hb1]; rfl)), trivial⟩, rfl⟩
    · skip
      refine W_no (skF hb1) rfl (W_no (skF hb1) rfl (W_v (.bool true) (x_pick (k := true) (congrArg Value.bool hb1) rfl) rfl (Wl_nil ?_)))
      exact ⟨⟨rfl, (by first | rfl | (rw [hb1]; rfl) | (simp only [hb1]; rfl)), trivial⟩, rfl⟩
  rintro ρ _ ⟨hρ, rfl⟩
  rw [agree_eta hρ]
  refine Wl_nil (tn ?_)
  rcases iteS H with ⟨hb2, H⟩ | ⟨hb2, H⟩
  · refine Wp_cond_true (congrArg Value.bool hb2) ?_
    refine Wp_seq (Wp_region_lit (W_v (.pointer none) (x_assign rfl) rfl (W_v (.int .i64 1) (x_assign rfl) rfl (Wl_nil (tn ?_)))))
    refine Wp_ret ?_
    refine tr (?_)
    obtain rfl := Option.some.inj H
    exact ⟨_, _, _, fun w1 e1 => run_resR (vs := [.pointer none, .int .i64 1]) (FA.cons (rfl) (FA.cons (rfl) (FA.nil))), HM, E, S.pick [] (by decide), ⟨rfl, rfl⟩⟩
  refine Wp_cond_false (congrArg Value.bool hb2) (Wp_skip (tn ?_))
  as_aux_lemma =>
  refine Wp_seq (Wp_region_lit (W_v (.int .i64 a0) (x_move rfl) rfl ?_))
  obtain ⟨⟨p3, p4, p5, p6⟩, H⟩ := chkS H
  refine W_make (r := r_event_task) S (⟨0, 0⟩ : event_task) Tryd.underlying128 ty135 rfl (by decide) (fun _ => rfl) rfl rfl p3 p4 p5 p6 rfl ?_
  intro b7 w8 E' S
  replace E := E.trans E'
  refine W_v (.agg #[.slice (some ⟨b7, 0, none⟩) (List.replicate a0.toNat (⟨0, 0⟩ : event_task)).length a0.toNat, .slice none 0 0]) (x_build2 (pl := [(0, 1), (1, 1)]) #[.slice (some ⟨b7, 0, none⟩) (List.replicate a0.toNat (⟨0, 0⟩ : event_task)).length a0.toNat, .slice none 0 0] Tryd.underlying130 ty130 (by as_aux_lemma => kernel_rfl) rfl (by as_aux_lemma => kernel_rfl)) rfl ?_
  refine W_box S #[.slice (some ⟨b7, 0, none⟩) (List.replicate a0.toNat (⟨0, 0⟩ : event_task)).length a0.toNat, .slice none 0 0] rfl rfl rfl ?_
  intro b10 w11 E' S
  replace E := E.trans E'
  refine W_v (pt b10 0) (x_assign rfl) rfl (W_v (.int .i64 0) (x_assign rfl) rfl (Wl_nil (tn ?_)))
  refine Wp_ret ?_
  obtain rfl := Option.some.inj H
  replace S := S.row_nil r_api_Event 38
  exact ⟨_, _, _, fun w1 e1 => run_resR (vs := [pt b10 0, .int .i64 0]) (FA.cons (rfl) (FA.cons (rfl) (FA.nil))), HM, E, S.pick [1, 2, 0] (by decide), ⟨b10, (some ⟨b7, 0, none⟩), a0.toNat, none, 0, rfl, rfl⟩⟩
def model_New_v (k : Nat) (a0 : api_Config) : Option ((Unit) ⊕ (model_Model)) :=
  (Option.bind (text_May k a0) (fun t4 => (if (!t4) = true then some (Sum.inl ()) else some (Sum.inr (⟨⟨a0.Tasks, a0.Active, a0.Keys, a0.Depth, a0.TS, a0.KeyLen, a0.ValLen, a0.Fan⟩, ([] : List (model_name × Int)), ([] : List (Int × Int)), ([] : List model_tx), ([] : List (Str × model_row)), (0 : Int), (0 : Int)⟩ : model_Model)))))
set_option maxHeartbeats 2000000 in
theorem model_New_v.mono {k : Nat} {a0 : api_Config} : OLe (model_New_v k a0) (model_New_v (k + 1) a0) := by
  unfold model_New_v
  repeat' (first | with_reducible exact OLe.none | with_reducible exact OLe.some | with_reducible refine OLe.ite ?_ ?_ | with_reducible refine OLe.bind ?_ (fun _ => ?_) | with_reducible exact text_May.mono | refine OLe.bind ?_ (fun _ => ?_) | refine OLe.ite ?_ ?_ | refine OLe.elim (fun _ => ?_) (fun _ => ?_) | split)
set_option maxHeartbeats 4000000 in
set_option maxRecDepth 100000 in
theorem model_New_v.con (k : Nat) (M : Hp) (a0 : api_Config) (r : (Unit) ⊕ (model_Model))  (h : model_New_v k a0 = some r) : Con Tryd.prog 22 #[.agg #[.int .i64 a0.Tasks, .int .i64 a0.Active, .int .i64 a0.Keys, .int .i64 a0.Depth, .int .i64 a0.TS, .int .i64 a0.KeyLen, .int .i64 a0.ValLen, .int .i64 a0.Fan]] M [] (fun v M' Γ' => (Sum.elim (fun x => v = .tuple #[.pointer none, .int .i64 1] ∧ Γ' = []) (fun x => ∃ (bq1 : Nat) (Aq3 : Option Addr) (cq4 : Nat) (Aq6 : Option Addr) (cq7 : Nat) (Aq9 : Option Addr) (cq10 : Nat) (Aq12 : Option Addr) (cq13 : Nat) (vsq15 : List (Str × Value)), v = .tuple #[pt bq1 0, .int .i64 0] ∧ MRel r_model_row M' x.rows vsq15 ∧ Γ' = [B83 bq1 x Aq3 Aq6 Aq9 cq10 Aq12, MapC enc_model_name (Value.int .i64) Aq3 x.names, MapC (Value.int .i64) (Value.int .i64) Aq6 x.many, Row r_model_tx 109 (.slice Aq9 x.txs.length cq10) x.txs, MapC encS (fun v : Value => v) Aq12 vsq15])) r) := by
  refine con_of_wp Tryd.func22 rfl Tryd.ntmps22 Tryd.results22 rfl ?_
  intro w F rn S hrn
  have E := Ext.refl w
  have HM := Hp.le_refl M
  have H := h
  unfold model_New_v at H
  refine Wp_seq (Wp_region_lit ?_)
  refine W_box S #[.int .i64 a0.Tasks, .int .i64 a0.Active, .int .i64 a0.Keys, .int .i64 a0.Depth, .int .i64 a0.TS, .int .i64 a0.KeyLen, .int .i64 a0.ValLen, .int .i64 a0.Fan] rfl rfl rfl ?_
  intro b1 w2 E' S
  replace E := E.trans E'
  refine W_v (.pointer none) (x_assign rfl) rfl (W_v (.int .i64 0) (x_assign rfl) rfl (Wl_nil (tn (Wp_seq (Wp_seq (Wp_region_lit (W_v (.agg #[.int .i64 a0.Tasks, .int .i64 a0.Active, .int .i64 a0.Keys, .int .i64 a0.Depth, .int .i64 a0.TS, .int .i64 a0.KeyLen, .int .i64 a0.ValLen, .int .i64 a0.Fan]) (x_loadA (S.blk 0 rfl) ty23 rfl (sub_of_extract rfl) rfl rfl) rfl ?_)))))))
  obtain ⟨t4, ht5, H⟩ := bindS H
  refine W_callF fn21 (text_May.con k M a0 t4  ht5) S rfl rfl (by rintro _ _ _ ⟨_, rfl⟩; exact flat_nil) ?_
  rintro _ w6 _ Γ' E' S ⟨rfl, rfl⟩
  replace E := E.trans E'
  refine W_v (.bool (!t4)) (x_not (b := t4) rfl) rfl (Wl_nil (tn ?_))
  rcases iteS H with ⟨hb7, H⟩ | ⟨hb7, H⟩
  · refine Wp_cond_true (congrArg Value.bool hb7) ?_
    refine Wp_seq (Wp_region_lit (W_v (.pointer none) (x_assign rfl) rfl (W_v (.int .i64 1) (x_assign rfl) rfl (Wl_nil (tn ?_)))))
    refine Wp_ret ?_
    refine tr (?_)
    obtain rfl := Option.some.inj H
    exact ⟨_, _, _, fun w1 e1 => run_resR (vs := [.pointer none, .int .i64 1]) (FA.cons (rfl) (FA.cons (rfl) (FA.nil))), HM, E, S.pick [] (by decide), ⟨rfl, rfl⟩⟩
  refine Wp_cond_false (congrArg Value.bool hb7) (Wp_skip (tn (Wp_seq (Wp_region_lit (W_v (.agg #[.int .i64 a0.Tasks, .int .i64 a0.Active, .int .i64 a0.Keys, .int .i64 a0.Depth, .int .i64 a0.TS, .int .i64 a0.KeyLen, .int .i64 a0.ValLen, .int .i64 a0.Fan]) (x_loadA (S.blk 0 rfl) ty23 rfl (sub_of_extract rfl) rfl rfl) rfl ?_)))))
  refine W_makeMap (κ := model_name) (ν := Int) enc_model_name (Value.int .i64) S rfl ?_
  intro b8 w9 E' S
  replace E := E.trans E'
  replace S : St w9 M F [_, _] := S
  refine W_makeMap (κ := Int) (ν := Int) (Value.int .i64) (Value.int .i64) S rfl ?_
  intro b11 w12 E' S
  replace E := E.trans E'
  replace S : St w12 M F [_, _, _] := S
  refine W_makeMap (κ := Str) (ν := Value) encS (fun v : Value => v) S rfl ?_
  intro b14 w15 E' S
  replace E := E.trans E'
  have hm17 : MRel r_model_row M ([] : List (Str × model_row)) ([] : List (Str × Value)) := MRel.nil
  replace S : St w15 M F [_, _, _, _] := S
  refine W_v (.agg #[.int .i64 a0.Tasks, .int .i64 a0.Active, .int .i64 a0.Keys, .int .i64 a0.Depth, .int .i64 a0.TS, .int .i64 a0.KeyLen, .int .i64 a0.ValLen, .int .i64 a0.Fan, .map (mb (some ⟨b8, 0, none⟩)), .map (mb (some ⟨b11, 0, none⟩)), .slice none 0 0, .map (mb (some ⟨b14, 0, none⟩)), .int .i64 0, .int .i64 0]) (x_build2 (pl := [(0, 8), (8, 1), (9, 1), (10, 1), (11, 1), (12, 1), (13, 1)]) #[.int .i64 a0.Tasks, .int .i64 a0.Active, .int .i64 a0.Keys, .int .i64 a0.Depth, .int .i64 a0.TS, .int .i64 a0.KeyLen, .int .i64 a0.ValLen, .int .i64 a0.Fan, .map (mb (some ⟨b8, 0, none⟩)), .map (mb (some ⟨b11, 0, none⟩)), .slice none 0 0, .map (mb (some ⟨b14, 0, none⟩)), .int .i64 0, .int .i64 0] Tryd.underlying83 ty83 (by as_aux_lemma => kernel_rfl) rfl (by as_aux_lemma => kernel_rfl)) rfl ?_
  refine W_box S #[.int .i64 a0.Tasks, .int .i64 a0.Active, .int .i64 a0.Keys, .int .i64 a0.Depth, .int .i64 a0.TS, .int .i64 a0.KeyLen, .int .i64 a0.ValLen, .int .i64 a0.Fan, .map (mb (some ⟨b8, 0, none⟩)), .map (mb (some ⟨b11, 0, none⟩)), .slice none 0 0, .map (mb (some ⟨b14, 0, none⟩)), .int .i64 0, .int .i64 0] rfl rfl rfl ?_
  intro b18 w19 E' S
  replace E := E.trans E'
  refine W_v (pt b18 0) (x_assign rfl) rfl (W_v (.int .i64 0) (x_assign rfl) rfl (Wl_nil (tn ?_)))
  refine Wp_ret ?_
  obtain rfl := Option.some.inj H
  replace S := S.row_nil r_model_tx 109
  exact ⟨_, _, _, fun w1 e1 => run_resR (vs := [pt b18 0, .int .i64 0]) (FA.cons (rfl) (FA.cons (rfl) (FA.nil))), HM, E, S.pick [1, 4, 3, 0, 2] (by decide), ⟨b18, (some ⟨b8, 0, none⟩), 0, (some ⟨b11, 0, none⟩), 0, none, 0, (some ⟨b14, 0, none⟩), 0, ([] : List (Str × Value)), rfl, hm17, rfl⟩⟩
def replay_begun_v (k : Nat) (a0 : api_Config) (a1 : (List (List api_Call))) : Option ((Unit) ⊕ (replay_run) ⊕ (replay_run) ⊕ (replay_run) ⊕ (replay_run)) :=
  (Option.bind (replay_May k a0 a1) (fun t4 => (if (!t4) = true then some (Sum.inl ()) else (Option.bind (event_New_v k a0.Tasks) (fun t8 => (Sum.elim (fun t10 => (Option.bind (model_New_v k a0) (fun t15 => (Sum.elim (fun t17 => (if 0 ≤ a0.Tasks ∧ a0.Tasks ≤ a0.Tasks ∧ a0.Tasks * 8 ≤ 140737488355328 ∧ a0.Tasks ≤ 9223372036854775807 then some (Sum.inr (Sum.inr (Sum.inr (Sum.inl (⟨a1, (⟨[], []⟩ : event_Recorder), (⟨⟨0, 0, 0, 0, 0, 0, 0, 0⟩, [], [], [], [], 0, 0⟩ : model_Model), ([] : List replay_Done), (List.replicate a0.Tasks.toNat (0 : Int))⟩ : replay_run))))) else none)) (fun t18 => (if 0 ≤ a0.Tasks ∧ a0.Tasks ≤ a0.Tasks ∧ a0.Tasks * 8 ≤ 140737488355328 ∧ a0.Tasks ≤ 9223372036854775807 then some (Sum.inr (Sum.inr (Sum.inl (⟨a1, (⟨[], []⟩ : event_Recorder), t18, ([] : List replay_Done), (List.replicate a0.Tasks.toNat (0 : Int))⟩ : replay_run)))) else none))) t15))) (fun t11 => (Option.bind (model_New_v k a0) (fun t74 => (Sum.elim (fun t76 => (if 0 ≤ a0.Tasks ∧ a0.Tasks ≤ a0.Tasks ∧ a0.Tasks * 8 ≤ 140737488355328 ∧ a0.Tasks ≤ 9223372036854775807 then some (Sum.inr (Sum.inr (Sum.inr (Sum.inr (⟨a1, t11, (⟨⟨0, 0, 0, 0, 0, 0, 0, 0⟩, [], [], [], [], 0, 0⟩ : model_Model), ([] : List replay_Done), (List.replicate a0.Tasks.toNat (0 : Int))⟩ : replay_run))))) else none)) (fun t77 => (if 0 ≤ a0.Tasks ∧ a0.Tasks ≤ a0.Tasks ∧ a0.Tasks * 8 ≤ 140737488355328 ∧ a0.Tasks ≤ 9223372036854775807 then some (Sum.inr (Sum.inl (⟨a1, t11, t77, ([] : List replay_Done), (List.replicate a0.Tasks.toNat (0 : Int))⟩ : replay_run))) else none))) t74)))) t8)))))
set_option maxHeartbeats 2000000 in
theorem replay_begun_v.mono {k : Nat} {a0 : api_Config} {a1 : (List (List api_Call))} : OLe (replay_begun_v k a0 a1) (replay_begun_v (k + 1) a0 a1) := by
  unfold replay_begun_v
  repeat' (first | with_reducible exact OLe.none | with_reducible exact OLe.some | with_reducible refine OLe.ite ?_ ?_ | with_reducible refine OLe.bind ?_ (fun _ => ?_) | with_reducible exact event_New_v.mono | with_reducible exact model_New_v.mono | with_reducible exact replay_May.mono | refine OLe.bind ?_ (fun _ => ?_) | refine OLe.ite ?_ ?_ | refine OLe.elim (fun _ => ?_) (fun _ => ?_) | split)
set_option maxHeartbeats 4000000 in
set_option maxRecDepth 100000 in
theorem replay_begun_v.con (k : Nat) (M : Hp) (a0 : api_Config) (A1 : Option Addr) (c1 : Nat) (a1 : (List (List api_Call))) (r : (Unit) ⊕ (replay_run) ⊕ (replay_run) ⊕ (replay_run) ⊕ (replay_run)) (hr1 : SlR (rSl r_api_Call) M (.slice A1 a1.length c1) a1) (h : replay_begun_v k a0 a1 = some r) : Con Tryd.prog 31 #[.agg #[.int .i64 a0.Tasks, .int .i64 a0.Active, .int .i64 a0.Keys, .int .i64 a0.Depth, .int .i64 a0.TS, .int .i64 a0.KeyLen, .int .i64 a0.ValLen, .int .i64 a0.Fan], .slice A1 a1.length c1] M [] (fun v M' Γ' => (Sum.elim (fun x => v = .tuple #[.pointer none, .bool false] ∧ Γ' = []) (Sum.elim (fun x => ∃ (bq1 : Nat) (Aq3 : Option Addr) (cq4 : Nat) (bq6 : Nat) (Aq8 : Option Addr) (cq9 : Nat) (Aq11 : Option Addr) (cq12 : Nat) (bq14 : Nat) (Aq16 : Option Addr) (cq17 : Nat) (Aq19 : Option Addr) (cq20 : Nat) (Aq22 : Option Addr) (cq23 : Nat) (Aq25 : Option Addr) (cq26 : Nat) (vsq28 : List (Str × Value)) (Aq30 : Option Addr) (cq31 : Nat) (Aq33 : Option Addr) (cq34 : Nat), v = .tuple #[pt bq1 0, .bool true] ∧ SlR (rSl r_api_Call) M' (.slice Aq3 x.programs.length cq4) x.programs ∧ MRel r_model_row M' x.m.rows vsq28 ∧ Γ' = [B72 bq1 x Aq3 cq4 bq6 bq14 Aq30 cq31 Aq33 cq34, Blk bq6 (.cells #[.slice Aq8 x.r.tasks.length cq9, .slice Aq11 x.r.l.length cq12] 130 (0, 0)), Row r_event_task 135 (.slice Aq8 x.r.tasks.length cq9) x.r.tasks, Row r_api_Event 38 (.slice Aq11 x.r.l.length cq12) x.r.l, B83 bq14 x.m Aq16 Aq19 Aq22 cq23 Aq25, MapC enc_model_name (Value.int .i64) Aq16 x.m.names, MapC (Value.int .i64) (Value.int .i64) Aq19 x.m.many, Row r_model_tx 109 (.slice Aq22 x.m.txs.length cq23) x.m.txs, MapC encS (fun v : Value => v) Aq25 vsq28, Row r_replay_Done 53 (.slice Aq30 x.done.length cq31) x.done, Row (rInt .i64) 3 (.slice Aq33 x.last.length cq34) x.last]) (Sum.elim (fun x => ∃ (bq1 : Nat) (Aq3 : Option Addr) (cq4 : Nat) (bq6 : Nat) (Aq8 : Option Addr) (cq9 : Nat) (Aq11 : Option Addr) (cq12 : Nat) (Aq14 : Option Addr) (cq15 : Nat) (Aq17 : Option Addr) (cq18 : Nat) (vsq20 : List (Str × Value)) (Aq22 : Option Addr) (cq23 : Nat) (Aq25 : Option Addr) (cq26 : Nat), v = .tuple #[pt bq1 0, .bool false] ∧ SlR (rSl r_api_Call) M' (.slice Aq3 x.programs.length cq4) x.programs ∧ MRel r_model_row M' x.m.rows vsq20 ∧ Γ' = [Blk bq1 (.cells #[.slice Aq3 x.programs.length cq4, .pointer none, pt bq6 0, .slice Aq22 x.done.length cq23, .slice Aq25 x.last.length cq26] 72 (0, 0)), B83 bq6 x.m Aq8 Aq11 Aq14 cq15 Aq17, MapC enc_model_name (Value.int .i64) Aq8 x.m.names, MapC (Value.int .i64) (Value.int .i64) Aq11 x.m.many, Row r_model_tx 109 (.slice Aq14 x.m.txs.length cq15) x.m.txs, MapC encS (fun v : Value => v) Aq17 vsq20, Row r_replay_Done 53 (.slice Aq22 x.done.length cq23) x.done, Row (rInt .i64) 3 (.slice Aq25 x.last.length cq26) x.last]) (Sum.elim (fun x => ∃ (bq1 : Nat) (Aq3 : Option Addr) (cq4 : Nat) (Aq6 : Option Addr) (cq7 : Nat) (Aq9 : Option Addr) (cq10 : Nat), v = .tuple #[pt bq1 0, .bool false] ∧ SlR (rSl r_api_Call) M' (.slice Aq3 x.programs.length cq4) x.programs ∧ Γ' = [Blk bq1 (.cells #[.slice Aq3 x.programs.length cq4, .pointer none, .pointer none, .slice Aq6 x.done.length cq7, .slice Aq9 x.last.length cq10] 72 (0, 0)), Row r_replay_Done 53 (.slice Aq6 x.done.length cq7) x.done, Row (rInt .i64) 3 (.slice Aq9 x.last.length cq10) x.last]) (fun x => ∃ (bq1 : Nat) (Aq3 : Option Addr) (cq4 : Nat) (bq6 : Nat) (Aq8 : Option Addr) (cq9 : Nat) (Aq11 : Option Addr) (cq12 : Nat) (Aq14 : Option Addr) (cq15 : Nat) (Aq17 : Option Addr) (cq18 : Nat), v = .tuple #[pt bq1 0, .bool false] ∧ SlR (rSl r_api_Call) M' (.slice Aq3 x.programs.length cq4) x.programs ∧ Γ' = [Blk bq1 (.cells #[.slice Aq3 x.programs.length cq4, pt bq6 0, .pointer none, .slice Aq14 x.done.length cq15, .slice Aq17 x.last.length cq18] 72 (0, 0)), Blk bq6 (.cells #[.slice Aq8 x.r.tasks.length cq9, .slice Aq11 x.r.l.length cq12] 130 (0, 0)), Row r_event_task 135 (.slice Aq8 x.r.tasks.length cq9) x.r.tasks, Row r_api_Event 38 (.slice Aq11 x.r.l.length cq12) x.r.l, Row r_replay_Done 53 (.slice Aq14 x.done.length cq15) x.done, Row (rInt .i64) 3 (.slice Aq17 x.last.length cq18) x.last]))))) r) := by
  refine con_of_wp Tryd.func31 rfl Tryd.ntmps31 Tryd.results31 rfl ?_
  intro w F rn S hrn
  have E := Ext.refl w
  have HM := Hp.le_refl M
  have H := h
  unfold replay_begun_v at H
  refine Wp_seq (Wp_region_lit ?_)
  refine W_box S #[.int .i64 a0.Tasks, .int .i64 a0.Active, .int .i64 a0.Keys, .int .i64 a0.Depth, .int .i64 a0.TS, .int .i64 a0.KeyLen, .int .i64 a0.ValLen, .int .i64 a0.Fan] rfl rfl rfl ?_
  intro b1 w2 E' S
  replace E := E.trans E'
  refine W_v (.pointer none) (x_assign rfl) rfl (W_v (.bool false) (x_assign rfl) rfl (Wl_nil (tn (Wp_seq (Wp_seq (Wp_region_lit (W_v (.agg #[.int .i64 a0.Tasks, .int .i64 a0.Active, .int .i64 a0.Keys, .int .i64 a0.Depth, .int .i64 a0.TS, .int .i64 a0.KeyLen, .int .i64 a0.ValLen, .int .i64 a0.Fan]) (x_loadA (S.blk 0 rfl) ty23 rfl (sub_of_extract rfl) rfl rfl) rfl (W_v (.slice A1 a1.length c1) (x_move rfl) rfl ?_))))))))
  obtain ⟨t4, ht5, H⟩ := bindS H
  refine W_callF fn39 (replay_May.con k M a0 A1 c1 a1 t4 hr1 ht5) S rfl rfl (by rintro _ _ _ ⟨_, rfl⟩; exact flat_nil) ?_
  rintro _ w6 _ Γ' E' S ⟨rfl, rfl⟩
  replace E := E.trans E'
  refine W_v (.bool (!t4)) (x_not (b := t4) rfl) rfl (Wl_nil (tn ?_))
  rcases iteS H with ⟨hb7, H⟩ | ⟨hb7, H⟩
  · refine Wp_cond_true (congrArg Value.bool hb7) ?_
    refine Wp_seq (Wp_region_lit (W_v (.pointer none) (x_assign rfl) rfl (W_v (.bool false) (x_assign rfl) rfl (Wl_nil (tn ?_)))))
    refine Wp_ret ?_
    refine tr (?_)
    obtain rfl := Option.some.inj H
    exact ⟨_, _, _, fun w1 e1 => run_resR (vs := [.pointer none, .bool false]) (FA.cons (rfl) (FA.cons (rfl) (FA.nil))), HM, E, S.pick [] (by decide), ⟨rfl, rfl⟩⟩
  refine Wp_cond_false (congrArg Value.bool hb7) (Wp_skip (tn (Wp_seq (Wp_region_lit (W_v (pt b1 0) (x_fieldAddr (o := 0) (off := 0) Tryd.underlying23 rfl ty3 rfl rfl) rfl (W_v (.int .i64 a0.Tasks) (x_load (S.blk 0 rfl) ty3 rfl rfl) rfl ?_))))))
  obtain ⟨t8, ht9, H⟩ := bindS H
  rcases t8 with t10 | t11
  · skip
    replace H := elimL H
    refine W_callF2 fn40 (event_New_v.con k M a0.Tasks (Sum.inl t10)  ht9) (Γ1 := []) (Γ2 := [_]) S rfl rfl (by rintro _ _ _ ⟨rfl, rfl⟩; exact flat_nil) ?_
    rintro _ w12 _ Γ' E' S ⟨rfl, rfl⟩
    replace E := E.trans E'
    replace S : St w12 M F [_] := S
    refine W_v (.tuple #[.pointer none, .int .i64 1]) (x_move rfl) rfl (W_v (.pointer none) (x_extract rfl rfl) rfl (W_v (.int .i64 1) (x_extract rfl rfl) rfl (W_v (.pointer none) (x_assign rfl) rfl (W_v (.int .i64 1) (x_assign rfl) rfl (Wl_nil (tn (Wp_seq (Wp_region_lit (W_v (.agg #[.int .i64 a0.Tasks, .int .i64 a0.Active, .int .i64 a0.Keys, .int .i64 a0.Depth, .int .i64 a0.TS, .int .i64 a0.KeyLen, .int .i64 a0.ValLen, .int .i64 a0.Fan]) (x_loadA (S.blk 0 rfl) ty23 rfl (sub_of_extract rfl) rfl rfl) rfl ?_)))))))))
    obtain ⟨t15, ht16, H⟩ := bindS H
    rcases t15 with t17 | t18
    · skip
      replace H := elimL H
      refine W_callF2 fn22 (model_New_v.con k M a0 (Sum.inl t17)  ht16) (Γ1 := []) (Γ2 := [_]) S rfl rfl (by rintro _ _ _ ⟨rfl, rfl⟩; exact flat_nil) ?_
      rintro _ w19 _ Γ' E' S ⟨rfl, rfl⟩
      replace E := E.trans E'
      replace S : St w19 M F [_] := S
      refine W_v (.tuple #[.pointer none, .int .i64 1]) (x_move rfl) rfl (W_v (.pointer none) (x_extract rfl rfl) rfl (W_v (.int .i64 1) (x_extract rfl rfl) rfl (W_v (.pointer none) (x_assign rfl) rfl (W_v (.int .i64 1) (x_assign rfl) rfl (Wl_nil (tn (Wp_seq (Wp_region_lit (W_v (.slice A1 a1.length c1) (x_move rfl) rfl (W_v (.pointer none) (x_move rfl) rfl (W_v (.pointer none) (x_move rfl) rfl (W_v (pt b1 0) (x_fieldAddr (o := 0) (off := 0) Tryd.underlying23 rfl ty3 rfl rfl) rfl (W_v (.int .i64 a0.Tasks) (x_load (S.blk 0 rfl) ty3 rfl rfl) rfl ?_)))))))))))))
      obtain ⟨⟨p22, p23, p24, p25⟩, H⟩ := chkS H
      refine W_make (r := (rInt .i64)) S (0 : Int) Tryd.underlying30 ty3 rfl (by decide) (fun _ => rfl) rfl rfl p22 p23 p24 p25 rfl ?_
      intro b26 w27 E' S
      replace E := E.trans E'
      refine W_v (.agg #[.slice A1 a1.length c1, .pointer none, .pointer none, .slice none 0 0, .slice (some ⟨b26, 0, none⟩) (List.replicate a0.Tasks.toNat (0 : Int)).length a0.Tasks.toNat]) (x_build2 (pl := [(0, 1), (1, 1), (2, 1), (3, 1), (4, 1)]) #[.slice A1 a1.length c1, .pointer none, .pointer none, .slice none 0 0, .slice (some ⟨b26, 0, none⟩) (List.replicate a0.Tasks.toNat (0 : Int)).length a0.Tasks.toNat] Tryd.underlying72 ty72 (by as_aux_lemma => kernel_rfl) rfl (by as_aux_lemma => kernel_rfl)) rfl ?_
      refine W_box S #[.slice A1 a1.length c1, .pointer none, .pointer none, .slice none 0 0, .slice (some ⟨b26, 0, none⟩) (List.replicate a0.Tasks.toNat (0 : Int)).length a0.Tasks.toNat] rfl rfl rfl ?_
      intro b29 w30 E' S
      replace E := E.trans E'
      refine W_v (.int .i64 1) (x_move rfl) rfl (W_v (.bool false) (x_ibin rfl rfl rfl rfl) rfl (W_v (.bool false) (x_move rfl) rfl (W_no (rfl) rfl (W_no (rfl) rfl (W_v (.bool false) (x_pick (k := false) rfl rfl) rfl (W_v (pt b29 0) (x_assign rfl) rfl (W_v (.bool false) (x_assign rfl) rfl (Wl_nil (tn ?_)))))))))
      refine Wp_ret ?_
      obtain rfl := Option.some.inj H
      replace S := S.row_nil r_replay_Done 53
      exact ⟨_, _, _, fun w1 e1 => run_resR (vs := [pt b29 0, .bool false]) (FA.cons (rfl) (FA.cons (rfl) (FA.nil))), HM, E, S.pick [1, 0, 2] (by decide), ⟨b29, A1, c1, none, 0, (some ⟨b26, 0, none⟩), a0.Tasks.toNat, rfl, hr1, rfl⟩⟩
    · skip
      replace H := elimR H
      refine W_call fn22 (model_New_v.con k M a0 (Sum.inr t18)  ht16) (Γ1 := []) (Γ2 := [_]) S rfl rfl ?_
      rintro _ w49 M50 Γ' hM51 E' S ⟨b33, A35, c36, A38, c39, A41, c42, A44, c45, vs47, rfl, hm48, rfl⟩
      replace HM := Hp.le_trans HM hM51
      replace hr1 := SlR.mono hr1 hM51
      replace E := E.trans E'
      replace S : St w49 M50 F [_, _, _, _, _, _] := S
      refine W_v (.tuple #[pt b33 0, .int .i64 0]) (x_move rfl) rfl (W_v (pt b33 0) (x_extract rfl rfl) rfl (W_v (.int .i64 0) (x_extract rfl rfl) rfl (W_v (pt b33 0) (x_assign rfl) rfl (W_v (.int .i64 0) (x_assign rfl) rfl (Wl_nil (tn (Wp_seq (Wp_region_lit (W_v (.slice A1 a1.length c1) (x_move rfl) rfl (W_v (.pointer none) (x_move rfl) rfl (W_v (pt b33 0) (x_move rfl) rfl (W_v (pt b1 0) (x_fieldAddr (o := 0) (off := 0) Tryd.underlying23 rfl ty3 rfl rfl) rfl (W_v (.int .i64 a0.Tasks) (x_load (S.blk 5 rfl) ty3 rfl rfl) rfl ?_)))))))))))))
      obtain ⟨⟨p52, p53, p54, p55⟩, H⟩ := chkS H
      refine W_make (r := (rInt .i64)) S (0 : Int) Tryd.underlying30 ty3 rfl (by decide) (fun _ => rfl) rfl rfl p52 p53 p54 p55 rfl ?_
      intro b56 w57 E' S
      replace E := E.trans E'
      refine W_v (.agg #[.slice A1 a1.length c1, .pointer none, pt b33 0, .slice none 0 0, .slice (some ⟨b56, 0, none⟩) (List.replicate a0.Tasks.toNat (0 : Int)).length a0.Tasks.toNat]) (x_build2 (pl := [(0, 1), (1, 1), (2, 1), (3, 1), (4, 1)]) #[.slice A1 a1.length c1, .pointer none, pt b33 0, .slice none 0 0, .slice (some ⟨b56, 0, none⟩) (List.replicate a0.Tasks.toNat (0 : Int)).length a0.Tasks.toNat] Tryd.underlying72 ty72 (by as_aux_lemma => kernel_rfl) rfl (by as_aux_lemma => kernel_rfl)) rfl ?_
      refine W_box S #[.slice A1 a1.length c1, .pointer none, pt b33 0, .slice none 0 0, .slice (some ⟨b56, 0, none⟩) (List.replicate a0.Tasks.toNat (0 : Int)).length a0.Tasks.toNat] rfl rfl rfl ?_
      intro b59 w60 E' S
      replace E := E.trans E'
      refine W_v (.int .i64 1) (x_move rfl) rfl (W_v (.bool false) (x_ibin rfl rfl rfl rfl) rfl (W_v (.bool false) (x_move rfl) rfl (W_no (rfl) rfl (W_no (rfl) rfl (W_v (.bool false) (x_pick (k := false) rfl rfl) rfl (W_v (pt b59 0) (x_assign rfl) rfl (W_v (.bool false) (x_assign rfl) rfl (Wl_nil (tn ?_)))))))))
      refine Wp_ret ?_
      obtain rfl := Option.some.inj H
      replace S := S.row_nil r_replay_Done 53
      exact ⟨_, _, _, fun w1 e1 => run_resR (vs := [pt b59 0, .bool false]) (FA.cons (rfl) (FA.cons (rfl) (FA.nil))), HM, E, S.pick [1, 3, 4, 5, 6, 7, 0, 2] (by decide), ⟨b59, A1, c1, b33, A35, c36, A38, c39, A41, c42, A44, c45, vs47, none, 0, (some ⟨b56, 0, none⟩), a0.Tasks.toNat, rfl, hr1, hm48, rfl⟩⟩
  · skip
    replace H := elimR H
    refine W_call fn40 (event_New_v.con k M a0.Tasks (Sum.inr t11)  ht9) (Γ1 := []) (Γ2 := [_]) S rfl rfl ?_
    rintro _ w71 M72 Γ' hM73 E' S ⟨b63, A65, c66, A68, c69, rfl, rfl⟩
    replace HM := Hp.le_trans HM hM73
    replace hr1 := SlR.mono hr1 hM73
    replace E := E.trans E'
    replace S : St w71 M72 F [_, _, _, _] := S
    refine W_v (.tuple #[pt b63 0, .int .i64 0]) (x_move rfl) rfl (W_v (pt b63 0) (x_extract rfl rfl) rfl (W_v (.int .i64 0) (x_extract rfl rfl) rfl (W_v (pt b63 0) (x_assign rfl) rfl (W_v (.int .i64 0) (x_assign rfl) rfl (Wl_nil (tn (Wp_seq (Wp_region_lit (W_v (.agg #[.int .i64 a0.Tasks, .int .i64 a0.Active, .int .i64 a0.Keys, .int .i64 a0.Depth, .int .i64 a0.TS, .int .i64 a0.KeyLen, .int .i64 a0.ValLen, .int .i64 a0.Fan]) (x_loadA (S.blk 3 rfl) ty23 rfl (sub_of_extract rfl) rfl rfl) rfl ?_)))))))))
    obtain ⟨t74, ht75, H⟩ := bindS H
    rcases t74 with t76 | t77
    · skip
      replace H := elimL H
      refine W_callF2 fn22 (model_New_v.con k M72 a0 (Sum.inl t76)  ht75) (Γ1 := []) (Γ2 := [_, _, _, _]) S rfl rfl (by rintro _ _ _ ⟨rfl, rfl⟩; exact flat_nil) ?_
      rintro _ w78 _ Γ' E' S ⟨rfl, rfl⟩
      replace E := E.trans E'
      replace S : St w78 M72 F [_, _, _, _] := S
      refine W_v (.tuple #[.pointer none, .int .i64 1]) (x_move rfl) rfl (W_v (.pointer none) (x_extract rfl rfl) rfl (W_v (.int .i64 1) (x_extract rfl rfl) rfl (W_v (.pointer none) (x_assign rfl) rfl (W_v (.int .i64 1) (x_assign rfl) rfl (Wl_nil (tn (Wp_seq (Wp_region_lit (W_v (.slice A1 a1.length c1) (x_move rfl) rfl (W_v (pt b63 0) (x_move rfl) rfl (W_v (.pointer none) (x_move rfl) rfl (W_v (pt b1 0) (x_fieldAddr (o := 0) (off := 0) Tryd.underlying23 rfl ty3 rfl rfl) rfl (W_v (.int .i64 a0.Tasks) (x_load (S.blk 3 rfl) ty3 rfl rfl) rfl ?_)))))))))))))
      obtain ⟨⟨p81, p82, p83, p84⟩, H⟩ := chkS H
      refine W_make (r := (rInt .i64)) S (0 : Int) Tryd.underlying30 ty3 rfl (by decide) (fun _ => rfl) rfl rfl p81 p82 p83 p84 rfl ?_
      intro b85 w86 E' S
      replace E := E.trans E'
      refine W_v (.agg #[.slice A1 a1.length c1, pt b63 0, .pointer none, .slice none 0 0, .slice (some ⟨b85, 0, none⟩) (List.replicate a0.Tasks.toNat (0 : Int)).length a0.Tasks.toNat]) (x_build2 (pl := [(0, 1), (1, 1), (2, 1), (3, 1), (4, 1)]) #[.slice A1 a1.length c1, pt b63 0, .pointer none, .slice none 0 0, .slice (some ⟨b85, 0, none⟩) (List.replicate a0.Tasks.toNat (0 : Int)).length a0.Tasks.toNat] Tryd.underlying72 ty72 (by as_aux_lemma => kernel_rfl) rfl (by as_aux_lemma => kernel_rfl)) rfl ?_
      refine W_box S #[.slice A1 a1.length c1, pt b63 0, .pointer none, .slice none 0 0, .slice (some ⟨b85, 0, none⟩) (List.replicate a0.Tasks.toNat (0 : Int)).length a0.Tasks.toNat] rfl rfl rfl ?_
      intro b88 w89 E' S
      replace E := E.trans E'
      refine W_v (.int .i64 0) (x_move rfl) rfl (W_v (.bool true) (x_ibin rfl rfl rfl rfl) rfl (W_v (.bool true) (x_move rfl) rfl (W_yes (rfl) (W_v (.int .i64 1) (x_move rfl) rfl (W_yes (rfl) (W_v (.bool false) (x_ibin rfl rfl rfl rfl) rfl (W_v (.bool false) (x_pick (k := true) rfl rfl) rfl (W_v (pt b88 0) (x_assign rfl) rfl (W_v (.bool false) (x_assign rfl) rfl (Wl_nil (tn ?_)))))))))))
      refine Wp_ret ?_
      obtain rfl := Option.some.inj H
      replace S := S.row_nil r_replay_Done 53
      exact ⟨_, _, _, fun w1 e1 => run_resR (vs := [pt b88 0, .bool false]) (FA.cons (rfl) (FA.cons (rfl) (FA.nil))), HM, E, S.pick [1, 3, 4, 5, 0, 2] (by decide), ⟨b88, A1, c1, b63, A65, c66, A68, c69, none, 0, (some ⟨b85, 0, none⟩), a0.Tasks.toNat, rfl, hr1, rfl⟩⟩
    · skip
      replace H := elimR H
      refine W_call fn22 (model_New_v.con k M72 a0 (Sum.inr t77)  ht75) (Γ1 := []) (Γ2 := [_, _, _, _]) S rfl rfl ?_
      rintro _ w108 M109 Γ' hM110 E' S ⟨b92, A94, c95, A97, c98, A100, c101, A103, c104, vs106, rfl, hm107, rfl⟩
      replace HM := Hp.le_trans HM hM110
      replace hr1 := SlR.mono hr1 hM110
      replace E := E.trans E'
      replace S : St w108 M109 F [_, _, _, _, _, _, _, _, _] := S
      refine W_v (.tuple #[pt b92 0, .int .i64 0]) (x_move rfl) rfl (W_v (pt b92 0) (x_extract rfl rfl) rfl (W_v (.int .i64 0) (x_extract rfl rfl) rfl (W_v (pt b92 0) (x_assign rfl) rfl (W_v (.int .i64 0) (x_assign rfl) rfl (Wl_nil (tn (Wp_seq (Wp_region_lit (W_v (.slice A1 a1.length c1) (x_move rfl) rfl (W_v (pt b63 0) (x_move rfl) rfl (W_v (pt b92 0) (x_move rfl) rfl (W_v (pt b1 0) (x_fieldAddr (o := 0) (off := 0) Tryd.underlying23 rfl ty3 rfl rfl) rfl (W_v (.int .i64 a0.Tasks) (x_load (S.blk 8 rfl) ty3 rfl rfl) rfl ?_)))))))))))))
      obtain ⟨⟨p111, p112, p113, p114⟩, H⟩ := chkS H
      refine W_make (r := (rInt .i64)) S (0 : Int) Tryd.underlying30 ty3 rfl (by decide) (fun _ => rfl) rfl rfl p111 p112 p113 p114 rfl ?_
      intro b115 w116 E' S
      replace E := E.trans E'
      refine W_v (.agg #[.slice A1 a1.length c1, pt b63 0, pt b92 0, .slice none 0 0, .slice (some ⟨b115, 0, none⟩) (List.replicate a0.Tasks.toNat (0 : Int)).length a0.Tasks.toNat]) (x_build2 (pl := [(0, 1), (1, 1), (2, 1), (3, 1), (4, 1)]) #[.slice A1 a1.length c1, pt b63 0, pt b92 0, .slice none 0 0, .slice (some ⟨b115, 0, none⟩) (List.replicate a0.Tasks.toNat (0 : Int)).length a0.Tasks.toNat] Tryd.underlying72 ty72 (by as_aux_lemma => kernel_rfl) rfl (by as_aux_lemma => kernel_rfl)) rfl ?_
      refine W_box S #[.slice A1 a1.length c1, pt b63 0, pt b92 0, .slice none 0 0, .slice (some ⟨b115, 0, none⟩) (List.replicate a0.Tasks.toNat (0 : Int)).length a0.Tasks.toNat] rfl rfl rfl ?_
      intro b118 w119 E' S
      replace E := E.trans E'
      refine W_v (.int .i64 0) (x_move rfl) rfl (W_v (.bool true) (x_ibin rfl rfl rfl rfl) rfl (W_v (.bool true) (x_move rfl) rfl (W_yes (rfl) (W_v (.int .i64 0) (x_move rfl) rfl (W_yes (rfl) (W_v (.bool true) (x_ibin rfl rfl rfl rfl) rfl (W_v (.bool true) (x_pick (k := true) rfl rfl) rfl (W_v (pt b118 0) (x_assign rfl) rfl (W_v (.bool true) (x_assign rfl) rfl (Wl_nil (tn ?_)))))))))))
      refine Wp_ret ?_
      obtain rfl := Option.some.inj H
      replace S := S.row_nil r_replay_Done 53
      exact ⟨_, _, _, fun w1 e1 => run_resR (vs := [pt b118 0, .bool true]) (FA.cons (rfl) (FA.cons (rfl) (FA.nil))), HM, E, S.pick [1, 8, 9, 10, 3, 4, 5, 6, 7, 0, 2] (by decide), ⟨b118, A1, c1, b63, A65, c66, A68, c69, b92, A94, c95, A97, c98, A100, c101, A103, c104, vs106, none, 0, (some ⟨b115, 0, none⟩), a0.Tasks.toNat, rfl, hr1, hm107, rfl⟩⟩
def replay_run_call_PRpoo_poooo_OO (k : Nat) (a0 : replay_run) (a1 : api_Event) : Option (api_Call × Bool) :=
  (Option.bind (α := Bool) (if (((decide (a1.Task < (0 : Int))) || (decide (a1.Task ≥ (a0.programs.length : Int)))) || (decide (a1.Call < (0 : Int)))) = true then some (true) else (if 0 ≤ a1.Task ∧ a1.Task < (a0.programs.length : Int) then some ((decide (a1.Call ≥ ((rd a0.programs a1.Task).length : Int)))) else none)) (fun x60 => (if x60 = true then some ((⟨(0 : Int), (0 : Int), ([] : Str), ([] : Str), ([] : Str), (0 : Int), (0 : Int)⟩ : api_Call), false) else (if 0 ≤ a1.Task ∧ a1.Task < (a0.programs.length : Int) then (if 0 ≤ a1.Call ∧ a1.Call < ((rd a0.programs a1.Task).length : Int) then some ((rd (rd a0.programs a1.Task) a1.Call), true) else none) else none))))
set_option maxHeartbeats 2000000 in
theorem replay_run_call_PRpoo_poooo_OO.mono {k : Nat} {a0 : replay_run} {a1 : api_Event} : OLe (replay_run_call_PRpoo_poooo_OO k a0 a1) (replay_run_call_PRpoo_poooo_OO (k + 1) a0 a1) := by
  unfold replay_run_call_PRpoo_poooo_OO
  repeat' (first | with_reducible exact OLe.none | with_reducible exact OLe.some | with_reducible refine OLe.ite ?_ ?_ | with_reducible refine OLe.bind ?_ (fun _ => ?_) | refine OLe.bind ?_ (fun _ => ?_) | refine OLe.ite ?_ ?_ | refine OLe.elim (fun _ => ?_) (fun _ => ?_) | split)
set_option maxHeartbeats 4000000 in
set_option maxRecDepth 100000 in
theorem replay_run_call_PRpoo_poooo_OO.con (k : Nat) (M : Hp) (A0_0 : Option Addr) (c0_0 : Nat) (A0_1_0 : Option Addr) (c0_1_0 : Nat) (A0_1_1 : Option Addr) (c0_1_1 : Nat) (A0_2_8 : Option Addr) (c0_2_8 : Nat) (A0_2_9 : Option Addr) (c0_2_9 : Nat) (A0_2_10 : Option Addr) (c0_2_10 : Nat) (A0_2_11 : Option Addr) (c0_2_11 : Nat) (vs0_2_11 : List (Str × Value)) (A0_3 : Option Addr) (c0_3 : Nat) (A0_4 : Option Addr) (c0_4 : Nat) (a0 : replay_run) (A1_0 : Option Addr) (c1_0 : Nat) (a1 : api_Event) (bo0_1 : Nat) (bo0_2 : Nat) (bo0 : Nat) (r : api_Call × Bool) (hr0_0 : SlR (rSl r_api_Call) M (.slice A0_0 a0.programs.length c0_0) a0.programs) (hm0_2_11 : MRel r_model_row M a0.m.rows vs0_2_11) (hr1_0 : SlR r_api_Pair M (.slice A1_0 a1.Answer.Pairs.length c1_0) a1.Answer.Pairs) (h : replay_run_call_PRpoo_poooo_OO k a0 a1 = some r) : Con Tryd.prog 41 #[pt bo0 0, .agg #[.int .u8 a1.What, .int .i64 a1.Task, .int .i64 a1.Call, .int .i64 a1.Answer.Err, .bool a1.Answer.Found, .string (bs a1.Answer.Value), .slice A1_0 a1.Answer.Pairs.length c1_0]] M [B72 bo0 a0 A0_0 c0_0 bo0_1 bo0_2 A0_3 c0_3 A0_4 c0_4, Blk bo0_1 (.cells #[.slice A0_1_0 a0.r.tasks.length c0_1_0, .slice A0_1_1 a0.r.l.length c0_1_1] 130 (0, 0)), Row r_event_task 135 (.slice A0_1_0 a0.r.tasks.length c0_1_0) a0.r.tasks, Row r_api_Event 38 (.slice A0_1_1 a0.r.l.length c0_1_1) a0.r.l, B83 bo0_2 a0.m A0_2_8 A0_2_9 A0_2_10 c0_2_10 A0_2_11, MapC enc_model_name (Value.int .i64) A0_2_8 a0.m.names, MapC (Value.int .i64) (Value.int .i64) A0_2_9 a0.m.many, Row r_model_tx 109 (.slice A0_2_10 a0.m.txs.length c0_2_10) a0.m.txs, MapC encS (fun v : Value => v) A0_2_11 vs0_2_11, Row r_replay_Done 53 (.slice A0_3 a0.done.length c0_3) a0.done, Row (rInt .i64) 3 (.slice A0_4 a0.last.length c0_4) a0.last] (fun v M' Γ' => v = .tuple #[.agg #[.int .u8 r.1.Kind, .int .i64 r.1.Tx, .string (bs r.1.Key), .string (bs r.1.End), .string (bs r.1.Value), .int .i64 r.1.Limit, .int .u8 r.1.Engine], .bool r.2] ∧ Γ' = [B72 bo0 a0 A0_0 c0_0 bo0_1 bo0_2 A0_3 c0_3 A0_4 c0_4, Blk bo0_1 (.cells #[.slice A0_1_0 a0.r.tasks.length c0_1_0, .slice A0_1_1 a0.r.l.length c0_1_1] 130 (0, 0)), Row r_event_task 135 (.slice A0_1_0 a0.r.tasks.length c0_1_0) a0.r.tasks, Row r_api_Event 38 (.slice A0_1_1 a0.r.l.length c0_1_1) a0.r.l, B83 bo0_2 a0.m A0_2_8 A0_2_9 A0_2_10 c0_2_10 A0_2_11, MapC enc_model_name (Value.int .i64) A0_2_8 a0.m.names, MapC (Value.int .i64) (Value.int .i64) A0_2_9 a0.m.many, Row r_model_tx 109 (.slice A0_2_10 a0.m.txs.length c0_2_10) a0.m.txs, MapC encS (fun v : Value => v) A0_2_11 vs0_2_11, Row r_replay_Done 53 (.slice A0_3 a0.done.length c0_3) a0.done, Row (rInt .i64) 3 (.slice A0_4 a0.last.length c0_4) a0.last]) := by
  refine con_of_wp Tryd.func41 rfl Tryd.ntmps41 Tryd.results41 rfl ?_
  intro w F rn S hrn
  have E := Ext.refl w
  have HM := Hp.le_refl M
  have H := h
  unfold replay_run_call_PRpoo_poooo_OO at H
  refine Wp_seq (Wp_region_lit ?_)
  refine W_box S #[.int .u8 a1.What, .int .i64 a1.Task, .int .i64 a1.Call, .int .i64 a1.Answer.Err, .bool a1.Answer.Found, .string (bs a1.Answer.Value), .slice A1_0 a1.Answer.Pairs.length c1_0] rfl rfl rfl ?_
  intro b1 w2 E' S
  replace E := E.trans E'
  refine W_alloc S #[.int .u8 0, .int .i64 0, .string (bs ([] : Str)), .string (bs ([] : Str)), .string (bs ([] : Str)), .int .i64 0, .int .u8 0] ty42 rfl rfl ?_
  intro b4 w5 E' S
  replace E := E.trans E'
  refine W_v (.bool false) (x_assign rfl) rfl (Wl_nil (tn (Wp_seq (Wp_seq ?_))))
  refine Wp_region_any (S := fun w' => ∃ Mx, M.le Mx ∧ St w' Mx F [Blk b4 (.cells #[.int .u8 0, .int .i64 0, .string (bs ([] : Str)), .string (bs ([] : Str)), .string (bs ([] : Str)), .int .i64 0, .int .u8 0] 42 (0, 0)), B38 b1 a1 A1_0 c1_0, B72 bo0 a0 A0_0 c0_0 bo0_1 bo0_2 A0_3 c0_3 A0_4 c0_4, Blk bo0_1 (.cells #[.slice A0_1_0 a0.r.tasks.length c0_1_0, .slice A0_1_1 a0.r.l.length c0_1_1] 130 (0, 0)), Row r_event_task 135 (.slice A0_1_0 a0.r.tasks.length c0_1_0) a0.r.tasks, Row r_api_Event 38 (.slice A0_1_1 a0.r.l.length c0_1_1) a0.r.l, B83 bo0_2 a0.m A0_2_8 A0_2_9 A0_2_10 c0_2_10 A0_2_11, MapC enc_model_name (Value.int .i64) A0_2_8 a0.m.names, MapC (Value.int .i64) (Value.int .i64) A0_2_9 a0.m.many, Row r_model_tx 109 (.slice A0_2_10 a0.m.txs.length c0_2_10) a0.m.txs, MapC encS (fun v : Value => v) A0_2_11 vs0_2_11, Row r_replay_Done 53 (.slice A0_3 a0.done.length c0_3) a0.done, Row (rInt .i64) 3 (.slice A0_4 a0.last.length c0_4) a0.last]) (L := 32) mixed ?_
  intro w41 hw42 E'
  replace S := S.heap hw42
  replace E := E.trans E'
  have D1 : ∃ Mx, Hp.le M Mx ∧ St _ Mx F [_, _, _, _, _, _, _, _, _, _, _, _, _] := ⟨_, Hp.le_refl _, S.pick [0, 1, 2, 3, 4, 5, 6, 7, 8, 9, 10, 11, 12] (by decide)⟩
  refine Wa_take (i := 0) rfl (by kernel_rfl) rfl rfl (pt b1 1) rfl (fun w' h' => x_fieldAddr (o := 0) (off := 1) Tryd.underlying38 rfl ty3 rfl rfl) D1 (Wa_take (i := 1) rfl (by kernel_rfl) rfl rfl (.int .i64 a1.Task) rfl (fun w' h' => x_load (cls_blk h' 1 rfl) ty3 rfl rfl) D1 (Wa_take (i := 2) rfl (by kernel_rfl) rfl rfl (.bool (decide (a1.Task < (0 : Int)))) rfl (fun w' h' => x_ibin rfl rfl rfl rfl) D1 (Wa_take (i := 3) rfl (by kernel_rfl) rfl rfl (.bool (decide (a1.Task < (0 : Int)))) rfl (fun w' h' => x_move rfl) D1 ?_)))
  refine Wa_join (fun ρ w' => Agree ρ [(0, pt bo0 0), (3, pt b1 0), (4, pt b4 0), (18, .bool ((decide (a1.Task < (0 : Int))) || (decide (a1.Task ≥ (a0.programs.length : Int)))))] ∧ w41 = w') 19 (Ls 32 [0, 1, 2, 3, 4, 5, 6, 7, 8, 9, 10, 11, 12]) ?_ ?_
  rotate_left
  · intro hrest
    rcases boolCases (decide (a1.Task < (0 : Int))) with hb43 | hb43
    · skip
      have D2 : ∃ Mx, Hp.le M Mx ∧ St _ Mx F [_, _, _, _, _, _, _, _, _, _, _, _, _] := ⟨_, Hp.le_refl _, S.pick [0, 1, 2, 3, 4, 5, 6, 7, 8, 9, 10, 11, 12] (by decide)⟩
      refine Wa_takeY (i := 4) rfl (by kernel_rfl) rfl rfl (pt b1 1) rfl (congrArg some hb43) (fun w' h' => x_fieldAddr (o := 0) (off := 1) Tryd.underlying38 rfl ty3 rfl rfl) D2 (Wa_takeY (i := 5) rfl (by kernel_rfl) rfl rfl (.int .i64 a1.Task) rfl (congrArg some hb43) (fun w' h' => x_load (cls_blk h' 1 rfl) ty3 rfl rfl) D2 (Wa_takeY (i := 6) rfl (by kernel_rfl) rfl rfl (pt bo0 0) rfl (congrArg some hb43) (fun w' h' => x_move rfl) D2 (Wa_takeY (i := 7) rfl (by kernel_rfl) rfl rfl (pt bo0 0) rfl (congrArg some hb43) (fun w' h' => x_nilptr rfl) D2 (Wa_takeY (i := 8) rfl (by kernel_rfl) rfl rfl (pt bo0 0) rfl (congrArg some hb43) (fun w' h' => x_fieldAddr (o := 0) (off := 0) Tryd.underlying72 rfl ty44 rfl rfl) D2 (Wa_takeY (i := 9) rfl (by kernel_rfl) rfl rfl (.slice A0_0 a0.programs.length c0_0) rfl (congrArg some hb43) (fun w' h' => x_load (cls_blk h' 2 rfl) ty44 rfl rfl) D2 (Wa_takeY (i := 10) rfl (by kernel_rfl) rfl rfl (.int .i64 (a0.programs.length : Int)) rfl (congrArg some hb43) (fun w' h' => x_len_slice (n := a0.programs.length) Tryd.underlying44 rfl) D2 (Wa_takeY (i := 11) rfl (by kernel_rfl) rfl rfl (.bool (decide (a1.Task ≥ (a0.programs.length : Int)))) rfl (congrArg some hb43) (fun w' h' => x_ibin rfl rfl rfl rfl) D2 (Wa_take (i := 12) rfl (by kernel_rfl) rfl rfl (.bool (decide (a1.Task ≥ (a0.programs.length : Int)))) rfl (fun w' h' => x_pick (k := false) (congrArg Value.bool hb43) rfl) D2 ?_))))))))
      exact hrest _ _ ⟨⟨rfl, rfl, rfl, (by first | rfl | (rw [hb43]; rfl) | (simp only [hb43]; rfl)), trivial⟩, rfl⟩
    · skip
      have D3 : ∃ Mx, Hp.le M Mx ∧ St _ Mx F [_, _, _, _, _, _, _, _, _, _, _, _, _] := ⟨_, Hp.le_refl _, S.pick [0, 1, 2, 3, 4, 5, 6, 7, 8, 9, 10, 11, 12] (by decide)⟩
      refine Wa_takeN (i := 4) rfl (by kernel_rfl) rfl rfl rfl (skF hb43) D3 (Wa_takeN (i := 5) rfl (by kernel_rfl) rfl rfl rfl (skF hb43) D3 (Wa_takeN (i := 6) rfl (by kernel_rfl) rfl rfl rfl (skF hb43) D3 (Wa_takeN (i := 7) rfl (by kernel_rfl) rfl rfl rfl (skF hb43) D3 (Wa_takeN (i := 8) rfl (by kernel_rfl) rfl rfl rfl (skF hb43) D3 (Wa_takeN (i := 9) rfl (by kernel_rfl) rfl rfl rfl (skF hb43) D3 (Wa_takeN (i := 10) rfl (by kernel_rfl) rfl rfl rfl (skF hb43) D3 (Wa_takeN (i := 11) rfl (by kernel_rfl) rfl rfl rfl (skF hb43) D3 (Wa_take (i := 12) rfl (by kernel_rfl) rfl rfl (.bool true) rfl (fun w' h' => x_pick (k := true) (congrArg Value.bool hb43) rfl) D3 ?_))))))))
      exact hrest _ _ ⟨⟨rfl, rfl, rfl, (by first | rfl | (rw [hb43]; rfl) | (simp only [hb43]; rfl)), trivial⟩, rfl⟩
  rintro ρ _ ⟨hρ, rfl⟩
  rw [agree_eta hρ]
  refine Wa_take (i := 13) rfl (by kernel_rfl) rfl rfl (.bool ((decide (a1.Task < (0 : Int))) || (decide (a1.Task ≥ (a0.programs.length : Int))))) rfl (fun w' h' => x_move rfl) (⟨M, Hp.le_refl M, (S.pick [0, 1, 2, 3, 4, 5, 6, 7, 8, 9, 10, 11, 12] (by decide))⟩) ?_
  refine Wa_join (fun ρ w' => Agree ρ [(0, pt bo0 0), (3, pt b1 0), (4, pt b4 0), (23, .bool (((decide (a1.Task < (0 : Int))) || (decide (a1.Task ≥ (a0.programs.length : Int)))) || (decide (a1.Call < (0 : Int)))))] ∧ w41 = w') 14 (Ls 32 [0, 1, 2, 3, 4, 5, 6, 7, 8, 9, 10, 11, 12, 13, 14, 15, 16, 17]) ?_ ?_
  rotate_left
  · intro hrest
    rcases boolCases ((decide (a1.Task < (0 : Int))) || (decide (a1.Task ≥ (a0.programs.length : Int)))) with hb44 | hb44
    · skip
      have D5 : ∃ Mx, Hp.le M Mx ∧ St _ Mx F [_, _, _, _, _, _, _, _, _, _, _, _, _] := ⟨_, Hp.le_refl _, S.pick [0, 1, 2, 3, 4, 5, 6, 7, 8, 9, 10, 11, 12] (by decide)⟩
      refine Wa_takeY (i := 14) rfl (by kernel_rfl) rfl rfl (pt b1 2) rfl (congrArg some hb44) (fun w' h' => x_fieldAddr (o := 0) (off := 2) Tryd.underlying38 rfl ty3 rfl rfl) D5 (Wa_takeY (i := 15) rfl (by kernel_rfl) rfl rfl (.int .i64 a1.Call) rfl (congrArg some hb44) (fun w' h' => x_load (cls_blk h' 1 rfl) ty3 rfl rfl) D5 (Wa_takeY (i := 16) rfl (by kernel_rfl) rfl rfl (.bool (decide (a1.Call < (0 : Int)))) rfl (congrArg some hb44) (fun w' h' => x_ibin rfl rfl rfl rfl) D5 (Wa_take (i := 17) rfl (by kernel_rfl) rfl rfl (.bool (decide (a1.Call < (0 : Int)))) rfl (fun w' h' => x_pick (k := false) (congrArg Value.bool hb44) rfl) D5 ?_)))
      exact hrest _ _ ⟨⟨rfl, rfl, rfl, (by first | rfl | (rw [hb44]; rfl) | (simp only [hb44]; rfl)), trivial⟩, rfl⟩
    · skip
      have D6 : ∃ Mx, Hp.le M Mx ∧ St _ Mx F [_, _, _, _, _, _, _, _, _, _, _, _, _] := ⟨_, Hp.le_refl _, S.pick [0, 1, 2, 3, 4, 5, 6, 7, 8, 9, 10, 11, 12] (by decide)⟩
      refine Wa_takeN (i := 14) rfl (by kernel_rfl) rfl rfl rfl (skF hb44) D6 (Wa_takeN (i := 15) rfl (by kernel_rfl) rfl rfl rfl (skF hb44) D6 (Wa_takeN (i := 16) rfl (by kernel_rfl) rfl rfl rfl (skF hb44) D6 (Wa_take (i := 17) rfl (by kernel_rfl) rfl rfl (.bool true) rfl (fun w' h' => x_pick (k := true) (congrArg Value.bool hb44) rfl) D6 ?_)))
      exact hrest _ _ ⟨⟨rfl, rfl, rfl, (by first | rfl | (rw [hb44]; rfl) | (simp only [hb44]; rfl)), trivial⟩, rfl⟩
  rintro ρ _ ⟨hρ, rfl⟩
  rw [agree_eta hρ]
  refine Wa_take (i := 18) rfl (by kernel_rfl) rfl rfl (.bool (((decide (a1.Task < (0 : Int))) || (decide (a1.Task ≥ (a0.programs.length : Int)))) || (decide (a1.Call < (0 : Int))))) rfl (fun w' h' => x_move rfl) (⟨M, Hp.le_refl M, (S.pick [0, 1, 2, 3, 4, 5, 6, 7, 8, 9, 10, 11, 12] (by decide))⟩) ?_
  obtain ⟨o61, o61h, o61H⟩ := bindS H
  refine Wa_join (fun ρ w' => ∃ (x60 : Bool), (x60) = o61 ∧ Agree ρ [(0, pt bo0 0), (3, pt b1 0), (4, pt b4 0), (37, .bool x60)] ∧ Ext w w' ∧ St w' M F [Blk b4 (.cells #[.int .u8 0, .int .i64 0, .string (bs ([] : Str)), .string (bs ([] : Str)), .string (bs ([] : Str)), .int .i64 0, .int .u8 0] 42 (0, 0)), B38 b1 a1 A1_0 c1_0, B72 bo0 a0 A0_0 c0_0 bo0_1 bo0_2 A0_3 c0_3 A0_4 c0_4, Blk bo0_1 (.cells #[.slice A0_1_0 a0.r.tasks.length c0_1_0, .slice A0_1_1 a0.r.l.length c0_1_1] 130 (0, 0)), Row r_event_task 135 (.slice A0_1_0 a0.r.tasks.length c0_1_0) a0.r.tasks, Row r_api_Event 38 (.slice A0_1_1 a0.r.l.length c0_1_1) a0.r.l, B83 bo0_2 a0.m A0_2_8 A0_2_9 A0_2_10 c0_2_10 A0_2_11, MapC enc_model_name (Value.int .i64) A0_2_8 a0.m.names, MapC (Value.int .i64) (Value.int .i64) A0_2_9 a0.m.many, Row r_model_tx 109 (.slice A0_2_10 a0.m.txs.length c0_2_10) a0.m.txs, MapC encS (fun v : Value => v) A0_2_11 vs0_2_11, Row r_replay_Done 53 (.slice A0_3 a0.done.length c0_3) a0.done, Row (rInt .i64) 3 (.slice A0_4 a0.last.length c0_4) a0.last]) 0 (Ls 32 [0, 1, 2, 3, 4, 5, 6, 7, 8, 9, 10, 11, 12, 13, 14, 15, 16, 17, 18, 19, 20, 21, 22, 23, 24, 25, 26, 27, 28, 29, 30, 31]) ?_ ?_
  rotate_left
  · intro hrest
    have H := o61h
    rcases iteS H with ⟨hb59, H⟩ | ⟨hb59, H⟩
    · skip
      have D8 : ∃ Mx, Hp.le M Mx ∧ St _ Mx F [_, _, _, _, _, _, _, _, _, _, _, _, _] := ⟨_, Hp.le_refl _, S.pick [0, 1, 2, 3, 4, 5, 6, 7, 8, 9, 10, 11, 12] (by decide)⟩
      refine Wa_takeN (i := 19) rfl (by kernel_rfl) rfl rfl rfl (skF hb59) D8 (Wa_takeN (i := 20) rfl (by kernel_rfl) rfl rfl rfl (skF hb59) D8 (Wa_takeN (i := 21) rfl (by kernel_rfl) rfl rfl rfl (skF hb59) D8 (Wa_takeN (i := 22) rfl (by kernel_rfl) rfl rfl rfl (skF hb59) D8 (Wa_takeN (i := 23) rfl (by kernel_rfl) rfl rfl rfl (skF hb59) D8 (Wa_takeN (i := 24) rfl (by kernel_rfl) rfl rfl rfl (skF hb59) D8 (Wa_takeN (i := 25) rfl (by kernel_rfl) rfl rfl rfl (skF hb59) D8 (Wa_takeN (i := 26) rfl (by kernel_rfl) rfl rfl rfl (skF hb59) D8 (Wa_takeN (i := 27) rfl (by kernel_rfl) rfl rfl rfl (skF hb59) D8 (Wa_takeN (i := 28) rfl (by kernel_rfl) rfl rfl rfl (skF hb59) D8 (Wa_takeN (i := 29) rfl (by kernel_rfl) rfl rfl rfl (skF hb59) D8 (Wa_takeN (i := 30) rfl (by kernel_rfl) rfl rfl rfl (skF hb59) D8 (Wa_take (i := 31) rfl (by kernel_rfl) rfl rfl (.bool true) rfl (fun w' h' => x_pick (k := true) (congrArg Value.bool hb59) rfl) D8 ?_))))))))))))
      exact hrest _ _ ⟨true, Option.some.inj H, ⟨rfl, rfl, rfl, rfl, trivial⟩, E, S.pick [0, 1, 2, 3, 4, 5, 6, 7, 8, 9, 10, 11, 12] (by decide)⟩
    · skip
      have D9 : ∃ Mx, Hp.le M Mx ∧ St _ Mx F [_, _, _, _, _, _, _, _, _, _, _, _, _] := ⟨_, Hp.le_refl _, S.pick [0, 1, 2, 3, 4, 5, 6, 7, 8, 9, 10, 11, 12] (by decide)⟩
      refine Wa_takeY (i := 19) rfl (by kernel_rfl) rfl rfl (pt b1 2) rfl (congrArg some hb59) (fun w' h' => x_fieldAddr (o := 0) (off := 2) Tryd.underlying38 rfl ty3 rfl rfl) D9 (Wa_takeY (i := 20) rfl (by kernel_rfl) rfl rfl (.int .i64 a1.Call) rfl (congrArg some hb59) (fun w' h' => x_load (cls_blk h' 1 rfl) ty3 rfl rfl) D9 (Wa_takeY (i := 21) rfl (by kernel_rfl) rfl rfl (pt bo0 0) rfl (congrArg some hb59) (fun w' h' => x_move rfl) D9 (Wa_takeY (i := 22) rfl (by kernel_rfl) rfl rfl (pt bo0 0) rfl (congrArg some hb59) (fun w' h' => x_nilptr rfl) D9 (Wa_takeY (i := 23) rfl (by kernel_rfl) rfl rfl (pt bo0 0) rfl (congrArg some hb59) (fun w' h' => x_fieldAddr (o := 0) (off := 0) Tryd.underlying72 rfl ty44 rfl rfl) D9 (Wa_takeY (i := 24) rfl (by kernel_rfl) rfl rfl (.slice A0_0 a0.programs.length c0_0) rfl (congrArg some hb59) (fun w' h' => x_load (cls_blk h' 2 rfl) ty44 rfl rfl) D9 (Wa_takeY (i := 25) rfl (by kernel_rfl) rfl rfl (pt b1 1) rfl (congrArg some hb59) (fun w' h' => x_fieldAddr (o := 0) (off := 1) Tryd.underlying38 rfl ty3 rfl rfl) D9 (Wa_takeY (i := 26) rfl (by kernel_rfl) rfl rfl (.int .i64 a1.Task) rfl (congrArg some hb59) (fun w' h' => x_load (cls_blk h' 1 rfl) ty3 rfl rfl) D9 ?_)))))))
      obtain ⟨⟨p62, p63⟩, H⟩ := chkS H
      obtain ⟨b64, o65, cs66, _, _, ee71, hb67, vs68, hR69, hc70⟩ := SlW.at' hr0_0 p62 p63
      obtain ⟨v75, hs74, rfl⟩ := hR69
      obtain ⟨A72, c73, rfl, _⟩ := hs74.form
      have hs74z := hs74
      refine Wa_takeY (i := 27) rfl (by kernel_rfl) rfl rfl (.pointer (some ⟨b64, o65 + a1.Task.toNat * 1, none⟩)) rfl (congrArg some hb59) (fun w' h' => x_indexAddr Tryd.underlying44 ty43 (slA ee71) rfl p62 p63) D9 (Wa_takeY (i := 28) rfl (by kernel_rfl) rfl rfl (.slice A72 (rd a0.programs a1.Task).length c73) rfl (congrArg some hb59) (fun w' h' => x_load (cls_frz h' hb67) ty43 rfl (hc70 0 _ rfl)) D9 (Wa_takeY (i := 29) rfl (by kernel_rfl) rfl rfl (.int .i64 ((rd a0.programs a1.Task).length : Int)) rfl (congrArg some hb59) (fun w' h' => x_len_slice (n := (rd a0.programs a1.Task).length) Tryd.underlying43 rfl) D9 (Wa_takeY (i := 30) rfl (by kernel_rfl) rfl rfl (.bool (decide (a1.Call ≥ ((rd a0.programs a1.Task).length : Int)))) rfl (congrArg some hb59) (fun w' h' => x_ibin rfl rfl rfl rfl) D9 (Wa_take (i := 31) rfl (by kernel_rfl) rfl rfl (.bool (decide (a1.Call ≥ ((rd a0.programs a1.Task).length : Int)))) rfl (fun w' h' => x_pick (k := false) (congrArg Value.bool hb59) rfl) D9 ?_))))
      exact hrest _ _ ⟨(decide (a1.Call ≥ ((rd a0.programs a1.Task).length : Int))), Option.some.inj H, ⟨rfl, rfl, rfl, rfl, trivial⟩, E, S.pick [0, 1, 2, 3, 4, 5, 6, 7, 8, 9, 10, 11, 12] (by decide)⟩
  rintro ρ w76 ⟨x60, rfl, hρ, E, S⟩
  rw [agree_eta hρ]
  have H := o61H
  refine Wa_done (by kernel_rfl) ?_
  refine tn ?_
  rcases iteS H with ⟨hb77, H⟩ | ⟨hb77, H⟩
  · refine Wp_cond_true (congrArg Value.bool hb77) ?_
    refine Wp_seq (Wp_region_lit (W_v (.agg #[.int .u8 0, .int .i64 0, .string (bs ([] : Str)), .string (bs ([] : Str)), .string (bs ([] : Str)), .int .i64 0, .int .u8 0]) (x_build2 (pl := [(0, 1), (1, 1), (2, 1), (3, 1), (4, 1), (5, 1), (6, 1)]) #[.int .u8 0, .int .i64 0, .string (bs ([] : Str)), .string (bs ([] : Str)), .string (bs ([] : Str)), .int .i64 0, .int .u8 0] Tryd.underlying42 ty42 (by as_aux_lemma => kernel_rfl) rfl (by as_aux_lemma => kernel_rfl)) rfl ?_))
    refine W_store S 0 rfl ty42 rfl rfl [.int .u8 0, .int .i64 0, .string (bs ([] : Str)), .string (bs ([] : Str)), .string (bs ([] : Str)), .int .i64 0, .int .u8 0] rfl rfl rfl #[.int .u8 0, .int .i64 0, .string (bs ([] : Str)), .string (bs ([] : Str)), .string (bs ([] : Str)), .int .i64 0, .int .u8 0] (by as_aux_lemma => kernel_rfl) rfl ?_
    intro w78 E' S
    replace E := E.trans E'
    refine W_v (.bool false) (x_assign rfl) rfl (Wl_nil (tn ?_))
    refine Wp_ret ?_
    refine tr (?_)
    obtain rfl := Option.some.inj H
    exact ⟨_, _, _, fun w1 e1 => run_resR (vs := [.agg #[.int .u8 0, .int .i64 0, .string (bs ([] : Str)), .string (bs ([] : Str)), .string (bs ([] : Str)), .int .i64 0, .int .u8 0], .bool false]) (FA.cons (⟨_, rfl, run_loadVar_agg ty42 ((S.of_eq e1).blk 0 rfl) (sub_of_extract rfl) rfl (by decide)⟩) (FA.cons (rfl) (FA.nil))), HM, E, S.pick [2, 3, 4, 5, 6, 7, 8, 9, 10, 11, 12] (by decide), ⟨rfl, rfl⟩⟩
  refine Wp_cond_false (congrArg Value.bool hb77) (Wp_skip (tn ?_))
  as_aux_lemma =>
  refine Wp_seq ?_
  refine Wp_region_any (S := fun w' => ∃ Mx, M.le Mx ∧ St w' Mx F [Blk b4 (.cells #[.int .u8 0, .int .i64 0, .string (bs ([] : Str)), .string (bs ([] : Str)), .string (bs ([] : Str)), .int .i64 0, .int .u8 0] 42 (0, 0)), B38 b1 a1 A1_0 c1_0, B72 bo0 a0 A0_0 c0_0 bo0_1 bo0_2 A0_3 c0_3 A0_4 c0_4, Blk bo0_1 (.cells #[.slice A0_1_0 a0.r.tasks.length c0_1_0, .slice A0_1_1 a0.r.l.length c0_1_1] 130 (0, 0)), Row r_event_task 135 (.slice A0_1_0 a0.r.tasks.length c0_1_0) a0.r.tasks, Row r_api_Event 38 (.slice A0_1_1 a0.r.l.length c0_1_1) a0.r.l, B83 bo0_2 a0.m A0_2_8 A0_2_9 A0_2_10 c0_2_10 A0_2_11, MapC enc_model_name (Value.int .i64) A0_2_8 a0.m.names, MapC (Value.int .i64) (Value.int .i64) A0_2_9 a0.m.many, Row r_model_tx 109 (.slice A0_2_10 a0.m.txs.length c0_2_10) a0.m.txs, MapC encS (fun v : Value => v) A0_2_11 vs0_2_11, Row r_replay_Done 53 (.slice A0_3 a0.done.length c0_3) a0.done, Row (rInt .i64) 3 (.slice A0_4 a0.last.length c0_4) a0.last]) (L := 12) mixed ?_
  intro w104 hw105 E'
  replace S := S.heap hw105
  replace E := E.trans E'
  have D10 : ∃ Mx, Hp.le M Mx ∧ St _ Mx F [_, _, _, _, _, _, _, _, _, _, _, _, _] := ⟨_, Hp.le_refl _, S.pick [0, 1, 2, 3, 4, 5, 6, 7, 8, 9, 10, 11, 12] (by decide)⟩
  refine Wa_take (i := 0) rfl (by kernel_rfl) rfl rfl (pt bo0 0) rfl (fun w' h' => x_move rfl) D10 (Wa_take (i := 1) rfl (by kernel_rfl) rfl rfl (pt bo0 0) rfl (fun w' h' => x_nilptr rfl) D10 (Wa_take (i := 2) rfl (by kernel_rfl) rfl rfl (pt bo0 0) rfl (fun w' h' => x_fieldAddr (o := 0) (off := 0) Tryd.underlying72 rfl ty44 rfl rfl) D10 (Wa_take (i := 3) rfl (by kernel_rfl) rfl rfl (.slice A0_0 a0.programs.length c0_0) rfl (fun w' h' => x_load (cls_blk h' 2 rfl) ty44 rfl rfl) D10 (Wa_take (i := 4) rfl (by kernel_rfl) rfl rfl (pt b1 1) rfl (fun w' h' => x_fieldAddr (o := 0) (off := 1) Tryd.underlying38 rfl ty3 rfl rfl) D10 (Wa_take (i := 5) rfl (by kernel_rfl) rfl rfl (.int .i64 a1.Task) rfl (fun w' h' => x_load (cls_blk h' 1 rfl) ty3 rfl rfl) D10 ?_)))))
  obtain ⟨⟨p106, p107⟩, H⟩ := chkS H
  obtain ⟨b108, o109, cs110, _, _, ee115, hb111, vs112, hR113, hc114⟩ := SlW.at' hr0_0 p106 p107
  obtain ⟨v119, hs118, rfl⟩ := hR113
  obtain ⟨A116, c117, rfl, _⟩ := hs118.form
  have hs118z := hs118
  refine Wa_take (i := 6) rfl (by kernel_rfl) rfl rfl (.pointer (some ⟨b108, o109 + a1.Task.toNat * 1, none⟩)) rfl (fun w' h' => x_indexAddr Tryd.underlying44 ty43 (slA ee115) rfl p106 p107) D10 (Wa_take (i := 7) rfl (by kernel_rfl) rfl rfl (.slice A116 (rd a0.programs a1.Task).length c117) rfl (fun w' h' => x_load (cls_frz h' hb111) ty43 rfl (hc114 0 _ rfl)) D10 (Wa_take (i := 8) rfl (by kernel_rfl) rfl rfl (pt b1 2) rfl (fun w' h' => x_fieldAddr (o := 0) (off := 2) Tryd.underlying38 rfl ty3 rfl rfl) D10 (Wa_take (i := 9) rfl (by kernel_rfl) rfl rfl (.int .i64 a1.Call) rfl (fun w' h' => x_load (cls_blk h' 1 rfl) ty3 rfl rfl) D10 ?_)))
  obtain ⟨⟨p120, p121⟩, H⟩ := chkS H
  obtain ⟨b122, o123, cs124, _, _, ee129, hb125, vs126, hR127, hc128⟩ := SlW.at' hs118z p120 p121
  obtain rfl : vs126 = _ := hR127
  refine Wa_take (i := 10) rfl (by kernel_rfl) rfl rfl (.pointer (some ⟨b122, o123 + a1.Call.toNat * 7, none⟩)) rfl (fun w' h' => x_indexAddr Tryd.underlying43 ty42 (slA ee129) rfl p120 p121) D10 (Wa_take (i := 11) rfl (by kernel_rfl) rfl rfl (.agg #[.int .u8 ((rd (rd a0.programs a1.Task) a1.Call).Kind), .int .i64 ((rd (rd a0.programs a1.Task) a1.Call).Tx), .string (bs ((rd (rd a0.programs a1.Task) a1.Call).Key)), .string (bs ((rd (rd a0.programs a1.Task) a1.Call).End)), .string (bs ((rd (rd a0.programs a1.Task) a1.Call).Value)), .int .i64 ((rd (rd a0.programs a1.Task) a1.Call).Limit), .int .u8 ((rd (rd a0.programs a1.Task) a1.Call).Engine)]) rfl (fun w' h' => x_loadA (cls_frz h' hb125) ty42 rfl (sub_el hc128 0 rfl) rfl rfl) D10 ?_)
  refine Wa_solo (i := 12) rfl (by kernel_rfl) ?_
  refine W_store S 0 rfl ty42 rfl rfl [.int .u8 ((rd (rd a0.programs a1.Task) a1.Call).Kind), .int .i64 ((rd (rd a0.programs a1.Task) a1.Call).Tx), .string (bs ((rd (rd a0.programs a1.Task) a1.Call).Key)), .string (bs ((rd (rd a0.programs a1.Task) a1.Call).End)), .string (bs ((rd (rd a0.programs a1.Task) a1.Call).Value)), .int .i64 ((rd (rd a0.programs a1.Task) a1.Call).Limit), .int .u8 ((rd (rd a0.programs a1.Task) a1.Call).Engine)] rfl rfl rfl #[.int .u8 ((rd (rd a0.programs a1.Task) a1.Call).Kind), .int .i64 ((rd (rd a0.programs a1.Task) a1.Call).Tx), .string (bs ((rd (rd a0.programs a1.Task) a1.Call).Key)), .string (bs ((rd (rd a0.programs a1.Task) a1.Call).End)), .string (bs ((rd (rd a0.programs a1.Task) a1.Call).Value)), .int .i64 ((rd (rd a0.programs a1.Task) a1.Call).Limit), .int .u8 ((rd (rd a0.programs a1.Task) a1.Call).Engine)] (by as_aux_lemma => kernel_rfl) rfl ?_
  intro w130 E' S
  replace E := E.trans E'
  refine Wl_nil (on_n ⟨.inl (by decide), ?_⟩)
  refine Wa_solo (i := 13) rfl (by kernel_rfl) ?_
  refine W_v (.bool true) (x_assign rfl) rfl ?_
  refine Wl_nil (on_n ⟨.inl (by decide), ?_⟩)
  refine Wa_done (by kernel_rfl) ?_
  refine tn ?_
  refine Wp_ret ?_
  obtain rfl := Option.some.inj H
  exact ⟨_, _, _, fun w1 e1 => run_resR (vs := [.agg #[.int .u8 ((rd (rd a0.programs a1.Task) a1.Call).Kind), .int .i64 ((rd (rd a0.programs a1.Task) a1.Call).Tx), .string (bs ((rd (rd a0.programs a1.Task) a1.Call).Key)), .string (bs ((rd (rd a0.programs a1.Task) a1.Call).End)), .string (bs ((rd (rd a0.programs a1.Task) a1.Call).Value)), .int .i64 ((rd (rd a0.programs a1.Task) a1.Call).Limit), .int .u8 ((rd (rd a0.programs a1.Task) a1.Call).Engine)], .bool true]) (FA.cons (⟨_, rfl, run_loadVar_agg ty42 ((S.of_eq e1).blk 0 rfl) (sub_of_extract rfl) rfl (by decide)⟩) (FA.cons (rfl) (FA.nil))), HM, E, S.pick [2, 3, 4, 5, 6, 7, 8, 9, 10, 11, 12] (by decide), ⟨rfl, rfl⟩⟩
def event_Recorder_Under_POO (k : Nat) (a0 : event_Recorder) (a1 : Int) : Option (Int × Bool × Bool) :=
  (Option.bind (α := Bool) (if ((decide (a1 < (0 : Int))) || (decide (a1 ≥ (a0.tasks.length : Int)))) = true then some (true) else (if 0 ≤ a1 ∧ a1 < (a0.tasks.length : Int) then some (((rd a0.tasks a1).at_ == (0 : Int))) else none)) (fun x23 => (if x23 = true then some ((0 : Int), false, false) else (if 0 ≤ a1 ∧ a1 < (a0.tasks.length : Int) then some ((rd a0.tasks a1).calls, ((rd a0.tasks a1).at_ == (2 : Int)), true) else none))))
set_option maxHeartbeats 2000000 in
theorem event_Recorder_Under_POO.mono {k : Nat} {a0 : event_Recorder} {a1 : Int} : OLe (event_Recorder_Under_POO k a0 a1) (event_Recorder_Under_POO (k + 1) a0 a1) := by
  unfold event_Recorder_Under_POO
  repeat' (first | with_reducible exact OLe.none | with_reducible exact OLe.some | with_reducible refine OLe.ite ?_ ?_ | with_reducible refine OLe.bind ?_ (fun _ => ?_) | refine OLe.bind ?_ (fun _ => ?_) | refine OLe.ite ?_ ?_ | refine OLe.elim (fun _ => ?_) (fun _ => ?_) | split)
set_option maxHeartbeats 4000000 in
set_option maxRecDepth 100000 in
theorem event_Recorder_Under_POO.con (k : Nat) (M : Hp) (A0_0 : Option Addr) (c0_0 : Nat) (A0_1 : Option Addr) (c0_1 : Nat) (a0 : event_Recorder) (a1 : Int) (bo0 : Nat) (r : Int × Bool × Bool)  (h : event_Recorder_Under_POO k a0 a1 = some r) : Con Tryd.prog 43 #[pt bo0 0, .int .i64 a1] M [Blk bo0 (.cells #[.slice A0_0 a0.tasks.length c0_0, .slice A0_1 a0.l.length c0_1] 130 (0, 0)), Row r_event_task 135 (.slice A0_0 a0.tasks.length c0_0) a0.tasks, Row r_api_Event 38 (.slice A0_1 a0.l.length c0_1) a0.l] (fun v M' Γ' => v = .tuple #[.int .i64 r.1, .bool r.2.1, .bool r.2.2] ∧ Γ' = [Blk bo0 (.cells #[.slice A0_0 a0.tasks.length c0_0, .slice A0_1 a0.l.length c0_1] 130 (0, 0)), Row r_event_task 135 (.slice A0_0 a0.tasks.length c0_0) a0.tasks, Row r_api_Event 38 (.slice A0_1 a0.l.length c0_1) a0.l]) := by
  refine con_of_wp Tryd.func43 rfl Tryd.ntmps43 Tryd.results43 rfl ?_
  intro w F rn S hrn
  have E := Ext.refl w
  have HM := Hp.le_refl M
  have H := h
  unfold event_Recorder_Under_POO at H
  refine Wp_seq (Wp_region_lit (W_v (.int .i64 0) (x_assign rfl) rfl (W_v (.bool false) (x_assign rfl) rfl (W_v (.bool false) (x_assign rfl) rfl (Wl_nil (tn (Wp_seq (Wp_seq (Wp_region_lit (W_v (pt bo0 0) (x_move rfl) rfl (W_v (.bool false) (x_eq_of (r := false) rfl rfl (run_eq_ptrsn Tryd.underlying70)) rfl (W_v (.bool false) (x_move rfl) rfl (W_yes (rfl) (W_v (.int .i64 a1) (x_move rfl) rfl (W_yes (rfl) ?_)))))))))))))))
  refine W_v (.bool (decide (a1 < (0 : Int)))) (x_ibin rfl rfl rfl rfl) rfl (W_v (.bool (decide (a1 < (0 : Int)))) (x_pick (k := false) rfl rfl) rfl (W_v (.bool (decide (a1 < (0 : Int)))) (x_move rfl) rfl ?_))
  refine Wl_cutN 8 (fun ρ w' => Agree ρ [(0, pt bo0 0), (1, .int .i64 a1), (22, .bool ((decide (a1 < (0 : Int))) || (decide (a1 ≥ (a0.tasks.length : Int)))))] ∧ w = w') ?_ ?_
  · rcases boolCases (decide (a1 < (0 : Int))) with hb1 | hb1
    · skip
      refine W_yes (congrArg some hb1) (W_v (.int .i64 a1) (x_move rfl) rfl (W_yes (congrArg some hb1) (W_v (pt bo0 0) (x_move rfl) rfl (W_yes (congrArg some hb1) (W_v (pt bo0 0) (x_nilptr rfl) rfl (W_yes (congrArg some hb1) (W_v (pt bo0 0) (x_fieldAddr (o := 0) (off := 0) Tryd.underlying130 rfl ty128 rfl rfl) rfl (W_yes (congrArg some hb1) (W_v (.slice A0_0 a0.tasks.length c0_0) (x_load (S.blk 0 rfl) ty128 rfl rfl) rfl (W_yes (congrArg some hb1) (W_v (.int .i64 (a0.tasks.length : Int)) (x_len_slice (n := a0.tasks.length) Tryd.underlying128 rfl) rfl (W_yes (congrArg some hb1) (W_v (.bool (decide (a1 ≥ (a0.tasks.length : Int)))) (x_ibin rfl rfl rfl rfl) rfl (W_v (.bool (decide (a1 ≥ (a0.tasks.length : Int)))) (x_pick (k := false) (congrArg Value.bool hb1) rfl) rfl (Wl_nil ?_)))))))))))))))
      exact ⟨⟨rfl, rfl, (by first | rfl | (rw [hb1]; rfl) | (simp only [hb1]; rfl)), trivial⟩, rfl⟩
    · skip
      refine W_no (skF hb1) rfl (W_no (skF hb1) rfl (W_no (skF hb1) rfl (W_no (skF hb1) rfl (W_no (skF hb1) rfl (W_no (skF hb1) rfl (W_no (skF hb1) rfl (W_v (.bool true) (x_pick (k := true) (congrArg Value.bool hb1) rfl) rfl (Wl_nil ?_))))))))
      exact ⟨⟨rfl, rfl, (by first | rfl | (rw [hb1]; rfl) | (simp only [hb1]; rfl)), trivial⟩, rfl⟩
  as_aux_lemma =>
  rintro ρ _ ⟨hρ, rfl⟩
  rw [agree_eta hρ]
  refine W_v (.bool ((decide (a1 < (0 : Int))) || (decide (a1 ≥ (a0.tasks.length : Int))))) (x_move rfl) rfl ?_
  obtain ⟨o24, o24h, o24H⟩ := bindS H
  refine Wl_cutN 10 (fun ρ w' => ∃ (x23 : Bool), (x23) = o24 ∧ Agree ρ [(0, pt bo0 0), (1, .int .i64 a1), (33, .bool x23)] ∧ Ext w w' ∧ St w' M F [Blk bo0 (.cells #[.slice A0_0 a0.tasks.length c0_0, .slice A0_1 a0.l.length c0_1] 130 (0, 0)), Row r_event_task 135 (.slice A0_0 a0.tasks.length c0_0) a0.tasks, Row r_api_Event 38 (.slice A0_1 a0.l.length c0_1) a0.l]) ?_ ?_
  · as_aux_lemma =>
      have H := o24h
      rcases iteS H with ⟨hb22, H⟩ | ⟨hb22, H⟩
      · skip
        refine W_no (skF hb22) rfl (W_no (skF hb22) rfl (W_no (skF hb22) rfl (W_no (skF hb22) rfl (W_no (skF hb22) rfl (W_no (skF hb22) rfl (W_no (skF hb22) rfl (W_no (skF hb22) rfl (W_no (skF hb22) rfl (W_v (.bool true) (x_pick (k := true) (congrArg Value.bool hb22) rfl) rfl (Wl_nil ?_))))))))))
        exact ⟨true, Option.some.inj H, ⟨rfl, rfl, rfl, trivial⟩, E, S.pick [0, 1, 2] (by decide)⟩
      · skip
        refine W_yes (congrArg some hb22) (W_v (pt bo0 0) (x_move rfl) rfl (W_yes (congrArg some hb22) (W_v (pt bo0 0) (x_nilptr rfl) rfl (W_yes (congrArg some hb22) (W_v (pt bo0 0) (x_fieldAddr (o := 0) (off := 0) Tryd.underlying130 rfl ty128 rfl rfl) rfl (W_yes (congrArg some hb22) (W_v (.slice A0_0 a0.tasks.length c0_0) (x_load (S.blk 0 rfl) ty128 rfl rfl) rfl (W_yes (congrArg some hb22) (W_v (.int .i64 a1) (x_move rfl) rfl (W_yes (congrArg some hb22) ?_))))))))))
        obtain ⟨⟨p25, p26⟩, H⟩ := chkS H
        obtain ⟨b27, o28, cs29, _, _, ee34, hb30, vs31, hR32, hc33⟩ := SlW.at' (S.row_read 1 rfl) p25 p26
        obtain rfl : vs31 = _ := hR32
        refine W_v (.pointer (some ⟨b27, o28 + a1.toNat * 2, none⟩)) (x_indexAddr Tryd.underlying128 ty135 (slA ee34) rfl p25 p26) rfl (W_yes (congrArg some hb22) (W_v (.pointer (some ⟨b27, o28 + a1.toNat * 2, none⟩)) (x_fieldAddr (o := o28 + a1.toNat * 2) (off := 0) Tryd.underlying135 rfl ty3 rfl rfl) rfl (W_yes (congrArg some hb22) (W_v (.int .i64 ((rd a0.tasks a1).at_)) (x_load (Hp.of_get hb30) ty3 rfl (hc33 0 _ rfl)) rfl (W_yes (congrArg some hb22) (W_v (.bool ((rd a0.tasks a1).at_ == (0 : Int))) (x_ibin rfl rfl rfl rfl) rfl (W_v (.bool ((rd a0.tasks a1).at_ == (0 : Int))) (x_pick (k := false) (congrArg Value.bool hb22) rfl) rfl (Wl_nil ?_))))))))
        exact ⟨((rd a0.tasks a1).at_ == (0 : Int)), Option.some.inj H, ⟨rfl, rfl, rfl, trivial⟩, E, S.pick [0, 1, 2] (by decide)⟩
  as_aux_lemma =>
  rintro ρ w35 ⟨x23, rfl, hρ, E, S⟩
  rw [agree_eta hρ]
  have H := o24H
  refine Wl_nil (tn ?_)
  rcases iteS H with ⟨hb36, H⟩ | ⟨hb36, H⟩
  · refine Wp_cond_true (congrArg Value.bool hb36) ?_
    refine Wp_seq (Wp_region_lit (W_v (.int .i64 0) (x_assign rfl) rfl (W_v (.bool false) (x_assign rfl) rfl (W_v (.bool false) (x_assign rfl) rfl (Wl_nil (tn ?_))))))
    refine Wp_ret ?_
    refine tr (?_)
    obtain rfl := Option.some.inj H
    exact ⟨_, _, _, fun w1 e1 => run_resR (vs := [.int .i64 0, .bool false, .bool false]) (FA.cons (rfl) (FA.cons (rfl) (FA.cons (rfl) (FA.nil)))), HM, E, S.pick [0, 1, 2] (by decide), ⟨rfl, rfl⟩⟩
  refine Wp_cond_false (congrArg Value.bool hb36) (Wp_skip (tn (Wp_seq (Wp_region_lit (W_v (pt bo0 0) (x_move rfl) rfl (W_v (pt bo0 0) (x_nilptr rfl) rfl (W_v (pt bo0 0) (x_fieldAddr (o := 0) (off := 0) Tryd.underlying130 rfl ty128 rfl rfl) rfl (W_v (.slice A0_0 a0.tasks.length c0_0) (x_load (S.blk 0 rfl) ty128 rfl rfl) rfl (W_v (.int .i64 a1) (x_move rfl) rfl ?_)))))))))
  obtain ⟨⟨p37, p38⟩, H⟩ := chkS H
  obtain ⟨b39, o40, cs41, _, _, ee46, hb42, vs43, hR44, hc45⟩ := SlW.at' (S.row_read 1 rfl) p37 p38
  obtain rfl : vs43 = _ := hR44
  refine W_v (.pointer (some ⟨b39, o40 + a1.toNat * 2, none⟩)) (x_indexAddr Tryd.underlying128 ty135 (slA ee46) rfl p37 p38) rfl (W_v (.agg #[.int .i64 ((rd a0.tasks a1).at_), .int .i64 ((rd a0.tasks a1).calls)]) (x_loadA (Hp.of_get hb42) ty135 rfl (sub_el hc45 0 rfl) rfl rfl) rfl ?_)
  refine W_alloc S #[.int .i64 0, .int .i64 0] ty135 rfl rfl ?_
  intro b47 w48 E' S
  replace E := E.trans E'
  refine W_store S 0 rfl ty135 rfl rfl [.int .i64 ((rd a0.tasks a1).at_), .int .i64 ((rd a0.tasks a1).calls)] rfl rfl rfl #[.int .i64 ((rd a0.tasks a1).at_), .int .i64 ((rd a0.tasks a1).calls)] rfl rfl ?_
  intro w50 E' S
  replace E := E.trans E'
  refine Wl_nil (tn (Wp_seq ?_))
  refine Wp_region_any (S := fun w' => ∃ Mx, M.le Mx ∧ St w' Mx F [Blk b47 (.cells #[.int .i64 ((rd a0.tasks a1).at_), .int .i64 ((rd a0.tasks a1).calls)] 135 (0, 0)), Blk bo0 (.cells #[.slice A0_0 a0.tasks.length c0_0, .slice A0_1 a0.l.length c0_1] 130 (0, 0)), Row r_event_task 135 (.slice A0_0 a0.tasks.length c0_0) a0.tasks, Row r_api_Event 38 (.slice A0_1 a0.l.length c0_1) a0.l]) (L := 8) mixed ?_
  intro w51 hw52 E'
  replace S := S.heap hw52
  replace E := E.trans E'
  have D1 : ∃ Mx, Hp.le M Mx ∧ St _ Mx F [_, _, _, _] := ⟨_, Hp.le_refl _, S.pick [0, 1, 2, 3] (by decide)⟩
  refine Wa_take (i := 0) rfl (by kernel_rfl) rfl rfl (pt b47 1) rfl (fun w' h' => x_fieldAddr (o := 0) (off := 1) Tryd.underlying135 rfl ty3 rfl rfl) D1 (Wa_take (i := 1) rfl (by kernel_rfl) rfl rfl (.int .i64 ((rd a0.tasks a1).calls)) rfl (fun w' h' => x_load (cls_blk h' 0 rfl) ty3 rfl rfl) D1 (Wa_take (i := 2) rfl (by kernel_rfl) rfl rfl (pt b47 0) rfl (fun w' h' => x_fieldAddr (o := 0) (off := 0) Tryd.underlying135 rfl ty3 rfl rfl) D1 (Wa_take (i := 3) rfl (by kernel_rfl) rfl rfl (.int .i64 ((rd a0.tasks a1).at_)) rfl (fun w' h' => x_load (cls_blk h' 0 rfl) ty3 rfl rfl) D1 (Wa_take (i := 4) rfl (by kernel_rfl) rfl rfl (.bool ((rd a0.tasks a1).at_ == (2 : Int))) rfl (fun w' h' => x_ibin rfl rfl rfl rfl) D1 (Wa_take (i := 5) rfl (by kernel_rfl) rfl rfl (.int .i64 ((rd a0.tasks a1).calls)) rfl (fun w' h' => x_assign rfl) D1 (Wa_take (i := 6) rfl (by kernel_rfl) rfl rfl (.bool ((rd a0.tasks a1).at_ == (2 : Int))) rfl (fun w' h' => x_assign rfl) D1 (Wa_take (i := 7) rfl (by kernel_rfl) rfl rfl (.bool true) rfl (fun w' h' => x_assign rfl) D1 ?_)))))))
  refine Wa_done (by kernel_rfl) ?_
  refine tn ?_
  refine Wp_ret ?_
  obtain rfl := Option.some.inj H
  exact ⟨_, _, _, fun w1 e1 => run_resR (vs := [.int .i64 ((rd a0.tasks a1).calls), .bool ((rd a0.tasks a1).at_ == (2 : Int)), .bool true]) (FA.cons (rfl) (FA.cons (rfl) (FA.cons (rfl) (FA.nil)))), HM, E, S.pick [1, 2, 3] (by decide), ⟨rfl, rfl⟩⟩
def event_Recorder_put_POO (k : Nat) (a0 : event_Recorder) (a1 : Int) (a2 : Int) (a3 : api_Event) : Option (Int × event_Recorder) :=
  (if ((decide (a1 < (0 : Int))) || (decide (a1 ≥ (a0.tasks.length : Int)))) = true then some ((1 : Int), a0) else (if 0 ≤ a1 ∧ a1 < (a0.tasks.length : Int) then (if ((rd a0.tasks a1).at_ != a2) = true then some ((7 : Int), a0) else (if 0 ≤ a1 ∧ a1 < (a0.tasks.length : Int) then (Option.bind (event_own k (⟨a3.What, a1, (rd a0.tasks a1).calls, ⟨a3.Answer.Err, a3.Answer.Found, a3.Answer.Value, a3.Answer.Pairs⟩⟩ : api_Event)) (fun t57 => (if a0.l.length + ([t57] : List api_Event).length ≤ 1759218604441 then (Option.bind (α := List event_task) (some (List.set a0.tasks a1.toNat (⟨(IntKind.i64.wrap ((rd a0.tasks a1).at_ + (1 : Int))), (rd a0.tasks a1).calls⟩ : event_task))) (fun x79 => (Option.bind (α := List event_task) (if (decide ((rd x79 a1).at_ > (2 : Int))) = true then (Option.bind (α := List event_task) (some (List.set x79 a1.toNat (⟨(0 : Int), (rd x79 a1).calls⟩ : event_task))) (fun x117 => (Option.bind (α := List event_task) (some (List.set x117 a1.toNat (⟨(rd x117 a1).at_, (IntKind.i64.wrap ((rd x117 a1).calls + (1 : Int)))⟩ : event_task))) (fun x123 => some (x123))))) else some (x79)) (fun x110 => some ((0 : Int), (⟨x110, (a0.l ++ ([t57] : List api_Event))⟩ : event_Recorder)))))) else none))) else none)) else none))
set_option maxHeartbeats 2000000 in
theorem event_Recorder_put_POO.mono {k : Nat} {a0 : event_Recorder} {a1 : Int} {a2 : Int} {a3 : api_Event} : OLe (event_Recorder_put_POO k a0 a1 a2 a3) (event_Recorder_put_POO (k + 1) a0 a1 a2 a3) := by
  unfold event_Recorder_put_POO
  repeat' (first | with_reducible exact OLe.none | with_reducible exact OLe.some | with_reducible refine OLe.ite ?_ ?_ | with_reducible refine OLe.bind ?_ (fun _ => ?_) | with_reducible exact event_own.mono | refine OLe.bind ?_ (fun _ => ?_) | refine OLe.ite ?_ ?_ | refine OLe.elim (fun _ => ?_) (fun _ => ?_) | split)
set_option maxHeartbeats 4000000 in
set_option maxRecDepth 100000 in
theorem event_Recorder_put_POO.con (k : Nat) (M : Hp) (A0_0 : Option Addr) (c0_0 : Nat) (A0_1 : Option Addr) (c0_1 : Nat) (a0 : event_Recorder) (a1 : Int) (a2 : Int) (A3_0 : Option Addr) (c3_0 : Nat) (a3 : api_Event) (bo0 : Nat) (r : Int × event_Recorder) (hr3_0 : SlR r_api_Pair M (.slice A3_0 a3.Answer.Pairs.length c3_0) a3.Answer.Pairs) (h : event_Recorder_put_POO k a0 a1 a2 a3 = some r) : Con Tryd.prog 120 #[pt bo0 0, .int .i64 a1, .int .i64 a2, .agg #[.int .u8 a3.What, .int .i64 a3.Task, .int .i64 a3.Call, .int .i64 a3.Answer.Err, .bool a3.Answer.Found, .string (bs a3.Answer.Value), .slice A3_0 a3.Answer.Pairs.length c3_0]] M [Blk bo0 (.cells #[.slice A0_0 a0.tasks.length c0_0, .slice A0_1 a0.l.length c0_1] 130 (0, 0)), Row r_event_task 135 (.slice A0_0 a0.tasks.length c0_0) a0.tasks, Row r_api_Event 38 (.slice A0_1 a0.l.length c0_1) a0.l] (fun v M' Γ' => ∃ (Aq1 : Option Addr) (cq2 : Nat) (Aq4 : Option Addr) (cq5 : Nat), v = .int .i64 r.1 ∧ Γ' = [Blk bo0 (.cells #[.slice Aq1 r.2.tasks.length cq2, .slice Aq4 r.2.l.length cq5] 130 (0, 0)), Row r_event_task 135 (.slice Aq1 r.2.tasks.length cq2) r.2.tasks, Row r_api_Event 38 (.slice Aq4 r.2.l.length cq5) r.2.l]) := by
  refine con_of_wp Tryd.func120 rfl Tryd.ntmps120 Tryd.results120 rfl ?_
  intro w F rn S hrn
  have E := Ext.refl w
  have HM := Hp.le_refl M
  have H := h
  unfold event_Recorder_put_POO at H
  refine Wp_seq (Wp_region_lit ?_)
  refine W_box S #[.int .u8 a3.What, .int .i64 a3.Task, .int .i64 a3.Call, .int .i64 a3.Answer.Err, .bool a3.Answer.Found, .string (bs a3.Answer.Value), .slice A3_0 a3.Answer.Pairs.length c3_0] rfl rfl rfl ?_
  intro b1 w2 E' S
  replace E := E.trans E'
  refine W_v (.int .i64 0) (x_assign rfl) rfl (Wl_nil (tn (Wp_seq ?_)))
  refine Wp_block ?_
  refine Wp_seq (Wp_region_lit (W_v (pt bo0 0) (x_move rfl) rfl (W_v (.bool false) (x_eq_of (r := false) rfl rfl (run_eq_ptrsn Tryd.underlying70)) rfl (W_v (.bool false) (x_assign rfl) rfl (Wl_nil (tn (Wp_cond_false rfl (Wp_seq (Wp_region_lit (W_v (.int .i64 a1) (x_move rfl) rfl (W_v (.bool (decide (a1 < (0 : Int)))) (x_ibin rfl rfl rfl rfl) rfl (W_v (.bool (decide (a1 < (0 : Int)))) (x_move rfl) rfl ?_))))))))))))
  refine Wl_cutN 8 (fun ρ w' => Agree ρ [(0, pt bo0 0), (1, .int .i64 a1), (2, .int .i64 a2), (7, pt b1 0), (24, .bool ((decide (a1 < (0 : Int))) || (decide (a1 ≥ (a0.tasks.length : Int)))))] ∧ w2 = w') ?_ ?_
  · rcases boolCases (decide (a1 < (0 : Int))) with hb4 | hb4
    · skip
      refine W_yes (congrArg some hb4) (W_v (.int .i64 a1) (x_move rfl) rfl (W_yes (congrArg some hb4) (W_v (pt bo0 0) (x_move rfl) rfl (W_yes (congrArg some hb4) (W_v (pt bo0 0) (x_nilptr rfl) rfl (W_yes (congrArg some hb4) (W_v (pt bo0 0) (x_fieldAddr (o := 0) (off := 0) Tryd.underlying130 rfl ty128 rfl rfl) rfl (W_yes (congrArg some hb4) (W_v (.slice A0_0 a0.tasks.length c0_0) (x_load (S.blk 1 rfl) ty128 rfl rfl) rfl (W_yes (congrArg some hb4) (W_v (.int .i64 (a0.tasks.length : Int)) (x_len_slice (n := a0.tasks.length) Tryd.underlying128 rfl) rfl (W_yes (congrArg some hb4) (W_v (.bool (decide (a1 ≥ (a0.tasks.length : Int)))) (x_ibin rfl rfl rfl rfl) rfl (W_v (.bool (decide (a1 ≥ (a0.tasks.length : Int)))) (x_pick (k := false) (congrArg Value.bool hb4) rfl) rfl (Wl_nil ?_)))))))))))))))
      exact ⟨⟨rfl, rfl, rfl, rfl, (by first | rfl | (rw [hb4]; rfl) | (simp only [hb4]; rfl)), trivial⟩, rfl⟩
    · skip
      refine W_no (skF hb4) rfl (W_no (skF hb4) rfl (W_no (skF hb4) rfl (W_no (skF hb4) rfl (W_no (skF hb4) rfl (W_no (skF hb4) rfl (W_no (skF hb4) rfl (W_v (.bool true) (x_pick (k := true) (congrArg Value.bool hb4) rfl) rfl (Wl_nil ?_))))))))
      exact ⟨⟨rfl, rfl, rfl, rfl, (by first | rfl | (rw [hb4]; rfl) | (simp only [hb4]; rfl)), trivial⟩, rfl⟩
  as_aux_lemma =>
  rintro ρ _ ⟨hρ, rfl⟩
  rw [agree_eta hρ]
  refine W_v (.bool ((decide (a1 < (0 : Int))) || (decide (a1 ≥ (a0.tasks.length : Int))))) (x_assign rfl) rfl (Wl_nil (tn ?_))
  rcases iteS H with ⟨hb5, H⟩ | ⟨hb5, H⟩
  · refine Wp_cond_true (congrArg Value.bool hb5) ?_
    refine Wp_seq (Wp_region_lit (W_v (.int .i64 1) (x_assign rfl) rfl (Wl_nil (tn ?_))))
    refine Wp_ret ?_
    refine br (tr (?_))
    obtain rfl := Option.some.inj H
    exact ⟨_, _, _, fun w1 e1 => run_resR (vs := [.int .i64 1]) (FA.cons (rfl) (FA.nil)), HM, E, S.pick [1, 2, 3] (by decide), ⟨A0_0, c0_0, A0_1, c0_1, rfl, rfl⟩⟩
  refine Wp_cond_false (congrArg Value.bool hb5) (Wp_seq (Wp_region_lit (W_v (pt bo0 0) (x_move rfl) rfl (W_v (pt bo0 0) (x_nilptr rfl) rfl (W_v (pt bo0 0) (x_fieldAddr (o := 0) (off := 0) Tryd.underlying130 rfl ty128 rfl rfl) rfl (W_v (.slice A0_0 a0.tasks.length c0_0) (x_load (S.blk 1 rfl) ty128 rfl rfl) rfl (W_v (.int .i64 a1) (x_move rfl) rfl ?_)))))))
  obtain ⟨⟨p6, p7⟩, H⟩ := chkS H
  obtain ⟨b8, o9, cs10, _, _, ee15, hb11, vs12, hR13, hc14⟩ := SlW.at' (S.row_read 2 rfl) p6 p7
  obtain rfl : vs12 = _ := hR13
  refine W_v (.pointer (some ⟨b8, o9 + a1.toNat * 2, none⟩)) (x_indexAddr Tryd.underlying128 ty135 (slA ee15) rfl p6 p7) rfl (W_v (.pointer (some ⟨b8, o9 + a1.toNat * 2, none⟩)) (x_fieldAddr (o := o9 + a1.toNat * 2) (off := 0) Tryd.underlying135 rfl ty3 rfl rfl) rfl (W_v (.int .i64 ((rd a0.tasks a1).at_)) (x_load (Hp.of_get hb11) ty3 rfl (hc14 0 _ rfl)) rfl (W_v (.int .i64 a2) (x_move rfl) rfl (W_v (.bool ((rd a0.tasks a1).at_ != a2)) (x_ibin rfl rfl rfl rfl) rfl (W_v (.bool ((rd a0.tasks a1).at_ != a2)) (x_assign rfl) rfl (Wl_nil (tn ?_)))))))
  rcases iteS H with ⟨hb16, H⟩ | ⟨hb16, H⟩
  · refine Wp_cond_true (congrArg Value.bool hb16) ?_
    refine Wp_seq (Wp_region_lit (W_v (.int .i64 7) (x_assign rfl) rfl (Wl_nil (tn ?_))))
    refine Wp_ret ?_
    refine br (tr (?_))
    obtain rfl := Option.some.inj H
    exact ⟨_, _, _, fun w1 e1 => run_resR (vs := [.int .i64 7]) (FA.cons (rfl) (FA.nil)), HM, E, S.pick [1, 2, 3] (by decide), ⟨A0_0, c0_0, A0_1, c0_1, rfl, rfl⟩⟩
  refine Wp_cond_false (congrArg Value.bool hb16) (Wp_skip (bn (tn ?_)))
  as_aux_lemma =>
  refine Wp_seq (Wp_region_lit (W_v (pt bo0 0) (x_move rfl) rfl (W_v (pt bo0 0) (x_nilptr rfl) rfl (W_v (pt bo0 0) (x_fieldAddr (o := 0) (off := 0) Tryd.underlying130 rfl ty128 rfl rfl) rfl (W_v (.slice A0_0 a0.tasks.length c0_0) (x_load (S.blk 1 rfl) ty128 rfl rfl) rfl (W_v (.int .i64 a1) (x_move rfl) rfl ?_))))))
  obtain ⟨⟨p17, p18⟩, H⟩ := chkS H
  obtain ⟨b19, o20, cs21, _, _, ee26, hb22, vs23, hR24, hc25⟩ := SlW.at' (S.row_read 2 rfl) p17 p18
  obtain rfl : vs23 = _ := hR24
  refine W_v (.pointer (some ⟨b19, o20 + a1.toNat * 2, none⟩)) (x_indexAddr Tryd.underlying128 ty135 (slA ee26) rfl p17 p18) rfl (W_v (.pointer (some ⟨b19, o20 + a1.toNat * 2, none⟩)) (x_assign rfl) rfl (Wl_nil (tn (Wp_seq ?_))))
  refine Wp_region_any (S := fun w' => ∃ Mx, M.le Mx ∧ St w' Mx F [Blk bo0 (.cells #[.slice A0_0 a0.tasks.length c0_0, .slice A0_1 a0.l.length c0_1] 130 (0, 0)), Row r_event_task 135 (.slice A0_0 a0.tasks.length c0_0) a0.tasks, Row r_api_Event 38 (.slice A0_1 a0.l.length c0_1) a0.l]) (L := 8) mixed ?_
  intro w29 hw30 E'
  replace S := S.heap hw30
  replace E := E.trans E'
  have D1 : ∃ Mx, Hp.le M Mx ∧ St _ Mx F [_, _, _] := ⟨_, Hp.le_refl _, S.pick [1, 2, 3] (by decide)⟩
  refine Wa_take (i := 0) rfl (by kernel_rfl) rfl rfl (.int .i64 a1) rfl (fun w' h' => x_move rfl) D1 (Wa_take (i := 1) rfl (by kernel_rfl) rfl rfl (.pointer (some ⟨b19, o20 + a1.toNat * 2, none⟩)) rfl (fun w' h' => x_move rfl) D1 (Wa_take (i := 2) rfl (by kernel_rfl) rfl rfl (.pointer (some ⟨b19, o20 + a1.toNat * 2, none⟩)) rfl (fun w' h' => x_nilptr rfl) D1 (Wa_take (i := 3) rfl (by kernel_rfl) rfl rfl (.pointer (some ⟨b19, o20 + a1.toNat * 2 + 1, none⟩)) rfl (fun w' h' => x_fieldAddr (o := o20 + a1.toNat * 2) (off := 1) Tryd.underlying135 rfl ty3 rfl rfl) D1 (Wa_take (i := 4) rfl (by kernel_rfl) rfl rfl (.int .i64 ((rd a0.tasks a1).calls)) rfl (fun w' h' => x_load_cls h' 1 rfl ee26 p17 p18 1 (by rintro _ _ rfl; rfl) ty3 rfl) D1 (Wa_take (i := 5) rfl (by kernel_rfl) rfl rfl (pt b1 1) rfl (fun w' h' => x_fieldAddr (o := 0) (off := 1) Tryd.underlying38 rfl ty3 rfl rfl) D1 ?_)))))
  refine Wa_solo (i := 6) rfl (by kernel_rfl) ?_
  refine W_store S 0 rfl ty3 rfl rfl [.int .i64 a1] rfl rfl rfl #[.int .u8 a3.What, .int .i64 a1, .int .i64 a3.Call, .int .i64 a3.Answer.Err, .bool a3.Answer.Found, .string (bs a3.Answer.Value), .slice A3_0 a3.Answer.Pairs.length c3_0] rfl rfl ?_
  intro w31 E' S
  replace E := E.trans E'
  refine Wl_nil (on_n ⟨.inr ⟨M, Hp.le_refl M, (S.pick [1, 2, 3] (by decide))⟩, ?_⟩)
  refine Wa_take (i := 7) rfl (by kernel_rfl) rfl rfl (pt b1 2) rfl (fun w' h' => x_fieldAddr (o := 0) (off := 2) Tryd.underlying38 rfl ty3 rfl rfl) (⟨M, Hp.le_refl M, (S.pick [1, 2, 3] (by decide))⟩) ?_
  refine Wa_solo (i := 8) rfl (by kernel_rfl) ?_
  refine W_store S 0 rfl ty3 rfl rfl [.int .i64 ((rd a0.tasks a1).calls)] rfl rfl rfl #[.int .u8 a3.What, .int .i64 a1, .int .i64 ((rd a0.tasks a1).calls), .int .i64 a3.Answer.Err, .bool a3.Answer.Found, .string (bs a3.Answer.Value), .slice A3_0 a3.Answer.Pairs.length c3_0] rfl rfl ?_
  intro w32 E' S
  replace E := E.trans E'
  refine Wl_nil (on_n ⟨.inl (by decide), ?_⟩)
  refine Wa_done (by kernel_rfl) ?_
  refine tn (Wp_seq ?_)
  have LE54 := Hp.le_refl M
  refine Wp_region_any (S := fun w' => ∃ Mx, M.le Mx ∧ St w' Mx F [Blk b1 (.cells #[.int .u8 a3.What, .int .i64 a1, .int .i64 ((rd a0.tasks a1).calls), .int .i64 a3.Answer.Err, .bool a3.Answer.Found, .string (bs a3.Answer.Value), .slice A3_0 a3.Answer.Pairs.length c3_0] 38 (0, 0)), Blk bo0 (.cells #[.slice A0_0 a0.tasks.length c0_0, .slice A0_1 a0.l.length c0_1] 130 (0, 0)), Row r_event_task 135 (.slice A0_0 a0.tasks.length c0_0) a0.tasks]) (L := 11) mixed ?_
  intro w55 hw56 E'
  replace S := S.heap hw56
  replace E := E.trans E'
  have hr3_0z := hr3_0
  have D3 : ∃ Mx, Hp.le M Mx ∧ St _ Mx F [_, _, _] := ⟨_, Hp.le_refl _, S.pick [0, 1, 2] (by decide)⟩
  refine Wa_take (i := 0) rfl (by kernel_rfl) rfl rfl (pt bo0 0) rfl (fun w' h' => x_move rfl) D3 (Wa_take (i := 1) rfl (by kernel_rfl) rfl rfl (pt bo0 0) rfl (fun w' h' => x_move rfl) D3 (Wa_take (i := 2) rfl (by kernel_rfl) rfl rfl (pt bo0 0) rfl (fun w' h' => x_nilptr rfl) D3 (Wa_take (i := 3) rfl (by kernel_rfl) rfl rfl (pt bo0 1) rfl (fun w' h' => x_fieldAddr (o := 0) (off := 1) Tryd.underlying130 rfl ty39 rfl rfl) D3 (Wa_take (i := 4) rfl (by kernel_rfl) rfl rfl (.slice A0_1 a0.l.length c0_1) rfl (fun w' h' => x_load (cls_blk h' 1 rfl) ty39 rfl rfl) D3 (Wa_take (i := 5) rfl (by kernel_rfl) rfl rfl (.agg #[.int .u8 a3.What, .int .i64 a1, .int .i64 ((rd a0.tasks a1).calls), .int .i64 a3.Answer.Err, .bool a3.Answer.Found, .string (bs a3.Answer.Value), .slice A3_0 a3.Answer.Pairs.length c3_0]) rfl (fun w' h' => x_loadA (cls_blk h' 0 rfl) ty38 rfl (sub_of_extract rfl) rfl rfl) D3 ?_)))))
  refine Wa_solo (i := 6) rfl (by kernel_rfl) ?_
  obtain ⟨t57, ht58, H⟩ := bindS H
  refine W_callF fn121 (event_own.con k M A3_0 c3_0 (⟨a3.What, a1, (rd a0.tasks a1).calls, ⟨a3.Answer.Err, a3.Answer.Found, a3.Answer.Value, a3.Answer.Pairs⟩⟩ : api_Event) t57 hr3_0 ht58) S rfl rfl (by rintro _ _ _ ⟨_, _, _, rfl⟩; exact (flat_cons (flat_row (fun _ _ _ _ h => h)) flat_nil)) ?_
  rintro _ w62 _ Γ' E' S ⟨A59, c60, rfl, rfl⟩
  replace E := E.trans E'
  refine Wl_nil (on_n ⟨.inr ⟨M, Hp.le_refl M, (S.pick [1, 2, 3] (by decide))⟩, ?_⟩)
  refine Wa_solo (i := 7) rfl (by kernel_rfl) ?_
  obtain ⟨M63, hM64, hf65, S⟩ := S.row_freeze 0 rfl
  replace HM := Hp.le_trans HM hM64
  replace LE54 := Hp.le_trans LE54 hM64
  replace hr3_0 := SlR.mono hr3_0 hM64
  refine W_bslice S #[.int .u8 t57.What, .int .i64 t57.Task, .int .i64 t57.Call, .int .i64 t57.Answer.Err, .bool t57.Answer.Found, .string (bs t57.Answer.Value), .slice A59 t57.Answer.Pairs.length c60] Tryd.underlying39 ty38 rfl rfl #[.int .u8 0, .int .i64 0, .int .i64 0, .int .i64 0, .bool false, .string (bs ([] : Str)), .slice none 0 0] (by as_aux_lemma => kernel_rfl) (by as_aux_lemma => kernel_rfl) rfl ?_
  intro b66 w67 E' S
  replace E := E.trans E'
  replace S := S.blk_row (r := r_api_Event) (l := ([t57] : List api_Event)) 0 rfl 1 (Nat.le_refl 1) rfl (Cells.cons (vs := [.int .u8 t57.What, .int .i64 t57.Task, .int .i64 t57.Call, .int .i64 t57.Answer.Err, .bool t57.Answer.Found, .string (bs t57.Answer.Value), .slice A59 t57.Answer.Pairs.length c60]) (⟨_, hf65, rfl⟩) Cells.nil)
  refine Wl_nil (on_n ⟨.inr ⟨M63, LE54, (S.pick [1, 2, 3] (by decide))⟩, ?_⟩)
  refine Wa_solo (i := 8) rfl (by kernel_rfl) ?_
  obtain ⟨p69, H⟩ := chkS H
  obtain ⟨src70, hs71, hC72⟩ := src_of_read (P := Tryd.prog) (ρ := r_api_Event) (l := ([t57] : List api_Event)) (S.row_read 0 rfl) (by decide)
  refine W_append S 4 rfl rfl rfl Tryd.underlying39 (.inl Tryd.underlying39) ty38 rfl (by decide) (by decide) hs71 hC72 rfl (by omega) rfl ?_
  intro v73 w74 E' S
  replace E := E.trans E'
  obtain ⟨A75, c76, rfl, _⟩ := (S.row_read 4 rfl).form
  refine Wl_nil (on_n ⟨.inr ⟨M63, LE54, (S.pick [1, 2, 3] (by decide))⟩, ?_⟩)
  refine Wa_take (i := 9) rfl (by kernel_rfl) rfl rfl (pt bo0 0) rfl (fun w' h' => x_nilptr rfl) (⟨M63, LE54, (S.pick [1, 2, 3] (by decide))⟩) (Wa_take (i := 10) rfl (by kernel_rfl) rfl rfl (pt bo0 1) rfl (fun w' h' => x_fieldAddr (o := 0) (off := 1) Tryd.underlying130 rfl ty39 rfl rfl) (⟨M63, LE54, (S.pick [1, 2, 3] (by decide))⟩) ?_)
  refine Wa_solo (i := 11) rfl (by kernel_rfl) ?_
  refine W_store S 2 rfl ty39 rfl rfl [.slice A75 (a0.l ++ ([t57] : List api_Event)).length c76] rfl rfl rfl #[.slice A0_0 a0.tasks.length c0_0, .slice A75 (a0.l ++ ([t57] : List api_Event)).length c76] rfl rfl ?_
  intro w77 E' S
  replace E := E.trans E'
  refine Wl_nil (on_n ⟨.inl (by decide), ?_⟩)
  refine Wa_done (by kernel_rfl) ?_
  refine tn ?_
  as_aux_lemma =>
  refine Wp_seq (Wp_seq (Wp_region_lit (W_v (.pointer (some ⟨b19, o20 + a1.toNat * 2, none⟩)) (x_move rfl) rfl (W_v (.pointer (some ⟨b19, o20 + a1.toNat * 2, none⟩)) (x_nilptr rfl) rfl (W_v (.pointer (some ⟨b19, o20 + a1.toNat * 2, none⟩)) (x_fieldAddr (o := o20 + a1.toNat * 2) (off := 0) Tryd.underlying135 rfl ty3 rfl rfl) rfl (W_v (.int .i64 ((rd a0.tasks a1).at_)) (x_load_cls ⟨M63, Hp.le_refl _, S⟩ 3 rfl ee26 p17 p18 0 (by rintro _ _ rfl; rfl) ty3 rfl) rfl (W_v (.int .i64 (IntKind.i64.wrap ((rd a0.tasks a1).at_ + (1 : Int)))) (x_ibin rfl rfl rfl rfl) rfl (W_v (.pointer (some ⟨b19, o20 + a1.toNat * 2, none⟩)) (x_nilptr rfl) rfl (W_v (.pointer (some ⟨b19, o20 + a1.toNat * 2, none⟩)) (x_fieldAddr (o := o20 + a1.toNat * 2) (off := 0) Tryd.underlying135 rfl ty3 rfl rfl) rfl ?_)))))))))
  obtain ⟨x79, he80, H⟩ := bindS H
  replace he80 := Option.some.inj he80
  refine W_rowstore S 3 rfl rfl ee26 (by first | exact p17 | simpa using p17) (by first | exact p18 | simpa using p18) 0 ty3 rfl rfl [.int .i64 (IntKind.i64.wrap ((rd a0.tasks a1).at_ + (1 : Int)))] rfl rfl rfl rfl (⟨(IntKind.i64.wrap ((rd a0.tasks a1).at_ + (1 : Int))), (rd a0.tasks a1).calls⟩ : event_task) (by rintro _ rfl; rfl) he80 ?_
  intro w78 E' S
  replace E := E.trans E'
  have hs81 : Value.slice A0_0 a0.tasks.length c0_0 = Value.slice A0_0 x79.length c0_0 := by rw [← he80, List.length_set]
  try rw [hs81] at S
  try rw [hs81]
  have p82 : a1 < (x79.length : Int) := by rw [← he80, List.length_set]; exact p7
  have p83 : a1 < (x79.length : Int) := by rw [← he80, List.length_set]; exact p18
  refine Wl_nil (tn (Wp_seq (Wp_region_lit (W_v (.pointer (some ⟨b19, o20 + a1.toNat * 2, none⟩)) (x_move rfl) rfl (W_v (.pointer (some ⟨b19, o20 + a1.toNat * 2, none⟩)) (x_nilptr rfl) rfl (W_v (.pointer (some ⟨b19, o20 + a1.toNat * 2, none⟩)) (x_fieldAddr (o := o20 + a1.toNat * 2) (off := 0) Tryd.underlying135 rfl ty3 rfl rfl) rfl (W_v (.int .i64 ((rd x79 a1).at_)) (x_load_cls ⟨M63, Hp.le_refl _, S⟩ 3 rfl ee26 p17 p83 0 (by rintro _ _ rfl; rfl) ty3 rfl) rfl (W_v (.bool (decide ((rd x79 a1).at_ > (2 : Int)))) (x_ibin rfl rfl rfl rfl) rfl (Wl_nil (tn ?_))))))))))
  obtain ⟨o114, o114h, o114H⟩ := bindS H
  refine Wp_cut (fun ρ w' => ∃ (x110 : List event_task) (A111 : Option Addr) (c112 : Nat), (x110) = o114 ∧ Agree ρ [] ∧ Ext w w' ∧ St w' M63 F [Row r_event_task 135 (.slice A111 x110.length c112) x110, Blk bo0 (.cells #[.slice A111 x110.length c112, .slice A75 (a0.l ++ ([t57] : List api_Event)).length c76] 130 (0, 0)), Row r_api_Event 38 (.slice A75 (a0.l ++ ([t57] : List api_Event)).length c76) (a0.l ++ ([t57] : List api_Event))]) ?_ ?_
  · as_aux_lemma =>
      clear o114H
      have H := o114h
      rcases iteS H with ⟨hb115, H⟩ | ⟨hb115, H⟩
      · refine Wp_cond_true (congrArg Value.bool hb115) ?_
        refine Wp_seq (Wp_region_lit (W_v (.pointer (some ⟨b19, o20 + a1.toNat * 2, none⟩)) (x_move rfl) rfl (W_v (.pointer (some ⟨b19, o20 + a1.toNat * 2, none⟩)) (x_nilptr rfl) rfl (W_v (.pointer (some ⟨b19, o20 + a1.toNat * 2, none⟩)) (x_fieldAddr (o := o20 + a1.toNat * 2) (off := 0) Tryd.underlying135 rfl ty3 rfl rfl) rfl ?_))))
        obtain ⟨x117, he118, H⟩ := bindS H
        replace he118 := Option.some.inj he118
        refine W_rowstore S 3 rfl rfl ee26 (by first | exact p17 | simpa using p17) (by first | exact p83 | simpa using p83) 0 ty3 rfl rfl [.int .i64 0] rfl rfl rfl rfl (⟨(0 : Int), (rd x79 a1).calls⟩ : event_task) (by rintro _ rfl; rfl) he118 ?_
        intro w116 E' S
        replace E := E.trans E'
        have hs119 : Value.slice A0_0 x79.length c0_0 = Value.slice A0_0 x117.length c0_0 := by rw [← he118, List.length_set]
        try rw [hs119] at S
        try rw [hs119]
        have p120 : a1 < (x117.length : Int) := by rw [← he118, List.length_set]; exact p82
        have p121 : a1 < (x117.length : Int) := by rw [← he118, List.length_set]; exact p83
        refine Wl_nil (tn (Wp_region_lit (W_v (.pointer (some ⟨b19, o20 + a1.toNat * 2, none⟩)) (x_move rfl) rfl (W_v (.pointer (some ⟨b19, o20 + a1.toNat * 2, none⟩)) (x_nilptr rfl) rfl (W_v (.pointer (some ⟨b19, o20 + a1.toNat * 2 + 1, none⟩)) (x_fieldAddr (o := o20 + a1.toNat * 2) (off := 1) Tryd.underlying135 rfl ty3 rfl rfl) rfl (W_v (.int .i64 ((rd x117 a1).calls)) (x_load_cls ⟨M63, Hp.le_refl _, S⟩ 3 rfl ee26 p17 p121 1 (by rintro _ _ rfl; rfl) ty3 rfl) rfl (W_v (.int .i64 (IntKind.i64.wrap ((rd x117 a1).calls + (1 : Int)))) (x_ibin rfl rfl rfl rfl) rfl (W_v (.pointer (some ⟨b19, o20 + a1.toNat * 2, none⟩)) (x_nilptr rfl) rfl (W_v (.pointer (some ⟨b19, o20 + a1.toNat * 2 + 1, none⟩)) (x_fieldAddr (o := o20 + a1.toNat * 2) (off := 1) Tryd.underlying135 rfl ty3 rfl rfl) rfl ?_)))))))))
        obtain ⟨x123, he124, H⟩ := bindS H
        replace he124 := Option.some.inj he124
        refine W_rowstore S 3 rfl rfl ee26 (by first | exact p17 | simpa using p17) (by first | exact p121 | simpa using p121) 1 ty3 rfl rfl [.int .i64 (IntKind.i64.wrap ((rd x117 a1).calls + (1 : Int)))] rfl rfl rfl rfl (⟨(rd x117 a1).at_, (IntKind.i64.wrap ((rd x117 a1).calls + (1 : Int)))⟩ : event_task) (by rintro _ rfl; rfl) he124 ?_
        intro w122 E' S
        replace E := E.trans E'
        have hs125 : Value.slice A0_0 x117.length c0_0 = Value.slice A0_0 x123.length c0_0 := by rw [← he124, List.length_set]
        try rw [hs125] at S
        try rw [hs125]
        have p126 : a1 < (x123.length : Int) := by rw [← he124, List.length_set]; exact p120
        have p127 : a1 < (x123.length : Int) := by rw [← he124, List.length_set]; exact p121
        refine Wl_nil (tn ?_)
        exact ⟨x123, A0_0, c0_0, Option.some.inj H, trivial, E, S.pick [3, 2, 4] (by decide)⟩
      refine Wp_cond_false (congrArg Value.bool hb115) (Wp_skip (tn ?_))
      exact ⟨x79, A0_0, c0_0, Option.some.inj H, trivial, E, S.pick [3, 2, 4] (by decide)⟩
  rintro ρ w128 ⟨x110, A111, c112, rfl, hρ, E, S⟩
  rw [agree_eta hρ]
  have H := o114H
  refine tn ?_
  as_aux_lemma =>
  refine Wp_seq (Wp_region_lit (W_v (.int .i64 0) (x_assign rfl) rfl (Wl_nil (tn ?_))))
  refine Wp_ret ?_
  obtain rfl := Option.some.inj H
  exact ⟨_, _, _, fun w1 e1 => run_resR (vs := [.int .i64 0]) (FA.cons (rfl) (FA.nil)), HM, E, S.pick [1, 0, 2] (by decide), ⟨A111, c112, A75, c76, rfl, rfl⟩⟩
def event_Recorder_Invoke_POO (k : Nat) (a0 : event_Recorder) (a1 : Int) : Option (Int × event_Recorder) :=
  (Option.bind (event_Recorder_put_POO k a0 a1 (0 : Int) (⟨(1 : Int), (0 : Int), (0 : Int), ⟨(0 : Int), false, ([] : Str), ([] : (List api_Pair))⟩⟩ : api_Event)) (fun t1 => some (t1.1, t1.2)))
set_option maxHeartbeats 2000000 in
theorem event_Recorder_Invoke_POO.mono {k : Nat} {a0 : event_Recorder} {a1 : Int} : OLe (event_Recorder_Invoke_POO k a0 a1) (event_Recorder_Invoke_POO (k + 1) a0 a1) := by
  unfold event_Recorder_Invoke_POO
  repeat' (first | with_reducible exact OLe.none | with_reducible exact OLe.some | with_reducible refine OLe.ite ?_ ?_ | with_reducible refine OLe.bind ?_ (fun _ => ?_) | with_reducible exact event_Recorder_put_POO.mono | refine OLe.bind ?_ (fun _ => ?_) | refine OLe.ite ?_ ?_ | refine OLe.elim (fun _ => ?_) (fun _ => ?_) | split)
set_option maxHeartbeats 4000000 in
set_option maxRecDepth 100000 in
theorem event_Recorder_Invoke_POO.con (k : Nat) (M : Hp) (A0_0 : Option Addr) (c0_0 : Nat) (A0_1 : Option Addr) (c0_1 : Nat) (a0 : event_Recorder) (a1 : Int) (bo0 : Nat) (r : Int × event_Recorder)  (h : event_Recorder_Invoke_POO k a0 a1 = some r) : Con Tryd.prog 115 #[pt bo0 0, .int .i64 a1] M [Blk bo0 (.cells #[.slice A0_0 a0.tasks.length c0_0, .slice A0_1 a0.l.length c0_1] 130 (0, 0)), Row r_event_task 135 (.slice A0_0 a0.tasks.length c0_0) a0.tasks, Row r_api_Event 38 (.slice A0_1 a0.l.length c0_1) a0.l] (fun v M' Γ' => ∃ (Aq1 : Option Addr) (cq2 : Nat) (Aq4 : Option Addr) (cq5 : Nat), v = .int .i64 r.1 ∧ Γ' = [Blk bo0 (.cells #[.slice Aq1 r.2.tasks.length cq2, .slice Aq4 r.2.l.length cq5] 130 (0, 0)), Row r_event_task 135 (.slice Aq1 r.2.tasks.length cq2) r.2.tasks, Row r_api_Event 38 (.slice Aq4 r.2.l.length cq5) r.2.l]) := by
  refine con_of_wp Tryd.func115 rfl Tryd.ntmps115 Tryd.results115 rfl ?_
  intro w F rn S hrn
  have E := Ext.refl w
  have HM := Hp.le_refl M
  have H := h
  unfold event_Recorder_Invoke_POO at H
  refine Wp_seq (Wp_region_lit (W_v (.int .i64 0) (x_assign rfl) rfl (Wl_nil (tn (Wp_seq (Wp_region_lit (W_v (pt bo0 0) (x_move rfl) rfl (W_v (.int .i64 a1) (x_move rfl) rfl (W_v (.agg #[.int .u8 1, .int .i64 0, .int .i64 0, .int .i64 0, .bool false, .string (bs ([] : Str)), .slice none 0 0]) (x_build2 (pl := [(0, 1), (1, 1), (2, 1), (3, 4)]) #[.int .u8 1, .int .i64 0, .int .i64 0, .int .i64 0, .bool false, .string (bs ([] : Str)), .slice none 0 0] Tryd.underlying38 ty38 (by as_aux_lemma => kernel_rfl) rfl (by as_aux_lemma => kernel_rfl)) rfl ?_)))))))))
  obtain ⟨t1, ht2, H⟩ := bindS H
  refine W_call fn120 (event_Recorder_put_POO.con k M A0_0 c0_0 A0_1 c0_1 a0 a1 (0 : Int) none 0 (⟨(1 : Int), (0 : Int), (0 : Int), ⟨(0 : Int), false, ([] : Str), ([] : (List api_Pair))⟩⟩ : api_Event) bo0 t1 (SlW.nil _ _) ht2) (Γ1 := [_, _, _]) (Γ2 := []) S rfl rfl ?_
  rintro _ w9 M10 Γ' hM11 E' S ⟨A3, c4, A6, c7, rfl, rfl⟩
  replace HM := Hp.le_trans HM hM11
  replace E := E.trans E'
  replace S : St w9 M10 F [_, _, _] := S
  refine W_v (.int .i64 t1.1) (x_assign rfl) rfl (Wl_nil (tn ?_))
  refine Wp_ret ?_
  obtain rfl := Option.some.inj H
  exact ⟨_, _, _, fun w1 e1 => run_resR (vs := [.int .i64 t1.1]) (FA.cons (rfl) (FA.nil)), HM, E, S.pick [0, 1, 2] (by decide), ⟨A3, c4, A6, c7, rfl, rfl⟩⟩
def replay_steps_1_POO (k : Nat) (a0 : event_Recorder) (a1 : api_Event) : Option (Int × event_Recorder) :=
  (Option.bind (event_Recorder_Invoke_POO k a0 a1.Task) (fun t4 => some (t4.1, t4.2)))
set_option maxHeartbeats 2000000 in
theorem replay_steps_1_POO.mono {k : Nat} {a0 : event_Recorder} {a1 : api_Event} : OLe (replay_steps_1_POO k a0 a1) (replay_steps_1_POO (k + 1) a0 a1) := by
  unfold replay_steps_1_POO
  repeat' (first | with_reducible exact OLe.none | with_reducible exact OLe.some | with_reducible refine OLe.ite ?_ ?_ | with_reducible refine OLe.bind ?_ (fun _ => ?_) | with_reducible exact event_Recorder_Invoke_POO.mono | refine OLe.bind ?_ (fun _ => ?_) | refine OLe.ite ?_ ?_ | refine OLe.elim (fun _ => ?_) (fun _ => ?_) | split)
set_option maxHeartbeats 4000000 in
set_option maxRecDepth 100000 in
theorem replay_steps_1_POO.con (k : Nat) (M : Hp) (A0_0 : Option Addr) (c0_0 : Nat) (A0_1 : Option Addr) (c0_1 : Nat) (a0 : event_Recorder) (A1_0 : Option Addr) (c1_0 : Nat) (a1 : api_Event) (bo0 : Nat) (r : Int × event_Recorder) (hr1_0 : SlR r_api_Pair M (.slice A1_0 a1.Answer.Pairs.length c1_0) a1.Answer.Pairs) (h : replay_steps_1_POO k a0 a1 = some r) : Con Tryd.prog 114 #[pt bo0 0, .agg #[.int .u8 a1.What, .int .i64 a1.Task, .int .i64 a1.Call, .int .i64 a1.Answer.Err, .bool a1.Answer.Found, .string (bs a1.Answer.Value), .slice A1_0 a1.Answer.Pairs.length c1_0]] M [Blk bo0 (.cells #[.slice A0_0 a0.tasks.length c0_0, .slice A0_1 a0.l.length c0_1] 130 (0, 0)), Row r_event_task 135 (.slice A0_0 a0.tasks.length c0_0) a0.tasks, Row r_api_Event 38 (.slice A0_1 a0.l.length c0_1) a0.l] (fun v M' Γ' => ∃ (Aq1 : Option Addr) (cq2 : Nat) (Aq4 : Option Addr) (cq5 : Nat), v = .int .i64 r.1 ∧ Γ' = [Blk bo0 (.cells #[.slice Aq1 r.2.tasks.length cq2, .slice Aq4 r.2.l.length cq5] 130 (0, 0)), Row r_event_task 135 (.slice Aq1 r.2.tasks.length cq2) r.2.tasks, Row r_api_Event 38 (.slice Aq4 r.2.l.length cq5) r.2.l]) := by
  refine con_of_wp Tryd.func114 rfl Tryd.ntmps114 Tryd.results114 rfl ?_
  intro w F rn S hrn
  have E := Ext.refl w
  have HM := Hp.le_refl M
  have H := h
  unfold replay_steps_1_POO at H
  refine Wp_seq (Wp_region_lit ?_)
  refine W_box S #[.int .u8 a1.What, .int .i64 a1.Task, .int .i64 a1.Call, .int .i64 a1.Answer.Err, .bool a1.Answer.Found, .string (bs a1.Answer.Value), .slice A1_0 a1.Answer.Pairs.length c1_0] rfl rfl rfl ?_
  intro b1 w2 E' S
  replace E := E.trans E'
  refine W_v (.int .i64 0) (x_assign rfl) rfl (Wl_nil (tn (Wp_seq (Wp_region_lit (W_v (pt bo0 0) (x_move rfl) rfl (W_v (pt b1 1) (x_fieldAddr (o := 0) (off := 1) Tryd.underlying38 rfl ty3 rfl rfl) rfl (W_v (.int .i64 a1.Task) (x_load (S.blk 0 rfl) ty3 rfl rfl) rfl ?_)))))))
  obtain ⟨t4, ht5, H⟩ := bindS H
  replace S : St w2 M F [_, _, _, _] := S.pick [1, 2, 3, 0] (by decide)
  refine W_call fn115 (event_Recorder_Invoke_POO.con k M A0_0 c0_0 A0_1 c0_1 a0 a1.Task bo0 t4  ht5) (Γ1 := [_, _, _]) (Γ2 := [_]) S rfl rfl ?_
  rintro _ w12 M13 Γ' hM14 E' S ⟨A6, c7, A9, c10, rfl, rfl⟩
  replace HM := Hp.le_trans HM hM14
  replace hr1_0 := SlR.mono hr1_0 hM14
  replace E := E.trans E'
  replace S : St w12 M13 F [_, _, _, _] := S
  refine W_v (.int .i64 t4.1) (x_assign rfl) rfl (Wl_nil (tn ?_))
  refine Wp_ret ?_
  obtain rfl := Option.some.inj H
  exact ⟨_, _, _, fun w1 e1 => run_resR (vs := [.int .i64 t4.1]) (FA.cons (rfl) (FA.nil)), HM, E, S.pick [0, 1, 2] (by decide), ⟨A6, c7, A9, c10, rfl, rfl⟩⟩
def event_Recorder_Mark_POO (k : Nat) (a0 : event_Recorder) (a1 : Int) : Option (Int × event_Recorder) :=
  (Option.bind (event_Recorder_put_POO k a0 a1 (1 : Int) (⟨(2 : Int), (0 : Int), (0 : Int), ⟨(0 : Int), false, ([] : Str), ([] : (List api_Pair))⟩⟩ : api_Event)) (fun t1 => some (t1.1, t1.2)))
set_option maxHeartbeats 2000000 in
theorem event_Recorder_Mark_POO.mono {k : Nat} {a0 : event_Recorder} {a1 : Int} : OLe (event_Recorder_Mark_POO k a0 a1) (event_Recorder_Mark_POO (k + 1) a0 a1) := by
  unfold event_Recorder_Mark_POO
  repeat' (first | with_reducible exact OLe.none | with_reducible exact OLe.some | with_reducible refine OLe.ite ?_ ?_ | with_reducible refine OLe.bind ?_ (fun _ => ?_) | with_reducible exact event_Recorder_put_POO.mono | refine OLe.bind ?_ (fun _ => ?_) | refine OLe.ite ?_ ?_ | refine OLe.elim (fun _ => ?_) (fun _ => ?_) | split)
set_option maxHeartbeats 4000000 in
set_option maxRecDepth 100000 in
theorem event_Recorder_Mark_POO.con (k : Nat) (M : Hp) (A0_0 : Option Addr) (c0_0 : Nat) (A0_1 : Option Addr) (c0_1 : Nat) (a0 : event_Recorder) (a1 : Int) (bo0 : Nat) (r : Int × event_Recorder)  (h : event_Recorder_Mark_POO k a0 a1 = some r) : Con Tryd.prog 117 #[pt bo0 0, .int .i64 a1] M [Blk bo0 (.cells #[.slice A0_0 a0.tasks.length c0_0, .slice A0_1 a0.l.length c0_1] 130 (0, 0)), Row r_event_task 135 (.slice A0_0 a0.tasks.length c0_0) a0.tasks, Row r_api_Event 38 (.slice A0_1 a0.l.length c0_1) a0.l] (fun v M' Γ' => ∃ (Aq1 : Option Addr) (cq2 : Nat) (Aq4 : Option Addr) (cq5 : Nat), v = .int .i64 r.1 ∧ Γ' = [Blk bo0 (.cells #[.slice Aq1 r.2.tasks.length cq2, .slice Aq4 r.2.l.length cq5] 130 (0, 0)), Row r_event_task 135 (.slice Aq1 r.2.tasks.length cq2) r.2.tasks, Row r_api_Event 38 (.slice Aq4 r.2.l.length cq5) r.2.l]) := by
  refine con_of_wp Tryd.func117 rfl Tryd.ntmps117 Tryd.results117 rfl ?_
  intro w F rn S hrn
  have E := Ext.refl w
  have HM := Hp.le_refl M
  have H := h
  unfold event_Recorder_Mark_POO at H
  refine Wp_seq (Wp_region_lit (W_v (.int .i64 0) (x_assign rfl) rfl (Wl_nil (tn (Wp_seq (Wp_region_lit (W_v (pt bo0 0) (x_move rfl) rfl (W_v (.int .i64 a1) (x_move rfl) rfl (W_v (.agg #[.int .u8 2, .int .i64 0, .int .i64 0, .int .i64 0, .bool false, .string (bs ([] : Str)), .slice none 0 0]) (x_build2 (pl := [(0, 1), (1, 1), (2, 1), (3, 4)]) #[.int .u8 2, .int .i64 0, .int .i64 0, .int .i64 0, .bool false, .string (bs ([] : Str)), .slice none 0 0] Tryd.underlying38 ty38 (by as_aux_lemma => kernel_rfl) rfl (by as_aux_lemma => kernel_rfl)) rfl ?_)))))))))
  obtain ⟨t1, ht2, H⟩ := bindS H
  refine W_call fn120 (event_Recorder_put_POO.con k M A0_0 c0_0 A0_1 c0_1 a0 a1 (1 : Int) none 0 (⟨(2 : Int), (0 : Int), (0 : Int), ⟨(0 : Int), false, ([] : Str), ([] : (List api_Pair))⟩⟩ : api_Event) bo0 t1 (SlW.nil _ _) ht2) (Γ1 := [_, _, _]) (Γ2 := []) S rfl rfl ?_
  rintro _ w9 M10 Γ' hM11 E' S ⟨A3, c4, A6, c7, rfl, rfl⟩
  replace HM := Hp.le_trans HM hM11
  replace E := E.trans E'
  replace S : St w9 M10 F [_, _, _] := S
  refine W_v (.int .i64 t1.1) (x_assign rfl) rfl (Wl_nil (tn ?_))
  refine Wp_ret ?_
  obtain rfl := Option.some.inj H
  exact ⟨_, _, _, fun w1 e1 => run_resR (vs := [.int .i64 t1.1]) (FA.cons (rfl) (FA.nil)), HM, E, S.pick [0, 1, 2] (by decide), ⟨A3, c4, A6, c7, rfl, rfl⟩⟩
def replay_steps_2_POO (k : Nat) (a0 : event_Recorder) (a1 : api_Event) : Option (Int × event_Recorder) :=
  (Option.bind (event_Recorder_Mark_POO k a0 a1.Task) (fun t4 => some (t4.1, t4.2)))
set_option maxHeartbeats 2000000 in
theorem replay_steps_2_POO.mono {k : Nat} {a0 : event_Recorder} {a1 : api_Event} : OLe (replay_steps_2_POO k a0 a1) (replay_steps_2_POO (k + 1) a0 a1) := by
  unfold replay_steps_2_POO
  repeat' (first | with_reducible exact OLe.none | with_reducible exact OLe.some | with_reducible refine OLe.ite ?_ ?_ | with_reducible refine OLe.bind ?_ (fun _ => ?_) | with_reducible exact event_Recorder_Mark_POO.mono | refine OLe.bind ?_ (fun _ => ?_) | refine OLe.ite ?_ ?_ | refine OLe.elim (fun _ => ?_) (fun _ => ?_) | split)
set_option maxHeartbeats 4000000 in
set_option maxRecDepth 100000 in
theorem replay_steps_2_POO.con (k : Nat) (M : Hp) (A0_0 : Option Addr) (c0_0 : Nat) (A0_1 : Option Addr) (c0_1 : Nat) (a0 : event_Recorder) (A1_0 : Option Addr) (c1_0 : Nat) (a1 : api_Event) (bo0 : Nat) (r : Int × event_Recorder) (hr1_0 : SlR r_api_Pair M (.slice A1_0 a1.Answer.Pairs.length c1_0) a1.Answer.Pairs) (h : replay_steps_2_POO k a0 a1 = some r) : Con Tryd.prog 116 #[pt bo0 0, .agg #[.int .u8 a1.What, .int .i64 a1.Task, .int .i64 a1.Call, .int .i64 a1.Answer.Err, .bool a1.Answer.Found, .string (bs a1.Answer.Value), .slice A1_0 a1.Answer.Pairs.length c1_0]] M [Blk bo0 (.cells #[.slice A0_0 a0.tasks.length c0_0, .slice A0_1 a0.l.length c0_1] 130 (0, 0)), Row r_event_task 135 (.slice A0_0 a0.tasks.length c0_0) a0.tasks, Row r_api_Event 38 (.slice A0_1 a0.l.length c0_1) a0.l] (fun v M' Γ' => ∃ (Aq1 : Option Addr) (cq2 : Nat) (Aq4 : Option Addr) (cq5 : Nat), v = .int .i64 r.1 ∧ Γ' = [Blk bo0 (.cells #[.slice Aq1 r.2.tasks.length cq2, .slice Aq4 r.2.l.length cq5] 130 (0, 0)), Row r_event_task 135 (.slice Aq1 r.2.tasks.length cq2) r.2.tasks, Row r_api_Event 38 (.slice Aq4 r.2.l.length cq5) r.2.l]) := by
  refine con_of_wp Tryd.func116 rfl Tryd.ntmps116 Tryd.results116 rfl ?_
  intro w F rn S hrn
  have E := Ext.refl w
  have HM := Hp.le_refl M
  have H := h
  unfold replay_steps_2_POO at H
  refine Wp_seq (Wp_region_lit ?_)
  refine W_box S #[.int .u8 a1.What, .int .i64 a1.Task, .int .i64 a1.Call, .int .i64 a1.Answer.Err, .bool a1.Answer.Found, .string (bs a1.Answer.Value), .slice A1_0 a1.Answer.Pairs.length c1_0] rfl rfl rfl ?_
  intro b1 w2 E' S
  replace E := E.trans E'
  refine W_v (.int .i64 0) (x_assign rfl) rfl (Wl_nil (tn (Wp_seq (Wp_region_lit (W_v (pt bo0 0) (x_move rfl) rfl (W_v (pt b1 1) (x_fieldAddr (o := 0) (off := 1) Tryd.underlying38 rfl ty3 rfl rfl) rfl (W_v (.int .i64 a1.Task) (x_load (S.blk 0 rfl) ty3 rfl rfl) rfl ?_)))))))
  obtain ⟨t4, ht5, H⟩ := bindS H
  replace S : St w2 M F [_, _, _, _] := S.pick [1, 2, 3, 0] (by decide)
  refine W_call fn117 (event_Recorder_Mark_POO.con k M A0_0 c0_0 A0_1 c0_1 a0 a1.Task bo0 t4  ht5) (Γ1 := [_, _, _]) (Γ2 := [_]) S rfl rfl ?_
  rintro _ w12 M13 Γ' hM14 E' S ⟨A6, c7, A9, c10, rfl, rfl⟩
  replace HM := Hp.le_trans HM hM14
  replace hr1_0 := SlR.mono hr1_0 hM14
  replace E := E.trans E'
  replace S : St w12 M13 F [_, _, _, _] := S
  refine W_v (.int .i64 t4.1) (x_assign rfl) rfl (Wl_nil (tn ?_))
  refine Wp_ret ?_
  obtain rfl := Option.some.inj H
  exact ⟨_, _, _, fun w1 e1 => run_resR (vs := [.int .i64 t4.1]) (FA.cons (rfl) (FA.nil)), HM, E, S.pick [0, 1, 2] (by decide), ⟨A6, c7, A9, c10, rfl, rfl⟩⟩
def event_Recorder_Return_POO (k : Nat) (a0 : event_Recorder) (a1 : Int) (a2 : api_Answer) : Option (Int × event_Recorder) :=
  (Option.bind (event_Recorder_put_POO k a0 a1 (2 : Int) (⟨(3 : Int), (0 : Int), (0 : Int), ⟨a2.Err, a2.Found, a2.Value, a2.Pairs⟩⟩ : api_Event)) (fun t4 => some (t4.1, t4.2)))
set_option maxHeartbeats 2000000 in
theorem event_Recorder_Return_POO.mono {k : Nat} {a0 : event_Recorder} {a1 : Int} {a2 : api_Answer} : OLe (event_Recorder_Return_POO k a0 a1 a2) (event_Recorder_Return_POO (k + 1) a0 a1 a2) := by
  unfold event_Recorder_Return_POO
  repeat' (first | with_reducible exact OLe.none | with_reducible exact OLe.some | with_reducible refine OLe.ite ?_ ?_ | with_reducible refine OLe.bind ?_ (fun _ => ?_) | with_reducible exact event_Recorder_put_POO.mono | refine OLe.bind ?_ (fun _ => ?_) | refine OLe.ite ?_ ?_ | refine OLe.elim (fun _ => ?_) (fun _ => ?_) | split)
set_option maxHeartbeats 4000000 in
set_option maxRecDepth 100000 in
theorem event_Recorder_Return_POO.con (k : Nat) (M : Hp) (A0_0 : Option Addr) (c0_0 : Nat) (A0_1 : Option Addr) (c0_1 : Nat) (a0 : event_Recorder) (a1 : Int) (A2_0 : Option Addr) (c2_0 : Nat) (a2 : api_Answer) (bo0 : Nat) (r : Int × event_Recorder) (hr2_0 : SlR r_api_Pair M (.slice A2_0 a2.Pairs.length c2_0) a2.Pairs) (h : event_Recorder_Return_POO k a0 a1 a2 = some r) : Con Tryd.prog 119 #[pt bo0 0, .int .i64 a1, .agg #[.int .i64 a2.Err, .bool a2.Found, .string (bs a2.Value), .slice A2_0 a2.Pairs.length c2_0]] M [Blk bo0 (.cells #[.slice A0_0 a0.tasks.length c0_0, .slice A0_1 a0.l.length c0_1] 130 (0, 0)), Row r_event_task 135 (.slice A0_0 a0.tasks.length c0_0) a0.tasks, Row r_api_Event 38 (.slice A0_1 a0.l.length c0_1) a0.l] (fun v M' Γ' => ∃ (Aq1 : Option Addr) (cq2 : Nat) (Aq4 : Option Addr) (cq5 : Nat), v = .int .i64 r.1 ∧ Γ' = [Blk bo0 (.cells #[.slice Aq1 r.2.tasks.length cq2, .slice Aq4 r.2.l.length cq5] 130 (0, 0)), Row r_event_task 135 (.slice Aq1 r.2.tasks.length cq2) r.2.tasks, Row r_api_Event 38 (.slice Aq4 r.2.l.length cq5) r.2.l]) := by
  refine con_of_wp Tryd.func119 rfl Tryd.ntmps119 Tryd.results119 rfl ?_
  intro w F rn S hrn
  have E := Ext.refl w
  have HM := Hp.le_refl M
  have H := h
  unfold event_Recorder_Return_POO at H
  refine Wp_seq (Wp_region_lit ?_)
  refine W_box S #[.int .i64 a2.Err, .bool a2.Found, .string (bs a2.Value), .slice A2_0 a2.Pairs.length c2_0] rfl rfl rfl ?_
  intro b1 w2 E' S
  replace E := E.trans E'
  refine W_v (.int .i64 0) (x_assign rfl) rfl (Wl_nil (tn (Wp_seq (Wp_region_lit (W_v (pt bo0 0) (x_move rfl) rfl (W_v (.int .i64 a1) (x_move rfl) rfl (W_v (.agg #[.int .i64 a2.Err, .bool a2.Found, .string (bs a2.Value), .slice A2_0 a2.Pairs.length c2_0]) (x_loadA (S.blk 0 rfl) ty36 rfl (sub_of_extract rfl) rfl rfl) rfl (W_v (.agg #[.int .u8 3, .int .i64 0, .int .i64 0, .int .i64 a2.Err, .bool a2.Found, .string (bs a2.Value), .slice A2_0 a2.Pairs.length c2_0]) (x_build2 (pl := [(0, 1), (1, 1), (2, 1), (3, 4)]) #[.int .u8 3, .int .i64 0, .int .i64 0, .int .i64 a2.Err, .bool a2.Found, .string (bs a2.Value), .slice A2_0 a2.Pairs.length c2_0] Tryd.underlying38 ty38 (by as_aux_lemma => kernel_rfl) rfl (by as_aux_lemma => kernel_rfl)) rfl ?_))))))))
  obtain ⟨t4, ht5, H⟩ := bindS H
  replace S : St w2 M F [_, _, _, _] := S.pick [1, 2, 3, 0] (by decide)
  refine W_call fn120 (event_Recorder_put_POO.con k M A0_0 c0_0 A0_1 c0_1 a0 a1 (2 : Int) A2_0 c2_0 (⟨(3 : Int), (0 : Int), (0 : Int), ⟨a2.Err, a2.Found, a2.Value, a2.Pairs⟩⟩ : api_Event) bo0 t4 hr2_0 ht5) (Γ1 := [_, _, _]) (Γ2 := [_]) S rfl rfl ?_
  rintro _ w12 M13 Γ' hM14 E' S ⟨A6, c7, A9, c10, rfl, rfl⟩
  replace HM := Hp.le_trans HM hM14
  replace hr2_0 := SlR.mono hr2_0 hM14
  replace E := E.trans E'
  replace S : St w12 M13 F [_, _, _, _] := S
  refine W_v (.int .i64 t4.1) (x_assign rfl) rfl (Wl_nil (tn ?_))
  refine Wp_ret ?_
  obtain rfl := Option.some.inj H
  exact ⟨_, _, _, fun w1 e1 => run_resR (vs := [.int .i64 t4.1]) (FA.cons (rfl) (FA.nil)), HM, E, S.pick [0, 1, 2] (by decide), ⟨A6, c7, A9, c10, rfl, rfl⟩⟩
def replay_steps_3_POO (k : Nat) (a0 : event_Recorder) (a1 : api_Event) : Option (Int × event_Recorder) :=
  (Option.bind (event_Recorder_Return_POO k a0 a1.Task a1.Answer) (fun t4 => some (t4.1, t4.2)))
set_option maxHeartbeats 2000000 in
theorem replay_steps_3_POO.mono {k : Nat} {a0 : event_Recorder} {a1 : api_Event} : OLe (replay_steps_3_POO k a0 a1) (replay_steps_3_POO (k + 1) a0 a1) := by
  unfold replay_steps_3_POO
  repeat' (first | with_reducible exact OLe.none | with_reducible exact OLe.some | with_reducible refine OLe.ite ?_ ?_ | with_reducible refine OLe.bind ?_ (fun _ => ?_) | with_reducible exact event_Recorder_Return_POO.mono | refine OLe.bind ?_ (fun _ => ?_) | refine OLe.ite ?_ ?_ | refine OLe.elim (fun _ => ?_) (fun _ => ?_) | split)
set_option maxHeartbeats 4000000 in
set_option maxRecDepth 100000 in
theorem replay_steps_3_POO.con (k : Nat) (M : Hp) (A0_0 : Option Addr) (c0_0 : Nat) (A0_1 : Option Addr) (c0_1 : Nat) (a0 : event_Recorder) (A1_0 : Option Addr) (c1_0 : Nat) (a1 : api_Event) (bo0 : Nat) (r : Int × event_Recorder) (hr1_0 : SlR r_api_Pair M (.slice A1_0 a1.Answer.Pairs.length c1_0) a1.Answer.Pairs) (h : replay_steps_3_POO k a0 a1 = some r) : Con Tryd.prog 118 #[pt bo0 0, .agg #[.int .u8 a1.What, .int .i64 a1.Task, .int .i64 a1.Call, .int .i64 a1.Answer.Err, .bool a1.Answer.Found, .string (bs a1.Answer.Value), .slice A1_0 a1.Answer.Pairs.length c1_0]] M [Blk bo0 (.cells #[.slice A0_0 a0.tasks.length c0_0, .slice A0_1 a0.l.length c0_1] 130 (0, 0)), Row r_event_task 135 (.slice A0_0 a0.tasks.length c0_0) a0.tasks, Row r_api_Event 38 (.slice A0_1 a0.l.length c0_1) a0.l] (fun v M' Γ' => ∃ (Aq1 : Option Addr) (cq2 : Nat) (Aq4 : Option Addr) (cq5 : Nat), v = .int .i64 r.1 ∧ Γ' = [Blk bo0 (.cells #[.slice Aq1 r.2.tasks.length cq2, .slice Aq4 r.2.l.length cq5] 130 (0, 0)), Row r_event_task 135 (.slice Aq1 r.2.tasks.length cq2) r.2.tasks, Row r_api_Event 38 (.slice Aq4 r.2.l.length cq5) r.2.l]) := by
  refine con_of_wp Tryd.func118 rfl Tryd.ntmps118 Tryd.results118 rfl ?_
  intro w F rn S hrn
  have E := Ext.refl w
  have HM := Hp.le_refl M
  have H := h
  unfold replay_steps_3_POO at H
  refine Wp_seq (Wp_region_lit ?_)
  refine W_box S #[.int .u8 a1.What, .int .i64 a1.Task, .int .i64 a1.Call, .int .i64 a1.Answer.Err, .bool a1.Answer.Found, .string (bs a1.Answer.Value), .slice A1_0 a1.Answer.Pairs.length c1_0] rfl rfl rfl ?_
  intro b1 w2 E' S
  replace E := E.trans E'
  refine W_v (.int .i64 0) (x_assign rfl) rfl (Wl_nil (tn (Wp_seq (Wp_region_lit (W_v (pt bo0 0) (x_move rfl) rfl (W_v (pt b1 1) (x_fieldAddr (o := 0) (off := 1) Tryd.underlying38 rfl ty3 rfl rfl) rfl (W_v (.int .i64 a1.Task) (x_load (S.blk 0 rfl) ty3 rfl rfl) rfl (W_v (pt b1 3) (x_fieldAddr (o := 0) (off := 3) Tryd.underlying38 rfl ty36 rfl rfl) rfl (W_v (.agg #[.int .i64 a1.Answer.Err, .bool a1.Answer.Found, .string (bs a1.Answer.Value), .slice A1_0 a1.Answer.Pairs.length c1_0]) (x_loadA (S.blk 0 rfl) ty36 rfl (sub_of_extract rfl) rfl rfl) rfl ?_)))))))))
  obtain ⟨t4, ht5, H⟩ := bindS H
  replace S : St w2 M F [_, _, _, _] := S.pick [1, 2, 3, 0] (by decide)
  refine W_call fn119 (event_Recorder_Return_POO.con k M A0_0 c0_0 A0_1 c0_1 a0 a1.Task A1_0 c1_0 a1.Answer bo0 t4 hr1_0 ht5) (Γ1 := [_, _, _]) (Γ2 := [_]) S rfl rfl ?_
  rintro _ w12 M13 Γ' hM14 E' S ⟨A6, c7, A9, c10, rfl, rfl⟩
  replace HM := Hp.le_trans HM hM14
  replace hr1_0 := SlR.mono hr1_0 hM14
  replace E := E.trans E'
  replace S : St w12 M13 F [_, _, _, _] := S
  refine W_v (.int .i64 t4.1) (x_assign rfl) rfl (Wl_nil (tn ?_))
  refine Wp_ret ?_
  obtain rfl := Option.some.inj H
  exact ⟨_, _, _, fun w1 e1 => run_resR (vs := [.int .i64 t4.1]) (FA.cons (rfl) (FA.nil)), HM, E, S.pick [0, 1, 2] (by decide), ⟨A6, c7, A9, c10, rfl, rfl⟩⟩
def model_Model_Tx_POOOO (k : Nat) (a0 : model_Model) (a1 : Int) (a2 : Int) : Option (Int × Int × Int) :=
  (if (!((mget a0.names (⟨a1, a2⟩ : model_name)).isSome)) = true then some ((0 : Int), (0 : Int), (0 : Int)) else (if 0 ≤ (IntKind.i64.wrap (((mget a0.names (⟨a1, a2⟩ : model_name)).getD (0 : Int)) - (1 : Int))) ∧ (IntKind.i64.wrap (((mget a0.names (⟨a1, a2⟩ : model_name)).getD (0 : Int)) - (1 : Int))) < (a0.txs.length : Int) then some (((mget a0.names (⟨a1, a2⟩ : model_name)).getD (0 : Int)), (rd a0.txs (IntKind.i64.wrap (((mget a0.names (⟨a1, a2⟩ : model_name)).getD (0 : Int)) - (1 : Int)))).state, (rd a0.txs (IntKind.i64.wrap (((mget a0.names (⟨a1, a2⟩ : model_name)).getD (0 : Int)) - (1 : Int)))).snapshot) else none))
set_option maxHeartbeats 2000000 in
theorem model_Model_Tx_POOOO.mono {k : Nat} {a0 : model_Model} {a1 : Int} {a2 : Int} : OLe (model_Model_Tx_POOOO k a0 a1 a2) (model_Model_Tx_POOOO (k + 1) a0 a1 a2) := by
  unfold model_Model_Tx_POOOO
  repeat' (first | with_reducible exact OLe.none | with_reducible exact OLe.some | with_reducible refine OLe.ite ?_ ?_ | with_reducible refine OLe.bind ?_ (fun _ => ?_) | refine OLe.bind ?_ (fun _ => ?_) | refine OLe.ite ?_ ?_ | refine OLe.elim (fun _ => ?_) (fun _ => ?_) | split)
set_option maxHeartbeats 4000000 in
set_option maxRecDepth 100000 in
theorem model_Model_Tx_POOOO.con (k : Nat) (M : Hp) (A0_8 : Option Addr) (c0_8 : Nat) (A0_9 : Option Addr) (c0_9 : Nat) (A0_10 : Option Addr) (c0_10 : Nat) (A0_11 : Option Addr) (c0_11 : Nat) (vs0_11 : List (Str × Value)) (a0 : model_Model) (a1 : Int) (a2 : Int) (bo0 : Nat) (r : Int × Int × Int) (hm0_11 : MRel r_model_row M a0.rows vs0_11) (h : model_Model_Tx_POOOO k a0 a1 a2 = some r) : Con Tryd.prog 30 #[pt bo0 0, .int .i64 a1, .int .i64 a2] M [B83 bo0 a0 A0_8 A0_9 A0_10 c0_10 A0_11, MapC enc_model_name (Value.int .i64) A0_8 a0.names, MapC (Value.int .i64) (Value.int .i64) A0_9 a0.many, Row r_model_tx 109 (.slice A0_10 a0.txs.length c0_10) a0.txs, MapC encS (fun v : Value => v) A0_11 vs0_11] (fun v M' Γ' => v = .tuple #[.int .i64 r.1, .int .u8 r.2.1, .int .i64 r.2.2] ∧ Γ' = [B83 bo0 a0 A0_8 A0_9 A0_10 c0_10 A0_11, MapC enc_model_name (Value.int .i64) A0_8 a0.names, MapC (Value.int .i64) (Value.int .i64) A0_9 a0.many, Row r_model_tx 109 (.slice A0_10 a0.txs.length c0_10) a0.txs, MapC encS (fun v : Value => v) A0_11 vs0_11]) := by
  refine con_of_wp Tryd.func30 rfl Tryd.ntmps30 Tryd.results30 rfl ?_
  intro w F rn S hrn
  have E := Ext.refl w
  have HM := Hp.le_refl M
  have H := h
  unfold model_Model_Tx_POOOO at H
  refine Wp_seq (Wp_region_lit (W_v (.int .i64 0) (x_assign rfl) rfl (W_v (.int .u8 0) (x_assign rfl) rfl (W_v (.int .i64 0) (x_assign rfl) rfl (Wl_nil (tn (Wp_seq (Wp_seq (Wp_region_lit (W_v (pt bo0 0) (x_move rfl) rfl (W_v (.bool false) (x_eq_of (r := false) rfl rfl (run_eq_ptrsn Tryd.underlying54)) rfl (Wl_nil (tn (Wp_cond_false rfl (Wp_skip ?_)))))))))))))))
  refine tn (Wp_seq (Wp_region_lit (W_v (pt bo0 0) (x_move rfl) rfl (W_v (pt bo0 0) (x_nilptr rfl) rfl (W_v (pt bo0 8) (x_fieldAddr (o := 0) (off := 8) Tryd.underlying83 rfl ty78 rfl rfl) rfl (W_v (.map (mb A0_8)) (x_load (S.blk 0 rfl) ty78 rfl rfl) rfl (W_v (.int .i64 a1) (x_move rfl) rfl (W_v (.int .i64 a2) (x_move rfl) rfl (W_v (.agg #[.int .i64 a1, .int .i64 a2]) (x_build2 (pl := [(0, 1), (1, 1)]) #[.int .i64 a1, .int .i64 a2] Tryd.underlying107 ty107 (by as_aux_lemma => kernel_rfl) rfl (by as_aux_lemma => kernel_rfl)) rfl (W_v (.tuple #[.int .i64 ((mget a0.names (⟨a1, a2⟩ : model_name)).getD (0 : Int)), .bool ((mget a0.names (⟨a1, a2⟩ : model_name)).isSome)]) (x_lookupOk S 1 rfl Tryd.underlying78 key107 (0 : Int) (fun _ => ty3.zero) (⟨a1, a2⟩ : model_name) rfl rfl) rfl (W_v (.tuple #[.int .i64 ((mget a0.names (⟨a1, a2⟩ : model_name)).getD (0 : Int)), .bool ((mget a0.names (⟨a1, a2⟩ : model_name)).isSome)]) (x_move rfl) rfl (W_v (.int .i64 ((mget a0.names (⟨a1, a2⟩ : model_name)).getD (0 : Int))) (x_extract rfl rfl) rfl (W_v (.bool ((mget a0.names (⟨a1, a2⟩ : model_name)).isSome)) (x_extract rfl rfl) rfl (W_v (.int .i64 ((mget a0.names (⟨a1, a2⟩ : model_name)).getD (0 : Int))) (x_assign rfl) rfl (W_v (.bool ((mget a0.names (⟨a1, a2⟩ : model_name)).isSome)) (x_assign rfl) rfl ?_)))))))))))))))
  refine Wl_nil (tn (Wp_seq (Wp_seq (Wp_region_lit (W_v (.bool ((mget a0.names (⟨a1, a2⟩ : model_name)).isSome)) (x_move rfl) rfl (W_v (.bool (!((mget a0.names (⟨a1, a2⟩ : model_name)).isSome))) (x_not (b := ((mget a0.names (⟨a1, a2⟩ : model_name)).isSome)) rfl) rfl (Wl_nil (tn ?_))))))))
  rcases iteS H with ⟨hb1, H⟩ | ⟨hb1, H⟩
  · refine Wp_cond_true (congrArg Value.bool hb1) ?_
    refine Wp_seq (Wp_region_lit (W_v (.int .i64 0) (x_assign rfl) rfl (W_v (.int .u8 0) (x_assign rfl) rfl (W_v (.int .i64 0) (x_assign rfl) rfl (Wl_nil (tn ?_))))))
    refine Wp_ret ?_
    refine tr (?_)
    obtain rfl := Option.some.inj H
    exact ⟨_, _, _, fun w1 e1 => run_resR (vs := [.int .i64 0, .int .u8 0, .int .i64 0]) (FA.cons (rfl) (FA.cons (rfl) (FA.cons (rfl) (FA.nil)))), HM, E, S.pick [0, 1, 2, 3, 4] (by decide), ⟨rfl, rfl⟩⟩
  refine Wp_cond_false (congrArg Value.bool hb1) (Wp_skip (tn ?_))
  as_aux_lemma =>
  refine Wp_seq (Wp_region_lit (W_v (pt bo0 0) (x_move rfl) rfl (W_v (pt bo0 0) (x_nilptr rfl) rfl (W_v (pt bo0 10) (x_fieldAddr (o := 0) (off := 10) Tryd.underlying83 rfl ty80 rfl rfl) rfl (W_v (.slice A0_10 a0.txs.length c0_10) (x_load (S.blk 0 rfl) ty80 rfl rfl) rfl (W_v (.int .i64 ((mget a0.names (⟨a1, a2⟩ : model_name)).getD (0 : Int))) (x_move rfl) rfl (W_v (.int .i64 (IntKind.i64.wrap (((mget a0.names (⟨a1, a2⟩ : model_name)).getD (0 : Int)) - (1 : Int)))) (x_ibin rfl rfl rfl rfl) rfl ?_)))))))
  obtain ⟨⟨p2, p3⟩, H⟩ := chkS H
  obtain ⟨b4, o5, cs6, _, _, ee11, hb7, vs8, hR9, hc10⟩ := SlW.at' (S.row_read 3 rfl) p2 p3
  obtain rfl : vs8 = _ := hR9
  refine W_v (.pointer (some ⟨b4, o5 + (IntKind.i64.wrap (((mget a0.names (⟨a1, a2⟩ : model_name)).getD (0 : Int)) - (1 : Int))).toNat * 2, none⟩)) (x_indexAddr Tryd.underlying80 ty109 (slA ee11) rfl p2 p3) rfl (W_v (.agg #[.int .u8 ((rd a0.txs (IntKind.i64.wrap (((mget a0.names (⟨a1, a2⟩ : model_name)).getD (0 : Int)) - (1 : Int)))).state), .int .i64 ((rd a0.txs (IntKind.i64.wrap (((mget a0.names (⟨a1, a2⟩ : model_name)).getD (0 : Int)) - (1 : Int)))).snapshot)]) (x_loadA (Hp.of_get hb7) ty109 rfl (sub_el hc10 0 rfl) rfl rfl) rfl ?_)
  refine W_alloc S #[.int .u8 0, .int .i64 0] ty109 rfl rfl ?_
  intro b12 w13 E' S
  replace E := E.trans E'
  refine W_store S 0 rfl ty109 rfl rfl [.int .u8 ((rd a0.txs (IntKind.i64.wrap (((mget a0.names (⟨a1, a2⟩ : model_name)).getD (0 : Int)) - (1 : Int)))).state), .int .i64 ((rd a0.txs (IntKind.i64.wrap (((mget a0.names (⟨a1, a2⟩ : model_name)).getD (0 : Int)) - (1 : Int)))).snapshot)] rfl rfl rfl #[.int .u8 ((rd a0.txs (IntKind.i64.wrap (((mget a0.names (⟨a1, a2⟩ : model_name)).getD (0 : Int)) - (1 : Int)))).state), .int .i64 ((rd a0.txs (IntKind.i64.wrap (((mget a0.names (⟨a1, a2⟩ : model_name)).getD (0 : Int)) - (1 : Int)))).snapshot)] rfl rfl ?_
  intro w15 E' S
  replace E := E.trans E'
  refine Wl_nil (tn (Wp_seq ?_))
  refine Wp_region_any (S := fun w' => ∃ Mx, M.le Mx ∧ St w' Mx F [Blk b12 (.cells #[.int .u8 ((rd a0.txs (IntKind.i64.wrap (((mget a0.names (⟨a1, a2⟩ : model_name)).getD (0 : Int)) - (1 : Int)))).state), .int .i64 ((rd a0.txs (IntKind.i64.wrap (((mget a0.names (⟨a1, a2⟩ : model_name)).getD (0 : Int)) - (1 : Int)))).snapshot)] 109 (0, 0)), B83 bo0 a0 A0_8 A0_9 A0_10 c0_10 A0_11, MapC enc_model_name (Value.int .i64) A0_8 a0.names, MapC (Value.int .i64) (Value.int .i64) A0_9 a0.many, Row r_model_tx 109 (.slice A0_10 a0.txs.length c0_10) a0.txs, MapC encS (fun v : Value => v) A0_11 vs0_11]) (L := 8) mixed ?_
  intro w16 hw17 E'
  replace S := S.heap hw17
  replace E := E.trans E'
  have D1 : ∃ Mx, Hp.le M Mx ∧ St _ Mx F [_, _, _, _, _, _] := ⟨_, Hp.le_refl _, S.pick [0, 1, 2, 3, 4, 5] (by decide)⟩
  refine Wa_take (i := 0) rfl (by kernel_rfl) rfl rfl (.int .i64 ((mget a0.names (⟨a1, a2⟩ : model_name)).getD (0 : Int))) rfl (fun w' h' => x_move rfl) D1 (Wa_take (i := 1) rfl (by kernel_rfl) rfl rfl (pt b12 0) rfl (fun w' h' => x_fieldAddr (o := 0) (off := 0) Tryd.underlying109 rfl ty5 rfl rfl) D1 (Wa_take (i := 2) rfl (by kernel_rfl) rfl rfl (.int .u8 ((rd a0.txs (IntKind.i64.wrap (((mget a0.names (⟨a1, a2⟩ : model_name)).getD (0 : Int)) - (1 : Int)))).state)) rfl (fun w' h' => x_load (cls_blk h' 0 rfl) ty5 rfl rfl) D1 (Wa_take (i := 3) rfl (by kernel_rfl) rfl rfl (pt b12 1) rfl (fun w' h' => x_fieldAddr (o := 0) (off := 1) Tryd.underlying109 rfl ty3 rfl rfl) D1 (Wa_take (i := 4) rfl (by kernel_rfl) rfl rfl (.int .i64 ((rd a0.txs (IntKind.i64.wrap (((mget a0.names (⟨a1, a2⟩ : model_name)).getD (0 : Int)) - (1 : Int)))).snapshot)) rfl (fun w' h' => x_load (cls_blk h' 0 rfl) ty3 rfl rfl) D1 (Wa_take (i := 5) rfl (by kernel_rfl) rfl rfl (.int .i64 ((mget a0.names (⟨a1, a2⟩ : model_name)).getD (0 : Int))) rfl (fun w' h' => x_assign rfl) D1 (Wa_take (i := 6) rfl (by kernel_rfl) rfl rfl (.int .u8 ((rd a0.txs (IntKind.i64.wrap (((mget a0.names (⟨a1, a2⟩ : model_name)).getD (0 : Int)) - (1 : Int)))).state)) rfl (fun w' h' => x_assign rfl) D1 (Wa_take (i := 7) rfl (by kernel_rfl) rfl rfl (.int .i64 ((rd a0.txs (IntKind.i64.wrap (((mget a0.names (⟨a1, a2⟩ : model_name)).getD (0 : Int)) - (1 : Int)))).snapshot)) rfl (fun w' h' => x_assign rfl) D1 ?_)))))))
  refine Wa_done (by kernel_rfl) ?_
  refine tn ?_
  refine Wp_ret ?_
  obtain rfl := Option.some.inj H
  exact ⟨_, _, _, fun w1 e1 => run_resR (vs := [.int .i64 ((mget a0.names (⟨a1, a2⟩ : model_name)).getD (0 : Int)), .int .u8 ((rd a0.txs (IntKind.i64.wrap (((mget a0.names (⟨a1, a2⟩ : model_name)).getD (0 : Int)) - (1 : Int)))).state), .int .i64 ((rd a0.txs (IntKind.i64.wrap (((mget a0.names (⟨a1, a2⟩ : model_name)).getD (0 : Int)) - (1 : Int)))).snapshot)]) (FA.cons (rfl) (FA.cons (rfl) (FA.cons (rfl) (FA.nil)))), HM, E, S.pick [1, 2, 3, 4, 5] (by decide), ⟨rfl, rfl⟩⟩
def model_Model_fits_POOOO (k : Nat) (a0 : model_Model) (a1 : api_Call) : Option (Bool) :=
  (Option.bind (α := Bool) (if (a1.Kind == (2 : Int)) = true then some ((a1.Kind == (2 : Int))) else some ((a1.Kind == (4 : Int)))) (fun x6 => (if x6 = true then (Option.bind (text_Key k a0.c a1.Key) (fun t16 => some t16)) else (if (a1.Kind == (3 : Int)) = true then (Option.bind (text_Key k a0.c a1.Key) (fun t35 => (Option.bind (α := Bool) (if t35 = true then (Option.bind (text_Value k a0.c a1.Value) (fun t44 => some (t44))) else some (false)) (fun x42 => some x42)))) else (if (a1.Kind == (5 : Int)) = true then (Option.bind (text_Bound k a0.c a1.Key) (fun t66 => (Option.bind (α := Bool) (if t66 = true then (Option.bind (text_Bound k a0.c a1.End) (fun t75 => some (t75))) else some (false)) (fun x73 => some ((x73 && (decide (a1.Limit ≥ (0 : Int)))) && (decide (a1.Limit ≤ (128 : Int)))))))) else some true)))))
set_option maxHeartbeats 2000000 in
theorem model_Model_fits_POOOO.mono {k : Nat} {a0 : model_Model} {a1 : api_Call} : OLe (model_Model_fits_POOOO k a0 a1) (model_Model_fits_POOOO (k + 1) a0 a1) := by
  unfold model_Model_fits_POOOO
  repeat' (first | with_reducible exact OLe.none | with_reducible exact OLe.some | with_reducible refine OLe.ite ?_ ?_ | with_reducible refine OLe.bind ?_ (fun _ => ?_) | with_reducible exact text_Bound.mono | with_reducible exact text_Key.mono | with_reducible exact text_Value.mono | refine OLe.bind ?_ (fun _ => ?_) | refine OLe.ite ?_ ?_ | refine OLe.elim (fun _ => ?_) (fun _ => ?_) | split)
set_option maxHeartbeats 4000000 in
set_option maxRecDepth 100000 in
theorem model_Model_fits_POOOO.con (k : Nat) (M : Hp) (A0_8 : Option Addr) (c0_8 : Nat) (A0_9 : Option Addr) (c0_9 : Nat) (A0_10 : Option Addr) (c0_10 : Nat) (A0_11 : Option Addr) (c0_11 : Nat) (vs0_11 : List (Str × Value)) (a0 : model_Model) (a1 : api_Call) (bo0 : Nat) (r : Bool) (hm0_11 : MRel r_model_row M a0.rows vs0_11) (h : model_Model_fits_POOOO k a0 a1 = some r) : Con Tryd.prog 38 #[pt bo0 0, .agg #[.int .u8 a1.Kind, .int .i64 a1.Tx, .string (bs a1.Key), .string (bs a1.End), .string (bs a1.Value), .int .i64 a1.Limit, .int .u8 a1.Engine]] M [B83 bo0 a0 A0_8 A0_9 A0_10 c0_10 A0_11, MapC enc_model_name (Value.int .i64) A0_8 a0.names, MapC (Value.int .i64) (Value.int .i64) A0_9 a0.many, Row r_model_tx 109 (.slice A0_10 a0.txs.length c0_10) a0.txs, MapC encS (fun v : Value => v) A0_11 vs0_11] (fun v M' Γ' => v = .bool r ∧ Γ' = [B83 bo0 a0 A0_8 A0_9 A0_10 c0_10 A0_11, MapC enc_model_name (Value.int .i64) A0_8 a0.names, MapC (Value.int .i64) (Value.int .i64) A0_9 a0.many, Row r_model_tx 109 (.slice A0_10 a0.txs.length c0_10) a0.txs, MapC encS (fun v : Value => v) A0_11 vs0_11]) := by
  refine con_of_wp Tryd.func38 rfl Tryd.ntmps38 Tryd.results38 rfl ?_
  intro w F rn S hrn
  have E := Ext.refl w
  have HM := Hp.le_refl M
  have H := h
  unfold model_Model_fits_POOOO at H
  refine Wp_seq (Wp_region_lit ?_)
  refine W_box S #[.int .u8 a1.Kind, .int .i64 a1.Tx, .string (bs a1.Key), .string (bs a1.End), .string (bs a1.Value), .int .i64 a1.Limit, .int .u8 a1.Engine] rfl rfl rfl ?_
  intro b1 w2 E' S
  replace E := E.trans E'
  refine W_v (.bool false) (x_assign rfl) rfl (Wl_nil (tn (Wp_seq (Wp_seq (Wp_region_lit (W_v (pt b1 0) (x_fieldAddr (o := 0) (off := 0) Tryd.underlying42 rfl ty5 rfl rfl) rfl (W_v (.int .u8 a1.Kind) (x_load (S.blk 0 rfl) ty5 rfl rfl) rfl (Wl_nil (tn ?_)))))))))
  refine Wp_block ?_
  refine Wp_seq (Wp_seq (Wp_region_lit (W_v (.bool (a1.Kind == (2 : Int))) (x_ibin rfl rfl rfl rfl) rfl (W_v (.bool (a1.Kind == (2 : Int))) (x_assign rfl) rfl (Wl_nil (tn ?_))))))
  obtain ⟨o7, o7h, o7H⟩ := bindS H
  refine Wp_cut (fun ρ w' => ∃ (x6 : Bool), (x6) = o7 ∧ Agree ρ [(0, pt bo0 0), (3, pt b1 0), (6, .int .u8 a1.Kind), (7, .bool x6)] ∧ Ext w w' ∧ St w' M F [B42 b1 a1, B83 bo0 a0 A0_8 A0_9 A0_10 c0_10 A0_11, MapC enc_model_name (Value.int .i64) A0_8 a0.names, MapC (Value.int .i64) (Value.int .i64) A0_9 a0.many, Row r_model_tx 109 (.slice A0_10 a0.txs.length c0_10) a0.txs, MapC encS (fun v : Value => v) A0_11 vs0_11]) ?_ ?_
  · clear o7H
    have H := o7h
    rcases iteS H with ⟨hb8, H⟩ | ⟨hb8, H⟩
    · refine Wp_cond_true (congrArg Value.bool hb8) ?_
      refine Wp_skip (tn ?_)
      exact ⟨(a1.Kind == (2 : Int)), Option.some.inj H, ⟨rfl, rfl, rfl, rfl, trivial⟩, E, S.pick [0, 1, 2, 3, 4, 5] (by decide)⟩
    refine Wp_cond_false (congrArg Value.bool hb8) (Wp_region_lit (W_v (.bool (a1.Kind == (4 : Int))) (x_ibin rfl rfl rfl rfl) rfl (W_v (.bool (a1.Kind == (4 : Int))) (x_assign rfl) rfl (Wl_nil (tn ?_)))))
    exact ⟨(a1.Kind == (4 : Int)), Option.some.inj H, ⟨rfl, rfl, rfl, rfl, trivial⟩, E, S.pick [0, 1, 2, 3, 4, 5] (by decide)⟩
  as_aux_lemma =>
  rintro ρ w9 ⟨x6, rfl, hρ, E, S⟩
  rw [agree_eta hρ]
  have H := o7H
  refine tn ?_
  rcases iteS H with ⟨hb10, H⟩ | ⟨hb10, H⟩
  · refine Wp_cond_true (congrArg Value.bool hb10) ?_
    refine Wp_seq ?_
    refine Wp_region_any (S := fun w' => ∃ Mx, M.le Mx ∧ St w' Mx F [B42 b1 a1, B83 bo0 a0 A0_8 A0_9 A0_10 c0_10 A0_11, MapC enc_model_name (Value.int .i64) A0_8 a0.names, MapC (Value.int .i64) (Value.int .i64) A0_9 a0.many, Row r_model_tx 109 (.slice A0_10 a0.txs.length c0_10) a0.txs, MapC encS (fun v : Value => v) A0_11 vs0_11]) (L := 8) mixed ?_
    intro w14 hw15 E'
    replace S := S.heap hw15
    replace E := E.trans E'
    have D1 : ∃ Mx, Hp.le M Mx ∧ St _ Mx F [_, _, _, _, _, _] := ⟨_, Hp.le_refl _, S.pick [0, 1, 2, 3, 4, 5] (by decide)⟩
    refine Wa_take (i := 0) rfl (by kernel_rfl) rfl rfl (pt bo0 0) rfl (fun w' h' => x_move rfl) D1 (Wa_take (i := 1) rfl (by kernel_rfl) rfl rfl (pt bo0 0) rfl (fun w' h' => x_nilptr rfl) D1 (Wa_take (i := 2) rfl (by kernel_rfl) rfl rfl (pt bo0 0) rfl (fun w' h' => x_fieldAddr (o := 0) (off := 0) Tryd.underlying83 rfl ty23 rfl rfl) D1 (Wa_take (i := 3) rfl (by kernel_rfl) rfl rfl (.agg #[.int .i64 a0.c.Tasks, .int .i64 a0.c.Active, .int .i64 a0.c.Keys, .int .i64 a0.c.Depth, .int .i64 a0.c.TS, .int .i64 a0.c.KeyLen, .int .i64 a0.c.ValLen, .int .i64 a0.c.Fan]) rfl (fun w' h' => x_loadA (cls_blk h' 1 rfl) ty23 rfl (sub_of_extract rfl) rfl rfl) D1 (Wa_take (i := 4) rfl (by kernel_rfl) rfl rfl (pt b1 2) rfl (fun w' h' => x_fieldAddr (o := 0) (off := 2) Tryd.underlying42 rfl ty9 rfl rfl) D1 (Wa_take (i := 5) rfl (by kernel_rfl) rfl rfl (.string (bs a1.Key)) rfl (fun w' h' => x_load (cls_blk h' 0 rfl) ty9 rfl rfl) D1 ?_)))))
    refine Wa_solo (i := 6) rfl (by kernel_rfl) ?_
    obtain ⟨t16, ht17, H⟩ := bindS H
    refine W_callF fn48 (text_Key.con k M a0.c a1.Key t16  ht17) S rfl rfl (by rintro _ _ _ ⟨_, rfl⟩; exact flat_nil) ?_
    rintro _ w18 _ Γ' E' S ⟨rfl, rfl⟩
    replace E := E.trans E'
    refine Wl_nil (on_n ⟨.inr ⟨M, Hp.le_refl M, (S.pick [0, 1, 2, 3, 4, 5] (by decide))⟩, ?_⟩)
    refine Wa_take (i := 7) rfl (by kernel_rfl) rfl rfl (.bool t16) rfl (fun w' h' => x_assign rfl) (⟨M, Hp.le_refl M, (S.pick [0, 1, 2, 3, 4, 5] (by decide))⟩) ?_
    refine Wa_done (by kernel_rfl) ?_
    refine tn ?_
    refine Wp_ret ?_
    refine br (tr (?_))
    obtain rfl := Option.some.inj H
    exact ⟨_, _, _, fun w1 e1 => run_resR (vs := [.bool t16]) (FA.cons (rfl) (FA.nil)), HM, E, S.pick [1, 2, 3, 4, 5] (by decide), ⟨rfl, rfl⟩⟩
  refine Wp_cond_false (congrArg Value.bool hb10) (Wp_seq (Wp_region_lit (W_v (.bool (a1.Kind == (3 : Int))) (x_ibin rfl rfl rfl rfl) rfl (W_v (.bool (a1.Kind == (3 : Int))) (x_assign rfl) rfl (Wl_nil (tn ?_))))))
  rcases iteS H with ⟨hb19, H⟩ | ⟨hb19, H⟩
  · refine Wp_cond_true (congrArg Value.bool hb19) ?_
    refine Wp_seq ?_
    refine Wp_region_any (S := fun w' => ∃ Mx, M.le Mx ∧ St w' Mx F [B42 b1 a1, B83 bo0 a0 A0_8 A0_9 A0_10 c0_10 A0_11, MapC enc_model_name (Value.int .i64) A0_8 a0.names, MapC (Value.int .i64) (Value.int .i64) A0_9 a0.many, Row r_model_tx 109 (.slice A0_10 a0.txs.length c0_10) a0.txs, MapC encS (fun v : Value => v) A0_11 vs0_11]) (L := 17) mixed ?_
    intro w33 hw34 E'
    replace S := S.heap hw34
    replace E := E.trans E'
    have D3 : ∃ Mx, Hp.le M Mx ∧ St _ Mx F [_, _, _, _, _, _] := ⟨_, Hp.le_refl _, S.pick [0, 1, 2, 3, 4, 5] (by decide)⟩
    refine Wa_take (i := 0) rfl (by kernel_rfl) rfl rfl (pt bo0 0) rfl (fun w' h' => x_move rfl) D3 (Wa_take (i := 1) rfl (by kernel_rfl) rfl rfl (pt bo0 0) rfl (fun w' h' => x_nilptr rfl) D3 (Wa_take (i := 2) rfl (by kernel_rfl) rfl rfl (pt bo0 0) rfl (fun w' h' => x_fieldAddr (o := 0) (off := 0) Tryd.underlying83 rfl ty23 rfl rfl) D3 (Wa_take (i := 3) rfl (by kernel_rfl) rfl rfl (.agg #[.int .i64 a0.c.Tasks, .int .i64 a0.c.Active, .int .i64 a0.c.Keys, .int .i64 a0.c.Depth, .int .i64 a0.c.TS, .int .i64 a0.c.KeyLen, .int .i64 a0.c.ValLen, .int .i64 a0.c.Fan]) rfl (fun w' h' => x_loadA (cls_blk h' 1 rfl) ty23 rfl (sub_of_extract rfl) rfl rfl) D3 (Wa_take (i := 4) rfl (by kernel_rfl) rfl rfl (pt b1 2) rfl (fun w' h' => x_fieldAddr (o := 0) (off := 2) Tryd.underlying42 rfl ty9 rfl rfl) D3 (Wa_take (i := 5) rfl (by kernel_rfl) rfl rfl (.string (bs a1.Key)) rfl (fun w' h' => x_load (cls_blk h' 0 rfl) ty9 rfl rfl) D3 ?_)))))
    refine Wa_solo (i := 6) rfl (by kernel_rfl) ?_
    obtain ⟨t35, ht36, H⟩ := bindS H
    refine W_callF fn48 (text_Key.con k M a0.c a1.Key t35  ht36) S rfl rfl (by rintro _ _ _ ⟨_, rfl⟩; exact flat_nil) ?_
    rintro _ w37 _ Γ' E' S ⟨rfl, rfl⟩
    replace E := E.trans E'
    refine Wl_nil (on_n ⟨.inr ⟨M, Hp.le_refl M, (S.pick [0, 1, 2, 3, 4, 5] (by decide))⟩, ?_⟩)
    refine Wa_take (i := 7) rfl (by kernel_rfl) rfl rfl (.bool t35) rfl (fun w' h' => x_move rfl) (⟨M, Hp.le_refl M, (S.pick [0, 1, 2, 3, 4, 5] (by decide))⟩) ?_
    obtain ⟨o43, o43h, o43H⟩ := bindS H
    refine Wa_join (fun ρ w' => ∃ (x42 : Bool), (x42) = o43 ∧ Agree ρ [(34, .bool x42)] ∧ Ext w w' ∧ St w' M F [B42 b1 a1, B83 bo0 a0 A0_8 A0_9 A0_10 c0_10 A0_11, MapC enc_model_name (Value.int .i64) A0_8 a0.names, MapC (Value.int .i64) (Value.int .i64) A0_9 a0.many, Row r_model_tx 109 (.slice A0_10 a0.txs.length c0_10) a0.txs, MapC encS (fun v : Value => v) A0_11 vs0_11]) 1 (Ls 17 [0, 1, 2, 3, 4, 5, 6, 7, 8, 9, 10, 11, 12, 13, 14, 15]) ?_ ?_
    rotate_left
    · intro hrest
      have H := o43h
      rcases iteS H with ⟨hb41, H⟩ | ⟨hb41, H⟩
      · skip
        have D5 : ∃ Mx, Hp.le M Mx ∧ St _ Mx F [_, _, _, _, _, _] := ⟨_, Hp.le_refl _, S.pick [0, 1, 2, 3, 4, 5] (by decide)⟩
        refine Wa_takeY (i := 8) rfl (by kernel_rfl) rfl rfl (pt bo0 0) rfl (congrArg some hb41) (fun w' h' => x_move rfl) D5 (Wa_takeY (i := 9) rfl (by kernel_rfl) rfl rfl (pt bo0 0) rfl (congrArg some hb41) (fun w' h' => x_nilptr rfl) D5 (Wa_takeY (i := 10) rfl (by kernel_rfl) rfl rfl (pt bo0 0) rfl (congrArg some hb41) (fun w' h' => x_fieldAddr (o := 0) (off := 0) Tryd.underlying83 rfl ty23 rfl rfl) D5 (Wa_takeY (i := 11) rfl (by kernel_rfl) rfl rfl (.agg #[.int .i64 a0.c.Tasks, .int .i64 a0.c.Active, .int .i64 a0.c.Keys, .int .i64 a0.c.Depth, .int .i64 a0.c.TS, .int .i64 a0.c.KeyLen, .int .i64 a0.c.ValLen, .int .i64 a0.c.Fan]) rfl (congrArg some hb41) (fun w' h' => x_loadA (cls_blk h' 1 rfl) ty23 rfl (sub_of_extract rfl) rfl rfl) D5 (Wa_takeY (i := 12) rfl (by kernel_rfl) rfl rfl (pt b1 4) rfl (congrArg some hb41) (fun w' h' => x_fieldAddr (o := 0) (off := 4) Tryd.underlying42 rfl ty9 rfl rfl) D5 (Wa_takeY (i := 13) rfl (by kernel_rfl) rfl rfl (.string (bs a1.Value)) rfl (congrArg some hb41) (fun w' h' => x_load (cls_blk h' 0 rfl) ty9 rfl rfl) D5 ?_)))))
        refine Wa_solo (i := 14) rfl (by kernel_rfl) ?_
        refine W_yes (congrArg some hb41) ?_
        obtain ⟨t44, ht45, H⟩ := bindS H
        refine W_callF fn49 (text_Value.con k M a0.c a1.Value t44  ht45) S rfl rfl (by rintro _ _ _ ⟨_, rfl⟩; exact flat_nil) ?_
        rintro _ w46 _ Γ' E' S ⟨rfl, rfl⟩
        replace E := E.trans E'
        refine Wl_nil (on_n ⟨.inr ⟨M, Hp.le_refl M, (S.pick [0, 1, 2, 3, 4, 5] (by decide))⟩, ?_⟩)
        refine Wa_take (i := 15) rfl (by kernel_rfl) rfl rfl (.bool t44) rfl (fun w' h' => x_pick (k := true) (congrArg Value.bool hb41) rfl) (⟨M, Hp.le_refl M, (S.pick [0, 1, 2, 3, 4, 5] (by decide))⟩) ?_
        exact hrest _ _ ⟨t44, Option.some.inj H, ⟨rfl, trivial⟩, E, S.pick [0, 1, 2, 3, 4, 5] (by decide)⟩
      · skip
        have D7 : ∃ Mx, Hp.le M Mx ∧ St _ Mx F [_, _, _, _, _, _] := ⟨_, Hp.le_refl _, S.pick [0, 1, 2, 3, 4, 5] (by decide)⟩
        refine Wa_takeN (i := 8) rfl (by kernel_rfl) rfl rfl rfl (skT hb41) D7 (Wa_takeN (i := 9) rfl (by kernel_rfl) rfl rfl rfl (skT hb41) D7 (Wa_takeN (i := 10) rfl (by kernel_rfl) rfl rfl rfl (skT hb41) D7 (Wa_takeN (i := 11) rfl (by kernel_rfl) rfl rfl rfl (skT hb41) D7 (Wa_takeN (i := 12) rfl (by kernel_rfl) rfl rfl rfl (skT hb41) D7 (Wa_takeN (i := 13) rfl (by kernel_rfl) rfl rfl rfl (skT hb41) D7 (Wa_takeN (i := 14) rfl (by kernel_rfl) rfl rfl rfl (skT hb41) D7 (Wa_take (i := 15) rfl (by kernel_rfl) rfl rfl (.bool false) rfl (fun w' h' => x_pick (k := false) (congrArg Value.bool hb41) rfl) D7 ?_)))))))
        exact hrest _ _ ⟨false, Option.some.inj H, ⟨rfl, trivial⟩, E, S.pick [0, 1, 2, 3, 4, 5] (by decide)⟩
    rintro ρ w47 ⟨x42, rfl, hρ, E, S⟩
    rw [agree_eta hρ]
    have H := o43H
    refine Wa_take (i := 16) rfl (by kernel_rfl) rfl rfl (.bool x42) rfl (fun w' h' => x_assign rfl) (⟨M, Hp.le_refl M, (S.pick [0, 1, 2, 3, 4, 5] (by decide))⟩) ?_
    refine Wa_done (by kernel_rfl) ?_
    refine tn ?_
    refine Wp_ret ?_
    refine br (tr (?_))
    obtain rfl := Option.some.inj H
    exact ⟨_, _, _, fun w1 e1 => run_resR (vs := [.bool x42]) (FA.cons (rfl) (FA.nil)), HM, E, S.pick [1, 2, 3, 4, 5] (by decide), ⟨rfl, rfl⟩⟩
  refine Wp_cond_false (congrArg Value.bool hb19) ?_
  as_aux_lemma =>
  refine Wp_seq (Wp_region_lit (W_v (.bool (a1.Kind == (5 : Int))) (x_ibin rfl rfl rfl rfl) rfl (W_v (.bool (a1.Kind == (5 : Int))) (x_assign rfl) rfl (Wl_nil (tn ?_)))))
  rcases iteS H with ⟨hb48, H⟩ | ⟨hb48, H⟩
  · refine Wp_cond_true (congrArg Value.bool hb48) ?_
    refine Wp_seq ?_
    refine Wp_region_any (S := fun w' => ∃ Mx, M.le Mx ∧ St w' Mx F [B42 b1 a1, B83 bo0 a0 A0_8 A0_9 A0_10 c0_10 A0_11, MapC enc_model_name (Value.int .i64) A0_8 a0.names, MapC (Value.int .i64) (Value.int .i64) A0_9 a0.many, Row r_model_tx 109 (.slice A0_10 a0.txs.length c0_10) a0.txs, MapC encS (fun v : Value => v) A0_11 vs0_11]) (L := 27) mixed ?_
    intro w64 hw65 E'
    replace S := S.heap hw65
    replace E := E.trans E'
    have D9 : ∃ Mx, Hp.le M Mx ∧ St _ Mx F [_, _, _, _, _, _] := ⟨_, Hp.le_refl _, S.pick [0, 1, 2, 3, 4, 5] (by decide)⟩
    refine Wa_take (i := 0) rfl (by kernel_rfl) rfl rfl (pt bo0 0) rfl (fun w' h' => x_move rfl) D9 (Wa_take (i := 1) rfl (by kernel_rfl) rfl rfl (pt bo0 0) rfl (fun w' h' => x_nilptr rfl) D9 (Wa_take (i := 2) rfl (by kernel_rfl) rfl rfl (pt bo0 0) rfl (fun w' h' => x_fieldAddr (o := 0) (off := 0) Tryd.underlying83 rfl ty23 rfl rfl) D9 (Wa_take (i := 3) rfl (by kernel_rfl) rfl rfl (.agg #[.int .i64 a0.c.Tasks, .int .i64 a0.c.Active, .int .i64 a0.c.Keys, .int .i64 a0.c.Depth, .int .i64 a0.c.TS, .int .i64 a0.c.KeyLen, .int .i64 a0.c.ValLen, .int .i64 a0.c.Fan]) rfl (fun w' h' => x_loadA (cls_blk h' 1 rfl) ty23 rfl (sub_of_extract rfl) rfl rfl) D9 (Wa_take (i := 4) rfl (by kernel_rfl) rfl rfl (pt b1 2) rfl (fun w' h' => x_fieldAddr (o := 0) (off := 2) Tryd.underlying42 rfl ty9 rfl rfl) D9 (Wa_take (i := 5) rfl (by kernel_rfl) rfl rfl (.string (bs a1.Key)) rfl (fun w' h' => x_load (cls_blk h' 0 rfl) ty9 rfl rfl) D9 ?_)))))
    refine Wa_solo (i := 6) rfl (by kernel_rfl) ?_
    obtain ⟨t66, ht67, H⟩ := bindS H
    refine W_callF fn50 (text_Bound.con k M a0.c a1.Key t66  ht67) S rfl rfl (by rintro _ _ _ ⟨_, rfl⟩; exact flat_nil) ?_
    rintro _ w68 _ Γ' E' S ⟨rfl, rfl⟩
    replace E := E.trans E'
    refine Wl_nil (on_n ⟨.inr ⟨M, Hp.le_refl M, (S.pick [0, 1, 2, 3, 4, 5] (by decide))⟩, ?_⟩)
    refine Wa_take (i := 7) rfl (by kernel_rfl) rfl rfl (.bool t66) rfl (fun w' h' => x_move rfl) (⟨M, Hp.le_refl M, (S.pick [0, 1, 2, 3, 4, 5] (by decide))⟩) ?_
    obtain ⟨o74, o74h, o74H⟩ := bindS H
    refine Wa_join (fun ρ w' => ∃ (x73 : Bool), (x73) = o74 ∧ Agree ρ [(3, pt b1 0), (52, .bool x73)] ∧ Ext w w' ∧ St w' M F [B42 b1 a1, B83 bo0 a0 A0_8 A0_9 A0_10 c0_10 A0_11, MapC enc_model_name (Value.int .i64) A0_8 a0.names, MapC (Value.int .i64) (Value.int .i64) A0_9 a0.many, Row r_model_tx 109 (.slice A0_10 a0.txs.length c0_10) a0.txs, MapC encS (fun v : Value => v) A0_11 vs0_11]) 11 (Ls 27 [0, 1, 2, 3, 4, 5, 6, 7, 8, 9, 10, 11, 12, 13, 14, 15]) ?_ ?_
    rotate_left
    · intro hrest
      have H := o74h
      rcases iteS H with ⟨hb72, H⟩ | ⟨hb72, H⟩
      · skip
        have D11 : ∃ Mx, Hp.le M Mx ∧ St _ Mx F [_, _, _, _, _, _] := ⟨_, Hp.le_refl _, S.pick [0, 1, 2, 3, 4, 5] (by decide)⟩
        refine Wa_takeY (i := 8) rfl (by kernel_rfl) rfl rfl (pt bo0 0) rfl (congrArg some hb72) (fun w' h' => x_move rfl) D11 (Wa_takeY (i := 9) rfl (by kernel_rfl) rfl rfl (pt bo0 0) rfl (congrArg some hb72) (fun w' h' => x_nilptr rfl) D11 (Wa_takeY (i := 10) rfl (by kernel_rfl) rfl rfl (pt bo0 0) rfl (congrArg some hb72) (fun w' h' => x_fieldAddr (o := 0) (off := 0) Tryd.underlying83 rfl ty23 rfl rfl) D11 (Wa_takeY (i := 11) rfl (by kernel_rfl) rfl rfl (.agg #[.int .i64 a0.c.Tasks, .int .i64 a0.c.Active, .int .i64 a0.c.Keys, .int .i64 a0.c.Depth, .int .i64 a0.c.TS, .int .i64 a0.c.KeyLen, .int .i64 a0.c.ValLen, .int .i64 a0.c.Fan]) rfl (congrArg some hb72) (fun w' h' => x_loadA (cls_blk h' 1 rfl) ty23 rfl (sub_of_extract rfl) rfl rfl) D11 (Wa_takeY (i := 12) rfl (by kernel_rfl) rfl rfl (pt b1 3) rfl (congrArg some hb72) (fun w' h' => x_fieldAddr (o := 0) (off := 3) Tryd.underlying42 rfl ty9 rfl rfl) D11 (Wa_takeY (i := 13) rfl (by kernel_rfl) rfl rfl (.string (bs a1.End)) rfl (congrArg some hb72) (fun w' h' => x_load (cls_blk h' 0 rfl) ty9 rfl rfl) D11 ?_)))))
        refine Wa_solo (i := 14) rfl (by kernel_rfl) ?_
        refine W_yes (congrArg some hb72) ?_
        obtain ⟨t75, ht76, H⟩ := bindS H
        refine W_callF fn50 (text_Bound.con k M a0.c a1.End t75  ht76) S rfl rfl (by rintro _ _ _ ⟨_, rfl⟩; exact flat_nil) ?_
        rintro _ w77 _ Γ' E' S ⟨rfl, rfl⟩
        replace E := E.trans E'
        refine Wl_nil (on_n ⟨.inr ⟨M, Hp.le_refl M, (S.pick [0, 1, 2, 3, 4, 5] (by decide))⟩, ?_⟩)
        refine Wa_take (i := 15) rfl (by kernel_rfl) rfl rfl (.bool t75) rfl (fun w' h' => x_pick (k := true) (congrArg Value.bool hb72) rfl) (⟨M, Hp.le_refl M, (S.pick [0, 1, 2, 3, 4, 5] (by decide))⟩) ?_
        exact hrest _ _ ⟨t75, Option.some.inj H, ⟨rfl, rfl, trivial⟩, E, S.pick [0, 1, 2, 3, 4, 5] (by decide)⟩
      · skip
        have D13 : ∃ Mx, Hp.le M Mx ∧ St _ Mx F [_, _, _, _, _, _] := ⟨_, Hp.le_refl _, S.pick [0, 1, 2, 3, 4, 5] (by decide)⟩
        refine Wa_takeN (i := 8) rfl (by kernel_rfl) rfl rfl rfl (skT hb72) D13 (Wa_takeN (i := 9) rfl (by kernel_rfl) rfl rfl rfl (skT hb72) D13 (Wa_takeN (i := 10) rfl (by kernel_rfl) rfl rfl rfl (skT hb72) D13 (Wa_takeN (i := 11) rfl (by kernel_rfl) rfl rfl rfl (skT hb72) D13 (Wa_takeN (i := 12) rfl (by kernel_rfl) rfl rfl rfl (skT hb72) D13 (Wa_takeN (i := 13) rfl (by kernel_rfl) rfl rfl rfl (skT hb72) D13 (Wa_takeN (i := 14) rfl (by kernel_rfl) rfl rfl rfl (skT hb72) D13 (Wa_take (i := 15) rfl (by kernel_rfl) rfl rfl (.bool false) rfl (fun w' h' => x_pick (k := false) (congrArg Value.bool hb72) rfl) D13 ?_)))))))
        exact hrest _ _ ⟨false, Option.some.inj H, ⟨rfl, rfl, trivial⟩, E, S.pick [0, 1, 2, 3, 4, 5] (by decide)⟩
    rintro ρ w78 ⟨x73, rfl, hρ, E, S⟩
    rw [agree_eta hρ]
    have H := o74H
    refine Wa_take (i := 16) rfl (by kernel_rfl) rfl rfl (.bool x73) rfl (fun w' h' => x_move rfl) (⟨M, Hp.le_refl M, (S.pick [0, 1, 2, 3, 4, 5] (by decide))⟩) ?_
    refine Wa_join (fun ρ w' => Agree ρ [(3, pt b1 0), (57, .bool (x73 && (decide (a1.Limit ≥ (0 : Int)))))] ∧ w78 = w') 6 (Ls 27 [0, 1, 2, 3, 4, 5, 6, 7, 8, 9, 10, 11, 12, 13, 14, 15, 16, 17, 18, 19, 20]) ?_ ?_
    rotate_left
    · intro hrest
      rcases boolCases x73 with hb79 | hb79
      · skip
        have D15 : ∃ Mx, Hp.le M Mx ∧ St _ Mx F [_, _, _, _, _, _] := ⟨_, Hp.le_refl _, S.pick [0, 1, 2, 3, 4, 5] (by decide)⟩
        refine Wa_takeN (i := 17) rfl (by kernel_rfl) rfl rfl rfl (skT hb79) D15 (Wa_takeN (i := 18) rfl (by kernel_rfl) rfl rfl rfl (skT hb79) D15 (Wa_takeN (i := 19) rfl (by kernel_rfl) rfl rfl rfl (skT hb79) D15 (Wa_take (i := 20) rfl (by kernel_rfl) rfl rfl (.bool false) rfl (fun w' h' => x_pick (k := false) (congrArg Value.bool hb79) rfl) D15 ?_)))
        exact hrest _ _ ⟨⟨rfl, (by first | rfl | (rw [hb79]; rfl) | (simp only [hb79]; rfl)), trivial⟩, rfl⟩
      · skip
        have D16 : ∃ Mx, Hp.le M Mx ∧ St _ Mx F [_, _, _, _, _, _] := ⟨_, Hp.le_refl _, S.pick [0, 1, 2, 3, 4, 5] (by decide)⟩
        refine Wa_takeY (i := 17) rfl (by kernel_rfl) rfl rfl (pt b1 5) rfl (congrArg some hb79) (fun w' h' => x_fieldAddr (o := 0) (off := 5) Tryd.underlying42 rfl ty3 rfl rfl) D16 (Wa_takeY (i := 18) rfl (by kernel_rfl) rfl rfl (.int .i64 a1.Limit) rfl (congrArg some hb79) (fun w' h' => x_load (cls_blk h' 0 rfl) ty3 rfl rfl) D16 (Wa_takeY (i := 19) rfl (by kernel_rfl) rfl rfl (.bool (decide (a1.Limit ≥ (0 : Int)))) rfl (congrArg some hb79) (fun w' h' => x_ibin rfl rfl rfl rfl) D16 (Wa_take (i := 20) rfl (by kernel_rfl) rfl rfl (.bool (decide (a1.Limit ≥ (0 : Int)))) rfl (fun w' h' => x_pick (k := true) (congrArg Value.bool hb79) rfl) D16 ?_)))
        exact hrest _ _ ⟨⟨rfl, (by first | rfl | (rw [hb79]; rfl) | (simp only [hb79]; rfl)), trivial⟩, rfl⟩
    rintro ρ _ ⟨hρ, rfl⟩
    rw [agree_eta hρ]
    refine Wa_take (i := 21) rfl (by kernel_rfl) rfl rfl (.bool (x73 && (decide (a1.Limit ≥ (0 : Int))))) rfl (fun w' h' => x_move rfl) (⟨M, Hp.le_refl M, (S.pick [0, 1, 2, 3, 4, 5] (by decide))⟩) ?_
    refine Wa_join (fun ρ w' => Agree ρ [(62, .bool ((x73 && (decide (a1.Limit ≥ (0 : Int)))) && (decide (a1.Limit ≤ (128 : Int)))))] ∧ w78 = w') 1 (Ls 27 [0, 1, 2, 3, 4, 5, 6, 7, 8, 9, 10, 11, 12, 13, 14, 15, 16, 17, 18, 19, 20, 21, 22, 23, 24, 25]) ?_ ?_
    rotate_left
    · intro hrest
      rcases boolCases (x73 && (decide (a1.Limit ≥ (0 : Int)))) with hb80 | hb80
      · skip
        have D18 : ∃ Mx, Hp.le M Mx ∧ St _ Mx F [_, _, _, _, _, _] := ⟨_, Hp.le_refl _, S.pick [0, 1, 2, 3, 4, 5] (by decide)⟩
        refine Wa_takeN (i := 22) rfl (by kernel_rfl) rfl rfl rfl (skT hb80) D18 (Wa_takeN (i := 23) rfl (by kernel_rfl) rfl rfl rfl (skT hb80) D18 (Wa_takeN (i := 24) rfl (by kernel_rfl) rfl rfl rfl (skT hb80) D18 (Wa_take (i := 25) rfl (by kernel_rfl) rfl rfl (.bool false) rfl (fun w' h' => x_pick (k := false) (congrArg Value.bool hb80) rfl) D18 ?_)))
        exact hrest _ _ ⟨⟨(by first | rfl | (rw [hb80]; rfl) | (simp only [hb80]; rfl)), trivial⟩, rfl⟩
      · skip
        have D19 : ∃ Mx, Hp.le M Mx ∧ St _ Mx F [_, _, _, _, _, _] := ⟨_, Hp.le_refl _, S.pick [0, 1, 2, 3, 4, 5] (by decide)⟩
        refine Wa_takeY (i := 22) rfl (by kernel_rfl) rfl rfl (pt b1 5) rfl (congrArg some hb80) (fun w' h' => x_fieldAddr (o := 0) (off := 5) Tryd.underlying42 rfl ty3 rfl rfl) D19 (Wa_takeY (i := 23) rfl (by kernel_rfl) rfl rfl (.int .i64 a1.Limit) rfl (congrArg some hb80) (fun w' h' => x_load (cls_blk h' 0 rfl) ty3 rfl rfl) D19 (Wa_takeY (i := 24) rfl (by kernel_rfl) rfl rfl (.bool (decide (a1.Limit ≤ (128 : Int)))) rfl (congrArg some hb80) (fun w' h' => x_ibin rfl rfl rfl rfl) D19 (Wa_take (i := 25) rfl (by kernel_rfl) rfl rfl (.bool (decide (a1.Limit ≤ (128 : Int)))) rfl (fun w' h' => x_pick (k := true) (congrArg Value.bool hb80) rfl) D19 ?_)))
        exact hrest _ _ ⟨⟨(by first | rfl | (rw [hb80]; rfl) | (simp only [hb80]; rfl)), trivial⟩, rfl⟩
    rintro ρ _ ⟨hρ, rfl⟩
    rw [agree_eta hρ]
    refine Wa_take (i := 26) rfl (by kernel_rfl) rfl rfl (.bool ((x73 && (decide (a1.Limit ≥ (0 : Int)))) && (decide (a1.Limit ≤ (128 : Int))))) rfl (fun w' h' => x_assign rfl) (⟨M, Hp.le_refl M, (S.pick [0, 1, 2, 3, 4, 5] (by decide))⟩) ?_
    refine Wa_done (by kernel_rfl) ?_
    refine tn ?_
    refine Wp_ret ?_
    refine br (tr (?_))
    obtain rfl := Option.some.inj H
    exact ⟨_, _, _, fun w1 e1 => run_resR (vs := [.bool ((x73 && (decide (a1.Limit ≥ (0 : Int)))) && (decide (a1.Limit ≤ (128 : Int))))]) (FA.cons (rfl) (FA.nil)), HM, E, S.pick [1, 2, 3, 4, 5] (by decide), ⟨rfl, rfl⟩⟩
  refine Wp_cond_false (congrArg Value.bool hb48) (Wp_skip (bn (tn ?_)))
  as_aux_lemma =>
  refine Wp_seq (Wp_region_lit (W_v (.bool true) (x_assign rfl) rfl (Wl_nil (tn ?_))))
  refine Wp_ret ?_
  obtain rfl := Option.some.inj H
  exact ⟨_, _, _, fun w1 e1 => run_resR (vs := [.bool true]) (FA.cons (rfl) (FA.nil)), HM, E, S.pick [1, 2, 3, 4, 5] (by decide), ⟨rfl, rfl⟩⟩
def model_Model_Refused_POOOO (k : Nat) (a0 : model_Model) (a1 : Int) (a2 : api_Call) : Option (Int) :=
  (if ((((decide (a1 < (0 : Int))) || (decide (a1 ≥ a0.c.Tasks))) || (decide (a2.Kind < (1 : Int)))) || (decide (a2.Kind > (9 : Int)))) = true then some (1 : Int) else (if (((a2.Kind == (9 : Int)) && (a2.Engine != (1 : Int))) && (a2.Engine != (2 : Int))) = true then some (1 : Int) else (Option.bind (model_needs k a2.Kind) (fun t11 => (if t11 = true then (Option.bind (model_Model_Tx_POOOO k a0 a1 a2.Tx) (fun t15 => (if (t15.2.1 == (1 : Int)) = true then (Option.bind (model_Model_fits_POOOO k a0 a2) (fun t21 => (if (!t21) = true then some (32 : Int) else some (0 : Int)))) else (if (t15.2.1 == (0 : Int)) = true then some (30 : Int) else some (31 : Int))))) else (Option.bind (model_Model_fits_POOOO k a0 a2) (fun t28 => (if (!t28) = true then some (32 : Int) else some (0 : Int)))))))))
set_option maxHeartbeats 2000000 in
theorem model_Model_Refused_POOOO.mono {k : Nat} {a0 : model_Model} {a1 : Int} {a2 : api_Call} : OLe (model_Model_Refused_POOOO k a0 a1 a2) (model_Model_Refused_POOOO (k + 1) a0 a1 a2) := by
  unfold model_Model_Refused_POOOO
  repeat' (first | with_reducible exact OLe.none | with_reducible exact OLe.some | with_reducible refine OLe.ite ?_ ?_ | with_reducible refine OLe.bind ?_ (fun _ => ?_) | with_reducible exact model_Model_Tx_POOOO.mono | with_reducible exact model_Model_fits_POOOO.mono | with_reducible exact model_needs.mono | refine OLe.bind ?_ (fun _ => ?_) | refine OLe.ite ?_ ?_ | refine OLe.elim (fun _ => ?_) (fun _ => ?_) | split)
set_option maxHeartbeats 4000000 in
set_option maxRecDepth 100000 in
theorem model_Model_Refused_POOOO.con (k : Nat) (M : Hp) (A0_8 : Option Addr) (c0_8 : Nat) (A0_9 : Option Addr) (c0_9 : Nat) (A0_10 : Option Addr) (c0_10 : Nat) (A0_11 : Option Addr) (c0_11 : Nat) (vs0_11 : List (Str × Value)) (a0 : model_Model) (a1 : Int) (a2 : api_Call) (bo0 : Nat) (r : Int) (hm0_11 : MRel r_model_row M a0.rows vs0_11) (h : model_Model_Refused_POOOO k a0 a1 a2 = some r) : Con Tryd.prog 29 #[pt bo0 0, .int .i64 a1, .agg #[.int .u8 a2.Kind, .int .i64 a2.Tx, .string (bs a2.Key), .string (bs a2.End), .string (bs a2.Value), .int .i64 a2.Limit, .int .u8 a2.Engine]] M [B83 bo0 a0 A0_8 A0_9 A0_10 c0_10 A0_11, MapC enc_model_name (Value.int .i64) A0_8 a0.names, MapC (Value.int .i64) (Value.int .i64) A0_9 a0.many, Row r_model_tx 109 (.slice A0_10 a0.txs.length c0_10) a0.txs, MapC encS (fun v : Value => v) A0_11 vs0_11] (fun v M' Γ' => v = .int .i64 r ∧ Γ' = [B83 bo0 a0 A0_8 A0_9 A0_10 c0_10 A0_11, MapC enc_model_name (Value.int .i64) A0_8 a0.names, MapC (Value.int .i64) (Value.int .i64) A0_9 a0.many, Row r_model_tx 109 (.slice A0_10 a0.txs.length c0_10) a0.txs, MapC encS (fun v : Value => v) A0_11 vs0_11]) := by
  refine con_of_wp Tryd.func29 rfl Tryd.ntmps29 Tryd.results29 rfl ?_
  intro w F rn S hrn
  have E := Ext.refl w
  have HM := Hp.le_refl M
  have H := h
  unfold model_Model_Refused_POOOO at H
  refine Wp_seq (Wp_region_lit ?_)
  refine W_box S #[.int .u8 a2.Kind, .int .i64 a2.Tx, .string (bs a2.Key), .string (bs a2.End), .string (bs a2.Value), .int .i64 a2.Limit, .int .u8 a2.Engine] rfl rfl rfl ?_
  intro b1 w2 E' S
  replace E := E.trans E'
  refine W_v (.int .i64 0) (x_assign rfl) rfl (Wl_nil (tn (Wp_seq ?_)))
  refine Wp_block ?_
  refine Wp_seq (Wp_region_lit (W_v (pt bo0 0) (x_move rfl) rfl (W_v (.bool false) (x_eq_of (r := false) rfl rfl (run_eq_ptrsn Tryd.underlying54)) rfl (W_v (.bool false) (x_assign rfl) rfl (Wl_nil (tn (Wp_cond_false rfl (Wp_seq (Wp_region_lit (W_v (.int .i64 a1) (x_move rfl) rfl (W_v (.bool (decide (a1 < (0 : Int)))) (x_ibin rfl rfl rfl rfl) rfl (W_v (.bool (decide (a1 < (0 : Int)))) (x_move rfl) rfl ?_))))))))))))
  refine Wl_cutN 8 (fun ρ w' => Agree ρ [(0, pt bo0 0), (1, .int .i64 a1), (5, pt b1 0), (24, .bool ((decide (a1 < (0 : Int))) || (decide (a1 ≥ a0.c.Tasks))))] ∧ w2 = w') ?_ ?_
  · rcases boolCases (decide (a1 < (0 : Int))) with hb4 | hb4
    · skip
      refine W_yes (congrArg some hb4) (W_v (.int .i64 a1) (x_move rfl) rfl (W_yes (congrArg some hb4) (W_v (pt bo0 0) (x_move rfl) rfl (W_yes (congrArg some hb4) (W_v (pt bo0 0) (x_nilptr rfl) rfl (W_yes (congrArg some hb4) (W_v (pt bo0 0) (x_fieldAddr (o := 0) (off := 0) Tryd.underlying83 rfl ty23 rfl rfl) rfl (W_yes (congrArg some hb4) (W_v (pt bo0 0) (x_fieldAddr (o := 0) (off := 0) Tryd.underlying23 rfl ty3 rfl rfl) rfl (W_yes (congrArg some hb4) (W_v (.int .i64 a0.c.Tasks) (x_load (S.blk 1 rfl) ty3 rfl rfl) rfl (W_yes (congrArg some hb4) (W_v (.bool (decide (a1 ≥ a0.c.Tasks))) (x_ibin rfl rfl rfl rfl) rfl (W_v (.bool (decide (a1 ≥ a0.c.Tasks))) (x_pick (k := false) (congrArg Value.bool hb4) rfl) rfl (Wl_nil ?_)))))))))))))))
      exact ⟨⟨rfl, rfl, rfl, (by first | rfl | (rw [hb4]; rfl) | (simp only [hb4]; rfl)), trivial⟩, rfl⟩
    · skip
      refine W_no (skF hb4) rfl (W_no (skF hb4) rfl (W_no (skF hb4) rfl (W_no (skF hb4) rfl (W_no (skF hb4) rfl (W_no (skF hb4) rfl (W_no (skF hb4) rfl (W_v (.bool true) (x_pick (k := true) (congrArg Value.bool hb4) rfl) rfl (Wl_nil ?_))))))))
      exact ⟨⟨rfl, rfl, rfl, (by first | rfl | (rw [hb4]; rfl) | (simp only [hb4]; rfl)), trivial⟩, rfl⟩
  as_aux_lemma =>
  rintro ρ _ ⟨hρ, rfl⟩
  rw [agree_eta hρ]
  refine W_v (.bool ((decide (a1 < (0 : Int))) || (decide (a1 ≥ a0.c.Tasks)))) (x_move rfl) rfl ?_
  refine Wl_cutN 4 (fun ρ w' => Agree ρ [(0, pt bo0 0), (1, .int .i64 a1), (5, pt b1 0), (29, .bool (((decide (a1 < (0 : Int))) || (decide (a1 ≥ a0.c.Tasks))) || (decide (a2.Kind < (1 : Int)))))] ∧ w2 = w') ?_ ?_
  · rcases boolCases ((decide (a1 < (0 : Int))) || (decide (a1 ≥ a0.c.Tasks))) with hb5 | hb5
    · skip
      refine W_yes (congrArg some hb5) (W_v (pt b1 0) (x_fieldAddr (o := 0) (off := 0) Tryd.underlying42 rfl ty5 rfl rfl) rfl (W_yes (congrArg some hb5) (W_v (.int .u8 a2.Kind) (x_load (S.blk 0 rfl) ty5 rfl rfl) rfl (W_yes (congrArg some hb5) (W_v (.bool (decide (a2.Kind < (1 : Int)))) (x_ibin rfl rfl rfl rfl) rfl (W_v (.bool (decide (a2.Kind < (1 : Int)))) (x_pick (k := false) (congrArg Value.bool hb5) rfl) rfl (Wl_nil ?_)))))))
      exact ⟨⟨rfl, rfl, rfl, (by first | rfl | (rw [hb5]; rfl) | (simp only [hb5]; rfl)), trivial⟩, rfl⟩
    · skip
      refine W_no (skF hb5) rfl (W_no (skF hb5) rfl (W_no (skF hb5) rfl (W_v (.bool true) (x_pick (k := true) (congrArg Value.bool hb5) rfl) rfl (Wl_nil ?_))))
      exact ⟨⟨rfl, rfl, rfl, (by first | rfl | (rw [hb5]; rfl) | (simp only [hb5]; rfl)), trivial⟩, rfl⟩
  as_aux_lemma =>
  rintro ρ _ ⟨hρ, rfl⟩
  rw [agree_eta hρ]
  refine W_v (.bool (((decide (a1 < (0 : Int))) || (decide (a1 ≥ a0.c.Tasks))) || (decide (a2.Kind < (1 : Int))))) (x_move rfl) rfl ?_
  refine Wl_cutN 4 (fun ρ w' => Agree ρ [(0, pt bo0 0), (1, .int .i64 a1), (5, pt b1 0), (34, .bool ((((decide (a1 < (0 : Int))) || (decide (a1 ≥ a0.c.Tasks))) || (decide (a2.Kind < (1 : Int)))) || (decide (a2.Kind > (9 : Int)))))] ∧ w2 = w') ?_ ?_
  · rcases boolCases (((decide (a1 < (0 : Int))) || (decide (a1 ≥ a0.c.Tasks))) || (decide (a2.Kind < (1 : Int)))) with hb6 | hb6
    · skip
      refine W_yes (congrArg some hb6) (W_v (pt b1 0) (x_fieldAddr (o := 0) (off := 0) Tryd.underlying42 rfl ty5 rfl rfl) rfl (W_yes (congrArg some hb6) (W_v (.int .u8 a2.Kind) (x_load (S.blk 0 rfl) ty5 rfl rfl) rfl (W_yes (congrArg some hb6) (W_v (.bool (decide (a2.Kind > (9 : Int)))) (x_ibin rfl rfl rfl rfl) rfl (W_v (.bool (decide (a2.Kind > (9 : Int)))) (x_pick (k := false) (congrArg Value.bool hb6) rfl) rfl (Wl_nil ?_)))))))
      exact ⟨⟨rfl, rfl, rfl, (by first | rfl | (rw [hb6]; rfl) | (simp only [hb6]; rfl)), trivial⟩, rfl⟩
    · skip
      refine W_no (skF hb6) rfl (W_no (skF hb6) rfl (W_no (skF hb6) rfl (W_v (.bool true) (x_pick (k := true) (congrArg Value.bool hb6) rfl) rfl (Wl_nil ?_))))
      exact ⟨⟨rfl, rfl, rfl, (by first | rfl | (rw [hb6]; rfl) | (simp only [hb6]; rfl)), trivial⟩, rfl⟩
  as_aux_lemma =>
  rintro ρ _ ⟨hρ, rfl⟩
  rw [agree_eta hρ]
  refine W_v (.bool ((((decide (a1 < (0 : Int))) || (decide (a1 ≥ a0.c.Tasks))) || (decide (a2.Kind < (1 : Int)))) || (decide (a2.Kind > (9 : Int))))) (x_assign rfl) rfl (Wl_nil (tn ?_))
  rcases iteS H with ⟨hb7, H⟩ | ⟨hb7, H⟩
  · refine Wp_cond_true (congrArg Value.bool hb7) ?_
    refine Wp_seq (Wp_region_lit (W_v (.int .i64 1) (x_assign rfl) rfl (Wl_nil (tn ?_))))
    refine Wp_ret ?_
    refine br (tr (?_))
    obtain rfl := Option.some.inj H
    exact ⟨_, _, _, fun w1 e1 => run_resR (vs := [.int .i64 1]) (FA.cons (rfl) (FA.nil)), HM, E, S.pick [1, 2, 3, 4, 5] (by decide), ⟨rfl, rfl⟩⟩
  refine Wp_cond_false (congrArg Value.bool hb7) (Wp_seq (Wp_region_lit (W_v (pt b1 0) (x_fieldAddr (o := 0) (off := 0) Tryd.underlying42 rfl ty5 rfl rfl) rfl (W_v (.int .u8 a2.Kind) (x_load (S.blk 0 rfl) ty5 rfl rfl) rfl (W_v (.bool (a2.Kind == (9 : Int))) (x_ibin rfl rfl rfl rfl) rfl (W_v (.bool (a2.Kind == (9 : Int))) (x_move rfl) rfl ?_))))))
  refine Wl_cutN 4 (fun ρ w' => Agree ρ [(0, pt bo0 0), (1, .int .i64 a1), (5, pt b1 0), (43, .bool ((a2.Kind == (9 : Int)) && (a2.Engine != (1 : Int))))] ∧ w2 = w') ?_ ?_
  · rcases boolCases (a2.Kind == (9 : Int)) with hb8 | hb8
    · skip
      refine W_no (skT hb8) rfl (W_no (skT hb8) rfl (W_no (skT hb8) rfl (W_v (.bool false) (x_pick (k := false) (congrArg Value.bool hb8) rfl) rfl (Wl_nil ?_))))
      exact ⟨⟨rfl, rfl, rfl, (by first | rfl | (rw [hb8]; rfl) | (simp only [hb8]; rfl)), trivial⟩, rfl⟩
    · skip
      refine W_yes (congrArg some hb8) (W_v (pt b1 6) (x_fieldAddr (o := 0) (off := 6) Tryd.underlying42 rfl ty5 rfl rfl) rfl (W_yes (congrArg some hb8) (W_v (.int .u8 a2.Engine) (x_load (S.blk 0 rfl) ty5 rfl rfl) rfl (W_yes (congrArg some hb8) (W_v (.bool (a2.Engine != (1 : Int))) (x_ibin rfl rfl rfl rfl) rfl (W_v (.bool (a2.Engine != (1 : Int))) (x_pick (k := true) (congrArg Value.bool hb8) rfl) rfl (Wl_nil ?_)))))))
      exact ⟨⟨rfl, rfl, rfl, (by first | rfl | (rw [hb8]; rfl) | (simp only [hb8]; rfl)), trivial⟩, rfl⟩
  as_aux_lemma =>
  rintro ρ _ ⟨hρ, rfl⟩
  rw [agree_eta hρ]
  refine W_v (.bool ((a2.Kind == (9 : Int)) && (a2.Engine != (1 : Int)))) (x_move rfl) rfl ?_
  refine Wl_cutN 4 (fun ρ w' => Agree ρ [(0, pt bo0 0), (1, .int .i64 a1), (5, pt b1 0), (48, .bool (((a2.Kind == (9 : Int)) && (a2.Engine != (1 : Int))) && (a2.Engine != (2 : Int))))] ∧ w2 = w') ?_ ?_
  · rcases boolCases ((a2.Kind == (9 : Int)) && (a2.Engine != (1 : Int))) with hb9 | hb9
    · skip
      refine W_no (skT hb9) rfl (W_no (skT hb9) rfl (W_no (skT hb9) rfl (W_v (.bool false) (x_pick (k := false) (congrArg Value.bool hb9) rfl) rfl (Wl_nil ?_))))
      exact ⟨⟨rfl, rfl, rfl, (by first | rfl | (rw [hb9]; rfl) | (simp only [hb9]; rfl)), trivial⟩, rfl⟩
    · skip
      refine W_yes (congrArg some hb9) (W_v (pt b1 6) (x_fieldAddr (o := 0) (off := 6) Tryd.underlying42 rfl ty5 rfl rfl) rfl (W_yes (congrArg some hb9) (W_v (.int .u8 a2.Engine) (x_load (S.blk 0 rfl) ty5 rfl rfl) rfl (W_yes (congrArg some hb9) (W_v (.bool (a2.Engine != (2 : Int))) (x_ibin rfl rfl rfl rfl) rfl (W_v (.bool (a2.Engine != (2 : Int))) (x_pick (k := true) (congrArg Value.bool hb9) rfl) rfl (Wl_nil ?_)))))))
      exact ⟨⟨rfl, rfl, rfl, (by first | rfl | (rw [hb9]; rfl) | (simp only [hb9]; rfl)), trivial⟩, rfl⟩
  as_aux_lemma =>
  rintro ρ _ ⟨hρ, rfl⟩
  rw [agree_eta hρ]
  refine W_v (.bool (((a2.Kind == (9 : Int)) && (a2.Engine != (1 : Int))) && (a2.Engine != (2 : Int)))) (x_assign rfl) rfl (Wl_nil (tn ?_))
  rcases iteS H with ⟨hb10, H⟩ | ⟨hb10, H⟩
  · refine Wp_cond_true (congrArg Value.bool hb10) ?_
    refine Wp_seq (Wp_region_lit (W_v (.int .i64 1) (x_assign rfl) rfl (Wl_nil (tn ?_))))
    refine Wp_ret ?_
    refine br (tr (?_))
    obtain rfl := Option.some.inj H
    exact ⟨_, _, _, fun w1 e1 => run_resR (vs := [.int .i64 1]) (FA.cons (rfl) (FA.nil)), HM, E, S.pick [1, 2, 3, 4, 5] (by decide), ⟨rfl, rfl⟩⟩
  refine Wp_cond_false (congrArg Value.bool hb10) (Wp_skip (bn (tn (Wp_seq (Wp_seq (Wp_region_lit (W_v (pt b1 0) (x_fieldAddr (o := 0) (off := 0) Tryd.underlying42 rfl ty5 rfl rfl) rfl (W_v (.int .u8 a2.Kind) (x_load (S.blk 0 rfl) ty5 rfl rfl) rfl ?_))))))))
  obtain ⟨t11, ht12, H⟩ := bindS H
  refine W_callF fn37 (model_needs.con k M a2.Kind t11  ht12) S rfl rfl (by rintro _ _ _ ⟨_, rfl⟩; exact flat_nil) ?_
  rintro _ w13 _ Γ' E' S ⟨rfl, rfl⟩
  replace E := E.trans E'
  refine Wl_nil (tn ?_)
  rcases iteS H with ⟨hb14, H⟩ | ⟨hb14, H⟩
  · refine Wp_cond_true (congrArg Value.bool hb14) ?_
    refine Wp_seq (Wp_region_lit (W_v (pt bo0 0) (x_move rfl) rfl (W_v (.int .i64 a1) (x_move rfl) rfl (W_v (pt b1 1) (x_fieldAddr (o := 0) (off := 1) Tryd.underlying42 rfl ty3 rfl rfl) rfl (W_v (.int .i64 a2.Tx) (x_load (S.blk 0 rfl) ty3 rfl rfl) rfl ?_)))))
    obtain ⟨t15, ht16, H⟩ := bindS H
    replace S : St w13 M F [_, _, _, _, _, _] := S.pick [1, 2, 3, 4, 5, 0] (by decide)
    refine W_callF2 fn30 (model_Model_Tx_POOOO.con k M A0_8 c0_8 A0_9 c0_9 A0_10 c0_10 A0_11 c0_11 vs0_11 a0 a1 a2.Tx bo0 t15 hm0_11 ht16) (Γ1 := [_, _, _, _, _]) (Γ2 := [_]) S rfl rfl (by rintro _ _ _ ⟨rfl, rfl⟩; exact (flat_cons flat_blk (flat_cons flat_map (flat_cons flat_map (flat_cons (flat_row (fun _ _ _ _ h => h)) (flat_cons flat_map flat_nil)))))) ?_
    rintro _ w17 _ Γ' E' S ⟨rfl, rfl⟩
    replace E := E.trans E'
    replace S : St w17 M F [_, _, _, _, _, _] := S
    refine W_v (.tuple #[.int .i64 t15.1, .int .u8 t15.2.1, .int .i64 t15.2.2]) (x_move rfl) rfl (W_v (.int .i64 t15.1) (x_extract rfl rfl) rfl (W_v (.int .u8 t15.2.1) (x_extract rfl rfl) rfl (W_v (.int .i64 t15.2.2) (x_extract rfl rfl) rfl (W_v (.int .i64 t15.1) (x_assign rfl) rfl (W_v (.int .u8 t15.2.1) (x_assign rfl) rfl (W_v (.int .i64 t15.2.2) (x_assign rfl) rfl (Wl_nil (tn (Wp_seq (Wp_region_lit (W_v (.int .u8 t15.2.1) (x_move rfl) rfl (Wl_nil (tn ?_)))))))))))))
    refine Wp_block ?_
    refine Wp_seq (Wp_region_lit (W_v (.bool (t15.2.1 == (1 : Int))) (x_ibin rfl rfl rfl rfl) rfl (W_v (.bool (t15.2.1 == (1 : Int))) (x_assign rfl) rfl (Wl_nil (tn ?_)))))
    rcases iteS H with ⟨hb20, H⟩ | ⟨hb20, H⟩
    · refine Wp_cond_true (congrArg Value.bool hb20) ?_
      refine Wp_skip (bn (tn (Wp_seq (Wp_seq (Wp_region_lit (W_v (pt bo0 0) (x_move rfl) rfl (W_v (.agg #[.int .u8 a2.Kind, .int .i64 a2.Tx, .string (bs a2.Key), .string (bs a2.End), .string (bs a2.Value), .int .i64 a2.Limit, .int .u8 a2.Engine]) (x_loadA (S.blk 5 rfl) ty42 rfl (sub_of_extract rfl) rfl rfl) rfl ?_)))))))
      obtain ⟨t21, ht22, H⟩ := bindS H
      refine W_callF2 fn38 (model_Model_fits_POOOO.con k M A0_8 c0_8 A0_9 c0_9 A0_10 c0_10 A0_11 c0_11 vs0_11 a0 a2 bo0 t21 hm0_11 ht22) (Γ1 := [_, _, _, _, _]) (Γ2 := [_]) S rfl rfl (by rintro _ _ _ ⟨rfl, rfl⟩; exact (flat_cons flat_blk (flat_cons flat_map (flat_cons flat_map (flat_cons (flat_row (fun _ _ _ _ h => h)) (flat_cons flat_map flat_nil)))))) ?_
      rintro _ w23 _ Γ' E' S ⟨rfl, rfl⟩
      replace E := E.trans E'
      replace S : St w23 M F [_, _, _, _, _, _] := S
      refine W_v (.bool (!t21)) (x_not (b := t21) rfl) rfl (Wl_nil (tn ?_))
      rcases iteS H with ⟨hb26, H⟩ | ⟨hb26, H⟩
      · refine Wp_cond_true (congrArg Value.bool hb26) ?_
        refine Wp_seq (Wp_region_lit (W_v (.int .i64 32) (x_assign rfl) rfl (Wl_nil (tn ?_))))
        refine Wp_ret ?_
        refine tr (?_)
        obtain rfl := Option.some.inj H
        exact ⟨_, _, _, fun w1 e1 => run_resR (vs := [.int .i64 32]) (FA.cons (rfl) (FA.nil)), HM, E, S.pick [0, 1, 2, 3, 4] (by decide), ⟨rfl, rfl⟩⟩
      refine Wp_cond_false (congrArg Value.bool hb26) (Wp_skip (tn (Wp_seq (Wp_region_lit (W_v (.int .i64 0) (x_assign rfl) rfl (Wl_nil (tn ?_)))))))
      refine Wp_ret ?_
      obtain rfl := Option.some.inj H
      exact ⟨_, _, _, fun w1 e1 => run_resR (vs := [.int .i64 0]) (FA.cons (rfl) (FA.nil)), HM, E, S.pick [0, 1, 2, 3, 4] (by decide), ⟨rfl, rfl⟩⟩
    refine Wp_cond_false (congrArg Value.bool hb20) ?_
    as_aux_lemma =>
    refine Wp_seq (Wp_region_lit (W_v (.bool (t15.2.1 == (0 : Int))) (x_ibin rfl rfl rfl rfl) rfl (W_v (.bool (t15.2.1 == (0 : Int))) (x_assign rfl) rfl (Wl_nil (tn ?_)))))
    rcases iteS H with ⟨hb27, H⟩ | ⟨hb27, H⟩
    · refine Wp_cond_true (congrArg Value.bool hb27) ?_
      refine Wp_seq (Wp_region_lit (W_v (.int .i64 30) (x_assign rfl) rfl (Wl_nil (tn ?_))))
      refine Wp_ret ?_
      refine br (tr (?_))
      obtain rfl := Option.some.inj H
      exact ⟨_, _, _, fun w1 e1 => run_resR (vs := [.int .i64 30]) (FA.cons (rfl) (FA.nil)), HM, E, S.pick [0, 1, 2, 3, 4] (by decide), ⟨rfl, rfl⟩⟩
    refine Wp_cond_false (congrArg Value.bool hb27) (Wp_seq (Wp_region_lit (W_v (.int .i64 31) (x_assign rfl) rfl (Wl_nil (tn ?_)))))
    refine Wp_ret ?_
    refine br (tr (?_))
    obtain rfl := Option.some.inj H
    exact ⟨_, _, _, fun w1 e1 => run_resR (vs := [.int .i64 31]) (FA.cons (rfl) (FA.nil)), HM, E, S.pick [0, 1, 2, 3, 4] (by decide), ⟨rfl, rfl⟩⟩
  refine Wp_cond_false (congrArg Value.bool hb14) (Wp_skip (tn ?_))
  as_aux_lemma =>
  refine Wp_seq (Wp_seq (Wp_region_lit (W_v (pt bo0 0) (x_move rfl) rfl (W_v (.agg #[.int .u8 a2.Kind, .int .i64 a2.Tx, .string (bs a2.Key), .string (bs a2.End), .string (bs a2.Value), .int .i64 a2.Limit, .int .u8 a2.Engine]) (x_loadA (S.blk 0 rfl) ty42 rfl (sub_of_extract rfl) rfl rfl) rfl ?_))))
  obtain ⟨t28, ht29, H⟩ := bindS H
  replace S : St w13 M F [_, _, _, _, _, _] := S.pick [1, 2, 3, 4, 5, 0] (by decide)
  refine W_callF2 fn38 (model_Model_fits_POOOO.con k M A0_8 c0_8 A0_9 c0_9 A0_10 c0_10 A0_11 c0_11 vs0_11 a0 a2 bo0 t28 hm0_11 ht29) (Γ1 := [_, _, _, _, _]) (Γ2 := [_]) S rfl rfl (by rintro _ _ _ ⟨rfl, rfl⟩; exact (flat_cons flat_blk (flat_cons flat_map (flat_cons flat_map (flat_cons (flat_row (fun _ _ _ _ h => h)) (flat_cons flat_map flat_nil)))))) ?_
  rintro _ w30 _ Γ' E' S ⟨rfl, rfl⟩
  replace E := E.trans E'
  replace S : St w30 M F [_, _, _, _, _, _] := S
  refine W_v (.bool (!t28)) (x_not (b := t28) rfl) rfl (Wl_nil (tn ?_))
  rcases iteS H with ⟨hb33, H⟩ | ⟨hb33, H⟩
  · refine Wp_cond_true (congrArg Value.bool hb33) ?_
    refine Wp_seq (Wp_region_lit (W_v (.int .i64 32) (x_assign rfl) rfl (Wl_nil (tn ?_))))
    refine Wp_ret ?_
    refine tr (?_)
    obtain rfl := Option.some.inj H
    exact ⟨_, _, _, fun w1 e1 => run_resR (vs := [.int .i64 32]) (FA.cons (rfl) (FA.nil)), HM, E, S.pick [0, 1, 2, 3, 4] (by decide), ⟨rfl, rfl⟩⟩
  refine Wp_cond_false (congrArg Value.bool hb33) (Wp_skip (tn (Wp_seq (Wp_region_lit (W_v (.int .i64 0) (x_assign rfl) rfl (Wl_nil (tn ?_)))))))
  refine Wp_ret ?_
  obtain rfl := Option.some.inj H
  exact ⟨_, _, _, fun w1 e1 => run_resR (vs := [.int .i64 0]) (FA.cons (rfl) (FA.nil)), HM, E, S.pick [0, 1, 2, 3, 4] (by decide), ⟨rfl, rfl⟩⟩
def model_Model_Active_POOOO_l0 (a0 : model_Model) : Nat → Int → Int → Option ((Int))
  | 0, _, _ => none
  | k + 1, x93, x94 => (if (decide (x94 < (a0.txs.length : Int))) = true then (Option.bind (α := Int) (if 0 ≤ x94 ∧ x94 < (a0.txs.length : Int) then (Option.bind (α := Int) (if ((rd a0.txs x94).state == (1 : Int)) = true then some ((IntKind.i64.wrap (x93 + (1 : Int)))) else some (x93)) (fun x181 => some (x181))) else none) (fun x163 => model_Model_Active_POOOO_l0 a0 k x163 (IntKind.i64.wrap (x94 + (1 : Int))))) else some (x93))
set_option maxHeartbeats 2000000 in
theorem model_Model_Active_POOOO_l0.mono {a0 : model_Model} : ∀ {kl : Nat} {x0 x1}, OLe (model_Model_Active_POOOO_l0 a0 kl x0 x1) (model_Model_Active_POOOO_l0 a0 (kl + 1) x0 x1) := by
  intro kl
  induction kl with
  | zero => intros; exact OLe.none
  | succ kl ih =>
    intros
    rw [model_Model_Active_POOOO_l0.eq_2, model_Model_Active_POOOO_l0.eq_2]
    repeat' (first | with_reducible exact OLe.none | with_reducible exact OLe.some | with_reducible refine OLe.ite ?_ ?_ | with_reducible refine OLe.bind ?_ (fun _ => ?_) | exact ih | refine OLe.bind ?_ (fun _ => ?_) | refine OLe.ite ?_ ?_ | refine OLe.elim (fun _ => ?_) (fun _ => ?_) | split)
def model_Model_Active_POOOO (k : Nat) (a0 : model_Model) : Option (Int) :=
  (Option.bind (model_Model_Active_POOOO_l0 a0 k (0 : Int) (0 : Int)) (fun x139 => some x139))
set_option maxHeartbeats 2000000 in
theorem model_Model_Active_POOOO.mono {k : Nat} {a0 : model_Model} : OLe (model_Model_Active_POOOO k a0) (model_Model_Active_POOOO (k + 1) a0) := by
  unfold model_Model_Active_POOOO
  repeat' (first | with_reducible exact OLe.none | with_reducible exact OLe.some | with_reducible refine OLe.ite ?_ ?_ | with_reducible refine OLe.bind ?_ (fun _ => ?_) | with_reducible exact model_Model_Active_POOOO_l0.mono | refine OLe.bind ?_ (fun _ => ?_) | refine OLe.ite ?_ ?_ | refine OLe.elim (fun _ => ?_) (fun _ => ?_) | split)
set_option maxHeartbeats 4000000 in
set_option maxRecDepth 100000 in
theorem model_Model_Active_POOOO.con (k : Nat) (M : Hp) (A0_8 : Option Addr) (c0_8 : Nat) (A0_9 : Option Addr) (c0_9 : Nat) (A0_10 : Option Addr) (c0_10 : Nat) (A0_11 : Option Addr) (c0_11 : Nat) (vs0_11 : List (Str × Value)) (a0 : model_Model) (bo0 : Nat) (r : Int) (hm0_11 : MRel r_model_row M a0.rows vs0_11) (h : model_Model_Active_POOOO k a0 = some r) : Con Tryd.prog 90 #[pt bo0 0] M [B83 bo0 a0 A0_8 A0_9 A0_10 c0_10 A0_11, MapC enc_model_name (Value.int .i64) A0_8 a0.names, MapC (Value.int .i64) (Value.int .i64) A0_9 a0.many, Row r_model_tx 109 (.slice A0_10 a0.txs.length c0_10) a0.txs, MapC encS (fun v : Value => v) A0_11 vs0_11] (fun v M' Γ' => v = .int .i64 r ∧ Γ' = [B83 bo0 a0 A0_8 A0_9 A0_10 c0_10 A0_11, MapC enc_model_name (Value.int .i64) A0_8 a0.names, MapC (Value.int .i64) (Value.int .i64) A0_9 a0.many, Row r_model_tx 109 (.slice A0_10 a0.txs.length c0_10) a0.txs, MapC encS (fun v : Value => v) A0_11 vs0_11]) := by
  refine con_of_wp Tryd.func90 rfl Tryd.ntmps90 Tryd.results90 rfl ?_
  intro w F rn S hrn
  have E := Ext.refl w
  have HM := Hp.le_refl M
  have H := h
  unfold model_Model_Active_POOOO at H
  refine Wp_seq (Wp_region_lit (W_v (.int .i64 0) (x_assign rfl) rfl (Wl_nil (tn (Wp_seq (Wp_region_lit (W_v (.int .i64 0) (x_assign rfl) rfl (Wl_nil (tn (Wp_seq (Wp_seq (Wp_region_lit (W_v (pt bo0 0) (x_move rfl) rfl (W_v (.bool false) (x_eq_of (r := false) rfl rfl (run_eq_ptrsn Tryd.underlying54)) rfl (Wl_nil ?_)))))))))))))))
  refine tn (Wp_cond_false rfl (Wp_skip (tn (Wp_seq (Wp_seq (Wp_region_lit (W_v (pt bo0 0) (x_move rfl) rfl (W_v (pt bo0 0) (x_nilptr rfl) rfl (W_v (pt bo0 10) (x_fieldAddr (o := 0) (off := 10) Tryd.underlying83 rfl ty80 rfl rfl) rfl (W_v (.slice A0_10 a0.txs.length c0_10) (x_load (S.blk 0 rfl) ty80 rfl rfl) rfl (W_v (.int .i64 (a0.txs.length : Int)) (x_len_slice (n := a0.txs.length) Tryd.underlying80 rfl) rfl (W_v (.int .i64 0) (x_move rfl) rfl (Wl_nil (tn ?_))))))))))))))
  obtain ⟨o140, o140h, o140H⟩ := bindS H
  refine Wp_blockJ (fun ρ w' => ∃ (x139 : Int), (x139) = o140 ∧ Agree ρ [(3, .int .i64 x139)] ∧ Ext w w' ∧ St w' M F [B83 bo0 a0 A0_8 A0_9 A0_10 c0_10 A0_11, MapC enc_model_name (Value.int .i64) A0_8 a0.names, MapC (Value.int .i64) (Value.int .i64) A0_9 a0.many, Row r_model_tx 109 (.slice A0_10 a0.txs.length c0_10) a0.txs, MapC encS (fun v : Value => v) A0_11 vs0_11]) ?_ ?_
  · skip
    refine Wp_loop (fun n ρ w' => ∃ (x93 : Int) (x94 : Int), model_Model_Active_POOOO_l0 a0 n x93 x94 = some o140 ∧ Agree ρ [(3, .int .i64 x93), (12, .slice A0_10 a0.txs.length c0_10), (13, .int .i64 (a0.txs.length : Int)), (14, .int .i64 x94)] ∧ Ext w w' ∧ St w' M F [B83 bo0 a0 A0_8 A0_9 A0_10 c0_10 A0_11, MapC enc_model_name (Value.int .i64) A0_8 a0.names, MapC (Value.int .i64) (Value.int .i64) A0_9 a0.many, Row r_model_tx 109 (.slice A0_10 a0.txs.length c0_10) a0.txs, MapC encS (fun v : Value => v) A0_11 vs0_11]) k ?_ ?_
    · skip
      exact ⟨(0 : Int), (0 : Int), o140h, ⟨rfl, rfl, rfl, rfl, trivial⟩, E, S.pick [0, 1, 2, 3, 4] (by decide)⟩
    · intro n
      rintro ρ w141 ⟨x93, x94, H, hρ, E, S⟩
      rw [agree_eta hρ]
      cases n with
      | zero => cases H
      | succ k =>
        rw [model_Model_Active_POOOO_l0.eq_2] at H
        refine Wp_seq (Wp_region_lit (W_v (.bool (decide (x94 < (a0.txs.length : Int)))) (x_ibin rfl rfl rfl rfl) rfl (Wl_nil (tn (Wp_seq ?_)))))
        rcases iteS H with ⟨hb142, H⟩ | ⟨hb142, H⟩
        · refine Wp_cond_true (congrArg Value.bool hb142) ?_
          refine Wp_skip (tn (Wp_seq ?_))
          obtain ⟨o164, o164h, o164H⟩ := bindS H
          refine Wp_cut (fun ρ w' => ∃ (x163 : Int), (x163) = o164 ∧ Agree ρ [(3, .int .i64 x163), (12, .slice A0_10 a0.txs.length c0_10), (13, .int .i64 (a0.txs.length : Int)), (14, .int .i64 x94)] ∧ Ext w w' ∧ St w' M F [B83 bo0 a0 A0_8 A0_9 A0_10 c0_10 A0_11, MapC enc_model_name (Value.int .i64) A0_8 a0.names, MapC (Value.int .i64) (Value.int .i64) A0_9 a0.many, Row r_model_tx 109 (.slice A0_10 a0.txs.length c0_10) a0.txs, MapC encS (fun v : Value => v) A0_11 vs0_11]) ?_ ?_
          · as_aux_lemma =>
              clear o164H
              have H := o164h
              refine Wp_block ?_
              refine Wp_seq (Wp_region_lit ?_)
              obtain ⟨⟨p165, p166⟩, H⟩ := chkS H
              obtain ⟨b167, o168, cs169, _, _, ee174, hb170, vs171, hR172, hc173⟩ := SlW.at' (S.row_read 3 rfl) p165 p166
              obtain rfl : vs171 = _ := hR172
              refine W_v (.pointer (some ⟨b167, o168 + x94.toNat * 2, none⟩)) (x_indexAddr Tryd.underlying80 ty109 (slA ee174) rfl p165 p166) rfl (W_v (.agg #[.int .u8 ((rd a0.txs x94).state), .int .i64 ((rd a0.txs x94).snapshot)]) (x_loadA (Hp.of_get hb170) ty109 rfl (sub_el hc173 0 rfl) rfl rfl) rfl ?_)
              refine W_alloc S #[.int .u8 0, .int .i64 0] ty109 rfl rfl ?_
              intro b175 w176 E' S
              replace E := E.trans E'
              refine W_store S 0 rfl ty109 rfl rfl [.int .u8 ((rd a0.txs x94).state), .int .i64 ((rd a0.txs x94).snapshot)] rfl rfl rfl #[.int .u8 ((rd a0.txs x94).state), .int .i64 ((rd a0.txs x94).snapshot)] rfl rfl ?_
              intro w178 E' S
              replace E := E.trans E'
              refine Wl_nil (tn (Wp_seq (Wp_region_lit (W_v (pt b175 0) (x_fieldAddr (o := 0) (off := 0) Tryd.underlying109 rfl ty5 rfl rfl) rfl (W_v (.int .u8 ((rd a0.txs x94).state)) (x_load (S.blk 0 rfl) ty5 rfl rfl) rfl (W_v (.bool ((rd a0.txs x94).state == (1 : Int))) (x_ibin rfl rfl rfl rfl) rfl (Wl_nil (tn ?_))))))))
              obtain ⟨o182, o182h, o182H⟩ := bindS H
              refine Wp_cut (fun ρ w' => ∃ (x181 : Int), (x181) = o182 ∧ Agree ρ [(3, .int .i64 x181), (12, .slice A0_10 a0.txs.length c0_10), (13, .int .i64 (a0.txs.length : Int)), (14, .int .i64 x94)] ∧ Ext w w' ∧ St w' M F [B83 bo0 a0 A0_8 A0_9 A0_10 c0_10 A0_11, MapC enc_model_name (Value.int .i64) A0_8 a0.names, MapC (Value.int .i64) (Value.int .i64) A0_9 a0.many, Row r_model_tx 109 (.slice A0_10 a0.txs.length c0_10) a0.txs, MapC encS (fun v : Value => v) A0_11 vs0_11]) ?_ ?_
              · clear o182H
                have H := o182h
                rcases iteS H with ⟨hb183, H⟩ | ⟨hb183, H⟩
                · refine Wp_cond_true (congrArg Value.bool hb183) ?_
                  refine Wp_region_lit (W_v (.int .i64 x93) (x_move rfl) rfl (W_v (.int .i64 (IntKind.i64.wrap (x93 + (1 : Int)))) (x_ibin rfl rfl rfl rfl) rfl (W_v (.int .i64 (IntKind.i64.wrap (x93 + (1 : Int)))) (x_assign rfl) rfl (Wl_nil (tn ?_)))))
                  exact ⟨(IntKind.i64.wrap (x93 + (1 : Int))), Option.some.inj H, ⟨rfl, rfl, rfl, rfl, trivial⟩, E, S.pick [1, 2, 3, 4, 5] (by decide)⟩
                refine Wp_cond_false (congrArg Value.bool hb183) (Wp_skip (tn ?_))
                exact ⟨x93, Option.some.inj H, ⟨rfl, rfl, rfl, rfl, trivial⟩, E, S.pick [1, 2, 3, 4, 5] (by decide)⟩
              rintro ρ w184 ⟨x181, rfl, hρ, E, S⟩
              rw [agree_eta hρ]
              have H := o182H
              refine bn (tn ?_)
              exact ⟨x181, Option.some.inj H, ⟨rfl, rfl, rfl, rfl, trivial⟩, E, S.pick [0, 1, 2, 3, 4] (by decide)⟩
          rintro ρ w185 ⟨x163, rfl, hρ, E, S⟩
          rw [agree_eta hρ]
          have H := o164H
          refine tn (Wp_region_lit (W_v (.int .i64 (IntKind.i64.wrap (x94 + (1 : Int)))) (x_ibin rfl rfl rfl rfl) rfl (W_v (.int .i64 (IntKind.i64.wrap (x94 + (1 : Int)))) (x_move rfl) rfl (Wl_nil (tn ?_)))))
          exact ⟨k, Nat.lt_succ_self k, ⟨x163, (IntKind.i64.wrap (x94 + (1 : Int))), H, ⟨rfl, rfl, rfl, rfl, trivial⟩, E, S.pick [0, 1, 2, 3, 4] (by decide)⟩⟩
        refine Wp_cond_false (congrArg Value.bool hb142) ?_
        refine Wp_exit ?_
        refine tx (tx (bsm (?_)))
        refine tn ?_
        exact ⟨x93, Option.some.inj H, ⟨rfl, trivial⟩, E, S.pick [0, 1, 2, 3, 4] (by decide)⟩
  rintro ρ w186 ⟨x139, rfl, hρ, E, S⟩
  rw [agree_eta hρ]
  have H := o140H
  refine tn ?_
  as_aux_lemma =>
  refine Wp_seq (Wp_region_lit (W_v (.int .i64 x139) (x_move rfl) rfl (W_v (.int .i64 x139) (x_assign rfl) rfl (Wl_nil (tn ?_)))))
  refine Wp_ret ?_
  obtain rfl := Option.some.inj H
  exact ⟨_, _, _, fun w1 e1 => run_resR (vs := [.int .i64 x139]) (FA.cons (rfl) (FA.nil)), HM, E, S.pick [0, 1, 2, 3, 4] (by decide), ⟨rfl, rfl⟩⟩
end Go.Proofs.YtkknoimjgifhlaaDoor
