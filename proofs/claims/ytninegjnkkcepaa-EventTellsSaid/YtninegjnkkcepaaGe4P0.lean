import Derived.Test.YtninegjnkkcepaaGe4B
namespace Go.Proofs.Ytninegjnkkcepaa
open Go
set_option linter.unusedVariables false
set_option linter.unusedSimpArgs false
def event_nothing (k : Nat) (a0 : api_Answer) : Option (Bool) :=
  some ((((a0.Err == (0 : Int)) && (!a0.Found)) && (sbin .eql a0.Value ([] : Str))) && ((a0.Pairs.length : Int) == (0 : Int)))
set_option maxHeartbeats 2000000 in
theorem event_nothing.mono {k : Nat} {a0 : api_Answer} : OLe (event_nothing k a0) (event_nothing (k + 1) a0) := by
  unfold event_nothing
  repeat' (first | with_reducible exact OLe.none | with_reducible exact OLe.some | with_reducible refine OLe.ite ?_ ?_ | with_reducible refine OLe.bind ?_ (fun _ => ?_) | refine OLe.bind ?_ (fun _ => ?_) | refine OLe.ite ?_ ?_ | refine OLe.elim (fun _ => ?_) (fun _ => ?_) | split)
set_option maxHeartbeats 1000000 in
set_option maxRecDepth 100000 in
theorem event_nothing.con (k : Nat) (M : Hp) (A0_0 : Option Addr) (c0_0 : Nat) (a0 : api_Answer) (r : Bool) (hr0_0 : SlR r_api_Pair M (.slice A0_0 a0.Pairs.length c0_0) a0.Pairs) (h : event_nothing k a0 = some r) : Con Try.prog 33 #[.agg #[.int .i64 a0.Err, .bool a0.Found, .string (bs a0.Value), .slice A0_0 a0.Pairs.length c0_0]] M [] (fun v M' Γ' => v = .bool r ∧ Γ' = []) := by
  refine con_of_wp Try.func33 rfl Try.ntmps33 Try.results33 rfl ?_
  intro w F rn S hrn
  have E := Ext.refl w
  have HM := Hp.le_refl M
  have H := h
  unfold event_nothing at H
  refine Wp_seq (Wp_region_lit ?_)
  refine W_box S #[.int .i64 a0.Err, .bool a0.Found, .string (bs a0.Value), .slice A0_0 a0.Pairs.length c0_0] rfl rfl rfl ?_
  intro b1 w2 E' S
  replace E := E.trans E'
  refine W_v (.bool false) (x_assign rfl) rfl (Wl_nil (tn (Wp_seq (Wp_region_lit (W_v (pt b1 0) (x_fieldAddr (o := 0) (off := 0) Try.underlying30 rfl ty27 rfl rfl) rfl (W_v (.int .i64 a0.Err) (x_load (S.blk 0 rfl) ty27 rfl rfl) rfl (W_v (.bool (a0.Err == (0 : Int))) (x_ibin rfl rfl rfl rfl) rfl (W_v (.bool (a0.Err == (0 : Int))) (x_move rfl) rfl ?_))))))))
  refine Wl_cutN 4 (fun ρ w' => Agree ρ [(1, pt b1 0), (10, .bool ((a0.Err == (0 : Int)) && (!a0.Found)))] ∧ w2 = w') ?_ ?_
  · rcases boolCases (a0.Err == (0 : Int)) with hb4 | hb4
    · skip
      refine W_no (skT hb4) rfl (W_no (skT hb4) rfl (W_no (skT hb4) rfl (W_v (.bool false) (x_pick (k := false) (congrArg Value.bool hb4) rfl) rfl (Wl_nil ?_))))
      exact ⟨⟨rfl, (by first | rfl | (rw [hb4]; rfl) | (simp only [hb4]; rfl)), trivial⟩, rfl⟩
    · skip
      refine W_yes (congrArg some hb4) (W_v (pt b1 1) (x_fieldAddr (o := 0) (off := 1) Try.underlying30 rfl ty4 rfl rfl) rfl (W_yes (congrArg some hb4) (W_v (.bool a0.Found) (x_load (S.blk 0 rfl) ty4 rfl rfl) rfl (W_yes (congrArg some hb4) (W_v (.bool (!a0.Found)) (x_not (b := a0.Found) rfl) rfl (W_v (.bool (!a0.Found)) (x_pick (k := true) (congrArg Value.bool hb4) rfl) rfl (Wl_nil ?_)))))))
      exact ⟨⟨rfl, (by first | rfl | (rw [hb4]; rfl) | (simp only [hb4]; rfl)), trivial⟩, rfl⟩
  as_aux_lemma =>
  rintro ρ _ ⟨hρ, rfl⟩
  rw [agree_eta hρ]
  refine W_v (.bool ((a0.Err == (0 : Int)) && (!a0.Found))) (x_move rfl) rfl ?_
  refine Wl_cutN 4 (fun ρ w' => Agree ρ [(1, pt b1 0), (15, .bool (((a0.Err == (0 : Int)) && (!a0.Found)) && (sbin .eql a0.Value ([] : Str))))] ∧ w2 = w') ?_ ?_
  · rcases boolCases ((a0.Err == (0 : Int)) && (!a0.Found)) with hb5 | hb5
    · skip
      refine W_no (skT hb5) rfl (W_no (skT hb5) rfl (W_no (skT hb5) rfl (W_v (.bool false) (x_pick (k := false) (congrArg Value.bool hb5) rfl) rfl (Wl_nil ?_))))
      exact ⟨⟨rfl, (by first | rfl | (rw [hb5]; rfl) | (simp only [hb5]; rfl)), trivial⟩, rfl⟩
    · skip
      refine W_yes (congrArg some hb5) (W_v (pt b1 2) (x_fieldAddr (o := 0) (off := 2) Try.underlying30 rfl ty9 rfl rfl) rfl (W_yes (congrArg some hb5) (W_v (.string (bs a0.Value)) (x_load (S.blk 0 rfl) ty9 rfl rfl) rfl (W_yes (congrArg some hb5) (W_v (.bool (sbin .eql a0.Value ([] : Str))) (x_sbin rfl rfl rfl) rfl (W_v (.bool (sbin .eql a0.Value ([] : Str))) (x_pick (k := true) (congrArg Value.bool hb5) rfl) rfl (Wl_nil ?_)))))))
      exact ⟨⟨rfl, (by first | rfl | (rw [hb5]; rfl) | (simp only [hb5]; rfl)), trivial⟩, rfl⟩
  rintro ρ _ ⟨hρ, rfl⟩
  rw [agree_eta hρ]
  refine W_v (.bool (((a0.Err == (0 : Int)) && (!a0.Found)) && (sbin .eql a0.Value ([] : Str)))) (x_move rfl) rfl ?_
  refine Wl_cutN 5 (fun ρ w' => Agree ρ [(21, .bool ((((a0.Err == (0 : Int)) && (!a0.Found)) && (sbin .eql a0.Value ([] : Str))) && ((a0.Pairs.length : Int) == (0 : Int))))] ∧ w2 = w') ?_ ?_
  · rcases boolCases (((a0.Err == (0 : Int)) && (!a0.Found)) && (sbin .eql a0.Value ([] : Str))) with hb6 | hb6
    · skip
      refine W_no (skT hb6) rfl (W_no (skT hb6) rfl (W_no (skT hb6) rfl (W_no (skT hb6) rfl (W_v (.bool false) (x_pick (k := false) (congrArg Value.bool hb6) rfl) rfl (Wl_nil ?_)))))
      exact ⟨⟨(by first | rfl | (rw [hb6]; rfl) | (simp only [hb6]; rfl)), trivial⟩, rfl⟩
    · skip
      refine W_yes (congrArg some hb6) (W_v (pt b1 3) (x_fieldAddr (o := 0) (off := 3) Try.underlying30 rfl ty28 rfl rfl) rfl (W_yes (congrArg some hb6) (W_v (.slice A0_0 a0.Pairs.length c0_0) (x_load (S.blk 0 rfl) ty28 rfl rfl) rfl (W_yes (congrArg some hb6) (W_v (.int .i64 (a0.Pairs.length : Int)) (x_len_slice (n := a0.Pairs.length) Try.underlying28 rfl) rfl (W_yes (congrArg some hb6) (W_v (.bool ((a0.Pairs.length : Int) == (0 : Int))) (x_ibin rfl rfl rfl rfl) rfl (W_v (.bool ((a0.Pairs.length : Int) == (0 : Int))) (x_pick (k := true) (congrArg Value.bool hb6) rfl) rfl (Wl_nil ?_)))))))))
      exact ⟨⟨(by first | rfl | (rw [hb6]; rfl) | (simp only [hb6]; rfl)), trivial⟩, rfl⟩
  rintro ρ _ ⟨hρ, rfl⟩
  rw [agree_eta hρ]
  refine W_v (.bool ((((a0.Err == (0 : Int)) && (!a0.Found)) && (sbin .eql a0.Value ([] : Str))) && ((a0.Pairs.length : Int) == (0 : Int)))) (x_assign rfl) rfl (Wl_nil (tn ?_))
  refine Wp_ret ?_
  obtain rfl := Option.some.inj H
  exact ⟨_, _, _, fun w1 e1 => run_resR (vs := [.bool ((((a0.Err == (0 : Int)) && (!a0.Found)) && (sbin .eql a0.Value ([] : Str))) && ((a0.Pairs.length : Int) == (0 : Int)))]) (FA.cons (rfl) (FA.nil)), HM, E, S.pick [] (by decide), ⟨rfl, rfl⟩⟩
def slices_Clone_api_Pair_api_Pair (k : Nat) (a0 : List api_Pair) : Option (List api_Pair) :=
  if ([] : List api_Pair).length + a0.length ≤ 4398046511104 then some (([] : List api_Pair) ++ a0) else none
set_option maxHeartbeats 2000000 in
theorem slices_Clone_api_Pair_api_Pair.mono {k : Nat} {a0 : List api_Pair} : OLe (slices_Clone_api_Pair_api_Pair k a0) (slices_Clone_api_Pair_api_Pair (k + 1) a0) := by
  unfold slices_Clone_api_Pair_api_Pair
  repeat' (first | with_reducible exact OLe.none | with_reducible exact OLe.some | with_reducible refine OLe.ite ?_ ?_ | with_reducible refine OLe.bind ?_ (fun _ => ?_) | refine OLe.bind ?_ (fun _ => ?_) | refine OLe.ite ?_ ?_ | refine OLe.elim (fun _ => ?_) (fun _ => ?_) | split)
set_option maxHeartbeats 1000000 in
set_option maxRecDepth 100000 in
theorem slices_Clone_api_Pair_api_Pair.con (k : Nat) (M : Hp) (A0 : Option Addr) (c0 : Nat) (a0 : (List api_Pair)) (r : (List api_Pair)) (hr0 : SlR r_api_Pair M (.slice A0 a0.length c0) a0) (h : slices_Clone_api_Pair_api_Pair k a0 = some r) : Con Try.prog 49 #[.slice A0 a0.length c0] M [] (fun v M' Γ' => ∃ (A0 : Option Addr) (c0 : Nat), v = .slice A0 r.length c0 ∧ Γ' = [Row r_api_Pair 43 (.slice A0 r.length c0) r]) := by
  have H := h
  unfold slices_Clone_api_Pair_api_Pair at H
  cases A0 with
  | none =>
    obtain ⟨_, H⟩ := chkS H
    obtain rfl : a0 = [] := SlW.none_nil hr0
    refine con_of_wp Try.func49 rfl Try.ntmps49 Try.results49 rfl ?_
    intro w F rn S hrn
    have E := Ext.refl w
    have HM := Hp.le_refl M
    refine Wp_seq (Wp_region_lit (W_v (.slice none 0 0) (x_assign rfl) rfl (Wl_nil (tn (Wp_seq (Wp_seq (Wp_region_lit (W_v (.slice none ([] : List api_Pair).length c0) (x_move rfl) rfl (W_v (.bool true) (x_eq_of rfl rfl (run_equal_slice_nil _ _ _ _ _ _ Try.underlying28)) rfl (Wl_nil (tn (Wp_cond_true rfl (Wp_seq (Wp_region_lit (W_v (.slice none 0 0) (x_assign rfl) rfl ?_)))))))))))))))
    refine Wl_nil (tn ?_)
    refine Wp_ret ?_
    refine tr (?_)
    obtain rfl := Option.some.inj H
    replace S := S.row_nil r_api_Pair 43
    exact ⟨_, _, _, fun w1 e1 => run_resR (vs := [.slice none 0 0]) (FA.cons (rfl) (FA.nil)), HM, E, S.pick [0] (by decide), ⟨none, 0, rfl, rfl⟩⟩
  | some ad =>
    refine con_of_wp Try.func49 rfl Try.ntmps49 Try.results49 rfl ?_
    intro w F rn S hrn
    have E := Ext.refl w
    have HM := Hp.le_refl M
    refine Wp_seq (Wp_region_lit (W_v (.slice none 0 0) (x_assign rfl) rfl (Wl_nil (tn (Wp_seq (Wp_seq (Wp_region_lit (W_v (.slice (some ad) a0.length c0) (x_move rfl) rfl (W_v (.bool false) (x_eq_of rfl rfl (run_equal_slice_nil _ _ _ _ _ _ Try.underlying28)) rfl (Wl_nil (tn (Wp_cond_false rfl (Wp_skip (tn (Wp_seq ?_)))))))))))))))
    refine Wp_region_lit ?_
    refine W_bslice S #[] Try.underlying28 ty43 rfl rfl #[] (by as_aux_lemma => kernel_rfl) (by as_aux_lemma => kernel_rfl) rfl ?_
    intro b2 w3 E' S
    replace E := E.trans E'
    replace S := S.blk_row (r := r_api_Pair) (l := ([] : List api_Pair)) 0 rfl 0 (Nat.le_refl 0) rfl Cells.nil
    refine W_v (.slice (some ad) a0.length c0) (x_move rfl) rfl ?_
    obtain ⟨p5, H⟩ := chkS H
    obtain ⟨src6, hs7, hC8⟩ := src_of_read (P := Try.prog) (ρ := r_api_Pair) (l := a0) (SlR.world hr0 S) (by decide)
    refine W_append S 0 rfl rfl rfl Try.underlying28 (.inl Try.underlying28) ty43 rfl (by decide) (by decide) hs7 hC8 rfl (by omega) rfl ?_
    intro v9 w10 E' S
    replace E := E.trans E'
    obtain ⟨A11, c12, rfl, _⟩ := (S.row_read 0 rfl).form
    refine W_v (.slice A11 (([] : List api_Pair) ++ a0).length c12) (x_assign rfl) rfl (Wl_nil (tn ?_))
    refine Wp_ret ?_
    obtain rfl := Option.some.inj H
    exact ⟨_, _, _, fun w1 e1 => run_resR (vs := [.slice A11 (([] : List api_Pair) ++ a0).length c12]) (FA.cons (rfl) (FA.nil)), HM, E, S.pick [0] (by decide), ⟨A11, c12, rfl, rfl⟩⟩
def event_own (k : Nat) (a0 : api_Event) : Option (api_Event) :=
  (Option.bind (slices_Clone_api_Pair_api_Pair k a0.Answer.Pairs) (fun t7 => some (⟨a0.What, a0.Task, a0.Call, ⟨a0.Answer.Err, a0.Answer.Found, a0.Answer.Value, t7⟩⟩ : api_Event)))
set_option maxHeartbeats 2000000 in
theorem event_own.mono {k : Nat} {a0 : api_Event} : OLe (event_own k a0) (event_own (k + 1) a0) := by
  unfold event_own
  repeat' (first | with_reducible exact OLe.none | with_reducible exact OLe.some | with_reducible refine OLe.ite ?_ ?_ | with_reducible refine OLe.bind ?_ (fun _ => ?_) | with_reducible exact slices_Clone_api_Pair_api_Pair.mono | refine OLe.bind ?_ (fun _ => ?_) | refine OLe.ite ?_ ?_ | refine OLe.elim (fun _ => ?_) (fun _ => ?_) | split)
set_option maxHeartbeats 1000000 in
set_option maxRecDepth 100000 in
theorem event_own.con (k : Nat) (M : Hp) (A0_0 : Option Addr) (c0_0 : Nat) (a0 : api_Event) (r : api_Event) (hr0_0 : SlR r_api_Pair M (.slice A0_0 a0.Answer.Pairs.length c0_0) a0.Answer.Pairs) (h : event_own k a0 = some r) : Con Try.prog 47 #[.agg #[.int .u8 a0.What, .int .i64 a0.Task, .int .i64 a0.Call, .int .i64 a0.Answer.Err, .bool a0.Answer.Found, .string (bs a0.Answer.Value), .slice A0_0 a0.Answer.Pairs.length c0_0]] M [] (fun v M' Γ' => ∃ (A0 : Option Addr) (c0 : Nat), v = .agg #[.int .u8 r.What, .int .i64 r.Task, .int .i64 r.Call, .int .i64 r.Answer.Err, .bool r.Answer.Found, .string (bs r.Answer.Value), .slice A0 r.Answer.Pairs.length c0] ∧ Γ' = [Row r_api_Pair 43 (.slice A0 r.Answer.Pairs.length c0) r.Answer.Pairs]) := by
  refine con_of_wp Try.func47 rfl Try.ntmps47 Try.results47 rfl ?_
  intro w F rn S hrn
  have E := Ext.refl w
  have HM := Hp.le_refl M
  have H := h
  unfold event_own at H
  refine Wp_seq (Wp_region_lit ?_)
  refine W_box S #[.int .u8 a0.What, .int .i64 a0.Task, .int .i64 a0.Call, .int .i64 a0.Answer.Err, .bool a0.Answer.Found, .string (bs a0.Answer.Value), .slice A0_0 a0.Answer.Pairs.length c0_0] rfl rfl rfl ?_
  intro b1 w2 E' S
  replace E := E.trans E'
  refine W_alloc S #[.int .u8 0, .int .i64 0, .int .i64 0, .int .i64 0, .bool false, .string (bs ([] : Str)), .slice none 0 0] ty32 rfl rfl ?_
  intro b4 w5 E' S
  replace E := E.trans E'
  refine Wl_nil (tn (Wp_seq (Wp_region_lit (W_v (pt b1 3) (x_fieldAddr (o := 0) (off := 3) Try.underlying32 rfl ty30 rfl rfl) rfl (W_v (pt b1 6) (x_fieldAddr (o := 3) (off := 3) Try.underlying30 rfl ty28 rfl rfl) rfl (W_v (.slice A0_0 a0.Answer.Pairs.length c0_0) (x_load (S.blk 1 rfl) ty28 rfl rfl) rfl ?_))))))
  obtain ⟨t7, ht8, H⟩ := bindS H
  refine W_callF fn49 (slices_Clone_api_Pair_api_Pair.con k M A0_0 c0_0 a0.Answer.Pairs t7 hr0_0 ht8) S rfl rfl (by rintro _ _ _ ⟨_, _, _, rfl⟩; exact (flat_cons (flat_row (fun _ _ _ _ h => h)) flat_nil)) ?_
  rintro _ w12 _ Γ' E' S ⟨A9, c10, rfl, rfl⟩
  replace E := E.trans E'
  refine W_v (pt b1 3) (x_fieldAddr (o := 0) (off := 3) Try.underlying32 rfl ty30 rfl rfl) rfl (W_v (pt b1 6) (x_fieldAddr (o := 3) (off := 3) Try.underlying30 rfl ty28 rfl rfl) rfl ?_)
  refine W_store S 2 rfl ty28 rfl rfl [.slice A9 t7.length c10] rfl rfl rfl #[.int .u8 a0.What, .int .i64 a0.Task, .int .i64 a0.Call, .int .i64 a0.Answer.Err, .bool a0.Answer.Found, .string (bs a0.Answer.Value), .slice A9 t7.length c10] rfl rfl ?_
  intro w13 E' S
  replace E := E.trans E'
  refine Wl_nil (tn (Wp_seq (Wp_region_lit (W_v (.agg #[.int .u8 a0.What, .int .i64 a0.Task, .int .i64 a0.Call, .int .i64 a0.Answer.Err, .bool a0.Answer.Found, .string (bs a0.Answer.Value), .slice A9 t7.length c10]) (x_loadA (S.blk 2 rfl) ty32 rfl (sub_of_extract rfl) rfl rfl) rfl ?_))))
  refine W_store S 1 rfl ty32 rfl rfl [.int .u8 a0.What, .int .i64 a0.Task, .int .i64 a0.Call, .int .i64 a0.Answer.Err, .bool a0.Answer.Found, .string (bs a0.Answer.Value), .slice A9 t7.length c10] rfl rfl rfl #[.int .u8 a0.What, .int .i64 a0.Task, .int .i64 a0.Call, .int .i64 a0.Answer.Err, .bool a0.Answer.Found, .string (bs a0.Answer.Value), .slice A9 t7.length c10] (by as_aux_lemma => kernel_rfl) rfl ?_
  intro w14 E' S
  replace E := E.trans E'
  refine Wl_nil (tn ?_)
  refine Wp_ret ?_
  obtain rfl := Option.some.inj H
  exact ⟨_, _, _, fun w1 e1 => run_resR (vs := [.agg #[.int .u8 a0.What, .int .i64 a0.Task, .int .i64 a0.Call, .int .i64 a0.Answer.Err, .bool a0.Answer.Found, .string (bs a0.Answer.Value), .slice A9 t7.length c10]]) (FA.cons (⟨_, rfl, run_loadVar_agg ty32 ((S.of_eq e1).blk 1 rfl) (sub_of_extract rfl) rfl (by decide)⟩) (FA.nil)), HM, E, S.pick [0] (by decide), ⟨A9, c10, rfl, rfl⟩⟩
def event_New_v (k : Nat) (a0 : Int) : Option ((Unit) ⊕ (event_Recorder)) :=
  (if ((decide (a0 < (1 : Int))) || (decide (a0 > (6 : Int)))) = true then some (Sum.inl ()) else (if 0 ≤ a0 ∧ a0 ≤ a0 ∧ a0 * 16 ≤ 140737488355328 ∧ a0 ≤ 9223372036854775807 then some (Sum.inr (⟨(List.replicate a0.toNat (⟨0, 0⟩ : event_task)), ([] : List api_Event)⟩ : event_Recorder)) else none))
set_option maxHeartbeats 2000000 in
theorem event_New_v.mono {k : Nat} {a0 : Int} : OLe (event_New_v k a0) (event_New_v (k + 1) a0) := by
  unfold event_New_v
  repeat' (first | with_reducible exact OLe.none | with_reducible exact OLe.some | with_reducible refine OLe.ite ?_ ?_ | with_reducible refine OLe.bind ?_ (fun _ => ?_) | refine OLe.bind ?_ (fun _ => ?_) | refine OLe.ite ?_ ?_ | refine OLe.elim (fun _ => ?_) (fun _ => ?_) | split)
set_option maxHeartbeats 4000000 in
set_option maxRecDepth 100000 in
theorem event_New_v.con (k : Nat) (M : Hp) (a0 : Int) (r : (Unit) ⊕ (event_Recorder))  (h : event_New_v k a0 = some r) : Con Try.prog 14 #[.int .i64 a0] M [] (fun v M' Γ' => (Sum.elim (fun x => v = .tuple #[.pointer none, .int .i64 1] ∧ Γ' = []) (fun x => ∃ (bq1 : Nat) (Aq3 : Option Addr) (cq4 : Nat) (Aq6 : Option Addr) (cq7 : Nat), v = .tuple #[pt bq1 0, .int .i64 0] ∧ Γ' = [Blk bq1 (.cells #[.slice Aq3 x.tasks.length cq4, .slice Aq6 x.l.length cq7] 73 (0, 0)), Row r_event_task 70 (.slice Aq3 x.tasks.length cq4) x.tasks, Row r_api_Event 32 (.slice Aq6 x.l.length cq7) x.l])) r) := by
  refine con_of_wp Try.func14 rfl Try.ntmps14 Try.results14 rfl ?_
  intro w F rn S hrn
  have E := Ext.refl w
  have HM := Hp.le_refl M
  have H := h
  unfold event_New_v at H
  refine Wp_seq (Wp_region_lit (W_v (.pointer none) (x_assign rfl) rfl (W_v (.int .i64 0) (x_assign rfl) rfl (Wl_nil (tn (Wp_seq (Wp_seq (Wp_region_lit (W_v (.int .i64 a0) (x_move rfl) rfl (W_v (.bool (decide (a0 < (1 : Int)))) (x_ibin rfl rfl rfl rfl) rfl (W_v (.bool (decide (a0 < (1 : Int)))) (x_move rfl) rfl ?_)))))))))))
  refine Wl_cutN 3 (fun ρ w' => Agree ρ [(0, .int .i64 a0), (9, .bool ((decide (a0 < (1 : Int))) || (decide (a0 > (6 : Int)))))] ∧ w = w') ?_ ?_
  · rcases boolCases (decide (a0 < (1 : Int))) with hb1 | hb1
    · skip
      refine W_yes (congrArg some hb1) (W_v (.int .i64 a0) (x_move rfl) rfl (W_yes (congrArg some hb1) (W_v (.bool (decide (a0 > (6 : Int)))) (x_ibin rfl rfl rfl rfl) rfl (W_v (.bool (decide (a0 > (6 : Int)))) (x_pick (k := false) (congrArg Value.bool hb1) rfl) rfl (Wl_nil ?_)))))
      exact ⟨⟨rfl, (by first | rfl | (rw [hb1]; rfl) | (simp only [hb1]; rfl)), trivial⟩, rfl⟩
    · skip
      refine W_no (skF hb1) rfl (W_no (skF hb1) rfl (W_v (.bool true) (x_pick (k := true) (congrArg Value.bool hb1) rfl) rfl (Wl_nil ?_)))
      exact ⟨⟨rfl, (by first | rfl | (rw [hb1]; rfl) | (simp only [hb1]; rfl)), trivial⟩, rfl⟩
  rintro ρ _ ⟨hρ, rfl⟩
  rw [agree_eta hρ]
  refine Wl_nil (tn ?_)
  rcases iteS H with ⟨hb2, H⟩ | ⟨hb2, H⟩
  · refine Wp_cond_true (congrArg Value.bool hb2) ?_
    refine Wp_seq (Wp_region_lit (W_v (.pointer none) (x_assign rfl) rfl (W_v (.int .i64 1) (x_assign rfl) rfl (Wl_nil (tn ?_)))))
    refine Wp_ret ?_
    refine tr (?_)
    obtain rfl := Option.some.inj H
    exact ⟨_, _, _, fun w1 e1 => run_resR (vs := [.pointer none, .int .i64 1]) (FA.cons (rfl) (FA.cons (rfl) (FA.nil))), HM, E, S.pick [] (by decide), ⟨rfl, rfl⟩⟩
  refine Wp_cond_false (congrArg Value.bool hb2) (Wp_skip (tn ?_))
  as_aux_lemma =>
  refine Wp_seq (Wp_region_lit (W_v (.int .i64 a0) (x_move rfl) rfl ?_))
  obtain ⟨⟨p3, p4, p5, p6⟩, H⟩ := chkS H
  refine W_make (r := r_event_task) S (⟨0, 0⟩ : event_task) Try.underlying71 ty70 rfl (by decide) (fun _ => rfl) rfl rfl p3 p4 p5 p6 rfl ?_
  intro b7 w8 E' S
  replace E := E.trans E'
  refine W_v (.agg #[.slice (some ⟨b7, 0, none⟩) (List.replicate a0.toNat (⟨0, 0⟩ : event_task)).length a0.toNat, .slice none 0 0]) (x_build2 (pl := [(0, 1), (1, 1)]) #[.slice (some ⟨b7, 0, none⟩) (List.replicate a0.toNat (⟨0, 0⟩ : event_task)).length a0.toNat, .slice none 0 0] Try.underlying73 ty73 (by as_aux_lemma => kernel_rfl) rfl (by as_aux_lemma => kernel_rfl)) rfl ?_
  refine W_box S #[.slice (some ⟨b7, 0, none⟩) (List.replicate a0.toNat (⟨0, 0⟩ : event_task)).length a0.toNat, .slice none 0 0] rfl rfl rfl ?_
  intro b10 w11 E' S
  replace E := E.trans E'
  refine W_v (pt b10 0) (x_assign rfl) rfl (W_v (.int .i64 0) (x_assign rfl) rfl (Wl_nil (tn ?_)))
  refine Wp_ret ?_
  obtain rfl := Option.some.inj H
  replace S := S.row_nil r_api_Event 32
  exact ⟨_, _, _, fun w1 e1 => run_resR (vs := [pt b10 0, .int .i64 0]) (FA.cons (rfl) (FA.cons (rfl) (FA.nil))), HM, E, S.pick [1, 2, 0] (by decide), ⟨b10, (some ⟨b7, 0, none⟩), a0.toNat, none, 0, rfl, rfl⟩⟩
def event_Recorder_put_POO (k : Nat) (a0 : event_Recorder) (a1 : Int) (a2 : Int) (a3 : api_Event) : Option (Int × event_Recorder) :=
  (if ((decide (a1 < (0 : Int))) || (decide (a1 ≥ (a0.tasks.length : Int)))) = true then some ((1 : Int), a0) else (if 0 ≤ a1 ∧ a1 < (a0.tasks.length : Int) then (if ((rd a0.tasks a1).at_ != a2) = true then some ((7 : Int), a0) else (if 0 ≤ a1 ∧ a1 < (a0.tasks.length : Int) then (Option.bind (event_own k (⟨a3.What, a1, (rd a0.tasks a1).calls, ⟨a3.Answer.Err, a3.Answer.Found, a3.Answer.Value, a3.Answer.Pairs⟩⟩ : api_Event)) (fun t57 => (if a0.l.length + ([t57] : List api_Event).length ≤ 1759218604441 then (Option.bind (α := List event_task) (some (List.set a0.tasks a1.toNat (⟨(IntKind.i64.wrap ((rd a0.tasks a1).at_ + (1 : Int))), (rd a0.tasks a1).calls⟩ : event_task))) (fun x80 => (Option.bind (α := List event_task) (if (decide ((rd x80 a1).at_ > (2 : Int))) = true then (Option.bind (α := List event_task) (some (List.set x80 a1.toNat (⟨(0 : Int), (rd x80 a1).calls⟩ : event_task))) (fun x123 => (Option.bind (α := List event_task) (some (List.set x123 a1.toNat (⟨(rd x123 a1).at_, (IntKind.i64.wrap ((rd x123 a1).calls + (1 : Int)))⟩ : event_task))) (fun x130 => some (x130))))) else some (x80)) (fun x115 => some ((0 : Int), (⟨x115, (a0.l ++ ([t57] : List api_Event))⟩ : event_Recorder)))))) else none))) else none)) else none))
set_option maxHeartbeats 2000000 in
theorem event_Recorder_put_POO.mono {k : Nat} {a0 : event_Recorder} {a1 : Int} {a2 : Int} {a3 : api_Event} : OLe (event_Recorder_put_POO k a0 a1 a2 a3) (event_Recorder_put_POO (k + 1) a0 a1 a2 a3) := by
  unfold event_Recorder_put_POO
  repeat' (first | with_reducible exact OLe.none | with_reducible exact OLe.some | with_reducible refine OLe.ite ?_ ?_ | with_reducible refine OLe.bind ?_ (fun _ => ?_) | with_reducible exact event_own.mono | refine OLe.bind ?_ (fun _ => ?_) | refine OLe.ite ?_ ?_ | refine OLe.elim (fun _ => ?_) (fun _ => ?_) | split)
set_option maxHeartbeats 4000000 in
set_option maxRecDepth 100000 in
theorem event_Recorder_put_POO.con (k : Nat) (M : Hp) (A0_0 : Option Addr) (c0_0 : Nat) (A0_1 : Option Addr) (c0_1 : Nat) (a0 : event_Recorder) (a1 : Int) (a2 : Int) (A3_0 : Option Addr) (c3_0 : Nat) (a3 : api_Event) (bo0 : Nat) (r : Int × event_Recorder) (hr3_0 : SlR r_api_Pair M (.slice A3_0 a3.Answer.Pairs.length c3_0) a3.Answer.Pairs) (h : event_Recorder_put_POO k a0 a1 a2 a3 = some r) : Con Try.prog 34 #[pt bo0 0, .int .i64 a1, .int .i64 a2, .agg #[.int .u8 a3.What, .int .i64 a3.Task, .int .i64 a3.Call, .int .i64 a3.Answer.Err, .bool a3.Answer.Found, .string (bs a3.Answer.Value), .slice A3_0 a3.Answer.Pairs.length c3_0]] M [Blk bo0 (.cells #[.slice A0_0 a0.tasks.length c0_0, .slice A0_1 a0.l.length c0_1] 73 (0, 0)), Row r_event_task 70 (.slice A0_0 a0.tasks.length c0_0) a0.tasks, Row r_api_Event 32 (.slice A0_1 a0.l.length c0_1) a0.l] (fun v M' Γ' => ∃ (Aq1 : Option Addr) (cq2 : Nat) (Aq4 : Option Addr) (cq5 : Nat), v = .int .i64 r.1 ∧ Γ' = [Blk bo0 (.cells #[.slice Aq1 r.2.tasks.length cq2, .slice Aq4 r.2.l.length cq5] 73 (0, 0)), Row r_event_task 70 (.slice Aq1 r.2.tasks.length cq2) r.2.tasks, Row r_api_Event 32 (.slice Aq4 r.2.l.length cq5) r.2.l]) := by
  refine con_of_wp Try.func34 rfl Try.ntmps34 Try.results34 rfl ?_
  intro w F rn S hrn
  have E := Ext.refl w
  have HM := Hp.le_refl M
  have H := h
  unfold event_Recorder_put_POO at H
  refine Wp_seq (Wp_region_lit ?_)
  refine W_box S #[.int .u8 a3.What, .int .i64 a3.Task, .int .i64 a3.Call, .int .i64 a3.Answer.Err, .bool a3.Answer.Found, .string (bs a3.Answer.Value), .slice A3_0 a3.Answer.Pairs.length c3_0] rfl rfl rfl ?_
  intro b1 w2 E' S
  replace E := E.trans E'
  refine W_v (.int .i64 0) (x_assign rfl) rfl (Wl_nil (tn (Wp_seq ?_)))
  refine Wp_block ?_
  refine Wp_seq (Wp_region_lit (W_v (pt bo0 0) (x_move rfl) rfl (W_v (.bool false) (x_eq_of (r := false) rfl rfl (run_eq_ptrsn Try.underlying36)) rfl (W_v (.bool false) (x_assign rfl) rfl (Wl_nil (tn (Wp_cond_false rfl (Wp_seq (Wp_region_lit (W_v (.int .i64 a1) (x_move rfl) rfl (W_v (.bool (decide (a1 < (0 : Int)))) (x_ibin rfl rfl rfl rfl) rfl (W_v (.bool (decide (a1 < (0 : Int)))) (x_move rfl) rfl ?_))))))))))))
  refine Wl_cutN 8 (fun ρ w' => Agree ρ [(0, pt bo0 0), (1, .int .i64 a1), (2, .int .i64 a2), (7, pt b1 0), (24, .bool ((decide (a1 < (0 : Int))) || (decide (a1 ≥ (a0.tasks.length : Int)))))] ∧ w2 = w') ?_ ?_
  · rcases boolCases (decide (a1 < (0 : Int))) with hb4 | hb4
    · skip
      refine W_yes (congrArg some hb4) (W_v (.int .i64 a1) (x_move rfl) rfl (W_yes (congrArg some hb4) (W_v (pt bo0 0) (x_move rfl) rfl (W_yes (congrArg some hb4) (W_v (pt bo0 0) (x_nilptr rfl) rfl (W_yes (congrArg some hb4) (W_v (pt bo0 0) (x_fieldAddr (o := 0) (off := 0) Try.underlying73 rfl ty71 rfl rfl) rfl (W_yes (congrArg some hb4) (W_v (.slice A0_0 a0.tasks.length c0_0) (x_load (S.blk 1 rfl) ty71 rfl rfl) rfl (W_yes (congrArg some hb4) (W_v (.int .i64 (a0.tasks.length : Int)) (x_len_slice (n := a0.tasks.length) Try.underlying71 rfl) rfl (W_yes (congrArg some hb4) (W_v (.bool (decide (a1 ≥ (a0.tasks.length : Int)))) (x_ibin rfl rfl rfl rfl) rfl (W_v (.bool (decide (a1 ≥ (a0.tasks.length : Int)))) (x_pick (k := false) (congrArg Value.bool hb4) rfl) rfl (Wl_nil ?_)))))))))))))))
      exact ⟨⟨rfl, rfl, rfl, rfl, (by first | rfl | (rw [hb4]; rfl) | (simp only [hb4]; rfl)), trivial⟩, rfl⟩
    · skip
      refine W_no (skF hb4) rfl (W_no (skF hb4) rfl (W_no (skF hb4) rfl (W_no (skF hb4) rfl (W_no (skF hb4) rfl (W_no (skF hb4) rfl (W_no (skF hb4) rfl (W_v (.bool true) (x_pick (k := true) (congrArg Value.bool hb4) rfl) rfl (Wl_nil ?_))))))))
      exact ⟨⟨rfl, rfl, rfl, rfl, (by first | rfl | (rw [hb4]; rfl) | (simp only [hb4]; rfl)), trivial⟩, rfl⟩
  as_aux_lemma =>
  rintro ρ _ ⟨hρ, rfl⟩
  rw [agree_eta hρ]
  refine W_v (.bool ((decide (a1 < (0 : Int))) || (decide (a1 ≥ (a0.tasks.length : Int))))) (x_assign rfl) rfl (Wl_nil (tn ?_))
  rcases iteS H with ⟨hb5, H⟩ | ⟨hb5, H⟩
  · refine Wp_cond_true (congrArg Value.bool hb5) ?_
    refine Wp_seq (Wp_region_lit (W_v (.int .i64 1) (x_assign rfl) rfl (Wl_nil (tn ?_))))
    refine Wp_ret ?_
    refine br (tr (?_))
    obtain rfl := Option.some.inj H
    exact ⟨_, _, _, fun w1 e1 => run_resR (vs := [.int .i64 1]) (FA.cons (rfl) (FA.nil)), HM, E, S.pick [1, 2, 3] (by decide), ⟨A0_0, c0_0, A0_1, c0_1, rfl, rfl⟩⟩
  refine Wp_cond_false (congrArg Value.bool hb5) (Wp_seq (Wp_region_lit (W_v (pt bo0 0) (x_move rfl) rfl (W_v (pt bo0 0) (x_nilptr rfl) rfl (W_v (pt bo0 0) (x_fieldAddr (o := 0) (off := 0) Try.underlying73 rfl ty71 rfl rfl) rfl (W_v (.slice A0_0 a0.tasks.length c0_0) (x_load (S.blk 1 rfl) ty71 rfl rfl) rfl (W_v (.int .i64 a1) (x_move rfl) rfl ?_)))))))
  obtain ⟨⟨p6, p7⟩, H⟩ := chkS H
  obtain ⟨b8, o9, cs10, _, _, ee15, hb11, vs12, hR13, hc14⟩ := SlW.at' (S.row_read 2 rfl) p6 p7
  obtain rfl : vs12 = _ := hR13
  refine W_v (.pointer (some ⟨b8, o9 + a1.toNat * 2, none⟩)) (x_indexAddr Try.underlying71 ty70 (slA ee15) rfl p6 p7) rfl (W_v (.pointer (some ⟨b8, o9 + a1.toNat * 2, none⟩)) (x_fieldAddr (o := o9 + a1.toNat * 2) (off := 0) Try.underlying70 rfl ty3 rfl rfl) rfl (W_v (.int .i64 ((rd a0.tasks a1).at_)) (x_load (Hp.of_get hb11) ty3 rfl (hc14 0 _ rfl)) rfl (W_v (.int .i64 a2) (x_move rfl) rfl (W_v (.bool ((rd a0.tasks a1).at_ != a2)) (x_ibin rfl rfl rfl rfl) rfl (W_v (.bool ((rd a0.tasks a1).at_ != a2)) (x_assign rfl) rfl (Wl_nil (tn ?_)))))))
  rcases iteS H with ⟨hb16, H⟩ | ⟨hb16, H⟩
  · refine Wp_cond_true (congrArg Value.bool hb16) ?_
    refine Wp_seq (Wp_region_lit (W_v (.int .i64 7) (x_assign rfl) rfl (Wl_nil (tn ?_))))
    refine Wp_ret ?_
    refine br (tr (?_))
    obtain rfl := Option.some.inj H
    exact ⟨_, _, _, fun w1 e1 => run_resR (vs := [.int .i64 7]) (FA.cons (rfl) (FA.nil)), HM, E, S.pick [1, 2, 3] (by decide), ⟨A0_0, c0_0, A0_1, c0_1, rfl, rfl⟩⟩
  refine Wp_cond_false (congrArg Value.bool hb16) (Wp_skip (bn (tn ?_)))
  as_aux_lemma =>
  refine Wp_seq (Wp_region_lit (W_v (pt bo0 0) (x_move rfl) rfl (W_v (pt bo0 0) (x_nilptr rfl) rfl (W_v (pt bo0 0) (x_fieldAddr (o := 0) (off := 0) Try.underlying73 rfl ty71 rfl rfl) rfl (W_v (.slice A0_0 a0.tasks.length c0_0) (x_load (S.blk 1 rfl) ty71 rfl rfl) rfl (W_v (.int .i64 a1) (x_move rfl) rfl ?_))))))
  obtain ⟨⟨p17, p18⟩, H⟩ := chkS H
  obtain ⟨b19, o20, cs21, _, _, ee26, hb22, vs23, hR24, hc25⟩ := SlW.at' (S.row_read 2 rfl) p17 p18
  obtain rfl : vs23 = _ := hR24
  refine W_v (.pointer (some ⟨b19, o20 + a1.toNat * 2, none⟩)) (x_indexAddr Try.underlying71 ty70 (slA ee26) rfl p17 p18) rfl (W_v (.pointer (some ⟨b19, o20 + a1.toNat * 2, none⟩)) (x_assign rfl) rfl (Wl_nil (tn (Wp_seq ?_))))
  refine Wp_region_any (S := fun w' => ∃ Mx, M.le Mx ∧ St w' Mx F [Blk bo0 (.cells #[.slice A0_0 a0.tasks.length c0_0, .slice A0_1 a0.l.length c0_1] 73 (0, 0)), Row r_event_task 70 (.slice A0_0 a0.tasks.length c0_0) a0.tasks, Row r_api_Event 32 (.slice A0_1 a0.l.length c0_1) a0.l]) (L := 8) mixed ?_
  intro w29 hw30 E'
  replace S := S.heap hw30
  replace E := E.trans E'
  have D1 : ∃ Mx, Hp.le M Mx ∧ St _ Mx F [_, _, _] := ⟨_, Hp.le_refl _, S.pick [1, 2, 3] (by decide)⟩
  refine Wa_take (i := 0) rfl (by kernel_rfl) rfl rfl (.int .i64 a1) rfl (fun w' h' => x_move rfl) D1 (Wa_take (i := 1) rfl (by kernel_rfl) rfl rfl (.pointer (some ⟨b19, o20 + a1.toNat * 2, none⟩)) rfl (fun w' h' => x_move rfl) D1 (Wa_take (i := 2) rfl (by kernel_rfl) rfl rfl (.pointer (some ⟨b19, o20 + a1.toNat * 2, none⟩)) rfl (fun w' h' => x_nilptr rfl) D1 (Wa_take (i := 3) rfl (by kernel_rfl) rfl rfl (.pointer (some ⟨b19, o20 + a1.toNat * 2 + 1, none⟩)) rfl (fun w' h' => x_fieldAddr (o := o20 + a1.toNat * 2) (off := 1) Try.underlying70 rfl ty3 rfl rfl) D1 (Wa_take (i := 4) rfl (by kernel_rfl) rfl rfl (.int .i64 ((rd a0.tasks a1).calls)) rfl (fun w' h' => x_load_cls h' 1 rfl ee26 p17 p18 1 (by rintro _ _ rfl; rfl) ty3 rfl) D1 (Wa_take (i := 5) rfl (by kernel_rfl) rfl rfl (pt b1 1) rfl (fun w' h' => x_fieldAddr (o := 0) (off := 1) Try.underlying32 rfl ty3 rfl rfl) D1 ?_)))))
  refine Wa_solo (i := 6) rfl (by kernel_rfl) ?_
  refine W_store S 0 rfl ty3 rfl rfl [.int .i64 a1] rfl rfl rfl #[.int .u8 a3.What, .int .i64 a1, .int .i64 a3.Call, .int .i64 a3.Answer.Err, .bool a3.Answer.Found, .string (bs a3.Answer.Value), .slice A3_0 a3.Answer.Pairs.length c3_0] rfl rfl ?_
  intro w31 E' S
  replace E := E.trans E'
  refine Wl_nil (on_n ⟨.inr ⟨M, Hp.le_refl M, (S.pick [1, 2, 3] (by decide))⟩, ?_⟩)
  refine Wa_take (i := 7) rfl (by kernel_rfl) rfl rfl (pt b1 2) rfl (fun w' h' => x_fieldAddr (o := 0) (off := 2) Try.underlying32 rfl ty3 rfl rfl) (⟨M, Hp.le_refl M, (S.pick [1, 2, 3] (by decide))⟩) ?_
  refine Wa_solo (i := 8) rfl (by kernel_rfl) ?_
  refine W_store S 0 rfl ty3 rfl rfl [.int .i64 ((rd a0.tasks a1).calls)] rfl rfl rfl #[.int .u8 a3.What, .int .i64 a1, .int .i64 ((rd a0.tasks a1).calls), .int .i64 a3.Answer.Err, .bool a3.Answer.Found, .string (bs a3.Answer.Value), .slice A3_0 a3.Answer.Pairs.length c3_0] rfl rfl ?_
  intro w32 E' S
  replace E := E.trans E'
  refine Wl_nil (on_n ⟨.inl (by decide), ?_⟩)
  refine Wa_done (by kernel_rfl) ?_
  refine tn (Wp_seq ?_)
  have LE54 := Hp.le_refl M
  refine Wp_region_any (S := fun w' => ∃ Mx, M.le Mx ∧ St w' Mx F [Blk b1 (.cells #[.int .u8 a3.What, .int .i64 a1, .int .i64 ((rd a0.tasks a1).calls), .int .i64 a3.Answer.Err, .bool a3.Answer.Found, .string (bs a3.Answer.Value), .slice A3_0 a3.Answer.Pairs.length c3_0] 32 (0, 0)), Blk bo0 (.cells #[.slice A0_0 a0.tasks.length c0_0, .slice A0_1 a0.l.length c0_1] 73 (0, 0)), Row r_event_task 70 (.slice A0_0 a0.tasks.length c0_0) a0.tasks]) (L := 11) mixed ?_
  intro w55 hw56 E'
  replace S := S.heap hw56
  replace E := E.trans E'
  have hr3_0z := hr3_0
  have D3 : ∃ Mx, Hp.le M Mx ∧ St _ Mx F [_, _, _] := ⟨_, Hp.le_refl _, S.pick [0, 1, 2] (by decide)⟩
  refine Wa_take (i := 0) rfl (by kernel_rfl) rfl rfl (pt bo0 0) rfl (fun w' h' => x_move rfl) D3 (Wa_take (i := 1) rfl (by kernel_rfl) rfl rfl (pt bo0 0) rfl (fun w' h' => x_move rfl) D3 (Wa_take (i := 2) rfl (by kernel_rfl) rfl rfl (pt bo0 0) rfl (fun w' h' => x_nilptr rfl) D3 (Wa_take (i := 3) rfl (by kernel_rfl) rfl rfl (pt bo0 1) rfl (fun w' h' => x_fieldAddr (o := 0) (off := 1) Try.underlying73 rfl ty22 rfl rfl) D3 (Wa_take (i := 4) rfl (by kernel_rfl) rfl rfl (.slice A0_1 a0.l.length c0_1) rfl (fun w' h' => x_load (cls_blk h' 1 rfl) ty22 rfl rfl) D3 (Wa_take (i := 5) rfl (by kernel_rfl) rfl rfl (.agg #[.int .u8 a3.What, .int .i64 a1, .int .i64 ((rd a0.tasks a1).calls), .int .i64 a3.Answer.Err, .bool a3.Answer.Found, .string (bs a3.Answer.Value), .slice A3_0 a3.Answer.Pairs.length c3_0]) rfl (fun w' h' => x_loadA (cls_blk h' 0 rfl) ty32 rfl (sub_of_extract rfl) rfl rfl) D3 ?_)))))
  refine Wa_solo (i := 6) rfl (by kernel_rfl) ?_
  obtain ⟨t57, ht58, H⟩ := bindS H
  refine W_callF fn47 (event_own.con k M A3_0 c3_0 (⟨a3.What, a1, (rd a0.tasks a1).calls, ⟨a3.Answer.Err, a3.Answer.Found, a3.Answer.Value, a3.Answer.Pairs⟩⟩ : api_Event) t57 hr3_0 ht58) S rfl rfl (by rintro _ _ _ ⟨_, _, _, rfl⟩; exact (flat_cons (flat_row (fun _ _ _ _ h => h)) flat_nil)) ?_
  rintro _ w62 _ Γ' E' S ⟨A59, c60, rfl, rfl⟩
  replace E := E.trans E'
  refine Wl_nil (on_n ⟨.inr ⟨M, Hp.le_refl M, (S.pick [1, 2, 3] (by decide))⟩, ?_⟩)
  refine Wa_solo (i := 7) rfl (by kernel_rfl) ?_
  obtain ⟨M63, hM64, hf65, S⟩ := S.row_freeze 0 rfl
  replace HM := Hp.le_trans HM hM64
  replace LE54 := Hp.le_trans LE54 hM64
  replace hr3_0 := SlR.mono hr3_0 hM64
  refine W_bslice S #[.int .u8 t57.What, .int .i64 t57.Task, .int .i64 t57.Call, .int .i64 t57.Answer.Err, .bool t57.Answer.Found, .string (bs t57.Answer.Value), .slice A59 t57.Answer.Pairs.length c60] Try.underlying22 ty32 rfl rfl #[.int .u8 0, .int .i64 0, .int .i64 0, .int .i64 0, .bool false, .string (bs ([] : Str)), .slice none 0 0] (by as_aux_lemma => kernel_rfl) (by as_aux_lemma => kernel_rfl) rfl ?_
  intro b66 w67 E' S
  replace E := E.trans E'
  replace S := S.blk_row (r := r_api_Event) (l := ([t57] : List api_Event)) 0 rfl 1 (Nat.le_refl 1) rfl (Cells.cons (vs := [.int .u8 t57.What, .int .i64 t57.Task, .int .i64 t57.Call, .int .i64 t57.Answer.Err, .bool t57.Answer.Found, .string (bs t57.Answer.Value), .slice A59 t57.Answer.Pairs.length c60]) (⟨_, hf65, rfl⟩) Cells.nil)
  refine Wl_nil (on_n ⟨.inr ⟨M63, LE54, (S.pick [1, 2, 3] (by decide))⟩, ?_⟩)
  refine Wa_solo (i := 8) rfl (by kernel_rfl) ?_
  obtain ⟨p69, H⟩ := chkS H
  obtain ⟨src70, hs71, hC72⟩ := src_of_read (P := Try.prog) (ρ := r_api_Event) (l := ([t57] : List api_Event)) (S.row_read 0 rfl) (by decide)
  refine W_append S 4 rfl rfl rfl Try.underlying22 (.inl Try.underlying22) ty32 rfl (by decide) (by decide) hs71 hC72 rfl (by omega) rfl ?_
  intro v73 w74 E' S
  replace E := E.trans E'
  obtain ⟨A75, c76, rfl, _⟩ := (S.row_read 4 rfl).form
  refine Wl_nil (on_n ⟨.inr ⟨M63, LE54, (S.pick [1, 2, 3] (by decide))⟩, ?_⟩)
  refine Wa_take (i := 9) rfl (by kernel_rfl) rfl rfl (pt bo0 0) rfl (fun w' h' => x_nilptr rfl) (⟨M63, LE54, (S.pick [1, 2, 3] (by decide))⟩) (Wa_take (i := 10) rfl (by kernel_rfl) rfl rfl (pt bo0 1) rfl (fun w' h' => x_fieldAddr (o := 0) (off := 1) Try.underlying73 rfl ty22 rfl rfl) (⟨M63, LE54, (S.pick [1, 2, 3] (by decide))⟩) ?_)
  refine Wa_solo (i := 11) rfl (by kernel_rfl) ?_
  refine W_store S 2 rfl ty22 rfl rfl [.slice A75 (a0.l ++ ([t57] : List api_Event)).length c76] rfl rfl rfl #[.slice A0_0 a0.tasks.length c0_0, .slice A75 (a0.l ++ ([t57] : List api_Event)).length c76] rfl rfl ?_
  intro w77 E' S
  replace E := E.trans E'
  refine Wl_nil (on_n ⟨.inl (by decide), ?_⟩)
  refine Wa_done (by kernel_rfl) ?_
  refine tn ?_
  as_aux_lemma =>
  refine Wp_seq (Wp_seq (Wp_region_lit (W_v (.pointer (some ⟨b19, o20 + a1.toNat * 2, none⟩)) (x_move rfl) rfl (W_v (.pointer (some ⟨b19, o20 + a1.toNat * 2, none⟩)) (x_nilptr rfl) rfl (W_v (.pointer (some ⟨b19, o20 + a1.toNat * 2, none⟩)) (x_fieldAddr (o := o20 + a1.toNat * 2) (off := 0) Try.underlying70 rfl ty3 rfl rfl) rfl (W_v (.int .i64 ((rd a0.tasks a1).at_)) (x_load_cls ⟨M63, Hp.le_refl _, S⟩ 3 rfl ee26 p17 p18 0 (by rintro _ _ rfl; rfl) ty3 rfl) rfl (W_v (.int .i64 (IntKind.i64.wrap ((rd a0.tasks a1).at_ + (1 : Int)))) (x_ibin rfl rfl rfl rfl) rfl (W_v (.pointer (some ⟨b19, o20 + a1.toNat * 2, none⟩)) (x_nilptr rfl) rfl (W_v (.pointer (some ⟨b19, o20 + a1.toNat * 2, none⟩)) (x_fieldAddr (o := o20 + a1.toNat * 2) (off := 0) Try.underlying70 rfl ty3 rfl rfl) rfl ?_)))))))))
  obtain ⟨x80, he81, H⟩ := bindS H
  replace he81 := Option.some.inj he81
  refine W_rowstore S 3 rfl rfl ee26 (by first | exact p17 | simpa using p17) (by first | exact p18 | simpa using p18) 0 ty3 rfl rfl [.int .i64 (IntKind.i64.wrap ((rd a0.tasks a1).at_ + (1 : Int)))] rfl rfl rfl rfl (⟨(IntKind.i64.wrap ((rd a0.tasks a1).at_ + (1 : Int))), (rd a0.tasks a1).calls⟩ : event_task) (by rintro _ rfl; rfl) he81 ?_
  intro w79 E' S
  replace E := E.trans E'
  have hs82 : Value.slice A0_0 a0.tasks.length c0_0 = Value.slice A0_0 x80.length c0_0 := by rw [← he81, List.length_set]
  try rw [hs82] at S
  try rw [hs82]
  have p83 : a1 < (x80.length : Int) := by rw [← he81, List.length_set]; exact p7
  have p84 : a1 < (x80.length : Int) := by rw [← he81, List.length_set]; exact p18
  refine Wl_nil (tn (Wp_seq (Wp_region_lit (W_v (.pointer (some ⟨b19, o20 + a1.toNat * 2, none⟩)) (x_move rfl) rfl (W_v (.pointer (some ⟨b19, o20 + a1.toNat * 2, none⟩)) (x_nilptr rfl) rfl (W_v (.pointer (some ⟨b19, o20 + a1.toNat * 2, none⟩)) (x_fieldAddr (o := o20 + a1.toNat * 2) (off := 0) Try.underlying70 rfl ty3 rfl rfl) rfl (W_v (.int .i64 ((rd x80 a1).at_)) (x_load_cls ⟨M63, Hp.le_refl _, S⟩ 3 rfl ee26 p17 p84 0 (by rintro _ _ rfl; rfl) ty3 rfl) rfl (W_v (.bool (decide ((rd x80 a1).at_ > (2 : Int)))) (x_ibin rfl rfl rfl rfl) rfl (Wl_nil (tn ?_))))))))))
  obtain ⟨o119, o119h, o119H⟩ := bindS H
  refine Wp_cut (fun ρ w' => ∃ (x115 : List event_task) (A116 : Option Addr) (c117 : Nat), (x115) = o119 ∧ Agree ρ [] ∧ Ext w w' ∧ St w' M63 F [Row r_event_task 70 (.slice A116 x115.length c117) x115, Blk bo0 (.cells #[.slice A116 x115.length c117, .slice A75 (a0.l ++ ([t57] : List api_Event)).length c76] 73 (0, 0)), Row r_api_Event 32 (.slice A75 (a0.l ++ ([t57] : List api_Event)).length c76) (a0.l ++ ([t57] : List api_Event))]) ?_ ?_
  · as_aux_lemma =>
      clear o119H
      have H := o119h
      rcases iteS H with ⟨hb120, H⟩ | ⟨hb120, H⟩
      · refine Wp_cond_true (congrArg Value.bool hb120) ?_
        refine Wp_seq (Wp_region_lit (W_v (.pointer (some ⟨b19, o20 + a1.toNat * 2, none⟩)) (x_move rfl) rfl (W_v (.pointer (some ⟨b19, o20 + a1.toNat * 2, none⟩)) (x_nilptr rfl) rfl (W_v (.pointer (some ⟨b19, o20 + a1.toNat * 2, none⟩)) (x_fieldAddr (o := o20 + a1.toNat * 2) (off := 0) Try.underlying70 rfl ty3 rfl rfl) rfl ?_))))
        obtain ⟨x123, he124, H⟩ := bindS H
        replace he124 := Option.some.inj he124
        refine W_rowstore S 3 rfl rfl ee26 (by first | exact p17 | simpa using p17) (by first | exact p84 | simpa using p84) 0 ty3 rfl rfl [.int .i64 0] rfl rfl rfl rfl (⟨(0 : Int), (rd x80 a1).calls⟩ : event_task) (by rintro _ rfl; rfl) he124 ?_
        intro w122 E' S
        replace E := E.trans E'
        have hs125 : Value.slice A0_0 x80.length c0_0 = Value.slice A0_0 x123.length c0_0 := by rw [← he124, List.length_set]
        try rw [hs125] at S
        try rw [hs125]
        have p126 : a1 < (x123.length : Int) := by rw [← he124, List.length_set]; exact p83
        have p127 : a1 < (x123.length : Int) := by rw [← he124, List.length_set]; exact p84
        refine Wl_nil (tn (Wp_region_lit (W_v (.pointer (some ⟨b19, o20 + a1.toNat * 2, none⟩)) (x_move rfl) rfl (W_v (.pointer (some ⟨b19, o20 + a1.toNat * 2, none⟩)) (x_nilptr rfl) rfl (W_v (.pointer (some ⟨b19, o20 + a1.toNat * 2 + 1, none⟩)) (x_fieldAddr (o := o20 + a1.toNat * 2) (off := 1) Try.underlying70 rfl ty3 rfl rfl) rfl (W_v (.int .i64 ((rd x123 a1).calls)) (x_load_cls ⟨M63, Hp.le_refl _, S⟩ 3 rfl ee26 p17 p127 1 (by rintro _ _ rfl; rfl) ty3 rfl) rfl (W_v (.int .i64 (IntKind.i64.wrap ((rd x123 a1).calls + (1 : Int)))) (x_ibin rfl rfl rfl rfl) rfl (W_v (.pointer (some ⟨b19, o20 + a1.toNat * 2, none⟩)) (x_nilptr rfl) rfl (W_v (.pointer (some ⟨b19, o20 + a1.toNat * 2 + 1, none⟩)) (x_fieldAddr (o := o20 + a1.toNat * 2) (off := 1) Try.underlying70 rfl ty3 rfl rfl) rfl ?_)))))))))
        obtain ⟨x130, he131, H⟩ := bindS H
        replace he131 := Option.some.inj he131
        refine W_rowstore S 3 rfl rfl ee26 (by first | exact p17 | simpa using p17) (by first | exact p127 | simpa using p127) 1 ty3 rfl rfl [.int .i64 (IntKind.i64.wrap ((rd x123 a1).calls + (1 : Int)))] rfl rfl rfl rfl (⟨(rd x123 a1).at_, (IntKind.i64.wrap ((rd x123 a1).calls + (1 : Int)))⟩ : event_task) (by rintro _ rfl; rfl) he131 ?_
        intro w129 E' S
        replace E := E.trans E'
        have hs132 : Value.slice A0_0 x123.length c0_0 = Value.slice A0_0 x130.length c0_0 := by rw [← he131, List.length_set]
        try rw [hs132] at S
        try rw [hs132]
        have p133 : a1 < (x130.length : Int) := by rw [← he131, List.length_set]; exact p126
        have p134 : a1 < (x130.length : Int) := by rw [← he131, List.length_set]; exact p127
        refine Wl_nil (tn ?_)
        exact ⟨x130, A0_0, c0_0, Option.some.inj H, trivial, E, S.pick [3, 2, 4] (by decide)⟩
      refine Wp_cond_false (congrArg Value.bool hb120) (Wp_skip (tn ?_))
      exact ⟨x80, A0_0, c0_0, Option.some.inj H, trivial, E, S.pick [3, 2, 4] (by decide)⟩
  rintro ρ w135 ⟨x115, A116, c117, rfl, hρ, E, S⟩
  rw [agree_eta hρ]
  have H := o119H
  refine tn ?_
  as_aux_lemma =>
  refine Wp_seq (Wp_region_lit (W_v (.int .i64 0) (x_assign rfl) rfl (Wl_nil (tn ?_))))
  refine Wp_ret ?_
  obtain rfl := Option.some.inj H
  exact ⟨_, _, _, fun w1 e1 => run_resR (vs := [.int .i64 0]) (FA.cons (rfl) (FA.nil)), HM, E, S.pick [1, 0, 2] (by decide), ⟨A116, c117, A75, c76, rfl, rfl⟩⟩
def event_Legal_l0 (a0 : Int) (a1 : (List api_Event)) : Nat → Int → List event_task → List api_Event → Option ((Bool) ⊕ (Unit))
  | 0, _, _, _ => none
  | k + 1, x349, x350, x354 => (if (decide (x349 < (a1.length : Int))) = true then (if 0 ≤ x349 ∧ x349 < (a1.length : Int) then (Option.bind (α := Int) (if ((decide ((rd a1 x349).Task ≥ (0 : Int))) && (decide ((rd a1 x349).Task < a0))) = true then (if 0 ≤ (rd a1 x349).Task ∧ (rd a1 x349).Task < (x350.length : Int) then some ((rd x350 ((rd a1 x349).Task)).calls) else none) else some ((-1 : Int))) (fun x564 => (Option.bind (α := Bool) (if (((decide ((rd a1 x349).What < (1 : Int))) || (decide ((rd a1 x349).What > (3 : Int)))) || ((rd a1 x349).Call != x564)) = true then some (true) else (Option.bind (α := Bool) (if ((rd a1 x349).What != (3 : Int)) = true then (Option.bind (event_nothing k ((rd a1 x349).Answer)) (fun t620 => some ((!t620)))) else some (false)) (fun x618 => some (x618)))) (fun x609 => (Option.bind (α := Bool × List event_task × List api_Event) (if x609 = true then some (true, x350, x354) else (Option.bind (event_Recorder_put_POO k (⟨x350, x354⟩ : event_Recorder) ((rd a1 x349).Task) (IntKind.i64.wrap ((IntKind.i64.wrap ((rd a1 x349).What)) - (1 : Int))) (rd a1 x349)) (fun t659 => some ((t659.1 != (0 : Int)), t659.2.tasks, t659.2.l)))) (fun ⟨x648, x649, x653⟩ => (if x648 = true then some (.inl false) else event_Legal_l0 a0 a1 k (IntKind.i64.wrap (x349 + (1 : Int))) x649 x653))))))) else none) else some (.inr ()))
set_option maxHeartbeats 2000000 in
theorem event_Legal_l0.mono {a0 : Int} {a1 : (List api_Event)} : ∀ {kl : Nat} {x0 x1 x2}, OLe (event_Legal_l0 a0 a1 kl x0 x1 x2) (event_Legal_l0 a0 a1 (kl + 1) x0 x1 x2) := by
  intro kl
  induction kl with
  | zero => intros; exact OLe.none
  | succ kl ih =>
    intros
    rw [event_Legal_l0.eq_2, event_Legal_l0.eq_2]
    repeat' (first | with_reducible exact OLe.none | with_reducible exact OLe.some | with_reducible refine OLe.ite ?_ ?_ | with_reducible refine OLe.bind ?_ (fun _ => ?_) | with_reducible exact event_Recorder_put_POO.mono | with_reducible exact event_nothing.mono | exact ih | refine OLe.bind ?_ (fun _ => ?_) | refine OLe.ite ?_ ?_ | refine OLe.elim (fun _ => ?_) (fun _ => ?_) | split)
def event_Legal (k : Nat) (a0 : Int) (a1 : (List api_Event)) : Option (Bool) :=
  (Option.bind (event_New_v k a0) (fun t1 => (Sum.elim (fun t3 => some false) (fun t4 => (Option.bind (event_Legal_l0 a0 a1 k (0 : Int) t4.tasks t4.l) (fun o514o => Sum.elim (fun r' => some r') (fun _ => some true) o514o)))) t1))
set_option maxHeartbeats 2000000 in
theorem event_Legal.mono {k : Nat} {a0 : Int} {a1 : (List api_Event)} : OLe (event_Legal k a0 a1) (event_Legal (k + 1) a0 a1) := by
  unfold event_Legal
  repeat' (first | with_reducible exact OLe.none | with_reducible exact OLe.some | with_reducible refine OLe.ite ?_ ?_ | with_reducible refine OLe.bind ?_ (fun _ => ?_) | with_reducible exact event_Legal_l0.mono | with_reducible exact event_New_v.mono | refine OLe.bind ?_ (fun _ => ?_) | refine OLe.ite ?_ ?_ | refine OLe.elim (fun _ => ?_) (fun _ => ?_) | split)
set_option maxHeartbeats 1000000 in
set_option maxRecDepth 100000 in
theorem event_Legal.con (k : Nat) (M : Hp) (a0 : Int) (A1 : Option Addr) (c1 : Nat) (a1 : (List api_Event)) (r : Bool) (hr1 : SlR r_api_Event M (.slice A1 a1.length c1) a1) (h : event_Legal k a0 a1 = some r) : Con Try.prog 12 #[.int .i64 a0, .slice A1 a1.length c1] M [] (fun v M' Γ' => v = .bool r ∧ Γ' = []) := by
  refine con_of_wp Try.func12 rfl Try.ntmps12 Try.results12 rfl ?_
  intro w F rn S hrn
  have E := Ext.refl w
  have HM := Hp.le_refl M
  have H := h
  unfold event_Legal at H
  refine Wp_seq (Wp_region_lit (W_v (.bool false) (x_assign rfl) rfl (Wl_nil (tn (Wp_seq (Wp_region_lit (W_v (.int .i64 a0) (x_move rfl) rfl ?_)))))))
  obtain ⟨t1, ht2, H⟩ := bindS H
  rcases t1 with t3 | t4
  · skip
    replace H := elimL H
    refine W_callF2 fn14 (event_New_v.con k M a0 (Sum.inl t3)  ht2) (Γ1 := []) (Γ2 := []) S rfl rfl (by rintro _ _ _ ⟨rfl, rfl⟩; exact flat_nil) ?_
    rintro _ w5 _ Γ' E' S ⟨rfl, rfl⟩
    replace E := E.trans E'
    replace S : St w5 M F [] := S
    refine W_v (.tuple #[.pointer none, .int .i64 1]) (x_move rfl) rfl (W_v (.pointer none) (x_extract rfl rfl) rfl (W_v (.int .i64 1) (x_extract rfl rfl) rfl (W_v (.pointer none) (x_assign rfl) rfl (W_v (.int .i64 1) (x_assign rfl) rfl (Wl_nil (tn (Wp_seq (Wp_seq (Wp_region_lit (W_v (.int .i64 1) (x_move rfl) rfl (W_v (.bool true) (x_ibin rfl rfl rfl rfl) rfl (Wl_nil (tn (Wp_cond_true rfl (Wp_seq ?_)))))))))))))))
    refine Wp_region_lit (W_v (.bool false) (x_assign rfl) rfl (Wl_nil (tn ?_)))
    refine Wp_ret ?_
    refine tr (?_)
    obtain rfl := Option.some.inj H
    exact ⟨_, _, _, fun w1 e1 => run_resR (vs := [.bool false]) (FA.cons (rfl) (FA.nil)), HM, E, S.pick [] (by decide), ⟨rfl, rfl⟩⟩
  · skip
    replace H := elimR H
    refine W_call fn14 (event_New_v.con k M a0 (Sum.inr t4)  ht2) (Γ1 := []) (Γ2 := []) S rfl rfl ?_
    rintro _ w16 M17 Γ' hM18 E' S ⟨b8, A10, c11, A13, c14, rfl, rfl⟩
    replace HM := Hp.le_trans HM hM18
    replace hr1 := SlR.mono hr1 hM18
    replace E := E.trans E'
    replace S : St w16 M17 F [_, _, _] := S
    refine W_v (.tuple #[pt b8 0, .int .i64 0]) (x_move rfl) rfl (W_v (pt b8 0) (x_extract rfl rfl) rfl (W_v (.int .i64 0) (x_extract rfl rfl) rfl (W_v (pt b8 0) (x_assign rfl) rfl (W_v (.int .i64 0) (x_assign rfl) rfl (Wl_nil (tn (Wp_seq (Wp_seq (Wp_region_lit (W_v (.int .i64 0) (x_move rfl) rfl (W_v (.bool false) (x_ibin rfl rfl rfl rfl) rfl (Wl_nil (tn (Wp_cond_false rfl (Wp_skip ?_)))))))))))))))
    refine tn (Wp_seq (Wp_seq (Wp_region_lit (W_v (.slice A1 a1.length c1) (x_move rfl) rfl (W_v (.int .i64 (a1.length : Int)) (x_len_slice (n := a1.length) Try.underlying22 rfl) rfl (W_v (.int .i64 0) (x_move rfl) rfl (Wl_nil (tn ?_))))))))
    obtain ⟨o514, o514h, o514H⟩ := bindS H
    refine Wp_blockJ (fun ρ w' => ∃ (Mj : Hp), .inr () = o514 ∧ Agree ρ [] ∧ M17.le Mj ∧ Ext w w' ∧ St w' Mj F []) ?_ ?_
    · skip
      refine Wp_loop (fun n ρ w' => ∃ (x349 : Int) (x350 : List event_task) (x354 : List api_Event) (A351 : Option Addr) (c352 : Nat) (A355 : Option Addr) (c356 : Nat) (Mj : Hp), event_Legal_l0 a0 a1 n x349 x350 x354 = some o514 ∧ Agree ρ [(0, .int .i64 a0), (5, pt b8 0), (17, .slice A1 a1.length c1), (18, .int .i64 (a1.length : Int)), (19, .int .i64 x349)] ∧ M17.le Mj ∧ Ext w w' ∧ St w' Mj F [Row r_api_Event 32 (.slice A355 x354.length c356) x354, Row r_event_task 70 (.slice A351 x350.length c352) x350, Blk b8 (.cells #[.slice A351 x350.length c352, .slice A355 x354.length c356] 73 (0, 0))]) k ?_ ?_
      · skip
        exact ⟨(0 : Int), t4.tasks, t4.l, A10, c11, A13, c14, M17, o514h, ⟨rfl, rfl, rfl, rfl, rfl, trivial⟩, (Hp.le_refl M17), E, S.pick [2, 1, 0] (by decide)⟩
      · intro n
        rintro ρ w515 ⟨x349, x350, x354, A351, c352, A355, c356, M516, H, hρ, hM517, E, S⟩
        rw [agree_eta hρ]
        replace HM := Hp.le_trans HM hM517
        replace hr1 := SlR.mono hr1 hM517
        cases n with
        | zero => cases H
        | succ k =>
          rw [event_Legal_l0.eq_2] at H
          refine Wp_seq (Wp_region_lit (W_v (.bool (decide (x349 < (a1.length : Int)))) (x_ibin rfl rfl rfl rfl) rfl (Wl_nil (tn (Wp_seq ?_)))))
          rcases iteS H with ⟨hb518, H⟩ | ⟨hb518, H⟩
          · refine Wp_cond_true (congrArg Value.bool hb518) ?_
            refine Wp_skip (tn (Wp_seq ?_))
            refine Wp_block ?_
            refine Wp_seq (Wp_region_lit ?_)
            obtain ⟨⟨p519, p520⟩, H⟩ := chkS H
            obtain ⟨b521, o522, cs523, _, _, ee528, hb524, vs525, hR526, hc527⟩ := SlW.at' hr1 p519 p520
            obtain ⟨v532, hs531, rfl⟩ := hR526
            obtain ⟨A529, c530, rfl, _⟩ := hs531.form
            refine W_v (.pointer (some ⟨b521, o522 + x349.toNat * 7, none⟩)) (x_indexAddr Try.underlying22 ty32 (slA ee528) rfl p519 p520) rfl (W_v (.agg #[.int .u8 ((rd a1 x349).What), .int .i64 ((rd a1 x349).Task), .int .i64 ((rd a1 x349).Call), .int .i64 ((rd a1 x349).Answer.Err), .bool ((rd a1 x349).Answer.Found), .string (bs ((rd a1 x349).Answer.Value)), .slice A529 ((rd a1 x349).Answer.Pairs).length c530]) (x_loadA (S.frz hb524) ty32 rfl (sub_el hc527 0 rfl) rfl rfl) rfl ?_)
            refine W_alloc S #[.int .u8 0, .int .i64 0, .int .i64 0, .int .i64 0, .bool false, .string (bs ([] : Str)), .slice none 0 0] ty32 rfl rfl ?_
            intro b533 w534 E' S
            replace E := E.trans E'
            refine W_store S 0 rfl ty32 rfl rfl [.int .u8 ((rd a1 x349).What), .int .i64 ((rd a1 x349).Task), .int .i64 ((rd a1 x349).Call), .int .i64 ((rd a1 x349).Answer.Err), .bool ((rd a1 x349).Answer.Found), .string (bs ((rd a1 x349).Answer.Value)), .slice A529 ((rd a1 x349).Answer.Pairs).length c530] rfl rfl rfl #[.int .u8 ((rd a1 x349).What), .int .i64 ((rd a1 x349).Task), .int .i64 ((rd a1 x349).Call), .int .i64 ((rd a1 x349).Answer.Err), .bool ((rd a1 x349).Answer.Found), .string (bs ((rd a1 x349).Answer.Value)), .slice A529 ((rd a1 x349).Answer.Pairs).length c530] (by as_aux_lemma => kernel_rfl) rfl ?_
            intro w536 E' S
            replace E := E.trans E'
            refine Wl_nil (tn (Wp_seq (Wp_region_lit (W_v (.int .i64 (-1)) (x_assign rfl) rfl (Wl_nil (tn (Wp_seq (Wp_seq (Wp_region_lit (W_v (pt b533 1) (x_fieldAddr (o := 0) (off := 1) Try.underlying32 rfl ty3 rfl rfl) rfl (W_v (.int .i64 ((rd a1 x349).Task)) (x_load (S.blk 0 rfl) ty3 rfl rfl) rfl (W_v (.bool (decide ((rd a1 x349).Task ≥ (0 : Int)))) (x_ibin rfl rfl rfl rfl) rfl (W_v (.bool (decide ((rd a1 x349).Task ≥ (0 : Int)))) (x_move rfl) rfl ?_)))))))))))))
            refine Wl_cutN 5 (fun ρ w' => Agree ρ [(0, .int .i64 a0), (5, pt b8 0), (8, pt b533 0), (9, .int .i64 (-1)), (17, .slice A1 a1.length c1), (18, .int .i64 (a1.length : Int)), (19, .int .i64 x349), (31, .bool ((decide ((rd a1 x349).Task ≥ (0 : Int))) && (decide ((rd a1 x349).Task < a0))))] ∧ w536 = w') ?_ ?_
            · rcases boolCases (decide ((rd a1 x349).Task ≥ (0 : Int))) with hb537 | hb537
              · skip
                refine W_no (skT hb537) rfl (W_no (skT hb537) rfl (W_no (skT hb537) rfl (W_no (skT hb537) rfl (W_v (.bool false) (x_pick (k := false) (congrArg Value.bool hb537) rfl) rfl (Wl_nil ?_)))))
                exact ⟨⟨rfl, rfl, rfl, rfl, rfl, rfl, rfl, (by first | rfl | (rw [hb537]; rfl) | (simp only [hb537]; rfl)), trivial⟩, rfl⟩
              · skip
                refine W_yes (congrArg some hb537) (W_v (pt b533 1) (x_fieldAddr (o := 0) (off := 1) Try.underlying32 rfl ty3 rfl rfl) rfl (W_yes (congrArg some hb537) (W_v (.int .i64 ((rd a1 x349).Task)) (x_load (S.blk 0 rfl) ty3 rfl rfl) rfl (W_yes (congrArg some hb537) (W_v (.int .i64 a0) (x_move rfl) rfl (W_yes (congrArg some hb537) (W_v (.bool (decide ((rd a1 x349).Task < a0))) (x_ibin rfl rfl rfl rfl) rfl (W_v (.bool (decide ((rd a1 x349).Task < a0))) (x_pick (k := true) (congrArg Value.bool hb537) rfl) rfl (Wl_nil ?_)))))))))
                exact ⟨⟨rfl, rfl, rfl, rfl, rfl, rfl, rfl, (by first | rfl | (rw [hb537]; rfl) | (simp only [hb537]; rfl)), trivial⟩, rfl⟩
            as_aux_lemma =>
            rintro ρ _ ⟨hρ, rfl⟩
            rw [agree_eta hρ]
            refine Wl_nil (tn ?_)
            obtain ⟨o565, o565h, o565H⟩ := bindS H
            refine Wp_cut (fun ρ w' => ∃ (x564 : Int), (x564) = o565 ∧ Agree ρ [(0, .int .i64 a0), (5, pt b8 0), (8, pt b533 0), (9, .int .i64 x564), (17, .slice A1 a1.length c1), (18, .int .i64 (a1.length : Int)), (19, .int .i64 x349)] ∧ Ext w w' ∧ St w' M516 F [B32 b533 (rd a1 x349) A529 c530, Row r_api_Event 32 (.slice A355 x354.length c356) x354, Row r_event_task 70 (.slice A351 x350.length c352) x350, Blk b8 (.cells #[.slice A351 x350.length c352, .slice A355 x354.length c356] 73 (0, 0))]) ?_ ?_
            · clear o565H
              have H := o565h
              rcases iteS H with ⟨hb566, H⟩ | ⟨hb566, H⟩
              · refine Wp_cond_true (congrArg Value.bool hb566) ?_
                refine Wp_region_any (S := fun w' => ∃ Mx, M516.le Mx ∧ St w' Mx F [B32 b533 (rd a1 x349) A529 c530, Row r_api_Event 32 (.slice A355 x354.length c356) x354, Row r_event_task 70 (.slice A351 x350.length c352) x350, Blk b8 (.cells #[.slice A351 x350.length c352, .slice A355 x354.length c356] 73 (0, 0))]) (L := 10) mixed ?_
                intro w572 hw573 E'
                replace S := S.heap hw573
                replace E := E.trans E'
                have D1 : ∃ Mx, Hp.le M516 Mx ∧ St _ Mx F [_, _, _, _] := ⟨_, Hp.le_refl _, S.pick [0, 1, 2, 3] (by decide)⟩
                refine Wa_take (i := 0) rfl (by kernel_rfl) rfl rfl (pt b8 0) rfl (fun w' h' => x_move rfl) D1 (Wa_take (i := 1) rfl (by kernel_rfl) rfl rfl (pt b8 0) rfl (fun w' h' => x_nilptr rfl) D1 (Wa_take (i := 2) rfl (by kernel_rfl) rfl rfl (pt b8 0) rfl (fun w' h' => x_fieldAddr (o := 0) (off := 0) Try.underlying73 rfl ty71 rfl rfl) D1 (Wa_take (i := 3) rfl (by kernel_rfl) rfl rfl (.slice A351 x350.length c352) rfl (fun w' h' => x_load (cls_blk h' 3 rfl) ty71 rfl rfl) D1 (Wa_take (i := 4) rfl (by kernel_rfl) rfl rfl (pt b533 1) rfl (fun w' h' => x_fieldAddr (o := 0) (off := 1) Try.underlying32 rfl ty3 rfl rfl) D1 (Wa_take (i := 5) rfl (by kernel_rfl) rfl rfl (.int .i64 ((rd a1 x349).Task)) rfl (fun w' h' => x_load (cls_blk h' 0 rfl) ty3 rfl rfl) D1 ?_)))))
                obtain ⟨⟨p574, p575⟩, H⟩ := chkS H
                obtain ⟨b576, o577, _, _, _, ee578, _⟩ := SlW.at' (S.row_read 2 rfl) p574 p575
                refine Wa_take (i := 6) rfl (by kernel_rfl) rfl rfl (.pointer (some ⟨b576, o577 + ((rd a1 x349).Task).toNat * 2, none⟩)) rfl (fun w' h' => x_indexAddr Try.underlying71 ty70 (slA ee578) rfl p574 p575) D1 (Wa_take (i := 7) rfl (by kernel_rfl) rfl rfl (.pointer (some ⟨b576, o577 + ((rd a1 x349).Task).toNat * 2 + 1, none⟩)) rfl (fun w' h' => x_fieldAddr (o := o577 + ((rd a1 x349).Task).toNat * 2) (off := 1) Try.underlying70 rfl ty3 rfl rfl) D1 (Wa_take (i := 8) rfl (by kernel_rfl) rfl rfl (.int .i64 ((rd x350 ((rd a1 x349).Task)).calls)) rfl (fun w' h' => x_load_cls h' 2 rfl ee578 p574 p575 1 (by rintro _ _ rfl; rfl) ty3 rfl) D1 (Wa_take (i := 9) rfl (by kernel_rfl) rfl rfl (.int .i64 ((rd x350 ((rd a1 x349).Task)).calls)) rfl (fun w' h' => x_assign rfl) D1 ?_)))
                refine Wa_done (by kernel_rfl) ?_
                refine tn ?_
                exact ⟨((rd x350 ((rd a1 x349).Task)).calls), Option.some.inj H, ⟨rfl, rfl, rfl, rfl, rfl, rfl, rfl, trivial⟩, E, S.pick [0, 1, 2, 3] (by decide)⟩
              refine Wp_cond_false (congrArg Value.bool hb566) (Wp_skip (tn ?_))
              exact ⟨(-1 : Int), Option.some.inj H, ⟨rfl, rfl, rfl, rfl, rfl, rfl, rfl, trivial⟩, E, S.pick [0, 1, 2, 3] (by decide)⟩
            as_aux_lemma =>
            rintro ρ w579 ⟨x564, rfl, hρ, E, S⟩
            rw [agree_eta hρ]
            have H := o565H
            refine tn (Wp_seq (Wp_region_lit (W_v (pt b533 0) (x_fieldAddr (o := 0) (off := 0) Try.underlying32 rfl ty5 rfl rfl) rfl (W_v (.int .u8 ((rd a1 x349).What)) (x_load (S.blk 0 rfl) ty5 rfl rfl) rfl (W_v (.bool (decide ((rd a1 x349).What < (1 : Int)))) (x_ibin rfl rfl rfl rfl) rfl (W_v (.bool (decide ((rd a1 x349).What < (1 : Int)))) (x_move rfl) rfl ?_))))))
            refine Wl_cutN 4 (fun ρ w' => Agree ρ [(0, .int .i64 a0), (5, pt b8 0), (8, pt b533 0), (9, .int .i64 x564), (17, .slice A1 a1.length c1), (18, .int .i64 (a1.length : Int)), (19, .int .i64 x349), (48, .bool ((decide ((rd a1 x349).What < (1 : Int))) || (decide ((rd a1 x349).What > (3 : Int)))))] ∧ w579 = w') ?_ ?_
            · rcases boolCases (decide ((rd a1 x349).What < (1 : Int))) with hb580 | hb580
              · skip
                refine W_yes (congrArg some hb580) (W_v (pt b533 0) (x_fieldAddr (o := 0) (off := 0) Try.underlying32 rfl ty5 rfl rfl) rfl (W_yes (congrArg some hb580) (W_v (.int .u8 ((rd a1 x349).What)) (x_load (S.blk 0 rfl) ty5 rfl rfl) rfl (W_yes (congrArg some hb580) (W_v (.bool (decide ((rd a1 x349).What > (3 : Int)))) (x_ibin rfl rfl rfl rfl) rfl (W_v (.bool (decide ((rd a1 x349).What > (3 : Int)))) (x_pick (k := false) (congrArg Value.bool hb580) rfl) rfl (Wl_nil ?_)))))))
                exact ⟨⟨rfl, rfl, rfl, rfl, rfl, rfl, rfl, (by first | rfl | (rw [hb580]; rfl) | (simp only [hb580]; rfl)), trivial⟩, rfl⟩
              · skip
                refine W_no (skF hb580) rfl (W_no (skF hb580) rfl (W_no (skF hb580) rfl (W_v (.bool true) (x_pick (k := true) (congrArg Value.bool hb580) rfl) rfl (Wl_nil ?_))))
                exact ⟨⟨rfl, rfl, rfl, rfl, rfl, rfl, rfl, (by first | rfl | (rw [hb580]; rfl) | (simp only [hb580]; rfl)), trivial⟩, rfl⟩
            as_aux_lemma =>
            rintro ρ _ ⟨hρ, rfl⟩
            rw [agree_eta hρ]
            refine W_v (.bool ((decide ((rd a1 x349).What < (1 : Int))) || (decide ((rd a1 x349).What > (3 : Int))))) (x_move rfl) rfl ?_
            refine Wl_cutN 5 (fun ρ w' => Agree ρ [(0, .int .i64 a0), (5, pt b8 0), (8, pt b533 0), (17, .slice A1 a1.length c1), (18, .int .i64 (a1.length : Int)), (19, .int .i64 x349), (54, .bool (((decide ((rd a1 x349).What < (1 : Int))) || (decide ((rd a1 x349).What > (3 : Int)))) || ((rd a1 x349).Call != x564)))] ∧ w579 = w') ?_ ?_
            · rcases boolCases ((decide ((rd a1 x349).What < (1 : Int))) || (decide ((rd a1 x349).What > (3 : Int)))) with hb581 | hb581
              · skip
                refine W_yes (congrArg some hb581) (W_v (pt b533 2) (x_fieldAddr (o := 0) (off := 2) Try.underlying32 rfl ty3 rfl rfl) rfl (W_yes (congrArg some hb581) (W_v (.int .i64 ((rd a1 x349).Call)) (x_load (S.blk 0 rfl) ty3 rfl rfl) rfl (W_yes (congrArg some hb581) (W_v (.int .i64 x564) (x_move rfl) rfl (W_yes (congrArg some hb581) (W_v (.bool ((rd a1 x349).Call != x564)) (x_ibin rfl rfl rfl rfl) rfl (W_v (.bool ((rd a1 x349).Call != x564)) (x_pick (k := false) (congrArg Value.bool hb581) rfl) rfl (Wl_nil ?_)))))))))
                exact ⟨⟨rfl, rfl, rfl, rfl, rfl, rfl, (by first | rfl | (rw [hb581]; rfl) | (simp only [hb581]; rfl)), trivial⟩, rfl⟩
              · skip
                refine W_no (skF hb581) rfl (W_no (skF hb581) rfl (W_no (skF hb581) rfl (W_no (skF hb581) rfl (W_v (.bool true) (x_pick (k := true) (congrArg Value.bool hb581) rfl) rfl (Wl_nil ?_)))))
                exact ⟨⟨rfl, rfl, rfl, rfl, rfl, rfl, (by first | rfl | (rw [hb581]; rfl) | (simp only [hb581]; rfl)), trivial⟩, rfl⟩
            as_aux_lemma =>
            rintro ρ _ ⟨hρ, rfl⟩
            rw [agree_eta hρ]
            refine W_v (.bool (((decide ((rd a1 x349).What < (1 : Int))) || (decide ((rd a1 x349).What > (3 : Int)))) || ((rd a1 x349).Call != x564))) (x_move rfl) rfl ?_
            obtain ⟨o610, o610h, o610H⟩ := bindS H
            refine Wl_cutN 10 (fun ρ w' => ∃ (x609 : Bool), (x609) = o610 ∧ Agree ρ [(0, .int .i64 a0), (5, pt b8 0), (8, pt b533 0), (17, .slice A1 a1.length c1), (18, .int .i64 (a1.length : Int)), (19, .int .i64 x349), (65, .bool x609)] ∧ Ext w w' ∧ St w' M516 F [B32 b533 (rd a1 x349) A529 c530, Row r_api_Event 32 (.slice A355 x354.length c356) x354, Row r_event_task 70 (.slice A351 x350.length c352) x350, Blk b8 (.cells #[.slice A351 x350.length c352, .slice A355 x354.length c356] 73 (0, 0))]) ?_ ?_
            · as_aux_lemma =>
                have H := o610h
                rcases iteS H with ⟨hb608, H⟩ | ⟨hb608, H⟩
                · skip
                  refine W_no (skF hb608) rfl (W_no (skF hb608) rfl (W_no (skF hb608) rfl (W_no (skF hb608) rfl (W_no (rfl) rfl (W_no (rfl) rfl (W_no (rfl) rfl (W_no (rfl) rfl (W_no (skF hb608) rfl (W_v (.bool true) (x_pick (k := true) (congrArg Value.bool hb608) rfl) rfl (Wl_nil ?_))))))))))
                  exact ⟨true, Option.some.inj H, ⟨rfl, rfl, rfl, rfl, rfl, rfl, rfl, trivial⟩, E, S.pick [0, 1, 2, 3] (by decide)⟩
                · skip
                  refine W_yes (congrArg some hb608) (W_v (pt b533 0) (x_fieldAddr (o := 0) (off := 0) Try.underlying32 rfl ty5 rfl rfl) rfl (W_yes (congrArg some hb608) (W_v (.int .u8 ((rd a1 x349).What)) (x_load (S.blk 0 rfl) ty5 rfl rfl) rfl (W_yes (congrArg some hb608) (W_v (.bool ((rd a1 x349).What != (3 : Int))) (x_ibin rfl rfl rfl rfl) rfl (W_yes (congrArg some hb608) (W_v (.bool ((rd a1 x349).What != (3 : Int))) (x_move rfl) rfl ?_)))))))
                  obtain ⟨o619, o619h, o619H⟩ := bindS H
                  refine Wl_cutN 5 (fun ρ w' => ∃ (x618 : Bool), (x618) = o619 ∧ Agree ρ [(0, .int .i64 a0), (5, pt b8 0), (8, pt b533 0), (17, .slice A1 a1.length c1), (18, .int .i64 (a1.length : Int)), (19, .int .i64 x349), (55, .bool (((decide ((rd a1 x349).What < (1 : Int))) || (decide ((rd a1 x349).What > (3 : Int)))) || ((rd a1 x349).Call != x564))), (56, pt b533 0), (57, .int .u8 ((rd a1 x349).What)), (58, .bool ((rd a1 x349).What != (3 : Int))), (59, .bool ((rd a1 x349).What != (3 : Int))), (64, .bool x618)] ∧ Ext w w' ∧ St w' M516 F [B32 b533 (rd a1 x349) A529 c530, Row r_api_Event 32 (.slice A355 x354.length c356) x354, Row r_event_task 70 (.slice A351 x350.length c352) x350, Blk b8 (.cells #[.slice A351 x350.length c352, .slice A355 x354.length c356] 73 (0, 0))]) ?_ ?_
                  · have H := o619h
                    rcases iteS H with ⟨hb617, H⟩ | ⟨hb617, H⟩
                    · skip
                      refine W_yes (congrArg some hb617) (W_v (pt b533 3) (x_fieldAddr (o := 0) (off := 3) Try.underlying32 rfl ty30 rfl rfl) rfl (W_yes (congrArg some hb617) (W_v (.agg #[.int .i64 ((rd a1 x349).Answer.Err), .bool ((rd a1 x349).Answer.Found), .string (bs ((rd a1 x349).Answer.Value)), .slice A529 ((rd a1 x349).Answer.Pairs).length c530]) (x_loadA (S.blk 0 rfl) ty30 rfl (sub_of_extract rfl) rfl rfl) rfl (W_yes (congrArg some hb617) ?_))))
                      obtain ⟨t620, ht621, H⟩ := bindS H
                      refine W_callF fn33 (event_nothing.con k M516 A529 c530 ((rd a1 x349).Answer) t620 hs531 ht621) S rfl rfl (by rintro _ _ _ ⟨_, rfl⟩; exact flat_nil) ?_
                      rintro _ w622 _ Γ' E' S ⟨rfl, rfl⟩
                      replace E := E.trans E'
                      refine W_yes (congrArg some hb617) (W_v (.bool (!t620)) (x_not (b := t620) rfl) rfl (W_yes (congrArg some hb608) (W_v (.bool (!t620)) (x_pick (k := true) (congrArg Value.bool hb617) rfl) rfl (Wl_nil ?_))))
                      exact ⟨(!t620), Option.some.inj H, ⟨rfl, rfl, rfl, rfl, rfl, rfl, rfl, rfl, rfl, rfl, rfl, rfl, trivial⟩, E, S.pick [0, 1, 2, 3] (by decide)⟩
                    · skip
                      refine W_no (skT hb617) rfl (W_no (skT hb617) rfl (W_no (skT hb617) rfl (W_no (skT hb617) rfl (W_yes (congrArg some hb608) (W_v (.bool false) (x_pick (k := false) (congrArg Value.bool hb617) rfl) rfl (Wl_nil ?_))))))
                      exact ⟨false, Option.some.inj H, ⟨rfl, rfl, rfl, rfl, rfl, rfl, rfl, rfl, rfl, rfl, rfl, rfl, trivial⟩, E, S.pick [0, 1, 2, 3] (by decide)⟩
                  rintro ρ w623 ⟨x618, rfl, hρ, E, S⟩
                  rw [agree_eta hρ]
                  have H := o619H
                  refine W_v (.bool x618) (x_pick (k := false) (congrArg Value.bool hb608) rfl) rfl (Wl_nil ?_)
                  exact ⟨x618, Option.some.inj H, ⟨rfl, rfl, rfl, rfl, rfl, rfl, rfl, trivial⟩, E, S.pick [0, 1, 2, 3] (by decide)⟩
            as_aux_lemma =>
            rintro ρ w624 ⟨x609, rfl, hρ, E, S⟩
            rw [agree_eta hρ]
            have H := o610H
            refine W_v (.bool x609) (x_move rfl) rfl ?_
            obtain ⟨o657, o657h, o657H⟩ := bindS H
            refine Wl_cutN 11 (fun ρ w' => ∃ (x648 : Bool) (x649 : List event_task) (x653 : List api_Event) (A650 : Option Addr) (c651 : Nat) (A654 : Option Addr) (c655 : Nat) (Mj : Hp), (x648, x649, x653) = o657 ∧ Agree ρ [(0, .int .i64 a0), (5, pt b8 0), (17, .slice A1 a1.length c1), (18, .int .i64 (a1.length : Int)), (19, .int .i64 x349), (77, .bool x648)] ∧ M516.le Mj ∧ Ext w w' ∧ St w' Mj F [Row r_api_Event 32 (.slice A654 x653.length c655) x653, Row r_event_task 70 (.slice A650 x649.length c651) x649, Blk b8 (.cells #[.slice A650 x649.length c651, .slice A654 x653.length c655] 73 (0, 0))]) ?_ ?_
            · as_aux_lemma =>
                have H := o657h
                have LE658 := Hp.le_refl M516
                rcases iteS H with ⟨hb647, H⟩ | ⟨hb647, H⟩
                · skip
                  refine W_no (skF hb647) rfl (W_no (skF hb647) rfl (W_no (skF hb647) rfl (W_no (skF hb647) rfl (W_no (skF hb647) rfl (W_no (skF hb647) rfl (W_no (skF hb647) rfl (W_no (skF hb647) rfl (W_no (skF hb647) rfl (W_no (skF hb647) rfl (W_v (.bool true) (x_pick (k := true) (congrArg Value.bool hb647) rfl) rfl (Wl_nil ?_)))))))))))
                  exact ⟨true, x350, x354, A351, c352, A355, c356, M516, Option.some.inj H, ⟨rfl, rfl, rfl, rfl, rfl, rfl, trivial⟩, (Hp.le_refl M516), E, S.pick [1, 2, 3] (by decide)⟩
                · skip
                  refine W_yes (congrArg some hb647) (W_v (pt b8 0) (x_move rfl) rfl (W_yes (congrArg some hb647) (W_v (pt b533 1) (x_fieldAddr (o := 0) (off := 1) Try.underlying32 rfl ty3 rfl rfl) rfl (W_yes (congrArg some hb647) (W_v (.int .i64 ((rd a1 x349).Task)) (x_load (S.blk 0 rfl) ty3 rfl rfl) rfl (W_yes (congrArg some hb647) (W_v (pt b533 0) (x_fieldAddr (o := 0) (off := 0) Try.underlying32 rfl ty5 rfl rfl) rfl (W_yes (congrArg some hb647) (W_v (.int .u8 ((rd a1 x349).What)) (x_load (S.blk 0 rfl) ty5 rfl rfl) rfl (W_yes (congrArg some hb647) (W_v (.int .i64 (IntKind.i64.wrap ((rd a1 x349).What))) (x_conv_int Try.underlying5 Try.underlying3 rfl) rfl (W_yes (congrArg some hb647) (W_v (.int .i64 (IntKind.i64.wrap ((IntKind.i64.wrap ((rd a1 x349).What)) - (1 : Int)))) (x_ibin rfl rfl rfl rfl) rfl (W_yes (congrArg some hb647) (W_v (.agg #[.int .u8 ((rd a1 x349).What), .int .i64 ((rd a1 x349).Task), .int .i64 ((rd a1 x349).Call), .int .i64 ((rd a1 x349).Answer.Err), .bool ((rd a1 x349).Answer.Found), .string (bs ((rd a1 x349).Answer.Value)), .slice A529 ((rd a1 x349).Answer.Pairs).length c530]) (x_loadA (S.blk 0 rfl) ty32 rfl (sub_of_extract rfl) rfl rfl) rfl ?_)))))))))))))))
                  refine W_yes (congrArg some hb647) ?_
                  obtain ⟨t659, ht660, H⟩ := bindS H
                  replace S : St w624 M516 F [_, _, _, _] := S.pick [3, 2, 1, 0] (by decide)
                  refine W_call fn34 (event_Recorder_put_POO.con k M516 A351 c352 A355 c356 (⟨x350, x354⟩ : event_Recorder) ((rd a1 x349).Task) (IntKind.i64.wrap ((IntKind.i64.wrap ((rd a1 x349).What)) - (1 : Int))) A529 c530 (rd a1 x349) b8 t659 hs531 ht660) (Γ1 := [_, _, _]) (Γ2 := [_]) S rfl rfl ?_
                  rintro _ w667 M668 Γ' hM669 E' S ⟨A661, c662, A664, c665, rfl, rfl⟩
                  replace HM := Hp.le_trans HM hM669
                  replace hM517 := Hp.le_trans hM517 hM669
                  replace LE658 := Hp.le_trans LE658 hM669
                  replace hr1 := SlR.mono hr1 hM669
                  replace hb524 := hM669 _ _ hb524
                  replace hs531 := SlR.mono hs531 hM669
                  replace E := E.trans E'
                  replace S : St w667 M668 F [_, _, _, _] := S
                  refine W_yes (congrArg some hb647) (W_v (.bool (t659.1 != (0 : Int))) (x_ibin rfl rfl rfl rfl) rfl (W_v (.bool (t659.1 != (0 : Int))) (x_pick (k := false) (congrArg Value.bool hb647) rfl) rfl (Wl_nil ?_)))
                  exact ⟨(t659.1 != (0 : Int)), t659.2.tasks, t659.2.l, A661, c662, A664, c665, M668, Option.some.inj H, ⟨rfl, rfl, rfl, rfl, rfl, rfl, trivial⟩, LE658, E, S.pick [2, 1, 0] (by decide)⟩
            rintro ρ w670 ⟨x648, x649, x653, A650, c651, A654, c655, M671, rfl, hρ, hM672, E, S⟩
            rw [agree_eta hρ]
            replace HM := Hp.le_trans HM hM672
            replace hM517 := Hp.le_trans hM517 hM672
            replace hr1 := SlR.mono hr1 hM672
            replace hb524 := hM672 _ _ hb524
            replace hs531 := SlR.mono hs531 hM672
            have H := o657H
            refine Wl_nil (tn ?_)
            rcases iteS H with ⟨hb673, H⟩ | ⟨hb673, H⟩
            · refine Wp_cond_true (congrArg Value.bool hb673) ?_
              refine Wp_seq (Wp_region_lit (W_v (.bool false) (x_assign rfl) rfl (Wl_nil (tn ?_))))
              refine Wp_ret ?_
              refine br (tr (tr (br (tr (tr (?_))))))
              obtain rfl := Option.some.inj H
              have H := o514H
              replace H := elimL H
              obtain rfl := Option.some.inj H
              exact ⟨_, _, _, fun w1 e1 => run_resR (vs := [.bool false]) (FA.cons (rfl) (FA.nil)), HM, E, S.pick [] (by decide), ⟨rfl, rfl⟩⟩
            refine Wp_cond_false (congrArg Value.bool hb673) (Wp_skip (bn (tn (Wp_region_lit (W_v (.int .i64 (IntKind.i64.wrap (x349 + (1 : Int)))) (x_ibin rfl rfl rfl rfl) rfl (W_v (.int .i64 (IntKind.i64.wrap (x349 + (1 : Int)))) (x_move rfl) rfl (Wl_nil (tn ?_))))))))
            exact ⟨k, Nat.lt_succ_self k, ⟨(IntKind.i64.wrap (x349 + (1 : Int))), x649, x653, A650, c651, A654, c655, M671, H, ⟨rfl, rfl, rfl, rfl, rfl, trivial⟩, hM517, E, S.pick [0, 1, 2] (by decide)⟩⟩
          refine Wp_cond_false (congrArg Value.bool hb518) ?_
          refine Wp_exit ?_
          refine tx (tx (bsm (?_)))
          refine tn ?_
          exact ⟨M516, Option.some.inj H, trivial, hM517, E, S.pick [] (by decide)⟩
    rintro ρ w674 ⟨M675, rfl, hρ, hM676, E, S⟩
    rw [agree_eta hρ]
    replace HM := Hp.le_trans HM hM676
    replace hr1 := SlR.mono hr1 hM676
    have H := o514H
    replace H := elimR H
    refine tn ?_
    as_aux_lemma =>
    refine Wp_seq (Wp_region_lit (W_v (.bool true) (x_assign rfl) rfl (Wl_nil (tn ?_))))
    refine Wp_ret ?_
    obtain rfl := Option.some.inj H
    exact ⟨_, _, _, fun w1 e1 => run_resR (vs := [.bool true]) (FA.cons (rfl) (FA.nil)), HM, E, S.pick [] (by decide), ⟨rfl, rfl⟩⟩
def event_owned_l0 (a0 : (List api_Event)) : Nat → List api_Event → Int → Option ((List api_Event))
  | 0, _, _ => none
  | k + 1, x78, x82 => (if (decide (x82 < (a0.length : Int))) = true then (if 0 ≤ x82 ∧ x82 < (a0.length : Int) then (Option.bind (event_own k (rd a0 x82)) (fun t142 => (if x78.length + ([t142] : List api_Event).length ≤ 1759218604441 then event_owned_l0 a0 k (x78 ++ ([t142] : List api_Event)) (IntKind.i64.wrap (x82 + (1 : Int))) else none))) else none) else some (x78))
set_option maxHeartbeats 2000000 in
theorem event_owned_l0.mono {a0 : (List api_Event)} : ∀ {kl : Nat} {x0 x1}, OLe (event_owned_l0 a0 kl x0 x1) (event_owned_l0 a0 (kl + 1) x0 x1) := by
  intro kl
  induction kl with
  | zero => intros; exact OLe.none
  | succ kl ih =>
    intros
    rw [event_owned_l0.eq_2, event_owned_l0.eq_2]
    repeat' (first | with_reducible exact OLe.none | with_reducible exact OLe.some | with_reducible refine OLe.ite ?_ ?_ | with_reducible refine OLe.bind ?_ (fun _ => ?_) | with_reducible exact event_own.mono | exact ih | refine OLe.bind ?_ (fun _ => ?_) | refine OLe.ite ?_ ?_ | refine OLe.elim (fun _ => ?_) (fun _ => ?_) | split)
def event_owned (k : Nat) (a0 : (List api_Event)) : Option ((List api_Event)) :=
  (Option.bind (event_owned_l0 a0 k ([] : List api_Event) (0 : Int)) (fun x116 => some x116))
set_option maxHeartbeats 2000000 in
theorem event_owned.mono {k : Nat} {a0 : (List api_Event)} : OLe (event_owned k a0) (event_owned (k + 1) a0) := by
  unfold event_owned
  repeat' (first | with_reducible exact OLe.none | with_reducible exact OLe.some | with_reducible refine OLe.ite ?_ ?_ | with_reducible refine OLe.bind ?_ (fun _ => ?_) | with_reducible exact event_owned_l0.mono | refine OLe.bind ?_ (fun _ => ?_) | refine OLe.ite ?_ ?_ | refine OLe.elim (fun _ => ?_) (fun _ => ?_) | split)
set_option maxHeartbeats 1000000 in
set_option maxRecDepth 100000 in
theorem event_owned.con (k : Nat) (M : Hp) (A0 : Option Addr) (c0 : Nat) (a0 : (List api_Event)) (r : (List api_Event)) (hr0 : SlR r_api_Event M (.slice A0 a0.length c0) a0) (h : event_owned k a0 = some r) : Con Try.prog 37 #[.slice A0 a0.length c0] M [] (fun v M' Γ' => ∃ (A0 : Option Addr) (c0 : Nat), v = .slice A0 r.length c0 ∧ Γ' = [Nst rw_api_Event 32 (.slice A0 r.length c0) r]) := by
  refine con_of_wp Try.func37 rfl Try.ntmps37 Try.results37 rfl ?_
  intro w F rn S hrn
  have E := Ext.refl w
  have HM := Hp.le_refl M
  have H := h
  unfold event_owned at H
  refine Wp_seq (Wp_region_lit (W_v (.slice none 0 0) (x_assign rfl) rfl (Wl_nil (tn (Wp_seq (Wp_region_lit (W_v (.slice none 0 0) (x_assign rfl) rfl (Wl_nil (tn (Wp_seq (Wp_seq (Wp_region_lit (W_v (.slice A0 a0.length c0) (x_move rfl) rfl (W_v (.int .i64 (a0.length : Int)) (x_len_slice (n := a0.length) Try.underlying22 rfl) rfl (W_v (.int .i64 0) (x_move rfl) rfl ?_)))))))))))))))
  refine Wl_nil (tn ?_)
  obtain ⟨o120, o120h, o120H⟩ := bindS H
  refine Wp_blockJ (fun ρ w' => ∃ (x116 : List api_Event) (A117 : Option Addr) (c118 : Nat), (x116) = o120 ∧ Agree ρ [(3, .slice A117 x116.length c118)] ∧ Ext w w' ∧ St w' M F [Nst rw_api_Event 32 (.slice A117 x116.length c118) x116]) ?_ ?_
  · skip
    refine Wp_loop (fun n ρ w' => ∃ (x78 : List api_Event) (x82 : Int) (A79 : Option Addr) (c80 : Nat), event_owned_l0 a0 n x78 x82 = some o120 ∧ Agree ρ [(3, .slice A79 x78.length c80), (6, .slice A0 a0.length c0), (7, .int .i64 (a0.length : Int)), (8, .int .i64 x82)] ∧ Ext w w' ∧ St w' M F [Nst rw_api_Event 32 (.slice A79 x78.length c80) x78]) k ?_ ?_
    · skip
      replace S := S.nst_nil rw_api_Event 32
      exact ⟨([] : List api_Event), (0 : Int), none, 0, o120h, ⟨rfl, rfl, rfl, rfl, trivial⟩, E, S.pick [0] (by decide)⟩
    · intro n
      rintro ρ w122 ⟨x78, x82, A79, c80, H, hρ, E, S⟩
      rw [agree_eta hρ]
      cases n with
      | zero => cases H
      | succ k =>
        rw [event_owned_l0.eq_2] at H
        refine Wp_seq (Wp_region_lit (W_v (.bool (decide (x82 < (a0.length : Int)))) (x_ibin rfl rfl rfl rfl) rfl (Wl_nil (tn (Wp_seq ?_)))))
        rcases iteS H with ⟨hb123, H⟩ | ⟨hb123, H⟩
        · refine Wp_cond_true (congrArg Value.bool hb123) ?_
          refine Wp_skip (tn (Wp_seq ?_))
          refine Wp_block ?_
          refine Wp_seq (Wp_region_lit ?_)
          obtain ⟨⟨p124, p125⟩, H⟩ := chkS H
          obtain ⟨b126, o127, cs128, _, _, ee133, hb129, vs130, hR131, hc132⟩ := SlW.at' hr0 p124 p125
          obtain ⟨v137, hs136, rfl⟩ := hR131
          obtain ⟨A134, c135, rfl, _⟩ := hs136.form
          refine W_v (.pointer (some ⟨b126, o127 + x82.toNat * 7, none⟩)) (x_indexAddr Try.underlying22 ty32 (slA ee133) rfl p124 p125) rfl (W_v (.agg #[.int .u8 ((rd a0 x82).What), .int .i64 ((rd a0 x82).Task), .int .i64 ((rd a0 x82).Call), .int .i64 ((rd a0 x82).Answer.Err), .bool ((rd a0 x82).Answer.Found), .string (bs ((rd a0 x82).Answer.Value)), .slice A134 ((rd a0 x82).Answer.Pairs).length c135]) (x_loadA (S.frz hb129) ty32 rfl (sub_el hc132 0 rfl) rfl rfl) rfl ?_)
          refine W_alloc S #[.int .u8 0, .int .i64 0, .int .i64 0, .int .i64 0, .bool false, .string (bs ([] : Str)), .slice none 0 0] ty32 rfl rfl ?_
          intro b138 w139 E' S
          replace E := E.trans E'
          refine W_store S 0 rfl ty32 rfl rfl [.int .u8 ((rd a0 x82).What), .int .i64 ((rd a0 x82).Task), .int .i64 ((rd a0 x82).Call), .int .i64 ((rd a0 x82).Answer.Err), .bool ((rd a0 x82).Answer.Found), .string (bs ((rd a0 x82).Answer.Value)), .slice A134 ((rd a0 x82).Answer.Pairs).length c135] rfl rfl rfl #[.int .u8 ((rd a0 x82).What), .int .i64 ((rd a0 x82).Task), .int .i64 ((rd a0 x82).Call), .int .i64 ((rd a0 x82).Answer.Err), .bool ((rd a0 x82).Answer.Found), .string (bs ((rd a0 x82).Answer.Value)), .slice A134 ((rd a0 x82).Answer.Pairs).length c135] (by as_aux_lemma => kernel_rfl) rfl ?_
          intro w141 E' S
          replace E := E.trans E'
          refine Wl_nil (tn (Wp_region_lit (W_v (.slice A79 x78.length c80) (x_move rfl) rfl (W_v (.agg #[.int .u8 ((rd a0 x82).What), .int .i64 ((rd a0 x82).Task), .int .i64 ((rd a0 x82).Call), .int .i64 ((rd a0 x82).Answer.Err), .bool ((rd a0 x82).Answer.Found), .string (bs ((rd a0 x82).Answer.Value)), .slice A134 ((rd a0 x82).Answer.Pairs).length c135]) (x_loadA (S.blk 0 rfl) ty32 rfl (sub_of_extract rfl) rfl rfl) rfl ?_))))
          obtain ⟨t142, ht143, H⟩ := bindS H
          refine W_callF fn47 (event_own.con k M A134 c135 (rd a0 x82) t142 hs136 ht143) S rfl rfl (by rintro _ _ _ ⟨_, _, _, rfl⟩; exact (flat_cons (flat_row (fun _ _ _ _ h => h)) flat_nil)) ?_
          rintro _ w147 _ Γ' E' S ⟨A144, c145, rfl, rfl⟩
          replace E := E.trans E'
          refine W_bslice S #[.int .u8 t142.What, .int .i64 t142.Task, .int .i64 t142.Call, .int .i64 t142.Answer.Err, .bool t142.Answer.Found, .string (bs t142.Answer.Value), .slice A144 t142.Answer.Pairs.length c145] Try.underlying22 ty32 rfl rfl #[.int .u8 0, .int .i64 0, .int .i64 0, .int .i64 0, .bool false, .string (bs ([] : Str)), .slice none 0 0] (by as_aux_lemma => kernel_rfl) (by as_aux_lemma => kernel_rfl) rfl ?_
          intro b148 w149 E' S
          replace E := E.trans E'
          replace S := S.nst_one (r := rw_api_Event) (x := t142) 0 rfl 0 rfl (fun _ _ _ _ h => h) (fun _ h => ⟨_, h, rfl⟩) rfl
          obtain ⟨p151, H⟩ := chkS H
          refine W_nappend S 1 rfl rfl rfl Try.underlying22 Try.underlying22 ty32 rfl (by decide) (by decide) (by omega) rfl ?_
          intro v152 w153 E' S
          replace E := E.trans E'
          obtain ⟨A154, c155, rfl, _⟩ := (S.nst_read 1 rfl).form
          refine W_v (.slice A154 (x78 ++ ([t142] : List api_Event)).length c155) (x_assign rfl) rfl (Wl_nil (bn (tn (Wp_region_lit (W_v (.int .i64 (IntKind.i64.wrap (x82 + (1 : Int)))) (x_ibin rfl rfl rfl rfl) rfl (W_v (.int .i64 (IntKind.i64.wrap (x82 + (1 : Int)))) (x_move rfl) rfl (Wl_nil (tn ?_))))))))
          exact ⟨k, Nat.lt_succ_self k, ⟨(x78 ++ ([t142] : List api_Event)), (IntKind.i64.wrap (x82 + (1 : Int))), A154, c155, H, ⟨rfl, rfl, rfl, rfl, trivial⟩, E, S.pick [1] (by decide)⟩⟩
        refine Wp_cond_false (congrArg Value.bool hb123) ?_
        refine Wp_exit ?_
        refine tx (tx (bsm (?_)))
        refine tn ?_
        exact ⟨x78, A79, c80, Option.some.inj H, ⟨rfl, trivial⟩, E, S.pick [0] (by decide)⟩
  rintro ρ w156 ⟨x116, A117, c118, rfl, hρ, E, S⟩
  rw [agree_eta hρ]
  have H := o120H
  refine tn ?_
  as_aux_lemma =>
  refine Wp_seq (Wp_region_lit (W_v (.slice A117 x116.length c118) (x_move rfl) rfl (W_v (.slice A117 x116.length c118) (x_assign rfl) rfl (Wl_nil (tn ?_)))))
  refine Wp_ret ?_
  obtain rfl := Option.some.inj H
  exact ⟨_, _, _, fun w1 e1 => run_resR (vs := [.slice A117 x116.length c118]) (FA.cons (rfl) (FA.nil)), HM, E, S.pick [0] (by decide), ⟨A117, c118, rfl, rfl⟩⟩
def event_Bare_1_v (k : Nat) (a0 : api_Event) : Option (Bool) :=
  some (a0.What == (2 : Int))
set_option maxHeartbeats 2000000 in
theorem event_Bare_1_v.mono {k : Nat} {a0 : api_Event} : OLe (event_Bare_1_v k a0) (event_Bare_1_v (k + 1) a0) := by
  unfold event_Bare_1_v
  repeat' (first | with_reducible exact OLe.none | with_reducible exact OLe.some | with_reducible refine OLe.ite ?_ ?_ | with_reducible refine OLe.bind ?_ (fun _ => ?_) | refine OLe.bind ?_ (fun _ => ?_) | refine OLe.ite ?_ ?_ | refine OLe.elim (fun _ => ?_) (fun _ => ?_) | split)
set_option maxHeartbeats 4000000 in
set_option maxRecDepth 100000 in
theorem event_Bare_1_v.con (k : Nat) (M : Hp) (A0_0 : Option Addr) (c0_0 : Nat) (a0 : api_Event) (r : Bool) (hr0_0 : SlR r_api_Pair M (.slice A0_0 a0.Answer.Pairs.length c0_0) a0.Answer.Pairs) (h : event_Bare_1_v k a0 = some r) : Con Try.prog 39 #[.agg #[.int .u8 a0.What, .int .i64 a0.Task, .int .i64 a0.Call, .int .i64 a0.Answer.Err, .bool a0.Answer.Found, .string (bs a0.Answer.Value), .slice A0_0 a0.Answer.Pairs.length c0_0]] M [] (fun v M' Γ' => v = .bool r ∧ Γ' = []) := by
  refine con_of_wp Try.func39 rfl Try.ntmps39 Try.results39 rfl ?_
  intro w F rn S hrn
  have E := Ext.refl w
  have HM := Hp.le_refl M
  have H := h
  unfold event_Bare_1_v at H
  refine Wp_seq (Wp_region_lit ?_)
  refine W_box S #[.int .u8 a0.What, .int .i64 a0.Task, .int .i64 a0.Call, .int .i64 a0.Answer.Err, .bool a0.Answer.Found, .string (bs a0.Answer.Value), .slice A0_0 a0.Answer.Pairs.length c0_0] rfl rfl rfl ?_
  intro b1 w2 E' S
  replace E := E.trans E'
  refine W_v (.bool false) (x_assign rfl) rfl (Wl_nil (tn (Wp_seq (Wp_region_lit (W_v (pt b1 0) (x_fieldAddr (o := 0) (off := 0) Try.underlying32 rfl ty5 rfl rfl) rfl (W_v (.int .u8 a0.What) (x_load (S.blk 0 rfl) ty5 rfl rfl) rfl (W_v (.bool (a0.What == (2 : Int))) (x_ibin rfl rfl rfl rfl) rfl (W_v (.bool (a0.What == (2 : Int))) (x_assign rfl) rfl (Wl_nil (tn ?_))))))))))
  refine Wp_ret ?_
  obtain rfl := Option.some.inj H
  exact ⟨_, _, _, fun w1 e1 => run_resR (vs := [.bool (a0.What == (2 : Int))]) (FA.cons (rfl) (FA.nil)), HM, E, S.pick [] (by decide), ⟨rfl, rfl⟩⟩
def slices_IndexFunc_api_Event_api_Event_Bare_1_l0 (a0 : (List api_Event)) : Nat → Int → Option ((Int) ⊕ (Unit))
  | 0, _ => none
  | k + 1, x45 => (if (decide (x45 < (a0.length : Int))) = true then (if 0 ≤ x45 ∧ x45 < (a0.length : Int) then (Option.bind (event_Bare_1_v k (rd a0 x45)) (fun t84 => (if t84 = true then some (.inl x45) else slices_IndexFunc_api_Event_api_Event_Bare_1_l0 a0 k (IntKind.i64.wrap (x45 + (1 : Int)))))) else none) else some (.inr ()))
set_option maxHeartbeats 2000000 in
theorem slices_IndexFunc_api_Event_api_Event_Bare_1_l0.mono {a0 : (List api_Event)} : ∀ {kl : Nat} {x0}, OLe (slices_IndexFunc_api_Event_api_Event_Bare_1_l0 a0 kl x0) (slices_IndexFunc_api_Event_api_Event_Bare_1_l0 a0 (kl + 1) x0) := by
  intro kl
  induction kl with
  | zero => intros; exact OLe.none
  | succ kl ih =>
    intros
    rw [slices_IndexFunc_api_Event_api_Event_Bare_1_l0.eq_2, slices_IndexFunc_api_Event_api_Event_Bare_1_l0.eq_2]
    repeat' (first | with_reducible exact OLe.none | with_reducible exact OLe.some | with_reducible refine OLe.ite ?_ ?_ | with_reducible refine OLe.bind ?_ (fun _ => ?_) | with_reducible exact event_Bare_1_v.mono | exact ih | refine OLe.bind ?_ (fun _ => ?_) | refine OLe.ite ?_ ?_ | refine OLe.elim (fun _ => ?_) (fun _ => ?_) | split)
def slices_IndexFunc_api_Event_api_Event_Bare_1 (k : Nat) (a0 : (List api_Event)) : Option (Int) :=
  (Option.bind (slices_IndexFunc_api_Event_api_Event_Bare_1_l0 a0 k (0 : Int)) (fun o67o => Sum.elim (fun r' => some r') (fun _ => some (-1 : Int)) o67o))
set_option maxHeartbeats 2000000 in
theorem slices_IndexFunc_api_Event_api_Event_Bare_1.mono {k : Nat} {a0 : (List api_Event)} : OLe (slices_IndexFunc_api_Event_api_Event_Bare_1 k a0) (slices_IndexFunc_api_Event_api_Event_Bare_1 (k + 1) a0) := by
  unfold slices_IndexFunc_api_Event_api_Event_Bare_1
  repeat' (first | with_reducible exact OLe.none | with_reducible exact OLe.some | with_reducible refine OLe.ite ?_ ?_ | with_reducible refine OLe.bind ?_ (fun _ => ?_) | with_reducible exact slices_IndexFunc_api_Event_api_Event_Bare_1_l0.mono | refine OLe.bind ?_ (fun _ => ?_) | refine OLe.ite ?_ ?_ | refine OLe.elim (fun _ => ?_) (fun _ => ?_) | split)
set_option maxHeartbeats 4000000 in
set_option maxRecDepth 100000 in
theorem slices_IndexFunc_api_Event_api_Event_Bare_1.con (k : Nat) (M : Hp) (A0 : Option Addr) (c0 : Nat) (a0 : (List api_Event)) (r : Int) (hr0 : SlR r_api_Event M (.slice A0 a0.length c0) a0) (h : slices_IndexFunc_api_Event_api_Event_Bare_1 k a0 = some r) : Con Try.prog 48 #[.slice A0 a0.length c0, .func (.func 39) #[] #[]] M [] (fun v M' Γ' => v = .int .i64 r ∧ Γ' = []) := by
  refine con_of_wp Try.func48 rfl Try.ntmps48 Try.results48 rfl ?_
  intro w F rn S hrn
  have E := Ext.refl w
  have HM := Hp.le_refl M
  have H := h
  unfold slices_IndexFunc_api_Event_api_Event_Bare_1 at H
  refine Wp_seq (Wp_region_lit (W_v (.int .i64 0) (x_assign rfl) rfl (Wl_nil (tn (Wp_seq (Wp_seq (Wp_region_lit (W_v (.slice A0 a0.length c0) (x_move rfl) rfl (W_v (.int .i64 (a0.length : Int)) (x_len_slice (n := a0.length) Try.underlying22 rfl) rfl (W_v (.int .i64 0) (x_move rfl) rfl (Wl_nil (tn ?_))))))))))))
  obtain ⟨o67, o67h, o67H⟩ := bindS H
  refine Wp_blockJ (fun ρ w' => .inr () = o67 ∧ Agree ρ [] ∧ Ext w w' ∧ St w' M F []) ?_ ?_
  · skip
    refine Wp_loop (fun n ρ w' => ∃ (x45 : Int), slices_IndexFunc_api_Event_api_Event_Bare_1_l0 a0 n x45 = some o67 ∧ Agree ρ [(0, .slice A0 a0.length c0), (1, .func (.func 39) #[] #[]), (7, .int .i64 (a0.length : Int)), (8, .int .i64 x45)] ∧ Ext w w' ∧ St w' M F []) k ?_ ?_
    · skip
      exact ⟨(0 : Int), o67h, ⟨rfl, rfl, rfl, rfl, trivial⟩, E, S.pick [] (by decide)⟩
    · intro n
      rintro ρ w68 ⟨x45, H, hρ, E, S⟩
      rw [agree_eta hρ]
      cases n with
      | zero => cases H
      | succ k =>
        rw [slices_IndexFunc_api_Event_api_Event_Bare_1_l0.eq_2] at H
        refine Wp_seq (Wp_region_lit (W_v (.bool (decide (x45 < (a0.length : Int)))) (x_ibin rfl rfl rfl rfl) rfl (Wl_nil (tn (Wp_seq ?_)))))
        rcases iteS H with ⟨hb69, H⟩ | ⟨hb69, H⟩
        · refine Wp_cond_true (congrArg Value.bool hb69) ?_
          refine Wp_skip (tn (Wp_seq ?_))
          refine Wp_block ?_
          refine Wp_seq (Wp_region_lit (W_v (.int .i64 x45) (x_move rfl) rfl (W_v (.int .i64 x45) (x_assign rfl) rfl (Wl_nil (tn (Wp_seq (Wp_region_lit (W_v (.func (.func 39) #[] #[]) (x_move rfl) rfl (W_v (.slice A0 a0.length c0) (x_move rfl) rfl (W_v (.int .i64 x45) (x_move rfl) rfl ?_))))))))))
          obtain ⟨⟨p70, p71⟩, H⟩ := chkS H
          obtain ⟨b72, o73, cs74, _, _, ee79, hb75, vs76, hR77, hc78⟩ := SlW.at' hr0 p70 p71
          obtain ⟨v83, hs82, rfl⟩ := hR77
          obtain ⟨A80, c81, rfl, _⟩ := hs82.form
          refine W_v (.pointer (some ⟨b72, o73 + x45.toNat * 7, none⟩)) (x_indexAddr Try.underlying22 ty32 (slA ee79) rfl p70 p71) rfl (W_v (.agg #[.int .u8 ((rd a0 x45).What), .int .i64 ((rd a0 x45).Task), .int .i64 ((rd a0 x45).Call), .int .i64 ((rd a0 x45).Answer.Err), .bool ((rd a0 x45).Answer.Found), .string (bs ((rd a0 x45).Answer.Value)), .slice A80 ((rd a0 x45).Answer.Pairs).length c81]) (x_loadA (S.frz hb75) ty32 rfl (sub_el hc78 0 rfl) rfl rfl) rfl ?_)
          obtain ⟨t84, ht85, H⟩ := bindS H
          refine W_callvF2 (fs := []) (cap := []) fn39 rfl (event_Bare_1_v.con k M A80 c81 (rd a0 x45) t84 hs82 ht85) (Γ1 := []) (Γ2 := []) S rfl rfl (by rintro _ _ _ ⟨rfl, rfl⟩; exact flat_nil) ?_
          rintro _ w86 _ Γ' E' S ⟨rfl, rfl⟩
          replace E := E.trans E'
          replace S : St w86 M F [] := S
          refine Wl_nil (tn ?_)
          rcases iteS H with ⟨hb89, H⟩ | ⟨hb89, H⟩
          · refine Wp_cond_true (congrArg Value.bool hb89) ?_
            refine Wp_seq (Wp_region_lit (W_v (.int .i64 x45) (x_move rfl) rfl (W_v (.int .i64 x45) (x_assign rfl) rfl (Wl_nil (tn ?_)))))
            refine Wp_ret ?_
            refine br (tr (tr (br (tr (tr (?_))))))
            obtain rfl := Option.some.inj H
            have H := o67H
            replace H := elimL H
            obtain rfl := Option.some.inj H
            exact ⟨_, _, _, fun w1 e1 => run_resR (vs := [.int .i64 x45]) (FA.cons (rfl) (FA.nil)), HM, E, S.pick [] (by decide), ⟨rfl, rfl⟩⟩
          refine Wp_cond_false (congrArg Value.bool hb89) (Wp_skip (bn (tn (Wp_region_lit (W_v (.int .i64 (IntKind.i64.wrap (x45 + (1 : Int)))) (x_ibin rfl rfl rfl rfl) rfl (W_v (.int .i64 (IntKind.i64.wrap (x45 + (1 : Int)))) (x_move rfl) rfl (Wl_nil (tn ?_))))))))
          exact ⟨k, Nat.lt_succ_self k, ⟨(IntKind.i64.wrap (x45 + (1 : Int))), H, ⟨rfl, rfl, rfl, rfl, trivial⟩, E, S.pick [] (by decide)⟩⟩
        refine Wp_cond_false (congrArg Value.bool hb69) ?_
        refine Wp_exit ?_
        refine tx (tx (bsm (?_)))
        refine tn ?_
        exact ⟨Option.some.inj H, trivial, E, S.pick [] (by decide)⟩
  rintro ρ w90 ⟨rfl, hρ, E, S⟩
  rw [agree_eta hρ]
  have H := o67H
  replace H := elimR H
  refine tn ?_
  as_aux_lemma =>
  refine Wp_seq (Wp_region_lit (W_v (.int .i64 (-1)) (x_assign rfl) rfl (Wl_nil (tn ?_))))
  refine Wp_ret ?_
  obtain rfl := Option.some.inj H
  exact ⟨_, _, _, fun w1 e1 => run_resR (vs := [.int .i64 (-1)]) (FA.cons (rfl) (FA.nil)), HM, E, S.pick [] (by decide), ⟨rfl, rfl⟩⟩
def slices_DeleteFunc_api_Event_api_Event_Sw_Bare_1_l0 : Nat → List api_Event → Int → Int → Option ((List api_Event × Int))
  | 0, _, _, _ => none
  | k + 1, x419, x423, x424 => (if (decide (x424 < (x419.length : Int))) = true then (Option.bind (α := List api_Event × Int) (if 0 ≤ x424 ∧ x424 < (x419.length : Int) then (Option.bind (event_Bare_1_v k (rd x419 x424)) (fun t753 => (Option.bind (α := List api_Event × Int) (if (!t753) = true then (if 0 ≤ x423 ∧ x423 < (x419.length : Int) then (Option.bind (α := List api_Event) (some (List.set x419 x423.toNat (rd x419 x424))) (fun x825 => some (x825, (IntKind.i64.wrap (x423 + (1 : Int)))))) else none) else some (x419, x423)) (fun ⟨x802, x806⟩ => some (x802, x806))))) else none) (fun ⟨x729, x733⟩ => slices_DeleteFunc_api_Event_api_Event_Sw_Bare_1_l0 k x729 x733 (IntKind.i64.wrap (x424 + (1 : Int))))) else some (x419, x423))
set_option maxHeartbeats 2000000 in
theorem slices_DeleteFunc_api_Event_api_Event_Sw_Bare_1_l0.mono  : ∀ {kl : Nat} {x0 x1 x2}, OLe (slices_DeleteFunc_api_Event_api_Event_Sw_Bare_1_l0  kl x0 x1 x2) (slices_DeleteFunc_api_Event_api_Event_Sw_Bare_1_l0  (kl + 1) x0 x1 x2) := by
  intro kl
  induction kl with
  | zero => intros; exact OLe.none
  | succ kl ih =>
    intros
    rw [slices_DeleteFunc_api_Event_api_Event_Sw_Bare_1_l0.eq_2, slices_DeleteFunc_api_Event_api_Event_Sw_Bare_1_l0.eq_2]
    repeat' (first | with_reducible exact OLe.none | with_reducible exact OLe.some | with_reducible refine OLe.ite ?_ ?_ | with_reducible refine OLe.bind ?_ (fun _ => ?_) | with_reducible exact event_Bare_1_v.mono | exact ih | refine OLe.bind ?_ (fun _ => ?_) | refine OLe.ite ?_ ?_ | refine OLe.elim (fun _ => ?_) (fun _ => ?_) | split)
def slices_DeleteFunc_api_Event_api_Event_Sw_Bare_1 (k : Nat) (a0 : (List api_Event)) : Option ((List api_Event)) :=
  (Option.bind (slices_IndexFunc_api_Event_api_Event_Bare_1 k a0) (fun t1 => (if (t1 == (-1 : Int)) = true then some a0 else (Option.bind (slices_DeleteFunc_api_Event_api_Event_Sw_Bare_1_l0 k a0 t1 (IntKind.i64.wrap (t1 + (1 : Int)))) (fun ⟨x625, x629⟩ => (if 0 ≤ x629 ∧ x629 ≤ (x625.length : Int) then (Option.bind (α := List api_Event) (some (List.take x629.toNat x625 ++ List.replicate (x625.length - x629.toNat) (⟨0, 0, 0, ⟨0, false, [], []⟩⟩ : api_Event))) (fun x836 => (if 0 ≤ x629 ∧ x629 ≤ (x836.length : Int) then some (List.take x629.toNat x836) else none))) else none))))))
set_option maxHeartbeats 2000000 in
theorem slices_DeleteFunc_api_Event_api_Event_Sw_Bare_1.mono {k : Nat} {a0 : (List api_Event)} : OLe (slices_DeleteFunc_api_Event_api_Event_Sw_Bare_1 k a0) (slices_DeleteFunc_api_Event_api_Event_Sw_Bare_1 (k + 1) a0) := by
  unfold slices_DeleteFunc_api_Event_api_Event_Sw_Bare_1
  repeat' (first | with_reducible exact OLe.none | with_reducible exact OLe.some | with_reducible refine OLe.ite ?_ ?_ | with_reducible refine OLe.bind ?_ (fun _ => ?_) | with_reducible exact slices_DeleteFunc_api_Event_api_Event_Sw_Bare_1_l0.mono | with_reducible exact slices_IndexFunc_api_Event_api_Event_Bare_1.mono | refine OLe.bind ?_ (fun _ => ?_) | refine OLe.ite ?_ ?_ | refine OLe.elim (fun _ => ?_) (fun _ => ?_) | split)
set_option maxHeartbeats 4000000 in
set_option maxRecDepth 100000 in
theorem slices_DeleteFunc_api_Event_api_Event_Sw_Bare_1.con (k : Nat) (M : Hp) (A0 : Option Addr) (c0 : Nat) (a0 : (List api_Event)) (r : (List api_Event))  (h : slices_DeleteFunc_api_Event_api_Event_Sw_Bare_1 k a0 = some r) : Con Try.prog 38 #[.slice A0 a0.length c0, .func (.func 39) #[] #[]] M [Row rw_api_Event 32 (.slice A0 a0.length c0) a0] (fun v M' Γ' => ∃ (Aq1 : Option Addr) (cq2 : Nat), v = .slice Aq1 r.length cq2 ∧ Γ' = [Row rw_api_Event 32 (.slice Aq1 r.length cq2) r]) := by
  refine con_of_wp Try.func38 rfl Try.ntmps38 Try.results38 rfl ?_
  intro w F rn S hrn
  have E := Ext.refl w
  have HM := Hp.le_refl M
  have H := h
  unfold slices_DeleteFunc_api_Event_api_Event_Sw_Bare_1 at H
  refine Wp_seq (Wp_region_lit (W_v (.slice none 0 0) (x_assign rfl) rfl (Wl_nil (tn (Wp_seq (Wp_region_lit (W_v (.slice A0 a0.length c0) (x_move rfl) rfl (W_v (.func (.func 39) #[] #[]) (x_move rfl) rfl ?_))))))))
  obtain ⟨t1, ht2, H⟩ := bindS H
  refine W_callLF fn48 (fun h9 hs9 hd9 => slices_IndexFunc_api_Event_api_Event_Bare_1.con k _ A0 c0 a0 t1 (SlW.wk (r := r_api_Event) (Sats.row hs9 hd9 0 rfl)) ht2) (Δ := [Row rw_api_Event 32 (.slice A0 a0.length c0) a0]) (Γ1 := []) (Γ2 := []) S rfl rfl (by rintro _ _ _ ⟨rfl, rfl⟩; exact flat_nil) ?_
  rintro _ w3 _ Γ' E' S ⟨rfl, rfl⟩
  replace E := E.trans E'
  replace S : St w3 M F [_] := S
  refine W_v (.int .i64 t1) (x_assign rfl) rfl (Wl_nil (tn (Wp_seq (Wp_seq (Wp_region_lit (W_v (.int .i64 t1) (x_move rfl) rfl (W_v (.bool (t1 == (-1 : Int))) (x_ibin rfl rfl rfl rfl) rfl (Wl_nil (tn ?_)))))))))
  rcases iteS H with ⟨hb6, H⟩ | ⟨hb6, H⟩
  · refine Wp_cond_true (congrArg Value.bool hb6) ?_
    refine Wp_seq (Wp_region_lit (W_v (.slice A0 a0.length c0) (x_move rfl) rfl (W_v (.slice A0 a0.length c0) (x_assign rfl) rfl (Wl_nil (tn ?_)))))
    refine Wp_ret ?_
    refine tr (?_)
    obtain rfl := Option.some.inj H
    exact ⟨_, _, _, fun w1 e1 => run_resR (vs := [.slice A0 a0.length c0]) (FA.cons (rfl) (FA.nil)), HM, E, S.pick [0] (by decide), ⟨A0, c0, rfl, rfl⟩⟩
  refine Wp_cond_false (congrArg Value.bool hb6) (Wp_skip (tn (Wp_seq (Wp_seq (Wp_region_lit (W_v (.int .i64 t1) (x_move rfl) rfl (W_v (.int .i64 (IntKind.i64.wrap (t1 + (1 : Int)))) (x_ibin rfl rfl rfl rfl) rfl (W_v (.int .i64 (IntKind.i64.wrap (t1 + (1 : Int)))) (x_assign rfl) rfl (Wl_nil (tn ?_))))))))))
  obtain ⟨o630, o630h, o630H⟩ := bindS H
  refine Wp_blockJ (fun ρ w' => ∃ (x625 : List api_Event) (x629 : Int) (A626 : Option Addr) (c627 : Nat), (x625, x629) = o630 ∧ Agree ρ [(0, .slice A626 x625.length c627), (5, .int .i64 x629)] ∧ Ext w w' ∧ St w' M F [Row rw_api_Event 32 (.slice A626 x625.length c627) x625]) ?_ ?_
  · skip
    refine Wp_loop (fun n ρ w' => ∃ (x419 : List api_Event) (x423 : Int) (x424 : Int) (A420 : Option Addr) (c421 : Nat), slices_DeleteFunc_api_Event_api_Event_Sw_Bare_1_l0 n x419 x423 x424 = some o630 ∧ Agree ρ [(0, .slice A420 x419.length c421), (1, .func (.func 39) #[] #[]), (5, .int .i64 x423), (6, .int .i64 x424)] ∧ Ext w w' ∧ St w' M F [Row rw_api_Event 32 (.slice A420 x419.length c421) x419]) k ?_ ?_
    · skip
      exact ⟨a0, t1, (IntKind.i64.wrap (t1 + (1 : Int))), A0, c0, o630h, ⟨rfl, rfl, rfl, rfl, trivial⟩, E, S.pick [0] (by decide)⟩
    · intro n
      rintro ρ w631 ⟨x419, x423, x424, A420, c421, H, hρ, E, S⟩
      rw [agree_eta hρ]
      cases n with
      | zero => cases H
      | succ k =>
        rw [slices_DeleteFunc_api_Event_api_Event_Sw_Bare_1_l0.eq_2] at H
        refine Wp_seq (Wp_seq (Wp_region_lit (W_v (.int .i64 x424) (x_move rfl) rfl (W_v (.slice A420 x419.length c421) (x_move rfl) rfl (W_v (.int .i64 (x419.length : Int)) (x_len_slice (n := x419.length) Try.underlying22 rfl) rfl (W_v (.bool (decide (x424 < (x419.length : Int)))) (x_ibin rfl rfl rfl rfl) rfl (Wl_nil (tn ?_))))))))
        rcases iteS H with ⟨hb632, H⟩ | ⟨hb632, H⟩
        · refine Wp_cond_true (congrArg Value.bool hb632) ?_
          refine Wp_skip (tn (Wp_seq ?_))
          obtain ⟨o734, o734h, o734H⟩ := bindS H
          refine Wp_cut (fun ρ w' => ∃ (x729 : List api_Event) (x733 : Int) (A730 : Option Addr) (c731 : Nat), (x729, x733) = o734 ∧ Agree ρ [(0, .slice A730 x729.length c731), (1, .func (.func 39) #[] #[]), (5, .int .i64 x733), (6, .int .i64 x424)] ∧ Ext w w' ∧ St w' M F [Row rw_api_Event 32 (.slice A730 x729.length c731) x729]) ?_ ?_
          · as_aux_lemma =>
              clear o734H
              have H := o734h
              refine Wp_block ?_
              refine Wp_seq (Wp_region_lit (W_v (.slice A420 x419.length c421) (x_move rfl) rfl (W_v (.int .i64 x424) (x_move rfl) rfl ?_)))
              obtain ⟨⟨p735, p736⟩, H⟩ := chkS H
              obtain ⟨b737, o738, cs739, _, _, ee744, hb740, vs741, hR742, hc743⟩ := SlW.at' (S.row_read 0 rfl) p735 p736
              obtain ⟨v748, hs747, rfl⟩ := hR742
              obtain ⟨A745, c746, rfl, _⟩ := hs747.form
              refine W_v (.pointer (some ⟨b737, o738 + x424.toNat * 7, none⟩)) (x_indexAddr Try.underlying22 ty32 (slA ee744) rfl p735 p736) rfl (W_v (.agg #[.int .u8 ((rd x419 x424).What), .int .i64 ((rd x419 x424).Task), .int .i64 ((rd x419 x424).Call), .int .i64 ((rd x419 x424).Answer.Err), .bool ((rd x419 x424).Answer.Found), .string (bs ((rd x419 x424).Answer.Value)), .slice A745 ((rd x419 x424).Answer.Pairs).length c746]) (x_loadA (Hp.of_get hb740) ty32 rfl (sub_el hc743 0 rfl) rfl rfl) rfl ?_)
              refine W_alloc S #[.int .u8 0, .int .i64 0, .int .i64 0, .int .i64 0, .bool false, .string (bs ([] : Str)), .slice none 0 0] ty32 rfl rfl ?_
              intro b749 w750 E' S
              replace E := E.trans E'
              refine W_store S 0 rfl ty32 rfl rfl [.int .u8 ((rd x419 x424).What), .int .i64 ((rd x419 x424).Task), .int .i64 ((rd x419 x424).Call), .int .i64 ((rd x419 x424).Answer.Err), .bool ((rd x419 x424).Answer.Found), .string (bs ((rd x419 x424).Answer.Value)), .slice A745 ((rd x419 x424).Answer.Pairs).length c746] rfl rfl rfl #[.int .u8 ((rd x419 x424).What), .int .i64 ((rd x419 x424).Task), .int .i64 ((rd x419 x424).Call), .int .i64 ((rd x419 x424).Answer.Err), .bool ((rd x419 x424).Answer.Found), .string (bs ((rd x419 x424).Answer.Value)), .slice A745 ((rd x419 x424).Answer.Pairs).length c746] (by as_aux_lemma => kernel_rfl) rfl ?_
              intro w752 E' S
              replace E := E.trans E'
              refine Wl_nil (tn (Wp_seq (Wp_region_lit (W_v (.func (.func 39) #[] #[]) (x_move rfl) rfl (W_v (.agg #[.int .u8 ((rd x419 x424).What), .int .i64 ((rd x419 x424).Task), .int .i64 ((rd x419 x424).Call), .int .i64 ((rd x419 x424).Answer.Err), .bool ((rd x419 x424).Answer.Found), .string (bs ((rd x419 x424).Answer.Value)), .slice A745 ((rd x419 x424).Answer.Pairs).length c746]) (x_loadA (S.blk 0 rfl) ty32 rfl (sub_of_extract rfl) rfl rfl) rfl ?_)))))
              obtain ⟨t753, ht754, H⟩ := bindS H
              refine W_callvF2 (fs := []) (cap := []) fn39 rfl (event_Bare_1_v.con k M A745 c746 (rd x419 x424) t753 (SlRw.r hs747) ht754) (Γ1 := []) (Γ2 := [_, _]) S rfl rfl (by rintro _ _ _ ⟨rfl, rfl⟩; exact flat_nil) ?_
              rintro _ w755 _ Γ' E' S ⟨rfl, rfl⟩
              replace E := E.trans E'
              replace S : St w755 M F [_, _] := S
              refine W_v (.bool (!t753)) (x_not (b := t753) rfl) rfl (Wl_nil (tn ?_))
              obtain ⟨o807, o807h, o807H⟩ := bindS H
              refine Wp_cut (fun ρ w' => ∃ (x802 : List api_Event) (x806 : Int) (A803 : Option Addr) (c804 : Nat), (x802, x806) = o807 ∧ Agree ρ [(0, .slice A803 x802.length c804), (1, .func (.func 39) #[] #[]), (5, .int .i64 x806), (6, .int .i64 x424)] ∧ Ext w w' ∧ St w' M F [Row rw_api_Event 32 (.slice A803 x802.length c804) x802]) ?_ ?_
              · clear o807H
                have H := o807h
                rcases iteS H with ⟨hb808, H⟩ | ⟨hb808, H⟩
                · refine Wp_cond_true (congrArg Value.bool hb808) ?_
                  refine Wp_seq (Wp_region_lit (W_v (.slice A420 x419.length c421) (x_move rfl) rfl (W_v (.int .i64 x423) (x_move rfl) rfl (W_v (.agg #[.int .u8 ((rd x419 x424).What), .int .i64 ((rd x419 x424).Task), .int .i64 ((rd x419 x424).Call), .int .i64 ((rd x419 x424).Answer.Err), .bool ((rd x419 x424).Answer.Found), .string (bs ((rd x419 x424).Answer.Value)), .slice A745 ((rd x419 x424).Answer.Pairs).length c746]) (x_loadA (S.blk 0 rfl) ty32 rfl (sub_of_extract rfl) rfl rfl) rfl ?_))))
                  obtain ⟨⟨p809, p810⟩, H⟩ := chkS H
                  obtain ⟨b811, o812, cs813, _, _, ee818, hb814, vs815, hR816, hc817⟩ := SlW.at' (S.row_read 1 rfl) p809 p810
                  obtain ⟨v822, hs821, rfl⟩ := hR816
                  obtain ⟨A819, c820, rfl, _⟩ := hs821.form
                  refine W_v (.pointer (some ⟨b811, o812 + x423.toNat * 7, none⟩)) (x_indexAddr Try.underlying22 ty32 (slA ee818) rfl p809 p810) rfl ?_
                  obtain ⟨x825, he826, H⟩ := bindS H
                  replace he826 := Option.some.inj he826
                  refine W_rowstore S 1 rfl rfl ee818 (by first | exact p809 | simpa using p809) (by first | exact p810 | simpa using p810) 0 ty32 rfl rfl [.int .u8 ((rd x419 x424).What), .int .i64 ((rd x419 x424).Task), .int .i64 ((rd x419 x424).Call), .int .i64 ((rd x419 x424).Answer.Err), .bool ((rd x419 x424).Answer.Found), .string (bs ((rd x419 x424).Answer.Value)), .slice A745 ((rd x419 x424).Answer.Pairs).length c746] rfl rfl rfl rfl (rd x419 x424) (by rintro _ ⟨_, h6, rfl⟩; exact ⟨_, hs747, rfl⟩) he826 ?_
                  intro w824 E' S
                  replace E := E.trans E'
                  have hs827 : Value.slice A420 x419.length c421 = Value.slice A420 x825.length c421 := by rw [← he826, List.length_set]
                  try unfold B32 at S
                  try rw [hs827] at S
                  try rw [hs827]
                  have p828 : x424 < (x825.length : Int) := by rw [← he826, List.length_set]; exact p736
                  have p829 : x423 < (x825.length : Int) := by rw [← he826, List.length_set]; exact p810
                  refine Wl_nil (tn (Wp_region_lit (W_v (.int .i64 x423) (x_move rfl) rfl (W_v (.int .i64 (IntKind.i64.wrap (x423 + (1 : Int)))) (x_ibin rfl rfl rfl rfl) rfl (W_v (.int .i64 (IntKind.i64.wrap (x423 + (1 : Int)))) (x_assign rfl) rfl (Wl_nil (tn ?_)))))))
                  exact ⟨x825, (IntKind.i64.wrap (x423 + (1 : Int))), A420, c421, Option.some.inj H, ⟨rfl, rfl, rfl, rfl, trivial⟩, E, S.pick [1] (by decide)⟩
                refine Wp_cond_false (congrArg Value.bool hb808) (Wp_skip (tn ?_))
                exact ⟨x419, x423, A420, c421, Option.some.inj H, ⟨rfl, rfl, rfl, rfl, trivial⟩, E, S.pick [1] (by decide)⟩
              rintro ρ w830 ⟨x802, x806, A803, c804, rfl, hρ, E, S⟩
              rw [agree_eta hρ]
              have H := o807H
              refine bn (tn ?_)
              exact ⟨x802, x806, A803, c804, Option.some.inj H, ⟨rfl, rfl, rfl, rfl, trivial⟩, E, S.pick [0] (by decide)⟩
          rintro ρ w831 ⟨x729, x733, A730, c731, rfl, hρ, E, S⟩
          rw [agree_eta hρ]
          have H := o734H
          refine tn (Wp_region_lit (W_v (.int .i64 x424) (x_move rfl) rfl (W_v (.int .i64 (IntKind.i64.wrap (x424 + (1 : Int)))) (x_ibin rfl rfl rfl rfl) rfl (W_v (.int .i64 (IntKind.i64.wrap (x424 + (1 : Int)))) (x_assign rfl) rfl (Wl_nil (tn ?_))))))
          exact ⟨k, Nat.lt_succ_self k, ⟨x729, x733, (IntKind.i64.wrap (x424 + (1 : Int))), A730, c731, H, ⟨rfl, rfl, rfl, rfl, trivial⟩, E, S.pick [0] (by decide)⟩⟩
        refine Wp_cond_false (congrArg Value.bool hb632) ?_
        refine Wp_exit ?_
        refine tx (tx (bsm (?_)))
        refine tn ?_
        exact ⟨x419, x423, A420, c421, Option.some.inj H, ⟨rfl, rfl, trivial⟩, E, S.pick [0] (by decide)⟩
  rintro ρ w832 ⟨x625, x629, A626, c627, rfl, hρ, E, S⟩
  rw [agree_eta hρ]
  have H := o630H
  refine tn ?_
  as_aux_lemma =>
  refine Wp_seq (Wp_region_lit (W_v (.slice A626 x625.length c627) (x_move rfl) rfl (W_v (.int .i64 x629) (x_move rfl) rfl ?_)))
  obtain ⟨⟨p833, p834⟩, H⟩ := chkS H
  refine W_v (.slice (if c627 = x629.toNat then A626 else Option.map (fun x => x.add (x629.toNat * 7)) A626) (x625.length - x629.toNat) (c627 - x629.toNat)) (x_slice_lo Try.underlying22 ty32 rfl rfl p833 (by omega)) rfl ?_
  obtain ⟨x836, he837, H⟩ := bindS H
  replace he837 := Option.some.inj he837
  refine W_rowclear (i := x629) (⟨0, 0, 0, ⟨0, false, [], []⟩⟩ : api_Event) S 0 rfl p833 p834 Try.underlying22 ty32 rfl (by decide) (fun _ => ⟨_, SlRw.nil _ _, rfl⟩) he837 rfl ?_
  intro w835 E' S
  replace E := E.trans E'
  have hs838 : Value.slice A626 x625.length c627 = Value.slice A626 x836.length c627 := by rw [← he837]; congr 1; simp only [List.length_append, List.length_take, List.length_replicate]; omega
  try rw [hs838] at S
  try rw [hs838]
  refine Wl_nil (tn (Wp_seq (Wp_region_lit (W_v (.slice A626 x836.length c627) (x_move rfl) rfl (W_v (.int .i64 x629) (x_move rfl) rfl ?_)))))
  obtain ⟨⟨p839, p840⟩, H⟩ := chkS H
  have hx841 := @slW_hi _ _ _ _ _ _ _ _ _ (S.row_read 0 rfl) p839 p840
  replace S := S.row_take 0 rfl x629.toNat (by omega)
  replace S : St w835 M F [_] := S
  refine W_v (.slice A626 (List.take x629.toNat x836).length c627) (hx841 Try.underlying22 ty32 rfl rfl) rfl (W_v (.slice A626 (List.take x629.toNat x836).length c627) (x_assign rfl) rfl (Wl_nil (tn ?_)))
  refine Wp_ret ?_
  obtain rfl := Option.some.inj H
  exact ⟨_, _, _, fun w1 e1 => run_resR (vs := [.slice A626 (List.take x629.toNat x836).length c627]) (FA.cons (rfl) (FA.nil)), HM, E, S.pick [0] (by decide), ⟨A626, c627, rfl, rfl⟩⟩
def event_Bare (k : Nat) (a0 : (List api_Event)) : Option ((List api_Event)) :=
  (Option.bind (event_owned k a0) (fun t1 => (Option.bind (slices_DeleteFunc_api_Event_api_Event_Sw_Bare_1 k t1) (fun t9 => some t9))))
set_option maxHeartbeats 2000000 in
theorem event_Bare.mono {k : Nat} {a0 : (List api_Event)} : OLe (event_Bare k a0) (event_Bare (k + 1) a0) := by
  unfold event_Bare
  repeat' (first | with_reducible exact OLe.none | with_reducible exact OLe.some | with_reducible refine OLe.ite ?_ ?_ | with_reducible refine OLe.bind ?_ (fun _ => ?_) | with_reducible exact event_owned.mono | with_reducible exact slices_DeleteFunc_api_Event_api_Event_Sw_Bare_1.mono | refine OLe.bind ?_ (fun _ => ?_) | refine OLe.ite ?_ ?_ | refine OLe.elim (fun _ => ?_) (fun _ => ?_) | split)
set_option maxHeartbeats 1000000 in
set_option maxRecDepth 100000 in
theorem event_Bare.con (k : Nat) (M : Hp) (A0 : Option Addr) (c0 : Nat) (a0 : (List api_Event)) (r : (List api_Event)) (hr0 : SlR r_api_Event M (.slice A0 a0.length c0) a0) (h : event_Bare k a0 = some r) : Con Try.prog 23 #[.slice A0 a0.length c0] M [] (fun v M' Γ' => ∃ (A0 : Option Addr) (c0 : Nat), v = .slice A0 r.length c0 ∧ Γ' = [Nst rw_api_Event 32 (.slice A0 r.length c0) r]) := by
  refine con_of_wp Try.func23 rfl Try.ntmps23 Try.results23 rfl ?_
  intro w F rn S hrn
  have E := Ext.refl w
  have HM := Hp.le_refl M
  have H := h
  unfold event_Bare at H
  refine Wp_seq (Wp_region_lit (W_v (.slice none 0 0) (x_assign rfl) rfl (Wl_nil (tn (Wp_seq (Wp_region_lit (W_v (.slice A0 a0.length c0) (x_move rfl) rfl ?_)))))))
  obtain ⟨t1, ht2, H⟩ := bindS H
  refine W_call fn37 (event_owned.con k M A0 c0 a0 t1 hr0 ht2) (Γ1 := []) (Γ2 := []) S rfl rfl ?_
  rintro _ w6 M7 Γ' hM8 E' S ⟨A3, c4, rfl, rfl⟩
  replace HM := Hp.le_trans HM hM8
  replace hr0 := SlR.mono hr0 hM8
  replace E := E.trans E'
  obtain ⟨t9, ht10, H⟩ := bindS H
  refine W_callNst fn38 (fun h9 => slices_DeleteFunc_api_Event_api_Event_Sw_Bare_1.con k h9 A3 c4 t1 t9  ht10) (Γ1 := []) (Γ2 := []) flat_nil flat_nil S rfl rfl ?_
  intro A12 c13 w11 E' S
  replace E := E.trans E'
  replace S : St w11 M7 F [_] := S
  refine W_v (.slice A12 t9.length c13) (x_assign rfl) rfl (Wl_nil (tn ?_))
  refine Wp_ret ?_
  obtain rfl := Option.some.inj H
  exact ⟨_, _, _, fun w1 e1 => run_resR (vs := [.slice A12 t9.length c13]) (FA.cons (rfl) (FA.nil)), HM, E, S.pick [0] (by decide), ⟨A12, c13, rfl, rfl⟩⟩
def event_Without_1_K (k : Nat) (a0 : api_Event) (ac_0 : (List (event_Place × Int))) : Option (Bool) :=
  some (decide (((mget ac_0 (⟨(a0.Task), (a0.Call)⟩ : event_Place)).getD (0 : Int)) > (0 : Int)))
set_option maxHeartbeats 2000000 in
theorem event_Without_1_K.mono {k : Nat} {a0 : api_Event} {ac_0 : (List (event_Place × Int))} : OLe (event_Without_1_K k a0 ac_0) (event_Without_1_K (k + 1) a0 ac_0) := by
  unfold event_Without_1_K
  repeat' (first | with_reducible exact OLe.none | with_reducible exact OLe.some | with_reducible refine OLe.ite ?_ ?_ | with_reducible refine OLe.bind ?_ (fun _ => ?_) | refine OLe.bind ?_ (fun _ => ?_) | refine OLe.ite ?_ ?_ | refine OLe.elim (fun _ => ?_) (fun _ => ?_) | split)
set_option maxHeartbeats 4000000 in
set_option maxRecDepth 100000 in
theorem event_Without_1_K.con (k : Nat) (M : Hp) (A0_0 : Option Addr) (c0_0 : Nat) (a0 : api_Event) (Ac_0 : Option Addr) (ac_0 : (List (event_Place × Int))) (bc_0 : Nat) (r : Bool) (hr0_0 : SlR r_api_Pair M (.slice A0_0 a0.Answer.Pairs.length c0_0) a0.Answer.Pairs) (h : event_Without_1_K k a0 ac_0 = some r) : Con Try.prog 40 #[.agg #[.int .u8 a0.What, .int .i64 a0.Task, .int .i64 a0.Call, .int .i64 a0.Answer.Err, .bool a0.Answer.Found, .string (bs a0.Answer.Value), .slice A0_0 a0.Answer.Pairs.length c0_0], pt bc_0 0] M [Blk bc_0 (.cells #[.map (mb Ac_0)] 80 (0, 0)), MapC enc_event_Place (Value.int .i64) Ac_0 ac_0] (fun v M' Γ' => v = .bool r ∧ Γ' = [Blk bc_0 (.cells #[.map (mb Ac_0)] 80 (0, 0)), MapC enc_event_Place (Value.int .i64) Ac_0 ac_0]) := by
  refine con_of_wp Try.func40 rfl Try.ntmps40 Try.results40 rfl ?_
  intro w F rn S hrn
  have E := Ext.refl w
  have HM := Hp.le_refl M
  have H := h
  unfold event_Without_1_K at H
  refine Wp_seq (Wp_region_lit ?_)
  refine W_box S #[.int .u8 a0.What, .int .i64 a0.Task, .int .i64 a0.Call, .int .i64 a0.Answer.Err, .bool a0.Answer.Found, .string (bs a0.Answer.Value), .slice A0_0 a0.Answer.Pairs.length c0_0] rfl rfl rfl ?_
  intro b1 w2 E' S
  replace E := E.trans E'
  refine W_v (.bool false) (x_assign rfl) rfl (Wl_nil (tn (Wp_seq (Wp_region_lit (W_v (.map (mb Ac_0)) (x_load (S.blk 1 rfl) ty80 rfl rfl) rfl (W_v (pt b1 1) (x_fieldAddr (o := 0) (off := 1) Try.underlying32 rfl ty3 rfl rfl) rfl (W_v (.int .i64 a0.Task) (x_load (S.blk 0 rfl) ty3 rfl rfl) rfl (W_v (pt b1 2) (x_fieldAddr (o := 0) (off := 2) Try.underlying32 rfl ty3 rfl rfl) rfl (W_v (.int .i64 a0.Call) (x_load (S.blk 0 rfl) ty3 rfl rfl) rfl (W_v (.agg #[.int .i64 (a0.Task), .int .i64 (a0.Call)]) (x_build2 (pl := [(0, 1), (1, 1)]) #[.int .i64 (a0.Task), .int .i64 (a0.Call)] Try.underlying62 ty62 (by as_aux_lemma => kernel_rfl) rfl (by as_aux_lemma => kernel_rfl)) rfl (W_v (.int .i64 ((mget ac_0 (⟨(a0.Task), (a0.Call)⟩ : event_Place)).getD (0 : Int))) (x_lookup S 2 rfl Try.underlying80 key62 (0 : Int) (fun _ => ty3.zero) (⟨(a0.Task), (a0.Call)⟩ : event_Place) rfl rfl) rfl (W_v (.bool (decide (((mget ac_0 (⟨(a0.Task), (a0.Call)⟩ : event_Place)).getD (0 : Int)) > (0 : Int)))) (x_ibin rfl rfl rfl rfl) rfl (W_v (.bool (decide (((mget ac_0 (⟨(a0.Task), (a0.Call)⟩ : event_Place)).getD (0 : Int)) > (0 : Int)))) (x_assign rfl) rfl (Wl_nil (tn ?_)))))))))))))))
  refine Wp_ret ?_
  obtain rfl := Option.some.inj H
  exact ⟨_, _, _, fun w1 e1 => run_resR (vs := [.bool (decide (((mget ac_0 (⟨(a0.Task), (a0.Call)⟩ : event_Place)).getD (0 : Int)) > (0 : Int)))]) (FA.cons (rfl) (FA.nil)), HM, E, S.pick [1, 2] (by decide), ⟨rfl, rfl⟩⟩
def slices_IndexFunc_api_Event_api_Event_Without_1_K_l0 (a0 : (List api_Event)) (a1_0 : (List (event_Place × Int))) : Nat → Int → Option ((Int) ⊕ (Unit))
  | 0, _ => none
  | k + 1, x45 => (if (decide (x45 < (a0.length : Int))) = true then (if 0 ≤ x45 ∧ x45 < (a0.length : Int) then (Option.bind (event_Without_1_K k (rd a0 x45) a1_0) (fun t84 => (if t84 = true then some (.inl x45) else slices_IndexFunc_api_Event_api_Event_Without_1_K_l0 a0 a1_0 k (IntKind.i64.wrap (x45 + (1 : Int)))))) else none) else some (.inr ()))
set_option maxHeartbeats 2000000 in
theorem slices_IndexFunc_api_Event_api_Event_Without_1_K_l0.mono {a0 : (List api_Event)} {a1_0 : (List (event_Place × Int))} : ∀ {kl : Nat} {x0}, OLe (slices_IndexFunc_api_Event_api_Event_Without_1_K_l0 a0 a1_0 kl x0) (slices_IndexFunc_api_Event_api_Event_Without_1_K_l0 a0 a1_0 (kl + 1) x0) := by
  intro kl
  induction kl with
  | zero => intros; exact OLe.none
  | succ kl ih =>
    intros
    rw [slices_IndexFunc_api_Event_api_Event_Without_1_K_l0.eq_2, slices_IndexFunc_api_Event_api_Event_Without_1_K_l0.eq_2]
    repeat' (first | with_reducible exact OLe.none | with_reducible exact OLe.some | with_reducible refine OLe.ite ?_ ?_ | with_reducible refine OLe.bind ?_ (fun _ => ?_) | with_reducible exact event_Without_1_K.mono | exact ih | refine OLe.bind ?_ (fun _ => ?_) | refine OLe.ite ?_ ?_ | refine OLe.elim (fun _ => ?_) (fun _ => ?_) | split)
def slices_IndexFunc_api_Event_api_Event_Without_1_K (k : Nat) (a0 : (List api_Event)) (a1_0 : (List (event_Place × Int))) : Option (Int) :=
  (Option.bind (slices_IndexFunc_api_Event_api_Event_Without_1_K_l0 a0 a1_0 k (0 : Int)) (fun o67o => Sum.elim (fun r' => some r') (fun _ => some (-1 : Int)) o67o))
set_option maxHeartbeats 2000000 in
theorem slices_IndexFunc_api_Event_api_Event_Without_1_K.mono {k : Nat} {a0 : (List api_Event)} {a1_0 : (List (event_Place × Int))} : OLe (slices_IndexFunc_api_Event_api_Event_Without_1_K k a0 a1_0) (slices_IndexFunc_api_Event_api_Event_Without_1_K (k + 1) a0 a1_0) := by
  unfold slices_IndexFunc_api_Event_api_Event_Without_1_K
  repeat' (first | with_reducible exact OLe.none | with_reducible exact OLe.some | with_reducible refine OLe.ite ?_ ?_ | with_reducible refine OLe.bind ?_ (fun _ => ?_) | with_reducible exact slices_IndexFunc_api_Event_api_Event_Without_1_K_l0.mono | refine OLe.bind ?_ (fun _ => ?_) | refine OLe.ite ?_ ?_ | refine OLe.elim (fun _ => ?_) (fun _ => ?_) | split)
set_option maxHeartbeats 4000000 in
set_option maxRecDepth 100000 in
theorem slices_IndexFunc_api_Event_api_Event_Without_1_K.con (k : Nat) (M : Hp) (A0 : Option Addr) (c0 : Nat) (a0 : (List api_Event)) (A1_0 : Option Addr) (a1_0 : (List (event_Place × Int))) (b1_0 : Nat) (r : Int) (hr0 : SlR r_api_Event M (.slice A0 a0.length c0) a0) (h : slices_IndexFunc_api_Event_api_Event_Without_1_K k a0 a1_0 = some r) : Con Try.prog 48 #[.slice A0 a0.length c0, .func (.func 40) #[] #[pt b1_0 0]] M [Blk b1_0 (.cells #[.map (mb A1_0)] 80 (0, 0)), MapC enc_event_Place (Value.int .i64) A1_0 a1_0] (fun v M' Γ' => v = .int .i64 r ∧ Γ' = [Blk b1_0 (.cells #[.map (mb A1_0)] 80 (0, 0)), MapC enc_event_Place (Value.int .i64) A1_0 a1_0]) := by
  refine con_of_wp Try.func48 rfl Try.ntmps48 Try.results48 rfl ?_
  intro w F rn S hrn
  have E := Ext.refl w
  have HM := Hp.le_refl M
  have H := h
  unfold slices_IndexFunc_api_Event_api_Event_Without_1_K at H
  refine Wp_seq (Wp_region_lit (W_v (.int .i64 0) (x_assign rfl) rfl (Wl_nil (tn (Wp_seq (Wp_seq (Wp_region_lit (W_v (.slice A0 a0.length c0) (x_move rfl) rfl (W_v (.int .i64 (a0.length : Int)) (x_len_slice (n := a0.length) Try.underlying22 rfl) rfl (W_v (.int .i64 0) (x_move rfl) rfl (Wl_nil (tn ?_))))))))))))
  obtain ⟨o67, o67h, o67H⟩ := bindS H
  refine Wp_blockJ (fun ρ w' => .inr () = o67 ∧ Agree ρ [] ∧ Ext w w' ∧ St w' M F [Blk b1_0 (.cells #[.map (mb A1_0)] 80 (0, 0)), MapC enc_event_Place (Value.int .i64) A1_0 a1_0]) ?_ ?_
  · skip
    refine Wp_loop (fun n ρ w' => ∃ (x45 : Int), slices_IndexFunc_api_Event_api_Event_Without_1_K_l0 a0 a1_0 n x45 = some o67 ∧ Agree ρ [(0, .slice A0 a0.length c0), (1, .func (.func 40) #[] #[pt b1_0 0]), (7, .int .i64 (a0.length : Int)), (8, .int .i64 x45)] ∧ Ext w w' ∧ St w' M F [Blk b1_0 (.cells #[.map (mb A1_0)] 80 (0, 0)), MapC enc_event_Place (Value.int .i64) A1_0 a1_0]) k ?_ ?_
    · skip
      exact ⟨(0 : Int), o67h, ⟨rfl, rfl, rfl, rfl, trivial⟩, E, S.pick [0, 1] (by decide)⟩
    · intro n
      rintro ρ w68 ⟨x45, H, hρ, E, S⟩
      rw [agree_eta hρ]
      cases n with
      | zero => cases H
      | succ k =>
        rw [slices_IndexFunc_api_Event_api_Event_Without_1_K_l0.eq_2] at H
        refine Wp_seq (Wp_region_lit (W_v (.bool (decide (x45 < (a0.length : Int)))) (x_ibin rfl rfl rfl rfl) rfl (Wl_nil (tn (Wp_seq ?_)))))
        rcases iteS H with ⟨hb69, H⟩ | ⟨hb69, H⟩
        · refine Wp_cond_true (congrArg Value.bool hb69) ?_
          refine Wp_skip (tn (Wp_seq ?_))
          refine Wp_block ?_
          refine Wp_seq (Wp_region_lit (W_v (.int .i64 x45) (x_move rfl) rfl (W_v (.int .i64 x45) (x_assign rfl) rfl (Wl_nil (tn (Wp_seq (Wp_region_lit (W_v (.func (.func 40) #[] #[pt b1_0 0]) (x_move rfl) rfl (W_v (.slice A0 a0.length c0) (x_move rfl) rfl (W_v (.int .i64 x45) (x_move rfl) rfl ?_))))))))))
          obtain ⟨⟨p70, p71⟩, H⟩ := chkS H
          obtain ⟨b72, o73, cs74, _, _, ee79, hb75, vs76, hR77, hc78⟩ := SlW.at' hr0 p70 p71
          obtain ⟨v83, hs82, rfl⟩ := hR77
          obtain ⟨A80, c81, rfl, _⟩ := hs82.form
          refine W_v (.pointer (some ⟨b72, o73 + x45.toNat * 7, none⟩)) (x_indexAddr Try.underlying22 ty32 (slA ee79) rfl p70 p71) rfl (W_v (.agg #[.int .u8 ((rd a0 x45).What), .int .i64 ((rd a0 x45).Task), .int .i64 ((rd a0 x45).Call), .int .i64 ((rd a0 x45).Answer.Err), .bool ((rd a0 x45).Answer.Found), .string (bs ((rd a0 x45).Answer.Value)), .slice A80 ((rd a0 x45).Answer.Pairs).length c81]) (x_loadA (S.frz hb75) ty32 rfl (sub_el hc78 0 rfl) rfl rfl) rfl ?_)
          obtain ⟨t84, ht85, H⟩ := bindS H
          refine W_callvF2 (fs := []) (cap := [pt b1_0 0]) fn40 rfl (event_Without_1_K.con k M A80 c81 (rd a0 x45) A1_0 a1_0 b1_0 t84 hs82 ht85) (Γ1 := [_, _]) (Γ2 := []) S rfl rfl (by rintro _ _ _ ⟨rfl, rfl⟩; exact (flat_cons flat_blk (flat_cons flat_map flat_nil))) ?_
          rintro _ w86 _ Γ' E' S ⟨rfl, rfl⟩
          replace E := E.trans E'
          replace S : St w86 M F [_, _] := S
          refine Wl_nil (tn ?_)
          rcases iteS H with ⟨hb89, H⟩ | ⟨hb89, H⟩
          · refine Wp_cond_true (congrArg Value.bool hb89) ?_
            refine Wp_seq (Wp_region_lit (W_v (.int .i64 x45) (x_move rfl) rfl (W_v (.int .i64 x45) (x_assign rfl) rfl (Wl_nil (tn ?_)))))
            refine Wp_ret ?_
            refine br (tr (tr (br (tr (tr (?_))))))
            obtain rfl := Option.some.inj H
            have H := o67H
            replace H := elimL H
            obtain rfl := Option.some.inj H
            exact ⟨_, _, _, fun w1 e1 => run_resR (vs := [.int .i64 x45]) (FA.cons (rfl) (FA.nil)), HM, E, S.pick [0, 1] (by decide), ⟨rfl, rfl⟩⟩
          refine Wp_cond_false (congrArg Value.bool hb89) (Wp_skip (bn (tn (Wp_region_lit (W_v (.int .i64 (IntKind.i64.wrap (x45 + (1 : Int)))) (x_ibin rfl rfl rfl rfl) rfl (W_v (.int .i64 (IntKind.i64.wrap (x45 + (1 : Int)))) (x_move rfl) rfl (Wl_nil (tn ?_))))))))
          exact ⟨k, Nat.lt_succ_self k, ⟨(IntKind.i64.wrap (x45 + (1 : Int))), H, ⟨rfl, rfl, rfl, rfl, trivial⟩, E, S.pick [0, 1] (by decide)⟩⟩
        refine Wp_cond_false (congrArg Value.bool hb69) ?_
        refine Wp_exit ?_
        refine tx (tx (bsm (?_)))
        refine tn ?_
        exact ⟨Option.some.inj H, trivial, E, S.pick [0, 1] (by decide)⟩
  rintro ρ w90 ⟨rfl, hρ, E, S⟩
  rw [agree_eta hρ]
  have H := o67H
  replace H := elimR H
  refine tn ?_
  as_aux_lemma =>
  refine Wp_seq (Wp_region_lit (W_v (.int .i64 (-1)) (x_assign rfl) rfl (Wl_nil (tn ?_))))
  refine Wp_ret ?_
  obtain rfl := Option.some.inj H
  exact ⟨_, _, _, fun w1 e1 => run_resR (vs := [.int .i64 (-1)]) (FA.cons (rfl) (FA.nil)), HM, E, S.pick [0, 1] (by decide), ⟨rfl, rfl⟩⟩
def slices_DeleteFunc_api_Event_api_Event_Sw_Without_1_K_l0 (a1_0 : (List (event_Place × Int))) : Nat → List api_Event → Int → Int → Option ((List api_Event × Int))
  | 0, _, _, _ => none
  | k + 1, x419, x423, x424 => (if (decide (x424 < (x419.length : Int))) = true then (Option.bind (α := List api_Event × Int) (if 0 ≤ x424 ∧ x424 < (x419.length : Int) then (Option.bind (event_Without_1_K k (rd x419 x424) a1_0) (fun t753 => (Option.bind (α := List api_Event × Int) (if (!t753) = true then (if 0 ≤ x423 ∧ x423 < (x419.length : Int) then (Option.bind (α := List api_Event) (some (List.set x419 x423.toNat (rd x419 x424))) (fun x825 => some (x825, (IntKind.i64.wrap (x423 + (1 : Int)))))) else none) else some (x419, x423)) (fun ⟨x802, x806⟩ => some (x802, x806))))) else none) (fun ⟨x729, x733⟩ => slices_DeleteFunc_api_Event_api_Event_Sw_Without_1_K_l0 a1_0 k x729 x733 (IntKind.i64.wrap (x424 + (1 : Int))))) else some (x419, x423))
set_option maxHeartbeats 2000000 in
theorem slices_DeleteFunc_api_Event_api_Event_Sw_Without_1_K_l0.mono {a1_0 : (List (event_Place × Int))} : ∀ {kl : Nat} {x0 x1 x2}, OLe (slices_DeleteFunc_api_Event_api_Event_Sw_Without_1_K_l0 a1_0 kl x0 x1 x2) (slices_DeleteFunc_api_Event_api_Event_Sw_Without_1_K_l0 a1_0 (kl + 1) x0 x1 x2) := by
  intro kl
  induction kl with
  | zero => intros; exact OLe.none
  | succ kl ih =>
    intros
    rw [slices_DeleteFunc_api_Event_api_Event_Sw_Without_1_K_l0.eq_2, slices_DeleteFunc_api_Event_api_Event_Sw_Without_1_K_l0.eq_2]
    repeat' (first | with_reducible exact OLe.none | with_reducible exact OLe.some | with_reducible refine OLe.ite ?_ ?_ | with_reducible refine OLe.bind ?_ (fun _ => ?_) | with_reducible exact event_Without_1_K.mono | exact ih | refine OLe.bind ?_ (fun _ => ?_) | refine OLe.ite ?_ ?_ | refine OLe.elim (fun _ => ?_) (fun _ => ?_) | split)
def slices_DeleteFunc_api_Event_api_Event_Sw_Without_1_K (k : Nat) (a0 : (List api_Event)) (a1_0 : (List (event_Place × Int))) : Option ((List api_Event)) :=
  (Option.bind (slices_IndexFunc_api_Event_api_Event_Without_1_K k a0 a1_0) (fun t1 => (if (t1 == (-1 : Int)) = true then some a0 else (Option.bind (slices_DeleteFunc_api_Event_api_Event_Sw_Without_1_K_l0 a1_0 k a0 t1 (IntKind.i64.wrap (t1 + (1 : Int)))) (fun ⟨x625, x629⟩ => (if 0 ≤ x629 ∧ x629 ≤ (x625.length : Int) then (Option.bind (α := List api_Event) (some (List.take x629.toNat x625 ++ List.replicate (x625.length - x629.toNat) (⟨0, 0, 0, ⟨0, false, [], []⟩⟩ : api_Event))) (fun x836 => (if 0 ≤ x629 ∧ x629 ≤ (x836.length : Int) then some (List.take x629.toNat x836) else none))) else none))))))
set_option maxHeartbeats 2000000 in
theorem slices_DeleteFunc_api_Event_api_Event_Sw_Without_1_K.mono {k : Nat} {a0 : (List api_Event)} {a1_0 : (List (event_Place × Int))} : OLe (slices_DeleteFunc_api_Event_api_Event_Sw_Without_1_K k a0 a1_0) (slices_DeleteFunc_api_Event_api_Event_Sw_Without_1_K (k + 1) a0 a1_0) := by
  unfold slices_DeleteFunc_api_Event_api_Event_Sw_Without_1_K
  repeat' (first | with_reducible exact OLe.none | with_reducible exact OLe.some | with_reducible refine OLe.ite ?_ ?_ | with_reducible refine OLe.bind ?_ (fun _ => ?_) | with_reducible exact slices_DeleteFunc_api_Event_api_Event_Sw_Without_1_K_l0.mono | with_reducible exact slices_IndexFunc_api_Event_api_Event_Without_1_K.mono | refine OLe.bind ?_ (fun _ => ?_) | refine OLe.ite ?_ ?_ | refine OLe.elim (fun _ => ?_) (fun _ => ?_) | split)
set_option maxHeartbeats 4000000 in
set_option maxRecDepth 100000 in
theorem slices_DeleteFunc_api_Event_api_Event_Sw_Without_1_K.con (k : Nat) (M : Hp) (A0 : Option Addr) (c0 : Nat) (a0 : (List api_Event)) (A1_0 : Option Addr) (a1_0 : (List (event_Place × Int))) (b1_0 : Nat) (r : (List api_Event))  (h : slices_DeleteFunc_api_Event_api_Event_Sw_Without_1_K k a0 a1_0 = some r) : Con Try.prog 38 #[.slice A0 a0.length c0, .func (.func 40) #[] #[pt b1_0 0]] M [Row rw_api_Event 32 (.slice A0 a0.length c0) a0, Blk b1_0 (.cells #[.map (mb A1_0)] 80 (0, 0)), MapC enc_event_Place (Value.int .i64) A1_0 a1_0] (fun v M' Γ' => ∃ (Aq1 : Option Addr) (cq2 : Nat), v = .slice Aq1 r.length cq2 ∧ Γ' = [Row rw_api_Event 32 (.slice Aq1 r.length cq2) r, Blk b1_0 (.cells #[.map (mb A1_0)] 80 (0, 0)), MapC enc_event_Place (Value.int .i64) A1_0 a1_0]) := by
  refine con_of_wp Try.func38 rfl Try.ntmps38 Try.results38 rfl ?_
  intro w F rn S hrn
  have E := Ext.refl w
  have HM := Hp.le_refl M
  have H := h
  unfold slices_DeleteFunc_api_Event_api_Event_Sw_Without_1_K at H
  refine Wp_seq (Wp_region_lit (W_v (.slice none 0 0) (x_assign rfl) rfl (Wl_nil (tn (Wp_seq (Wp_region_lit (W_v (.slice A0 a0.length c0) (x_move rfl) rfl (W_v (.func (.func 40) #[] #[pt b1_0 0]) (x_move rfl) rfl ?_))))))))
  obtain ⟨t1, ht2, H⟩ := bindS H
  refine W_callLF fn48 (fun h9 hs9 hd9 => slices_IndexFunc_api_Event_api_Event_Without_1_K.con k _ A0 c0 a0 A1_0 a1_0 b1_0 t1 (SlW.wk (r := r_api_Event) (Sats.row hs9 hd9 0 rfl)) ht2) (Δ := [Row rw_api_Event 32 (.slice A0 a0.length c0) a0]) (Γ1 := [_, _]) (Γ2 := []) S rfl rfl (by rintro _ _ _ ⟨rfl, rfl⟩; exact (flat_cons flat_blk (flat_cons flat_map flat_nil))) ?_
  rintro _ w3 _ Γ' E' S ⟨rfl, rfl⟩
  replace E := E.trans E'
  replace S : St w3 M F [_, _, _] := S
  refine W_v (.int .i64 t1) (x_assign rfl) rfl (Wl_nil (tn (Wp_seq (Wp_seq (Wp_region_lit (W_v (.int .i64 t1) (x_move rfl) rfl (W_v (.bool (t1 == (-1 : Int))) (x_ibin rfl rfl rfl rfl) rfl (Wl_nil (tn ?_)))))))))
  rcases iteS H with ⟨hb6, H⟩ | ⟨hb6, H⟩
  · refine Wp_cond_true (congrArg Value.bool hb6) ?_
    refine Wp_seq (Wp_region_lit (W_v (.slice A0 a0.length c0) (x_move rfl) rfl (W_v (.slice A0 a0.length c0) (x_assign rfl) rfl (Wl_nil (tn ?_)))))
    refine Wp_ret ?_
    refine tr (?_)
    obtain rfl := Option.some.inj H
    exact ⟨_, _, _, fun w1 e1 => run_resR (vs := [.slice A0 a0.length c0]) (FA.cons (rfl) (FA.nil)), HM, E, S.pick [2, 0, 1] (by decide), ⟨A0, c0, rfl, rfl⟩⟩
  refine Wp_cond_false (congrArg Value.bool hb6) (Wp_skip (tn (Wp_seq (Wp_seq (Wp_region_lit (W_v (.int .i64 t1) (x_move rfl) rfl (W_v (.int .i64 (IntKind.i64.wrap (t1 + (1 : Int)))) (x_ibin rfl rfl rfl rfl) rfl (W_v (.int .i64 (IntKind.i64.wrap (t1 + (1 : Int)))) (x_assign rfl) rfl (Wl_nil (tn ?_))))))))))
  obtain ⟨o630, o630h, o630H⟩ := bindS H
  refine Wp_blockJ (fun ρ w' => ∃ (x625 : List api_Event) (x629 : Int) (A626 : Option Addr) (c627 : Nat), (x625, x629) = o630 ∧ Agree ρ [(0, .slice A626 x625.length c627), (5, .int .i64 x629)] ∧ Ext w w' ∧ St w' M F [Row rw_api_Event 32 (.slice A626 x625.length c627) x625, Blk b1_0 (.cells #[.map (mb A1_0)] 80 (0, 0)), MapC enc_event_Place (Value.int .i64) A1_0 a1_0]) ?_ ?_
  · skip
    refine Wp_loop (fun n ρ w' => ∃ (x419 : List api_Event) (x423 : Int) (x424 : Int) (A420 : Option Addr) (c421 : Nat), slices_DeleteFunc_api_Event_api_Event_Sw_Without_1_K_l0 a1_0 n x419 x423 x424 = some o630 ∧ Agree ρ [(0, .slice A420 x419.length c421), (1, .func (.func 40) #[] #[pt b1_0 0]), (5, .int .i64 x423), (6, .int .i64 x424)] ∧ Ext w w' ∧ St w' M F [Row rw_api_Event 32 (.slice A420 x419.length c421) x419, Blk b1_0 (.cells #[.map (mb A1_0)] 80 (0, 0)), MapC enc_event_Place (Value.int .i64) A1_0 a1_0]) k ?_ ?_
    · skip
      exact ⟨a0, t1, (IntKind.i64.wrap (t1 + (1 : Int))), A0, c0, o630h, ⟨rfl, rfl, rfl, rfl, trivial⟩, E, S.pick [2, 0, 1] (by decide)⟩
    · intro n
      rintro ρ w631 ⟨x419, x423, x424, A420, c421, H, hρ, E, S⟩
      rw [agree_eta hρ]
      cases n with
      | zero => cases H
      | succ k =>
        rw [slices_DeleteFunc_api_Event_api_Event_Sw_Without_1_K_l0.eq_2] at H
        refine Wp_seq (Wp_seq (Wp_region_lit (W_v (.int .i64 x424) (x_move rfl) rfl (W_v (.slice A420 x419.length c421) (x_move rfl) rfl (W_v (.int .i64 (x419.length : Int)) (x_len_slice (n := x419.length) Try.underlying22 rfl) rfl (W_v (.bool (decide (x424 < (x419.length : Int)))) (x_ibin rfl rfl rfl rfl) rfl (Wl_nil (tn ?_))))))))
        rcases iteS H with ⟨hb632, H⟩ | ⟨hb632, H⟩
        · refine Wp_cond_true (congrArg Value.bool hb632) ?_
          refine Wp_skip (tn (Wp_seq ?_))
          obtain ⟨o734, o734h, o734H⟩ := bindS H
          refine Wp_cut (fun ρ w' => ∃ (x729 : List api_Event) (x733 : Int) (A730 : Option Addr) (c731 : Nat), (x729, x733) = o734 ∧ Agree ρ [(0, .slice A730 x729.length c731), (1, .func (.func 40) #[] #[pt b1_0 0]), (5, .int .i64 x733), (6, .int .i64 x424)] ∧ Ext w w' ∧ St w' M F [Row rw_api_Event 32 (.slice A730 x729.length c731) x729, Blk b1_0 (.cells #[.map (mb A1_0)] 80 (0, 0)), MapC enc_event_Place (Value.int .i64) A1_0 a1_0]) ?_ ?_
          · as_aux_lemma =>
              clear o734H
              have H := o734h
              refine Wp_block ?_
              refine Wp_seq (Wp_region_lit (W_v (.slice A420 x419.length c421) (x_move rfl) rfl (W_v (.int .i64 x424) (x_move rfl) rfl ?_)))
              obtain ⟨⟨p735, p736⟩, H⟩ := chkS H
              obtain ⟨b737, o738, cs739, _, _, ee744, hb740, vs741, hR742, hc743⟩ := SlW.at' (S.row_read 0 rfl) p735 p736
              obtain ⟨v748, hs747, rfl⟩ := hR742
              obtain ⟨A745, c746, rfl, _⟩ := hs747.form
              refine W_v (.pointer (some ⟨b737, o738 + x424.toNat * 7, none⟩)) (x_indexAddr Try.underlying22 ty32 (slA ee744) rfl p735 p736) rfl (W_v (.agg #[.int .u8 ((rd x419 x424).What), .int .i64 ((rd x419 x424).Task), .int .i64 ((rd x419 x424).Call), .int .i64 ((rd x419 x424).Answer.Err), .bool ((rd x419 x424).Answer.Found), .string (bs ((rd x419 x424).Answer.Value)), .slice A745 ((rd x419 x424).Answer.Pairs).length c746]) (x_loadA (Hp.of_get hb740) ty32 rfl (sub_el hc743 0 rfl) rfl rfl) rfl ?_)
              refine W_alloc S #[.int .u8 0, .int .i64 0, .int .i64 0, .int .i64 0, .bool false, .string (bs ([] : Str)), .slice none 0 0] ty32 rfl rfl ?_
              intro b749 w750 E' S
              replace E := E.trans E'
              refine W_store S 0 rfl ty32 rfl rfl [.int .u8 ((rd x419 x424).What), .int .i64 ((rd x419 x424).Task), .int .i64 ((rd x419 x424).Call), .int .i64 ((rd x419 x424).Answer.Err), .bool ((rd x419 x424).Answer.Found), .string (bs ((rd x419 x424).Answer.Value)), .slice A745 ((rd x419 x424).Answer.Pairs).length c746] rfl rfl rfl #[.int .u8 ((rd x419 x424).What), .int .i64 ((rd x419 x424).Task), .int .i64 ((rd x419 x424).Call), .int .i64 ((rd x419 x424).Answer.Err), .bool ((rd x419 x424).Answer.Found), .string (bs ((rd x419 x424).Answer.Value)), .slice A745 ((rd x419 x424).Answer.Pairs).length c746] (by as_aux_lemma => kernel_rfl) rfl ?_
              intro w752 E' S
              replace E := E.trans E'
              refine Wl_nil (tn (Wp_seq (Wp_region_lit (W_v (.func (.func 40) #[] #[pt b1_0 0]) (x_move rfl) rfl (W_v (.agg #[.int .u8 ((rd x419 x424).What), .int .i64 ((rd x419 x424).Task), .int .i64 ((rd x419 x424).Call), .int .i64 ((rd x419 x424).Answer.Err), .bool ((rd x419 x424).Answer.Found), .string (bs ((rd x419 x424).Answer.Value)), .slice A745 ((rd x419 x424).Answer.Pairs).length c746]) (x_loadA (S.blk 0 rfl) ty32 rfl (sub_of_extract rfl) rfl rfl) rfl ?_)))))
              obtain ⟨t753, ht754, H⟩ := bindS H
              replace S : St w752 M F [_, _, _, _] := S.pick [2, 3, 0, 1] (by decide)
              refine W_callvF2 (fs := []) (cap := [pt b1_0 0]) fn40 rfl (event_Without_1_K.con k M A745 c746 (rd x419 x424) A1_0 a1_0 b1_0 t753 (SlRw.r hs747) ht754) (Γ1 := [_, _]) (Γ2 := [_, _]) S rfl rfl (by rintro _ _ _ ⟨rfl, rfl⟩; exact (flat_cons flat_blk (flat_cons flat_map flat_nil))) ?_
              rintro _ w755 _ Γ' E' S ⟨rfl, rfl⟩
              replace E := E.trans E'
              replace S : St w755 M F [_, _, _, _] := S
              refine W_v (.bool (!t753)) (x_not (b := t753) rfl) rfl (Wl_nil (tn ?_))
              obtain ⟨o807, o807h, o807H⟩ := bindS H
              refine Wp_cut (fun ρ w' => ∃ (x802 : List api_Event) (x806 : Int) (A803 : Option Addr) (c804 : Nat), (x802, x806) = o807 ∧ Agree ρ [(0, .slice A803 x802.length c804), (1, .func (.func 40) #[] #[pt b1_0 0]), (5, .int .i64 x806), (6, .int .i64 x424)] ∧ Ext w w' ∧ St w' M F [Row rw_api_Event 32 (.slice A803 x802.length c804) x802, Blk b1_0 (.cells #[.map (mb A1_0)] 80 (0, 0)), MapC enc_event_Place (Value.int .i64) A1_0 a1_0]) ?_ ?_
              · clear o807H
                have H := o807h
                rcases iteS H with ⟨hb808, H⟩ | ⟨hb808, H⟩
                · refine Wp_cond_true (congrArg Value.bool hb808) ?_
                  refine Wp_seq (Wp_region_lit (W_v (.slice A420 x419.length c421) (x_move rfl) rfl (W_v (.int .i64 x423) (x_move rfl) rfl (W_v (.agg #[.int .u8 ((rd x419 x424).What), .int .i64 ((rd x419 x424).Task), .int .i64 ((rd x419 x424).Call), .int .i64 ((rd x419 x424).Answer.Err), .bool ((rd x419 x424).Answer.Found), .string (bs ((rd x419 x424).Answer.Value)), .slice A745 ((rd x419 x424).Answer.Pairs).length c746]) (x_loadA (S.blk 2 rfl) ty32 rfl (sub_of_extract rfl) rfl rfl) rfl ?_))))
                  obtain ⟨⟨p809, p810⟩, H⟩ := chkS H
                  obtain ⟨b811, o812, cs813, _, _, ee818, hb814, vs815, hR816, hc817⟩ := SlW.at' (S.row_read 3 rfl) p809 p810
                  obtain ⟨v822, hs821, rfl⟩ := hR816
                  obtain ⟨A819, c820, rfl, _⟩ := hs821.form
                  refine W_v (.pointer (some ⟨b811, o812 + x423.toNat * 7, none⟩)) (x_indexAddr Try.underlying22 ty32 (slA ee818) rfl p809 p810) rfl ?_
                  obtain ⟨x825, he826, H⟩ := bindS H
                  replace he826 := Option.some.inj he826
                  refine W_rowstore S 3 rfl rfl ee818 (by first | exact p809 | simpa using p809) (by first | exact p810 | simpa using p810) 0 ty32 rfl rfl [.int .u8 ((rd x419 x424).What), .int .i64 ((rd x419 x424).Task), .int .i64 ((rd x419 x424).Call), .int .i64 ((rd x419 x424).Answer.Err), .bool ((rd x419 x424).Answer.Found), .string (bs ((rd x419 x424).Answer.Value)), .slice A745 ((rd x419 x424).Answer.Pairs).length c746] rfl rfl rfl rfl (rd x419 x424) (by rintro _ ⟨_, h6, rfl⟩; exact ⟨_, hs747, rfl⟩) he826 ?_
                  intro w824 E' S
                  replace E := E.trans E'
                  have hs827 : Value.slice A420 x419.length c421 = Value.slice A420 x825.length c421 := by rw [← he826, List.length_set]
                  try unfold B32 at S
                  try rw [hs827] at S
                  try rw [hs827]
                  have p828 : x424 < (x825.length : Int) := by rw [← he826, List.length_set]; exact p736
                  have p829 : x423 < (x825.length : Int) := by rw [← he826, List.length_set]; exact p810
                  refine Wl_nil (tn (Wp_region_lit (W_v (.int .i64 x423) (x_move rfl) rfl (W_v (.int .i64 (IntKind.i64.wrap (x423 + (1 : Int)))) (x_ibin rfl rfl rfl rfl) rfl (W_v (.int .i64 (IntKind.i64.wrap (x423 + (1 : Int)))) (x_assign rfl) rfl (Wl_nil (tn ?_)))))))
                  exact ⟨x825, (IntKind.i64.wrap (x423 + (1 : Int))), A420, c421, Option.some.inj H, ⟨rfl, rfl, rfl, rfl, trivial⟩, E, S.pick [3, 0, 1] (by decide)⟩
                refine Wp_cond_false (congrArg Value.bool hb808) (Wp_skip (tn ?_))
                exact ⟨x419, x423, A420, c421, Option.some.inj H, ⟨rfl, rfl, rfl, rfl, trivial⟩, E, S.pick [3, 0, 1] (by decide)⟩
              rintro ρ w830 ⟨x802, x806, A803, c804, rfl, hρ, E, S⟩
              rw [agree_eta hρ]
              have H := o807H
              refine bn (tn ?_)
              exact ⟨x802, x806, A803, c804, Option.some.inj H, ⟨rfl, rfl, rfl, rfl, trivial⟩, E, S.pick [0, 1, 2] (by decide)⟩
          rintro ρ w831 ⟨x729, x733, A730, c731, rfl, hρ, E, S⟩
          rw [agree_eta hρ]
          have H := o734H
          refine tn (Wp_region_lit (W_v (.int .i64 x424) (x_move rfl) rfl (W_v (.int .i64 (IntKind.i64.wrap (x424 + (1 : Int)))) (x_ibin rfl rfl rfl rfl) rfl (W_v (.int .i64 (IntKind.i64.wrap (x424 + (1 : Int)))) (x_assign rfl) rfl (Wl_nil (tn ?_))))))
          exact ⟨k, Nat.lt_succ_self k, ⟨x729, x733, (IntKind.i64.wrap (x424 + (1 : Int))), A730, c731, H, ⟨rfl, rfl, rfl, rfl, trivial⟩, E, S.pick [0, 1, 2] (by decide)⟩⟩
        refine Wp_cond_false (congrArg Value.bool hb632) ?_
        refine Wp_exit ?_
        refine tx (tx (bsm (?_)))
        refine tn ?_
        exact ⟨x419, x423, A420, c421, Option.some.inj H, ⟨rfl, rfl, trivial⟩, E, S.pick [0, 1, 2] (by decide)⟩
  rintro ρ w832 ⟨x625, x629, A626, c627, rfl, hρ, E, S⟩
  rw [agree_eta hρ]
  have H := o630H
  refine tn ?_
  as_aux_lemma =>
  refine Wp_seq (Wp_region_lit (W_v (.slice A626 x625.length c627) (x_move rfl) rfl (W_v (.int .i64 x629) (x_move rfl) rfl ?_)))
  obtain ⟨⟨p833, p834⟩, H⟩ := chkS H
  refine W_v (.slice (if c627 = x629.toNat then A626 else Option.map (fun x => x.add (x629.toNat * 7)) A626) (x625.length - x629.toNat) (c627 - x629.toNat)) (x_slice_lo Try.underlying22 ty32 rfl rfl p833 (by omega)) rfl ?_
  obtain ⟨x836, he837, H⟩ := bindS H
  replace he837 := Option.some.inj he837
  refine W_rowclear (i := x629) (⟨0, 0, 0, ⟨0, false, [], []⟩⟩ : api_Event) S 0 rfl p833 p834 Try.underlying22 ty32 rfl (by decide) (fun _ => ⟨_, SlRw.nil _ _, rfl⟩) he837 rfl ?_
  intro w835 E' S
  replace E := E.trans E'
  have hs838 : Value.slice A626 x625.length c627 = Value.slice A626 x836.length c627 := by rw [← he837]; congr 1; simp only [List.length_append, List.length_take, List.length_replicate]; omega
  try rw [hs838] at S
  try rw [hs838]
  refine Wl_nil (tn (Wp_seq (Wp_region_lit (W_v (.slice A626 x836.length c627) (x_move rfl) rfl (W_v (.int .i64 x629) (x_move rfl) rfl ?_)))))
  obtain ⟨⟨p839, p840⟩, H⟩ := chkS H
  have hx841 := @slW_hi _ _ _ _ _ _ _ _ _ (S.row_read 0 rfl) p839 p840
  replace S := S.row_take 0 rfl x629.toNat (by omega)
  replace S : St w835 M F [_, _, _] := S
  refine W_v (.slice A626 (List.take x629.toNat x836).length c627) (hx841 Try.underlying22 ty32 rfl rfl) rfl (W_v (.slice A626 (List.take x629.toNat x836).length c627) (x_assign rfl) rfl (Wl_nil (tn ?_)))
  refine Wp_ret ?_
  obtain rfl := Option.some.inj H
  exact ⟨_, _, _, fun w1 e1 => run_resR (vs := [.slice A626 (List.take x629.toNat x836).length c627]) (FA.cons (rfl) (FA.nil)), HM, E, S.pick [0, 1, 2] (by decide), ⟨A626, c627, rfl, rfl⟩⟩
def event_Without_l5 (k : Nat) (x2146 : List api_Event) (x2150 : Int) : Nat → List api_Event → List event_Place → Option ((List api_Event))
  | 0, _, _ => none
  | kl + 1, x3655, x3659 => (onList x3659 (some (x3655)) (fun y3904 todo3911 => (Option.bind (α := List api_Event) (Option.bind (α := List api_Event) (if (((y3904.Task == (rd x2146 x2150).Task) && (decide (y3904.Call ≥ (0 : Int)))) && (decide (y3904.Call < (rd x2146 x2150).Call))) = true then (if 0 ≤ x2150 ∧ x2150 < (x3655.length : Int) then (if 0 ≤ x2150 ∧ x2150 < (x3655.length : Int) then (Option.bind (α := List api_Event) (some (List.set x3655 x2150.toNat (⟨(rd x3655 x2150).What, (rd x3655 x2150).Task, (IntKind.i64.wrap ((rd x3655 x2150).Call - (1 : Int))), ⟨(rd x3655 x2150).Answer.Err, (rd x3655 x2150).Answer.Found, (rd x3655 x2150).Answer.Value, (rd x3655 x2150).Answer.Pairs⟩⟩ : api_Event))) (fun x4135 => some (x4135))) else none) else none) else some (x3655)) (fun x4100 => some (x4100))) (fun x4023 => event_Without_l5 k x2146 x2150 kl x4023 todo3911))))
set_option maxHeartbeats 2000000 in
theorem event_Without_l5.mono {k : Nat} {x2146 : List api_Event} {x2150 : Int} : ∀ {kl : Nat} {x0 x1}, OLe (event_Without_l5 k x2146 x2150 kl x0 x1) (event_Without_l5 (k + 1) x2146 x2150 (kl + 1) x0 x1) := by
  intro kl
  induction kl with
  | zero => intros; exact OLe.none
  | succ kl ih =>
    intros
    rw [event_Without_l5.eq_2, event_Without_l5.eq_2]
    repeat' (first | with_reducible exact OLe.none | with_reducible exact OLe.some | with_reducible refine OLe.ite ?_ ?_ | with_reducible refine OLe.bind ?_ (fun _ => ?_) | exact ih | refine OLe.bind ?_ (fun _ => ?_) | refine OLe.ite ?_ ?_ | refine OLe.elim (fun _ => ?_) (fun _ => ?_) | refine OLe.onList ?_ (fun _ _ => ?_) | split)
theorem event_Without_l5.perm {k : Nat} {x2146 : List api_Event} {x2150 : Int} {kl : Nat} {x3655 : List api_Event} {x3659 : List event_Place} {x3659' : List event_Place} {lq : List (event_Place × Int)} (hp : x3659.Perm x3659') (hn : x3659.Nodup) (hl : (lq.map (·.1)).Nodup) (hs : ∀ y ∈ x3659, y ∈ lq.map (·.1)) : event_Without_l5 k x2146 x2150 kl x3655 x3659 = event_Without_l5 k x2146 x2150 kl x3655 x3659' := by
  refine perm_fold (fun kl s t => event_Without_l5 k x2146 x2150 kl s t) _ _ (fun _ _ => rfl) (fun _ _ _ => rfl) (fun y z s => ?_) hp kl _
  simp only [Option.bind_some]
  (repeat' split) <;> simp_all
def event_Without_l3 (x104 : List (event_Place × Int)) (t146 : (List api_Event)) : Nat → List api_Event → Int → Option ((List api_Event))
  | 0, _, _ => none
  | k + 1, x2146, x2150 => (if (decide (x2150 < (t146.length : Int))) = true then (if 0 ≤ x2150 ∧ x2150 < (x2146.length : Int) then (if (x104.map fun p : event_Place × Int => p.1).Nodup then (Option.bind (event_Without_l5 k x2146 x2150 k x2146 (x104.map fun p : event_Place × Int => p.1)) (fun x3897 => event_Without_l3 x104 t146 k x3897 (IntKind.i64.wrap (x2150 + (1 : Int))))) else none) else none) else some (x2146))
set_option maxHeartbeats 2000000 in
theorem event_Without_l3.mono {x104 : List (event_Place × Int)} {t146 : (List api_Event)} : ∀ {kl : Nat} {x0 x1}, OLe (event_Without_l3 x104 t146 kl x0 x1) (event_Without_l3 x104 t146 (kl + 1) x0 x1) := by
  intro kl
  induction kl with
  | zero => intros; exact OLe.none
  | succ kl ih =>
    intros
    rw [event_Without_l3.eq_2, event_Without_l3.eq_2]
    repeat' (first | with_reducible exact OLe.none | with_reducible exact OLe.some | with_reducible refine OLe.ite ?_ ?_ | with_reducible refine OLe.bind ?_ (fun _ => ?_) | with_reducible exact event_Without_l5.mono | exact ih | refine OLe.bind ?_ (fun _ => ?_) | refine OLe.ite ?_ ?_ | refine OLe.elim (fun _ => ?_) (fun _ => ?_) | split)
def event_Without_l0 (a1 : (List event_Place)) : Nat → Int → List (event_Place × Int) → Option (((List (event_Place × Int))))
  | 0, _, _ => none
  | k + 1, x72, x73 => (if (decide (x72 < (a1.length : Int))) = true then (if 0 ≤ x72 ∧ x72 < (a1.length : Int) then (Option.bind (α := List (event_Place × Int)) (some (mput x73 (rd a1 x72) (IntKind.i64.wrap (((mget x73 (rd a1 x72)).getD (0 : Int)) + (1 : Int))))) (fun x135 => event_Without_l0 a1 k (IntKind.i64.wrap (x72 + (1 : Int))) x135)) else none) else some (x73))
set_option maxHeartbeats 2000000 in
theorem event_Without_l0.mono {a1 : (List event_Place)} : ∀ {kl : Nat} {x0 x1}, OLe (event_Without_l0 a1 kl x0 x1) (event_Without_l0 a1 (kl + 1) x0 x1) := by
  intro kl
  induction kl with
  | zero => intros; exact OLe.none
  | succ kl ih =>
    intros
    rw [event_Without_l0.eq_2, event_Without_l0.eq_2]
    repeat' (first | with_reducible exact OLe.none | with_reducible exact OLe.some | with_reducible refine OLe.ite ?_ ?_ | with_reducible refine OLe.bind ?_ (fun _ => ?_) | exact ih | refine OLe.bind ?_ (fun _ => ?_) | refine OLe.ite ?_ ?_ | refine OLe.elim (fun _ => ?_) (fun _ => ?_) | split)
def event_Without (k : Nat) (a0 : (List api_Event)) (a1 : (List event_Place)) : Option ((List api_Event)) :=
  (Option.bind (event_Without_l0 a1 k (0 : Int) ([] : List (event_Place × Int))) (fun x104 => (Option.bind (event_owned k a0) (fun t138 => (Option.bind (slices_DeleteFunc_api_Event_api_Event_Sw_Without_1_K k t138 x104) (fun t146 => (Option.bind (event_Without_l3 x104 t146 k t146 (0 : Int)) (fun x3143 => some x3143))))))))
set_option maxHeartbeats 2000000 in
theorem event_Without.mono {k : Nat} {a0 : (List api_Event)} {a1 : (List event_Place)} : OLe (event_Without k a0 a1) (event_Without (k + 1) a0 a1) := by
  unfold event_Without
  repeat' (first | with_reducible exact OLe.none | with_reducible exact OLe.some | with_reducible refine OLe.ite ?_ ?_ | with_reducible refine OLe.bind ?_ (fun _ => ?_) | with_reducible exact event_Without_l0.mono | with_reducible exact event_Without_l3.mono | with_reducible exact event_owned.mono | with_reducible exact slices_DeleteFunc_api_Event_api_Event_Sw_Without_1_K.mono | refine OLe.bind ?_ (fun _ => ?_) | refine OLe.ite ?_ ?_ | refine OLe.elim (fun _ => ?_) (fun _ => ?_) | split)
set_option maxHeartbeats 1000000 in
set_option maxRecDepth 100000 in
theorem event_Without.con (k : Nat) (M : Hp) (A0 : Option Addr) (c0 : Nat) (a0 : (List api_Event)) (A1 : Option Addr) (c1 : Nat) (a1 : (List event_Place)) (r : (List api_Event)) (hr0 : SlR r_api_Event M (.slice A0 a0.length c0) a0) (hr1 : SlR r_event_Place M (.slice A1 a1.length c1) a1) (h : event_Without k a0 a1 = some r) : Con Try.prog 24 #[.slice A0 a0.length c0, .slice A1 a1.length c1] M [] (fun v M' Γ' => ∃ (A0 : Option Addr) (c0 : Nat), v = .slice A0 r.length c0 ∧ Γ' = [Nst rw_api_Event 32 (.slice A0 r.length c0) r]) := by
  refine con_of_wp Try.func24 rfl Try.ntmps24 Try.results24 rfl ?_
  intro w F rn S hrn
  have E := Ext.refl w
  have HM := Hp.le_refl M
  have H := h
  unfold event_Without at H
  refine Wp_seq (Wp_region_lit (W_v (.slice none 0 0) (x_assign rfl) rfl (Wl_nil (tn (Wp_seq (Wp_region_lit ?_))))))
  refine W_makeMap (κ := event_Place) (ν := Int) enc_event_Place (Value.int .i64) S rfl ?_
  intro b1 w2 E' S
  replace E := E.trans E'
  replace S : St w2 M F [_] := S
  refine W_alloc S #[.map none] ty80 rfl rfl ?_
  intro b4 w5 E' S
  replace E := E.trans E'
  refine W_store S 0 rfl ty80 rfl rfl [.map (mb (some ⟨b1, 0, none⟩))] rfl rfl rfl #[.map (mb (some ⟨b1, 0, none⟩))] rfl rfl ?_
  intro w7 E' S
  replace E := E.trans E'
  refine Wl_nil (tn (Wp_seq (Wp_seq (Wp_region_lit (W_v (.slice A1 a1.length c1) (x_move rfl) rfl (W_v (.int .i64 (a1.length : Int)) (x_len_slice (n := a1.length) Try.underlying55 rfl) rfl (W_v (.int .i64 0) (x_move rfl) rfl (Wl_nil (tn ?_)))))))))
  obtain ⟨o108, o108h, o108H⟩ := bindS H
  refine Wp_blockJ (fun ρ w' => ∃ (x104 : List (event_Place × Int)) (A105 : Option Addr) (c106 : Nat), (x104) = o108 ∧ Agree ρ [(0, .slice A0 a0.length c0), (5, pt b4 0)] ∧ Ext w w' ∧ St w' M F [MapC enc_event_Place (Value.int .i64) A105 x104, Blk b4 (.cells #[.map (mb A105)] 80 (0, 0))]) ?_ ?_
  · skip
    refine Wp_loop (fun n ρ w' => ∃ (x72 : Int) (x73 : List (event_Place × Int)) (A74 : Option Addr) (c75 : Nat), event_Without_l0 a1 n x72 x73 = some o108 ∧ Agree ρ [(0, .slice A0 a0.length c0), (5, pt b4 0), (13, .slice A1 a1.length c1), (14, .int .i64 (a1.length : Int)), (15, .int .i64 x72)] ∧ Ext w w' ∧ St w' M F [MapC enc_event_Place (Value.int .i64) A74 x73, Blk b4 (.cells #[.map (mb A74)] 80 (0, 0))]) k ?_ ?_
    · skip
      exact ⟨(0 : Int), ([] : List (event_Place × Int)), (some ⟨b1, 0, none⟩), 0, o108h, ⟨rfl, rfl, rfl, rfl, rfl, trivial⟩, E, S.pick [1, 0] (by decide)⟩
    · intro n
      rintro ρ w109 ⟨x72, x73, A74, c75, H, hρ, E, S⟩
      rw [agree_eta hρ]
      cases n with
      | zero => cases H
      | succ k =>
        rw [event_Without_l0.eq_2] at H
        refine Wp_seq (Wp_region_lit (W_v (.bool (decide (x72 < (a1.length : Int)))) (x_ibin rfl rfl rfl rfl) rfl (Wl_nil (tn (Wp_seq ?_)))))
        rcases iteS H with ⟨hb110, H⟩ | ⟨hb110, H⟩
        · refine Wp_cond_true (congrArg Value.bool hb110) ?_
          refine Wp_skip (tn (Wp_seq ?_))
          refine Wp_block ?_
          refine Wp_seq (Wp_region_lit ?_)
          obtain ⟨⟨p111, p112⟩, H⟩ := chkS H
          obtain ⟨b113, o114, cs115, _, _, ee120, hb116, vs117, hR118, hc119⟩ := SlW.at' hr1 p111 p112
          obtain rfl : vs117 = _ := hR118
          refine W_v (.pointer (some ⟨b113, o114 + x72.toNat * 2, none⟩)) (x_indexAddr Try.underlying55 ty62 (slA ee120) rfl p111 p112) rfl (W_v (.agg #[.int .i64 ((rd a1 x72).Task), .int .i64 ((rd a1 x72).Call)]) (x_loadA (S.frz hb116) ty62 rfl (sub_el hc119 0 rfl) rfl rfl) rfl ?_)
          refine W_alloc S #[.int .i64 0, .int .i64 0] ty62 rfl rfl ?_
          intro b121 w122 E' S
          replace E := E.trans E'
          refine W_store S 0 rfl ty62 rfl rfl [.int .i64 ((rd a1 x72).Task), .int .i64 ((rd a1 x72).Call)] rfl rfl rfl #[.int .i64 ((rd a1 x72).Task), .int .i64 ((rd a1 x72).Call)] rfl rfl ?_
          intro w124 E' S
          replace E := E.trans E'
          refine Wl_nil (tn ?_)
          refine Wp_region_any (S := fun w' => ∃ Mx, M.le Mx ∧ St w' Mx F [Blk b121 (.cells #[.int .i64 ((rd a1 x72).Task), .int .i64 ((rd a1 x72).Call)] 62 (0, 0)), MapU enc_event_Place (Value.int .i64) A74 x73 (rd a1 x72) (0 : Int), Blk b4 (.cells #[.map (mb A74)] 80 (0, 0))]) (L := 6) mixed ?_
          intro w130 hw131 E'
          replace S := S.heap hw131
          replace E := E.trans E'
          refine Wa_take (i := 0) rfl (by kernel_rfl) rfl rfl (.map (mb A74)) rfl (fun w' h' => x_load (cls_blk h' 2 rfl) ty80 rfl rfl) (⟨M, Hp.le_refl M, (St.mapUc (S.pick [0, 1, 2] (by decide)) 1 rfl (rd a1 x72) (0 : Int))⟩) (Wa_take (i := 1) rfl (by kernel_rfl) rfl rfl (.agg #[.int .i64 ((rd a1 x72).Task), .int .i64 ((rd a1 x72).Call)]) rfl (fun w' h' => x_loadA (cls_blk h' 0 rfl) ty62 rfl (sub_of_extract rfl) rfl rfl) (⟨M, Hp.le_refl M, (St.mapUc (S.pick [0, 1, 2] (by decide)) 1 rfl (rd a1 x72) (0 : Int))⟩) (Wa_take (i := 2) rfl (by kernel_rfl) rfl rfl (.int .i64 ((mget x73 (rd a1 x72)).getD (0 : Int))) rfl (fun w' h' => Exists.elim h' fun Mx h9 => x_lookupU h9.2 1 rfl Try.underlying80 key62 (fun _ => ty3.zero) rfl rfl) (⟨M, Hp.le_refl M, (St.mapUc (S.pick [0, 1, 2] (by decide)) 1 rfl (rd a1 x72) (0 : Int))⟩) (Wa_take (i := 3) rfl (by kernel_rfl) rfl rfl (.int .i64 (IntKind.i64.wrap (((mget x73 (rd a1 x72)).getD (0 : Int)) + (1 : Int)))) rfl (fun w' h' => x_ibin rfl rfl rfl rfl) (⟨M, Hp.le_refl M, (St.mapUc (S.pick [0, 1, 2] (by decide)) 1 rfl (rd a1 x72) (0 : Int))⟩) ?_)))
          refine Wa_solo (i := 4) rfl (by kernel_rfl) ?_
          refine W_mapEntry S 1 rfl Try.underlying80 key62 (0 : Int) (fun _ => ty3.zero) (rd a1 x72) rfl rfl rfl ?_
          intro n132 w133 E' S
          replace E := E.trans E'
          replace S : St w133 M F [_, _, _] := S
          refine Wl_nil (on_n ⟨.inr ⟨M, Hp.le_refl M, (St.mapUe (S.pick [0, 1, 2] (by decide)) 1 rfl)⟩, ?_⟩)
          refine Wa_take (i := 5) rfl (by kernel_rfl) rfl rfl (.int .i64 (n132 : Int)) rfl (fun w' h' => x_extract rfl rfl) (⟨M, Hp.le_refl M, (St.mapUe (S.pick [0, 1, 2] (by decide)) 1 rfl)⟩) ?_
          refine Wa_solo (i := 6) rfl (by kernel_rfl) ?_
          obtain ⟨x135, he136, H⟩ := bindS H
          replace he136 := Option.some.inj he136
          refine W_entryStore S 1 rfl (IntKind.i64.wrap (((mget x73 (rd a1 x72)).getD (0 : Int)) + (1 : Int))) he136 rfl rfl rfl ?_
          intro w134 E' S
          replace E := E.trans E'
          replace S : St w134 M F [_, _, _] := S
          refine Wl_nil (on_n ⟨.inl (by decide), ?_⟩)
          refine Wa_done (by kernel_rfl) ?_
          refine bn (tn (Wp_region_lit (W_v (.int .i64 (IntKind.i64.wrap (x72 + (1 : Int)))) (x_ibin rfl rfl rfl rfl) rfl (W_v (.int .i64 (IntKind.i64.wrap (x72 + (1 : Int)))) (x_move rfl) rfl (Wl_nil (tn ?_))))))
          exact ⟨k, Nat.lt_succ_self k, ⟨(IntKind.i64.wrap (x72 + (1 : Int))), x135, A74, c75, H, ⟨rfl, rfl, rfl, rfl, rfl, trivial⟩, E, S.pick [1, 2] (by decide)⟩⟩
        refine Wp_cond_false (congrArg Value.bool hb110) ?_
        refine Wp_exit ?_
        refine tx (tx (bsm (?_)))
        refine tn ?_
        exact ⟨x73, A74, c75, Option.some.inj H, ⟨rfl, rfl, trivial⟩, E, S.pick [0, 1] (by decide)⟩
  rintro ρ w137 ⟨x104, A105, c106, rfl, hρ, E, S⟩
  rw [agree_eta hρ]
  have H := o108H
  refine tn ?_
  as_aux_lemma =>
  refine Wp_seq (Wp_region_lit (W_v (.slice A0 a0.length c0) (x_move rfl) rfl ?_))
  obtain ⟨t138, ht139, H⟩ := bindS H
  refine W_call fn37 (event_owned.con k M A0 c0 a0 t138 hr0 ht139) (Γ1 := []) (Γ2 := [_, _]) S rfl rfl ?_
  rintro _ w143 M144 Γ' hM145 E' S ⟨A140, c141, rfl, rfl⟩
  replace HM := Hp.le_trans HM hM145
  replace hr0 := SlR.mono hr0 hM145
  replace hr1 := SlR.mono hr1 hM145
  replace E := E.trans E'
  refine W_v (.func (.func 40) #[] #[pt b4 0]) (x_makeFunc rfl) rfl ?_
  obtain ⟨t146, ht147, H⟩ := bindS H
  replace S : St w143 M144 F [_, _, _] := S.pick [0, 2, 1] (by decide)
  refine W_callNst fn38 (fun h9 => slices_DeleteFunc_api_Event_api_Event_Sw_Without_1_K.con k h9 A140 c141 t138 A105 x104 b4 t146  ht147) (Γ1 := [_, _]) (Γ2 := []) (flat_cons flat_blk (flat_cons flat_map flat_nil)) (flat_cons flat_blk (flat_cons flat_map flat_nil)) S rfl rfl ?_
  intro A149 c150 w148 E' S
  replace E := E.trans E'
  replace S : St w148 M144 F [_, _, _] := S
  refine W_v (.slice A149 t146.length c150) (x_assign rfl) rfl (Wl_nil (tn (Wp_seq (Wp_seq (Wp_region_lit (W_v (.slice A149 t146.length c150) (x_move rfl) rfl (W_v (.int .i64 (t146.length : Int)) (x_len_slice (n := t146.length) Try.underlying22 rfl) rfl (W_v (.int .i64 0) (x_move rfl) rfl (Wl_nil (tn ?_))))))))))
  obtain ⟨o3147, o3147h, o3147H⟩ := bindS H
  refine Wp_blockJ (fun ρ w' => ∃ (x3143 : List api_Event) (A3144 : Option Addr) (c3145 : Nat), (x3143) = o3147 ∧ Agree ρ [(8, .slice A3144 x3143.length c3145)] ∧ Ext w w' ∧ St w' M144 F [Nst rw_api_Event 32 (.slice A3144 x3143.length c3145) x3143]) ?_ ?_
  · skip
    refine Wp_loop (fun n ρ w' => ∃ (x2146 : List api_Event) (x2150 : Int) (A2147 : Option Addr) (c2148 : Nat), event_Without_l3 x104 t146 n x2146 x2150 = some o3147 ∧ Agree ρ [(5, pt b4 0), (8, .slice A2147 x2146.length c2148), (30, .slice A2147 x2146.length c2148), (31, .int .i64 (t146.length : Int)), (32, .int .i64 x2150)] ∧ Ext w w' ∧ St w' M144 F [Nst rw_api_Event 32 (.slice A2147 x2146.length c2148) x2146, Blk b4 (.cells #[.map (mb A105)] 80 (0, 0)), MapC enc_event_Place (Value.int .i64) A105 x104]) k ?_ ?_
    · skip
      exact ⟨t146, (0 : Int), A149, c150, o3147h, ⟨rfl, rfl, rfl, rfl, rfl, trivial⟩, E, S.pick [0, 1, 2] (by decide)⟩
    · intro n
      rintro ρ w3148 ⟨x2146, x2150, A2147, c2148, H, hρ, E, S⟩
      rw [agree_eta hρ]
      cases n with
      | zero => cases H
      | succ k =>
        rw [event_Without_l3.eq_2] at H
        refine Wp_seq (Wp_region_lit (W_v (.bool (decide (x2150 < (t146.length : Int)))) (x_ibin rfl rfl rfl rfl) rfl (Wl_nil (tn (Wp_seq ?_)))))
        rcases iteS H with ⟨hb3149, H⟩ | ⟨hb3149, H⟩
        · refine Wp_cond_true (congrArg Value.bool hb3149) ?_
          refine Wp_skip (tn (Wp_seq ?_))
          refine Wp_block ?_
          refine Wp_seq (Wp_region_lit (W_v (.int .i64 x2150) (x_move rfl) rfl ?_))
          obtain ⟨⟨p3150, p3151⟩, H⟩ := chkS H
          obtain ⟨b3152, o3153, cs3154, _, _, ee3159, hb3155, vs3156, hR3157, hc3158⟩ := SlW.at' (S.nst_read 0 rfl) p3150 p3151
          obtain ⟨v3163, hs3162, rfl⟩ := hR3157
          obtain ⟨A3160, c3161, rfl, _⟩ := hs3162.form
          refine W_v (.pointer (some ⟨b3152, o3153 + x2150.toNat * 7, none⟩)) (x_indexAddr Try.underlying22 ty32 (slA ee3159) rfl p3150 p3151) rfl (W_v (.agg #[.int .u8 ((rd x2146 x2150).What), .int .i64 ((rd x2146 x2150).Task), .int .i64 ((rd x2146 x2150).Call), .int .i64 ((rd x2146 x2150).Answer.Err), .bool ((rd x2146 x2150).Answer.Found), .string (bs ((rd x2146 x2150).Answer.Value)), .slice A3160 ((rd x2146 x2150).Answer.Pairs).length c3161]) (x_loadA (Hp.of_get hb3155) ty32 rfl (sub_el hc3158 0 rfl) rfl rfl) rfl ?_)
          refine W_alloc S #[.int .u8 0, .int .i64 0, .int .i64 0, .int .i64 0, .bool false, .string (bs ([] : Str)), .slice none 0 0] ty32 rfl rfl ?_
          intro b3164 w3165 E' S
          replace E := E.trans E'
          refine W_v (.int .i64 x2150) (x_assign rfl) rfl ?_
          refine W_store S 0 rfl ty32 rfl rfl [.int .u8 ((rd x2146 x2150).What), .int .i64 ((rd x2146 x2150).Task), .int .i64 ((rd x2146 x2150).Call), .int .i64 ((rd x2146 x2150).Answer.Err), .bool ((rd x2146 x2150).Answer.Found), .string (bs ((rd x2146 x2150).Answer.Value)), .slice A3160 ((rd x2146 x2150).Answer.Pairs).length c3161] rfl rfl rfl #[.int .u8 ((rd x2146 x2150).What), .int .i64 ((rd x2146 x2150).Task), .int .i64 ((rd x2146 x2150).Call), .int .i64 ((rd x2146 x2150).Answer.Err), .bool ((rd x2146 x2150).Answer.Found), .string (bs ((rd x2146 x2150).Answer.Value)), .slice A3160 ((rd x2146 x2150).Answer.Pairs).length c3161] (by as_aux_lemma => kernel_rfl) rfl ?_
          intro w3167 E' S
          replace E := E.trans E'
          refine Wl_nil (tn (Wp_seq (Wp_region_lit (W_v (.map (mb A105)) (x_load (S.blk 2 rfl) ty80 rfl rfl) rfl ?_))))
          obtain ⟨hn3168, H⟩ := chkS H
          refine W_rangeM S 3 rfl Try.underlying80 hn3168 rfl rfl ?_
          intro b3169 w3170 E' S
          replace E := E.trans E'
          replace S : St w3170 M144 F [_, _, _, _] := S
          refine Wl_nil (tn ?_)
          obtain ⟨o3901, o3901h, o3901H⟩ := bindS H
          refine Wp_blockJ (fun ρ w' => ∃ (x3897 : List api_Event) (A3898 : Option Addr) (c3899 : Nat), (x3897) = o3901 ∧ Agree ρ [(5, pt b4 0), (8, .slice A3898 x3897.length c3899), (30, .slice A3898 x3897.length c3899), (31, .int .i64 (t146.length : Int)), (32, .int .i64 x2150)] ∧ Ext w w' ∧ St w' M144 F [Nst rw_api_Event 32 (.slice A3898 x3897.length c3899) x3897, Blk b4 (.cells #[.map (mb A105)] 80 (0, 0)), MapC enc_event_Place (Value.int .i64) A105 x104]) ?_ ?_
          · skip
            refine Wp_loop (fun n ρ w' => ∃ (x3655 : List api_Event) (x3659 : List event_Place) (A3656 : Option Addr) (c3657 : Nat), event_Without_l5 k x2146 x2150 n x3655 x3659 = some o3901 ∧ Agree ρ [(5, pt b4 0), (8, .slice A3656 x3655.length c3657), (9, .int .i64 x2150), (10, pt b3164 0), (30, .slice A3656 x3655.length c3657), (31, .int .i64 (t146.length : Int)), (32, .int .i64 x2150), (38, pt b3169 0)] ∧ Ext w w' ∧ St w' M144 F [Nst rw_api_Event 32 (.slice A3656 x3655.length c3657) x3655, B32 b3164 (rd x2146 x2150) A3160 c3161, Blk b4 (.cells #[.map (mb A105)] 80 (0, 0)), RangeM enc_event_Place (Value.int .i64) A105 b3169 x104 x3659 none]) k ?_ ?_
            · skip
              exact ⟨x2146, (x104.map fun p : event_Place × Int => p.1), A2147, c2148, o3901h, ⟨rfl, rfl, rfl, rfl, rfl, rfl, rfl, rfl, trivial⟩, E, S.pick [1, 0, 2, 3] (by decide)⟩
            · intro n
              rintro ρ w3902 ⟨x3655, x3659, A3656, c3657, H, hρ, E, S⟩
              rw [agree_eta hρ]
              cases n with
              | zero => cases H
              | succ kl =>
                refine Wp_seq (Wp_region_lit ?_)
                obtain ⟨hn3903a, hn3903b, hn3903c⟩ := S.rangeM_facts 3 rfl
                refine W_nextM S 3 rfl rfl rfl ?_ ?_
                · intro y3904 v3905 w3906 hy3908 hv3909 E' S
                  replace E := E.trans E'
                  rw [event_Without_l5.perm (permE hy3908) hn3903a hn3903b hn3903c, event_Without_l5.eq_2, onList_cons] at H
                  obtain rfl : v3905 = ((mget x104 y3904).getD (0 : Int)) := by rw [hv3909]; rfl
                  replace S : St w3906 M144 F [_, _, _, _] := S
                  refine W_v (.bool true) (x_extract rfl rfl) rfl (Wl_nil (tn (Wp_seq (Wp_cond_true rfl (Wp_skip (tn ?_))))))
                  obtain ⟨o4027, o4027h, o4027H⟩ := bindS H
                  refine Wp_cut (fun ρ w' => ∃ (x4023 : List api_Event) (A4024 : Option Addr) (c4025 : Nat), (x4023) = o4027 ∧ Agree ρ [(5, pt b4 0), (8, .slice A4024 x4023.length c4025), (9, .int .i64 x2150), (10, pt b3164 0), (30, .slice A4024 x4023.length c4025), (31, .int .i64 (t146.length : Int)), (32, .int .i64 x2150), (38, pt b3169 0)] ∧ Ext w w' ∧ St w' M144 F [Nst rw_api_Event 32 (.slice A4024 x4023.length c4025) x4023, B32 b3164 (rd x2146 x2150) A3160 c3161, Blk b4 (.cells #[.map (mb A105)] 80 (0, 0)), RangeM enc_event_Place (Value.int .i64) A105 b3169 x104 (er x3659 y3904) none]) ?_ ?_
                  · as_aux_lemma =>
                      clear o4027H
                      have H := o4027h
                      refine Wp_block ?_
                      refine Wp_seq (Wp_region_lit (W_v (.tuple #[enc_event_Place y3904, .int .i64 ((mget x104 y3904).getD (0 : Int))]) (x_entryM S 3 rfl hv3909 rfl) rfl ?_))
                      replace S := S.rangeM_seen 3 rfl
                      replace S : St w3906 M144 F [_, _, _, _] := S
                      refine W_v (.agg #[.int .i64 y3904.Task, .int .i64 y3904.Call]) (x_extract rfl rfl) rfl ?_
                      refine W_alloc S #[.int .i64 0, .int .i64 0] ty62 rfl rfl ?_
                      intro b4028 w4029 E' S
                      replace E := E.trans E'
                      refine W_store S 0 rfl ty62 rfl rfl [.int .i64 y3904.Task, .int .i64 y3904.Call] rfl rfl rfl #[.int .i64 y3904.Task, .int .i64 y3904.Call] rfl rfl ?_
                      intro w4031 E' S
                      replace E := E.trans E'
                      refine Wl_nil (tn (Wp_seq (Wp_region_lit (W_v (pt b4028 0) (x_fieldAddr (o := 0) (off := 0) Try.underlying62 rfl ty3 rfl rfl) rfl (W_v (.int .i64 y3904.Task) (x_load (S.blk 0 rfl) ty3 rfl rfl) rfl (W_v (pt b3164 1) (x_fieldAddr (o := 0) (off := 1) Try.underlying32 rfl ty3 rfl rfl) rfl (W_v (.int .i64 ((rd x2146 x2150).Task)) (x_load (S.blk 2 rfl) ty3 rfl rfl) rfl (W_v (.bool (y3904.Task == (rd x2146 x2150).Task)) (x_ibin rfl rfl rfl rfl) rfl (W_v (.bool (y3904.Task == (rd x2146 x2150).Task)) (x_move rfl) rfl ?_)))))))))
                      refine Wl_cutN 4 (fun ρ w' => Agree ρ [(5, pt b4 0), (8, .slice A3656 x3655.length c3657), (9, .int .i64 x2150), (10, pt b3164 0), (11, pt b4028 0), (30, .slice A3656 x3655.length c3657), (31, .int .i64 (t146.length : Int)), (32, .int .i64 x2150), (38, pt b3169 0), (52, .bool ((y3904.Task == (rd x2146 x2150).Task) && (decide (y3904.Call ≥ (0 : Int)))))] ∧ w4031 = w') ?_ ?_
                      · rcases boolCases (y3904.Task == (rd x2146 x2150).Task) with hb4032 | hb4032
                        · skip
                          refine W_no (skT hb4032) rfl (W_no (skT hb4032) rfl (W_no (skT hb4032) rfl (W_v (.bool false) (x_pick (k := false) (congrArg Value.bool hb4032) rfl) rfl (Wl_nil ?_))))
                          exact ⟨⟨rfl, rfl, rfl, rfl, rfl, rfl, rfl, rfl, rfl, (by first | rfl | (rw [hb4032]; rfl) | (simp only [hb4032]; rfl)), trivial⟩, rfl⟩
                        · skip
                          refine W_yes (congrArg some hb4032) (W_v (pt b4028 1) (x_fieldAddr (o := 0) (off := 1) Try.underlying62 rfl ty3 rfl rfl) rfl (W_yes (congrArg some hb4032) (W_v (.int .i64 y3904.Call) (x_load (S.blk 0 rfl) ty3 rfl rfl) rfl (W_yes (congrArg some hb4032) (W_v (.bool (decide (y3904.Call ≥ (0 : Int)))) (x_ibin rfl rfl rfl rfl) rfl (W_v (.bool (decide (y3904.Call ≥ (0 : Int)))) (x_pick (k := true) (congrArg Value.bool hb4032) rfl) rfl (Wl_nil ?_)))))))
                          exact ⟨⟨rfl, rfl, rfl, rfl, rfl, rfl, rfl, rfl, rfl, (by first | rfl | (rw [hb4032]; rfl) | (simp only [hb4032]; rfl)), trivial⟩, rfl⟩
                      as_aux_lemma =>
                      rintro ρ _ ⟨hρ, rfl⟩
                      rw [agree_eta hρ]
                      refine W_v (.bool ((y3904.Task == (rd x2146 x2150).Task) && (decide (y3904.Call ≥ (0 : Int))))) (x_move rfl) rfl ?_
                      refine Wl_cutN 6 (fun ρ w' => Agree ρ [(5, pt b4 0), (8, .slice A3656 x3655.length c3657), (9, .int .i64 x2150), (10, pt b3164 0), (30, .slice A3656 x3655.length c3657), (31, .int .i64 (t146.length : Int)), (32, .int .i64 x2150), (38, pt b3169 0), (59, .bool (((y3904.Task == (rd x2146 x2150).Task) && (decide (y3904.Call ≥ (0 : Int)))) && (decide (y3904.Call < (rd x2146 x2150).Call))))] ∧ w4031 = w') ?_ ?_
                      · rcases boolCases ((y3904.Task == (rd x2146 x2150).Task) && (decide (y3904.Call ≥ (0 : Int)))) with hb4033 | hb4033
                        · skip
                          refine W_no (skT hb4033) rfl (W_no (skT hb4033) rfl (W_no (skT hb4033) rfl (W_no (skT hb4033) rfl (W_no (skT hb4033) rfl (W_v (.bool false) (x_pick (k := false) (congrArg Value.bool hb4033) rfl) rfl (Wl_nil ?_))))))
                          exact ⟨⟨rfl, rfl, rfl, rfl, rfl, rfl, rfl, rfl, (by first | rfl | (rw [hb4033]; rfl) | (simp only [hb4033]; rfl)), trivial⟩, rfl⟩
                        · skip
                          refine W_yes (congrArg some hb4033) (W_v (pt b4028 1) (x_fieldAddr (o := 0) (off := 1) Try.underlying62 rfl ty3 rfl rfl) rfl (W_yes (congrArg some hb4033) (W_v (.int .i64 y3904.Call) (x_load (S.blk 0 rfl) ty3 rfl rfl) rfl (W_yes (congrArg some hb4033) (W_v (pt b3164 2) (x_fieldAddr (o := 0) (off := 2) Try.underlying32 rfl ty3 rfl rfl) rfl (W_yes (congrArg some hb4033) (W_v (.int .i64 ((rd x2146 x2150).Call)) (x_load (S.blk 2 rfl) ty3 rfl rfl) rfl (W_yes (congrArg some hb4033) (W_v (.bool (decide (y3904.Call < (rd x2146 x2150).Call))) (x_ibin rfl rfl rfl rfl) rfl (W_v (.bool (decide (y3904.Call < (rd x2146 x2150).Call))) (x_pick (k := true) (congrArg Value.bool hb4033) rfl) rfl (Wl_nil ?_)))))))))))
                          exact ⟨⟨rfl, rfl, rfl, rfl, rfl, rfl, rfl, rfl, (by first | rfl | (rw [hb4033]; rfl) | (simp only [hb4033]; rfl)), trivial⟩, rfl⟩
                      as_aux_lemma =>
                      rintro ρ _ ⟨hρ, rfl⟩
                      rw [agree_eta hρ]
                      refine Wl_nil (tn ?_)
                      obtain ⟨o4104, o4104h, o4104H⟩ := bindS H
                      refine Wp_cut (fun ρ w' => ∃ (x4100 : List api_Event) (A4101 : Option Addr) (c4102 : Nat), (x4100) = o4104 ∧ Agree ρ [(5, pt b4 0), (8, .slice A4101 x4100.length c4102), (9, .int .i64 x2150), (10, pt b3164 0), (30, .slice A4101 x4100.length c4102), (31, .int .i64 (t146.length : Int)), (32, .int .i64 x2150), (38, pt b3169 0)] ∧ Ext w w' ∧ St w' M144 F [Nst rw_api_Event 32 (.slice A4101 x4100.length c4102) x4100, B32 b3164 (rd x2146 x2150) A3160 c3161, Blk b4 (.cells #[.map (mb A105)] 80 (0, 0)), RangeM enc_event_Place (Value.int .i64) A105 b3169 x104 (er x3659 y3904) none]) ?_ ?_
                      · clear o4104H
                        have H := o4104h
                        rcases iteS H with ⟨hb4105, H⟩ | ⟨hb4105, H⟩
                        · refine Wp_cond_true (congrArg Value.bool hb4105) ?_
                          refine Wp_region_lit (W_v (.slice A3656 x3655.length c3657) (x_move rfl) rfl (W_v (.int .i64 x2150) (x_move rfl) rfl ?_))
                          obtain ⟨⟨p4106, p4107⟩, H⟩ := chkS H
                          obtain ⟨b4108, o4109, cs4110, _, _, ee4115, hb4111, vs4112, hR4113, hc4114⟩ := SlW.at' (S.nst_read 1 rfl) p4106 p4107
                          obtain ⟨v4119, hs4118, rfl⟩ := hR4113
                          obtain ⟨A4116, c4117, rfl, _⟩ := hs4118.form
                          refine W_v (.pointer (some ⟨b4108, o4109 + x2150.toNat * 7, none⟩)) (x_indexAddr Try.underlying22 ty32 (slA ee4115) rfl p4106 p4107) rfl (W_v (.pointer (some ⟨b4108, o4109 + x2150.toNat * 7 + 2, none⟩)) (x_fieldAddr (o := o4109 + x2150.toNat * 7) (off := 2) Try.underlying32 rfl ty3 rfl rfl) rfl (W_v (.int .i64 ((rd x3655 x2150).Call)) (x_load (Hp.of_get hb4111) ty3 rfl (hc4114 2 _ rfl)) rfl (W_v (.int .i64 (IntKind.i64.wrap ((rd x3655 x2150).Call - (1 : Int)))) (x_ibin rfl rfl rfl rfl) rfl ?_)))
                          obtain ⟨⟨p4120, p4121⟩, H⟩ := chkS H
                          obtain ⟨b4122, o4123, cs4124, _, _, ee4129, hb4125, vs4126, hR4127, hc4128⟩ := SlW.at' (S.nst_read 1 rfl) p4120 p4121
                          obtain ⟨v4133, hs4132, rfl⟩ := hR4127
                          obtain ⟨A4130, c4131, rfl, _⟩ := hs4132.form
                          refine W_v (.pointer (some ⟨b4122, o4123 + x2150.toNat * 7, none⟩)) (x_indexAddr Try.underlying22 ty32 (slA ee4129) rfl p4120 p4121) rfl (W_v (.pointer (some ⟨b4122, o4123 + x2150.toNat * 7 + 2, none⟩)) (x_fieldAddr (o := o4123 + x2150.toNat * 7) (off := 2) Try.underlying32 rfl ty3 rfl rfl) rfl ?_)
                          obtain ⟨x4135, he4136, H⟩ := bindS H
                          replace he4136 := Option.some.inj he4136
                          refine W_nrowstore S 1 rfl rfl ee4129 (by first | exact p4120 | simpa using p4120) (by first | exact p4121 | simpa using p4121) 2 ty3 rfl rfl [.int .i64 (IntKind.i64.wrap ((rd x3655 x2150).Call - (1 : Int)))] rfl rfl rfl rfl (⟨(rd x3655 x2150).What, (rd x3655 x2150).Task, (IntKind.i64.wrap ((rd x3655 x2150).Call - (1 : Int))), ⟨(rd x3655 x2150).Answer.Err, (rd x3655 x2150).Answer.Found, (rd x3655 x2150).Answer.Value, (rd x3655 x2150).Answer.Pairs⟩⟩ : api_Event) (by rintro _ _ ⟨_, h6, rfl⟩; exact ⟨_, h6, rfl⟩) he4136 ?_
                          intro w4134 E' S
                          replace E := E.trans E'
                          have hs4137 : Value.slice A3656 x3655.length c3657 = Value.slice A3656 x4135.length c3657 := by rw [← he4136, List.length_set]
                          try unfold B32 at S
                          try rw [hs4137] at S
                          try rw [hs4137]
                          refine Wl_nil (tn ?_)
                          exact ⟨x4135, A3656, c3657, Option.some.inj H, ⟨rfl, rfl, rfl, rfl, rfl, rfl, rfl, rfl, trivial⟩, E, S.pick [1, 2, 3, 4] (by decide)⟩
                        refine Wp_cond_false (congrArg Value.bool hb4105) (Wp_skip (tn ?_))
                        exact ⟨x3655, A3656, c3657, Option.some.inj H, ⟨rfl, rfl, rfl, rfl, rfl, rfl, rfl, rfl, trivial⟩, E, S.pick [1, 2, 3, 4] (by decide)⟩
                      rintro ρ w4138 ⟨x4100, A4101, c4102, rfl, hρ, E, S⟩
                      rw [agree_eta hρ]
                      have H := o4104H
                      refine bn (tn ?_)
                      exact ⟨x4100, A4101, c4102, Option.some.inj H, ⟨rfl, rfl, rfl, rfl, rfl, rfl, rfl, rfl, trivial⟩, E, S.pick [0, 1, 2, 3] (by decide)⟩
                  rintro ρ w4139 ⟨x4023, A4024, c4025, rfl, hρ, E, S⟩
                  rw [agree_eta hρ]
                  have H := o4027H
                  refine tn ?_
                  exact ⟨kl, Nat.lt_succ_self kl, ⟨x4023, (er x3659 y3904), A4024, c4025, H, ⟨rfl, rfl, rfl, rfl, rfl, rfl, rfl, rfl, trivial⟩, E, S.pick [0, 1, 2, 3] (by decide)⟩⟩
                · intro w3907 ht3910 E' S
                  replace E := E.trans E'
                  rw [ht3910, event_Without_l5.eq_2, onList_nil] at H
                  replace S := S.rangeM_end 3 rfl
                  replace S : St w3907 M144 F [_, _, _, _] := S
                  refine W_v (.bool false) (x_extract rfl rfl) rfl (Wl_nil (tn (Wp_seq (Wp_cond_false rfl ?_))))
                  refine Wp_exit ?_
                  refine tx (tx (bsm (?_)))
                  refine tn ?_
                  exact ⟨x3655, A3656, c3657, Option.some.inj H, ⟨rfl, rfl, rfl, rfl, rfl, trivial⟩, E, S.pick [0, 2, 3] (by decide)⟩
          rintro ρ w4140 ⟨x3897, A3898, c3899, rfl, hρ, E, S⟩
          rw [agree_eta hρ]
          have H := o3901H
          refine bn (tn (Wp_region_lit (W_v (.int .i64 (IntKind.i64.wrap (x2150 + (1 : Int)))) (x_ibin rfl rfl rfl rfl) rfl (W_v (.int .i64 (IntKind.i64.wrap (x2150 + (1 : Int)))) (x_move rfl) rfl (Wl_nil (tn ?_))))))
          exact ⟨k, Nat.lt_succ_self k, ⟨x3897, (IntKind.i64.wrap (x2150 + (1 : Int))), A3898, c3899, H, ⟨rfl, rfl, rfl, rfl, rfl, trivial⟩, E, S.pick [0, 1, 2] (by decide)⟩⟩
        refine Wp_cond_false (congrArg Value.bool hb3149) ?_
        refine Wp_exit ?_
        refine tx (tx (bsm (?_)))
        refine tn ?_
        exact ⟨x2146, A2147, c2148, Option.some.inj H, ⟨rfl, trivial⟩, E, S.pick [0] (by decide)⟩
  rintro ρ w4141 ⟨x3143, A3144, c3145, rfl, hρ, E, S⟩
  rw [agree_eta hρ]
  have H := o3147H
  refine tn ?_
  as_aux_lemma =>
  refine Wp_seq (Wp_region_lit (W_v (.slice A3144 x3143.length c3145) (x_move rfl) rfl (W_v (.slice A3144 x3143.length c3145) (x_assign rfl) rfl (Wl_nil (tn ?_)))))
  refine Wp_ret ?_
  obtain rfl := Option.some.inj H
  exact ⟨_, _, _, fun w1 e1 => run_resR (vs := [.slice A3144 x3143.length c3145]) (FA.cons (rfl) (FA.nil)), HM, E, S.pick [0] (by decide), ⟨A3144, c3145, rfl, rfl⟩⟩
def event_Recorder_Invoke_POO (k : Nat) (a0 : event_Recorder) (a1 : Int) : Option (Int × event_Recorder) :=
  (Option.bind (event_Recorder_put_POO k a0 a1 (0 : Int) (⟨(1 : Int), (0 : Int), (0 : Int), ⟨(0 : Int), false, ([] : Str), ([] : (List api_Pair))⟩⟩ : api_Event)) (fun t1 => some (t1.1, t1.2)))
set_option maxHeartbeats 2000000 in
theorem event_Recorder_Invoke_POO.mono {k : Nat} {a0 : event_Recorder} {a1 : Int} : OLe (event_Recorder_Invoke_POO k a0 a1) (event_Recorder_Invoke_POO (k + 1) a0 a1) := by
  unfold event_Recorder_Invoke_POO
  repeat' (first | with_reducible exact OLe.none | with_reducible exact OLe.some | with_reducible refine OLe.ite ?_ ?_ | with_reducible refine OLe.bind ?_ (fun _ => ?_) | with_reducible exact event_Recorder_put_POO.mono | refine OLe.bind ?_ (fun _ => ?_) | refine OLe.ite ?_ ?_ | refine OLe.elim (fun _ => ?_) (fun _ => ?_) | split)
set_option maxHeartbeats 4000000 in
set_option maxRecDepth 100000 in
theorem event_Recorder_Invoke_POO.con (k : Nat) (M : Hp) (A0_0 : Option Addr) (c0_0 : Nat) (A0_1 : Option Addr) (c0_1 : Nat) (a0 : event_Recorder) (a1 : Int) (bo0 : Nat) (r : Int × event_Recorder)  (h : event_Recorder_Invoke_POO k a0 a1 = some r) : Con Try.prog 30 #[pt bo0 0, .int .i64 a1] M [Blk bo0 (.cells #[.slice A0_0 a0.tasks.length c0_0, .slice A0_1 a0.l.length c0_1] 73 (0, 0)), Row r_event_task 70 (.slice A0_0 a0.tasks.length c0_0) a0.tasks, Row r_api_Event 32 (.slice A0_1 a0.l.length c0_1) a0.l] (fun v M' Γ' => ∃ (Aq1 : Option Addr) (cq2 : Nat) (Aq4 : Option Addr) (cq5 : Nat), v = .int .i64 r.1 ∧ Γ' = [Blk bo0 (.cells #[.slice Aq1 r.2.tasks.length cq2, .slice Aq4 r.2.l.length cq5] 73 (0, 0)), Row r_event_task 70 (.slice Aq1 r.2.tasks.length cq2) r.2.tasks, Row r_api_Event 32 (.slice Aq4 r.2.l.length cq5) r.2.l]) := by
  refine con_of_wp Try.func30 rfl Try.ntmps30 Try.results30 rfl ?_
  intro w F rn S hrn
  have E := Ext.refl w
  have HM := Hp.le_refl M
  have H := h
  unfold event_Recorder_Invoke_POO at H
  refine Wp_seq (Wp_region_lit (W_v (.int .i64 0) (x_assign rfl) rfl (Wl_nil (tn (Wp_seq (Wp_region_lit (W_v (pt bo0 0) (x_move rfl) rfl (W_v (.int .i64 a1) (x_move rfl) rfl (W_v (.agg #[.int .u8 1, .int .i64 0, .int .i64 0, .int .i64 0, .bool false, .string (bs ([] : Str)), .slice none 0 0]) (x_build2 (pl := [(0, 1), (1, 1), (2, 1), (3, 4)]) #[.int .u8 1, .int .i64 0, .int .i64 0, .int .i64 0, .bool false, .string (bs ([] : Str)), .slice none 0 0] Try.underlying32 ty32 (by as_aux_lemma => kernel_rfl) rfl (by as_aux_lemma => kernel_rfl)) rfl ?_)))))))))
  obtain ⟨t1, ht2, H⟩ := bindS H
  refine W_call fn34 (event_Recorder_put_POO.con k M A0_0 c0_0 A0_1 c0_1 a0 a1 (0 : Int) none 0 (⟨(1 : Int), (0 : Int), (0 : Int), ⟨(0 : Int), false, ([] : Str), ([] : (List api_Pair))⟩⟩ : api_Event) bo0 t1 (SlW.nil _ _) ht2) (Γ1 := [_, _, _]) (Γ2 := []) S rfl rfl ?_
  rintro _ w9 M10 Γ' hM11 E' S ⟨A3, c4, A6, c7, rfl, rfl⟩
  replace HM := Hp.le_trans HM hM11
  replace E := E.trans E'
  replace S : St w9 M10 F [_, _, _] := S
  refine W_v (.int .i64 t1.1) (x_assign rfl) rfl (Wl_nil (tn ?_))
  refine Wp_ret ?_
  obtain rfl := Option.some.inj H
  exact ⟨_, _, _, fun w1 e1 => run_resR (vs := [.int .i64 t1.1]) (FA.cons (rfl) (FA.nil)), HM, E, S.pick [0, 1, 2] (by decide), ⟨A3, c4, A6, c7, rfl, rfl⟩⟩
def event_Recorder_Return_POO (k : Nat) (a0 : event_Recorder) (a1 : Int) (a2 : api_Answer) : Option (Int × event_Recorder) :=
  (Option.bind (event_Recorder_put_POO k a0 a1 (2 : Int) (⟨(3 : Int), (0 : Int), (0 : Int), ⟨a2.Err, a2.Found, a2.Value, a2.Pairs⟩⟩ : api_Event)) (fun t4 => some (t4.1, t4.2)))
set_option maxHeartbeats 2000000 in
theorem event_Recorder_Return_POO.mono {k : Nat} {a0 : event_Recorder} {a1 : Int} {a2 : api_Answer} : OLe (event_Recorder_Return_POO k a0 a1 a2) (event_Recorder_Return_POO (k + 1) a0 a1 a2) := by
  unfold event_Recorder_Return_POO
  repeat' (first | with_reducible exact OLe.none | with_reducible exact OLe.some | with_reducible refine OLe.ite ?_ ?_ | with_reducible refine OLe.bind ?_ (fun _ => ?_) | with_reducible exact event_Recorder_put_POO.mono | refine OLe.bind ?_ (fun _ => ?_) | refine OLe.ite ?_ ?_ | refine OLe.elim (fun _ => ?_) (fun _ => ?_) | split)
set_option maxHeartbeats 4000000 in
set_option maxRecDepth 100000 in
theorem event_Recorder_Return_POO.con (k : Nat) (M : Hp) (A0_0 : Option Addr) (c0_0 : Nat) (A0_1 : Option Addr) (c0_1 : Nat) (a0 : event_Recorder) (a1 : Int) (A2_0 : Option Addr) (c2_0 : Nat) (a2 : api_Answer) (bo0 : Nat) (r : Int × event_Recorder) (hr2_0 : SlR r_api_Pair M (.slice A2_0 a2.Pairs.length c2_0) a2.Pairs) (h : event_Recorder_Return_POO k a0 a1 a2 = some r) : Con Try.prog 32 #[pt bo0 0, .int .i64 a1, .agg #[.int .i64 a2.Err, .bool a2.Found, .string (bs a2.Value), .slice A2_0 a2.Pairs.length c2_0]] M [Blk bo0 (.cells #[.slice A0_0 a0.tasks.length c0_0, .slice A0_1 a0.l.length c0_1] 73 (0, 0)), Row r_event_task 70 (.slice A0_0 a0.tasks.length c0_0) a0.tasks, Row r_api_Event 32 (.slice A0_1 a0.l.length c0_1) a0.l] (fun v M' Γ' => ∃ (Aq1 : Option Addr) (cq2 : Nat) (Aq4 : Option Addr) (cq5 : Nat), v = .int .i64 r.1 ∧ Γ' = [Blk bo0 (.cells #[.slice Aq1 r.2.tasks.length cq2, .slice Aq4 r.2.l.length cq5] 73 (0, 0)), Row r_event_task 70 (.slice Aq1 r.2.tasks.length cq2) r.2.tasks, Row r_api_Event 32 (.slice Aq4 r.2.l.length cq5) r.2.l]) := by
  refine con_of_wp Try.func32 rfl Try.ntmps32 Try.results32 rfl ?_
  intro w F rn S hrn
  have E := Ext.refl w
  have HM := Hp.le_refl M
  have H := h
  unfold event_Recorder_Return_POO at H
  refine Wp_seq (Wp_region_lit ?_)
  refine W_box S #[.int .i64 a2.Err, .bool a2.Found, .string (bs a2.Value), .slice A2_0 a2.Pairs.length c2_0] rfl rfl rfl ?_
  intro b1 w2 E' S
  replace E := E.trans E'
  refine W_v (.int .i64 0) (x_assign rfl) rfl (Wl_nil (tn (Wp_seq (Wp_region_lit (W_v (pt bo0 0) (x_move rfl) rfl (W_v (.int .i64 a1) (x_move rfl) rfl (W_v (.agg #[.int .i64 a2.Err, .bool a2.Found, .string (bs a2.Value), .slice A2_0 a2.Pairs.length c2_0]) (x_loadA (S.blk 0 rfl) ty30 rfl (sub_of_extract rfl) rfl rfl) rfl (W_v (.agg #[.int .u8 3, .int .i64 0, .int .i64 0, .int .i64 a2.Err, .bool a2.Found, .string (bs a2.Value), .slice A2_0 a2.Pairs.length c2_0]) (x_build2 (pl := [(0, 1), (1, 1), (2, 1), (3, 4)]) #[.int .u8 3, .int .i64 0, .int .i64 0, .int .i64 a2.Err, .bool a2.Found, .string (bs a2.Value), .slice A2_0 a2.Pairs.length c2_0] Try.underlying32 ty32 (by as_aux_lemma => kernel_rfl) rfl (by as_aux_lemma => kernel_rfl)) rfl ?_))))))))
  obtain ⟨t4, ht5, H⟩ := bindS H
  replace S : St w2 M F [_, _, _, _] := S.pick [1, 2, 3, 0] (by decide)
  refine W_call fn34 (event_Recorder_put_POO.con k M A0_0 c0_0 A0_1 c0_1 a0 a1 (2 : Int) A2_0 c2_0 (⟨(3 : Int), (0 : Int), (0 : Int), ⟨a2.Err, a2.Found, a2.Value, a2.Pairs⟩⟩ : api_Event) bo0 t4 hr2_0 ht5) (Γ1 := [_, _, _]) (Γ2 := [_]) S rfl rfl ?_
  rintro _ w12 M13 Γ' hM14 E' S ⟨A6, c7, A9, c10, rfl, rfl⟩
  replace HM := Hp.le_trans HM hM14
  replace hr2_0 := SlR.mono hr2_0 hM14
  replace E := E.trans E'
  replace S : St w12 M13 F [_, _, _, _] := S
  refine W_v (.int .i64 t4.1) (x_assign rfl) rfl (Wl_nil (tn ?_))
  refine Wp_ret ?_
  obtain rfl := Option.some.inj H
  exact ⟨_, _, _, fun w1 e1 => run_resR (vs := [.int .i64 t4.1]) (FA.cons (rfl) (FA.nil)), HM, E, S.pick [0, 1, 2] (by decide), ⟨A6, c7, A9, c10, rfl, rfl⟩⟩
def event_Recorder_Mark_POO (k : Nat) (a0 : event_Recorder) (a1 : Int) : Option (Int × event_Recorder) :=
  (Option.bind (event_Recorder_put_POO k a0 a1 (1 : Int) (⟨(2 : Int), (0 : Int), (0 : Int), ⟨(0 : Int), false, ([] : Str), ([] : (List api_Pair))⟩⟩ : api_Event)) (fun t1 => some (t1.1, t1.2)))
set_option maxHeartbeats 2000000 in
theorem event_Recorder_Mark_POO.mono {k : Nat} {a0 : event_Recorder} {a1 : Int} : OLe (event_Recorder_Mark_POO k a0 a1) (event_Recorder_Mark_POO (k + 1) a0 a1) := by
  unfold event_Recorder_Mark_POO
  repeat' (first | with_reducible exact OLe.none | with_reducible exact OLe.some | with_reducible refine OLe.ite ?_ ?_ | with_reducible refine OLe.bind ?_ (fun _ => ?_) | with_reducible exact event_Recorder_put_POO.mono | refine OLe.bind ?_ (fun _ => ?_) | refine OLe.ite ?_ ?_ | refine OLe.elim (fun _ => ?_) (fun _ => ?_) | split)
set_option maxHeartbeats 4000000 in
set_option maxRecDepth 100000 in
theorem event_Recorder_Mark_POO.con (k : Nat) (M : Hp) (A0_0 : Option Addr) (c0_0 : Nat) (A0_1 : Option Addr) (c0_1 : Nat) (a0 : event_Recorder) (a1 : Int) (bo0 : Nat) (r : Int × event_Recorder)  (h : event_Recorder_Mark_POO k a0 a1 = some r) : Con Try.prog 31 #[pt bo0 0, .int .i64 a1] M [Blk bo0 (.cells #[.slice A0_0 a0.tasks.length c0_0, .slice A0_1 a0.l.length c0_1] 73 (0, 0)), Row r_event_task 70 (.slice A0_0 a0.tasks.length c0_0) a0.tasks, Row r_api_Event 32 (.slice A0_1 a0.l.length c0_1) a0.l] (fun v M' Γ' => ∃ (Aq1 : Option Addr) (cq2 : Nat) (Aq4 : Option Addr) (cq5 : Nat), v = .int .i64 r.1 ∧ Γ' = [Blk bo0 (.cells #[.slice Aq1 r.2.tasks.length cq2, .slice Aq4 r.2.l.length cq5] 73 (0, 0)), Row r_event_task 70 (.slice Aq1 r.2.tasks.length cq2) r.2.tasks, Row r_api_Event 32 (.slice Aq4 r.2.l.length cq5) r.2.l]) := by
  refine con_of_wp Try.func31 rfl Try.ntmps31 Try.results31 rfl ?_
  intro w F rn S hrn
  have E := Ext.refl w
  have HM := Hp.le_refl M
  have H := h
  unfold event_Recorder_Mark_POO at H
  refine Wp_seq (Wp_region_lit (W_v (.int .i64 0) (x_assign rfl) rfl (Wl_nil (tn (Wp_seq (Wp_region_lit (W_v (pt bo0 0) (x_move rfl) rfl (W_v (.int .i64 a1) (x_move rfl) rfl (W_v (.agg #[.int .u8 2, .int .i64 0, .int .i64 0, .int .i64 0, .bool false, .string (bs ([] : Str)), .slice none 0 0]) (x_build2 (pl := [(0, 1), (1, 1), (2, 1), (3, 4)]) #[.int .u8 2, .int .i64 0, .int .i64 0, .int .i64 0, .bool false, .string (bs ([] : Str)), .slice none 0 0] Try.underlying32 ty32 (by as_aux_lemma => kernel_rfl) rfl (by as_aux_lemma => kernel_rfl)) rfl ?_)))))))))
  obtain ⟨t1, ht2, H⟩ := bindS H
  refine W_call fn34 (event_Recorder_put_POO.con k M A0_0 c0_0 A0_1 c0_1 a0 a1 (1 : Int) none 0 (⟨(2 : Int), (0 : Int), (0 : Int), ⟨(0 : Int), false, ([] : Str), ([] : (List api_Pair))⟩⟩ : api_Event) bo0 t1 (SlW.nil _ _) ht2) (Γ1 := [_, _, _]) (Γ2 := []) S rfl rfl ?_
  rintro _ w9 M10 Γ' hM11 E' S ⟨A3, c4, A6, c7, rfl, rfl⟩
  replace HM := Hp.le_trans HM hM11
  replace E := E.trans E'
  replace S : St w9 M10 F [_, _, _] := S
  refine W_v (.int .i64 t1.1) (x_assign rfl) rfl (Wl_nil (tn ?_))
  refine Wp_ret ?_
  obtain rfl := Option.some.inj H
  exact ⟨_, _, _, fun w1 e1 => run_resR (vs := [.int .i64 t1.1]) (FA.cons (rfl) (FA.nil)), HM, E, S.pick [0, 1, 2] (by decide), ⟨A3, c4, A6, c7, rfl, rfl⟩⟩
def event_owned_AO_l0 (a0 : (List api_Event)) : Nat → List api_Event → Int → Option ((List api_Event))
  | 0, _, _ => none
  | k + 1, x78, x82 => (if (decide (x82 < (a0.length : Int))) = true then (if 0 ≤ x82 ∧ x82 < (a0.length : Int) then (Option.bind (event_own k (rd a0 x82)) (fun t142 => (if x78.length + ([t142] : List api_Event).length ≤ 1759218604441 then event_owned_AO_l0 a0 k (x78 ++ ([t142] : List api_Event)) (IntKind.i64.wrap (x82 + (1 : Int))) else none))) else none) else some (x78))
set_option maxHeartbeats 2000000 in
theorem event_owned_AO_l0.mono {a0 : (List api_Event)} : ∀ {kl : Nat} {x0 x1}, OLe (event_owned_AO_l0 a0 kl x0 x1) (event_owned_AO_l0 a0 (kl + 1) x0 x1) := by
  intro kl
  induction kl with
  | zero => intros; exact OLe.none
  | succ kl ih =>
    intros
    rw [event_owned_AO_l0.eq_2, event_owned_AO_l0.eq_2]
    repeat' (first | with_reducible exact OLe.none | with_reducible exact OLe.some | with_reducible refine OLe.ite ?_ ?_ | with_reducible refine OLe.bind ?_ (fun _ => ?_) | with_reducible exact event_own.mono | exact ih | refine OLe.bind ?_ (fun _ => ?_) | refine OLe.ite ?_ ?_ | refine OLe.elim (fun _ => ?_) (fun _ => ?_) | split)
def event_owned_AO (k : Nat) (a0 : (List api_Event)) : Option ((List api_Event)) :=
  (Option.bind (event_owned_AO_l0 a0 k ([] : List api_Event) (0 : Int)) (fun x116 => some x116))
set_option maxHeartbeats 2000000 in
theorem event_owned_AO.mono {k : Nat} {a0 : (List api_Event)} : OLe (event_owned_AO k a0) (event_owned_AO (k + 1) a0) := by
  unfold event_owned_AO
  repeat' (first | with_reducible exact OLe.none | with_reducible exact OLe.some | with_reducible refine OLe.ite ?_ ?_ | with_reducible refine OLe.bind ?_ (fun _ => ?_) | with_reducible exact event_owned_AO_l0.mono | refine OLe.bind ?_ (fun _ => ?_) | refine OLe.ite ?_ ?_ | refine OLe.elim (fun _ => ?_) (fun _ => ?_) | split)
set_option maxHeartbeats 4000000 in
set_option maxRecDepth 100000 in
theorem event_owned_AO.con (k : Nat) (M : Hp) (A0 : Option Addr) (c0 : Nat) (a0 : (List api_Event)) (r : (List api_Event))  (h : event_owned_AO k a0 = some r) : Con Try.prog 37 #[.slice A0 a0.length c0] M [Row r_api_Event 32 (.slice A0 a0.length c0) a0] (fun v M' Γ' => ∃ (Aq1 : Option Addr) (cq2 : Nat), v = .slice Aq1 r.length cq2 ∧ Γ' = [Nst rw_api_Event 32 (.slice Aq1 r.length cq2) r, Row r_api_Event 32 (.slice A0 a0.length c0) a0]) := by
  refine con_of_wp Try.func37 rfl Try.ntmps37 Try.results37 rfl ?_
  intro w F rn S hrn
  have E := Ext.refl w
  have HM := Hp.le_refl M
  have H := h
  unfold event_owned_AO at H
  refine Wp_seq (Wp_region_lit (W_v (.slice none 0 0) (x_assign rfl) rfl (Wl_nil (tn (Wp_seq (Wp_region_lit (W_v (.slice none 0 0) (x_assign rfl) rfl (Wl_nil (tn (Wp_seq (Wp_seq (Wp_region_lit (W_v (.slice A0 a0.length c0) (x_move rfl) rfl (W_v (.int .i64 (a0.length : Int)) (x_len_slice (n := a0.length) Try.underlying22 rfl) rfl (W_v (.int .i64 0) (x_move rfl) rfl ?_)))))))))))))))
  refine Wl_nil (tn ?_)
  obtain ⟨o120, o120h, o120H⟩ := bindS H
  refine Wp_blockJ (fun ρ w' => ∃ (x116 : List api_Event) (A117 : Option Addr) (c118 : Nat), (x116) = o120 ∧ Agree ρ [(3, .slice A117 x116.length c118)] ∧ Ext w w' ∧ St w' M F [Nst rw_api_Event 32 (.slice A117 x116.length c118) x116, Row r_api_Event 32 (.slice A0 a0.length c0) a0]) ?_ ?_
  · skip
    refine Wp_loop (fun n ρ w' => ∃ (x78 : List api_Event) (x82 : Int) (A79 : Option Addr) (c80 : Nat), event_owned_AO_l0 a0 n x78 x82 = some o120 ∧ Agree ρ [(3, .slice A79 x78.length c80), (6, .slice A0 a0.length c0), (7, .int .i64 (a0.length : Int)), (8, .int .i64 x82)] ∧ Ext w w' ∧ St w' M F [Nst rw_api_Event 32 (.slice A79 x78.length c80) x78, Row r_api_Event 32 (.slice A0 a0.length c0) a0]) k ?_ ?_
    · skip
      replace S := S.nst_nil rw_api_Event 32
      exact ⟨([] : List api_Event), (0 : Int), none, 0, o120h, ⟨rfl, rfl, rfl, rfl, trivial⟩, E, S.pick [0, 1] (by decide)⟩
    · intro n
      rintro ρ w122 ⟨x78, x82, A79, c80, H, hρ, E, S⟩
      rw [agree_eta hρ]
      cases n with
      | zero => cases H
      | succ k =>
        rw [event_owned_AO_l0.eq_2] at H
        refine Wp_seq (Wp_region_lit (W_v (.bool (decide (x82 < (a0.length : Int)))) (x_ibin rfl rfl rfl rfl) rfl (Wl_nil (tn (Wp_seq ?_)))))
        rcases iteS H with ⟨hb123, H⟩ | ⟨hb123, H⟩
        · refine Wp_cond_true (congrArg Value.bool hb123) ?_
          refine Wp_skip (tn (Wp_seq ?_))
          refine Wp_block ?_
          refine Wp_seq (Wp_region_lit ?_)
          obtain ⟨⟨p124, p125⟩, H⟩ := chkS H
          obtain ⟨b126, o127, cs128, _, _, ee133, hb129, vs130, hR131, hc132⟩ := SlW.at' (S.row_read 1 rfl) p124 p125
          obtain ⟨v137, hs136, rfl⟩ := hR131
          obtain ⟨A134, c135, rfl, _⟩ := hs136.form
          refine W_v (.pointer (some ⟨b126, o127 + x82.toNat * 7, none⟩)) (x_indexAddr Try.underlying22 ty32 (slA ee133) rfl p124 p125) rfl (W_v (.agg #[.int .u8 ((rd a0 x82).What), .int .i64 ((rd a0 x82).Task), .int .i64 ((rd a0 x82).Call), .int .i64 ((rd a0 x82).Answer.Err), .bool ((rd a0 x82).Answer.Found), .string (bs ((rd a0 x82).Answer.Value)), .slice A134 ((rd a0 x82).Answer.Pairs).length c135]) (x_loadA (Hp.of_get hb129) ty32 rfl (sub_el hc132 0 rfl) rfl rfl) rfl ?_)
          refine W_alloc S #[.int .u8 0, .int .i64 0, .int .i64 0, .int .i64 0, .bool false, .string (bs ([] : Str)), .slice none 0 0] ty32 rfl rfl ?_
          intro b138 w139 E' S
          replace E := E.trans E'
          refine W_store S 0 rfl ty32 rfl rfl [.int .u8 ((rd a0 x82).What), .int .i64 ((rd a0 x82).Task), .int .i64 ((rd a0 x82).Call), .int .i64 ((rd a0 x82).Answer.Err), .bool ((rd a0 x82).Answer.Found), .string (bs ((rd a0 x82).Answer.Value)), .slice A134 ((rd a0 x82).Answer.Pairs).length c135] rfl rfl rfl #[.int .u8 ((rd a0 x82).What), .int .i64 ((rd a0 x82).Task), .int .i64 ((rd a0 x82).Call), .int .i64 ((rd a0 x82).Answer.Err), .bool ((rd a0 x82).Answer.Found), .string (bs ((rd a0 x82).Answer.Value)), .slice A134 ((rd a0 x82).Answer.Pairs).length c135] (by as_aux_lemma => kernel_rfl) rfl ?_
          intro w141 E' S
          replace E := E.trans E'
          refine Wl_nil (tn (Wp_region_lit (W_v (.slice A79 x78.length c80) (x_move rfl) rfl (W_v (.agg #[.int .u8 ((rd a0 x82).What), .int .i64 ((rd a0 x82).Task), .int .i64 ((rd a0 x82).Call), .int .i64 ((rd a0 x82).Answer.Err), .bool ((rd a0 x82).Answer.Found), .string (bs ((rd a0 x82).Answer.Value)), .slice A134 ((rd a0 x82).Answer.Pairs).length c135]) (x_loadA (S.blk 0 rfl) ty32 rfl (sub_of_extract rfl) rfl rfl) rfl ?_))))
          obtain ⟨t142, ht143, H⟩ := bindS H
          refine W_callF fn47 (event_own.con k M A134 c135 (rd a0 x82) t142 hs136 ht143) S rfl rfl (by rintro _ _ _ ⟨_, _, _, rfl⟩; exact (flat_cons (flat_row (fun _ _ _ _ h => h)) flat_nil)) ?_
          rintro _ w147 _ Γ' E' S ⟨A144, c145, rfl, rfl⟩
          replace E := E.trans E'
          refine W_bslice S #[.int .u8 t142.What, .int .i64 t142.Task, .int .i64 t142.Call, .int .i64 t142.Answer.Err, .bool t142.Answer.Found, .string (bs t142.Answer.Value), .slice A144 t142.Answer.Pairs.length c145] Try.underlying22 ty32 rfl rfl #[.int .u8 0, .int .i64 0, .int .i64 0, .int .i64 0, .bool false, .string (bs ([] : Str)), .slice none 0 0] (by as_aux_lemma => kernel_rfl) (by as_aux_lemma => kernel_rfl) rfl ?_
          intro b148 w149 E' S
          replace E := E.trans E'
          replace S := S.nst_one (r := rw_api_Event) (x := t142) 0 rfl 0 rfl (fun _ _ _ _ h => h) (fun _ h => ⟨_, h, rfl⟩) rfl
          obtain ⟨p151, H⟩ := chkS H
          refine W_nappend S 1 rfl rfl rfl Try.underlying22 Try.underlying22 ty32 rfl (by decide) (by decide) (by omega) rfl ?_
          intro v152 w153 E' S
          replace E := E.trans E'
          obtain ⟨A154, c155, rfl, _⟩ := (S.nst_read 1 rfl).form
          refine W_v (.slice A154 (x78 ++ ([t142] : List api_Event)).length c155) (x_assign rfl) rfl (Wl_nil (bn (tn (Wp_region_lit (W_v (.int .i64 (IntKind.i64.wrap (x82 + (1 : Int)))) (x_ibin rfl rfl rfl rfl) rfl (W_v (.int .i64 (IntKind.i64.wrap (x82 + (1 : Int)))) (x_move rfl) rfl (Wl_nil (tn ?_))))))))
          exact ⟨k, Nat.lt_succ_self k, ⟨(x78 ++ ([t142] : List api_Event)), (IntKind.i64.wrap (x82 + (1 : Int))), A154, c155, H, ⟨rfl, rfl, rfl, rfl, trivial⟩, E, S.pick [1, 2] (by decide)⟩⟩
        refine Wp_cond_false (congrArg Value.bool hb123) ?_
        refine Wp_exit ?_
        refine tx (tx (bsm (?_)))
        refine tn ?_
        exact ⟨x78, A79, c80, Option.some.inj H, ⟨rfl, trivial⟩, E, S.pick [0, 1] (by decide)⟩
  rintro ρ w156 ⟨x116, A117, c118, rfl, hρ, E, S⟩
  rw [agree_eta hρ]
  have H := o120H
  refine tn ?_
  as_aux_lemma =>
  refine Wp_seq (Wp_region_lit (W_v (.slice A117 x116.length c118) (x_move rfl) rfl (W_v (.slice A117 x116.length c118) (x_assign rfl) rfl (Wl_nil (tn ?_)))))
  refine Wp_ret ?_
  obtain rfl := Option.some.inj H
  exact ⟨_, _, _, fun w1 e1 => run_resR (vs := [.slice A117 x116.length c118]) (FA.cons (rfl) (FA.nil)), HM, E, S.pick [0, 1] (by decide), ⟨A117, c118, rfl, rfl⟩⟩
def event_Recorder_Events_POO (k : Nat) (a0 : event_Recorder) : Option ((List api_Event)) :=
  (Option.bind (event_owned_AO k a0.l) (fun t1 => some t1))
set_option maxHeartbeats 2000000 in
theorem event_Recorder_Events_POO.mono {k : Nat} {a0 : event_Recorder} : OLe (event_Recorder_Events_POO k a0) (event_Recorder_Events_POO (k + 1) a0) := by
  unfold event_Recorder_Events_POO
  repeat' (first | with_reducible exact OLe.none | with_reducible exact OLe.some | with_reducible refine OLe.ite ?_ ?_ | with_reducible refine OLe.bind ?_ (fun _ => ?_) | with_reducible exact event_owned_AO.mono | refine OLe.bind ?_ (fun _ => ?_) | refine OLe.ite ?_ ?_ | refine OLe.elim (fun _ => ?_) (fun _ => ?_) | split)
set_option maxHeartbeats 4000000 in
set_option maxRecDepth 100000 in
theorem event_Recorder_Events_POO.con (k : Nat) (M : Hp) (A0_0 : Option Addr) (c0_0 : Nat) (A0_1 : Option Addr) (c0_1 : Nat) (a0 : event_Recorder) (bo0 : Nat) (r : (List api_Event))  (h : event_Recorder_Events_POO k a0 = some r) : Con Try.prog 19 #[pt bo0 0] M [Blk bo0 (.cells #[.slice A0_0 a0.tasks.length c0_0, .slice A0_1 a0.l.length c0_1] 73 (0, 0)), Row r_event_task 70 (.slice A0_0 a0.tasks.length c0_0) a0.tasks, Row r_api_Event 32 (.slice A0_1 a0.l.length c0_1) a0.l] (fun v M' Γ' => ∃ (Aq1 : Option Addr) (cq2 : Nat), v = .slice Aq1 r.length cq2 ∧ Γ' = [Nst rw_api_Event 32 (.slice Aq1 r.length cq2) r, Blk bo0 (.cells #[.slice A0_0 a0.tasks.length c0_0, .slice A0_1 a0.l.length c0_1] 73 (0, 0)), Row r_event_task 70 (.slice A0_0 a0.tasks.length c0_0) a0.tasks, Row r_api_Event 32 (.slice A0_1 a0.l.length c0_1) a0.l]) := by
  refine con_of_wp Try.func19 rfl Try.ntmps19 Try.results19 rfl ?_
  intro w F rn S hrn
  have E := Ext.refl w
  have HM := Hp.le_refl M
  have H := h
  unfold event_Recorder_Events_POO at H
  refine Wp_seq (Wp_region_lit (W_v (.slice none 0 0) (x_assign rfl) rfl (Wl_nil (tn (Wp_seq (Wp_seq (Wp_region_lit (W_v (pt bo0 0) (x_move rfl) rfl (W_v (.bool false) (x_eq_of (r := false) rfl rfl (run_eq_ptrsn Try.underlying36)) rfl (Wl_nil (tn (Wp_cond_false rfl (Wp_skip (tn (Wp_seq ?_)))))))))))))))
  refine Wp_region_lit (W_v (pt bo0 0) (x_move rfl) rfl (W_v (pt bo0 0) (x_nilptr rfl) rfl (W_v (pt bo0 1) (x_fieldAddr (o := 0) (off := 1) Try.underlying73 rfl ty22 rfl rfl) rfl (W_v (.slice A0_1 a0.l.length c0_1) (x_load (S.blk 0 rfl) ty22 rfl rfl) rfl ?_))))
  obtain ⟨t1, ht2, H⟩ := bindS H
  replace S : St w M F [_, _, _] := S.pick [2, 0, 1] (by decide)
  refine W_call fn37 (event_owned_AO.con k M A0_1 c0_1 a0.l t1  ht2) (Γ1 := [_]) (Γ2 := [_, _]) S rfl rfl ?_
  rintro _ w6 M7 Γ' hM8 E' S ⟨A3, c4, rfl, rfl⟩
  replace HM := Hp.le_trans HM hM8
  replace E := E.trans E'
  replace S : St w6 M7 F [_, _, _, _] := S
  refine W_v (.slice A3 t1.length c4) (x_assign rfl) rfl (Wl_nil (tn ?_))
  refine Wp_ret ?_
  obtain rfl := Option.some.inj H
  exact ⟨_, _, _, fun w1 e1 => run_resR (vs := [.slice A3 t1.length c4]) (FA.cons (rfl) (FA.nil)), HM, E, S.pick [0, 2, 3, 1] (by decide), ⟨A3, c4, rfl, rfl⟩⟩
end Go.Proofs.Ytninegjnkkcepaa
