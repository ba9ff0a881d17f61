import Derived.Test.YtninegjnkkcepaaGe1P0
namespace Go.Proofs.Ytninegjnkkcepaa
open Go
set_option linter.unusedVariables false
set_option linter.unusedSimpArgs false
/-! ### ferryman/event.owned: function 37 -/
def event_owned_AO_l0 (a0 : (List api_Event)) : Nat → List api_Event → Int → Option ((List api_Event))
  | 0, _, _ => none
  | k + 1, x90, x94 => (if (decide (x94 < (a0.length : Int))) = true then (if 0 ≤ x94 ∧ x94 < (a0.length : Int) then (Option.bind (event_own k (rd a0 x94)) (fun t162 => (if x90.length + ([t162] : List api_Event).length ≤ 1759218604441 then event_owned_AO_l0 a0 k (x90 ++ ([t162] : List api_Event)) (IntKind.i64.wrap (x94 + (1 : Int))) else none))) else none) else some (x90))
set_option maxHeartbeats 2000000 in
theorem event_owned_AO_l0.mono {a0 : (List api_Event)} : ∀ {k : Nat} {x0 x1}, OLe (event_owned_AO_l0 a0 k x0 x1) (event_owned_AO_l0 a0 (k + 1) x0 x1) := by
  intro k
  induction k with
  | zero => intros; exact OLe.none
  | succ k ih =>
    intros
    rw [event_owned_AO_l0.eq_2, event_owned_AO_l0.eq_2]
    repeat' (first | with_reducible exact OLe.none | with_reducible exact OLe.some | with_reducible refine OLe.ite ?_ ?_ | with_reducible refine OLe.bind ?_ (fun _ => ?_) | with_reducible exact event_own.mono | exact ih | refine OLe.bind ?_ (fun _ => ?_) | refine OLe.ite ?_ ?_ | refine OLe.elim (fun _ => ?_) (fun _ => ?_) | split)
def event_owned_AO (k : Nat) (a0 : (List api_Event)) : Option ((List api_Event)) :=
  (Option.bind (event_owned_AO_l0 a0 k ([] : List api_Event) (0 : Int)) (fun x134 => some x134))
set_option maxHeartbeats 2000000 in
theorem event_owned_AO.mono {k : Nat} {a0 : (List api_Event)} : OLe (event_owned_AO k a0) (event_owned_AO (k + 1) a0) := by
  unfold event_owned_AO
  repeat' (first | with_reducible exact OLe.none | with_reducible exact OLe.some | with_reducible refine OLe.ite ?_ ?_ | with_reducible refine OLe.bind ?_ (fun _ => ?_) | with_reducible exact event_owned_AO_l0.mono | refine OLe.bind ?_ (fun _ => ?_) | refine OLe.ite ?_ ?_ | refine OLe.elim (fun _ => ?_) (fun _ => ?_) | split)
set_option maxHeartbeats 1000000 in
set_option maxRecDepth 100000 in
theorem event_owned_AO.con (k : Nat) (M : Hp) (A0 : Option Addr) (c0 : Nat) (a0 : (List api_Event)) (r : (List api_Event))  (h : event_owned_AO k a0 = some r) : Con Try.prog 37 #[.slice A0 a0.length c0] M [Row r_api_Event 32 (.slice A0 a0.length c0) a0] (fun v M' Γ' => ∃ (Aq1 : Option Addr) (cq2 : Nat), v = .slice Aq1 r.length cq2 ∧ Γ' = [Row r_api_Event 32 (.slice Aq1 r.length cq2) r, Row r_api_Event 32 (.slice A0 a0.length c0) a0]) := by
  refine con_of_wp Try.func37 rfl Try.ntmps37 Try.results37 rfl ?_
  intro w F rn S hrn
  have E := Ext.refl w
  have HM := Hp.le_refl M
  have H := h
  unfold event_owned_AO at H
  refine Wp_seq ?_
  refine Wp_region_lit ?_
  refine W_v (.slice none 0 0) (x_assign rfl) rfl ?_
  refine Wl_nil ?_
  refine tn ?_
  refine Wp_seq ?_
  refine Wp_region_lit ?_
  refine W_v (.slice none 0 0) (x_assign rfl) rfl ?_
  refine Wl_nil ?_
  refine tn ?_
  refine Wp_seq ?_
  refine Wp_seq ?_
  refine Wp_region_lit ?_
  refine W_v (.slice A0 a0.length c0) (x_move rfl) rfl ?_
  refine W_v (.int .i64 (a0.length : Int)) (x_len_slice (n := a0.length) Try.underlying22 rfl) rfl ?_
  refine W_v (.int .i64 0) (x_move rfl) rfl ?_
  refine Wl_nil ?_
  refine tn ?_
  obtain ⟨o138, o138h, o138H⟩ := bindS H
  clear H
  refine Wp_blockJ (fun ρ w' => ∃ (x134 : List api_Event) (A135 : Option Addr) (c136 : Nat) (Mj : Hp), (x134) = o138 ∧ Agree ρ [(3, .slice A135 x134.length c136)] ∧ M.le Mj ∧ Ext w w' ∧ St w' Mj F [Row r_api_Event 32 (.slice A135 x134.length c136) x134, Row r_api_Event 32 (.slice A0 a0.length c0) a0]) ?_ ?_
  · skip
    refine Wp_loop (fun n ρ w' => ∃ (x90 : List api_Event) (x94 : Int) (A91 : Option Addr) (c92 : Nat) (Mj : Hp), event_owned_AO_l0 a0 n x90 x94 = some o138 ∧ Agree ρ [(3, .slice A91 x90.length c92), (6, .slice A0 a0.length c0), (7, .int .i64 (a0.length : Int)), (8, .int .i64 x94)] ∧ M.le Mj ∧ Ext w w' ∧ St w' Mj F [Row r_api_Event 32 (.slice A91 x90.length c92) x90, Row r_api_Event 32 (.slice A0 a0.length c0) a0]) k ?_ ?_
    · skip
      replace S := S.row_nil r_api_Event 32
      exact ⟨([] : List api_Event), (0 : Int), none, 0, M, o138h, ⟨rfl, rfl, rfl, rfl, trivial⟩, (Hp.le_refl M), E, S.pick [0, 1] (by decide)⟩
    · intro n
      rintro ρ w140 ⟨x90, x94, A91, c92, M141, H, hρ, hM142, E, S⟩
      rw [agree_eta hρ]
      clear hρ
      replace HM := Hp.le_trans HM hM142
      cases n with
      | zero => cases H
      | succ k =>
        rw [event_owned_AO_l0.eq_2] at H
        refine Wp_seq ?_
        refine Wp_region_lit ?_
        refine W_v (.bool (decide (x94 < (a0.length : Int)))) (x_ibin rfl rfl rfl rfl) rfl ?_
        refine Wl_nil ?_
        refine tn ?_
        refine Wp_seq ?_
        rcases iteS H with ⟨hb143, H⟩ | ⟨hb143, H⟩
        · refine Wp_cond_true (congrArg Value.bool hb143) ?_
          refine Wp_skip ?_
          refine tn ?_
          refine Wp_seq ?_
          refine Wp_block ?_
          refine Wp_seq ?_
          refine Wp_region_lit ?_
          obtain ⟨⟨p144, p145⟩, H⟩ := chkS H
          obtain ⟨b146, o147, cs148, _, _, ee153, hb149, vs150, hR151, hc152⟩ := SlW.at' (S.row_read 1 rfl) p144 p145
          obtain ⟨v157, hs156, rfl⟩ := hR151
          obtain ⟨A154, c155, rfl, _⟩ := hs156.form
          refine W_v (.pointer (some ⟨b146, o147 + x94.toNat * 7, none⟩)) (x_indexAddr Try.underlying22 ty32 (slA ee153) rfl p144 p145) rfl ?_
          refine W_v (.agg #[.int .u8 ((rd a0 x94).What), .int .i64 ((rd a0 x94).Task), .int .i64 ((rd a0 x94).Call), .int .i64 ((rd a0 x94).Answer.Err), .bool ((rd a0 x94).Answer.Found), .string (bs ((rd a0 x94).Answer.Value)), .slice A154 ((rd a0 x94).Answer.Pairs).length c155]) (x_loadA (Hp.of_get hb149) ty32 rfl (sub_el hc152 0 rfl) rfl rfl) rfl ?_
          refine W_alloc S #[.int .u8 0, .int .i64 0, .int .i64 0, .int .i64 0, .bool false, .string (bs ([] : Str)), .slice none 0 0] ty32 rfl rfl ?_
          intro b158 w159 E' S
          replace E := E.trans E'
          clear E'
          refine W_store S 0 rfl ty32 rfl rfl [.int .u8 ((rd a0 x94).What), .int .i64 ((rd a0 x94).Task), .int .i64 ((rd a0 x94).Call), .int .i64 ((rd a0 x94).Answer.Err), .bool ((rd a0 x94).Answer.Found), .string (bs ((rd a0 x94).Answer.Value)), .slice A154 ((rd a0 x94).Answer.Pairs).length c155] rfl rfl rfl #[.int .u8 ((rd a0 x94).What), .int .i64 ((rd a0 x94).Task), .int .i64 ((rd a0 x94).Call), .int .i64 ((rd a0 x94).Answer.Err), .bool ((rd a0 x94).Answer.Found), .string (bs ((rd a0 x94).Answer.Value)), .slice A154 ((rd a0 x94).Answer.Pairs).length c155] rfl rfl ?_
          intro w161 E' S
          replace E := E.trans E'
          clear E'
          refine Wl_nil ?_
          refine tn ?_
          refine Wp_region_lit ?_
          refine W_v (.slice A91 x90.length c92) (x_move rfl) rfl ?_
          refine W_v (.agg #[.int .u8 ((rd a0 x94).What), .int .i64 ((rd a0 x94).Task), .int .i64 ((rd a0 x94).Call), .int .i64 ((rd a0 x94).Answer.Err), .bool ((rd a0 x94).Answer.Found), .string (bs ((rd a0 x94).Answer.Value)), .slice A154 ((rd a0 x94).Answer.Pairs).length c155]) (x_loadA (S.blk 0 rfl) ty32 rfl (sub_of_extract rfl) rfl rfl) rfl ?_
          obtain ⟨t162, ht163, H⟩ := bindS H
          refine W_callF fn47 (event_own.con k M141 A154 c155 (rd a0 x94) t162 hs156 ht163) S rfl rfl (by rintro _ _ _ ⟨_, _, _, rfl⟩; exact (flat_cons (flat_row (fun _ _ _ _ h => h)) flat_nil)) ?_
          rintro _ w167 _ Γ' E' S ⟨A164, c165, rfl, rfl⟩
          replace E := E.trans E'
          clear E'
          obtain ⟨M168, hM169, hf170, S⟩ := S.row_freeze 0 rfl
          replace HM := Hp.le_trans HM hM169
          replace hM142 := Hp.le_trans hM142 hM169
          replace hs156 := SlR.mono hs156 hM169
          refine W_bslice S #[.int .u8 t162.What, .int .i64 t162.Task, .int .i64 t162.Call, .int .i64 t162.Answer.Err, .bool t162.Answer.Found, .string (bs t162.Answer.Value), .slice A164 t162.Answer.Pairs.length c165] Try.underlying22 ty32 rfl rfl #[.int .u8 0, .int .i64 0, .int .i64 0, .int .i64 0, .bool false, .string (bs ([] : Str)), .slice none 0 0] (by kernel_rfl) (by kernel_rfl) rfl ?_
          intro b171 w172 E' S
          replace E := E.trans E'
          clear E'
          replace S := S.blk_row (r := r_api_Event) (l := ([t162] : List api_Event)) 0 rfl 1 (Nat.le_refl 1) rfl (Cells.cons (vs := [.int .u8 t162.What, .int .i64 t162.Task, .int .i64 t162.Call, .int .i64 t162.Answer.Err, .bool t162.Answer.Found, .string (bs t162.Answer.Value), .slice A164 t162.Answer.Pairs.length c165]) (⟨_, hf170, rfl⟩) Cells.nil)
          obtain ⟨p174, H⟩ := chkS H
          obtain ⟨src175, hs176, hC177⟩ := src_of_read (P := Try.prog) (ρ := r_api_Event) (l := ([t162] : List api_Event)) (S.row_read 0 rfl) (by decide)
          refine W_append S 2 rfl rfl rfl Try.underlying22 (.inl Try.underlying22) ty32 rfl (by decide) (by decide) hs176 hC177 rfl (by omega) rfl ?_
          intro v178 w179 E' S
          replace E := E.trans E'
          clear E'
          obtain ⟨A180, c181, rfl, _⟩ := (S.row_read 2 rfl).form
          refine W_v (.slice A180 (x90 ++ ([t162] : List api_Event)).length c181) (x_assign rfl) rfl ?_
          refine Wl_nil ?_
          refine bn ?_
          refine tn ?_
          refine Wp_region_lit ?_
          refine W_v (.int .i64 (IntKind.i64.wrap (x94 + (1 : Int)))) (x_ibin rfl rfl rfl rfl) rfl ?_
          refine W_v (.int .i64 (IntKind.i64.wrap (x94 + (1 : Int)))) (x_move rfl) rfl ?_
          refine Wl_nil ?_
          refine tn ?_
          exact ⟨k, Nat.lt_succ_self k, ⟨(x90 ++ ([t162] : List api_Event)), (IntKind.i64.wrap (x94 + (1 : Int))), A180, c181, M168, H, ⟨rfl, rfl, rfl, rfl, trivial⟩, hM142, E, S.pick [2, 3] (by decide)⟩⟩
        refine Wp_cond_false (congrArg Value.bool hb143) ?_
        refine Wp_exit ?_
        refine tx (tx (bsm (?_)))
        refine tn ?_
        exact ⟨x90, A91, c92, M141, Option.some.inj H, ⟨rfl, trivial⟩, hM142, E, S.pick [0, 1] (by decide)⟩
  clear o138h
  rintro ρ w182 ⟨x134, A135, c136, M183, rfl, hρ, hM184, E, S⟩
  rw [agree_eta hρ]
  clear hρ
  replace HM := Hp.le_trans HM hM184
  have H := o138H
  clear o138H
  refine tn ?_
  refine Wp_seq ?_
  refine Wp_region_lit ?_
  refine W_v (.slice A135 x134.length c136) (x_move rfl) rfl ?_
  refine W_v (.slice A135 x134.length c136) (x_assign rfl) rfl ?_
  refine Wl_nil ?_
  refine tn ?_
  refine Wp_ret ?_
  obtain rfl := Option.some.inj H
  exact ⟨_, _, _, fun w1 e1 => run_resR (vs := [.slice A135 x134.length c136]) (FA.cons (rfl) (FA.nil)), HM, E, S.pick [0, 1] (by decide), ⟨A135, c136, rfl, rfl⟩⟩
/-! ### (*ferryman/event.Recorder).Events: function 19 -/
def event_Recorder_Events_POO (k : Nat) (a0 : event_Recorder) : Option ((List api_Event)) :=
  (Option.bind (event_owned_AO k a0.l) (fun t1 => some t1))
set_option maxHeartbeats 2000000 in
theorem event_Recorder_Events_POO.mono {k : Nat} {a0 : event_Recorder} : OLe (event_Recorder_Events_POO k a0) (event_Recorder_Events_POO (k + 1) a0) := by
  unfold event_Recorder_Events_POO
  repeat' (first | with_reducible exact OLe.none | with_reducible exact OLe.some | with_reducible refine OLe.ite ?_ ?_ | with_reducible refine OLe.bind ?_ (fun _ => ?_) | with_reducible exact event_owned_AO.mono | refine OLe.bind ?_ (fun _ => ?_) | refine OLe.ite ?_ ?_ | refine OLe.elim (fun _ => ?_) (fun _ => ?_) | split)
set_option maxHeartbeats 1000000 in
set_option maxRecDepth 100000 in
theorem event_Recorder_Events_POO.con (k : Nat) (M : Hp) (A0_0 : Option Addr) (c0_0 : Nat) (A0_1 : Option Addr) (c0_1 : Nat) (a0 : event_Recorder) (bo0 : Nat) (r : (List api_Event))  (h : event_Recorder_Events_POO k a0 = some r) : Con Try.prog 19 #[.pointer (some ⟨bo0, 0, none⟩)] M [Blk bo0 (.cells #[.slice A0_0 a0.tasks.length c0_0, .slice A0_1 a0.l.length c0_1] 73 (0, 0)), Row r_event_task 70 (.slice A0_0 a0.tasks.length c0_0) a0.tasks, Row r_api_Event 32 (.slice A0_1 a0.l.length c0_1) a0.l] (fun v M' Γ' => ∃ (Aq1 : Option Addr) (cq2 : Nat), v = .slice Aq1 r.length cq2 ∧ Γ' = [Row r_api_Event 32 (.slice Aq1 r.length cq2) r, Blk bo0 (.cells #[.slice A0_0 a0.tasks.length c0_0, .slice A0_1 a0.l.length c0_1] 73 (0, 0)), Row r_event_task 70 (.slice A0_0 a0.tasks.length c0_0) a0.tasks, Row r_api_Event 32 (.slice A0_1 a0.l.length c0_1) a0.l]) := by
  refine con_of_wp Try.func19 rfl Try.ntmps19 Try.results19 rfl ?_
  intro w F rn S hrn
  have E := Ext.refl w
  have HM := Hp.le_refl M
  have H := h
  unfold event_Recorder_Events_POO at H
  refine Wp_seq ?_
  refine Wp_region_lit ?_
  refine W_v (.slice none 0 0) (x_assign rfl) rfl ?_
  refine Wl_nil ?_
  refine tn ?_
  refine Wp_seq ?_
  refine Wp_seq ?_
  refine Wp_region_lit ?_
  refine W_v (.pointer (some ⟨bo0, 0, none⟩)) (x_move rfl) rfl ?_
  refine W_v (.bool false) (x_eq_of (r := false) rfl rfl (run_eq_ptrsn Try.underlying36)) rfl ?_
  refine Wl_nil ?_
  refine tn ?_
  refine Wp_cond_false rfl ?_
  refine Wp_skip ?_
  refine tn ?_
  refine Wp_seq ?_
  refine Wp_region_lit ?_
  refine W_v (.pointer (some ⟨bo0, 0, none⟩)) (x_move rfl) rfl ?_
  refine W_v (.pointer (some ⟨bo0, 0, none⟩)) (x_nilptr rfl) rfl ?_
  refine W_v (.pointer (some ⟨bo0, 1, none⟩)) (x_fieldAddr (o := 0) (off := 1) Try.underlying73 rfl ty22 rfl rfl) rfl ?_
  refine W_v (.slice A0_1 a0.l.length c0_1) (x_load (S.blk 0 rfl) ty22 rfl rfl) rfl ?_
  obtain ⟨t1, ht2, H⟩ := bindS H
  replace S : St w M F [Row r_api_Event 32 (.slice A0_1 a0.l.length c0_1) a0.l, Blk bo0 (.cells #[.slice A0_0 a0.tasks.length c0_0, .slice A0_1 a0.l.length c0_1] 73 (0, 0)), Row r_event_task 70 (.slice A0_0 a0.tasks.length c0_0) a0.tasks] := S.pick [2, 0, 1] (by decide)
  refine W_call fn37 (event_owned_AO.con k M A0_1 c0_1 a0.l t1  ht2) (Γ1 := [Row r_api_Event 32 (.slice A0_1 a0.l.length c0_1) a0.l]) (Γ2 := [Blk bo0 (.cells #[.slice A0_0 a0.tasks.length c0_0, .slice A0_1 a0.l.length c0_1] 73 (0, 0)), Row r_event_task 70 (.slice A0_0 a0.tasks.length c0_0) a0.tasks]) S rfl rfl ?_
  rintro _ w6 M7 Γ' hM8 E' S ⟨A3, c4, rfl, rfl⟩
  replace HM := Hp.le_trans HM hM8
  replace E := E.trans E'
  clear E'
  replace S : St w6 M7 F [Row r_api_Event 32 (.slice A3 t1.length c4) t1, Row r_api_Event 32 (.slice A0_1 a0.l.length c0_1) a0.l, Blk bo0 (.cells #[.slice A0_0 a0.tasks.length c0_0, .slice A0_1 a0.l.length c0_1] 73 (0, 0)), Row r_event_task 70 (.slice A0_0 a0.tasks.length c0_0) a0.tasks] := S
  refine W_v (.slice A3 t1.length c4) (x_assign rfl) rfl ?_
  refine Wl_nil ?_
  refine tn ?_
  refine Wp_ret ?_
  obtain rfl := Option.some.inj H
  exact ⟨_, _, _, fun w1 e1 => run_resR (vs := [.slice A3 t1.length c4]) (FA.cons (rfl) (FA.nil)), HM, E, S.pick [0, 2, 3, 1] (by decide), ⟨A3, c4, rfl, rfl⟩⟩
/-! ### ferryman/ferrymanlaw06.works: function 10 -/
def ferrymanlaw06_works (k : Nat)  : Option (Bool) :=
  (Option.bind (event_New_v k (2 : Int)) (fun t1 => (Sum.elim (fun t3 => some false) (fun t4 => (Option.bind (event_Recorder_Invoke_POO k t4 (0 : Int)) (fun t19 => (Option.bind (α := Bool × List event_task × List api_Event) (if (t19.1 != (0 : Int)) = true then some (true, t19.2.tasks, t19.2.l) else (Option.bind (event_Recorder_Invoke_POO k t19.2 (0 : Int)) (fun t64 => some ((t64.1 != (7 : Int)), t64.2.tasks, t64.2.l)))) (fun ⟨x53, x54, x58⟩ => (Option.bind (α := Bool × List event_task × List api_Event) (if x53 = true then some (true, x54, x58) else (Option.bind (event_Recorder_Return_POO k (⟨x54, x58⟩ : event_Recorder) (0 : Int) (⟨(0 : Int), false, ([] : Str), ([] : (List api_Pair))⟩ : api_Answer)) (fun t112 => some ((t112.1 != (7 : Int)), t112.2.tasks, t112.2.l)))) (fun ⟨x101, x102, x106⟩ => (Option.bind (α := Bool × List event_task × List api_Event) (if x101 = true then some (true, x102, x106) else (Option.bind (event_Recorder_Invoke_POO k (⟨x102, x106⟩ : event_Recorder) (1 : Int)) (fun t160 => some ((t160.1 != (0 : Int)), t160.2.tasks, t160.2.l)))) (fun ⟨x149, x150, x154⟩ => (Option.bind (α := Bool × List event_task × List api_Event) (if x149 = true then some (true, x150, x154) else (Option.bind (event_Recorder_Mark_POO k (⟨x150, x154⟩ : event_Recorder) (1 : Int)) (fun t208 => some ((t208.1 != (0 : Int)), t208.2.tasks, t208.2.l)))) (fun ⟨x197, x198, x202⟩ => (Option.bind (α := Bool × List event_task × List api_Event) (if x197 = true then some (true, x198, x202) else (Option.bind (event_Recorder_Mark_POO k (⟨x198, x202⟩ : event_Recorder) (0 : Int)) (fun t256 => some ((t256.1 != (0 : Int)), t256.2.tasks, t256.2.l)))) (fun ⟨x245, x246, x250⟩ => (Option.bind (α := Bool × List event_task × List api_Event) (if x245 = true then some (true, x246, x250) else (Option.bind (event_Recorder_Return_POO k (⟨x246, x250⟩ : event_Recorder) (0 : Int) (⟨(0 : Int), true, ([] : Str), ([] : (List api_Pair))⟩ : api_Answer)) (fun t304 => some ((t304.1 != (0 : Int)), t304.2.tasks, t304.2.l)))) (fun ⟨x293, x294, x298⟩ => (Option.bind (α := Bool × List event_task × List api_Event) (if x293 = true then some (true, x294, x298) else (Option.bind (event_Recorder_Invoke_POO k (⟨x294, x298⟩ : event_Recorder) (2 : Int)) (fun t352 => some ((t352.1 != (1 : Int)), t352.2.tasks, t352.2.l)))) (fun ⟨x341, x342, x346⟩ => (if x341 = true then some false else (Option.bind (event_Recorder_Events_POO k (⟨x342, x346⟩ : event_Recorder)) (fun t367 => (Option.bind (α := Bool) (if ((t367.length : Int) != (5 : Int)) = true then some (true) else (if 0 ≤ (4 : Int) ∧ (4 : Int) < (t367.length : Int) then some (((rd t367 (4 : Int)).What != (3 : Int))) else none)) (fun x404 => (Option.bind (α := Bool) (if x404 = true then some (true) else (if 0 ≤ (4 : Int) ∧ (4 : Int) < (t367.length : Int) then some ((!((rd t367 (4 : Int)).Answer.Found))) else none)) (fun x450 => (Option.bind (α := Bool) (if x450 = true then some (true) else (if 0 ≤ (2 : Int) ∧ (2 : Int) < (t367.length : Int) then some (((rd t367 (2 : Int)).Task != (1 : Int))) else none)) (fun x496 => (Option.bind (α := Bool) (if x496 = true then some (true) else (if 0 ≤ (2 : Int) ∧ (2 : Int) < (t367.length : Int) then some (((rd t367 (2 : Int)).Call != (0 : Int))) else none)) (fun x542 => (Option.bind (α := Bool × List event_task × List api_Event) (if x542 = true then some (true, x342, x346) else (Option.bind (event_Recorder_Return_POO k (⟨x342, x346⟩ : event_Recorder) (1 : Int) (⟨(0 : Int), false, ([] : Str), ([] : (List api_Pair))⟩ : api_Answer)) (fun t593 => some ((t593.1 != (0 : Int)), t593.2.tasks, t593.2.l)))) (fun ⟨x582, x583, x587⟩ => (Option.bind (α := Bool × List event_task × List api_Event) (if x582 = true then some (true, x583, x587) else (Option.bind (event_Recorder_Invoke_POO k (⟨x583, x587⟩ : event_Recorder) (0 : Int)) (fun t641 => some ((t641.1 != (0 : Int)), t641.2.tasks, t641.2.l)))) (fun ⟨x630, x631, x635⟩ => (if x630 = true then some false else (Option.bind (event_Recorder_Events_POO k (⟨x631, x635⟩ : event_Recorder)) (fun t656 => (Option.bind (event_Without k t656 ([(⟨(0 : Int), (0 : Int)⟩ : event_Place)] : List event_Place)) (fun t673 => (Option.bind (α := Bool) (if ((t673.length : Int) == (4 : Int)) = true then (if 0 ≤ (0 : Int) ∧ (0 : Int) < (t673.length : Int) then some (((rd t673 (0 : Int)).Task == (1 : Int))) else none) else some (false)) (fun x710 => (Option.bind (α := Bool) (if x710 = true then (if 0 ≤ (3 : Int) ∧ (3 : Int) < (t673.length : Int) then some (((rd t673 (3 : Int)).Task == (0 : Int))) else none) else some (false)) (fun x756 => (Option.bind (α := Bool) (if x756 = true then (if 0 ≤ (3 : Int) ∧ (3 : Int) < (t673.length : Int) then some (((rd t673 (3 : Int)).Call == (0 : Int))) else none) else some (false)) (fun x802 => (Option.bind (α := Bool) (if x802 = true then (if 0 ≤ (3 : Int) ∧ (3 : Int) < (t673.length : Int) then some (((rd t673 (3 : Int)).What == (1 : Int))) else none) else some (false)) (fun x848 => (Option.bind (α := Bool) (if x848 = true then (Option.bind (event_Legal k (2 : Int) t673) (fun t874 => some (t874))) else some (false)) (fun x872 => (Option.bind (α := Bool) (if x872 = true then (Option.bind (event_Bare k t367) (fun t907 => some (((t907.length : Int) == (3 : Int))))) else some (false)) (fun x901 => some x901)))))))))))))))))))))))))))))))))))))))))))))))))) t1))
set_option maxHeartbeats 2000000 in
theorem ferrymanlaw06_works.mono {k : Nat}  : OLe (ferrymanlaw06_works k ) (ferrymanlaw06_works (k + 1) ) := by
  unfold ferrymanlaw06_works
  repeat' (first | with_reducible exact OLe.none | with_reducible exact OLe.some | with_reducible refine OLe.ite ?_ ?_ | with_reducible refine OLe.bind ?_ (fun _ => ?_) | with_reducible exact event_Bare.mono | with_reducible exact event_Legal.mono | with_reducible exact event_New_v.mono | with_reducible exact event_Recorder_Events_POO.mono | with_reducible exact event_Recorder_Invoke_POO.mono | with_reducible exact event_Recorder_Mark_POO.mono | with_reducible exact event_Recorder_Return_POO.mono | with_reducible exact event_Without.mono | refine OLe.bind ?_ (fun _ => ?_) | refine OLe.ite ?_ ?_ | refine OLe.elim (fun _ => ?_) (fun _ => ?_) | split)
set_option maxHeartbeats 8000000 in
set_option maxRecDepth 100000 in
theorem ferrymanlaw06_works.con (k : Nat) (M : Hp)  (r : Bool)  (h : ferrymanlaw06_works k  = some r) : Con Try.prog 10 #[] M [] (fun v M' Γ' => v = .bool r ∧ Γ' = []) := by
  refine con_of_wp Try.func10 rfl Try.ntmps10 Try.results10 rfl ?_
  intro w F rn S hrn
  have E := Ext.refl w
  have HM := Hp.le_refl M
  have H := h
  unfold ferrymanlaw06_works at H
  refine Wp_seq ?_
  refine Wp_region_lit ?_
  refine W_v (.bool false) (x_assign rfl) rfl ?_
  refine Wl_nil ?_
  refine tn ?_
  refine Wp_seq ?_
  refine Wp_region_lit ?_
  obtain ⟨t1, ht2, H⟩ := bindS H
  rcases t1 with t3 | t4
  · skip
    replace H := elimL H
    refine W_callF2 fn14 (event_New_v.con k M (2 : Int) (Sum.inl t3)  ht2) (Γ1 := []) (Γ2 := []) S rfl rfl (by rintro _ _ _ ⟨rfl, rfl⟩; exact flat_nil) ?_
    rintro _ w5 _ Γ' E' S ⟨rfl, rfl⟩
    replace E := E.trans E'
    clear E'
    replace S : St w5 M F [] := S
    refine W_v (.tuple #[.pointer none, .int .i64 1]) (x_move rfl) rfl ?_
    refine W_v (.pointer none) (x_extract rfl rfl) rfl ?_
    refine W_v (.int .i64 1) (x_extract rfl rfl) rfl ?_
    refine W_v (.pointer none) (x_assign rfl) rfl ?_
    refine W_v (.int .i64 1) (x_assign rfl) rfl ?_
    refine Wl_nil ?_
    refine tn ?_
    refine Wp_seq ?_
    refine Wp_seq ?_
    refine Wp_region_lit ?_
    refine W_v (.int .i64 1) (x_move rfl) rfl ?_
    refine W_v (.bool true) (x_ibin rfl rfl rfl rfl) rfl ?_
    refine W_v (.bool true) (x_move rfl) rfl ?_
    refine W_no (rfl) rfl ?_
    refine W_no (rfl) rfl ?_
    refine W_no (rfl) rfl ?_
    refine W_v (.bool true) (x_pick (k := true) rfl rfl) rfl ?_
    refine W_v (.bool true) (x_move rfl) rfl ?_
    refine W_no (rfl) rfl ?_
    refine W_no (rfl) rfl ?_
    refine W_no (rfl) rfl ?_
    refine W_v (.bool true) (x_pick (k := true) rfl rfl) rfl ?_
    refine W_v (.bool true) (x_move rfl) rfl ?_
    refine W_no (rfl) rfl ?_
    refine W_no (rfl) rfl ?_
    refine W_no (rfl) rfl ?_
    refine W_no (rfl) rfl ?_
    refine W_v (.bool true) (x_pick (k := true) rfl rfl) rfl ?_
    refine W_v (.bool true) (x_move rfl) rfl ?_
    refine W_no (rfl) rfl ?_
    refine W_no (rfl) rfl ?_
    refine W_no (rfl) rfl ?_
    refine W_v (.bool true) (x_pick (k := true) rfl rfl) rfl ?_
    refine W_v (.bool true) (x_move rfl) rfl ?_
    refine W_no (rfl) rfl ?_
    refine W_no (rfl) rfl ?_
    refine W_no (rfl) rfl ?_
    refine W_v (.bool true) (x_pick (k := true) rfl rfl) rfl ?_
    refine W_v (.bool true) (x_move rfl) rfl ?_
    refine W_no (rfl) rfl ?_
    refine W_no (rfl) rfl ?_
    refine W_no (rfl) rfl ?_
    refine W_v (.bool true) (x_pick (k := true) rfl rfl) rfl ?_
    refine W_v (.bool true) (x_move rfl) rfl ?_
    refine W_no (rfl) rfl ?_
    refine W_no (rfl) rfl ?_
    refine W_no (rfl) rfl ?_
    refine W_no (rfl) rfl ?_
    refine W_v (.bool true) (x_pick (k := true) rfl rfl) rfl ?_
    refine W_v (.bool true) (x_move rfl) rfl ?_
    refine W_no (rfl) rfl ?_
    refine W_no (rfl) rfl ?_
    refine W_no (rfl) rfl ?_
    refine W_v (.bool true) (x_pick (k := true) rfl rfl) rfl ?_
    refine Wl_nil ?_
    refine tn ?_
    refine Wp_cond_true rfl ?_
    refine Wp_seq ?_
    refine Wp_region_lit ?_
    refine W_v (.bool false) (x_assign rfl) rfl ?_
    refine Wl_nil ?_
    refine tn ?_
    refine Wp_ret ?_
    refine tr (?_)
    obtain rfl := Option.some.inj H
    exact ⟨_, _, _, fun w1 e1 => run_resR (vs := [.bool false]) (FA.cons (rfl) (FA.nil)), HM, E, S.pick [] (by decide), ⟨rfl, rfl⟩⟩
  · skip
    replace H := elimR H
    refine W_call fn14 (event_New_v.con k M (2 : Int) (Sum.inr t4)  ht2) (Γ1 := []) (Γ2 := []) S rfl rfl ?_
    rintro _ w16 M17 Γ' hM18 E' S ⟨b8, A10, c11, A13, c14, rfl, rfl⟩
    replace HM := Hp.le_trans HM hM18
    replace E := E.trans E'
    clear E'
    replace S : St w16 M17 F [Blk b8 (.cells #[.slice A10 t4.tasks.length c11, .slice A13 t4.l.length c14] 73 (0, 0)), Row r_event_task 70 (.slice A10 t4.tasks.length c11) t4.tasks, Row r_api_Event 32 (.slice A13 t4.l.length c14) t4.l] := S
    refine W_v (.tuple #[.pointer (some ⟨b8, 0, none⟩), .int .i64 0]) (x_move rfl) rfl ?_
    refine W_v (.pointer (some ⟨b8, 0, none⟩)) (x_extract rfl rfl) rfl ?_
    refine W_v (.int .i64 0) (x_extract rfl rfl) rfl ?_
    refine W_v (.pointer (some ⟨b8, 0, none⟩)) (x_assign rfl) rfl ?_
    refine W_v (.int .i64 0) (x_assign rfl) rfl ?_
    refine Wl_nil ?_
    refine tn ?_
    refine Wp_seq ?_
    refine Wp_seq ?_
    refine Wp_region_lit ?_
    refine W_v (.int .i64 0) (x_move rfl) rfl ?_
    refine W_v (.bool false) (x_ibin rfl rfl rfl rfl) rfl ?_
    refine W_v (.bool false) (x_move rfl) rfl ?_
    refine W_yes (rfl) ?_
    refine W_v (.pointer (some ⟨b8, 0, none⟩)) (x_move rfl) rfl ?_
    refine W_yes (rfl) ?_
    obtain ⟨t19, ht20, H⟩ := bindS H
    refine W_call fn30 (event_Recorder_Invoke_POO.con k M17 A10 c11 A13 c14 t4 (0 : Int) b8 t19  ht20) (Γ1 := [Blk b8 (.cells #[.slice A10 t4.tasks.length c11, .slice A13 t4.l.length c14] 73 (0, 0)), Row r_event_task 70 (.slice A10 t4.tasks.length c11) t4.tasks, Row r_api_Event 32 (.slice A13 t4.l.length c14) t4.l]) (Γ2 := []) S rfl rfl ?_
    rintro _ w27 M28 Γ' hM29 E' S ⟨A21, c22, A24, c25, rfl, rfl⟩
    replace HM := Hp.le_trans HM hM29
    replace E := E.trans E'
    clear E'
    replace S : St w27 M28 F [Blk b8 (.cells #[.slice A21 t19.2.tasks.length c22, .slice A24 t19.2.l.length c25] 73 (0, 0)), Row r_event_task 70 (.slice A21 t19.2.tasks.length c22) t19.2.tasks, Row r_api_Event 32 (.slice A24 t19.2.l.length c25) t19.2.l] := S
    refine W_yes (rfl) ?_
    refine W_v (.bool (t19.1 != (0 : Int))) (x_ibin rfl rfl rfl rfl) rfl ?_
    refine W_v (.bool (t19.1 != (0 : Int))) (x_pick (k := false) rfl rfl) rfl ?_
    refine W_v (.bool (t19.1 != (0 : Int))) (x_move rfl) rfl ?_
    obtain ⟨o62, o62h, o62H⟩ := bindS H
    clear H
    refine Wl_cutN 4 (fun ρ w' => ∃ (x53 : Bool) (x54 : List event_task) (x58 : List api_Event) (A55 : Option Addr) (c56 : Nat) (A59 : Option Addr) (c60 : Nat) (Mj : Hp), (x53, x54, x58) = o62 ∧ Agree ρ [(1, .pointer (some ⟨b8, 0, none⟩)), (20, .bool x53)] ∧ M28.le Mj ∧ Ext w w' ∧ St w' Mj F [Row r_api_Event 32 (.slice A59 x58.length c60) x58, Row r_event_task 70 (.slice A55 x54.length c56) x54, Blk b8 (.cells #[.slice A55 x54.length c56, .slice A59 x58.length c60] 73 (0, 0))]) ?_ ?_
    · have H := o62h
      have LE63 := Hp.le_refl M28
      rcases iteS H with ⟨hb52, H⟩ | ⟨hb52, H⟩
      · skip
        refine W_no (skF hb52) rfl ?_
        refine W_no (skF hb52) rfl ?_
        refine W_no (skF hb52) rfl ?_
        refine W_v (.bool true) (x_pick (k := true) (congrArg Value.bool hb52) rfl) rfl ?_
        refine Wl_nil ?_
        exact ⟨true, t19.2.tasks, t19.2.l, A21, c22, A24, c25, M28, Option.some.inj H, ⟨rfl, rfl, trivial⟩, (Hp.le_refl M28), E, S.pick [2, 1, 0] (by decide)⟩
      · skip
        refine W_yes (congrArg some hb52) ?_
        refine W_v (.pointer (some ⟨b8, 0, none⟩)) (x_move rfl) rfl ?_
        refine W_yes (congrArg some hb52) ?_
        obtain ⟨t64, ht65, H⟩ := bindS H
        refine W_call fn30 (event_Recorder_Invoke_POO.con k M28 A21 c22 A24 c25 t19.2 (0 : Int) b8 t64  ht65) (Γ1 := [Blk b8 (.cells #[.slice A21 t19.2.tasks.length c22, .slice A24 t19.2.l.length c25] 73 (0, 0)), Row r_event_task 70 (.slice A21 t19.2.tasks.length c22) t19.2.tasks, Row r_api_Event 32 (.slice A24 t19.2.l.length c25) t19.2.l]) (Γ2 := []) S rfl rfl ?_
        rintro _ w72 M73 Γ' hM74 E' S ⟨A66, c67, A69, c70, rfl, rfl⟩
        replace HM := Hp.le_trans HM hM74
        replace LE63 := Hp.le_trans LE63 hM74
        replace E := E.trans E'
        clear E'
        replace S : St w72 M73 F [Blk b8 (.cells #[.slice A66 t64.2.tasks.length c67, .slice A69 t64.2.l.length c70] 73 (0, 0)), Row r_event_task 70 (.slice A66 t64.2.tasks.length c67) t64.2.tasks, Row r_api_Event 32 (.slice A69 t64.2.l.length c70) t64.2.l] := S
        refine W_yes (congrArg some hb52) ?_
        refine W_v (.bool (t64.1 != (7 : Int))) (x_ibin rfl rfl rfl rfl) rfl ?_
        refine W_v (.bool (t64.1 != (7 : Int))) (x_pick (k := false) (congrArg Value.bool hb52) rfl) rfl ?_
        refine Wl_nil ?_
        exact ⟨(t64.1 != (7 : Int)), t64.2.tasks, t64.2.l, A66, c67, A69, c70, M73, Option.some.inj H, ⟨rfl, rfl, trivial⟩, LE63, E, S.pick [2, 1, 0] (by decide)⟩
    clear o62h
    rintro ρ w75 ⟨x53, x54, x58, A55, c56, A59, c60, M76, rfl, hρ, hM77, E, S⟩
    rw [agree_eta hρ]
    clear hρ
    replace HM := Hp.le_trans HM hM77
    have H := o62H
    clear o62H
    refine W_v (.bool x53) (x_move rfl) rfl ?_
    obtain ⟨o110, o110h, o110H⟩ := bindS H
    clear H
    refine Wl_cutN 5 (fun ρ w' => ∃ (x101 : Bool) (x102 : List event_task) (x106 : List api_Event) (A103 : Option Addr) (c104 : Nat) (A107 : Option Addr) (c108 : Nat) (Mj : Hp), (x101, x102, x106) = o110 ∧ Agree ρ [(1, .pointer (some ⟨b8, 0, none⟩)), (26, .bool x101)] ∧ M76.le Mj ∧ Ext w w' ∧ St w' Mj F [Row r_api_Event 32 (.slice A107 x106.length c108) x106, Row r_event_task 70 (.slice A103 x102.length c104) x102, Blk b8 (.cells #[.slice A103 x102.length c104, .slice A107 x106.length c108] 73 (0, 0))]) ?_ ?_
    · have H := o110h
      have LE111 := Hp.le_refl M76
      rcases iteS H with ⟨hb100, H⟩ | ⟨hb100, H⟩
      · skip
        refine W_no (skF hb100) rfl ?_
        refine W_no (skF hb100) rfl ?_
        refine W_no (skF hb100) rfl ?_
        refine W_no (skF hb100) rfl ?_
        refine W_v (.bool true) (x_pick (k := true) (congrArg Value.bool hb100) rfl) rfl ?_
        refine Wl_nil ?_
        exact ⟨true, x54, x58, A55, c56, A59, c60, M76, Option.some.inj H, ⟨rfl, rfl, trivial⟩, (Hp.le_refl M76), E, S.pick [0, 1, 2] (by decide)⟩
      · skip
        refine W_yes (congrArg some hb100) ?_
        refine W_v (.pointer (some ⟨b8, 0, none⟩)) (x_move rfl) rfl ?_
        refine W_yes (congrArg some hb100) ?_
        refine W_v (.agg #[.int .i64 0, .bool false, .string (bs ([] : Str)), .slice none 0 0]) (x_build2 (pl := [(0, 1), (1, 1), (2, 1), (3, 1)]) #[.int .i64 0, .bool false, .string (bs ([] : Str)), .slice none 0 0] Try.underlying30 ty30 (by kernel_rfl) rfl (by kernel_rfl)) rfl ?_
        refine W_yes (congrArg some hb100) ?_
        obtain ⟨t112, ht113, H⟩ := bindS H
        replace S : St w75 M76 F [Blk b8 (.cells #[.slice A55 x54.length c56, .slice A59 x58.length c60] 73 (0, 0)), Row r_event_task 70 (.slice A55 x54.length c56) x54, Row r_api_Event 32 (.slice A59 x58.length c60) x58] := S.pick [2, 1, 0] (by decide)
        refine W_call fn32 (event_Recorder_Return_POO.con k M76 A55 c56 A59 c60 (⟨x54, x58⟩ : event_Recorder) (0 : Int) none 0 (⟨(0 : Int), false, ([] : Str), ([] : (List api_Pair))⟩ : api_Answer) b8 t112 (SlW.nil _ _) ht113) (Γ1 := [Blk b8 (.cells #[.slice A55 x54.length c56, .slice A59 x58.length c60] 73 (0, 0)), Row r_event_task 70 (.slice A55 x54.length c56) x54, Row r_api_Event 32 (.slice A59 x58.length c60) x58]) (Γ2 := []) S rfl rfl ?_
        rintro _ w120 M121 Γ' hM122 E' S ⟨A114, c115, A117, c118, rfl, rfl⟩
        replace HM := Hp.le_trans HM hM122
        replace hM77 := Hp.le_trans hM77 hM122
        replace LE111 := Hp.le_trans LE111 hM122
        replace E := E.trans E'
        clear E'
        replace S : St w120 M121 F [Blk b8 (.cells #[.slice A114 t112.2.tasks.length c115, .slice A117 t112.2.l.length c118] 73 (0, 0)), Row r_event_task 70 (.slice A114 t112.2.tasks.length c115) t112.2.tasks, Row r_api_Event 32 (.slice A117 t112.2.l.length c118) t112.2.l] := S
        refine W_yes (congrArg some hb100) ?_
        refine W_v (.bool (t112.1 != (7 : Int))) (x_ibin rfl rfl rfl rfl) rfl ?_
        refine W_v (.bool (t112.1 != (7 : Int))) (x_pick (k := false) (congrArg Value.bool hb100) rfl) rfl ?_
        refine Wl_nil ?_
        exact ⟨(t112.1 != (7 : Int)), t112.2.tasks, t112.2.l, A114, c115, A117, c118, M121, Option.some.inj H, ⟨rfl, rfl, trivial⟩, LE111, E, S.pick [2, 1, 0] (by decide)⟩
    clear o110h
    rintro ρ w123 ⟨x101, x102, x106, A103, c104, A107, c108, M124, rfl, hρ, hM125, E, S⟩
    rw [agree_eta hρ]
    clear hρ
    replace HM := Hp.le_trans HM hM125
    replace hM77 := Hp.le_trans hM77 hM125
    have H := o110H
    clear o110H
    refine W_v (.bool x101) (x_move rfl) rfl ?_
    obtain ⟨o158, o158h, o158H⟩ := bindS H
    clear H
    refine Wl_cutN 4 (fun ρ w' => ∃ (x149 : Bool) (x150 : List event_task) (x154 : List api_Event) (A151 : Option Addr) (c152 : Nat) (A155 : Option Addr) (c156 : Nat) (Mj : Hp), (x149, x150, x154) = o158 ∧ Agree ρ [(1, .pointer (some ⟨b8, 0, none⟩)), (31, .bool x149)] ∧ M124.le Mj ∧ Ext w w' ∧ St w' Mj F [Row r_api_Event 32 (.slice A155 x154.length c156) x154, Row r_event_task 70 (.slice A151 x150.length c152) x150, Blk b8 (.cells #[.slice A151 x150.length c152, .slice A155 x154.length c156] 73 (0, 0))]) ?_ ?_
    · have H := o158h
      have LE159 := Hp.le_refl M124
      rcases iteS H with ⟨hb148, H⟩ | ⟨hb148, H⟩
      · skip
        refine W_no (skF hb148) rfl ?_
        refine W_no (skF hb148) rfl ?_
        refine W_no (skF hb148) rfl ?_
        refine W_v (.bool true) (x_pick (k := true) (congrArg Value.bool hb148) rfl) rfl ?_
        refine Wl_nil ?_
        exact ⟨true, x102, x106, A103, c104, A107, c108, M124, Option.some.inj H, ⟨rfl, rfl, trivial⟩, (Hp.le_refl M124), E, S.pick [0, 1, 2] (by decide)⟩
      · skip
        refine W_yes (congrArg some hb148) ?_
        refine W_v (.pointer (some ⟨b8, 0, none⟩)) (x_move rfl) rfl ?_
        refine W_yes (congrArg some hb148) ?_
        obtain ⟨t160, ht161, H⟩ := bindS H
        replace S : St w123 M124 F [Blk b8 (.cells #[.slice A103 x102.length c104, .slice A107 x106.length c108] 73 (0, 0)), Row r_event_task 70 (.slice A103 x102.length c104) x102, Row r_api_Event 32 (.slice A107 x106.length c108) x106] := S.pick [2, 1, 0] (by decide)
        refine W_call fn30 (event_Recorder_Invoke_POO.con k M124 A103 c104 A107 c108 (⟨x102, x106⟩ : event_Recorder) (1 : Int) b8 t160  ht161) (Γ1 := [Blk b8 (.cells #[.slice A103 x102.length c104, .slice A107 x106.length c108] 73 (0, 0)), Row r_event_task 70 (.slice A103 x102.length c104) x102, Row r_api_Event 32 (.slice A107 x106.length c108) x106]) (Γ2 := []) S rfl rfl ?_
        rintro _ w168 M169 Γ' hM170 E' S ⟨A162, c163, A165, c166, rfl, rfl⟩
        replace HM := Hp.le_trans HM hM170
        replace hM77 := Hp.le_trans hM77 hM170
        replace hM125 := Hp.le_trans hM125 hM170
        replace LE159 := Hp.le_trans LE159 hM170
        replace E := E.trans E'
        clear E'
        replace S : St w168 M169 F [Blk b8 (.cells #[.slice A162 t160.2.tasks.length c163, .slice A165 t160.2.l.length c166] 73 (0, 0)), Row r_event_task 70 (.slice A162 t160.2.tasks.length c163) t160.2.tasks, Row r_api_Event 32 (.slice A165 t160.2.l.length c166) t160.2.l] := S
        refine W_yes (congrArg some hb148) ?_
        refine W_v (.bool (t160.1 != (0 : Int))) (x_ibin rfl rfl rfl rfl) rfl ?_
        refine W_v (.bool (t160.1 != (0 : Int))) (x_pick (k := false) (congrArg Value.bool hb148) rfl) rfl ?_
        refine Wl_nil ?_
        exact ⟨(t160.1 != (0 : Int)), t160.2.tasks, t160.2.l, A162, c163, A165, c166, M169, Option.some.inj H, ⟨rfl, rfl, trivial⟩, LE159, E, S.pick [2, 1, 0] (by decide)⟩
    clear o158h
    rintro ρ w171 ⟨x149, x150, x154, A151, c152, A155, c156, M172, rfl, hρ, hM173, E, S⟩
    rw [agree_eta hρ]
    clear hρ
    replace HM := Hp.le_trans HM hM173
    replace hM77 := Hp.le_trans hM77 hM173
    replace hM125 := Hp.le_trans hM125 hM173
    have H := o158H
    clear o158H
    refine W_v (.bool x149) (x_move rfl) rfl ?_
    obtain ⟨o206, o206h, o206H⟩ := bindS H
    clear H
    refine Wl_cutN 4 (fun ρ w' => ∃ (x197 : Bool) (x198 : List event_task) (x202 : List api_Event) (A199 : Option Addr) (c200 : Nat) (A203 : Option Addr) (c204 : Nat) (Mj : Hp), (x197, x198, x202) = o206 ∧ Agree ρ [(1, .pointer (some ⟨b8, 0, none⟩)), (36, .bool x197)] ∧ M172.le Mj ∧ Ext w w' ∧ St w' Mj F [Row r_api_Event 32 (.slice A203 x202.length c204) x202, Row r_event_task 70 (.slice A199 x198.length c200) x198, Blk b8 (.cells #[.slice A199 x198.length c200, .slice A203 x202.length c204] 73 (0, 0))]) ?_ ?_
    · have H := o206h
      have LE207 := Hp.le_refl M172
      rcases iteS H with ⟨hb196, H⟩ | ⟨hb196, H⟩
      · skip
        refine W_no (skF hb196) rfl ?_
        refine W_no (skF hb196) rfl ?_
        refine W_no (skF hb196) rfl ?_
        refine W_v (.bool true) (x_pick (k := true) (congrArg Value.bool hb196) rfl) rfl ?_
        refine Wl_nil ?_
        exact ⟨true, x150, x154, A151, c152, A155, c156, M172, Option.some.inj H, ⟨rfl, rfl, trivial⟩, (Hp.le_refl M172), E, S.pick [0, 1, 2] (by decide)⟩
      · skip
        refine W_yes (congrArg some hb196) ?_
        refine W_v (.pointer (some ⟨b8, 0, none⟩)) (x_move rfl) rfl ?_
        refine W_yes (congrArg some hb196) ?_
        obtain ⟨t208, ht209, H⟩ := bindS H
        replace S : St w171 M172 F [Blk b8 (.cells #[.slice A151 x150.length c152, .slice A155 x154.length c156] 73 (0, 0)), Row r_event_task 70 (.slice A151 x150.length c152) x150, Row r_api_Event 32 (.slice A155 x154.length c156) x154] := S.pick [2, 1, 0] (by decide)
        refine W_call fn31 (event_Recorder_Mark_POO.con k M172 A151 c152 A155 c156 (⟨x150, x154⟩ : event_Recorder) (1 : Int) b8 t208  ht209) (Γ1 := [Blk b8 (.cells #[.slice A151 x150.length c152, .slice A155 x154.length c156] 73 (0, 0)), Row r_event_task 70 (.slice A151 x150.length c152) x150, Row r_api_Event 32 (.slice A155 x154.length c156) x154]) (Γ2 := []) S rfl rfl ?_
        rintro _ w216 M217 Γ' hM218 E' S ⟨A210, c211, A213, c214, rfl, rfl⟩
        replace HM := Hp.le_trans HM hM218
        replace hM77 := Hp.le_trans hM77 hM218
        replace hM125 := Hp.le_trans hM125 hM218
        replace hM173 := Hp.le_trans hM173 hM218
        replace LE207 := Hp.le_trans LE207 hM218
        replace E := E.trans E'
        clear E'
        replace S : St w216 M217 F [Blk b8 (.cells #[.slice A210 t208.2.tasks.length c211, .slice A213 t208.2.l.length c214] 73 (0, 0)), Row r_event_task 70 (.slice A210 t208.2.tasks.length c211) t208.2.tasks, Row r_api_Event 32 (.slice A213 t208.2.l.length c214) t208.2.l] := S
        refine W_yes (congrArg some hb196) ?_
        refine W_v (.bool (t208.1 != (0 : Int))) (x_ibin rfl rfl rfl rfl) rfl ?_
        refine W_v (.bool (t208.1 != (0 : Int))) (x_pick (k := false) (congrArg Value.bool hb196) rfl) rfl ?_
        refine Wl_nil ?_
        exact ⟨(t208.1 != (0 : Int)), t208.2.tasks, t208.2.l, A210, c211, A213, c214, M217, Option.some.inj H, ⟨rfl, rfl, trivial⟩, LE207, E, S.pick [2, 1, 0] (by decide)⟩
    clear o206h
    rintro ρ w219 ⟨x197, x198, x202, A199, c200, A203, c204, M220, rfl, hρ, hM221, E, S⟩
    rw [agree_eta hρ]
    clear hρ
    replace HM := Hp.le_trans HM hM221
    replace hM77 := Hp.le_trans hM77 hM221
    replace hM125 := Hp.le_trans hM125 hM221
    replace hM173 := Hp.le_trans hM173 hM221
    have H := o206H
    clear o206H
    refine W_v (.bool x197) (x_move rfl) rfl ?_
    obtain ⟨o254, o254h, o254H⟩ := bindS H
    clear H
    refine Wl_cutN 4 (fun ρ w' => ∃ (x245 : Bool) (x246 : List event_task) (x250 : List api_Event) (A247 : Option Addr) (c248 : Nat) (A251 : Option Addr) (c252 : Nat) (Mj : Hp), (x245, x246, x250) = o254 ∧ Agree ρ [(1, .pointer (some ⟨b8, 0, none⟩)), (41, .bool x245)] ∧ M220.le Mj ∧ Ext w w' ∧ St w' Mj F [Row r_api_Event 32 (.slice A251 x250.length c252) x250, Row r_event_task 70 (.slice A247 x246.length c248) x246, Blk b8 (.cells #[.slice A247 x246.length c248, .slice A251 x250.length c252] 73 (0, 0))]) ?_ ?_
    · have H := o254h
      have LE255 := Hp.le_refl M220
      rcases iteS H with ⟨hb244, H⟩ | ⟨hb244, H⟩
      · skip
        refine W_no (skF hb244) rfl ?_
        refine W_no (skF hb244) rfl ?_
        refine W_no (skF hb244) rfl ?_
        refine W_v (.bool true) (x_pick (k := true) (congrArg Value.bool hb244) rfl) rfl ?_
        refine Wl_nil ?_
        exact ⟨true, x198, x202, A199, c200, A203, c204, M220, Option.some.inj H, ⟨rfl, rfl, trivial⟩, (Hp.le_refl M220), E, S.pick [0, 1, 2] (by decide)⟩
      · skip
        refine W_yes (congrArg some hb244) ?_
        refine W_v (.pointer (some ⟨b8, 0, none⟩)) (x_move rfl) rfl ?_
        refine W_yes (congrArg some hb244) ?_
        obtain ⟨t256, ht257, H⟩ := bindS H
        replace S : St w219 M220 F [Blk b8 (.cells #[.slice A199 x198.length c200, .slice A203 x202.length c204] 73 (0, 0)), Row r_event_task 70 (.slice A199 x198.length c200) x198, Row r_api_Event 32 (.slice A203 x202.length c204) x202] := S.pick [2, 1, 0] (by decide)
        refine W_call fn31 (event_Recorder_Mark_POO.con k M220 A199 c200 A203 c204 (⟨x198, x202⟩ : event_Recorder) (0 : Int) b8 t256  ht257) (Γ1 := [Blk b8 (.cells #[.slice A199 x198.length c200, .slice A203 x202.length c204] 73 (0, 0)), Row r_event_task 70 (.slice A199 x198.length c200) x198, Row r_api_Event 32 (.slice A203 x202.length c204) x202]) (Γ2 := []) S rfl rfl ?_
        rintro _ w264 M265 Γ' hM266 E' S ⟨A258, c259, A261, c262, rfl, rfl⟩
        replace HM := Hp.le_trans HM hM266
        replace hM77 := Hp.le_trans hM77 hM266
        replace hM125 := Hp.le_trans hM125 hM266
        replace hM173 := Hp.le_trans hM173 hM266
        replace hM221 := Hp.le_trans hM221 hM266
        replace LE255 := Hp.le_trans LE255 hM266
        replace E := E.trans E'
        clear E'
        replace S : St w264 M265 F [Blk b8 (.cells #[.slice A258 t256.2.tasks.length c259, .slice A261 t256.2.l.length c262] 73 (0, 0)), Row r_event_task 70 (.slice A258 t256.2.tasks.length c259) t256.2.tasks, Row r_api_Event 32 (.slice A261 t256.2.l.length c262) t256.2.l] := S
        refine W_yes (congrArg some hb244) ?_
        refine W_v (.bool (t256.1 != (0 : Int))) (x_ibin rfl rfl rfl rfl) rfl ?_
        refine W_v (.bool (t256.1 != (0 : Int))) (x_pick (k := false) (congrArg Value.bool hb244) rfl) rfl ?_
        refine Wl_nil ?_
        exact ⟨(t256.1 != (0 : Int)), t256.2.tasks, t256.2.l, A258, c259, A261, c262, M265, Option.some.inj H, ⟨rfl, rfl, trivial⟩, LE255, E, S.pick [2, 1, 0] (by decide)⟩
    clear o254h
    rintro ρ w267 ⟨x245, x246, x250, A247, c248, A251, c252, M268, rfl, hρ, hM269, E, S⟩
    rw [agree_eta hρ]
    clear hρ
    replace HM := Hp.le_trans HM hM269
    replace hM77 := Hp.le_trans hM77 hM269
    replace hM125 := Hp.le_trans hM125 hM269
    replace hM173 := Hp.le_trans hM173 hM269
    replace hM221 := Hp.le_trans hM221 hM269
    have H := o254H
    clear o254H
    refine W_v (.bool x245) (x_move rfl) rfl ?_
    obtain ⟨o302, o302h, o302H⟩ := bindS H
    clear H
    refine Wl_cutN 5 (fun ρ w' => ∃ (x293 : Bool) (x294 : List event_task) (x298 : List api_Event) (A295 : Option Addr) (c296 : Nat) (A299 : Option Addr) (c300 : Nat) (Mj : Hp), (x293, x294, x298) = o302 ∧ Agree ρ [(1, .pointer (some ⟨b8, 0, none⟩)), (47, .bool x293)] ∧ M268.le Mj ∧ Ext w w' ∧ St w' Mj F [Row r_api_Event 32 (.slice A299 x298.length c300) x298, Row r_event_task 70 (.slice A295 x294.length c296) x294, Blk b8 (.cells #[.slice A295 x294.length c296, .slice A299 x298.length c300] 73 (0, 0))]) ?_ ?_
    · have H := o302h
      have LE303 := Hp.le_refl M268
      rcases iteS H with ⟨hb292, H⟩ | ⟨hb292, H⟩
      · skip
        refine W_no (skF hb292) rfl ?_
        refine W_no (skF hb292) rfl ?_
        refine W_no (skF hb292) rfl ?_
        refine W_no (skF hb292) rfl ?_
        refine W_v (.bool true) (x_pick (k := true) (congrArg Value.bool hb292) rfl) rfl ?_
        refine Wl_nil ?_
        exact ⟨true, x246, x250, A247, c248, A251, c252, M268, Option.some.inj H, ⟨rfl, rfl, trivial⟩, (Hp.le_refl M268), E, S.pick [0, 1, 2] (by decide)⟩
      · skip
        refine W_yes (congrArg some hb292) ?_
        refine W_v (.pointer (some ⟨b8, 0, none⟩)) (x_move rfl) rfl ?_
        refine W_yes (congrArg some hb292) ?_
        refine W_v (.agg #[.int .i64 0, .bool true, .string (bs ([] : Str)), .slice none 0 0]) (x_build2 (pl := [(0, 1), (1, 1), (2, 1), (3, 1)]) #[.int .i64 0, .bool true, .string (bs ([] : Str)), .slice none 0 0] Try.underlying30 ty30 (by kernel_rfl) rfl (by kernel_rfl)) rfl ?_
        refine W_yes (congrArg some hb292) ?_
        obtain ⟨t304, ht305, H⟩ := bindS H
        replace S : St w267 M268 F [Blk b8 (.cells #[.slice A247 x246.length c248, .slice A251 x250.length c252] 73 (0, 0)), Row r_event_task 70 (.slice A247 x246.length c248) x246, Row r_api_Event 32 (.slice A251 x250.length c252) x250] := S.pick [2, 1, 0] (by decide)
        refine W_call fn32 (event_Recorder_Return_POO.con k M268 A247 c248 A251 c252 (⟨x246, x250⟩ : event_Recorder) (0 : Int) none 0 (⟨(0 : Int), true, ([] : Str), ([] : (List api_Pair))⟩ : api_Answer) b8 t304 (SlW.nil _ _) ht305) (Γ1 := [Blk b8 (.cells #[.slice A247 x246.length c248, .slice A251 x250.length c252] 73 (0, 0)), Row r_event_task 70 (.slice A247 x246.length c248) x246, Row r_api_Event 32 (.slice A251 x250.length c252) x250]) (Γ2 := []) S rfl rfl ?_
        rintro _ w312 M313 Γ' hM314 E' S ⟨A306, c307, A309, c310, rfl, rfl⟩
        replace HM := Hp.le_trans HM hM314
        replace hM77 := Hp.le_trans hM77 hM314
        replace hM125 := Hp.le_trans hM125 hM314
        replace hM173 := Hp.le_trans hM173 hM314
        replace hM221 := Hp.le_trans hM221 hM314
        replace hM269 := Hp.le_trans hM269 hM314
        replace LE303 := Hp.le_trans LE303 hM314
        replace E := E.trans E'
        clear E'
        replace S : St w312 M313 F [Blk b8 (.cells #[.slice A306 t304.2.tasks.length c307, .slice A309 t304.2.l.length c310] 73 (0, 0)), Row r_event_task 70 (.slice A306 t304.2.tasks.length c307) t304.2.tasks, Row r_api_Event 32 (.slice A309 t304.2.l.length c310) t304.2.l] := S
        refine W_yes (congrArg some hb292) ?_
        refine W_v (.bool (t304.1 != (0 : Int))) (x_ibin rfl rfl rfl rfl) rfl ?_
        refine W_v (.bool (t304.1 != (0 : Int))) (x_pick (k := false) (congrArg Value.bool hb292) rfl) rfl ?_
        refine Wl_nil ?_
        exact ⟨(t304.1 != (0 : Int)), t304.2.tasks, t304.2.l, A306, c307, A309, c310, M313, Option.some.inj H, ⟨rfl, rfl, trivial⟩, LE303, E, S.pick [2, 1, 0] (by decide)⟩
    clear o302h
    rintro ρ w315 ⟨x293, x294, x298, A295, c296, A299, c300, M316, rfl, hρ, hM317, E, S⟩
    rw [agree_eta hρ]
    clear hρ
    replace HM := Hp.le_trans HM hM317
    replace hM77 := Hp.le_trans hM77 hM317
    replace hM125 := Hp.le_trans hM125 hM317
    replace hM173 := Hp.le_trans hM173 hM317
    replace hM221 := Hp.le_trans hM221 hM317
    replace hM269 := Hp.le_trans hM269 hM317
    have H := o302H
    clear o302H
    refine W_v (.bool x293) (x_move rfl) rfl ?_
    obtain ⟨o350, o350h, o350H⟩ := bindS H
    clear H
    refine Wl_cutN 4 (fun ρ w' => ∃ (x341 : Bool) (x342 : List event_task) (x346 : List api_Event) (A343 : Option Addr) (c344 : Nat) (A347 : Option Addr) (c348 : Nat) (Mj : Hp), (x341, x342, x346) = o350 ∧ Agree ρ [(1, .pointer (some ⟨b8, 0, none⟩)), (52, .bool x341)] ∧ M316.le Mj ∧ Ext w w' ∧ St w' Mj F [Row r_api_Event 32 (.slice A347 x346.length c348) x346, Row r_event_task 70 (.slice A343 x342.length c344) x342, Blk b8 (.cells #[.slice A343 x342.length c344, .slice A347 x346.length c348] 73 (0, 0))]) ?_ ?_
    · have H := o350h
      have LE351 := Hp.le_refl M316
      rcases iteS H with ⟨hb340, H⟩ | ⟨hb340, H⟩
      · skip
        refine W_no (skF hb340) rfl ?_
        refine W_no (skF hb340) rfl ?_
        refine W_no (skF hb340) rfl ?_
        refine W_v (.bool true) (x_pick (k := true) (congrArg Value.bool hb340) rfl) rfl ?_
        refine Wl_nil ?_
        exact ⟨true, x294, x298, A295, c296, A299, c300, M316, Option.some.inj H, ⟨rfl, rfl, trivial⟩, (Hp.le_refl M316), E, S.pick [0, 1, 2] (by decide)⟩
      · skip
        refine W_yes (congrArg some hb340) ?_
        refine W_v (.pointer (some ⟨b8, 0, none⟩)) (x_move rfl) rfl ?_
        refine W_yes (congrArg some hb340) ?_
        obtain ⟨t352, ht353, H⟩ := bindS H
        replace S : St w315 M316 F [Blk b8 (.cells #[.slice A295 x294.length c296, .slice A299 x298.length c300] 73 (0, 0)), Row r_event_task 70 (.slice A295 x294.length c296) x294, Row r_api_Event 32 (.slice A299 x298.length c300) x298] := S.pick [2, 1, 0] (by decide)
        refine W_call fn30 (event_Recorder_Invoke_POO.con k M316 A295 c296 A299 c300 (⟨x294, x298⟩ : event_Recorder) (2 : Int) b8 t352  ht353) (Γ1 := [Blk b8 (.cells #[.slice A295 x294.length c296, .slice A299 x298.length c300] 73 (0, 0)), Row r_event_task 70 (.slice A295 x294.length c296) x294, Row r_api_Event 32 (.slice A299 x298.length c300) x298]) (Γ2 := []) S rfl rfl ?_
        rintro _ w360 M361 Γ' hM362 E' S ⟨A354, c355, A357, c358, rfl, rfl⟩
        replace HM := Hp.le_trans HM hM362
        replace hM77 := Hp.le_trans hM77 hM362
        replace hM125 := Hp.le_trans hM125 hM362
        replace hM173 := Hp.le_trans hM173 hM362
        replace hM221 := Hp.le_trans hM221 hM362
        replace hM269 := Hp.le_trans hM269 hM362
        replace hM317 := Hp.le_trans hM317 hM362
        replace LE351 := Hp.le_trans LE351 hM362
        replace E := E.trans E'
        clear E'
        replace S : St w360 M361 F [Blk b8 (.cells #[.slice A354 t352.2.tasks.length c355, .slice A357 t352.2.l.length c358] 73 (0, 0)), Row r_event_task 70 (.slice A354 t352.2.tasks.length c355) t352.2.tasks, Row r_api_Event 32 (.slice A357 t352.2.l.length c358) t352.2.l] := S
        refine W_yes (congrArg some hb340) ?_
        refine W_v (.bool (t352.1 != (1 : Int))) (x_ibin rfl rfl rfl rfl) rfl ?_
        refine W_v (.bool (t352.1 != (1 : Int))) (x_pick (k := false) (congrArg Value.bool hb340) rfl) rfl ?_
        refine Wl_nil ?_
        exact ⟨(t352.1 != (1 : Int)), t352.2.tasks, t352.2.l, A354, c355, A357, c358, M361, Option.some.inj H, ⟨rfl, rfl, trivial⟩, LE351, E, S.pick [2, 1, 0] (by decide)⟩
    clear o350h
    rintro ρ w363 ⟨x341, x342, x346, A343, c344, A347, c348, M364, rfl, hρ, hM365, E, S⟩
    rw [agree_eta hρ]
    clear hρ
    replace HM := Hp.le_trans HM hM365
    replace hM77 := Hp.le_trans hM77 hM365
    replace hM125 := Hp.le_trans hM125 hM365
    replace hM173 := Hp.le_trans hM173 hM365
    replace hM221 := Hp.le_trans hM221 hM365
    replace hM269 := Hp.le_trans hM269 hM365
    replace hM317 := Hp.le_trans hM317 hM365
    have H := o350H
    clear o350H
    refine Wl_nil ?_
    refine tn ?_
    rcases iteS H with ⟨hb366, H⟩ | ⟨hb366, H⟩
    · refine Wp_cond_true (congrArg Value.bool hb366) ?_
      refine Wp_seq ?_
      refine Wp_region_lit ?_
      refine W_v (.bool false) (x_assign rfl) rfl ?_
      refine Wl_nil ?_
      refine tn ?_
      refine Wp_ret ?_
      refine tr (?_)
      obtain rfl := Option.some.inj H
      exact ⟨_, _, _, fun w1 e1 => run_resR (vs := [.bool false]) (FA.cons (rfl) (FA.nil)), HM, E, S.pick [] (by decide), ⟨rfl, rfl⟩⟩
    refine Wp_cond_false (congrArg Value.bool hb366) ?_
    refine Wp_skip ?_
    refine tn ?_
    refine Wp_seq ?_
    refine Wp_region_lit ?_
    refine W_v (.pointer (some ⟨b8, 0, none⟩)) (x_move rfl) rfl ?_
    obtain ⟨t367, ht368, H⟩ := bindS H
    replace S : St w363 M364 F [Blk b8 (.cells #[.slice A343 x342.length c344, .slice A347 x346.length c348] 73 (0, 0)), Row r_event_task 70 (.slice A343 x342.length c344) x342, Row r_api_Event 32 (.slice A347 x346.length c348) x346] := S.pick [2, 1, 0] (by decide)
    refine W_call fn19 (event_Recorder_Events_POO.con k M364 A343 c344 A347 c348 (⟨x342, x346⟩ : event_Recorder) b8 t367  ht368) (Γ1 := [Blk b8 (.cells #[.slice A343 x342.length c344, .slice A347 x346.length c348] 73 (0, 0)), Row r_event_task 70 (.slice A343 x342.length c344) x342, Row r_api_Event 32 (.slice A347 x346.length c348) x346]) (Γ2 := []) S rfl rfl ?_
    rintro _ w372 M373 Γ' hM374 E' S ⟨A369, c370, rfl, rfl⟩
    replace HM := Hp.le_trans HM hM374
    replace hM77 := Hp.le_trans hM77 hM374
    replace hM125 := Hp.le_trans hM125 hM374
    replace hM173 := Hp.le_trans hM173 hM374
    replace hM221 := Hp.le_trans hM221 hM374
    replace hM269 := Hp.le_trans hM269 hM374
    replace hM317 := Hp.le_trans hM317 hM374
    replace hM365 := Hp.le_trans hM365 hM374
    replace E := E.trans E'
    clear E'
    replace S : St w372 M373 F [Row r_api_Event 32 (.slice A369 t367.length c370) t367, Blk b8 (.cells #[.slice A343 x342.length c344, .slice A347 x346.length c348] 73 (0, 0)), Row r_event_task 70 (.slice A343 x342.length c344) x342, Row r_api_Event 32 (.slice A347 x346.length c348) x346] := S
    refine W_v (.slice A369 t367.length c370) (x_assign rfl) rfl ?_
    refine Wl_nil ?_
    refine tn ?_
    refine Wp_seq ?_
    refine Wp_seq ?_
    refine Wp_region_lit ?_
    refine W_v (.slice A369 t367.length c370) (x_move rfl) rfl ?_
    refine W_v (.int .i64 (t367.length : Int)) (x_len_slice (n := t367.length) Try.underlying22 rfl) rfl ?_
    refine W_v (.bool ((t367.length : Int) != (5 : Int))) (x_ibin rfl rfl rfl rfl) rfl ?_
    refine W_v (.bool ((t367.length : Int) != (5 : Int))) (x_move rfl) rfl ?_
    obtain ⟨o405, o405h, o405H⟩ := bindS H
    clear H
    refine Wl_cutN 6 (fun ρ w' => ∃ (x404 : Bool), (x404) = o405 ∧ Agree ρ [(1, .pointer (some ⟨b8, 0, none⟩)), (3, .slice A369 t367.length c370), (64, .bool x404)] ∧ Ext w w' ∧ St w' M373 F [Row r_api_Event 32 (.slice A369 t367.length c370) t367, Blk b8 (.cells #[.slice A343 x342.length c344, .slice A347 x346.length c348] 73 (0, 0)), Row r_event_task 70 (.slice A343 x342.length c344) x342, Row r_api_Event 32 (.slice A347 x346.length c348) x346]) ?_ ?_
    · have H := o405h
      rcases iteS H with ⟨hb403, H⟩ | ⟨hb403, H⟩
      · skip
        refine W_no (skF hb403) rfl ?_
        refine W_no (skF hb403) rfl ?_
        refine W_no (skF hb403) rfl ?_
        refine W_no (skF hb403) rfl ?_
        refine W_no (skF hb403) rfl ?_
        refine W_v (.bool true) (x_pick (k := true) (congrArg Value.bool hb403) rfl) rfl ?_
        refine Wl_nil ?_
        exact ⟨true, Option.some.inj H, ⟨rfl, rfl, rfl, trivial⟩, E, S.pick [0, 1, 2, 3] (by decide)⟩
      · skip
        refine W_yes (congrArg some hb403) ?_
        refine W_v (.slice A369 t367.length c370) (x_move rfl) rfl ?_
        refine W_yes (congrArg some hb403) ?_
        obtain ⟨⟨p406, p407⟩, H⟩ := chkS H
        obtain ⟨b408, o409, cs410, _, _, ee415, hb411, vs412, hR413, hc414⟩ := SlW.at' (S.row_read 0 rfl) p406 p407
        obtain ⟨v419, hs418, rfl⟩ := hR413
        obtain ⟨A416, c417, rfl, _⟩ := hs418.form
        refine W_v (.pointer (some ⟨b408, o409 + (4 : Int).toNat * 7, none⟩)) (x_indexAddr Try.underlying22 ty32 (slA ee415) rfl p406 p407) rfl ?_
        refine W_yes (congrArg some hb403) ?_
        refine W_v (.pointer (some ⟨b408, o409 + (4 : Int).toNat * 7, none⟩)) (x_fieldAddr (o := o409 + (4 : Int).toNat * 7) (off := 0) Try.underlying32 rfl ty5 rfl rfl) rfl ?_
        refine W_yes (congrArg some hb403) ?_
        refine W_v (.int .u8 ((rd t367 (4 : Int)).What)) (x_load (Hp.of_get hb411) ty5 rfl (hc414 0 _ rfl)) rfl ?_
        refine W_yes (congrArg some hb403) ?_
        refine W_v (.bool ((rd t367 (4 : Int)).What != (3 : Int))) (x_ibin rfl rfl rfl rfl) rfl ?_
        refine W_v (.bool ((rd t367 (4 : Int)).What != (3 : Int))) (x_pick (k := false) (congrArg Value.bool hb403) rfl) rfl ?_
        refine Wl_nil ?_
        exact ⟨((rd t367 (4 : Int)).What != (3 : Int)), Option.some.inj H, ⟨rfl, rfl, rfl, trivial⟩, E, S.pick [0, 1, 2, 3] (by decide)⟩
    clear o405h
    rintro ρ w420 ⟨x404, rfl, hρ, E, S⟩
    rw [agree_eta hρ]
    clear hρ
    have H := o405H
    clear o405H
    refine W_v (.bool x404) (x_move rfl) rfl ?_
    obtain ⟨o451, o451h, o451H⟩ := bindS H
    clear H
    refine Wl_cutN 7 (fun ρ w' => ∃ (x450 : Bool), (x450) = o451 ∧ Agree ρ [(1, .pointer (some ⟨b8, 0, none⟩)), (3, .slice A369 t367.length c370), (72, .bool x450)] ∧ Ext w w' ∧ St w' M373 F [Row r_api_Event 32 (.slice A369 t367.length c370) t367, Blk b8 (.cells #[.slice A343 x342.length c344, .slice A347 x346.length c348] 73 (0, 0)), Row r_event_task 70 (.slice A343 x342.length c344) x342, Row r_api_Event 32 (.slice A347 x346.length c348) x346]) ?_ ?_
    · have H := o451h
      rcases iteS H with ⟨hb449, H⟩ | ⟨hb449, H⟩
      · skip
        refine W_no (skF hb449) rfl ?_
        refine W_no (skF hb449) rfl ?_
        refine W_no (skF hb449) rfl ?_
        refine W_no (skF hb449) rfl ?_
        refine W_no (skF hb449) rfl ?_
        refine W_no (skF hb449) rfl ?_
        refine W_v (.bool true) (x_pick (k := true) (congrArg Value.bool hb449) rfl) rfl ?_
        refine Wl_nil ?_
        exact ⟨true, Option.some.inj H, ⟨rfl, rfl, rfl, trivial⟩, E, S.pick [0, 1, 2, 3] (by decide)⟩
      · skip
        refine W_yes (congrArg some hb449) ?_
        refine W_v (.slice A369 t367.length c370) (x_move rfl) rfl ?_
        refine W_yes (congrArg some hb449) ?_
        obtain ⟨⟨p452, p453⟩, H⟩ := chkS H
        obtain ⟨b454, o455, cs456, _, _, ee461, hb457, vs458, hR459, hc460⟩ := SlW.at' (S.row_read 0 rfl) p452 p453
        obtain ⟨v465, hs464, rfl⟩ := hR459
        obtain ⟨A462, c463, rfl, _⟩ := hs464.form
        refine W_v (.pointer (some ⟨b454, o455 + (4 : Int).toNat * 7, none⟩)) (x_indexAddr Try.underlying22 ty32 (slA ee461) rfl p452 p453) rfl ?_
        refine W_yes (congrArg some hb449) ?_
        refine W_v (.pointer (some ⟨b454, o455 + (4 : Int).toNat * 7 + 3, none⟩)) (x_fieldAddr (o := o455 + (4 : Int).toNat * 7) (off := 3) Try.underlying32 rfl ty30 rfl rfl) rfl ?_
        refine W_yes (congrArg some hb449) ?_
        refine W_v (.pointer (some ⟨b454, o455 + (4 : Int).toNat * 7 + 3 + 1, none⟩)) (x_fieldAddr (o := o455 + (4 : Int).toNat * 7 + 3) (off := 1) Try.underlying30 rfl ty4 rfl rfl) rfl ?_
        refine W_yes (congrArg some hb449) ?_
        refine W_v (.bool ((rd t367 (4 : Int)).Answer.Found)) (x_load (Hp.of_get hb457) ty4 rfl (hc460 4 _ rfl)) rfl ?_
        refine W_yes (congrArg some hb449) ?_
        refine W_v (.bool (!((rd t367 (4 : Int)).Answer.Found))) (x_not rfl) rfl ?_
        refine W_v (.bool (!((rd t367 (4 : Int)).Answer.Found))) (x_pick (k := false) (congrArg Value.bool hb449) rfl) rfl ?_
        refine Wl_nil ?_
        exact ⟨(!((rd t367 (4 : Int)).Answer.Found)), Option.some.inj H, ⟨rfl, rfl, rfl, trivial⟩, E, S.pick [0, 1, 2, 3] (by decide)⟩
    clear o451h
    rintro ρ w466 ⟨x450, rfl, hρ, E, S⟩
    rw [agree_eta hρ]
    clear hρ
    have H := o451H
    clear o451H
    refine W_v (.bool x450) (x_move rfl) rfl ?_
    obtain ⟨o497, o497h, o497H⟩ := bindS H
    clear H
    refine Wl_cutN 6 (fun ρ w' => ∃ (x496 : Bool), (x496) = o497 ∧ Agree ρ [(1, .pointer (some ⟨b8, 0, none⟩)), (3, .slice A369 t367.length c370), (79, .bool x496)] ∧ Ext w w' ∧ St w' M373 F [Row r_api_Event 32 (.slice A369 t367.length c370) t367, Blk b8 (.cells #[.slice A343 x342.length c344, .slice A347 x346.length c348] 73 (0, 0)), Row r_event_task 70 (.slice A343 x342.length c344) x342, Row r_api_Event 32 (.slice A347 x346.length c348) x346]) ?_ ?_
    · have H := o497h
      rcases iteS H with ⟨hb495, H⟩ | ⟨hb495, H⟩
      · skip
        refine W_no (skF hb495) rfl ?_
        refine W_no (skF hb495) rfl ?_
        refine W_no (skF hb495) rfl ?_
        refine W_no (skF hb495) rfl ?_
        refine W_no (skF hb495) rfl ?_
        refine W_v (.bool true) (x_pick (k := true) (congrArg Value.bool hb495) rfl) rfl ?_
        refine Wl_nil ?_
        exact ⟨true, Option.some.inj H, ⟨rfl, rfl, rfl, trivial⟩, E, S.pick [0, 1, 2, 3] (by decide)⟩
      · skip
        refine W_yes (congrArg some hb495) ?_
        refine W_v (.slice A369 t367.length c370) (x_move rfl) rfl ?_
        refine W_yes (congrArg some hb495) ?_
        obtain ⟨⟨p498, p499⟩, H⟩ := chkS H
        obtain ⟨b500, o501, cs502, _, _, ee507, hb503, vs504, hR505, hc506⟩ := SlW.at' (S.row_read 0 rfl) p498 p499
        obtain ⟨v511, hs510, rfl⟩ := hR505
        obtain ⟨A508, c509, rfl, _⟩ := hs510.form
        refine W_v (.pointer (some ⟨b500, o501 + (2 : Int).toNat * 7, none⟩)) (x_indexAddr Try.underlying22 ty32 (slA ee507) rfl p498 p499) rfl ?_
        refine W_yes (congrArg some hb495) ?_
        refine W_v (.pointer (some ⟨b500, o501 + (2 : Int).toNat * 7 + 1, none⟩)) (x_fieldAddr (o := o501 + (2 : Int).toNat * 7) (off := 1) Try.underlying32 rfl ty3 rfl rfl) rfl ?_
        refine W_yes (congrArg some hb495) ?_
        refine W_v (.int .i64 ((rd t367 (2 : Int)).Task)) (x_load (Hp.of_get hb503) ty3 rfl (hc506 1 _ rfl)) rfl ?_
        refine W_yes (congrArg some hb495) ?_
        refine W_v (.bool ((rd t367 (2 : Int)).Task != (1 : Int))) (x_ibin rfl rfl rfl rfl) rfl ?_
        refine W_v (.bool ((rd t367 (2 : Int)).Task != (1 : Int))) (x_pick (k := false) (congrArg Value.bool hb495) rfl) rfl ?_
        refine Wl_nil ?_
        exact ⟨((rd t367 (2 : Int)).Task != (1 : Int)), Option.some.inj H, ⟨rfl, rfl, rfl, trivial⟩, E, S.pick [0, 1, 2, 3] (by decide)⟩
    clear o497h
    rintro ρ w512 ⟨x496, rfl, hρ, E, S⟩
    rw [agree_eta hρ]
    clear hρ
    have H := o497H
    clear o497H
    refine W_v (.bool x496) (x_move rfl) rfl ?_
    obtain ⟨o543, o543h, o543H⟩ := bindS H
    clear H
    refine Wl_cutN 6 (fun ρ w' => ∃ (x542 : Bool), (x542) = o543 ∧ Agree ρ [(1, .pointer (some ⟨b8, 0, none⟩)), (3, .slice A369 t367.length c370), (86, .bool x542)] ∧ Ext w w' ∧ St w' M373 F [Row r_api_Event 32 (.slice A369 t367.length c370) t367, Blk b8 (.cells #[.slice A343 x342.length c344, .slice A347 x346.length c348] 73 (0, 0)), Row r_event_task 70 (.slice A343 x342.length c344) x342, Row r_api_Event 32 (.slice A347 x346.length c348) x346]) ?_ ?_
    · have H := o543h
      rcases iteS H with ⟨hb541, H⟩ | ⟨hb541, H⟩
      · skip
        refine W_no (skF hb541) rfl ?_
        refine W_no (skF hb541) rfl ?_
        refine W_no (skF hb541) rfl ?_
        refine W_no (skF hb541) rfl ?_
        refine W_no (skF hb541) rfl ?_
        refine W_v (.bool true) (x_pick (k := true) (congrArg Value.bool hb541) rfl) rfl ?_
        refine Wl_nil ?_
        exact ⟨true, Option.some.inj H, ⟨rfl, rfl, rfl, trivial⟩, E, S.pick [0, 1, 2, 3] (by decide)⟩
      · skip
        refine W_yes (congrArg some hb541) ?_
        refine W_v (.slice A369 t367.length c370) (x_move rfl) rfl ?_
        refine W_yes (congrArg some hb541) ?_
        obtain ⟨⟨p544, p545⟩, H⟩ := chkS H
        obtain ⟨b546, o547, cs548, _, _, ee553, hb549, vs550, hR551, hc552⟩ := SlW.at' (S.row_read 0 rfl) p544 p545
        obtain ⟨v557, hs556, rfl⟩ := hR551
        obtain ⟨A554, c555, rfl, _⟩ := hs556.form
        refine W_v (.pointer (some ⟨b546, o547 + (2 : Int).toNat * 7, none⟩)) (x_indexAddr Try.underlying22 ty32 (slA ee553) rfl p544 p545) rfl ?_
        refine W_yes (congrArg some hb541) ?_
        refine W_v (.pointer (some ⟨b546, o547 + (2 : Int).toNat * 7 + 2, none⟩)) (x_fieldAddr (o := o547 + (2 : Int).toNat * 7) (off := 2) Try.underlying32 rfl ty3 rfl rfl) rfl ?_
        refine W_yes (congrArg some hb541) ?_
        refine W_v (.int .i64 ((rd t367 (2 : Int)).Call)) (x_load (Hp.of_get hb549) ty3 rfl (hc552 2 _ rfl)) rfl ?_
        refine W_yes (congrArg some hb541) ?_
        refine W_v (.bool ((rd t367 (2 : Int)).Call != (0 : Int))) (x_ibin rfl rfl rfl rfl) rfl ?_
        refine W_v (.bool ((rd t367 (2 : Int)).Call != (0 : Int))) (x_pick (k := false) (congrArg Value.bool hb541) rfl) rfl ?_
        refine Wl_nil ?_
        exact ⟨((rd t367 (2 : Int)).Call != (0 : Int)), Option.some.inj H, ⟨rfl, rfl, rfl, trivial⟩, E, S.pick [0, 1, 2, 3] (by decide)⟩
    clear o543h
    rintro ρ w558 ⟨x542, rfl, hρ, E, S⟩
    rw [agree_eta hρ]
    clear hρ
    have H := o543H
    clear o543H
    refine W_v (.bool x542) (x_move rfl) rfl ?_
    obtain ⟨o591, o591h, o591H⟩ := bindS H
    clear H
    refine Wl_cutN 5 (fun ρ w' => ∃ (x582 : Bool) (x583 : List event_task) (x587 : List api_Event) (A584 : Option Addr) (c585 : Nat) (A588 : Option Addr) (c589 : Nat) (Mj : Hp), (x582, x583, x587) = o591 ∧ Agree ρ [(1, .pointer (some ⟨b8, 0, none⟩)), (3, .slice A369 t367.length c370), (92, .bool x582)] ∧ M373.le Mj ∧ Ext w w' ∧ St w' Mj F [Row r_api_Event 32 (.slice A588 x587.length c589) x587, Row r_event_task 70 (.slice A584 x583.length c585) x583, Row r_api_Event 32 (.slice A369 t367.length c370) t367, Blk b8 (.cells #[.slice A584 x583.length c585, .slice A588 x587.length c589] 73 (0, 0))]) ?_ ?_
    · have H := o591h
      have LE592 := Hp.le_refl M373
      rcases iteS H with ⟨hb581, H⟩ | ⟨hb581, H⟩
      · skip
        refine W_no (skF hb581) rfl ?_
        refine W_no (skF hb581) rfl ?_
        refine W_no (skF hb581) rfl ?_
        refine W_no (skF hb581) rfl ?_
        refine W_v (.bool true) (x_pick (k := true) (congrArg Value.bool hb581) rfl) rfl ?_
        refine Wl_nil ?_
        exact ⟨true, x342, x346, A343, c344, A347, c348, M373, Option.some.inj H, ⟨rfl, rfl, rfl, trivial⟩, (Hp.le_refl M373), E, S.pick [3, 2, 0, 1] (by decide)⟩
      · skip
        refine W_yes (congrArg some hb581) ?_
        refine W_v (.pointer (some ⟨b8, 0, none⟩)) (x_move rfl) rfl ?_
        refine W_yes (congrArg some hb581) ?_
        refine W_v (.agg #[.int .i64 0, .bool false, .string (bs ([] : Str)), .slice none 0 0]) (x_build2 (pl := [(0, 1), (1, 1), (2, 1), (3, 1)]) #[.int .i64 0, .bool false, .string (bs ([] : Str)), .slice none 0 0] Try.underlying30 ty30 (by kernel_rfl) rfl (by kernel_rfl)) rfl ?_
        refine W_yes (congrArg some hb581) ?_
        obtain ⟨t593, ht594, H⟩ := bindS H
        replace S : St w558 M373 F [Blk b8 (.cells #[.slice A343 x342.length c344, .slice A347 x346.length c348] 73 (0, 0)), Row r_event_task 70 (.slice A343 x342.length c344) x342, Row r_api_Event 32 (.slice A347 x346.length c348) x346, Row r_api_Event 32 (.slice A369 t367.length c370) t367] := S.pick [1, 2, 3, 0] (by decide)
        refine W_call fn32 (event_Recorder_Return_POO.con k M373 A343 c344 A347 c348 (⟨x342, x346⟩ : event_Recorder) (1 : Int) none 0 (⟨(0 : Int), false, ([] : Str), ([] : (List api_Pair))⟩ : api_Answer) b8 t593 (SlW.nil _ _) ht594) (Γ1 := [Blk b8 (.cells #[.slice A343 x342.length c344, .slice A347 x346.length c348] 73 (0, 0)), Row r_event_task 70 (.slice A343 x342.length c344) x342, Row r_api_Event 32 (.slice A347 x346.length c348) x346]) (Γ2 := [Row r_api_Event 32 (.slice A369 t367.length c370) t367]) S rfl rfl ?_
        rintro _ w601 M602 Γ' hM603 E' S ⟨A595, c596, A598, c599, rfl, rfl⟩
        replace HM := Hp.le_trans HM hM603
        replace hM77 := Hp.le_trans hM77 hM603
        replace hM125 := Hp.le_trans hM125 hM603
        replace hM173 := Hp.le_trans hM173 hM603
        replace hM221 := Hp.le_trans hM221 hM603
        replace hM269 := Hp.le_trans hM269 hM603
        replace hM317 := Hp.le_trans hM317 hM603
        replace hM365 := Hp.le_trans hM365 hM603
        replace LE592 := Hp.le_trans LE592 hM603
        replace E := E.trans E'
        clear E'
        replace S : St w601 M602 F [Blk b8 (.cells #[.slice A595 t593.2.tasks.length c596, .slice A598 t593.2.l.length c599] 73 (0, 0)), Row r_event_task 70 (.slice A595 t593.2.tasks.length c596) t593.2.tasks, Row r_api_Event 32 (.slice A598 t593.2.l.length c599) t593.2.l, Row r_api_Event 32 (.slice A369 t367.length c370) t367] := S
        refine W_yes (congrArg some hb581) ?_
        refine W_v (.bool (t593.1 != (0 : Int))) (x_ibin rfl rfl rfl rfl) rfl ?_
        refine W_v (.bool (t593.1 != (0 : Int))) (x_pick (k := false) (congrArg Value.bool hb581) rfl) rfl ?_
        refine Wl_nil ?_
        exact ⟨(t593.1 != (0 : Int)), t593.2.tasks, t593.2.l, A595, c596, A598, c599, M602, Option.some.inj H, ⟨rfl, rfl, rfl, trivial⟩, LE592, E, S.pick [2, 1, 3, 0] (by decide)⟩
    clear o591h
    rintro ρ w604 ⟨x582, x583, x587, A584, c585, A588, c589, M605, rfl, hρ, hM606, E, S⟩
    rw [agree_eta hρ]
    clear hρ
    replace HM := Hp.le_trans HM hM606
    replace hM77 := Hp.le_trans hM77 hM606
    replace hM125 := Hp.le_trans hM125 hM606
    replace hM173 := Hp.le_trans hM173 hM606
    replace hM221 := Hp.le_trans hM221 hM606
    replace hM269 := Hp.le_trans hM269 hM606
    replace hM317 := Hp.le_trans hM317 hM606
    replace hM365 := Hp.le_trans hM365 hM606
    have H := o591H
    clear o591H
    refine W_v (.bool x582) (x_move rfl) rfl ?_
    obtain ⟨o639, o639h, o639H⟩ := bindS H
    clear H
    refine Wl_cutN 4 (fun ρ w' => ∃ (x630 : Bool) (x631 : List event_task) (x635 : List api_Event) (A632 : Option Addr) (c633 : Nat) (A636 : Option Addr) (c637 : Nat) (Mj : Hp), (x630, x631, x635) = o639 ∧ Agree ρ [(1, .pointer (some ⟨b8, 0, none⟩)), (3, .slice A369 t367.length c370), (97, .bool x630)] ∧ M605.le Mj ∧ Ext w w' ∧ St w' Mj F [Row r_api_Event 32 (.slice A636 x635.length c637) x635, Row r_event_task 70 (.slice A632 x631.length c633) x631, Row r_api_Event 32 (.slice A369 t367.length c370) t367, Blk b8 (.cells #[.slice A632 x631.length c633, .slice A636 x635.length c637] 73 (0, 0))]) ?_ ?_
    · have H := o639h
      have LE640 := Hp.le_refl M605
      rcases iteS H with ⟨hb629, H⟩ | ⟨hb629, H⟩
      · skip
        refine W_no (skF hb629) rfl ?_
        refine W_no (skF hb629) rfl ?_
        refine W_no (skF hb629) rfl ?_
        refine W_v (.bool true) (x_pick (k := true) (congrArg Value.bool hb629) rfl) rfl ?_
        refine Wl_nil ?_
        exact ⟨true, x583, x587, A584, c585, A588, c589, M605, Option.some.inj H, ⟨rfl, rfl, rfl, trivial⟩, (Hp.le_refl M605), E, S.pick [0, 1, 2, 3] (by decide)⟩
      · skip
        refine W_yes (congrArg some hb629) ?_
        refine W_v (.pointer (some ⟨b8, 0, none⟩)) (x_move rfl) rfl ?_
        refine W_yes (congrArg some hb629) ?_
        obtain ⟨t641, ht642, H⟩ := bindS H
        replace S : St w604 M605 F [Blk b8 (.cells #[.slice A584 x583.length c585, .slice A588 x587.length c589] 73 (0, 0)), Row r_event_task 70 (.slice A584 x583.length c585) x583, Row r_api_Event 32 (.slice A588 x587.length c589) x587, Row r_api_Event 32 (.slice A369 t367.length c370) t367] := S.pick [3, 1, 0, 2] (by decide)
        refine W_call fn30 (event_Recorder_Invoke_POO.con k M605 A584 c585 A588 c589 (⟨x583, x587⟩ : event_Recorder) (0 : Int) b8 t641  ht642) (Γ1 := [Blk b8 (.cells #[.slice A584 x583.length c585, .slice A588 x587.length c589] 73 (0, 0)), Row r_event_task 70 (.slice A584 x583.length c585) x583, Row r_api_Event 32 (.slice A588 x587.length c589) x587]) (Γ2 := [Row r_api_Event 32 (.slice A369 t367.length c370) t367]) S rfl rfl ?_
        rintro _ w649 M650 Γ' hM651 E' S ⟨A643, c644, A646, c647, rfl, rfl⟩
        replace HM := Hp.le_trans HM hM651
        replace hM77 := Hp.le_trans hM77 hM651
        replace hM125 := Hp.le_trans hM125 hM651
        replace hM173 := Hp.le_trans hM173 hM651
        replace hM221 := Hp.le_trans hM221 hM651
        replace hM269 := Hp.le_trans hM269 hM651
        replace hM317 := Hp.le_trans hM317 hM651
        replace hM365 := Hp.le_trans hM365 hM651
        replace hM606 := Hp.le_trans hM606 hM651
        replace LE640 := Hp.le_trans LE640 hM651
        replace E := E.trans E'
        clear E'
        replace S : St w649 M650 F [Blk b8 (.cells #[.slice A643 t641.2.tasks.length c644, .slice A646 t641.2.l.length c647] 73 (0, 0)), Row r_event_task 70 (.slice A643 t641.2.tasks.length c644) t641.2.tasks, Row r_api_Event 32 (.slice A646 t641.2.l.length c647) t641.2.l, Row r_api_Event 32 (.slice A369 t367.length c370) t367] := S
        refine W_yes (congrArg some hb629) ?_
        refine W_v (.bool (t641.1 != (0 : Int))) (x_ibin rfl rfl rfl rfl) rfl ?_
        refine W_v (.bool (t641.1 != (0 : Int))) (x_pick (k := false) (congrArg Value.bool hb629) rfl) rfl ?_
        refine Wl_nil ?_
        exact ⟨(t641.1 != (0 : Int)), t641.2.tasks, t641.2.l, A643, c644, A646, c647, M650, Option.some.inj H, ⟨rfl, rfl, rfl, trivial⟩, LE640, E, S.pick [2, 1, 3, 0] (by decide)⟩
    clear o639h
    rintro ρ w652 ⟨x630, x631, x635, A632, c633, A636, c637, M653, rfl, hρ, hM654, E, S⟩
    rw [agree_eta hρ]
    clear hρ
    replace HM := Hp.le_trans HM hM654
    replace hM77 := Hp.le_trans hM77 hM654
    replace hM125 := Hp.le_trans hM125 hM654
    replace hM173 := Hp.le_trans hM173 hM654
    replace hM221 := Hp.le_trans hM221 hM654
    replace hM269 := Hp.le_trans hM269 hM654
    replace hM317 := Hp.le_trans hM317 hM654
    replace hM365 := Hp.le_trans hM365 hM654
    replace hM606 := Hp.le_trans hM606 hM654
    have H := o639H
    clear o639H
    refine Wl_nil ?_
    refine tn ?_
    rcases iteS H with ⟨hb655, H⟩ | ⟨hb655, H⟩
    · refine Wp_cond_true (congrArg Value.bool hb655) ?_
      refine Wp_seq ?_
      refine Wp_region_lit ?_
      refine W_v (.bool false) (x_assign rfl) rfl ?_
      refine Wl_nil ?_
      refine tn ?_
      refine Wp_ret ?_
      refine tr (?_)
      obtain rfl := Option.some.inj H
      exact ⟨_, _, _, fun w1 e1 => run_resR (vs := [.bool false]) (FA.cons (rfl) (FA.nil)), HM, E, S.pick [] (by decide), ⟨rfl, rfl⟩⟩
    refine Wp_cond_false (congrArg Value.bool hb655) ?_
    refine Wp_skip ?_
    refine tn ?_
    refine Wp_seq ?_
    refine Wp_region_lit ?_
    refine W_v (.pointer (some ⟨b8, 0, none⟩)) (x_move rfl) rfl ?_
    obtain ⟨t656, ht657, H⟩ := bindS H
    replace S : St w652 M653 F [Blk b8 (.cells #[.slice A632 x631.length c633, .slice A636 x635.length c637] 73 (0, 0)), Row r_event_task 70 (.slice A632 x631.length c633) x631, Row r_api_Event 32 (.slice A636 x635.length c637) x635, Row r_api_Event 32 (.slice A369 t367.length c370) t367] := S.pick [3, 1, 0, 2] (by decide)
    refine W_call fn19 (event_Recorder_Events_POO.con k M653 A632 c633 A636 c637 (⟨x631, x635⟩ : event_Recorder) b8 t656  ht657) (Γ1 := [Blk b8 (.cells #[.slice A632 x631.length c633, .slice A636 x635.length c637] 73 (0, 0)), Row r_event_task 70 (.slice A632 x631.length c633) x631, Row r_api_Event 32 (.slice A636 x635.length c637) x635]) (Γ2 := [Row r_api_Event 32 (.slice A369 t367.length c370) t367]) S rfl rfl ?_
    rintro _ w661 M662 Γ' hM663 E' S ⟨A658, c659, rfl, rfl⟩
    replace HM := Hp.le_trans HM hM663
    replace hM77 := Hp.le_trans hM77 hM663
    replace hM125 := Hp.le_trans hM125 hM663
    replace hM173 := Hp.le_trans hM173 hM663
    replace hM221 := Hp.le_trans hM221 hM663
    replace hM269 := Hp.le_trans hM269 hM663
    replace hM317 := Hp.le_trans hM317 hM663
    replace hM365 := Hp.le_trans hM365 hM663
    replace hM606 := Hp.le_trans hM606 hM663
    replace hM654 := Hp.le_trans hM654 hM663
    replace E := E.trans E'
    clear E'
    replace S : St w661 M662 F [Row r_api_Event 32 (.slice A658 t656.length c659) t656, Blk b8 (.cells #[.slice A632 x631.length c633, .slice A636 x635.length c637] 73 (0, 0)), Row r_event_task 70 (.slice A632 x631.length c633) x631, Row r_api_Event 32 (.slice A636 x635.length c637) x635, Row r_api_Event 32 (.slice A369 t367.length c370) t367] := S
    refine W_v (.agg #[.int .i64 0, .int .i64 0]) (x_build2 (pl := [(0, 1), (1, 1)]) #[.int .i64 0, .int .i64 0] Try.underlying62 ty62 (by kernel_rfl) rfl (by kernel_rfl)) rfl ?_
    refine W_bslice S #[.int .i64 0, .int .i64 0] Try.underlying55 ty62 rfl rfl #[.int .i64 0, .int .i64 0] (by kernel_rfl) (by kernel_rfl) rfl ?_
    intro b664 w665 E' S
    replace E := E.trans E'
    clear E'
    replace S := S.blk_row (r := r_event_Place) (l := ([(⟨(0 : Int), (0 : Int)⟩ : event_Place)] : List event_Place)) 0 rfl 1 (Nat.le_refl 1) rfl (Cells.cons (vs := [.int .i64 0, .int .i64 0]) (rfl) Cells.nil)
    obtain ⟨M667, hM668, hf669, S⟩ := S.row_freeze 1 rfl
    replace HM := Hp.le_trans HM hM668
    replace hM77 := Hp.le_trans hM77 hM668
    replace hM125 := Hp.le_trans hM125 hM668
    replace hM173 := Hp.le_trans hM173 hM668
    replace hM221 := Hp.le_trans hM221 hM668
    replace hM269 := Hp.le_trans hM269 hM668
    replace hM317 := Hp.le_trans hM317 hM668
    replace hM365 := Hp.le_trans hM365 hM668
    replace hM606 := Hp.le_trans hM606 hM668
    replace hM654 := Hp.le_trans hM654 hM668
    obtain ⟨M670, hM671, hf672, S⟩ := S.row_freeze 0 rfl
    replace HM := Hp.le_trans HM hM671
    replace hM77 := Hp.le_trans hM77 hM671
    replace hM125 := Hp.le_trans hM125 hM671
    replace hM173 := Hp.le_trans hM173 hM671
    replace hM221 := Hp.le_trans hM221 hM671
    replace hM269 := Hp.le_trans hM269 hM671
    replace hM317 := Hp.le_trans hM317 hM671
    replace hM365 := Hp.le_trans hM365 hM671
    replace hM606 := Hp.le_trans hM606 hM671
    replace hM654 := Hp.le_trans hM654 hM671
    replace hf669 := SlR.mono hf669 hM671
    obtain ⟨t673, ht674, H⟩ := bindS H
    refine W_call fn24 (event_Without.con k M670 A658 c659 t656 (some ⟨b664, 0, none⟩) 1 ([(⟨(0 : Int), (0 : Int)⟩ : event_Place)] : List event_Place) t673 hf669 hf672 ht674) (Γ1 := []) (Γ2 := [Blk b8 (.cells #[.slice A632 x631.length c633, .slice A636 x635.length c637] 73 (0, 0)), Row r_event_task 70 (.slice A632 x631.length c633) x631, Row r_api_Event 32 (.slice A636 x635.length c637) x635, Row r_api_Event 32 (.slice A369 t367.length c370) t367]) S rfl rfl ?_
    rintro _ w678 M679 Γ' hM680 E' S ⟨A675, c676, rfl, rfl⟩
    replace HM := Hp.le_trans HM hM680
    replace hM77 := Hp.le_trans hM77 hM680
    replace hM125 := Hp.le_trans hM125 hM680
    replace hM173 := Hp.le_trans hM173 hM680
    replace hM221 := Hp.le_trans hM221 hM680
    replace hM269 := Hp.le_trans hM269 hM680
    replace hM317 := Hp.le_trans hM317 hM680
    replace hM365 := Hp.le_trans hM365 hM680
    replace hM606 := Hp.le_trans hM606 hM680
    replace hM654 := Hp.le_trans hM654 hM680
    replace hf669 := SlR.mono hf669 hM680
    replace hf672 := SlR.mono hf672 hM680
    replace E := E.trans E'
    clear E'
    refine W_v (.slice A675 t673.length c676) (x_assign rfl) rfl ?_
    refine Wl_nil ?_
    refine tn ?_
    refine Wp_seq ?_
    refine Wp_region_lit ?_
    refine W_v (.slice A675 t673.length c676) (x_move rfl) rfl ?_
    refine W_v (.int .i64 (t673.length : Int)) (x_len_slice (n := t673.length) Try.underlying22 rfl) rfl ?_
    refine W_v (.bool ((t673.length : Int) == (4 : Int))) (x_ibin rfl rfl rfl rfl) rfl ?_
    refine W_v (.bool ((t673.length : Int) == (4 : Int))) (x_move rfl) rfl ?_
    obtain ⟨o711, o711h, o711H⟩ := bindS H
    clear H
    refine Wl_cutN 6 (fun ρ w' => ∃ (x710 : Bool), (x710) = o711 ∧ Agree ρ [(3, .slice A369 t367.length c370), (4, .slice A675 t673.length c676), (112, .bool x710)] ∧ Ext w w' ∧ St w' M679 F [Row r_api_Event 32 (.slice A675 t673.length c676) t673, Row r_api_Event 32 (.slice A369 t367.length c370) t367]) ?_ ?_
    · have H := o711h
      rcases iteS H with ⟨hb709, H⟩ | ⟨hb709, H⟩
      · skip
        refine W_yes (congrArg some hb709) ?_
        refine W_v (.slice A675 t673.length c676) (x_move rfl) rfl ?_
        refine W_yes (congrArg some hb709) ?_
        obtain ⟨⟨p712, p713⟩, H⟩ := chkS H
        obtain ⟨b714, o715, cs716, _, _, ee721, hb717, vs718, hR719, hc720⟩ := SlW.at' (S.row_read 0 rfl) p712 p713
        obtain ⟨v725, hs724, rfl⟩ := hR719
        obtain ⟨A722, c723, rfl, _⟩ := hs724.form
        refine W_v (.pointer (some ⟨b714, o715 + (0 : Int).toNat * 7, none⟩)) (x_indexAddr Try.underlying22 ty32 (slA ee721) rfl p712 p713) rfl ?_
        refine W_yes (congrArg some hb709) ?_
        refine W_v (.pointer (some ⟨b714, o715 + (0 : Int).toNat * 7 + 1, none⟩)) (x_fieldAddr (o := o715 + (0 : Int).toNat * 7) (off := 1) Try.underlying32 rfl ty3 rfl rfl) rfl ?_
        refine W_yes (congrArg some hb709) ?_
        refine W_v (.int .i64 ((rd t673 (0 : Int)).Task)) (x_load (Hp.of_get hb717) ty3 rfl (hc720 1 _ rfl)) rfl ?_
        refine W_yes (congrArg some hb709) ?_
        refine W_v (.bool ((rd t673 (0 : Int)).Task == (1 : Int))) (x_ibin rfl rfl rfl rfl) rfl ?_
        refine W_v (.bool ((rd t673 (0 : Int)).Task == (1 : Int))) (x_pick (k := true) (congrArg Value.bool hb709) rfl) rfl ?_
        refine Wl_nil ?_
        exact ⟨((rd t673 (0 : Int)).Task == (1 : Int)), Option.some.inj H, ⟨rfl, rfl, rfl, trivial⟩, E, S.pick [0, 4] (by decide)⟩
      · skip
        refine W_no (skT hb709) rfl ?_
        refine W_no (skT hb709) rfl ?_
        refine W_no (skT hb709) rfl ?_
        refine W_no (skT hb709) rfl ?_
        refine W_no (skT hb709) rfl ?_
        refine W_v (.bool false) (x_pick (k := false) (congrArg Value.bool hb709) rfl) rfl ?_
        refine Wl_nil ?_
        exact ⟨false, Option.some.inj H, ⟨rfl, rfl, rfl, trivial⟩, E, S.pick [0, 4] (by decide)⟩
    clear o711h
    rintro ρ w726 ⟨x710, rfl, hρ, E, S⟩
    rw [agree_eta hρ]
    clear hρ
    have H := o711H
    clear o711H
    refine W_v (.bool x710) (x_move rfl) rfl ?_
    obtain ⟨o757, o757h, o757H⟩ := bindS H
    clear H
    refine Wl_cutN 6 (fun ρ w' => ∃ (x756 : Bool), (x756) = o757 ∧ Agree ρ [(3, .slice A369 t367.length c370), (4, .slice A675 t673.length c676), (119, .bool x756)] ∧ Ext w w' ∧ St w' M679 F [Row r_api_Event 32 (.slice A675 t673.length c676) t673, Row r_api_Event 32 (.slice A369 t367.length c370) t367]) ?_ ?_
    · have H := o757h
      rcases iteS H with ⟨hb755, H⟩ | ⟨hb755, H⟩
      · skip
        refine W_yes (congrArg some hb755) ?_
        refine W_v (.slice A675 t673.length c676) (x_move rfl) rfl ?_
        refine W_yes (congrArg some hb755) ?_
        obtain ⟨⟨p758, p759⟩, H⟩ := chkS H
        obtain ⟨b760, o761, cs762, _, _, ee767, hb763, vs764, hR765, hc766⟩ := SlW.at' (S.row_read 0 rfl) p758 p759
        obtain ⟨v771, hs770, rfl⟩ := hR765
        obtain ⟨A768, c769, rfl, _⟩ := hs770.form
        refine W_v (.pointer (some ⟨b760, o761 + (3 : Int).toNat * 7, none⟩)) (x_indexAddr Try.underlying22 ty32 (slA ee767) rfl p758 p759) rfl ?_
        refine W_yes (congrArg some hb755) ?_
        refine W_v (.pointer (some ⟨b760, o761 + (3 : Int).toNat * 7 + 1, none⟩)) (x_fieldAddr (o := o761 + (3 : Int).toNat * 7) (off := 1) Try.underlying32 rfl ty3 rfl rfl) rfl ?_
        refine W_yes (congrArg some hb755) ?_
        refine W_v (.int .i64 ((rd t673 (3 : Int)).Task)) (x_load (Hp.of_get hb763) ty3 rfl (hc766 1 _ rfl)) rfl ?_
        refine W_yes (congrArg some hb755) ?_
        refine W_v (.bool ((rd t673 (3 : Int)).Task == (0 : Int))) (x_ibin rfl rfl rfl rfl) rfl ?_
        refine W_v (.bool ((rd t673 (3 : Int)).Task == (0 : Int))) (x_pick (k := true) (congrArg Value.bool hb755) rfl) rfl ?_
        refine Wl_nil ?_
        exact ⟨((rd t673 (3 : Int)).Task == (0 : Int)), Option.some.inj H, ⟨rfl, rfl, rfl, trivial⟩, E, S.pick [0, 1] (by decide)⟩
      · skip
        refine W_no (skT hb755) rfl ?_
        refine W_no (skT hb755) rfl ?_
        refine W_no (skT hb755) rfl ?_
        refine W_no (skT hb755) rfl ?_
        refine W_no (skT hb755) rfl ?_
        refine W_v (.bool false) (x_pick (k := false) (congrArg Value.bool hb755) rfl) rfl ?_
        refine Wl_nil ?_
        exact ⟨false, Option.some.inj H, ⟨rfl, rfl, rfl, trivial⟩, E, S.pick [0, 1] (by decide)⟩
    clear o757h
    rintro ρ w772 ⟨x756, rfl, hρ, E, S⟩
    rw [agree_eta hρ]
    clear hρ
    have H := o757H
    clear o757H
    refine W_v (.bool x756) (x_move rfl) rfl ?_
    obtain ⟨o803, o803h, o803H⟩ := bindS H
    clear H
    refine Wl_cutN 6 (fun ρ w' => ∃ (x802 : Bool), (x802) = o803 ∧ Agree ρ [(3, .slice A369 t367.length c370), (4, .slice A675 t673.length c676), (126, .bool x802)] ∧ Ext w w' ∧ St w' M679 F [Row r_api_Event 32 (.slice A675 t673.length c676) t673, Row r_api_Event 32 (.slice A369 t367.length c370) t367]) ?_ ?_
    · have H := o803h
      rcases iteS H with ⟨hb801, H⟩ | ⟨hb801, H⟩
      · skip
        refine W_yes (congrArg some hb801) ?_
        refine W_v (.slice A675 t673.length c676) (x_move rfl) rfl ?_
        refine W_yes (congrArg some hb801) ?_
        obtain ⟨⟨p804, p805⟩, H⟩ := chkS H
        obtain ⟨b806, o807, cs808, _, _, ee813, hb809, vs810, hR811, hc812⟩ := SlW.at' (S.row_read 0 rfl) p804 p805
        obtain ⟨v817, hs816, rfl⟩ := hR811
        obtain ⟨A814, c815, rfl, _⟩ := hs816.form
        refine W_v (.pointer (some ⟨b806, o807 + (3 : Int).toNat * 7, none⟩)) (x_indexAddr Try.underlying22 ty32 (slA ee813) rfl p804 p805) rfl ?_
        refine W_yes (congrArg some hb801) ?_
        refine W_v (.pointer (some ⟨b806, o807 + (3 : Int).toNat * 7 + 2, none⟩)) (x_fieldAddr (o := o807 + (3 : Int).toNat * 7) (off := 2) Try.underlying32 rfl ty3 rfl rfl) rfl ?_
        refine W_yes (congrArg some hb801) ?_
        refine W_v (.int .i64 ((rd t673 (3 : Int)).Call)) (x_load (Hp.of_get hb809) ty3 rfl (hc812 2 _ rfl)) rfl ?_
        refine W_yes (congrArg some hb801) ?_
        refine W_v (.bool ((rd t673 (3 : Int)).Call == (0 : Int))) (x_ibin rfl rfl rfl rfl) rfl ?_
        refine W_v (.bool ((rd t673 (3 : Int)).Call == (0 : Int))) (x_pick (k := true) (congrArg Value.bool hb801) rfl) rfl ?_
        refine Wl_nil ?_
        exact ⟨((rd t673 (3 : Int)).Call == (0 : Int)), Option.some.inj H, ⟨rfl, rfl, rfl, trivial⟩, E, S.pick [0, 1] (by decide)⟩
      · skip
        refine W_no (skT hb801) rfl ?_
        refine W_no (skT hb801) rfl ?_
        refine W_no (skT hb801) rfl ?_
        refine W_no (skT hb801) rfl ?_
        refine W_no (skT hb801) rfl ?_
        refine W_v (.bool false) (x_pick (k := false) (congrArg Value.bool hb801) rfl) rfl ?_
        refine Wl_nil ?_
        exact ⟨false, Option.some.inj H, ⟨rfl, rfl, rfl, trivial⟩, E, S.pick [0, 1] (by decide)⟩
    clear o803h
    rintro ρ w818 ⟨x802, rfl, hρ, E, S⟩
    rw [agree_eta hρ]
    clear hρ
    have H := o803H
    clear o803H
    refine W_v (.bool x802) (x_move rfl) rfl ?_
    obtain ⟨o849, o849h, o849H⟩ := bindS H
    clear H
    refine Wl_cutN 6 (fun ρ w' => ∃ (x848 : Bool), (x848) = o849 ∧ Agree ρ [(3, .slice A369 t367.length c370), (4, .slice A675 t673.length c676), (133, .bool x848)] ∧ Ext w w' ∧ St w' M679 F [Row r_api_Event 32 (.slice A675 t673.length c676) t673, Row r_api_Event 32 (.slice A369 t367.length c370) t367]) ?_ ?_
    · have H := o849h
      rcases iteS H with ⟨hb847, H⟩ | ⟨hb847, H⟩
      · skip
        refine W_yes (congrArg some hb847) ?_
        refine W_v (.slice A675 t673.length c676) (x_move rfl) rfl ?_
        refine W_yes (congrArg some hb847) ?_
        obtain ⟨⟨p850, p851⟩, H⟩ := chkS H
        obtain ⟨b852, o853, cs854, _, _, ee859, hb855, vs856, hR857, hc858⟩ := SlW.at' (S.row_read 0 rfl) p850 p851
        obtain ⟨v863, hs862, rfl⟩ := hR857
        obtain ⟨A860, c861, rfl, _⟩ := hs862.form
        refine W_v (.pointer (some ⟨b852, o853 + (3 : Int).toNat * 7, none⟩)) (x_indexAddr Try.underlying22 ty32 (slA ee859) rfl p850 p851) rfl ?_
        refine W_yes (congrArg some hb847) ?_
        refine W_v (.pointer (some ⟨b852, o853 + (3 : Int).toNat * 7, none⟩)) (x_fieldAddr (o := o853 + (3 : Int).toNat * 7) (off := 0) Try.underlying32 rfl ty5 rfl rfl) rfl ?_
        refine W_yes (congrArg some hb847) ?_
        refine W_v (.int .u8 ((rd t673 (3 : Int)).What)) (x_load (Hp.of_get hb855) ty5 rfl (hc858 0 _ rfl)) rfl ?_
        refine W_yes (congrArg some hb847) ?_
        refine W_v (.bool ((rd t673 (3 : Int)).What == (1 : Int))) (x_ibin rfl rfl rfl rfl) rfl ?_
        refine W_v (.bool ((rd t673 (3 : Int)).What == (1 : Int))) (x_pick (k := true) (congrArg Value.bool hb847) rfl) rfl ?_
        refine Wl_nil ?_
        exact ⟨((rd t673 (3 : Int)).What == (1 : Int)), Option.some.inj H, ⟨rfl, rfl, rfl, trivial⟩, E, S.pick [0, 1] (by decide)⟩
      · skip
        refine W_no (skT hb847) rfl ?_
        refine W_no (skT hb847) rfl ?_
        refine W_no (skT hb847) rfl ?_
        refine W_no (skT hb847) rfl ?_
        refine W_no (skT hb847) rfl ?_
        refine W_v (.bool false) (x_pick (k := false) (congrArg Value.bool hb847) rfl) rfl ?_
        refine Wl_nil ?_
        exact ⟨false, Option.some.inj H, ⟨rfl, rfl, rfl, trivial⟩, E, S.pick [0, 1] (by decide)⟩
    clear o849h
    rintro ρ w864 ⟨x848, rfl, hρ, E, S⟩
    rw [agree_eta hρ]
    clear hρ
    have H := o849H
    clear o849H
    refine W_v (.bool x848) (x_move rfl) rfl ?_
    obtain ⟨o873, o873h, o873H⟩ := bindS H
    clear H
    refine Wl_cutN 3 (fun ρ w' => ∃ (x872 : Bool), (x872) = o873 ∧ Agree ρ [(3, .slice A369 t367.length c370), (137, .bool x872)] ∧ Ext w w' ∧ St w' M679 F [Row r_api_Event 32 (.slice A369 t367.length c370) t367]) ?_ ?_
    · have H := o873h
      rcases iteS H with ⟨hb871, H⟩ | ⟨hb871, H⟩
      · skip
        refine W_yes (congrArg some hb871) ?_
        refine W_v (.slice A675 t673.length c676) (x_move rfl) rfl ?_
        refine W_yes (congrArg some hb871) ?_
        obtain ⟨t874, ht875, H⟩ := bindS H
        refine W_callN 1 fn12 (fun h9 hs9 hd9 => event_Legal.con k _ (2 : Int) A675 c676 t673 t874 (Sats.row hs9 hd9 0 rfl) ht875) S rfl rfl (by rintro _ _ _ ⟨_, rfl⟩; exact flat_nil) ?_
        rintro _ w876 _ Γ' E' S ⟨rfl, rfl⟩
        replace E := E.trans E'
        clear E'
        refine W_v (.bool t874) (x_pick (k := true) (congrArg Value.bool hb871) rfl) rfl ?_
        refine Wl_nil ?_
        exact ⟨t874, Option.some.inj H, ⟨rfl, rfl, trivial⟩, E, S.pick [1] (by decide)⟩
      · skip
        refine W_no (skT hb871) rfl ?_
        refine W_no (skT hb871) rfl ?_
        refine W_v (.bool false) (x_pick (k := false) (congrArg Value.bool hb871) rfl) rfl ?_
        refine Wl_nil ?_
        exact ⟨false, Option.some.inj H, ⟨rfl, rfl, trivial⟩, E, S.pick [1] (by decide)⟩
    clear o873h
    rintro ρ w877 ⟨x872, rfl, hρ, E, S⟩
    rw [agree_eta hρ]
    clear hρ
    have H := o873H
    clear o873H
    refine W_v (.bool x872) (x_move rfl) rfl ?_
    obtain ⟨o902, o902h, o902H⟩ := bindS H
    clear H
    refine Wl_cutN 5 (fun ρ w' => ∃ (x901 : Bool) (Mj : Hp), (x901) = o902 ∧ Agree ρ [(143, .bool x901)] ∧ M679.le Mj ∧ Ext w w' ∧ St w' Mj F []) ?_ ?_
    · have H := o902h
      have LE903 := Hp.le_refl M679
      rcases iteS H with ⟨hb900, H⟩ | ⟨hb900, H⟩
      · skip
        refine W_yes (congrArg some hb900) ?_
        refine W_v (.slice A369 t367.length c370) (x_move rfl) rfl ?_
        refine W_yes (congrArg some hb900) ?_
        obtain ⟨M904, hM905, hf906, S⟩ := S.row_freeze 0 rfl
        replace HM := Hp.le_trans HM hM905
        replace hM77 := Hp.le_trans hM77 hM905
        replace hM125 := Hp.le_trans hM125 hM905
        replace hM173 := Hp.le_trans hM173 hM905
        replace hM221 := Hp.le_trans hM221 hM905
        replace hM269 := Hp.le_trans hM269 hM905
        replace hM317 := Hp.le_trans hM317 hM905
        replace hM365 := Hp.le_trans hM365 hM905
        replace hM606 := Hp.le_trans hM606 hM905
        replace hM654 := Hp.le_trans hM654 hM905
        replace LE903 := Hp.le_trans LE903 hM905
        replace hf669 := SlR.mono hf669 hM905
        replace hf672 := SlR.mono hf672 hM905
        obtain ⟨t907, ht908, H⟩ := bindS H
        refine W_call fn23 (event_Bare.con k M904 A369 c370 t367 t907 hf906 ht908) (Γ1 := []) (Γ2 := []) S rfl rfl ?_
        rintro _ w912 M913 Γ' hM914 E' S ⟨A909, c910, rfl, rfl⟩
        replace HM := Hp.le_trans HM hM914
        replace hM77 := Hp.le_trans hM77 hM914
        replace hM125 := Hp.le_trans hM125 hM914
        replace hM173 := Hp.le_trans hM173 hM914
        replace hM221 := Hp.le_trans hM221 hM914
        replace hM269 := Hp.le_trans hM269 hM914
        replace hM317 := Hp.le_trans hM317 hM914
        replace hM365 := Hp.le_trans hM365 hM914
        replace hM606 := Hp.le_trans hM606 hM914
        replace hM654 := Hp.le_trans hM654 hM914
        replace LE903 := Hp.le_trans LE903 hM914
        replace hf669 := SlR.mono hf669 hM914
        replace hf672 := SlR.mono hf672 hM914
        replace hf906 := SlR.mono hf906 hM914
        replace E := E.trans E'
        clear E'
        refine W_yes (congrArg some hb900) ?_
        refine W_v (.int .i64 (t907.length : Int)) (x_len_slice (n := t907.length) Try.underlying22 rfl) rfl ?_
        refine W_yes (congrArg some hb900) ?_
        refine W_v (.bool ((t907.length : Int) == (3 : Int))) (x_ibin rfl rfl rfl rfl) rfl ?_
        refine W_v (.bool ((t907.length : Int) == (3 : Int))) (x_pick (k := true) (congrArg Value.bool hb900) rfl) rfl ?_
        refine Wl_nil ?_
        exact ⟨((t907.length : Int) == (3 : Int)), M913, Option.some.inj H, ⟨rfl, trivial⟩, LE903, E, S.pick [] (by decide)⟩
      · skip
        refine W_no (skT hb900) rfl ?_
        refine W_no (skT hb900) rfl ?_
        refine W_no (skT hb900) rfl ?_
        refine W_no (skT hb900) rfl ?_
        refine W_v (.bool false) (x_pick (k := false) (congrArg Value.bool hb900) rfl) rfl ?_
        refine Wl_nil ?_
        exact ⟨false, M679, Option.some.inj H, ⟨rfl, trivial⟩, (Hp.le_refl M679), E, S.pick [] (by decide)⟩
    clear o902h
    rintro ρ w915 ⟨x901, M916, rfl, hρ, hM917, E, S⟩
    rw [agree_eta hρ]
    clear hρ
    replace HM := Hp.le_trans HM hM917
    replace hM77 := Hp.le_trans hM77 hM917
    replace hM125 := Hp.le_trans hM125 hM917
    replace hM173 := Hp.le_trans hM173 hM917
    replace hM221 := Hp.le_trans hM221 hM917
    replace hM269 := Hp.le_trans hM269 hM917
    replace hM317 := Hp.le_trans hM317 hM917
    replace hM365 := Hp.le_trans hM365 hM917
    replace hM606 := Hp.le_trans hM606 hM917
    replace hM654 := Hp.le_trans hM654 hM917
    replace hf669 := SlR.mono hf669 hM917
    replace hf672 := SlR.mono hf672 hM917
    have H := o902H
    clear o902H
    refine W_v (.bool x901) (x_assign rfl) rfl ?_
    refine Wl_nil ?_
    refine tn ?_
    refine Wp_ret ?_
    obtain rfl := Option.some.inj H
    exact ⟨_, _, _, fun w1 e1 => run_resR (vs := [.bool x901]) (FA.cons (rfl) (FA.nil)), HM, E, S.pick [] (by decide), ⟨rfl, rfl⟩⟩
/-! ### ferryman/ferrymanlaw06.wide: function 11 -/
def ferrymanlaw06_wide_l0 (a0 : (List api_Event)) : Nat → Int → Int → Option ((Int))
  | 0, _, _ => none
  | k + 1, x125, x126 => (if ((decide (x126 < (a0.length : Int))) && (decide (x125 < (3000 : Int)))) = true then (if 0 ≤ x126 ∧ x126 < (a0.length : Int) then (if 0 ≤ x126 ∧ x126 < (a0.length : Int) then ferrymanlaw06_wide_l0 a0 k (IntKind.i64.wrap ((IntKind.i64.wrap (x125 + (imin (3000 : Int) (((rd a0 x126).Answer.Value).length : Int)))) + (imin (3000 : Int) (((rd a0 x126).Answer.Pairs).length : Int)))) (IntKind.i64.wrap (x126 + (1 : Int))) else none) else none) else some (x125))
set_option maxHeartbeats 2000000 in
theorem ferrymanlaw06_wide_l0.mono {a0 : (List api_Event)} : ∀ {k : Nat} {x0 x1}, OLe (ferrymanlaw06_wide_l0 a0 k x0 x1) (ferrymanlaw06_wide_l0 a0 (k + 1) x0 x1) := by
  intro k
  induction k with
  | zero => intros; exact OLe.none
  | succ k ih =>
    intros
    rw [ferrymanlaw06_wide_l0.eq_2, ferrymanlaw06_wide_l0.eq_2]
    repeat' (first | with_reducible exact OLe.none | with_reducible exact OLe.some | with_reducible refine OLe.ite ?_ ?_ | with_reducible refine OLe.bind ?_ (fun _ => ?_) | exact ih | refine OLe.bind ?_ (fun _ => ?_) | refine OLe.ite ?_ ?_ | refine OLe.elim (fun _ => ?_) (fun _ => ?_) | split)
def ferrymanlaw06_wide (k : Nat) (a0 : (List api_Event)) : Option (Bool) :=
  (Option.bind (ferrymanlaw06_wide_l0 a0 k (a0.length : Int) (0 : Int)) (fun x187 => some (decide (x187 ≥ (3000 : Int)))))
set_option maxHeartbeats 2000000 in
theorem ferrymanlaw06_wide.mono {k : Nat} {a0 : (List api_Event)} : OLe (ferrymanlaw06_wide k a0) (ferrymanlaw06_wide (k + 1) a0) := by
  unfold ferrymanlaw06_wide
  repeat' (first | with_reducible exact OLe.none | with_reducible exact OLe.some | with_reducible refine OLe.ite ?_ ?_ | with_reducible refine OLe.bind ?_ (fun _ => ?_) | with_reducible exact ferrymanlaw06_wide_l0.mono | refine OLe.bind ?_ (fun _ => ?_) | refine OLe.ite ?_ ?_ | refine OLe.elim (fun _ => ?_) (fun _ => ?_) | split)
set_option maxHeartbeats 1000000 in
set_option maxRecDepth 100000 in
theorem ferrymanlaw06_wide.con (k : Nat) (M : Hp) (A0 : Option Addr) (c0 : Nat) (a0 : (List api_Event)) (r : Bool) (hr0 : SlR r_api_Event M (.slice A0 a0.length c0) a0) (h : ferrymanlaw06_wide k a0 = some r) : Con Try.prog 11 #[.slice A0 a0.length c0] M [] (fun v M' Γ' => v = .bool r ∧ Γ' = []) := by
  refine con_of_wp Try.func11 rfl Try.ntmps11 Try.results11 rfl ?_
  intro w F rn S hrn
  have E := Ext.refl w
  have HM := Hp.le_refl M
  have H := h
  unfold ferrymanlaw06_wide at H
  refine Wp_seq ?_
  refine Wp_region_lit ?_
  refine W_v (.bool false) (x_assign rfl) rfl ?_
  refine Wl_nil ?_
  refine tn ?_
  refine Wp_seq ?_
  refine Wp_region_lit ?_
  refine W_v (.slice A0 a0.length c0) (x_move rfl) rfl ?_
  refine W_v (.int .i64 (a0.length : Int)) (x_len_slice (n := a0.length) Try.underlying22 rfl) rfl ?_
  refine W_v (.int .i64 (a0.length : Int)) (x_assign rfl) rfl ?_
  refine Wl_nil ?_
  refine tn ?_
  refine Wp_seq ?_
  refine Wp_seq ?_
  refine Wp_region_lit ?_
  refine W_v (.int .i64 0) (x_assign rfl) rfl ?_
  refine Wl_nil ?_
  refine tn ?_
  obtain ⟨o188, o188h, o188H⟩ := bindS H
  clear H
  refine Wp_blockJ (fun ρ w' => ∃ (x187 : Int), (x187) = o188 ∧ Agree ρ [(3, .int .i64 x187)] ∧ Ext w w' ∧ St w' M F []) ?_ ?_
  · skip
    refine Wp_loop (fun n ρ w' => ∃ (x125 : Int) (x126 : Int), ferrymanlaw06_wide_l0 a0 n x125 x126 = some o188 ∧ Agree ρ [(0, .slice A0 a0.length c0), (3, .int .i64 x125), (4, .int .i64 x126)] ∧ Ext w w' ∧ St w' M F []) k ?_ ?_
    · skip
      exact ⟨(a0.length : Int), (0 : Int), o188h, ⟨rfl, rfl, rfl, trivial⟩, E, S.pick [] (by decide)⟩
    · intro n
      rintro ρ w189 ⟨x125, x126, H, hρ, E, S⟩
      rw [agree_eta hρ]
      clear hρ
      cases n with
      | zero => cases H
      | succ k =>
        rw [ferrymanlaw06_wide_l0.eq_2] at H
        refine Wp_seq ?_
        refine Wp_seq ?_
        refine Wp_region_lit ?_
        refine W_v (.int .i64 x126) (x_move rfl) rfl ?_
        refine W_v (.slice A0 a0.length c0) (x_move rfl) rfl ?_
        refine W_v (.int .i64 (a0.length : Int)) (x_len_slice (n := a0.length) Try.underlying22 rfl) rfl ?_
        refine W_v (.bool (decide (x126 < (a0.length : Int)))) (x_ibin rfl rfl rfl rfl) rfl ?_
        refine W_v (.bool (decide (x126 < (a0.length : Int)))) (x_move rfl) rfl ?_
        refine Wl_cutN 3 (fun ρ w' => Agree ρ [(0, .slice A0 a0.length c0), (3, .int .i64 x125), (4, .int .i64 x126), (14, .bool ((decide (x126 < (a0.length : Int))) && (decide (x125 < (3000 : Int)))))] ∧ w189 = w') ?_ ?_
        · rcases boolCases (decide (x126 < (a0.length : Int))) with hb190 | hb190
          · skip
            refine W_no (skT hb190) rfl ?_
            refine W_no (skT hb190) rfl ?_
            refine W_v (.bool false) (x_pick (k := false) (congrArg Value.bool hb190) rfl) rfl ?_
            refine Wl_nil ?_
            exact ⟨⟨rfl, rfl, rfl, (by first | rfl | (rw [hb190]; rfl) | (simp only [hb190]; rfl)), trivial⟩, rfl⟩
          · skip
            refine W_yes (congrArg some hb190) ?_
            refine W_v (.int .i64 x125) (x_move rfl) rfl ?_
            refine W_yes (congrArg some hb190) ?_
            refine W_v (.bool (decide (x125 < (3000 : Int)))) (x_ibin rfl rfl rfl rfl) rfl ?_
            refine W_v (.bool (decide (x125 < (3000 : Int)))) (x_pick (k := true) (congrArg Value.bool hb190) rfl) rfl ?_
            refine Wl_nil ?_
            exact ⟨⟨rfl, rfl, rfl, (by first | rfl | (rw [hb190]; rfl) | (simp only [hb190]; rfl)), trivial⟩, rfl⟩
        rintro ρ _ ⟨hρ, rfl⟩
        rw [agree_eta hρ]
        clear hρ
        refine Wl_nil ?_
        refine tn ?_
        rcases iteS H with ⟨hb191, H⟩ | ⟨hb191, H⟩
        · refine Wp_cond_true (congrArg Value.bool hb191) ?_
          refine Wp_skip ?_
          refine tn ?_
          refine Wp_seq ?_
          refine Wp_block ?_
          refine Wp_region_any (S := fun w' => ∃ Mx, M.le Mx ∧ St w' Mx F []) (L := 20) mixed ?_
          intro w220 hw221 E'
          replace S := S.heap hw221
          replace E := E.trans E'
          clear E'
          refine Wa_take (i := 0) rfl (by kernel_rfl) rfl rfl (.int .i64 x125) rfl (fun w' h' => x_move rfl) (⟨M, Hp.le_refl M, (S.pick [] (by decide))⟩) ?_
          refine Wa_take (i := 1) rfl (by kernel_rfl) rfl rfl (.slice A0 a0.length c0) rfl (fun w' h' => x_move rfl) (⟨M, Hp.le_refl M, (S.pick [] (by decide))⟩) ?_
          refine Wa_take (i := 2) rfl (by kernel_rfl) rfl rfl (.int .i64 x126) rfl (fun w' h' => x_move rfl) (⟨M, Hp.le_refl M, (S.pick [] (by decide))⟩) ?_
          obtain ⟨⟨p222, p223⟩, H⟩ := chkS H
          obtain ⟨b224, o225, cs226, _, _, ee231, hb227, vs228, hR229, hc230⟩ := SlW.at' hr0 p222 p223
          obtain ⟨v235, hs234, rfl⟩ := hR229
          obtain ⟨A232, c233, rfl, _⟩ := hs234.form
          have hs234z := hs234
          refine Wa_take (i := 3) rfl (by kernel_rfl) rfl rfl (.pointer (some ⟨b224, o225 + x126.toNat * 7, none⟩)) rfl (fun w' h' => x_indexAddr Try.underlying22 ty32 (slA ee231) rfl p222 p223) (⟨M, Hp.le_refl M, (S.pick [] (by decide))⟩) ?_
          refine Wa_take (i := 4) rfl (by kernel_rfl) rfl rfl (.pointer (some ⟨b224, o225 + x126.toNat * 7 + 3, none⟩)) rfl (fun w' h' => x_fieldAddr (o := o225 + x126.toNat * 7) (off := 3) Try.underlying32 rfl ty30 rfl rfl) (⟨M, Hp.le_refl M, (S.pick [] (by decide))⟩) ?_
          refine Wa_take (i := 5) rfl (by kernel_rfl) rfl rfl (.pointer (some ⟨b224, o225 + x126.toNat * 7 + 3 + 2, none⟩)) rfl (fun w' h' => x_fieldAddr (o := o225 + x126.toNat * 7 + 3) (off := 2) Try.underlying30 rfl ty9 rfl rfl) (⟨M, Hp.le_refl M, (S.pick [] (by decide))⟩) ?_
          refine Wa_take (i := 6) rfl (by kernel_rfl) rfl rfl (.string (bs ((rd a0 x126).Answer.Value))) rfl (fun w' h' => x_load (cls_frz h' hb227) ty9 rfl (hc230 5 _ rfl)) (⟨M, Hp.le_refl M, (S.pick [] (by decide))⟩) ?_
          refine Wa_take (i := 7) rfl (by kernel_rfl) rfl rfl (.int .i64 (((rd a0 x126).Answer.Value).length : Int)) rfl (fun w' h' => x_len_str Try.underlying9 rfl) (⟨M, Hp.le_refl M, (S.pick [] (by decide))⟩) ?_
          refine Wa_take (i := 8) rfl (by kernel_rfl) rfl rfl (.int .i64 (imin (3000 : Int) (((rd a0 x126).Answer.Value).length : Int))) rfl (fun w' h' => x_min2 rfl rfl) (⟨M, Hp.le_refl M, (S.pick [] (by decide))⟩) ?_
          refine Wa_take (i := 9) rfl (by kernel_rfl) rfl rfl (.int .i64 (IntKind.i64.wrap (x125 + (imin (3000 : Int) (((rd a0 x126).Answer.Value).length : Int))))) rfl (fun w' h' => x_ibin rfl rfl rfl rfl) (⟨M, Hp.le_refl M, (S.pick [] (by decide))⟩) ?_
          refine Wa_take (i := 10) rfl (by kernel_rfl) rfl rfl (.slice A0 a0.length c0) rfl (fun w' h' => x_move rfl) (⟨M, Hp.le_refl M, (S.pick [] (by decide))⟩) ?_
          refine Wa_take (i := 11) rfl (by kernel_rfl) rfl rfl (.int .i64 x126) rfl (fun w' h' => x_move rfl) (⟨M, Hp.le_refl M, (S.pick [] (by decide))⟩) ?_
          obtain ⟨⟨p236, p237⟩, H⟩ := chkS H
          obtain ⟨b238, o239, cs240, _, _, ee245, hb241, vs242, hR243, hc244⟩ := SlW.at' hr0 p236 p237
          obtain ⟨v249, hs248, rfl⟩ := hR243
          obtain ⟨A246, c247, rfl, _⟩ := hs248.form
          have hs248z := hs248
          refine Wa_take (i := 12) rfl (by kernel_rfl) rfl rfl (.pointer (some ⟨b238, o239 + x126.toNat * 7, none⟩)) rfl (fun w' h' => x_indexAddr Try.underlying22 ty32 (slA ee245) rfl p236 p237) (⟨M, Hp.le_refl M, (S.pick [] (by decide))⟩) ?_
          refine Wa_take (i := 13) rfl (by kernel_rfl) rfl rfl (.pointer (some ⟨b238, o239 + x126.toNat * 7 + 3, none⟩)) rfl (fun w' h' => x_fieldAddr (o := o239 + x126.toNat * 7) (off := 3) Try.underlying32 rfl ty30 rfl rfl) (⟨M, Hp.le_refl M, (S.pick [] (by decide))⟩) ?_
          refine Wa_take (i := 14) rfl (by kernel_rfl) rfl rfl (.pointer (some ⟨b238, o239 + x126.toNat * 7 + 3 + 3, none⟩)) rfl (fun w' h' => x_fieldAddr (o := o239 + x126.toNat * 7 + 3) (off := 3) Try.underlying30 rfl ty28 rfl rfl) (⟨M, Hp.le_refl M, (S.pick [] (by decide))⟩) ?_
          refine Wa_take (i := 15) rfl (by kernel_rfl) rfl rfl (.slice A246 ((rd a0 x126).Answer.Pairs).length c247) rfl (fun w' h' => x_load (cls_frz h' hb241) ty28 rfl (hc244 6 _ rfl)) (⟨M, Hp.le_refl M, (S.pick [] (by decide))⟩) ?_
          refine Wa_take (i := 16) rfl (by kernel_rfl) rfl rfl (.int .i64 (((rd a0 x126).Answer.Pairs).length : Int)) rfl (fun w' h' => x_len_slice (n := ((rd a0 x126).Answer.Pairs).length) Try.underlying28 rfl) (⟨M, Hp.le_refl M, (S.pick [] (by decide))⟩) ?_
          refine Wa_take (i := 17) rfl (by kernel_rfl) rfl rfl (.int .i64 (imin (3000 : Int) (((rd a0 x126).Answer.Pairs).length : Int))) rfl (fun w' h' => x_min2 rfl rfl) (⟨M, Hp.le_refl M, (S.pick [] (by decide))⟩) ?_
          refine Wa_take (i := 18) rfl (by kernel_rfl) rfl rfl (.int .i64 (IntKind.i64.wrap ((IntKind.i64.wrap (x125 + (imin (3000 : Int) (((rd a0 x126).Answer.Value).length : Int)))) + (imin (3000 : Int) (((rd a0 x126).Answer.Pairs).length : Int))))) rfl (fun w' h' => x_ibin rfl rfl rfl rfl) (⟨M, Hp.le_refl M, (S.pick [] (by decide))⟩) ?_
          refine Wa_take (i := 19) rfl (by kernel_rfl) rfl rfl (.int .i64 (IntKind.i64.wrap ((IntKind.i64.wrap (x125 + (imin (3000 : Int) (((rd a0 x126).Answer.Value).length : Int)))) + (imin (3000 : Int) (((rd a0 x126).Answer.Pairs).length : Int))))) rfl (fun w' h' => x_assign rfl) (⟨M, Hp.le_refl M, (S.pick [] (by decide))⟩) ?_
          refine Wa_done (by kernel_rfl) ?_
          refine bn ?_
          refine tn ?_
          refine Wp_region_lit ?_
          refine W_v (.int .i64 x126) (x_move rfl) rfl ?_
          refine W_v (.int .i64 (IntKind.i64.wrap (x126 + (1 : Int)))) (x_ibin rfl rfl rfl rfl) rfl ?_
          refine W_v (.int .i64 (IntKind.i64.wrap (x126 + (1 : Int)))) (x_assign rfl) rfl ?_
          refine Wl_nil ?_
          refine tn ?_
          exact ⟨k, Nat.lt_succ_self k, ⟨(IntKind.i64.wrap ((IntKind.i64.wrap (x125 + (imin (3000 : Int) (((rd a0 x126).Answer.Value).length : Int)))) + (imin (3000 : Int) (((rd a0 x126).Answer.Pairs).length : Int)))), (IntKind.i64.wrap (x126 + (1 : Int))), H, ⟨rfl, rfl, rfl, trivial⟩, E, S.pick [] (by decide)⟩⟩
        refine Wp_cond_false (congrArg Value.bool hb191) ?_
        refine Wp_exit ?_
        refine tx (tx (bsm (?_)))
        refine tn ?_
        exact ⟨x125, Option.some.inj H, ⟨rfl, trivial⟩, E, S.pick [] (by decide)⟩
  clear o188h
  rintro ρ w250 ⟨x187, rfl, hρ, E, S⟩
  rw [agree_eta hρ]
  clear hρ
  have H := o188H
  clear o188H
  refine tn ?_
  refine Wp_seq ?_
  refine Wp_region_lit ?_
  refine W_v (.int .i64 x187) (x_move rfl) rfl ?_
  refine W_v (.bool (decide (x187 ≥ (3000 : Int)))) (x_ibin rfl rfl rfl rfl) rfl ?_
  refine W_v (.bool (decide (x187 ≥ (3000 : Int)))) (x_assign rfl) rfl ?_
  refine Wl_nil ?_
  refine tn ?_
  refine Wp_ret ?_
  obtain rfl := Option.some.inj H
  exact ⟨_, _, _, fun w1 e1 => run_resR (vs := [.bool (decide (x187 ≥ (3000 : Int)))]) (FA.cons (rfl) (FA.nil)), HM, E, S.pick [] (by decide), ⟨rfl, rfl⟩⟩
/-! ### ferryman/ferrymanlaw06.large: function 13 -/
def ferrymanlaw06_large_l0 (a0 : (List ferrymanlaw06_Step)) : Nat → List api_Event → Int → Option ((List api_Event))
  | 0, _, _ => none
  | k + 1, x69, x73 => (if (decide (x73 < (a0.length : Int))) = true then (if 0 ≤ x73 ∧ x73 < (a0.length : Int) then (Option.bind (α := List api_Event) (some ([(⟨(0 : Int), (0 : Int), (0 : Int), ⟨(rd a0 x73).Answer.Err, (rd a0 x73).Answer.Found, (rd a0 x73).Answer.Value, (rd a0 x73).Answer.Pairs⟩⟩ : api_Event)] : List api_Event)) (fun x127 => (if x69.length + x127.length ≤ 1759218604441 then ferrymanlaw06_large_l0 a0 k (x69 ++ x127) (IntKind.i64.wrap (x73 + (1 : Int))) else none))) else none) else some (x69))
set_option maxHeartbeats 2000000 in
theorem ferrymanlaw06_large_l0.mono {a0 : (List ferrymanlaw06_Step)} : ∀ {k : Nat} {x0 x1}, OLe (ferrymanlaw06_large_l0 a0 k x0 x1) (ferrymanlaw06_large_l0 a0 (k + 1) x0 x1) := by
  intro k
  induction k with
  | zero => intros; exact OLe.none
  | succ k ih =>
    intros
    rw [ferrymanlaw06_large_l0.eq_2, ferrymanlaw06_large_l0.eq_2]
    repeat' (first | with_reducible exact OLe.none | with_reducible exact OLe.some | with_reducible refine OLe.ite ?_ ?_ | with_reducible refine OLe.bind ?_ (fun _ => ?_) | exact ih | refine OLe.bind ?_ (fun _ => ?_) | refine OLe.ite ?_ ?_ | refine OLe.elim (fun _ => ?_) (fun _ => ?_) | split)
def ferrymanlaw06_large (k : Nat) (a0 : (List ferrymanlaw06_Step)) : Option (Bool) :=
  (if (decide ((a0.length : Int) > (200 : Int))) = true then some true else (Option.bind (ferrymanlaw06_large_l0 a0 k ([] : List api_Event) (0 : Int)) (fun x102 => (Option.bind (ferrymanlaw06_wide k x102) (fun t138 => some t138)))))
set_option maxHeartbeats 2000000 in
theorem ferrymanlaw06_large.mono {k : Nat} {a0 : (List ferrymanlaw06_Step)} : OLe (ferrymanlaw06_large k a0) (ferrymanlaw06_large (k + 1) a0) := by
  unfold ferrymanlaw06_large
  repeat' (first | with_reducible exact OLe.none | with_reducible exact OLe.some | with_reducible refine OLe.ite ?_ ?_ | with_reducible refine OLe.bind ?_ (fun _ => ?_) | with_reducible exact ferrymanlaw06_large_l0.mono | with_reducible exact ferrymanlaw06_wide.mono | refine OLe.bind ?_ (fun _ => ?_) | refine OLe.ite ?_ ?_ | refine OLe.elim (fun _ => ?_) (fun _ => ?_) | split)
set_option maxHeartbeats 1000000 in
set_option maxRecDepth 100000 in
theorem ferrymanlaw06_large.con (k : Nat) (M : Hp) (A0 : Option Addr) (c0 : Nat) (a0 : (List ferrymanlaw06_Step)) (r : Bool) (hr0 : SlR r_ferrymanlaw06_Step M (.slice A0 a0.length c0) a0) (h : ferrymanlaw06_large k a0 = some r) : Con Try.prog 13 #[.slice A0 a0.length c0] M [] (fun v M' Γ' => v = .bool r ∧ Γ' = []) := by
  refine con_of_wp Try.func13 rfl Try.ntmps13 Try.results13 rfl ?_
  intro w F rn S hrn
  have E := Ext.refl w
  have HM := Hp.le_refl M
  have H := h
  unfold ferrymanlaw06_large at H
  refine Wp_seq ?_
  refine Wp_region_lit ?_
  refine W_v (.bool false) (x_assign rfl) rfl ?_
  refine Wl_nil ?_
  refine tn ?_
  refine Wp_seq ?_
  refine Wp_seq ?_
  refine Wp_region_lit ?_
  refine W_v (.slice A0 a0.length c0) (x_move rfl) rfl ?_
  refine W_v (.int .i64 (a0.length : Int)) (x_len_slice (n := a0.length) Try.underlying34 rfl) rfl ?_
  refine W_v (.bool (decide ((a0.length : Int) > (200 : Int)))) (x_ibin rfl rfl rfl rfl) rfl ?_
  refine Wl_nil ?_
  refine tn ?_
  rcases iteS H with ⟨hb1, H⟩ | ⟨hb1, H⟩
  · refine Wp_cond_true (congrArg Value.bool hb1) ?_
    refine Wp_seq ?_
    refine Wp_region_lit ?_
    refine W_v (.bool true) (x_assign rfl) rfl ?_
    refine Wl_nil ?_
    refine tn ?_
    refine Wp_ret ?_
    refine tr (?_)
    obtain rfl := Option.some.inj H
    exact ⟨_, _, _, fun w1 e1 => run_resR (vs := [.bool true]) (FA.cons (rfl) (FA.nil)), HM, E, S.pick [] (by decide), ⟨rfl, rfl⟩⟩
  refine Wp_cond_false (congrArg Value.bool hb1) ?_
  refine Wp_skip ?_
  refine tn ?_
  refine Wp_seq ?_
  refine Wp_region_lit ?_
  refine W_v (.slice none 0 0) (x_assign rfl) rfl ?_
  refine Wl_nil ?_
  refine tn ?_
  refine Wp_seq ?_
  refine Wp_seq ?_
  refine Wp_region_lit ?_
  refine W_v (.int .i64 0) (x_assign rfl) rfl ?_
  refine Wl_nil ?_
  refine tn ?_
  obtain ⟨o106, o106h, o106H⟩ := bindS H
  clear H
  refine Wp_blockJ (fun ρ w' => ∃ (x102 : List api_Event) (A103 : Option Addr) (c104 : Nat), (x102) = o106 ∧ Agree ρ [(3, .slice A103 x102.length c104)] ∧ Ext w w' ∧ St w' M F [Row r_api_Event 32 (.slice A103 x102.length c104) x102]) ?_ ?_
  · skip
    refine Wp_loop (fun n ρ w' => ∃ (x69 : List api_Event) (x73 : Int) (A70 : Option Addr) (c71 : Nat), ferrymanlaw06_large_l0 a0 n x69 x73 = some o106 ∧ Agree ρ [(0, .slice A0 a0.length c0), (3, .slice A70 x69.length c71), (4, .int .i64 x73)] ∧ Ext w w' ∧ St w' M F [Row r_api_Event 32 (.slice A70 x69.length c71) x69]) k ?_ ?_
    · skip
      replace S := S.row_nil r_api_Event 32
      exact ⟨([] : List api_Event), (0 : Int), none, 0, o106h, ⟨rfl, rfl, rfl, trivial⟩, E, S.pick [0] (by decide)⟩
    · intro n
      rintro ρ w108 ⟨x69, x73, A70, c71, H, hρ, E, S⟩
      rw [agree_eta hρ]
      clear hρ
      cases n with
      | zero => cases H
      | succ k =>
        rw [ferrymanlaw06_large_l0.eq_2] at H
        refine Wp_seq ?_
        refine Wp_seq ?_
        refine Wp_region_lit ?_
        refine W_v (.int .i64 x73) (x_move rfl) rfl ?_
        refine W_v (.slice A0 a0.length c0) (x_move rfl) rfl ?_
        refine W_v (.int .i64 (a0.length : Int)) (x_len_slice (n := a0.length) Try.underlying34 rfl) rfl ?_
        refine W_v (.bool (decide (x73 < (a0.length : Int)))) (x_ibin rfl rfl rfl rfl) rfl ?_
        refine Wl_nil ?_
        refine tn ?_
        rcases iteS H with ⟨hb109, H⟩ | ⟨hb109, H⟩
        · refine Wp_cond_true (congrArg Value.bool hb109) ?_
          refine Wp_skip ?_
          refine tn ?_
          refine Wp_seq ?_
          refine Wp_block ?_
          refine Wp_region_lit ?_
          refine W_v (.slice A70 x69.length c71) (x_move rfl) rfl ?_
          refine W_v (.slice A0 a0.length c0) (x_move rfl) rfl ?_
          refine W_v (.int .i64 x73) (x_move rfl) rfl ?_
          obtain ⟨⟨p110, p111⟩, H⟩ := chkS H
          obtain ⟨b112, o113, cs114, _, _, ee119, hb115, vs116, hR117, hc118⟩ := SlW.at' hr0 p110 p111
          obtain ⟨v123, hs122, rfl⟩ := hR117
          obtain ⟨A120, c121, rfl, _⟩ := hs122.form
          refine W_v (.pointer (some ⟨b112, o113 + x73.toNat * 6, none⟩)) (x_indexAddr Try.underlying34 ty40 (slA ee119) rfl p110 p111) rfl ?_
          refine W_v (.pointer (some ⟨b112, o113 + x73.toNat * 6 + 2, none⟩)) (x_fieldAddr (o := o113 + x73.toNat * 6) (off := 2) Try.underlying40 rfl ty30 rfl rfl) rfl ?_
          refine W_v (.agg #[.int .i64 ((rd a0 x73).Answer.Err), .bool ((rd a0 x73).Answer.Found), .string (bs ((rd a0 x73).Answer.Value)), .slice A120 ((rd a0 x73).Answer.Pairs).length c121]) (x_loadA (S.frz hb115) ty30 rfl (sub_el hc118 2 rfl) rfl rfl) rfl ?_
          refine W_v (.agg #[.int .u8 0, .int .i64 0, .int .i64 0, .int .i64 ((rd a0 x73).Answer.Err), .bool ((rd a0 x73).Answer.Found), .string (bs ((rd a0 x73).Answer.Value)), .slice A120 ((rd a0 x73).Answer.Pairs).length c121]) (x_build2 (pl := [(0, 1), (1, 1), (2, 1), (3, 4)]) #[.int .u8 0, .int .i64 0, .int .i64 0, .int .i64 ((rd a0 x73).Answer.Err), .bool ((rd a0 x73).Answer.Found), .string (bs ((rd a0 x73).Answer.Value)), .slice A120 ((rd a0 x73).Answer.Pairs).length c121] Try.underlying32 ty32 (by kernel_rfl) rfl (by kernel_rfl)) rfl ?_
          refine W_bslice S #[.int .u8 0, .int .i64 0, .int .i64 0, .int .i64 ((rd a0 x73).Answer.Err), .bool ((rd a0 x73).Answer.Found), .string (bs ((rd a0 x73).Answer.Value)), .slice A120 ((rd a0 x73).Answer.Pairs).length c121] Try.underlying22 ty32 rfl rfl #[.int .u8 0, .int .i64 0, .int .i64 0, .int .i64 0, .bool false, .string (bs ([] : Str)), .slice none 0 0] (by kernel_rfl) (by kernel_rfl) rfl ?_
          intro b124 w125 E' S
          replace E := E.trans E'
          clear E'
          replace S := S.blk_row (r := r_api_Event) (l := ([(⟨(0 : Int), (0 : Int), (0 : Int), ⟨(rd a0 x73).Answer.Err, (rd a0 x73).Answer.Found, (rd a0 x73).Answer.Value, (rd a0 x73).Answer.Pairs⟩⟩ : api_Event)] : List api_Event)) 0 rfl 1 (Nat.le_refl 1) rfl (Cells.cons (vs := [.int .u8 0, .int .i64 0, .int .i64 0, .int .i64 ((rd a0 x73).Answer.Err), .bool ((rd a0 x73).Answer.Found), .string (bs ((rd a0 x73).Answer.Value)), .slice A120 ((rd a0 x73).Answer.Pairs).length c121]) (⟨_, hs122, rfl⟩) Cells.nil)
          obtain ⟨x127, he128, H⟩ := bindS H
          replace he128 := Option.some.inj he128
          rw [he128] at S
          rw [show Value.slice (some ⟨b124, 0, none⟩) 1 1 = Value.slice (some ⟨b124, 0, none⟩) x127.length 1 from (by rw [← he128]; rfl)]
          clear he128
          obtain ⟨p129, H⟩ := chkS H
          obtain ⟨src130, hs131, hC132⟩ := src_of_read (P := Try.prog) (ρ := r_api_Event) (l := x127) (S.row_read 0 rfl) (by decide)
          refine W_append S 1 rfl rfl rfl Try.underlying22 (.inl Try.underlying22) ty32 rfl (by decide) (by decide) hs131 hC132 rfl (by omega) rfl ?_
          intro v133 w134 E' S
          replace E := E.trans E'
          clear E'
          obtain ⟨A135, c136, rfl, _⟩ := (S.row_read 1 rfl).form
          refine W_v (.slice A135 (x69 ++ x127).length c136) (x_assign rfl) rfl ?_
          refine Wl_nil ?_
          refine bn ?_
          refine tn ?_
          refine Wp_region_lit ?_
          refine W_v (.int .i64 x73) (x_move rfl) rfl ?_
          refine W_v (.int .i64 (IntKind.i64.wrap (x73 + (1 : Int)))) (x_ibin rfl rfl rfl rfl) rfl ?_
          refine W_v (.int .i64 (IntKind.i64.wrap (x73 + (1 : Int)))) (x_assign rfl) rfl ?_
          refine Wl_nil ?_
          refine tn ?_
          exact ⟨k, Nat.lt_succ_self k, ⟨(x69 ++ x127), (IntKind.i64.wrap (x73 + (1 : Int))), A135, c136, H, ⟨rfl, rfl, rfl, trivial⟩, E, S.pick [1] (by decide)⟩⟩
        refine Wp_cond_false (congrArg Value.bool hb109) ?_
        refine Wp_exit ?_
        refine tx (tx (bsm (?_)))
        refine tn ?_
        exact ⟨x69, A70, c71, Option.some.inj H, ⟨rfl, trivial⟩, E, S.pick [0] (by decide)⟩
  clear o106h
  rintro ρ w137 ⟨x102, A103, c104, rfl, hρ, E, S⟩
  rw [agree_eta hρ]
  clear hρ
  have H := o106H
  clear o106H
  refine tn ?_
  refine Wp_seq ?_
  refine Wp_region_lit ?_
  refine W_v (.slice A103 x102.length c104) (x_move rfl) rfl ?_
  obtain ⟨t138, ht139, H⟩ := bindS H
  refine W_callN 1 fn11 (fun h9 hs9 hd9 => ferrymanlaw06_wide.con k _ A103 c104 x102 t138 (Sats.row hs9 hd9 0 rfl) ht139) S rfl rfl (by rintro _ _ _ ⟨_, rfl⟩; exact flat_nil) ?_
  rintro _ w140 _ Γ' E' S ⟨rfl, rfl⟩
  replace E := E.trans E'
  clear E'
  refine W_v (.bool t138) (x_assign rfl) rfl ?_
  refine Wl_nil ?_
  refine tn ?_
  refine Wp_ret ?_
  obtain rfl := Option.some.inj H
  exact ⟨_, _, _, fun w1 e1 => run_resR (vs := [.bool t138]) (FA.cons (rfl) (FA.nil)), HM, E, S.pick [] (by decide), ⟨rfl, rfl⟩⟩
/-! ### slices.Equal[[]ferryman/api.Pair,ferryman/api.Pair]: function 44 -/
def slices_Equal_api_Pair_api_Pair_l0 (a0 : (List api_Pair)) (a1 : (List api_Pair)) : Nat → Int → Option ((Bool) ⊕ (Unit))
  | 0, _ => none
  | k + 1, x92 => (if (decide (x92 < (a0.length : Int))) = true then (if 0 ≤ x92 ∧ x92 < (a0.length : Int) then (if 0 ≤ x92 ∧ x92 < (a1.length : Int) then (if (!(((rd a0 x92).Key == (rd a1 x92).Key) && ((rd a0 x92).Value == (rd a1 x92).Value))) = true then some (.inl false) else slices_Equal_api_Pair_api_Pair_l0 a0 a1 k (IntKind.i64.wrap (x92 + (1 : Int)))) else none) else none) else some (.inr ()))
set_option maxHeartbeats 2000000 in
theorem slices_Equal_api_Pair_api_Pair_l0.mono {a0 : (List api_Pair)} {a1 : (List api_Pair)} : ∀ {k : Nat} {x0}, OLe (slices_Equal_api_Pair_api_Pair_l0 a0 a1 k x0) (slices_Equal_api_Pair_api_Pair_l0 a0 a1 (k + 1) x0) := by
  intro k
  induction k with
  | zero => intros; exact OLe.none
  | succ k ih =>
    intros
    rw [slices_Equal_api_Pair_api_Pair_l0.eq_2, slices_Equal_api_Pair_api_Pair_l0.eq_2]
    repeat' (first | with_reducible exact OLe.none | with_reducible exact OLe.some | with_reducible refine OLe.ite ?_ ?_ | with_reducible refine OLe.bind ?_ (fun _ => ?_) | exact ih | refine OLe.bind ?_ (fun _ => ?_) | refine OLe.ite ?_ ?_ | refine OLe.elim (fun _ => ?_) (fun _ => ?_) | split)
def slices_Equal_api_Pair_api_Pair (k : Nat) (a0 : (List api_Pair)) (a1 : (List api_Pair)) : Option (Bool) :=
  (if ((a0.length : Int) != (a1.length : Int)) = true then some false else (Option.bind (slices_Equal_api_Pair_api_Pair_l0 a0 a1 k (0 : Int)) (fun o137o => Sum.elim (fun r' => some r') (fun _ => some true) o137o)))
set_option maxHeartbeats 2000000 in
theorem slices_Equal_api_Pair_api_Pair.mono {k : Nat} {a0 : (List api_Pair)} {a1 : (List api_Pair)} : OLe (slices_Equal_api_Pair_api_Pair k a0 a1) (slices_Equal_api_Pair_api_Pair (k + 1) a0 a1) := by
  unfold slices_Equal_api_Pair_api_Pair
  repeat' (first | with_reducible exact OLe.none | with_reducible exact OLe.some | with_reducible refine OLe.ite ?_ ?_ | with_reducible refine OLe.bind ?_ (fun _ => ?_) | with_reducible exact slices_Equal_api_Pair_api_Pair_l0.mono | refine OLe.bind ?_ (fun _ => ?_) | refine OLe.ite ?_ ?_ | refine OLe.elim (fun _ => ?_) (fun _ => ?_) | split)
set_option maxHeartbeats 1000000 in
set_option maxRecDepth 100000 in
theorem slices_Equal_api_Pair_api_Pair.con (k : Nat) (M : Hp) (A0 : Option Addr) (c0 : Nat) (a0 : (List api_Pair)) (A1 : Option Addr) (c1 : Nat) (a1 : (List api_Pair)) (r : Bool) (hr0 : SlR r_api_Pair M (.slice A0 a0.length c0) a0) (hr1 : SlR r_api_Pair M (.slice A1 a1.length c1) a1) (h : slices_Equal_api_Pair_api_Pair k a0 a1 = some r) : Con Try.prog 44 #[.slice A0 a0.length c0, .slice A1 a1.length c1] M [] (fun v M' Γ' => v = .bool r ∧ Γ' = []) := by
  refine con_of_wp Try.func44 rfl Try.ntmps44 Try.results44 rfl ?_
  intro w F rn S hrn
  have E := Ext.refl w
  have HM := Hp.le_refl M
  have H := h
  unfold slices_Equal_api_Pair_api_Pair at H
  refine Wp_seq ?_
  refine Wp_region_lit ?_
  refine W_v (.bool false) (x_assign rfl) rfl ?_
  refine Wl_nil ?_
  refine tn ?_
  refine Wp_seq ?_
  refine Wp_seq ?_
  refine Wp_region_lit ?_
  refine W_v (.slice A0 a0.length c0) (x_move rfl) rfl ?_
  refine W_v (.int .i64 (a0.length : Int)) (x_len_slice (n := a0.length) Try.underlying28 rfl) rfl ?_
  refine W_v (.slice A1 a1.length c1) (x_move rfl) rfl ?_
  refine W_v (.int .i64 (a1.length : Int)) (x_len_slice (n := a1.length) Try.underlying28 rfl) rfl ?_
  refine W_v (.bool ((a0.length : Int) != (a1.length : Int))) (x_ibin rfl rfl rfl rfl) rfl ?_
  refine Wl_nil ?_
  refine tn ?_
  rcases iteS H with ⟨hb1, H⟩ | ⟨hb1, H⟩
  · refine Wp_cond_true (congrArg Value.bool hb1) ?_
    refine Wp_seq ?_
    refine Wp_region_lit ?_
    refine W_v (.bool false) (x_assign rfl) rfl ?_
    refine Wl_nil ?_
    refine tn ?_
    refine Wp_ret ?_
    refine tr (?_)
    obtain rfl := Option.some.inj H
    exact ⟨_, _, _, fun w1 e1 => run_resR (vs := [.bool false]) (FA.cons (rfl) (FA.nil)), HM, E, S.pick [] (by decide), ⟨rfl, rfl⟩⟩
  refine Wp_cond_false (congrArg Value.bool hb1) ?_
  refine Wp_skip ?_
  refine tn ?_
  refine Wp_seq ?_
  refine Wp_seq ?_
  refine Wp_region_lit ?_
  refine W_v (.slice A0 a0.length c0) (x_move rfl) rfl ?_
  refine W_v (.int .i64 (a0.length : Int)) (x_len_slice (n := a0.length) Try.underlying28 rfl) rfl ?_
  refine W_v (.int .i64 0) (x_move rfl) rfl ?_
  refine Wl_nil ?_
  refine tn ?_
  obtain ⟨o137, o137h, o137H⟩ := bindS H
  clear H
  refine Wp_blockJ (fun ρ w' => .inr () = o137 ∧ Agree ρ [] ∧ Ext w w' ∧ St w' M F []) ?_ ?_
  · skip
    refine Wp_loop (fun n ρ w' => ∃ (x92 : Int), slices_Equal_api_Pair_api_Pair_l0 a0 a1 n x92 = some o137 ∧ Agree ρ [(0, .slice A0 a0.length c0), (1, .slice A1 a1.length c1), (12, .int .i64 (a0.length : Int)), (13, .int .i64 x92)] ∧ Ext w w' ∧ St w' M F []) k ?_ ?_
    · skip
      exact ⟨(0 : Int), o137h, ⟨rfl, rfl, rfl, rfl, trivial⟩, E, S.pick [] (by decide)⟩
    · intro n
      rintro ρ w138 ⟨x92, H, hρ, E, S⟩
      rw [agree_eta hρ]
      clear hρ
      cases n with
      | zero => cases H
      | succ k =>
        rw [slices_Equal_api_Pair_api_Pair_l0.eq_2] at H
        refine Wp_seq ?_
        refine Wp_region_lit ?_
        refine W_v (.bool (decide (x92 < (a0.length : Int)))) (x_ibin rfl rfl rfl rfl) rfl ?_
        refine Wl_nil ?_
        refine tn ?_
        refine Wp_seq ?_
        rcases iteS H with ⟨hb139, H⟩ | ⟨hb139, H⟩
        · refine Wp_cond_true (congrArg Value.bool hb139) ?_
          refine Wp_skip ?_
          refine tn ?_
          refine Wp_seq ?_
          refine Wp_block ?_
          refine Wp_seq ?_
          refine Wp_region_lit ?_
          refine W_v (.int .i64 x92) (x_move rfl) rfl ?_
          refine W_v (.int .i64 x92) (x_assign rfl) rfl ?_
          refine Wl_nil ?_
          refine tn ?_
          refine Wp_seq ?_
          refine Wp_region_any (S := fun w' => ∃ Mx, M.le Mx ∧ St w' Mx F []) (L := 9) mixed ?_
          intro w160 hw161 E'
          replace S := S.heap hw161
          replace E := E.trans E'
          clear E'
          refine Wa_take (i := 0) rfl (by kernel_rfl) rfl rfl (.slice A0 a0.length c0) rfl (fun w' h' => x_move rfl) (⟨M, Hp.le_refl M, (S.pick [] (by decide))⟩) ?_
          refine Wa_take (i := 1) rfl (by kernel_rfl) rfl rfl (.int .i64 x92) rfl (fun w' h' => x_move rfl) (⟨M, Hp.le_refl M, (S.pick [] (by decide))⟩) ?_
          obtain ⟨⟨p162, p163⟩, H⟩ := chkS H
          obtain ⟨b164, o165, cs166, _, _, ee171, hb167, vs168, hR169, hc170⟩ := SlW.at' hr0 p162 p163
          obtain rfl : vs168 = _ := hR169
          refine Wa_take (i := 2) rfl (by kernel_rfl) rfl rfl (.pointer (some ⟨b164, o165 + x92.toNat * 2, none⟩)) rfl (fun w' h' => x_indexAddr Try.underlying28 ty43 (slA ee171) rfl p162 p163) (⟨M, Hp.le_refl M, (S.pick [] (by decide))⟩) ?_
          refine Wa_take (i := 3) rfl (by kernel_rfl) rfl rfl (.agg #[.string (bs ((rd a0 x92).Key)), .string (bs ((rd a0 x92).Value))]) rfl (fun w' h' => x_loadA (cls_frz h' hb167) ty43 rfl (sub_el hc170 0 rfl) rfl rfl) (⟨M, Hp.le_refl M, (S.pick [] (by decide))⟩) ?_
          refine Wa_take (i := 4) rfl (by kernel_rfl) rfl rfl (.slice A1 a1.length c1) rfl (fun w' h' => x_move rfl) (⟨M, Hp.le_refl M, (S.pick [] (by decide))⟩) ?_
          refine Wa_take (i := 5) rfl (by kernel_rfl) rfl rfl (.int .i64 x92) rfl (fun w' h' => x_move rfl) (⟨M, Hp.le_refl M, (S.pick [] (by decide))⟩) ?_
          obtain ⟨⟨p172, p173⟩, H⟩ := chkS H
          obtain ⟨b174, o175, cs176, _, _, ee181, hb177, vs178, hR179, hc180⟩ := SlW.at' hr1 p172 p173
          obtain rfl : vs178 = _ := hR179
          refine Wa_take (i := 6) rfl (by kernel_rfl) rfl rfl (.pointer (some ⟨b174, o175 + x92.toNat * 2, none⟩)) rfl (fun w' h' => x_indexAddr Try.underlying28 ty43 (slA ee181) rfl p172 p173) (⟨M, Hp.le_refl M, (S.pick [] (by decide))⟩) ?_
          refine Wa_take (i := 7) rfl (by kernel_rfl) rfl rfl (.agg #[.string (bs ((rd a1 x92).Key)), .string (bs ((rd a1 x92).Value))]) rfl (fun w' h' => x_loadA (cls_frz h' hb177) ty43 rfl (sub_el hc180 0 rfl) rfl rfl) (⟨M, Hp.le_refl M, (S.pick [] (by decide))⟩) ?_
          refine Wa_take (i := 8) rfl (by kernel_rfl) rfl rfl (.bool (!(((rd a0 x92).Key == (rd a1 x92).Key) && ((rd a0 x92).Value == (rd a1 x92).Value)))) rfl (fun w' h' => x_ne_of (en43 _ _ _ _) rfl (eq43 _ ((rd a0 x92).Key) ((rd a0 x92).Value) ((rd a1 x92).Key) ((rd a1 x92).Value))) (⟨M, Hp.le_refl M, (S.pick [] (by decide))⟩) ?_
          refine Wa_done (by kernel_rfl) ?_
          refine tn ?_
          rcases iteS H with ⟨hb182, H⟩ | ⟨hb182, H⟩
          · refine Wp_cond_true (congrArg Value.bool hb182) ?_
            refine Wp_seq ?_
            refine Wp_region_lit ?_
            refine W_v (.bool false) (x_assign rfl) rfl ?_
            refine Wl_nil ?_
            refine tn ?_
            refine Wp_ret ?_
            refine br (tr (tr (br (tr (tr (?_))))))
            obtain rfl := Option.some.inj H
            have H := o137H
            replace H := elimL H
            obtain rfl := Option.some.inj H
            exact ⟨_, _, _, fun w1 e1 => run_resR (vs := [.bool false]) (FA.cons (rfl) (FA.nil)), HM, E, S.pick [] (by decide), ⟨rfl, rfl⟩⟩
          refine Wp_cond_false (congrArg Value.bool hb182) ?_
          refine Wp_skip ?_
          refine bn ?_
          refine tn ?_
          refine Wp_region_lit ?_
          refine W_v (.int .i64 (IntKind.i64.wrap (x92 + (1 : Int)))) (x_ibin rfl rfl rfl rfl) rfl ?_
          refine W_v (.int .i64 (IntKind.i64.wrap (x92 + (1 : Int)))) (x_move rfl) rfl ?_
          refine Wl_nil ?_
          refine tn ?_
          exact ⟨k, Nat.lt_succ_self k, ⟨(IntKind.i64.wrap (x92 + (1 : Int))), H, ⟨rfl, rfl, rfl, rfl, trivial⟩, E, S.pick [] (by decide)⟩⟩
        refine Wp_cond_false (congrArg Value.bool hb139) ?_
        refine Wp_exit ?_
        refine tx (tx (bsm (?_)))
        refine tn ?_
        exact ⟨Option.some.inj H, trivial, E, S.pick [] (by decide)⟩
  clear o137h
  rintro ρ w183 ⟨rfl, hρ, E, S⟩
  rw [agree_eta hρ]
  clear hρ
  have H := o137H
  clear o137H
  replace H := elimR H
  refine tn ?_
  refine Wp_seq ?_
  refine Wp_region_lit ?_
  refine W_v (.bool true) (x_assign rfl) rfl ?_
  refine Wl_nil ?_
  refine tn ?_
  refine Wp_ret ?_
  obtain rfl := Option.some.inj H
  exact ⟨_, _, _, fun w1 e1 => run_resR (vs := [.bool true]) (FA.cons (rfl) (FA.nil)), HM, E, S.pick [] (by decide), ⟨rfl, rfl⟩⟩
/-! ### ferryman/event.Same$1: function 43 -/
def event_Same_1 (k : Nat) (a0 : api_Event) (a1 : api_Event) : Option (Bool) :=
  (Option.bind (α := Bool) (if ((((((a0.What == a1.What) && (a0.Task == a1.Task)) && (a0.Call == a1.Call)) && (a0.Answer.Err == a1.Answer.Err)) && (a0.Answer.Found == a1.Answer.Found)) && (sbin .eql a0.Answer.Value a1.Answer.Value)) = true then (Option.bind (slices_Equal_api_Pair_api_Pair k a0.Answer.Pairs a1.Answer.Pairs) (fun t21 => some (t21))) else some (false)) (fun x19 => some x19))
set_option maxHeartbeats 2000000 in
theorem event_Same_1.mono {k : Nat} {a0 : api_Event} {a1 : api_Event} : OLe (event_Same_1 k a0 a1) (event_Same_1 (k + 1) a0 a1) := by
  unfold event_Same_1
  repeat' (first | with_reducible exact OLe.none | with_reducible exact OLe.some | with_reducible refine OLe.ite ?_ ?_ | with_reducible refine OLe.bind ?_ (fun _ => ?_) | with_reducible exact slices_Equal_api_Pair_api_Pair.mono | refine OLe.bind ?_ (fun _ => ?_) | refine OLe.ite ?_ ?_ | refine OLe.elim (fun _ => ?_) (fun _ => ?_) | split)
set_option maxHeartbeats 1000000 in
set_option maxRecDepth 100000 in
theorem event_Same_1.con (k : Nat) (M : Hp) (A0_0 : Option Addr) (c0_0 : Nat) (a0 : api_Event) (A1_0 : Option Addr) (c1_0 : Nat) (a1 : api_Event) (r : Bool) (hr0_0 : SlR r_api_Pair M (.slice A0_0 a0.Answer.Pairs.length c0_0) a0.Answer.Pairs) (hr1_0 : SlR r_api_Pair M (.slice A1_0 a1.Answer.Pairs.length c1_0) a1.Answer.Pairs) (h : event_Same_1 k a0 a1 = some r) : Con Try.prog 43 #[.agg #[.int .u8 a0.What, .int .i64 a0.Task, .int .i64 a0.Call, .int .i64 a0.Answer.Err, .bool a0.Answer.Found, .string (bs a0.Answer.Value), .slice A0_0 a0.Answer.Pairs.length c0_0], .agg #[.int .u8 a1.What, .int .i64 a1.Task, .int .i64 a1.Call, .int .i64 a1.Answer.Err, .bool a1.Answer.Found, .string (bs a1.Answer.Value), .slice A1_0 a1.Answer.Pairs.length c1_0]] M [] (fun v M' Γ' => v = .bool r ∧ Γ' = []) := by
  refine con_of_wp Try.func43 rfl Try.ntmps43 Try.results43 rfl ?_
  intro w F rn S hrn
  have E := Ext.refl w
  have HM := Hp.le_refl M
  have H := h
  unfold event_Same_1 at H
  refine Wp_seq ?_
  refine Wp_region_lit ?_
  refine W_box S #[.int .u8 a0.What, .int .i64 a0.Task, .int .i64 a0.Call, .int .i64 a0.Answer.Err, .bool a0.Answer.Found, .string (bs a0.Answer.Value), .slice A0_0 a0.Answer.Pairs.length c0_0] rfl rfl rfl ?_
  intro b1 w2 E' S
  replace E := E.trans E'
  clear E'
  refine W_box S #[.int .u8 a1.What, .int .i64 a1.Task, .int .i64 a1.Call, .int .i64 a1.Answer.Err, .bool a1.Answer.Found, .string (bs a1.Answer.Value), .slice A1_0 a1.Answer.Pairs.length c1_0] rfl rfl rfl ?_
  intro b4 w5 E' S
  replace E := E.trans E'
  clear E'
  refine W_v (.bool false) (x_assign rfl) rfl ?_
  refine Wl_nil ?_
  refine tn ?_
  refine Wp_seq ?_
  refine Wp_region_lit ?_
  refine W_v (.pointer (some ⟨b1, 0, none⟩)) (x_fieldAddr (o := 0) (off := 0) Try.underlying32 rfl ty5 rfl rfl) rfl ?_
  refine W_v (.int .u8 a0.What) (x_load (S.blk 1 rfl) ty5 rfl rfl) rfl ?_
  refine W_v (.pointer (some ⟨b4, 0, none⟩)) (x_fieldAddr (o := 0) (off := 0) Try.underlying32 rfl ty5 rfl rfl) rfl ?_
  refine W_v (.int .u8 a1.What) (x_load (S.blk 0 rfl) ty5 rfl rfl) rfl ?_
  refine W_v (.bool (a0.What == a1.What)) (x_ibin rfl rfl rfl rfl) rfl ?_
  refine W_v (.bool (a0.What == a1.What)) (x_move rfl) rfl ?_
  refine Wl_cutN 6 (fun ρ w' => Agree ρ [(2, .pointer (some ⟨b1, 0, none⟩)), (3, .pointer (some ⟨b4, 0, none⟩)), (16, .bool ((a0.What == a1.What) && (a0.Task == a1.Task)))] ∧ w5 = w') ?_ ?_
  · rcases boolCases (a0.What == a1.What) with hb7 | hb7
    · skip
      refine W_no (skT hb7) rfl ?_
      refine W_no (skT hb7) rfl ?_
      refine W_no (skT hb7) rfl ?_
      refine W_no (skT hb7) rfl ?_
      refine W_no (skT hb7) rfl ?_
      refine W_v (.bool false) (x_pick (k := false) (congrArg Value.bool hb7) rfl) rfl ?_
      refine Wl_nil ?_
      exact ⟨⟨rfl, rfl, (by first | rfl | (rw [hb7]; rfl) | (simp only [hb7]; rfl)), trivial⟩, rfl⟩
    · skip
      refine W_yes (congrArg some hb7) ?_
      refine W_v (.pointer (some ⟨b1, 1, none⟩)) (x_fieldAddr (o := 0) (off := 1) Try.underlying32 rfl ty3 rfl rfl) rfl ?_
      refine W_yes (congrArg some hb7) ?_
      refine W_v (.int .i64 a0.Task) (x_load (S.blk 1 rfl) ty3 rfl rfl) rfl ?_
      refine W_yes (congrArg some hb7) ?_
      refine W_v (.pointer (some ⟨b4, 1, none⟩)) (x_fieldAddr (o := 0) (off := 1) Try.underlying32 rfl ty3 rfl rfl) rfl ?_
      refine W_yes (congrArg some hb7) ?_
      refine W_v (.int .i64 a1.Task) (x_load (S.blk 0 rfl) ty3 rfl rfl) rfl ?_
      refine W_yes (congrArg some hb7) ?_
      refine W_v (.bool (a0.Task == a1.Task)) (x_ibin rfl rfl rfl rfl) rfl ?_
      refine W_v (.bool (a0.Task == a1.Task)) (x_pick (k := true) (congrArg Value.bool hb7) rfl) rfl ?_
      refine Wl_nil ?_
      exact ⟨⟨rfl, rfl, (by first | rfl | (rw [hb7]; rfl) | (simp only [hb7]; rfl)), trivial⟩, rfl⟩
  rintro ρ _ ⟨hρ, rfl⟩
  rw [agree_eta hρ]
  clear hρ
  refine W_v (.bool ((a0.What == a1.What) && (a0.Task == a1.Task))) (x_move rfl) rfl ?_
  refine Wl_cutN 6 (fun ρ w' => Agree ρ [(2, .pointer (some ⟨b1, 0, none⟩)), (3, .pointer (some ⟨b4, 0, none⟩)), (23, .bool (((a0.What == a1.What) && (a0.Task == a1.Task)) && (a0.Call == a1.Call)))] ∧ w5 = w') ?_ ?_
  · rcases boolCases ((a0.What == a1.What) && (a0.Task == a1.Task)) with hb8 | hb8
    · skip
      refine W_no (skT hb8) rfl ?_
      refine W_no (skT hb8) rfl ?_
      refine W_no (skT hb8) rfl ?_
      refine W_no (skT hb8) rfl ?_
      refine W_no (skT hb8) rfl ?_
      refine W_v (.bool false) (x_pick (k := false) (congrArg Value.bool hb8) rfl) rfl ?_
      refine Wl_nil ?_
      exact ⟨⟨rfl, rfl, (by first | rfl | (rw [hb8]; rfl) | (simp only [hb8]; rfl)), trivial⟩, rfl⟩
    · skip
      refine W_yes (congrArg some hb8) ?_
      refine W_v (.pointer (some ⟨b1, 2, none⟩)) (x_fieldAddr (o := 0) (off := 2) Try.underlying32 rfl ty3 rfl rfl) rfl ?_
      refine W_yes (congrArg some hb8) ?_
      refine W_v (.int .i64 a0.Call) (x_load (S.blk 1 rfl) ty3 rfl rfl) rfl ?_
      refine W_yes (congrArg some hb8) ?_
      refine W_v (.pointer (some ⟨b4, 2, none⟩)) (x_fieldAddr (o := 0) (off := 2) Try.underlying32 rfl ty3 rfl rfl) rfl ?_
      refine W_yes (congrArg some hb8) ?_
      refine W_v (.int .i64 a1.Call) (x_load (S.blk 0 rfl) ty3 rfl rfl) rfl ?_
      refine W_yes (congrArg some hb8) ?_
      refine W_v (.bool (a0.Call == a1.Call)) (x_ibin rfl rfl rfl rfl) rfl ?_
      refine W_v (.bool (a0.Call == a1.Call)) (x_pick (k := true) (congrArg Value.bool hb8) rfl) rfl ?_
      refine Wl_nil ?_
      exact ⟨⟨rfl, rfl, (by first | rfl | (rw [hb8]; rfl) | (simp only [hb8]; rfl)), trivial⟩, rfl⟩
  rintro ρ _ ⟨hρ, rfl⟩
  rw [agree_eta hρ]
  clear hρ
  refine W_v (.bool (((a0.What == a1.What) && (a0.Task == a1.Task)) && (a0.Call == a1.Call))) (x_move rfl) rfl ?_
  refine Wl_cutN 8 (fun ρ w' => Agree ρ [(2, .pointer (some ⟨b1, 0, none⟩)), (3, .pointer (some ⟨b4, 0, none⟩)), (32, .bool ((((a0.What == a1.What) && (a0.Task == a1.Task)) && (a0.Call == a1.Call)) && (a0.Answer.Err == a1.Answer.Err)))] ∧ w5 = w') ?_ ?_
  · rcases boolCases (((a0.What == a1.What) && (a0.Task == a1.Task)) && (a0.Call == a1.Call)) with hb9 | hb9
    · skip
      refine W_no (skT hb9) rfl ?_
      refine W_no (skT hb9) rfl ?_
      refine W_no (skT hb9) rfl ?_
      refine W_no (skT hb9) rfl ?_
      refine W_no (skT hb9) rfl ?_
      refine W_no (skT hb9) rfl ?_
      refine W_no (skT hb9) rfl ?_
      refine W_v (.bool false) (x_pick (k := false) (congrArg Value.bool hb9) rfl) rfl ?_
      refine Wl_nil ?_
      exact ⟨⟨rfl, rfl, (by first | rfl | (rw [hb9]; rfl) | (simp only [hb9]; rfl)), trivial⟩, rfl⟩
    · skip
      refine W_yes (congrArg some hb9) ?_
      refine W_v (.pointer (some ⟨b1, 3, none⟩)) (x_fieldAddr (o := 0) (off := 3) Try.underlying32 rfl ty30 rfl rfl) rfl ?_
      refine W_yes (congrArg some hb9) ?_
      refine W_v (.pointer (some ⟨b1, 3, none⟩)) (x_fieldAddr (o := 3) (off := 0) Try.underlying30 rfl ty27 rfl rfl) rfl ?_
      refine W_yes (congrArg some hb9) ?_
      refine W_v (.int .i64 a0.Answer.Err) (x_load (S.blk 1 rfl) ty27 rfl rfl) rfl ?_
      refine W_yes (congrArg some hb9) ?_
      refine W_v (.pointer (some ⟨b4, 3, none⟩)) (x_fieldAddr (o := 0) (off := 3) Try.underlying32 rfl ty30 rfl rfl) rfl ?_
      refine W_yes (congrArg some hb9) ?_
      refine W_v (.pointer (some ⟨b4, 3, none⟩)) (x_fieldAddr (o := 3) (off := 0) Try.underlying30 rfl ty27 rfl rfl) rfl ?_
      refine W_yes (congrArg some hb9) ?_
      refine W_v (.int .i64 a1.Answer.Err) (x_load (S.blk 0 rfl) ty27 rfl rfl) rfl ?_
      refine W_yes (congrArg some hb9) ?_
      refine W_v (.bool (a0.Answer.Err == a1.Answer.Err)) (x_ibin rfl rfl rfl rfl) rfl ?_
      refine W_v (.bool (a0.Answer.Err == a1.Answer.Err)) (x_pick (k := true) (congrArg Value.bool hb9) rfl) rfl ?_
      refine Wl_nil ?_
      exact ⟨⟨rfl, rfl, (by first | rfl | (rw [hb9]; rfl) | (simp only [hb9]; rfl)), trivial⟩, rfl⟩
  rintro ρ _ ⟨hρ, rfl⟩
  rw [agree_eta hρ]
  clear hρ
  refine W_v (.bool ((((a0.What == a1.What) && (a0.Task == a1.Task)) && (a0.Call == a1.Call)) && (a0.Answer.Err == a1.Answer.Err))) (x_move rfl) rfl ?_
  refine Wl_cutN 8 (fun ρ w' => Agree ρ [(2, .pointer (some ⟨b1, 0, none⟩)), (3, .pointer (some ⟨b4, 0, none⟩)), (41, .bool (((((a0.What == a1.What) && (a0.Task == a1.Task)) && (a0.Call == a1.Call)) && (a0.Answer.Err == a1.Answer.Err)) && (a0.Answer.Found == a1.Answer.Found)))] ∧ w5 = w') ?_ ?_
  · rcases boolCases ((((a0.What == a1.What) && (a0.Task == a1.Task)) && (a0.Call == a1.Call)) && (a0.Answer.Err == a1.Answer.Err)) with hb10 | hb10
    · skip
      refine W_no (skT hb10) rfl ?_
      refine W_no (skT hb10) rfl ?_
      refine W_no (skT hb10) rfl ?_
      refine W_no (skT hb10) rfl ?_
      refine W_no (skT hb10) rfl ?_
      refine W_no (skT hb10) rfl ?_
      refine W_no (skT hb10) rfl ?_
      refine W_v (.bool false) (x_pick (k := false) (congrArg Value.bool hb10) rfl) rfl ?_
      refine Wl_nil ?_
      exact ⟨⟨rfl, rfl, (by first | rfl | (rw [hb10]; rfl) | (simp only [hb10]; rfl)), trivial⟩, rfl⟩
    · skip
      refine W_yes (congrArg some hb10) ?_
      refine W_v (.pointer (some ⟨b1, 3, none⟩)) (x_fieldAddr (o := 0) (off := 3) Try.underlying32 rfl ty30 rfl rfl) rfl ?_
      refine W_yes (congrArg some hb10) ?_
      refine W_v (.pointer (some ⟨b1, 4, none⟩)) (x_fieldAddr (o := 3) (off := 1) Try.underlying30 rfl ty4 rfl rfl) rfl ?_
      refine W_yes (congrArg some hb10) ?_
      refine W_v (.bool a0.Answer.Found) (x_load (S.blk 1 rfl) ty4 rfl rfl) rfl ?_
      refine W_yes (congrArg some hb10) ?_
      refine W_v (.pointer (some ⟨b4, 3, none⟩)) (x_fieldAddr (o := 0) (off := 3) Try.underlying32 rfl ty30 rfl rfl) rfl ?_
      refine W_yes (congrArg some hb10) ?_
      refine W_v (.pointer (some ⟨b4, 4, none⟩)) (x_fieldAddr (o := 3) (off := 1) Try.underlying30 rfl ty4 rfl rfl) rfl ?_
      refine W_yes (congrArg some hb10) ?_
      refine W_v (.bool a1.Answer.Found) (x_load (S.blk 0 rfl) ty4 rfl rfl) rfl ?_
      refine W_yes (congrArg some hb10) ?_
      refine W_v (.bool (a0.Answer.Found == a1.Answer.Found)) (x_beq Try.underlying4 rfl rfl) rfl ?_
      refine W_v (.bool (a0.Answer.Found == a1.Answer.Found)) (x_pick (k := true) (congrArg Value.bool hb10) rfl) rfl ?_
      refine Wl_nil ?_
      exact ⟨⟨rfl, rfl, (by first | rfl | (rw [hb10]; rfl) | (simp only [hb10]; rfl)), trivial⟩, rfl⟩
  rintro ρ _ ⟨hρ, rfl⟩
  rw [agree_eta hρ]
  clear hρ
  refine W_v (.bool (((((a0.What == a1.What) && (a0.Task == a1.Task)) && (a0.Call == a1.Call)) && (a0.Answer.Err == a1.Answer.Err)) && (a0.Answer.Found == a1.Answer.Found))) (x_move rfl) rfl ?_
  refine Wl_cutN 8 (fun ρ w' => Agree ρ [(2, .pointer (some ⟨b1, 0, none⟩)), (3, .pointer (some ⟨b4, 0, none⟩)), (50, .bool ((((((a0.What == a1.What) && (a0.Task == a1.Task)) && (a0.Call == a1.Call)) && (a0.Answer.Err == a1.Answer.Err)) && (a0.Answer.Found == a1.Answer.Found)) && (sbin .eql a0.Answer.Value a1.Answer.Value)))] ∧ w5 = w') ?_ ?_
  · rcases boolCases (((((a0.What == a1.What) && (a0.Task == a1.Task)) && (a0.Call == a1.Call)) && (a0.Answer.Err == a1.Answer.Err)) && (a0.Answer.Found == a1.Answer.Found)) with hb11 | hb11
    · skip
      refine W_no (skT hb11) rfl ?_
      refine W_no (skT hb11) rfl ?_
      refine W_no (skT hb11) rfl ?_
      refine W_no (skT hb11) rfl ?_
      refine W_no (skT hb11) rfl ?_
      refine W_no (skT hb11) rfl ?_
      refine W_no (skT hb11) rfl ?_
      refine W_v (.bool false) (x_pick (k := false) (congrArg Value.bool hb11) rfl) rfl ?_
      refine Wl_nil ?_
      exact ⟨⟨rfl, rfl, (by first | rfl | (rw [hb11]; rfl) | (simp only [hb11]; rfl)), trivial⟩, rfl⟩
    · skip
      refine W_yes (congrArg some hb11) ?_
      refine W_v (.pointer (some ⟨b1, 3, none⟩)) (x_fieldAddr (o := 0) (off := 3) Try.underlying32 rfl ty30 rfl rfl) rfl ?_
      refine W_yes (congrArg some hb11) ?_
      refine W_v (.pointer (some ⟨b1, 5, none⟩)) (x_fieldAddr (o := 3) (off := 2) Try.underlying30 rfl ty9 rfl rfl) rfl ?_
      refine W_yes (congrArg some hb11) ?_
      refine W_v (.string (bs a0.Answer.Value)) (x_load (S.blk 1 rfl) ty9 rfl rfl) rfl ?_
      refine W_yes (congrArg some hb11) ?_
      refine W_v (.pointer (some ⟨b4, 3, none⟩)) (x_fieldAddr (o := 0) (off := 3) Try.underlying32 rfl ty30 rfl rfl) rfl ?_
      refine W_yes (congrArg some hb11) ?_
      refine W_v (.pointer (some ⟨b4, 5, none⟩)) (x_fieldAddr (o := 3) (off := 2) Try.underlying30 rfl ty9 rfl rfl) rfl ?_
      refine W_yes (congrArg some hb11) ?_
      refine W_v (.string (bs a1.Answer.Value)) (x_load (S.blk 0 rfl) ty9 rfl rfl) rfl ?_
      refine W_yes (congrArg some hb11) ?_
      refine W_v (.bool (sbin .eql a0.Answer.Value a1.Answer.Value)) (x_sbin rfl rfl rfl) rfl ?_
      refine W_v (.bool (sbin .eql a0.Answer.Value a1.Answer.Value)) (x_pick (k := true) (congrArg Value.bool hb11) rfl) rfl ?_
      refine Wl_nil ?_
      exact ⟨⟨rfl, rfl, (by first | rfl | (rw [hb11]; rfl) | (simp only [hb11]; rfl)), trivial⟩, rfl⟩
  rintro ρ _ ⟨hρ, rfl⟩
  rw [agree_eta hρ]
  clear hρ
  refine W_v (.bool ((((((a0.What == a1.What) && (a0.Task == a1.Task)) && (a0.Call == a1.Call)) && (a0.Answer.Err == a1.Answer.Err)) && (a0.Answer.Found == a1.Answer.Found)) && (sbin .eql a0.Answer.Value a1.Answer.Value))) (x_move rfl) rfl ?_
  obtain ⟨o20, o20h, o20H⟩ := bindS H
  clear H
  refine Wl_cutN 8 (fun ρ w' => ∃ (x19 : Bool), (x19) = o20 ∧ Agree ρ [(59, .bool x19)] ∧ Ext w w' ∧ St w' M F []) ?_ ?_
  · have H := o20h
    rcases iteS H with ⟨hb18, H⟩ | ⟨hb18, H⟩
    · skip
      refine W_yes (congrArg some hb18) ?_
      refine W_v (.pointer (some ⟨b1, 3, none⟩)) (x_fieldAddr (o := 0) (off := 3) Try.underlying32 rfl ty30 rfl rfl) rfl ?_
      refine W_yes (congrArg some hb18) ?_
      refine W_v (.pointer (some ⟨b1, 6, none⟩)) (x_fieldAddr (o := 3) (off := 3) Try.underlying30 rfl ty28 rfl rfl) rfl ?_
      refine W_yes (congrArg some hb18) ?_
      refine W_v (.slice A0_0 a0.Answer.Pairs.length c0_0) (x_load (S.blk 1 rfl) ty28 rfl rfl) rfl ?_
      refine W_yes (congrArg some hb18) ?_
      refine W_v (.pointer (some ⟨b4, 3, none⟩)) (x_fieldAddr (o := 0) (off := 3) Try.underlying32 rfl ty30 rfl rfl) rfl ?_
      refine W_yes (congrArg some hb18) ?_
      refine W_v (.pointer (some ⟨b4, 6, none⟩)) (x_fieldAddr (o := 3) (off := 3) Try.underlying30 rfl ty28 rfl rfl) rfl ?_
      refine W_yes (congrArg some hb18) ?_
      refine W_v (.slice A1_0 a1.Answer.Pairs.length c1_0) (x_load (S.blk 0 rfl) ty28 rfl rfl) rfl ?_
      refine W_yes (congrArg some hb18) ?_
      obtain ⟨t21, ht22, H⟩ := bindS H
      refine W_callF fn44 (slices_Equal_api_Pair_api_Pair.con k M A0_0 c0_0 a0.Answer.Pairs A1_0 c1_0 a1.Answer.Pairs t21 hr0_0 hr1_0 ht22) S rfl rfl (by rintro _ _ _ ⟨_, rfl⟩; exact flat_nil) ?_
      rintro _ w23 _ Γ' E' S ⟨rfl, rfl⟩
      replace E := E.trans E'
      clear E'
      refine W_v (.bool t21) (x_pick (k := true) (congrArg Value.bool hb18) rfl) rfl ?_
      refine Wl_nil ?_
      exact ⟨t21, Option.some.inj H, ⟨rfl, trivial⟩, E, S.pick [] (by decide)⟩
    · skip
      refine W_no (skT hb18) rfl ?_
      refine W_no (skT hb18) rfl ?_
      refine W_no (skT hb18) rfl ?_
      refine W_no (skT hb18) rfl ?_
      refine W_no (skT hb18) rfl ?_
      refine W_no (skT hb18) rfl ?_
      refine W_no (skT hb18) rfl ?_
      refine W_v (.bool false) (x_pick (k := false) (congrArg Value.bool hb18) rfl) rfl ?_
      refine Wl_nil ?_
      exact ⟨false, Option.some.inj H, ⟨rfl, trivial⟩, E, S.pick [] (by decide)⟩
  clear o20h
  rintro ρ w24 ⟨x19, rfl, hρ, E, S⟩
  rw [agree_eta hρ]
  clear hρ
  have H := o20H
  clear o20H
  refine W_v (.bool x19) (x_assign rfl) rfl ?_
  refine Wl_nil ?_
  refine tn ?_
  refine Wp_ret ?_
  obtain rfl := Option.some.inj H
  exact ⟨_, _, _, fun w1 e1 => run_resR (vs := [.bool x19]) (FA.cons (rfl) (FA.nil)), HM, E, S.pick [] (by decide), ⟨rfl, rfl⟩⟩
/-! ### ferryman/event.Same$1: function 43 -/
def event_Same_1_v (k : Nat) (a0 : api_Event) (a1 : api_Event) : Option (Bool) :=
  (Option.bind (α := Bool) (if ((((((a0.What == a1.What) && (a0.Task == a1.Task)) && (a0.Call == a1.Call)) && (a0.Answer.Err == a1.Answer.Err)) && (a0.Answer.Found == a1.Answer.Found)) && (sbin .eql a0.Answer.Value a1.Answer.Value)) = true then (Option.bind (slices_Equal_api_Pair_api_Pair k a0.Answer.Pairs a1.Answer.Pairs) (fun t21 => some (t21))) else some (false)) (fun x19 => some x19))
set_option maxHeartbeats 2000000 in
theorem event_Same_1_v.mono {k : Nat} {a0 : api_Event} {a1 : api_Event} : OLe (event_Same_1_v k a0 a1) (event_Same_1_v (k + 1) a0 a1) := by
  unfold event_Same_1_v
  repeat' (first | with_reducible exact OLe.none | with_reducible exact OLe.some | with_reducible refine OLe.ite ?_ ?_ | with_reducible refine OLe.bind ?_ (fun _ => ?_) | with_reducible exact slices_Equal_api_Pair_api_Pair.mono | refine OLe.bind ?_ (fun _ => ?_) | refine OLe.ite ?_ ?_ | refine OLe.elim (fun _ => ?_) (fun _ => ?_) | split)
set_option maxHeartbeats 1000000 in
set_option maxRecDepth 100000 in
theorem event_Same_1_v.con (k : Nat) (M : Hp) (A0_0 : Option Addr) (c0_0 : Nat) (a0 : api_Event) (A1_0 : Option Addr) (c1_0 : Nat) (a1 : api_Event) (r : Bool) (hr0_0 : SlR r_api_Pair M (.slice A0_0 a0.Answer.Pairs.length c0_0) a0.Answer.Pairs) (hr1_0 : SlR r_api_Pair M (.slice A1_0 a1.Answer.Pairs.length c1_0) a1.Answer.Pairs) (h : event_Same_1_v k a0 a1 = some r) : Con Try.prog 43 #[.agg #[.int .u8 a0.What, .int .i64 a0.Task, .int .i64 a0.Call, .int .i64 a0.Answer.Err, .bool a0.Answer.Found, .string (bs a0.Answer.Value), .slice A0_0 a0.Answer.Pairs.length c0_0], .agg #[.int .u8 a1.What, .int .i64 a1.Task, .int .i64 a1.Call, .int .i64 a1.Answer.Err, .bool a1.Answer.Found, .string (bs a1.Answer.Value), .slice A1_0 a1.Answer.Pairs.length c1_0]] M [] (fun v M' Γ' => v = .bool r ∧ Γ' = []) := by
  refine con_of_wp Try.func43 rfl Try.ntmps43 Try.results43 rfl ?_
  intro w F rn S hrn
  have E := Ext.refl w
  have HM := Hp.le_refl M
  have H := h
  unfold event_Same_1_v at H
  refine Wp_seq ?_
  refine Wp_region_lit ?_
  refine W_box S #[.int .u8 a0.What, .int .i64 a0.Task, .int .i64 a0.Call, .int .i64 a0.Answer.Err, .bool a0.Answer.Found, .string (bs a0.Answer.Value), .slice A0_0 a0.Answer.Pairs.length c0_0] rfl rfl rfl ?_
  intro b1 w2 E' S
  replace E := E.trans E'
  clear E'
  refine W_box S #[.int .u8 a1.What, .int .i64 a1.Task, .int .i64 a1.Call, .int .i64 a1.Answer.Err, .bool a1.Answer.Found, .string (bs a1.Answer.Value), .slice A1_0 a1.Answer.Pairs.length c1_0] rfl rfl rfl ?_
  intro b4 w5 E' S
  replace E := E.trans E'
  clear E'
  refine W_v (.bool false) (x_assign rfl) rfl ?_
  refine Wl_nil ?_
  refine tn ?_
  refine Wp_seq ?_
  refine Wp_region_lit ?_
  refine W_v (.pointer (some ⟨b1, 0, none⟩)) (x_fieldAddr (o := 0) (off := 0) Try.underlying32 rfl ty5 rfl rfl) rfl ?_
  refine W_v (.int .u8 a0.What) (x_load (S.blk 1 rfl) ty5 rfl rfl) rfl ?_
  refine W_v (.pointer (some ⟨b4, 0, none⟩)) (x_fieldAddr (o := 0) (off := 0) Try.underlying32 rfl ty5 rfl rfl) rfl ?_
  refine W_v (.int .u8 a1.What) (x_load (S.blk 0 rfl) ty5 rfl rfl) rfl ?_
  refine W_v (.bool (a0.What == a1.What)) (x_ibin rfl rfl rfl rfl) rfl ?_
  refine W_v (.bool (a0.What == a1.What)) (x_move rfl) rfl ?_
  refine Wl_cutN 6 (fun ρ w' => Agree ρ [(2, .pointer (some ⟨b1, 0, none⟩)), (3, .pointer (some ⟨b4, 0, none⟩)), (16, .bool ((a0.What == a1.What) && (a0.Task == a1.Task)))] ∧ w5 = w') ?_ ?_
  · rcases boolCases (a0.What == a1.What) with hb7 | hb7
    · skip
      refine W_no (skT hb7) rfl ?_
      refine W_no (skT hb7) rfl ?_
      refine W_no (skT hb7) rfl ?_
      refine W_no (skT hb7) rfl ?_
      refine W_no (skT hb7) rfl ?_
      refine W_v (.bool false) (x_pick (k := false) (congrArg Value.bool hb7) rfl) rfl ?_
      refine Wl_nil ?_
      exact ⟨⟨rfl, rfl, (by first | rfl | (rw [hb7]; rfl) | (simp only [hb7]; rfl)), trivial⟩, rfl⟩
    · skip
      refine W_yes (congrArg some hb7) ?_
      refine W_v (.pointer (some ⟨b1, 1, none⟩)) (x_fieldAddr (o := 0) (off := 1) Try.underlying32 rfl ty3 rfl rfl) rfl ?_
      refine W_yes (congrArg some hb7) ?_
      refine W_v (.int .i64 a0.Task) (x_load (S.blk 1 rfl) ty3 rfl rfl) rfl ?_
      refine W_yes (congrArg some hb7) ?_
      refine W_v (.pointer (some ⟨b4, 1, none⟩)) (x_fieldAddr (o := 0) (off := 1) Try.underlying32 rfl ty3 rfl rfl) rfl ?_
      refine W_yes (congrArg some hb7) ?_
      refine W_v (.int .i64 a1.Task) (x_load (S.blk 0 rfl) ty3 rfl rfl) rfl ?_
      refine W_yes (congrArg some hb7) ?_
      refine W_v (.bool (a0.Task == a1.Task)) (x_ibin rfl rfl rfl rfl) rfl ?_
      refine W_v (.bool (a0.Task == a1.Task)) (x_pick (k := true) (congrArg Value.bool hb7) rfl) rfl ?_
      refine Wl_nil ?_
      exact ⟨⟨rfl, rfl, (by first | rfl | (rw [hb7]; rfl) | (simp only [hb7]; rfl)), trivial⟩, rfl⟩
  rintro ρ _ ⟨hρ, rfl⟩
  rw [agree_eta hρ]
  clear hρ
  refine W_v (.bool ((a0.What == a1.What) && (a0.Task == a1.Task))) (x_move rfl) rfl ?_
  refine Wl_cutN 6 (fun ρ w' => Agree ρ [(2, .pointer (some ⟨b1, 0, none⟩)), (3, .pointer (some ⟨b4, 0, none⟩)), (23, .bool (((a0.What == a1.What) && (a0.Task == a1.Task)) && (a0.Call == a1.Call)))] ∧ w5 = w') ?_ ?_
  · rcases boolCases ((a0.What == a1.What) && (a0.Task == a1.Task)) with hb8 | hb8
    · skip
      refine W_no (skT hb8) rfl ?_
      refine W_no (skT hb8) rfl ?_
      refine W_no (skT hb8) rfl ?_
      refine W_no (skT hb8) rfl ?_
      refine W_no (skT hb8) rfl ?_
      refine W_v (.bool false) (x_pick (k := false) (congrArg Value.bool hb8) rfl) rfl ?_
      refine Wl_nil ?_
      exact ⟨⟨rfl, rfl, (by first | rfl | (rw [hb8]; rfl) | (simp only [hb8]; rfl)), trivial⟩, rfl⟩
    · skip
      refine W_yes (congrArg some hb8) ?_
      refine W_v (.pointer (some ⟨b1, 2, none⟩)) (x_fieldAddr (o := 0) (off := 2) Try.underlying32 rfl ty3 rfl rfl) rfl ?_
      refine W_yes (congrArg some hb8) ?_
      refine W_v (.int .i64 a0.Call) (x_load (S.blk 1 rfl) ty3 rfl rfl) rfl ?_
      refine W_yes (congrArg some hb8) ?_
      refine W_v (.pointer (some ⟨b4, 2, none⟩)) (x_fieldAddr (o := 0) (off := 2) Try.underlying32 rfl ty3 rfl rfl) rfl ?_
      refine W_yes (congrArg some hb8) ?_
      refine W_v (.int .i64 a1.Call) (x_load (S.blk 0 rfl) ty3 rfl rfl) rfl ?_
      refine W_yes (congrArg some hb8) ?_
      refine W_v (.bool (a0.Call == a1.Call)) (x_ibin rfl rfl rfl rfl) rfl ?_
      refine W_v (.bool (a0.Call == a1.Call)) (x_pick (k := true) (congrArg Value.bool hb8) rfl) rfl ?_
      refine Wl_nil ?_
      exact ⟨⟨rfl, rfl, (by first | rfl | (rw [hb8]; rfl) | (simp only [hb8]; rfl)), trivial⟩, rfl⟩
  rintro ρ _ ⟨hρ, rfl⟩
  rw [agree_eta hρ]
  clear hρ
  refine W_v (.bool (((a0.What == a1.What) && (a0.Task == a1.Task)) && (a0.Call == a1.Call))) (x_move rfl) rfl ?_
  refine Wl_cutN 8 (fun ρ w' => Agree ρ [(2, .pointer (some ⟨b1, 0, none⟩)), (3, .pointer (some ⟨b4, 0, none⟩)), (32, .bool ((((a0.What == a1.What) && (a0.Task == a1.Task)) && (a0.Call == a1.Call)) && (a0.Answer.Err == a1.Answer.Err)))] ∧ w5 = w') ?_ ?_
  · rcases boolCases (((a0.What == a1.What) && (a0.Task == a1.Task)) && (a0.Call == a1.Call)) with hb9 | hb9
    · skip
      refine W_no (skT hb9) rfl ?_
      refine W_no (skT hb9) rfl ?_
      refine W_no (skT hb9) rfl ?_
      refine W_no (skT hb9) rfl ?_
      refine W_no (skT hb9) rfl ?_
      refine W_no (skT hb9) rfl ?_
      refine W_no (skT hb9) rfl ?_
      refine W_v (.bool false) (x_pick (k := false) (congrArg Value.bool hb9) rfl) rfl ?_
      refine Wl_nil ?_
      exact ⟨⟨rfl, rfl, (by first | rfl | (rw [hb9]; rfl) | (simp only [hb9]; rfl)), trivial⟩, rfl⟩
    · skip
      refine W_yes (congrArg some hb9) ?_
      refine W_v (.pointer (some ⟨b1, 3, none⟩)) (x_fieldAddr (o := 0) (off := 3) Try.underlying32 rfl ty30 rfl rfl) rfl ?_
      refine W_yes (congrArg some hb9) ?_
      refine W_v (.pointer (some ⟨b1, 3, none⟩)) (x_fieldAddr (o := 3) (off := 0) Try.underlying30 rfl ty27 rfl rfl) rfl ?_
      refine W_yes (congrArg some hb9) ?_
      refine W_v (.int .i64 a0.Answer.Err) (x_load (S.blk 1 rfl) ty27 rfl rfl) rfl ?_
      refine W_yes (congrArg some hb9) ?_
      refine W_v (.pointer (some ⟨b4, 3, none⟩)) (x_fieldAddr (o := 0) (off := 3) Try.underlying32 rfl ty30 rfl rfl) rfl ?_
      refine W_yes (congrArg some hb9) ?_
      refine W_v (.pointer (some ⟨b4, 3, none⟩)) (x_fieldAddr (o := 3) (off := 0) Try.underlying30 rfl ty27 rfl rfl) rfl ?_
      refine W_yes (congrArg some hb9) ?_
      refine W_v (.int .i64 a1.Answer.Err) (x_load (S.blk 0 rfl) ty27 rfl rfl) rfl ?_
      refine W_yes (congrArg some hb9) ?_
      refine W_v (.bool (a0.Answer.Err == a1.Answer.Err)) (x_ibin rfl rfl rfl rfl) rfl ?_
      refine W_v (.bool (a0.Answer.Err == a1.Answer.Err)) (x_pick (k := true) (congrArg Value.bool hb9) rfl) rfl ?_
      refine Wl_nil ?_
      exact ⟨⟨rfl, rfl, (by first | rfl | (rw [hb9]; rfl) | (simp only [hb9]; rfl)), trivial⟩, rfl⟩
  rintro ρ _ ⟨hρ, rfl⟩
  rw [agree_eta hρ]
  clear hρ
  refine W_v (.bool ((((a0.What == a1.What) && (a0.Task == a1.Task)) && (a0.Call == a1.Call)) && (a0.Answer.Err == a1.Answer.Err))) (x_move rfl) rfl ?_
  refine Wl_cutN 8 (fun ρ w' => Agree ρ [(2, .pointer (some ⟨b1, 0, none⟩)), (3, .pointer (some ⟨b4, 0, none⟩)), (41, .bool (((((a0.What == a1.What) && (a0.Task == a1.Task)) && (a0.Call == a1.Call)) && (a0.Answer.Err == a1.Answer.Err)) && (a0.Answer.Found == a1.Answer.Found)))] ∧ w5 = w') ?_ ?_
  · rcases boolCases ((((a0.What == a1.What) && (a0.Task == a1.Task)) && (a0.Call == a1.Call)) && (a0.Answer.Err == a1.Answer.Err)) with hb10 | hb10
    · skip
      refine W_no (skT hb10) rfl ?_
      refine W_no (skT hb10) rfl ?_
      refine W_no (skT hb10) rfl ?_
      refine W_no (skT hb10) rfl ?_
      refine W_no (skT hb10) rfl ?_
      refine W_no (skT hb10) rfl ?_
      refine W_no (skT hb10) rfl ?_
      refine W_v (.bool false) (x_pick (k := false) (congrArg Value.bool hb10) rfl) rfl ?_
      refine Wl_nil ?_
      exact ⟨⟨rfl, rfl, (by first | rfl | (rw [hb10]; rfl) | (simp only [hb10]; rfl)), trivial⟩, rfl⟩
    · skip
      refine W_yes (congrArg some hb10) ?_
      refine W_v (.pointer (some ⟨b1, 3, none⟩)) (x_fieldAddr (o := 0) (off := 3) Try.underlying32 rfl ty30 rfl rfl) rfl ?_
      refine W_yes (congrArg some hb10) ?_
      refine W_v (.pointer (some ⟨b1, 4, none⟩)) (x_fieldAddr (o := 3) (off := 1) Try.underlying30 rfl ty4 rfl rfl) rfl ?_
      refine W_yes (congrArg some hb10) ?_
      refine W_v (.bool a0.Answer.Found) (x_load (S.blk 1 rfl) ty4 rfl rfl) rfl ?_
      refine W_yes (congrArg some hb10) ?_
      refine W_v (.pointer (some ⟨b4, 3, none⟩)) (x_fieldAddr (o := 0) (off := 3) Try.underlying32 rfl ty30 rfl rfl) rfl ?_
      refine W_yes (congrArg some hb10) ?_
      refine W_v (.pointer (some ⟨b4, 4, none⟩)) (x_fieldAddr (o := 3) (off := 1) Try.underlying30 rfl ty4 rfl rfl) rfl ?_
      refine W_yes (congrArg some hb10) ?_
      refine W_v (.bool a1.Answer.Found) (x_load (S.blk 0 rfl) ty4 rfl rfl) rfl ?_
      refine W_yes (congrArg some hb10) ?_
      refine W_v (.bool (a0.Answer.Found == a1.Answer.Found)) (x_beq Try.underlying4 rfl rfl) rfl ?_
      refine W_v (.bool (a0.Answer.Found == a1.Answer.Found)) (x_pick (k := true) (congrArg Value.bool hb10) rfl) rfl ?_
      refine Wl_nil ?_
      exact ⟨⟨rfl, rfl, (by first | rfl | (rw [hb10]; rfl) | (simp only [hb10]; rfl)), trivial⟩, rfl⟩
  rintro ρ _ ⟨hρ, rfl⟩
  rw [agree_eta hρ]
  clear hρ
  refine W_v (.bool (((((a0.What == a1.What) && (a0.Task == a1.Task)) && (a0.Call == a1.Call)) && (a0.Answer.Err == a1.Answer.Err)) && (a0.Answer.Found == a1.Answer.Found))) (x_move rfl) rfl ?_
  refine Wl_cutN 8 (fun ρ w' => Agree ρ [(2, .pointer (some ⟨b1, 0, none⟩)), (3, .pointer (some ⟨b4, 0, none⟩)), (50, .bool ((((((a0.What == a1.What) && (a0.Task == a1.Task)) && (a0.Call == a1.Call)) && (a0.Answer.Err == a1.Answer.Err)) && (a0.Answer.Found == a1.Answer.Found)) && (sbin .eql a0.Answer.Value a1.Answer.Value)))] ∧ w5 = w') ?_ ?_
  · rcases boolCases (((((a0.What == a1.What) && (a0.Task == a1.Task)) && (a0.Call == a1.Call)) && (a0.Answer.Err == a1.Answer.Err)) && (a0.Answer.Found == a1.Answer.Found)) with hb11 | hb11
    · skip
      refine W_no (skT hb11) rfl ?_
      refine W_no (skT hb11) rfl ?_
      refine W_no (skT hb11) rfl ?_
      refine W_no (skT hb11) rfl ?_
      refine W_no (skT hb11) rfl ?_
      refine W_no (skT hb11) rfl ?_
      refine W_no (skT hb11) rfl ?_
      refine W_v (.bool false) (x_pick (k := false) (congrArg Value.bool hb11) rfl) rfl ?_
      refine Wl_nil ?_
      exact ⟨⟨rfl, rfl, (by first | rfl | (rw [hb11]; rfl) | (simp only [hb11]; rfl)), trivial⟩, rfl⟩
    · skip
      refine W_yes (congrArg some hb11) ?_
      refine W_v (.pointer (some ⟨b1, 3, none⟩)) (x_fieldAddr (o := 0) (off := 3) Try.underlying32 rfl ty30 rfl rfl) rfl ?_
      refine W_yes (congrArg some hb11) ?_
      refine W_v (.pointer (some ⟨b1, 5, none⟩)) (x_fieldAddr (o := 3) (off := 2) Try.underlying30 rfl ty9 rfl rfl) rfl ?_
      refine W_yes (congrArg some hb11) ?_
      refine W_v (.string (bs a0.Answer.Value)) (x_load (S.blk 1 rfl) ty9 rfl rfl) rfl ?_
      refine W_yes (congrArg some hb11) ?_
      refine W_v (.pointer (some ⟨b4, 3, none⟩)) (x_fieldAddr (o := 0) (off := 3) Try.underlying32 rfl ty30 rfl rfl) rfl ?_
      refine W_yes (congrArg some hb11) ?_
      refine W_v (.pointer (some ⟨b4, 5, none⟩)) (x_fieldAddr (o := 3) (off := 2) Try.underlying30 rfl ty9 rfl rfl) rfl ?_
      refine W_yes (congrArg some hb11) ?_
      refine W_v (.string (bs a1.Answer.Value)) (x_load (S.blk 0 rfl) ty9 rfl rfl) rfl ?_
      refine W_yes (congrArg some hb11) ?_
      refine W_v (.bool (sbin .eql a0.Answer.Value a1.Answer.Value)) (x_sbin rfl rfl rfl) rfl ?_
      refine W_v (.bool (sbin .eql a0.Answer.Value a1.Answer.Value)) (x_pick (k := true) (congrArg Value.bool hb11) rfl) rfl ?_
      refine Wl_nil ?_
      exact ⟨⟨rfl, rfl, (by first | rfl | (rw [hb11]; rfl) | (simp only [hb11]; rfl)), trivial⟩, rfl⟩
  rintro ρ _ ⟨hρ, rfl⟩
  rw [agree_eta hρ]
  clear hρ
  refine W_v (.bool ((((((a0.What == a1.What) && (a0.Task == a1.Task)) && (a0.Call == a1.Call)) && (a0.Answer.Err == a1.Answer.Err)) && (a0.Answer.Found == a1.Answer.Found)) && (sbin .eql a0.Answer.Value a1.Answer.Value))) (x_move rfl) rfl ?_
  obtain ⟨o20, o20h, o20H⟩ := bindS H
  clear H
  refine Wl_cutN 8 (fun ρ w' => ∃ (x19 : Bool), (x19) = o20 ∧ Agree ρ [(59, .bool x19)] ∧ Ext w w' ∧ St w' M F []) ?_ ?_
  · have H := o20h
    rcases iteS H with ⟨hb18, H⟩ | ⟨hb18, H⟩
    · skip
      refine W_yes (congrArg some hb18) ?_
      refine W_v (.pointer (some ⟨b1, 3, none⟩)) (x_fieldAddr (o := 0) (off := 3) Try.underlying32 rfl ty30 rfl rfl) rfl ?_
      refine W_yes (congrArg some hb18) ?_
      refine W_v (.pointer (some ⟨b1, 6, none⟩)) (x_fieldAddr (o := 3) (off := 3) Try.underlying30 rfl ty28 rfl rfl) rfl ?_
      refine W_yes (congrArg some hb18) ?_
      refine W_v (.slice A0_0 a0.Answer.Pairs.length c0_0) (x_load (S.blk 1 rfl) ty28 rfl rfl) rfl ?_
      refine W_yes (congrArg some hb18) ?_
      refine W_v (.pointer (some ⟨b4, 3, none⟩)) (x_fieldAddr (o := 0) (off := 3) Try.underlying32 rfl ty30 rfl rfl) rfl ?_
      refine W_yes (congrArg some hb18) ?_
      refine W_v (.pointer (some ⟨b4, 6, none⟩)) (x_fieldAddr (o := 3) (off := 3) Try.underlying30 rfl ty28 rfl rfl) rfl ?_
      refine W_yes (congrArg some hb18) ?_
      refine W_v (.slice A1_0 a1.Answer.Pairs.length c1_0) (x_load (S.blk 0 rfl) ty28 rfl rfl) rfl ?_
      refine W_yes (congrArg some hb18) ?_
      obtain ⟨t21, ht22, H⟩ := bindS H
      refine W_callF fn44 (slices_Equal_api_Pair_api_Pair.con k M A0_0 c0_0 a0.Answer.Pairs A1_0 c1_0 a1.Answer.Pairs t21 hr0_0 hr1_0 ht22) S rfl rfl (by rintro _ _ _ ⟨_, rfl⟩; exact flat_nil) ?_
      rintro _ w23 _ Γ' E' S ⟨rfl, rfl⟩
      replace E := E.trans E'
      clear E'
      refine W_v (.bool t21) (x_pick (k := true) (congrArg Value.bool hb18) rfl) rfl ?_
      refine Wl_nil ?_
      exact ⟨t21, Option.some.inj H, ⟨rfl, trivial⟩, E, S.pick [] (by decide)⟩
    · skip
      refine W_no (skT hb18) rfl ?_
      refine W_no (skT hb18) rfl ?_
      refine W_no (skT hb18) rfl ?_
      refine W_no (skT hb18) rfl ?_
      refine W_no (skT hb18) rfl ?_
      refine W_no (skT hb18) rfl ?_
      refine W_no (skT hb18) rfl ?_
      refine W_v (.bool false) (x_pick (k := false) (congrArg Value.bool hb18) rfl) rfl ?_
      refine Wl_nil ?_
      exact ⟨false, Option.some.inj H, ⟨rfl, trivial⟩, E, S.pick [] (by decide)⟩
  clear o20h
  rintro ρ w24 ⟨x19, rfl, hρ, E, S⟩
  rw [agree_eta hρ]
  clear hρ
  have H := o20H
  clear o20H
  refine W_v (.bool x19) (x_assign rfl) rfl ?_
  refine Wl_nil ?_
  refine tn ?_
  refine Wp_ret ?_
  obtain rfl := Option.some.inj H
  exact ⟨_, _, _, fun w1 e1 => run_resR (vs := [.bool x19]) (FA.cons (rfl) (FA.nil)), HM, E, S.pick [] (by decide), ⟨rfl, rfl⟩⟩
/-! ### slices.EqualFunc[[]ferryman/api.Event,[]ferryman/api.Event,ferryman/api.Event,ferryman/api.Event]: function 42 -/
def slices_EqualFunc_api_Event_api_Event_api_Event_api_Event_Same_1_l0 (a0 : (List api_Event)) (a1 : (List api_Event)) : Nat → Int → Option ((Bool) ⊕ (Unit))
  | 0, _ => none
  | k + 1, x90 => (if (decide (x90 < (a0.length : Int))) = true then (if 0 ≤ x90 ∧ x90 < (a0.length : Int) then (if 0 ≤ x90 ∧ x90 < (a1.length : Int) then (Option.bind (event_Same_1_v k (rd a0 x90) (rd a1 x90)) (fun t173 => (if (!t173) = true then some (.inl false) else slices_EqualFunc_api_Event_api_Event_api_Event_api_Event_Same_1_l0 a0 a1 k (IntKind.i64.wrap (x90 + (1 : Int)))))) else none) else none) else some (.inr ()))
set_option maxHeartbeats 2000000 in
theorem slices_EqualFunc_api_Event_api_Event_api_Event_api_Event_Same_1_l0.mono {a0 : (List api_Event)} {a1 : (List api_Event)} : ∀ {k : Nat} {x0}, OLe (slices_EqualFunc_api_Event_api_Event_api_Event_api_Event_Same_1_l0 a0 a1 k x0) (slices_EqualFunc_api_Event_api_Event_api_Event_api_Event_Same_1_l0 a0 a1 (k + 1) x0) := by
  intro k
  induction k with
  | zero => intros; exact OLe.none
  | succ k ih =>
    intros
    rw [slices_EqualFunc_api_Event_api_Event_api_Event_api_Event_Same_1_l0.eq_2, slices_EqualFunc_api_Event_api_Event_api_Event_api_Event_Same_1_l0.eq_2]
    repeat' (first | with_reducible exact OLe.none | with_reducible exact OLe.some | with_reducible refine OLe.ite ?_ ?_ | with_reducible refine OLe.bind ?_ (fun _ => ?_) | with_reducible exact event_Same_1_v.mono | exact ih | refine OLe.bind ?_ (fun _ => ?_) | refine OLe.ite ?_ ?_ | refine OLe.elim (fun _ => ?_) (fun _ => ?_) | split)
def slices_EqualFunc_api_Event_api_Event_api_Event_api_Event_Same_1 (k : Nat) (a0 : (List api_Event)) (a1 : (List api_Event)) : Option (Bool) :=
  (if ((a0.length : Int) != (a1.length : Int)) = true then some false else (Option.bind (slices_EqualFunc_api_Event_api_Event_api_Event_api_Event_Same_1_l0 a0 a1 k (0 : Int)) (fun o134o => Sum.elim (fun r' => some r') (fun _ => some true) o134o)))
set_option maxHeartbeats 2000000 in
theorem slices_EqualFunc_api_Event_api_Event_api_Event_api_Event_Same_1.mono {k : Nat} {a0 : (List api_Event)} {a1 : (List api_Event)} : OLe (slices_EqualFunc_api_Event_api_Event_api_Event_api_Event_Same_1 k a0 a1) (slices_EqualFunc_api_Event_api_Event_api_Event_api_Event_Same_1 (k + 1) a0 a1) := by
  unfold slices_EqualFunc_api_Event_api_Event_api_Event_api_Event_Same_1
  repeat' (first | with_reducible exact OLe.none | with_reducible exact OLe.some | with_reducible refine OLe.ite ?_ ?_ | with_reducible refine OLe.bind ?_ (fun _ => ?_) | with_reducible exact slices_EqualFunc_api_Event_api_Event_api_Event_api_Event_Same_1_l0.mono | refine OLe.bind ?_ (fun _ => ?_) | refine OLe.ite ?_ ?_ | refine OLe.elim (fun _ => ?_) (fun _ => ?_) | split)
set_option maxHeartbeats 1000000 in
set_option maxRecDepth 100000 in
theorem slices_EqualFunc_api_Event_api_Event_api_Event_api_Event_Same_1.con (k : Nat) (M : Hp) (A0 : Option Addr) (c0 : Nat) (a0 : (List api_Event)) (A1 : Option Addr) (c1 : Nat) (a1 : (List api_Event)) (r : Bool) (hr0 : SlR r_api_Event M (.slice A0 a0.length c0) a0) (hr1 : SlR r_api_Event M (.slice A1 a1.length c1) a1) (h : slices_EqualFunc_api_Event_api_Event_api_Event_api_Event_Same_1 k a0 a1 = some r) : Con Try.prog 42 #[.slice A0 a0.length c0, .slice A1 a1.length c1, .func (.func 43) #[] #[]] M [] (fun v M' Γ' => v = .bool r ∧ Γ' = []) := by
  refine con_of_wp Try.func42 rfl Try.ntmps42 Try.results42 rfl ?_
  intro w F rn S hrn
  have E := Ext.refl w
  have HM := Hp.le_refl M
  have H := h
  unfold slices_EqualFunc_api_Event_api_Event_api_Event_api_Event_Same_1 at H
  refine Wp_seq ?_
  refine Wp_region_lit ?_
  refine W_v (.bool false) (x_assign rfl) rfl ?_
  refine Wl_nil ?_
  refine tn ?_
  refine Wp_seq ?_
  refine Wp_seq ?_
  refine Wp_region_lit ?_
  refine W_v (.slice A0 a0.length c0) (x_move rfl) rfl ?_
  refine W_v (.int .i64 (a0.length : Int)) (x_len_slice (n := a0.length) Try.underlying22 rfl) rfl ?_
  refine W_v (.slice A1 a1.length c1) (x_move rfl) rfl ?_
  refine W_v (.int .i64 (a1.length : Int)) (x_len_slice (n := a1.length) Try.underlying22 rfl) rfl ?_
  refine W_v (.bool ((a0.length : Int) != (a1.length : Int))) (x_ibin rfl rfl rfl rfl) rfl ?_
  refine Wl_nil ?_
  refine tn ?_
  rcases iteS H with ⟨hb1, H⟩ | ⟨hb1, H⟩
  · refine Wp_cond_true (congrArg Value.bool hb1) ?_
    refine Wp_seq ?_
    refine Wp_region_lit ?_
    refine W_v (.bool false) (x_assign rfl) rfl ?_
    refine Wl_nil ?_
    refine tn ?_
    refine Wp_ret ?_
    refine tr (?_)
    obtain rfl := Option.some.inj H
    exact ⟨_, _, _, fun w1 e1 => run_resR (vs := [.bool false]) (FA.cons (rfl) (FA.nil)), HM, E, S.pick [] (by decide), ⟨rfl, rfl⟩⟩
  refine Wp_cond_false (congrArg Value.bool hb1) ?_
  refine Wp_skip ?_
  refine tn ?_
  refine Wp_seq ?_
  refine Wp_seq ?_
  refine Wp_region_lit ?_
  refine W_v (.slice A0 a0.length c0) (x_move rfl) rfl ?_
  refine W_v (.int .i64 (a0.length : Int)) (x_len_slice (n := a0.length) Try.underlying22 rfl) rfl ?_
  refine W_v (.int .i64 0) (x_move rfl) rfl ?_
  refine Wl_nil ?_
  refine tn ?_
  obtain ⟨o134, o134h, o134H⟩ := bindS H
  clear H
  refine Wp_blockJ (fun ρ w' => .inr () = o134 ∧ Agree ρ [] ∧ Ext w w' ∧ St w' M F []) ?_ ?_
  · skip
    refine Wp_loop (fun n ρ w' => ∃ (x90 : Int), slices_EqualFunc_api_Event_api_Event_api_Event_api_Event_Same_1_l0 a0 a1 n x90 = some o134 ∧ Agree ρ [(1, .slice A1 a1.length c1), (2, .func (.func 43) #[] #[]), (15, .slice A0 a0.length c0), (16, .int .i64 (a0.length : Int)), (17, .int .i64 x90)] ∧ Ext w w' ∧ St w' M F []) k ?_ ?_
    · skip
      exact ⟨(0 : Int), o134h, ⟨rfl, rfl, rfl, rfl, rfl, trivial⟩, E, S.pick [] (by decide)⟩
    · intro n
      rintro ρ w135 ⟨x90, H, hρ, E, S⟩
      rw [agree_eta hρ]
      clear hρ
      cases n with
      | zero => cases H
      | succ k =>
        rw [slices_EqualFunc_api_Event_api_Event_api_Event_api_Event_Same_1_l0.eq_2] at H
        refine Wp_seq ?_
        refine Wp_region_lit ?_
        refine W_v (.bool (decide (x90 < (a0.length : Int)))) (x_ibin rfl rfl rfl rfl) rfl ?_
        refine Wl_nil ?_
        refine tn ?_
        refine Wp_seq ?_
        rcases iteS H with ⟨hb136, H⟩ | ⟨hb136, H⟩
        · refine Wp_cond_true (congrArg Value.bool hb136) ?_
          refine Wp_skip ?_
          refine tn ?_
          refine Wp_seq ?_
          refine Wp_block ?_
          refine Wp_seq ?_
          refine Wp_region_lit ?_
          refine W_v (.int .i64 x90) (x_move rfl) rfl ?_
          obtain ⟨⟨p137, p138⟩, H⟩ := chkS H
          obtain ⟨b139, o140, cs141, _, _, ee146, hb142, vs143, hR144, hc145⟩ := SlW.at' hr0 p137 p138
          obtain ⟨v150, hs149, rfl⟩ := hR144
          obtain ⟨A147, c148, rfl, _⟩ := hs149.form
          refine W_v (.pointer (some ⟨b139, o140 + x90.toNat * 7, none⟩)) (x_indexAddr Try.underlying22 ty32 (slA ee146) rfl p137 p138) rfl ?_
          refine W_v (.agg #[.int .u8 ((rd a0 x90).What), .int .i64 ((rd a0 x90).Task), .int .i64 ((rd a0 x90).Call), .int .i64 ((rd a0 x90).Answer.Err), .bool ((rd a0 x90).Answer.Found), .string (bs ((rd a0 x90).Answer.Value)), .slice A147 ((rd a0 x90).Answer.Pairs).length c148]) (x_loadA (S.frz hb142) ty32 rfl (sub_el hc145 0 rfl) rfl rfl) rfl ?_
          refine W_alloc S #[.int .u8 0, .int .i64 0, .int .i64 0, .int .i64 0, .bool false, .string (bs ([] : Str)), .slice none 0 0] ty32 rfl rfl ?_
          intro b151 w152 E' S
          replace E := E.trans E'
          clear E'
          refine W_v (.int .i64 x90) (x_assign rfl) rfl ?_
          refine W_store S 0 rfl ty32 rfl rfl [.int .u8 ((rd a0 x90).What), .int .i64 ((rd a0 x90).Task), .int .i64 ((rd a0 x90).Call), .int .i64 ((rd a0 x90).Answer.Err), .bool ((rd a0 x90).Answer.Found), .string (bs ((rd a0 x90).Answer.Value)), .slice A147 ((rd a0 x90).Answer.Pairs).length c148] rfl rfl rfl #[.int .u8 ((rd a0 x90).What), .int .i64 ((rd a0 x90).Task), .int .i64 ((rd a0 x90).Call), .int .i64 ((rd a0 x90).Answer.Err), .bool ((rd a0 x90).Answer.Found), .string (bs ((rd a0 x90).Answer.Value)), .slice A147 ((rd a0 x90).Answer.Pairs).length c148] rfl rfl ?_
          intro w154 E' S
          replace E := E.trans E'
          clear E'
          refine Wl_nil ?_
          refine tn ?_
          refine Wp_seq ?_
          refine Wp_region_lit ?_
          refine W_v (.slice A1 a1.length c1) (x_move rfl) rfl ?_
          refine W_v (.int .i64 x90) (x_move rfl) rfl ?_
          obtain ⟨⟨p155, p156⟩, H⟩ := chkS H
          obtain ⟨b157, o158, cs159, _, _, ee164, hb160, vs161, hR162, hc163⟩ := SlW.at' hr1 p155 p156
          obtain ⟨v168, hs167, rfl⟩ := hR162
          obtain ⟨A165, c166, rfl, _⟩ := hs167.form
          refine W_v (.pointer (some ⟨b157, o158 + x90.toNat * 7, none⟩)) (x_indexAddr Try.underlying22 ty32 (slA ee164) rfl p155 p156) rfl ?_
          refine W_v (.agg #[.int .u8 ((rd a1 x90).What), .int .i64 ((rd a1 x90).Task), .int .i64 ((rd a1 x90).Call), .int .i64 ((rd a1 x90).Answer.Err), .bool ((rd a1 x90).Answer.Found), .string (bs ((rd a1 x90).Answer.Value)), .slice A165 ((rd a1 x90).Answer.Pairs).length c166]) (x_loadA (S.frz hb160) ty32 rfl (sub_el hc163 0 rfl) rfl rfl) rfl ?_
          refine W_alloc S #[.int .u8 0, .int .i64 0, .int .i64 0, .int .i64 0, .bool false, .string (bs ([] : Str)), .slice none 0 0] ty32 rfl rfl ?_
          intro b169 w170 E' S
          replace E := E.trans E'
          clear E'
          refine W_store S 0 rfl ty32 rfl rfl [.int .u8 ((rd a1 x90).What), .int .i64 ((rd a1 x90).Task), .int .i64 ((rd a1 x90).Call), .int .i64 ((rd a1 x90).Answer.Err), .bool ((rd a1 x90).Answer.Found), .string (bs ((rd a1 x90).Answer.Value)), .slice A165 ((rd a1 x90).Answer.Pairs).length c166] rfl rfl rfl #[.int .u8 ((rd a1 x90).What), .int .i64 ((rd a1 x90).Task), .int .i64 ((rd a1 x90).Call), .int .i64 ((rd a1 x90).Answer.Err), .bool ((rd a1 x90).Answer.Found), .string (bs ((rd a1 x90).Answer.Value)), .slice A165 ((rd a1 x90).Answer.Pairs).length c166] rfl rfl ?_
          intro w172 E' S
          replace E := E.trans E'
          clear E'
          refine Wl_nil ?_
          refine tn ?_
          refine Wp_seq ?_
          refine Wp_region_lit ?_
          refine W_v (.func (.func 43) #[] #[]) (x_move rfl) rfl ?_
          refine W_v (.agg #[.int .u8 ((rd a0 x90).What), .int .i64 ((rd a0 x90).Task), .int .i64 ((rd a0 x90).Call), .int .i64 ((rd a0 x90).Answer.Err), .bool ((rd a0 x90).Answer.Found), .string (bs ((rd a0 x90).Answer.Value)), .slice A147 ((rd a0 x90).Answer.Pairs).length c148]) (x_loadA (S.blk 1 rfl) ty32 rfl (sub_of_extract rfl) rfl rfl) rfl ?_
          refine W_v (.agg #[.int .u8 ((rd a1 x90).What), .int .i64 ((rd a1 x90).Task), .int .i64 ((rd a1 x90).Call), .int .i64 ((rd a1 x90).Answer.Err), .bool ((rd a1 x90).Answer.Found), .string (bs ((rd a1 x90).Answer.Value)), .slice A165 ((rd a1 x90).Answer.Pairs).length c166]) (x_loadA (S.blk 0 rfl) ty32 rfl (sub_of_extract rfl) rfl rfl) rfl ?_
          obtain ⟨t173, ht174, H⟩ := bindS H
          refine W_callvF2 (fs := []) (cap := []) fn43 rfl (event_Same_1_v.con k M A147 c148 (rd a0 x90) A165 c166 (rd a1 x90) t173 hs149 hs167 ht174) (Γ1 := []) (Γ2 := [Blk b169 (.cells #[.int .u8 ((rd a1 x90).What), .int .i64 ((rd a1 x90).Task), .int .i64 ((rd a1 x90).Call), .int .i64 ((rd a1 x90).Answer.Err), .bool ((rd a1 x90).Answer.Found), .string (bs ((rd a1 x90).Answer.Value)), .slice A165 ((rd a1 x90).Answer.Pairs).length c166] 32 (0, 0)), Blk b151 (.cells #[.int .u8 ((rd a0 x90).What), .int .i64 ((rd a0 x90).Task), .int .i64 ((rd a0 x90).Call), .int .i64 ((rd a0 x90).Answer.Err), .bool ((rd a0 x90).Answer.Found), .string (bs ((rd a0 x90).Answer.Value)), .slice A147 ((rd a0 x90).Answer.Pairs).length c148] 32 (0, 0))]) S rfl rfl (by rintro _ _ _ ⟨rfl, rfl⟩; exact flat_nil) ?_
          rintro _ w175 _ Γ' E' S ⟨rfl, rfl⟩
          replace E := E.trans E'
          clear E'
          replace S : St w175 M F [Blk b169 (.cells #[.int .u8 ((rd a1 x90).What), .int .i64 ((rd a1 x90).Task), .int .i64 ((rd a1 x90).Call), .int .i64 ((rd a1 x90).Answer.Err), .bool ((rd a1 x90).Answer.Found), .string (bs ((rd a1 x90).Answer.Value)), .slice A165 ((rd a1 x90).Answer.Pairs).length c166] 32 (0, 0)), Blk b151 (.cells #[.int .u8 ((rd a0 x90).What), .int .i64 ((rd a0 x90).Task), .int .i64 ((rd a0 x90).Call), .int .i64 ((rd a0 x90).Answer.Err), .bool ((rd a0 x90).Answer.Found), .string (bs ((rd a0 x90).Answer.Value)), .slice A147 ((rd a0 x90).Answer.Pairs).length c148] 32 (0, 0))] := S
          refine W_v (.bool (!t173)) (x_not rfl) rfl ?_
          refine Wl_nil ?_
          refine tn ?_
          rcases iteS H with ⟨hb178, H⟩ | ⟨hb178, H⟩
          · refine Wp_cond_true (congrArg Value.bool hb178) ?_
            refine Wp_seq ?_
            refine Wp_region_lit ?_
            refine W_v (.bool false) (x_assign rfl) rfl ?_
            refine Wl_nil ?_
            refine tn ?_
            refine Wp_ret ?_
            refine br (tr (tr (br (tr (tr (?_))))))
            obtain rfl := Option.some.inj H
            have H := o134H
            replace H := elimL H
            obtain rfl := Option.some.inj H
            exact ⟨_, _, _, fun w1 e1 => run_resR (vs := [.bool false]) (FA.cons (rfl) (FA.nil)), HM, E, S.pick [] (by decide), ⟨rfl, rfl⟩⟩
          refine Wp_cond_false (congrArg Value.bool hb178) ?_
          refine Wp_skip ?_
          refine bn ?_
          refine tn ?_
          refine Wp_region_lit ?_
          refine W_v (.int .i64 (IntKind.i64.wrap (x90 + (1 : Int)))) (x_ibin rfl rfl rfl rfl) rfl ?_
          refine W_v (.int .i64 (IntKind.i64.wrap (x90 + (1 : Int)))) (x_move rfl) rfl ?_
          refine Wl_nil ?_
          refine tn ?_
          exact ⟨k, Nat.lt_succ_self k, ⟨(IntKind.i64.wrap (x90 + (1 : Int))), H, ⟨rfl, rfl, rfl, rfl, rfl, trivial⟩, E, S.pick [] (by decide)⟩⟩
        refine Wp_cond_false (congrArg Value.bool hb136) ?_
        refine Wp_exit ?_
        refine tx (tx (bsm (?_)))
        refine tn ?_
        exact ⟨Option.some.inj H, trivial, E, S.pick [] (by decide)⟩
  clear o134h
  rintro ρ w179 ⟨rfl, hρ, E, S⟩
  rw [agree_eta hρ]
  clear hρ
  have H := o134H
  clear o134H
  replace H := elimR H
  refine tn ?_
  refine Wp_seq ?_
  refine Wp_region_lit ?_
  refine W_v (.bool true) (x_assign rfl) rfl ?_
  refine Wl_nil ?_
  refine tn ?_
  refine Wp_ret ?_
  obtain rfl := Option.some.inj H
  exact ⟨_, _, _, fun w1 e1 => run_resR (vs := [.bool true]) (FA.cons (rfl) (FA.nil)), HM, E, S.pick [] (by decide), ⟨rfl, rfl⟩⟩
/-! ### ferryman/event.Same: function 28 -/
def event_Same (k : Nat) (a0 : (List api_Event)) (a1 : (List api_Event)) : Option (Bool) :=
  (Option.bind (slices_EqualFunc_api_Event_api_Event_api_Event_api_Event_Same_1 k a0 a1) (fun t1 => some t1))
set_option maxHeartbeats 2000000 in
theorem event_Same.mono {k : Nat} {a0 : (List api_Event)} {a1 : (List api_Event)} : OLe (event_Same k a0 a1) (event_Same (k + 1) a0 a1) := by
  unfold event_Same
  repeat' (first | with_reducible exact OLe.none | with_reducible exact OLe.some | with_reducible refine OLe.ite ?_ ?_ | with_reducible refine OLe.bind ?_ (fun _ => ?_) | with_reducible exact slices_EqualFunc_api_Event_api_Event_api_Event_api_Event_Same_1.mono | refine OLe.bind ?_ (fun _ => ?_) | refine OLe.ite ?_ ?_ | refine OLe.elim (fun _ => ?_) (fun _ => ?_) | split)
set_option maxHeartbeats 1000000 in
set_option maxRecDepth 100000 in
theorem event_Same.con (k : Nat) (M : Hp) (A0 : Option Addr) (c0 : Nat) (a0 : (List api_Event)) (A1 : Option Addr) (c1 : Nat) (a1 : (List api_Event)) (r : Bool) (hr0 : SlR r_api_Event M (.slice A0 a0.length c0) a0) (hr1 : SlR r_api_Event M (.slice A1 a1.length c1) a1) (h : event_Same k a0 a1 = some r) : Con Try.prog 28 #[.slice A0 a0.length c0, .slice A1 a1.length c1] M [] (fun v M' Γ' => v = .bool r ∧ Γ' = []) := by
  refine con_of_wp Try.func28 rfl Try.ntmps28 Try.results28 rfl ?_
  intro w F rn S hrn
  have E := Ext.refl w
  have HM := Hp.le_refl M
  have H := h
  unfold event_Same at H
  refine Wp_seq ?_
  refine Wp_region_lit ?_
  refine W_v (.bool false) (x_assign rfl) rfl ?_
  refine Wl_nil ?_
  refine tn ?_
  refine Wp_seq ?_
  refine Wp_region_lit ?_
  refine W_v (.slice A0 a0.length c0) (x_move rfl) rfl ?_
  refine W_v (.slice A1 a1.length c1) (x_move rfl) rfl ?_
  obtain ⟨t1, ht2, H⟩ := bindS H
  refine W_callF2 fn42 (slices_EqualFunc_api_Event_api_Event_api_Event_api_Event_Same_1.con k M A0 c0 a0 A1 c1 a1 t1 hr0 hr1 ht2) (Γ1 := []) (Γ2 := []) S rfl rfl (by rintro _ _ _ ⟨rfl, rfl⟩; exact flat_nil) ?_
  rintro _ w3 _ Γ' E' S ⟨rfl, rfl⟩
  replace E := E.trans E'
  clear E'
  replace S : St w3 M F [] := S
  refine W_v (.bool t1) (x_assign rfl) rfl ?_
  refine Wl_nil ?_
  refine tn ?_
  refine Wp_ret ?_
  obtain rfl := Option.some.inj H
  exact ⟨_, _, _, fun w1 e1 => run_resR (vs := [.bool t1]) (FA.cons (rfl) (FA.nil)), HM, E, S.pick [] (by decide), ⟨rfl, rfl⟩⟩
/-! ### (ferryman/ferrymanlaw06.Step).do: function 16 -/
def ferrymanlaw06_Step_do_POO (k : Nat) (a0 : ferrymanlaw06_Step) (a1 : event_Recorder) : Option (Int × event_Recorder) :=
  (if (a0.What == (1 : Int)) = true then (Option.bind (event_Recorder_Invoke_POO k a1 a0.Task) (fun t5 => some (t5.1, t5.2))) else (if (a0.What == (2 : Int)) = true then (Option.bind (event_Recorder_Mark_POO k a1 a0.Task) (fun t17 => some (t17.1, t17.2))) else (Option.bind (event_Recorder_Return_POO k a1 a0.Task a0.Answer) (fun t28 => some (t28.1, t28.2)))))
set_option maxHeartbeats 2000000 in
theorem ferrymanlaw06_Step_do_POO.mono {k : Nat} {a0 : ferrymanlaw06_Step} {a1 : event_Recorder} : OLe (ferrymanlaw06_Step_do_POO k a0 a1) (ferrymanlaw06_Step_do_POO (k + 1) a0 a1) := by
  unfold ferrymanlaw06_Step_do_POO
  repeat' (first | with_reducible exact OLe.none | with_reducible exact OLe.some | with_reducible refine OLe.ite ?_ ?_ | with_reducible refine OLe.bind ?_ (fun _ => ?_) | with_reducible exact event_Recorder_Invoke_POO.mono | with_reducible exact event_Recorder_Mark_POO.mono | with_reducible exact event_Recorder_Return_POO.mono | refine OLe.bind ?_ (fun _ => ?_) | refine OLe.ite ?_ ?_ | refine OLe.elim (fun _ => ?_) (fun _ => ?_) | split)
set_option maxHeartbeats 1000000 in
set_option maxRecDepth 100000 in
theorem ferrymanlaw06_Step_do_POO.con (k : Nat) (M : Hp) (A0_0 : Option Addr) (c0_0 : Nat) (a0 : ferrymanlaw06_Step) (A1_0 : Option Addr) (c1_0 : Nat) (A1_1 : Option Addr) (c1_1 : Nat) (a1 : event_Recorder) (bo1 : Nat) (r : Int × event_Recorder) (hr0_0 : SlR r_api_Pair M (.slice A0_0 a0.Answer.Pairs.length c0_0) a0.Answer.Pairs) (h : ferrymanlaw06_Step_do_POO k a0 a1 = some r) : Con Try.prog 16 #[.agg #[.int .u8 a0.What, .int .i64 a0.Task, .int .i64 a0.Answer.Err, .bool a0.Answer.Found, .string (bs a0.Answer.Value), .slice A0_0 a0.Answer.Pairs.length c0_0], .pointer (some ⟨bo1, 0, none⟩)] M [Blk bo1 (.cells #[.slice A1_0 a1.tasks.length c1_0, .slice A1_1 a1.l.length c1_1] 73 (0, 0)), Row r_event_task 70 (.slice A1_0 a1.tasks.length c1_0) a1.tasks, Row r_api_Event 32 (.slice A1_1 a1.l.length c1_1) a1.l] (fun v M' Γ' => ∃ (Aq1 : Option Addr) (cq2 : Nat) (Aq4 : Option Addr) (cq5 : Nat), v = .int .i64 r.1 ∧ Γ' = [Blk bo1 (.cells #[.slice Aq1 r.2.tasks.length cq2, .slice Aq4 r.2.l.length cq5] 73 (0, 0)), Row r_event_task 70 (.slice Aq1 r.2.tasks.length cq2) r.2.tasks, Row r_api_Event 32 (.slice Aq4 r.2.l.length cq5) r.2.l]) := by
  refine con_of_wp Try.func16 rfl Try.ntmps16 Try.results16 rfl ?_
  intro w F rn S hrn
  have E := Ext.refl w
  have HM := Hp.le_refl M
  have H := h
  unfold ferrymanlaw06_Step_do_POO at H
  refine Wp_seq ?_
  refine Wp_region_lit ?_
  refine W_box S #[.int .u8 a0.What, .int .i64 a0.Task, .int .i64 a0.Answer.Err, .bool a0.Answer.Found, .string (bs a0.Answer.Value), .slice A0_0 a0.Answer.Pairs.length c0_0] rfl rfl rfl ?_
  intro b1 w2 E' S
  replace E := E.trans E'
  clear E'
  refine W_v (.int .i64 0) (x_assign rfl) rfl ?_
  refine Wl_nil ?_
  refine tn ?_
  refine Wp_seq ?_
  refine Wp_seq ?_
  refine Wp_region_lit ?_
  refine W_v (.pointer (some ⟨b1, 0, none⟩)) (x_fieldAddr (o := 0) (off := 0) Try.underlying40 rfl ty5 rfl rfl) rfl ?_
  refine W_v (.int .u8 a0.What) (x_load (S.blk 0 rfl) ty5 rfl rfl) rfl ?_
  refine Wl_nil ?_
  refine tn ?_
  refine Wp_block ?_
  refine Wp_seq ?_
  refine Wp_region_lit ?_
  refine W_v (.bool (a0.What == (1 : Int))) (x_ibin rfl rfl rfl rfl) rfl ?_
  refine W_v (.bool (a0.What == (1 : Int))) (x_assign rfl) rfl ?_
  refine Wl_nil ?_
  refine tn ?_
  rcases iteS H with ⟨hb4, H⟩ | ⟨hb4, H⟩
  · refine Wp_cond_true (congrArg Value.bool hb4) ?_
    refine Wp_seq ?_
    refine Wp_region_lit ?_
    refine W_v (.pointer (some ⟨bo1, 0, none⟩)) (x_move rfl) rfl ?_
    refine W_v (.pointer (some ⟨b1, 1, none⟩)) (x_fieldAddr (o := 0) (off := 1) Try.underlying40 rfl ty3 rfl rfl) rfl ?_
    refine W_v (.int .i64 a0.Task) (x_load (S.blk 0 rfl) ty3 rfl rfl) rfl ?_
    obtain ⟨t5, ht6, H⟩ := bindS H
    replace S : St w2 M F [Blk bo1 (.cells #[.slice A1_0 a1.tasks.length c1_0, .slice A1_1 a1.l.length c1_1] 73 (0, 0)), Row r_event_task 70 (.slice A1_0 a1.tasks.length c1_0) a1.tasks, Row r_api_Event 32 (.slice A1_1 a1.l.length c1_1) a1.l, Blk b1 (.cells #[.int .u8 a0.What, .int .i64 a0.Task, .int .i64 a0.Answer.Err, .bool a0.Answer.Found, .string (bs a0.Answer.Value), .slice A0_0 a0.Answer.Pairs.length c0_0] 40 (0, 0))] := S.pick [1, 2, 3, 0] (by decide)
    refine W_call fn30 (event_Recorder_Invoke_POO.con k M A1_0 c1_0 A1_1 c1_1 a1 a0.Task bo1 t5  ht6) (Γ1 := [Blk bo1 (.cells #[.slice A1_0 a1.tasks.length c1_0, .slice A1_1 a1.l.length c1_1] 73 (0, 0)), Row r_event_task 70 (.slice A1_0 a1.tasks.length c1_0) a1.tasks, Row r_api_Event 32 (.slice A1_1 a1.l.length c1_1) a1.l]) (Γ2 := [Blk b1 (.cells #[.int .u8 a0.What, .int .i64 a0.Task, .int .i64 a0.Answer.Err, .bool a0.Answer.Found, .string (bs a0.Answer.Value), .slice A0_0 a0.Answer.Pairs.length c0_0] 40 (0, 0))]) S rfl rfl ?_
    rintro _ w13 M14 Γ' hM15 E' S ⟨A7, c8, A10, c11, rfl, rfl⟩
    replace HM := Hp.le_trans HM hM15
    replace hr0_0 := SlR.mono hr0_0 hM15
    replace E := E.trans E'
    clear E'
    replace S : St w13 M14 F [Blk bo1 (.cells #[.slice A7 t5.2.tasks.length c8, .slice A10 t5.2.l.length c11] 73 (0, 0)), Row r_event_task 70 (.slice A7 t5.2.tasks.length c8) t5.2.tasks, Row r_api_Event 32 (.slice A10 t5.2.l.length c11) t5.2.l, Blk b1 (.cells #[.int .u8 a0.What, .int .i64 a0.Task, .int .i64 a0.Answer.Err, .bool a0.Answer.Found, .string (bs a0.Answer.Value), .slice A0_0 a0.Answer.Pairs.length c0_0] 40 (0, 0))] := S
    refine W_v (.int .i64 t5.1) (x_assign rfl) rfl ?_
    refine Wl_nil ?_
    refine tn ?_
    refine Wp_ret ?_
    refine br (tr (?_))
    obtain rfl := Option.some.inj H
    exact ⟨_, _, _, fun w1 e1 => run_resR (vs := [.int .i64 t5.1]) (FA.cons (rfl) (FA.nil)), HM, E, S.pick [0, 1, 2] (by decide), ⟨A7, c8, A10, c11, rfl, rfl⟩⟩
  refine Wp_cond_false (congrArg Value.bool hb4) ?_
  refine Wp_seq ?_
  refine Wp_region_lit ?_
  refine W_v (.bool (a0.What == (2 : Int))) (x_ibin rfl rfl rfl rfl) rfl ?_
  refine W_v (.bool (a0.What == (2 : Int))) (x_assign rfl) rfl ?_
  refine Wl_nil ?_
  refine tn ?_
  rcases iteS H with ⟨hb16, H⟩ | ⟨hb16, H⟩
  · refine Wp_cond_true (congrArg Value.bool hb16) ?_
    refine Wp_seq ?_
    refine Wp_region_lit ?_
    refine W_v (.pointer (some ⟨bo1, 0, none⟩)) (x_move rfl) rfl ?_
    refine W_v (.pointer (some ⟨b1, 1, none⟩)) (x_fieldAddr (o := 0) (off := 1) Try.underlying40 rfl ty3 rfl rfl) rfl ?_
    refine W_v (.int .i64 a0.Task) (x_load (S.blk 0 rfl) ty3 rfl rfl) rfl ?_
    obtain ⟨t17, ht18, H⟩ := bindS H
    replace S : St w2 M F [Blk bo1 (.cells #[.slice A1_0 a1.tasks.length c1_0, .slice A1_1 a1.l.length c1_1] 73 (0, 0)), Row r_event_task 70 (.slice A1_0 a1.tasks.length c1_0) a1.tasks, Row r_api_Event 32 (.slice A1_1 a1.l.length c1_1) a1.l, Blk b1 (.cells #[.int .u8 a0.What, .int .i64 a0.Task, .int .i64 a0.Answer.Err, .bool a0.Answer.Found, .string (bs a0.Answer.Value), .slice A0_0 a0.Answer.Pairs.length c0_0] 40 (0, 0))] := S.pick [1, 2, 3, 0] (by decide)
    refine W_call fn31 (event_Recorder_Mark_POO.con k M A1_0 c1_0 A1_1 c1_1 a1 a0.Task bo1 t17  ht18) (Γ1 := [Blk bo1 (.cells #[.slice A1_0 a1.tasks.length c1_0, .slice A1_1 a1.l.length c1_1] 73 (0, 0)), Row r_event_task 70 (.slice A1_0 a1.tasks.length c1_0) a1.tasks, Row r_api_Event 32 (.slice A1_1 a1.l.length c1_1) a1.l]) (Γ2 := [Blk b1 (.cells #[.int .u8 a0.What, .int .i64 a0.Task, .int .i64 a0.Answer.Err, .bool a0.Answer.Found, .string (bs a0.Answer.Value), .slice A0_0 a0.Answer.Pairs.length c0_0] 40 (0, 0))]) S rfl rfl ?_
    rintro _ w25 M26 Γ' hM27 E' S ⟨A19, c20, A22, c23, rfl, rfl⟩
    replace HM := Hp.le_trans HM hM27
    replace hr0_0 := SlR.mono hr0_0 hM27
    replace E := E.trans E'
    clear E'
    replace S : St w25 M26 F [Blk bo1 (.cells #[.slice A19 t17.2.tasks.length c20, .slice A22 t17.2.l.length c23] 73 (0, 0)), Row r_event_task 70 (.slice A19 t17.2.tasks.length c20) t17.2.tasks, Row r_api_Event 32 (.slice A22 t17.2.l.length c23) t17.2.l, Blk b1 (.cells #[.int .u8 a0.What, .int .i64 a0.Task, .int .i64 a0.Answer.Err, .bool a0.Answer.Found, .string (bs a0.Answer.Value), .slice A0_0 a0.Answer.Pairs.length c0_0] 40 (0, 0))] := S
    refine W_v (.int .i64 t17.1) (x_assign rfl) rfl ?_
    refine Wl_nil ?_
    refine tn ?_
    refine Wp_ret ?_
    refine br (tr (?_))
    obtain rfl := Option.some.inj H
    exact ⟨_, _, _, fun w1 e1 => run_resR (vs := [.int .i64 t17.1]) (FA.cons (rfl) (FA.nil)), HM, E, S.pick [0, 1, 2] (by decide), ⟨A19, c20, A22, c23, rfl, rfl⟩⟩
  refine Wp_cond_false (congrArg Value.bool hb16) ?_
  refine Wp_skip ?_
  refine bn ?_
  refine tn ?_
  refine Wp_seq ?_
  refine Wp_region_lit ?_
  refine W_v (.pointer (some ⟨bo1, 0, none⟩)) (x_move rfl) rfl ?_
  refine W_v (.pointer (some ⟨b1, 1, none⟩)) (x_fieldAddr (o := 0) (off := 1) Try.underlying40 rfl ty3 rfl rfl) rfl ?_
  refine W_v (.int .i64 a0.Task) (x_load (S.blk 0 rfl) ty3 rfl rfl) rfl ?_
  refine W_v (.pointer (some ⟨b1, 2, none⟩)) (x_fieldAddr (o := 0) (off := 2) Try.underlying40 rfl ty30 rfl rfl) rfl ?_
  refine W_v (.agg #[.int .i64 a0.Answer.Err, .bool a0.Answer.Found, .string (bs a0.Answer.Value), .slice A0_0 a0.Answer.Pairs.length c0_0]) (x_loadA (S.blk 0 rfl) ty30 rfl (sub_of_extract rfl) rfl rfl) rfl ?_
  obtain ⟨t28, ht29, H⟩ := bindS H
  replace S : St w2 M F [Blk bo1 (.cells #[.slice A1_0 a1.tasks.length c1_0, .slice A1_1 a1.l.length c1_1] 73 (0, 0)), Row r_event_task 70 (.slice A1_0 a1.tasks.length c1_0) a1.tasks, Row r_api_Event 32 (.slice A1_1 a1.l.length c1_1) a1.l, Blk b1 (.cells #[.int .u8 a0.What, .int .i64 a0.Task, .int .i64 a0.Answer.Err, .bool a0.Answer.Found, .string (bs a0.Answer.Value), .slice A0_0 a0.Answer.Pairs.length c0_0] 40 (0, 0))] := S.pick [1, 2, 3, 0] (by decide)
  refine W_call fn32 (event_Recorder_Return_POO.con k M A1_0 c1_0 A1_1 c1_1 a1 a0.Task A0_0 c0_0 a0.Answer bo1 t28 hr0_0 ht29) (Γ1 := [Blk bo1 (.cells #[.slice A1_0 a1.tasks.length c1_0, .slice A1_1 a1.l.length c1_1] 73 (0, 0)), Row r_event_task 70 (.slice A1_0 a1.tasks.length c1_0) a1.tasks, Row r_api_Event 32 (.slice A1_1 a1.l.length c1_1) a1.l]) (Γ2 := [Blk b1 (.cells #[.int .u8 a0.What, .int .i64 a0.Task, .int .i64 a0.Answer.Err, .bool a0.Answer.Found, .string (bs a0.Answer.Value), .slice A0_0 a0.Answer.Pairs.length c0_0] 40 (0, 0))]) S rfl rfl ?_
  rintro _ w36 M37 Γ' hM38 E' S ⟨A30, c31, A33, c34, rfl, rfl⟩
  replace HM := Hp.le_trans HM hM38
  replace hr0_0 := SlR.mono hr0_0 hM38
  replace E := E.trans E'
  clear E'
  replace S : St w36 M37 F [Blk bo1 (.cells #[.slice A30 t28.2.tasks.length c31, .slice A33 t28.2.l.length c34] 73 (0, 0)), Row r_event_task 70 (.slice A30 t28.2.tasks.length c31) t28.2.tasks, Row r_api_Event 32 (.slice A33 t28.2.l.length c34) t28.2.l, Blk b1 (.cells #[.int .u8 a0.What, .int .i64 a0.Task, .int .i64 a0.Answer.Err, .bool a0.Answer.Found, .string (bs a0.Answer.Value), .slice A0_0 a0.Answer.Pairs.length c0_0] 40 (0, 0))] := S
  refine W_v (.int .i64 t28.1) (x_assign rfl) rfl ?_
  refine Wl_nil ?_
  refine tn ?_
  refine Wp_ret ?_
  obtain rfl := Option.some.inj H
  exact ⟨_, _, _, fun w1 e1 => run_resR (vs := [.int .i64 t28.1]) (FA.cons (rfl) (FA.nil)), HM, E, S.pick [0, 1, 2] (by decide), ⟨A30, c31, A33, c34, rfl, rfl⟩⟩
/-! ### ferryman/ferrymanlaw06.given: function 25 -/
def ferrymanlaw06_given_l0 (a0 : (List ferrymanref06_Place)) : Nat → List event_Place → Int → Option ((List event_Place))
  | 0, _, _ => none
  | k + 1, x56, x60 => (if (decide (x60 < (a0.length : Int))) = true then (if 0 ≤ x60 ∧ x60 < (a0.length : Int) then (if x56.length + ([(⟨(rd a0 x60).Task, (rd a0 x60).Call⟩ : event_Place)] : List event_Place).length ≤ 8796093022208 then ferrymanlaw06_given_l0 a0 k (x56 ++ ([(⟨(rd a0 x60).Task, (rd a0 x60).Call⟩ : event_Place)] : List event_Place)) (IntKind.i64.wrap (x60 + (1 : Int))) else none) else none) else some (x56))
set_option maxHeartbeats 2000000 in
theorem ferrymanlaw06_given_l0.mono {a0 : (List ferrymanref06_Place)} : ∀ {k : Nat} {x0 x1}, OLe (ferrymanlaw06_given_l0 a0 k x0 x1) (ferrymanlaw06_given_l0 a0 (k + 1) x0 x1) := by
  intro k
  induction k with
  | zero => intros; exact OLe.none
  | succ k ih =>
    intros
    rw [ferrymanlaw06_given_l0.eq_2, ferrymanlaw06_given_l0.eq_2]
    repeat' (first | with_reducible exact OLe.none | with_reducible exact OLe.some | with_reducible refine OLe.ite ?_ ?_ | with_reducible refine OLe.bind ?_ (fun _ => ?_) | exact ih | refine OLe.bind ?_ (fun _ => ?_) | refine OLe.ite ?_ ?_ | refine OLe.elim (fun _ => ?_) (fun _ => ?_) | split)
def ferrymanlaw06_given (k : Nat) (a0 : (List ferrymanref06_Place)) : Option ((List event_Place)) :=
  (Option.bind (ferrymanlaw06_given_l0 a0 k ([] : List event_Place) (0 : Int)) (fun x83 => some x83))
set_option maxHeartbeats 2000000 in
theorem ferrymanlaw06_given.mono {k : Nat} {a0 : (List ferrymanref06_Place)} : OLe (ferrymanlaw06_given k a0) (ferrymanlaw06_given (k + 1) a0) := by
  unfold ferrymanlaw06_given
  repeat' (first | with_reducible exact OLe.none | with_reducible exact OLe.some | with_reducible refine OLe.ite ?_ ?_ | with_reducible refine OLe.bind ?_ (fun _ => ?_) | with_reducible exact ferrymanlaw06_given_l0.mono | refine OLe.bind ?_ (fun _ => ?_) | refine OLe.ite ?_ ?_ | refine OLe.elim (fun _ => ?_) (fun _ => ?_) | split)
set_option maxHeartbeats 1000000 in
set_option maxRecDepth 100000 in
theorem ferrymanlaw06_given.con (k : Nat) (M : Hp) (A0 : Option Addr) (c0 : Nat) (a0 : (List ferrymanref06_Place)) (r : (List event_Place)) (hr0 : SlR r_ferrymanref06_Place M (.slice A0 a0.length c0) a0) (h : ferrymanlaw06_given k a0 = some r) : Con Try.prog 25 #[.slice A0 a0.length c0] M [] (fun v M' Γ' => ∃ (A0 : Option Addr) (c0 : Nat), v = .slice A0 r.length c0 ∧ Γ' = [Row r_event_Place 62 (.slice A0 r.length c0) r]) := by
  refine con_of_wp Try.func25 rfl Try.ntmps25 Try.results25 rfl ?_
  intro w F rn S hrn
  have E := Ext.refl w
  have HM := Hp.le_refl M
  have H := h
  unfold ferrymanlaw06_given at H
  refine Wp_seq ?_
  refine Wp_region_lit ?_
  refine W_v (.slice none 0 0) (x_assign rfl) rfl ?_
  refine Wl_nil ?_
  refine tn ?_
  refine Wp_seq ?_
  refine Wp_region_lit ?_
  refine W_v (.slice none 0 0) (x_assign rfl) rfl ?_
  refine Wl_nil ?_
  refine tn ?_
  refine Wp_seq ?_
  refine Wp_seq ?_
  refine Wp_region_lit ?_
  refine W_v (.int .i64 0) (x_assign rfl) rfl ?_
  refine Wl_nil ?_
  refine tn ?_
  obtain ⟨o87, o87h, o87H⟩ := bindS H
  clear H
  refine Wp_blockJ (fun ρ w' => ∃ (x83 : List event_Place) (A84 : Option Addr) (c85 : Nat), (x83) = o87 ∧ Agree ρ [(3, .slice A84 x83.length c85)] ∧ Ext w w' ∧ St w' M F [Row r_event_Place 62 (.slice A84 x83.length c85) x83]) ?_ ?_
  · skip
    refine Wp_loop (fun n ρ w' => ∃ (x56 : List event_Place) (x60 : Int) (A57 : Option Addr) (c58 : Nat), ferrymanlaw06_given_l0 a0 n x56 x60 = some o87 ∧ Agree ρ [(0, .slice A0 a0.length c0), (3, .slice A57 x56.length c58), (4, .int .i64 x60)] ∧ Ext w w' ∧ St w' M F [Row r_event_Place 62 (.slice A57 x56.length c58) x56]) k ?_ ?_
    · skip
      replace S := S.row_nil r_event_Place 62
      exact ⟨([] : List event_Place), (0 : Int), none, 0, o87h, ⟨rfl, rfl, rfl, trivial⟩, E, S.pick [0] (by decide)⟩
    · intro n
      rintro ρ w89 ⟨x56, x60, A57, c58, H, hρ, E, S⟩
      rw [agree_eta hρ]
      clear hρ
      cases n with
      | zero => cases H
      | succ k =>
        rw [ferrymanlaw06_given_l0.eq_2] at H
        refine Wp_seq ?_
        refine Wp_seq ?_
        refine Wp_region_lit ?_
        refine W_v (.int .i64 x60) (x_move rfl) rfl ?_
        refine W_v (.slice A0 a0.length c0) (x_move rfl) rfl ?_
        refine W_v (.int .i64 (a0.length : Int)) (x_len_slice (n := a0.length) Try.underlying52 rfl) rfl ?_
        refine W_v (.bool (decide (x60 < (a0.length : Int)))) (x_ibin rfl rfl rfl rfl) rfl ?_
        refine Wl_nil ?_
        refine tn ?_
        rcases iteS H with ⟨hb90, H⟩ | ⟨hb90, H⟩
        · refine Wp_cond_true (congrArg Value.bool hb90) ?_
          refine Wp_skip ?_
          refine tn ?_
          refine Wp_seq ?_
          refine Wp_block ?_
          refine Wp_region_lit ?_
          refine W_v (.slice A57 x56.length c58) (x_move rfl) rfl ?_
          refine W_v (.slice A0 a0.length c0) (x_move rfl) rfl ?_
          refine W_v (.int .i64 x60) (x_move rfl) rfl ?_
          obtain ⟨⟨p91, p92⟩, H⟩ := chkS H
          obtain ⟨b93, o94, cs95, _, _, ee100, hb96, vs97, hR98, hc99⟩ := SlW.at' hr0 p91 p92
          obtain rfl : vs97 = _ := hR98
          refine W_v (.pointer (some ⟨b93, o94 + x60.toNat * 2, none⟩)) (x_indexAddr Try.underlying52 ty81 (slA ee100) rfl p91 p92) rfl ?_
          refine W_v (.agg #[.int .i64 ((rd a0 x60).Task), .int .i64 ((rd a0 x60).Call)]) (x_loadA (S.frz hb96) ty81 rfl (sub_el hc99 0 rfl) rfl rfl) rfl ?_
          refine W_bslice S #[.int .i64 ((rd a0 x60).Task), .int .i64 ((rd a0 x60).Call)] Try.underlying55 ty62 rfl rfl #[.int .i64 0, .int .i64 0] (by kernel_rfl) (by kernel_rfl) rfl ?_
          intro b101 w102 E' S
          replace E := E.trans E'
          clear E'
          replace S := S.blk_row (r := r_event_Place) (l := ([(⟨(rd a0 x60).Task, (rd a0 x60).Call⟩ : event_Place)] : List event_Place)) 0 rfl 1 (Nat.le_refl 1) rfl (Cells.cons (vs := [.int .i64 ((rd a0 x60).Task), .int .i64 ((rd a0 x60).Call)]) (rfl) Cells.nil)
          obtain ⟨p104, H⟩ := chkS H
          obtain ⟨src105, hs106, hC107⟩ := src_of_read (P := Try.prog) (ρ := r_event_Place) (l := ([(⟨(rd a0 x60).Task, (rd a0 x60).Call⟩ : event_Place)] : List event_Place)) (S.row_read 0 rfl) (by decide)
          refine W_append S 1 rfl rfl rfl Try.underlying55 (.inl Try.underlying55) ty62 rfl (by decide) (by decide) hs106 hC107 rfl (by omega) rfl ?_
          intro v108 w109 E' S
          replace E := E.trans E'
          clear E'
          obtain ⟨A110, c111, rfl, _⟩ := (S.row_read 1 rfl).form
          refine W_v (.slice A110 (x56 ++ ([(⟨(rd a0 x60).Task, (rd a0 x60).Call⟩ : event_Place)] : List event_Place)).length c111) (x_assign rfl) rfl ?_
          refine Wl_nil ?_
          refine bn ?_
          refine tn ?_
          refine Wp_region_lit ?_
          refine W_v (.int .i64 x60) (x_move rfl) rfl ?_
          refine W_v (.int .i64 (IntKind.i64.wrap (x60 + (1 : Int)))) (x_ibin rfl rfl rfl rfl) rfl ?_
          refine W_v (.int .i64 (IntKind.i64.wrap (x60 + (1 : Int)))) (x_assign rfl) rfl ?_
          refine Wl_nil ?_
          refine tn ?_
          exact ⟨k, Nat.lt_succ_self k, ⟨(x56 ++ ([(⟨(rd a0 x60).Task, (rd a0 x60).Call⟩ : event_Place)] : List event_Place)), (IntKind.i64.wrap (x60 + (1 : Int))), A110, c111, H, ⟨rfl, rfl, rfl, trivial⟩, E, S.pick [1] (by decide)⟩⟩
        refine Wp_cond_false (congrArg Value.bool hb90) ?_
        refine Wp_exit ?_
        refine tx (tx (bsm (?_)))
        refine tn ?_
        exact ⟨x56, A57, c58, Option.some.inj H, ⟨rfl, trivial⟩, E, S.pick [0] (by decide)⟩
  clear o87h
  rintro ρ w112 ⟨x83, A84, c85, rfl, hρ, E, S⟩
  rw [agree_eta hρ]
  clear hρ
  have H := o87H
  clear o87H
  refine tn ?_
  refine Wp_seq ?_
  refine Wp_region_lit ?_
  refine W_v (.slice A84 x83.length c85) (x_move rfl) rfl ?_
  refine W_v (.slice A84 x83.length c85) (x_assign rfl) rfl ?_
  refine Wl_nil ?_
  refine tn ?_
  refine Wp_ret ?_
  obtain rfl := Option.some.inj H
  exact ⟨_, _, _, fun w1 e1 => run_resR (vs := [.slice A84 x83.length c85]) (FA.cons (rfl) (FA.nil)), HM, E, S.pick [0] (by decide), ⟨A84, c85, rfl, rfl⟩⟩
end Go.Proofs.Ytninegjnkkcepaa
