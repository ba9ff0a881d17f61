import Derived.Test.YtninegjnkkcepaaGe4B
import Derived.Test.YtninegjnkkcepaaGe4P0
namespace Go.Proofs.Ytninegjnkkcepaa
open Go
set_option linter.unusedVariables false
set_option linter.unusedSimpArgs false
def ferrymanlaw06_works (k : Nat)  : Option (Bool) :=
  (Option.bind (event_New_v k (2 : Int)) (fun t1 => (Sum.elim (fun t3 => some false) (fun t4 => (Option.bind (event_Recorder_Invoke_POO k t4 (0 : Int)) (fun t19 => (Option.bind (α := Bool × List event_task × List api_Event) (if (t19.1 != (0 : Int)) = true then some (true, t19.2.tasks, t19.2.l) else (Option.bind (event_Recorder_Invoke_POO k t19.2 (0 : Int)) (fun t64 => some ((t64.1 != (7 : Int)), t64.2.tasks, t64.2.l)))) (fun ⟨x53, x54, x58⟩ => (Option.bind (α := Bool × List event_task × List api_Event) (if x53 = true then some (true, x54, x58) else (Option.bind (event_Recorder_Return_POO k (⟨x54, x58⟩ : event_Recorder) (0 : Int) (⟨(0 : Int), false, ([] : Str), ([] : (List api_Pair))⟩ : api_Answer)) (fun t112 => some ((t112.1 != (7 : Int)), t112.2.tasks, t112.2.l)))) (fun ⟨x101, x102, x106⟩ => (Option.bind (α := Bool × List event_task × List api_Event) (if x101 = true then some (true, x102, x106) else (Option.bind (event_Recorder_Invoke_POO k (⟨x102, x106⟩ : event_Recorder) (1 : Int)) (fun t160 => some ((t160.1 != (0 : Int)), t160.2.tasks, t160.2.l)))) (fun ⟨x149, x150, x154⟩ => (Option.bind (α := Bool × List event_task × List api_Event) (if x149 = true then some (true, x150, x154) else (Option.bind (event_Recorder_Mark_POO k (⟨x150, x154⟩ : event_Recorder) (1 : Int)) (fun t208 => some ((t208.1 != (0 : Int)), t208.2.tasks, t208.2.l)))) (fun ⟨x197, x198, x202⟩ => (Option.bind (α := Bool × List event_task × List api_Event) (if x197 = true then some (true, x198, x202) else (Option.bind (event_Recorder_Mark_POO k (⟨x198, x202⟩ : event_Recorder) (0 : Int)) (fun t256 => some ((t256.1 != (0 : Int)), t256.2.tasks, t256.2.l)))) (fun ⟨x245, x246, x250⟩ => (Option.bind (α := Bool × List event_task × List api_Event) (if x245 = true then some (true, x246, x250) else (Option.bind (event_Recorder_Return_POO k (⟨x246, x250⟩ : event_Recorder) (0 : Int) (⟨(0 : Int), true, ([] : Str), ([] : (List api_Pair))⟩ : api_Answer)) (fun t304 => some ((t304.1 != (0 : Int)), t304.2.tasks, t304.2.l)))) (fun ⟨x293, x294, x298⟩ => (Option.bind (α := Bool × List event_task × List api_Event) (if x293 = true then some (true, x294, x298) else (Option.bind (event_Recorder_Invoke_POO k (⟨x294, x298⟩ : event_Recorder) (2 : Int)) (fun t352 => some ((t352.1 != (1 : Int)), t352.2.tasks, t352.2.l)))) (fun ⟨x341, x342, x346⟩ => (if x341 = true then some false else (Option.bind (event_Recorder_Events_POO k (⟨x342, x346⟩ : event_Recorder)) (fun t367 => (Option.bind (α := Bool) (if ((t367.length : Int) != (5 : Int)) = true then some (true) else (if 0 ≤ (4 : Int) ∧ (4 : Int) < (t367.length : Int) then some (((rd t367 (4 : Int)).What != (3 : Int))) else none)) (fun x404 => (Option.bind (α := Bool) (if x404 = true then some (true) else (if 0 ≤ (4 : Int) ∧ (4 : Int) < (t367.length : Int) then some ((!((rd t367 (4 : Int)).Answer.Found))) else none)) (fun x450 => (Option.bind (α := Bool) (if x450 = true then some (true) else (if 0 ≤ (2 : Int) ∧ (2 : Int) < (t367.length : Int) then some (((rd t367 (2 : Int)).Task != (1 : Int))) else none)) (fun x496 => (Option.bind (α := Bool) (if x496 = true then some (true) else (if 0 ≤ (2 : Int) ∧ (2 : Int) < (t367.length : Int) then some (((rd t367 (2 : Int)).Call != (0 : Int))) else none)) (fun x542 => (Option.bind (α := Bool × List event_task × List api_Event) (if x542 = true then some (true, x342, x346) else (Option.bind (event_Recorder_Return_POO k (⟨x342, x346⟩ : event_Recorder) (1 : Int) (⟨(0 : Int), false, ([] : Str), ([] : (List api_Pair))⟩ : api_Answer)) (fun t593 => some ((t593.1 != (0 : Int)), t593.2.tasks, t593.2.l)))) (fun ⟨x582, x583, x587⟩ => (Option.bind (α := Bool × List event_task × List api_Event) (if x582 = true then some (true, x583, x587) else (Option.bind (event_Recorder_Invoke_POO k (⟨x583, x587⟩ : event_Recorder) (0 : Int)) (fun t641 => some ((t641.1 != (0 : Int)), t641.2.tasks, t641.2.l)))) (fun ⟨x630, x631, x635⟩ => (if x630 = true then some false else (Option.bind (event_Recorder_Events_POO k (⟨x631, x635⟩ : event_Recorder)) (fun t656 => (Option.bind (event_Without k t656 ([(⟨(0 : Int), (0 : Int)⟩ : event_Place)] : List event_Place)) (fun t673 => (Option.bind (α := Bool) (if ((t673.length : Int) == (4 : Int)) = true then (if 0 ≤ (0 : Int) ∧ (0 : Int) < (t673.length : Int) then some (((rd t673 (0 : Int)).Task == (1 : Int))) else none) else some (false)) (fun x710 => (Option.bind (α := Bool) (if x710 = true then (if 0 ≤ (3 : Int) ∧ (3 : Int) < (t673.length : Int) then some (((rd t673 (3 : Int)).Task == (0 : Int))) else none) else some (false)) (fun x756 => (Option.bind (α := Bool) (if x756 = true then (if 0 ≤ (3 : Int) ∧ (3 : Int) < (t673.length : Int) then some (((rd t673 (3 : Int)).Call == (0 : Int))) else none) else some (false)) (fun x802 => (Option.bind (α := Bool) (if x802 = true then (if 0 ≤ (3 : Int) ∧ (3 : Int) < (t673.length : Int) then some (((rd t673 (3 : Int)).What == (1 : Int))) else none) else some (false)) (fun x848 => (Option.bind (α := Bool) (if x848 = true then (Option.bind (event_Legal k (2 : Int) t673) (fun t874 => some (t874))) else some (false)) (fun x872 => (Option.bind (α := Bool) (if x872 = true then (Option.bind (event_Bare k t367) (fun t907 => some (((t907.length : Int) == (3 : Int))))) else some (false)) (fun x901 => some x901)))))))))))))))))))))))))))))))))))))))))))))))))) t1))
set_option maxHeartbeats 2000000 in
theorem ferrymanlaw06_works.mono {k : Nat}  : OLe (ferrymanlaw06_works k ) (ferrymanlaw06_works (k + 1) ) := by
  unfold ferrymanlaw06_works
  repeat' (first | with_reducible exact OLe.none | with_reducible exact OLe.some | with_reducible refine OLe.ite ?_ ?_ | with_reducible refine OLe.bind ?_ (fun _ => ?_) | with_reducible exact event_Bare.mono | with_reducible exact event_Legal.mono | with_reducible exact event_New_v.mono | with_reducible exact event_Recorder_Events_POO.mono | with_reducible exact event_Recorder_Invoke_POO.mono | with_reducible exact event_Recorder_Mark_POO.mono | with_reducible exact event_Recorder_Return_POO.mono | with_reducible exact event_Without.mono | refine OLe.bind ?_ (fun _ => ?_) | refine OLe.ite ?_ ?_ | refine OLe.elim (fun _ => ?_) (fun _ => ?_) | split)
set_option maxHeartbeats 8000000 in
set_option maxRecDepth 100000 in
theorem ferrymanlaw06_works.con (k : Nat) (M : Hp)  (r : Bool)  (h : ferrymanlaw06_works k  = some r) : Con Try.prog 10 #[] M [] (fun v M' Γ' => v = .bool r ∧ Γ' = []) := by
  refine con_of_wp Try.func10 rfl Try.ntmps10 Try.results10 rfl ?_
  intro w F rn S hrn
  have E := Ext.refl w
  have HM := Hp.le_refl M
  have H := h
  unfold ferrymanlaw06_works at H
  refine Wp_seq (Wp_region_lit (W_v (.bool false) (x_assign rfl) rfl (Wl_nil (tn (Wp_seq (Wp_region_lit ?_))))))
  obtain ⟨t1, ht2, H⟩ := bindS H
  rcases t1 with t3 | t4
  · skip
    replace H := elimL H
    refine W_callF2 fn14 (event_New_v.con k M (2 : Int) (Sum.inl t3)  ht2) (Γ1 := []) (Γ2 := []) S rfl rfl (by rintro _ _ _ ⟨rfl, rfl⟩; exact flat_nil) ?_
    rintro _ w5 _ Γ' E' S ⟨rfl, rfl⟩
    replace E := E.trans E'
    replace S : St w5 M F [] := S
    refine W_v (.tuple #[.pointer none, .int .i64 1]) (x_move rfl) rfl (W_v (.pointer none) (x_extract rfl rfl) rfl (W_v (.int .i64 1) (x_extract rfl rfl) rfl (W_v (.pointer none) (x_assign rfl) rfl (W_v (.int .i64 1) (x_assign rfl) rfl (Wl_nil (tn (Wp_seq (Wp_seq (Wp_region_lit (W_v (.int .i64 1) (x_move rfl) rfl (W_v (.bool true) (x_ibin rfl rfl rfl rfl) rfl (W_v (.bool true) (x_move rfl) rfl (W_no (rfl) rfl (W_no (rfl) rfl (W_no (rfl) rfl ?_)))))))))))))))
    refine W_v (.bool true) (x_pick (k := true) rfl rfl) rfl (W_v (.bool true) (x_move rfl) rfl (W_no (rfl) rfl (W_no (rfl) rfl (W_no (rfl) rfl (W_v (.bool true) (x_pick (k := true) rfl rfl) rfl (W_v (.bool true) (x_move rfl) rfl (W_no (rfl) rfl (W_no (rfl) rfl (W_no (rfl) rfl (W_no (rfl) rfl (W_v (.bool true) (x_pick (k := true) rfl rfl) rfl (W_v (.bool true) (x_move rfl) rfl (W_no (rfl) rfl (W_no (rfl) rfl (W_no (rfl) rfl ?_)))))))))))))))
    refine W_v (.bool true) (x_pick (k := true) rfl rfl) rfl (W_v (.bool true) (x_move rfl) rfl (W_no (rfl) rfl (W_no (rfl) rfl (W_no (rfl) rfl (W_v (.bool true) (x_pick (k := true) rfl rfl) rfl (W_v (.bool true) (x_move rfl) rfl (W_no (rfl) rfl (W_no (rfl) rfl (W_no (rfl) rfl (W_v (.bool true) (x_pick (k := true) rfl rfl) rfl (W_v (.bool true) (x_move rfl) rfl (W_no (rfl) rfl (W_no (rfl) rfl (W_no (rfl) rfl (W_no (rfl) rfl ?_)))))))))))))))
    refine W_v (.bool true) (x_pick (k := true) rfl rfl) rfl (W_v (.bool true) (x_move rfl) rfl (W_no (rfl) rfl (W_no (rfl) rfl (W_no (rfl) rfl (W_v (.bool true) (x_pick (k := true) rfl rfl) rfl (Wl_nil (tn (Wp_cond_true rfl ?_))))))))
    as_aux_lemma =>
    refine Wp_seq (Wp_region_lit (W_v (.bool false) (x_assign rfl) rfl (Wl_nil (tn ?_))))
    refine Wp_ret ?_
    refine tr (?_)
    obtain rfl := Option.some.inj H
    exact ⟨_, _, _, fun w1 e1 => run_resR (vs := [.bool false]) (FA.cons (rfl) (FA.nil)), HM, E, S.pick [] (by decide), ⟨rfl, rfl⟩⟩
  · skip
    replace H := elimR H
    refine W_call fn14 (event_New_v.con k M (2 : Int) (Sum.inr t4)  ht2) (Γ1 := []) (Γ2 := []) S rfl rfl ?_
    rintro _ w16 M17 Γ' hM18 E' S ⟨b8, A10, c11, A13, c14, rfl, rfl⟩
    replace HM := Hp.le_trans HM hM18
    replace E := E.trans E'
    replace S : St w16 M17 F [_, _, _] := S
    refine W_v (.tuple #[pt b8 0, .int .i64 0]) (x_move rfl) rfl (W_v (pt b8 0) (x_extract rfl rfl) rfl (W_v (.int .i64 0) (x_extract rfl rfl) rfl (W_v (pt b8 0) (x_assign rfl) rfl (W_v (.int .i64 0) (x_assign rfl) rfl (Wl_nil (tn (Wp_seq (Wp_seq (Wp_region_lit (W_v (.int .i64 0) (x_move rfl) rfl (W_v (.bool false) (x_ibin rfl rfl rfl rfl) rfl (W_v (.bool false) (x_move rfl) rfl (W_yes (rfl) (W_v (pt b8 0) (x_move rfl) rfl (W_yes (rfl) ?_)))))))))))))))
    obtain ⟨t19, ht20, H⟩ := bindS H
    refine W_call fn30 (event_Recorder_Invoke_POO.con k M17 A10 c11 A13 c14 t4 (0 : Int) b8 t19  ht20) (Γ1 := [_, _, _]) (Γ2 := []) S rfl rfl ?_
    rintro _ w27 M28 Γ' hM29 E' S ⟨A21, c22, A24, c25, rfl, rfl⟩
    replace HM := Hp.le_trans HM hM29
    replace E := E.trans E'
    replace S : St w27 M28 F [_, _, _] := S
    refine W_yes (rfl) (W_v (.bool (t19.1 != (0 : Int))) (x_ibin rfl rfl rfl rfl) rfl (W_v (.bool (t19.1 != (0 : Int))) (x_pick (k := false) rfl rfl) rfl (W_v (.bool (t19.1 != (0 : Int))) (x_move rfl) rfl ?_)))
    obtain ⟨o62, o62h, o62H⟩ := bindS H
    refine Wl_cutN 4 (fun ρ w' => ∃ (x53 : Bool) (x54 : List event_task) (x58 : List api_Event) (A55 : Option Addr) (c56 : Nat) (A59 : Option Addr) (c60 : Nat) (Mj : Hp), (x53, x54, x58) = o62 ∧ Agree ρ [(1, pt b8 0), (20, .bool x53)] ∧ M28.le Mj ∧ Ext w w' ∧ St w' Mj F [Row r_api_Event 32 (.slice A59 x58.length c60) x58, Row r_event_task 70 (.slice A55 x54.length c56) x54, Blk b8 (.cells #[.slice A55 x54.length c56, .slice A59 x58.length c60] 73 (0, 0))]) ?_ ?_
    · have H := o62h
      have LE63 := Hp.le_refl M28
      rcases iteS H with ⟨hb52, H⟩ | ⟨hb52, H⟩
      · skip
        refine W_no (skF hb52) rfl (W_no (skF hb52) rfl (W_no (skF hb52) rfl (W_v (.bool true) (x_pick (k := true) (congrArg Value.bool hb52) rfl) rfl (Wl_nil ?_))))
        exact ⟨true, t19.2.tasks, t19.2.l, A21, c22, A24, c25, M28, Option.some.inj H, ⟨rfl, rfl, trivial⟩, (Hp.le_refl M28), E, S.pick [2, 1, 0] (by decide)⟩
      · skip
        refine W_yes (congrArg some hb52) (W_v (pt b8 0) (x_move rfl) rfl (W_yes (congrArg some hb52) ?_))
        obtain ⟨t64, ht65, H⟩ := bindS H
        refine W_call fn30 (event_Recorder_Invoke_POO.con k M28 A21 c22 A24 c25 t19.2 (0 : Int) b8 t64  ht65) (Γ1 := [_, _, _]) (Γ2 := []) S rfl rfl ?_
        rintro _ w72 M73 Γ' hM74 E' S ⟨A66, c67, A69, c70, rfl, rfl⟩
        replace HM := Hp.le_trans HM hM74
        replace LE63 := Hp.le_trans LE63 hM74
        replace E := E.trans E'
        replace S : St w72 M73 F [_, _, _] := S
        refine W_yes (congrArg some hb52) (W_v (.bool (t64.1 != (7 : Int))) (x_ibin rfl rfl rfl rfl) rfl (W_v (.bool (t64.1 != (7 : Int))) (x_pick (k := false) (congrArg Value.bool hb52) rfl) rfl (Wl_nil ?_)))
        exact ⟨(t64.1 != (7 : Int)), t64.2.tasks, t64.2.l, A66, c67, A69, c70, M73, Option.some.inj H, ⟨rfl, rfl, trivial⟩, LE63, E, S.pick [2, 1, 0] (by decide)⟩
    as_aux_lemma =>
    rintro ρ w75 ⟨x53, x54, x58, A55, c56, A59, c60, M76, rfl, hρ, hM77, E, S⟩
    rw [agree_eta hρ]
    replace HM := Hp.le_trans HM hM77
    have H := o62H
    refine W_v (.bool x53) (x_move rfl) rfl ?_
    obtain ⟨o110, o110h, o110H⟩ := bindS H
    refine Wl_cutN 5 (fun ρ w' => ∃ (x101 : Bool) (x102 : List event_task) (x106 : List api_Event) (A103 : Option Addr) (c104 : Nat) (A107 : Option Addr) (c108 : Nat) (Mj : Hp), (x101, x102, x106) = o110 ∧ Agree ρ [(1, pt b8 0), (26, .bool x101)] ∧ M76.le Mj ∧ Ext w w' ∧ St w' Mj F [Row r_api_Event 32 (.slice A107 x106.length c108) x106, Row r_event_task 70 (.slice A103 x102.length c104) x102, Blk b8 (.cells #[.slice A103 x102.length c104, .slice A107 x106.length c108] 73 (0, 0))]) ?_ ?_
    · have H := o110h
      have LE111 := Hp.le_refl M76
      rcases iteS H with ⟨hb100, H⟩ | ⟨hb100, H⟩
      · skip
        refine W_no (skF hb100) rfl (W_no (skF hb100) rfl (W_no (skF hb100) rfl (W_no (skF hb100) rfl (W_v (.bool true) (x_pick (k := true) (congrArg Value.bool hb100) rfl) rfl (Wl_nil ?_)))))
        exact ⟨true, x54, x58, A55, c56, A59, c60, M76, Option.some.inj H, ⟨rfl, rfl, trivial⟩, (Hp.le_refl M76), E, S.pick [0, 1, 2] (by decide)⟩
      · skip
        refine W_yes (congrArg some hb100) (W_v (pt b8 0) (x_move rfl) rfl (W_yes (congrArg some hb100) (W_v (.agg #[.int .i64 0, .bool false, .string (bs ([] : Str)), .slice none 0 0]) (x_build2 (pl := [(0, 1), (1, 1), (2, 1), (3, 1)]) #[.int .i64 0, .bool false, .string (bs ([] : Str)), .slice none 0 0] Try.underlying30 ty30 (by as_aux_lemma => kernel_rfl) rfl (by as_aux_lemma => kernel_rfl)) rfl (W_yes (congrArg some hb100) ?_))))
        obtain ⟨t112, ht113, H⟩ := bindS H
        replace S : St w75 M76 F [_, _, _] := S.pick [2, 1, 0] (by decide)
        refine W_call fn32 (event_Recorder_Return_POO.con k M76 A55 c56 A59 c60 (⟨x54, x58⟩ : event_Recorder) (0 : Int) none 0 (⟨(0 : Int), false, ([] : Str), ([] : (List api_Pair))⟩ : api_Answer) b8 t112 (SlW.nil _ _) ht113) (Γ1 := [_, _, _]) (Γ2 := []) S rfl rfl ?_
        rintro _ w120 M121 Γ' hM122 E' S ⟨A114, c115, A117, c118, rfl, rfl⟩
        replace HM := Hp.le_trans HM hM122
        replace hM77 := Hp.le_trans hM77 hM122
        replace LE111 := Hp.le_trans LE111 hM122
        replace E := E.trans E'
        replace S : St w120 M121 F [_, _, _] := S
        refine W_yes (congrArg some hb100) (W_v (.bool (t112.1 != (7 : Int))) (x_ibin rfl rfl rfl rfl) rfl (W_v (.bool (t112.1 != (7 : Int))) (x_pick (k := false) (congrArg Value.bool hb100) rfl) rfl (Wl_nil ?_)))
        exact ⟨(t112.1 != (7 : Int)), t112.2.tasks, t112.2.l, A114, c115, A117, c118, M121, Option.some.inj H, ⟨rfl, rfl, trivial⟩, LE111, E, S.pick [2, 1, 0] (by decide)⟩
    as_aux_lemma =>
    rintro ρ w123 ⟨x101, x102, x106, A103, c104, A107, c108, M124, rfl, hρ, hM125, E, S⟩
    rw [agree_eta hρ]
    replace HM := Hp.le_trans HM hM125
    replace hM77 := Hp.le_trans hM77 hM125
    have H := o110H
    refine W_v (.bool x101) (x_move rfl) rfl ?_
    obtain ⟨o158, o158h, o158H⟩ := bindS H
    refine Wl_cutN 4 (fun ρ w' => ∃ (x149 : Bool) (x150 : List event_task) (x154 : List api_Event) (A151 : Option Addr) (c152 : Nat) (A155 : Option Addr) (c156 : Nat) (Mj : Hp), (x149, x150, x154) = o158 ∧ Agree ρ [(1, pt b8 0), (31, .bool x149)] ∧ M124.le Mj ∧ Ext w w' ∧ St w' Mj F [Row r_api_Event 32 (.slice A155 x154.length c156) x154, Row r_event_task 70 (.slice A151 x150.length c152) x150, Blk b8 (.cells #[.slice A151 x150.length c152, .slice A155 x154.length c156] 73 (0, 0))]) ?_ ?_
    · have H := o158h
      have LE159 := Hp.le_refl M124
      rcases iteS H with ⟨hb148, H⟩ | ⟨hb148, H⟩
      · skip
        refine W_no (skF hb148) rfl (W_no (skF hb148) rfl (W_no (skF hb148) rfl (W_v (.bool true) (x_pick (k := true) (congrArg Value.bool hb148) rfl) rfl (Wl_nil ?_))))
        exact ⟨true, x102, x106, A103, c104, A107, c108, M124, Option.some.inj H, ⟨rfl, rfl, trivial⟩, (Hp.le_refl M124), E, S.pick [0, 1, 2] (by decide)⟩
      · skip
        refine W_yes (congrArg some hb148) (W_v (pt b8 0) (x_move rfl) rfl (W_yes (congrArg some hb148) ?_))
        obtain ⟨t160, ht161, H⟩ := bindS H
        replace S : St w123 M124 F [_, _, _] := S.pick [2, 1, 0] (by decide)
        refine W_call fn30 (event_Recorder_Invoke_POO.con k M124 A103 c104 A107 c108 (⟨x102, x106⟩ : event_Recorder) (1 : Int) b8 t160  ht161) (Γ1 := [_, _, _]) (Γ2 := []) S rfl rfl ?_
        rintro _ w168 M169 Γ' hM170 E' S ⟨A162, c163, A165, c166, rfl, rfl⟩
        replace HM := Hp.le_trans HM hM170
        replace hM77 := Hp.le_trans hM77 hM170
        replace hM125 := Hp.le_trans hM125 hM170
        replace LE159 := Hp.le_trans LE159 hM170
        replace E := E.trans E'
        replace S : St w168 M169 F [_, _, _] := S
        refine W_yes (congrArg some hb148) (W_v (.bool (t160.1 != (0 : Int))) (x_ibin rfl rfl rfl rfl) rfl (W_v (.bool (t160.1 != (0 : Int))) (x_pick (k := false) (congrArg Value.bool hb148) rfl) rfl (Wl_nil ?_)))
        exact ⟨(t160.1 != (0 : Int)), t160.2.tasks, t160.2.l, A162, c163, A165, c166, M169, Option.some.inj H, ⟨rfl, rfl, trivial⟩, LE159, E, S.pick [2, 1, 0] (by decide)⟩
    as_aux_lemma =>
    rintro ρ w171 ⟨x149, x150, x154, A151, c152, A155, c156, M172, rfl, hρ, hM173, E, S⟩
    rw [agree_eta hρ]
    replace HM := Hp.le_trans HM hM173
    replace hM77 := Hp.le_trans hM77 hM173
    replace hM125 := Hp.le_trans hM125 hM173
    have H := o158H
    refine W_v (.bool x149) (x_move rfl) rfl ?_
    obtain ⟨o206, o206h, o206H⟩ := bindS H
    refine Wl_cutN 4 (fun ρ w' => ∃ (x197 : Bool) (x198 : List event_task) (x202 : List api_Event) (A199 : Option Addr) (c200 : Nat) (A203 : Option Addr) (c204 : Nat) (Mj : Hp), (x197, x198, x202) = o206 ∧ Agree ρ [(1, pt b8 0), (36, .bool x197)] ∧ M172.le Mj ∧ Ext w w' ∧ St w' Mj F [Row r_api_Event 32 (.slice A203 x202.length c204) x202, Row r_event_task 70 (.slice A199 x198.length c200) x198, Blk b8 (.cells #[.slice A199 x198.length c200, .slice A203 x202.length c204] 73 (0, 0))]) ?_ ?_
    · have H := o206h
      have LE207 := Hp.le_refl M172
      rcases iteS H with ⟨hb196, H⟩ | ⟨hb196, H⟩
      · skip
        refine W_no (skF hb196) rfl (W_no (skF hb196) rfl (W_no (skF hb196) rfl (W_v (.bool true) (x_pick (k := true) (congrArg Value.bool hb196) rfl) rfl (Wl_nil ?_))))
        exact ⟨true, x150, x154, A151, c152, A155, c156, M172, Option.some.inj H, ⟨rfl, rfl, trivial⟩, (Hp.le_refl M172), E, S.pick [0, 1, 2] (by decide)⟩
      · skip
        refine W_yes (congrArg some hb196) (W_v (pt b8 0) (x_move rfl) rfl (W_yes (congrArg some hb196) ?_))
        obtain ⟨t208, ht209, H⟩ := bindS H
        replace S : St w171 M172 F [_, _, _] := S.pick [2, 1, 0] (by decide)
        refine W_call fn31 (event_Recorder_Mark_POO.con k M172 A151 c152 A155 c156 (⟨x150, x154⟩ : event_Recorder) (1 : Int) b8 t208  ht209) (Γ1 := [_, _, _]) (Γ2 := []) S rfl rfl ?_
        rintro _ w216 M217 Γ' hM218 E' S ⟨A210, c211, A213, c214, rfl, rfl⟩
        replace HM := Hp.le_trans HM hM218
        replace hM77 := Hp.le_trans hM77 hM218
        replace hM125 := Hp.le_trans hM125 hM218
        replace hM173 := Hp.le_trans hM173 hM218
        replace LE207 := Hp.le_trans LE207 hM218
        replace E := E.trans E'
        replace S : St w216 M217 F [_, _, _] := S
        refine W_yes (congrArg some hb196) (W_v (.bool (t208.1 != (0 : Int))) (x_ibin rfl rfl rfl rfl) rfl (W_v (.bool (t208.1 != (0 : Int))) (x_pick (k := false) (congrArg Value.bool hb196) rfl) rfl (Wl_nil ?_)))
        exact ⟨(t208.1 != (0 : Int)), t208.2.tasks, t208.2.l, A210, c211, A213, c214, M217, Option.some.inj H, ⟨rfl, rfl, trivial⟩, LE207, E, S.pick [2, 1, 0] (by decide)⟩
    as_aux_lemma =>
    rintro ρ w219 ⟨x197, x198, x202, A199, c200, A203, c204, M220, rfl, hρ, hM221, E, S⟩
    rw [agree_eta hρ]
    replace HM := Hp.le_trans HM hM221
    replace hM77 := Hp.le_trans hM77 hM221
    replace hM125 := Hp.le_trans hM125 hM221
    replace hM173 := Hp.le_trans hM173 hM221
    have H := o206H
    refine W_v (.bool x197) (x_move rfl) rfl ?_
    obtain ⟨o254, o254h, o254H⟩ := bindS H
    refine Wl_cutN 4 (fun ρ w' => ∃ (x245 : Bool) (x246 : List event_task) (x250 : List api_Event) (A247 : Option Addr) (c248 : Nat) (A251 : Option Addr) (c252 : Nat) (Mj : Hp), (x245, x246, x250) = o254 ∧ Agree ρ [(1, pt b8 0), (41, .bool x245)] ∧ M220.le Mj ∧ Ext w w' ∧ St w' Mj F [Row r_api_Event 32 (.slice A251 x250.length c252) x250, Row r_event_task 70 (.slice A247 x246.length c248) x246, Blk b8 (.cells #[.slice A247 x246.length c248, .slice A251 x250.length c252] 73 (0, 0))]) ?_ ?_
    · have H := o254h
      have LE255 := Hp.le_refl M220
      rcases iteS H with ⟨hb244, H⟩ | ⟨hb244, H⟩
      · skip
        refine W_no (skF hb244) rfl (W_no (skF hb244) rfl (W_no (skF hb244) rfl (W_v (.bool true) (x_pick (k := true) (congrArg Value.bool hb244) rfl) rfl (Wl_nil ?_))))
        exact ⟨true, x198, x202, A199, c200, A203, c204, M220, Option.some.inj H, ⟨rfl, rfl, trivial⟩, (Hp.le_refl M220), E, S.pick [0, 1, 2] (by decide)⟩
      · skip
        refine W_yes (congrArg some hb244) (W_v (pt b8 0) (x_move rfl) rfl (W_yes (congrArg some hb244) ?_))
        obtain ⟨t256, ht257, H⟩ := bindS H
        replace S : St w219 M220 F [_, _, _] := S.pick [2, 1, 0] (by decide)
        refine W_call fn31 (event_Recorder_Mark_POO.con k M220 A199 c200 A203 c204 (⟨x198, x202⟩ : event_Recorder) (0 : Int) b8 t256  ht257) (Γ1 := [_, _, _]) (Γ2 := []) S rfl rfl ?_
        rintro _ w264 M265 Γ' hM266 E' S ⟨A258, c259, A261, c262, rfl, rfl⟩
        replace HM := Hp.le_trans HM hM266
        replace hM77 := Hp.le_trans hM77 hM266
        replace hM125 := Hp.le_trans hM125 hM266
        replace hM173 := Hp.le_trans hM173 hM266
        replace hM221 := Hp.le_trans hM221 hM266
        replace LE255 := Hp.le_trans LE255 hM266
        replace E := E.trans E'
        replace S : St w264 M265 F [_, _, _] := S
        refine W_yes (congrArg some hb244) (W_v (.bool (t256.1 != (0 : Int))) (x_ibin rfl rfl rfl rfl) rfl (W_v (.bool (t256.1 != (0 : Int))) (x_pick (k := false) (congrArg Value.bool hb244) rfl) rfl (Wl_nil ?_)))
        exact ⟨(t256.1 != (0 : Int)), t256.2.tasks, t256.2.l, A258, c259, A261, c262, M265, Option.some.inj H, ⟨rfl, rfl, trivial⟩, LE255, E, S.pick [2, 1, 0] (by decide)⟩
    as_aux_lemma =>
    rintro ρ w267 ⟨x245, x246, x250, A247, c248, A251, c252, M268, rfl, hρ, hM269, E, S⟩
    rw [agree_eta hρ]
    replace HM := Hp.le_trans HM hM269
    replace hM77 := Hp.le_trans hM77 hM269
    replace hM125 := Hp.le_trans hM125 hM269
    replace hM173 := Hp.le_trans hM173 hM269
    replace hM221 := Hp.le_trans hM221 hM269
    have H := o254H
    refine W_v (.bool x245) (x_move rfl) rfl ?_
    obtain ⟨o302, o302h, o302H⟩ := bindS H
    refine Wl_cutN 5 (fun ρ w' => ∃ (x293 : Bool) (x294 : List event_task) (x298 : List api_Event) (A295 : Option Addr) (c296 : Nat) (A299 : Option Addr) (c300 : Nat) (Mj : Hp), (x293, x294, x298) = o302 ∧ Agree ρ [(1, pt b8 0), (47, .bool x293)] ∧ M268.le Mj ∧ Ext w w' ∧ St w' Mj F [Row r_api_Event 32 (.slice A299 x298.length c300) x298, Row r_event_task 70 (.slice A295 x294.length c296) x294, Blk b8 (.cells #[.slice A295 x294.length c296, .slice A299 x298.length c300] 73 (0, 0))]) ?_ ?_
    · have H := o302h
      have LE303 := Hp.le_refl M268
      rcases iteS H with ⟨hb292, H⟩ | ⟨hb292, H⟩
      · skip
        refine W_no (skF hb292) rfl (W_no (skF hb292) rfl (W_no (skF hb292) rfl (W_no (skF hb292) rfl (W_v (.bool true) (x_pick (k := true) (congrArg Value.bool hb292) rfl) rfl (Wl_nil ?_)))))
        exact ⟨true, x246, x250, A247, c248, A251, c252, M268, Option.some.inj H, ⟨rfl, rfl, trivial⟩, (Hp.le_refl M268), E, S.pick [0, 1, 2] (by decide)⟩
      · skip
        refine W_yes (congrArg some hb292) (W_v (pt b8 0) (x_move rfl) rfl (W_yes (congrArg some hb292) (W_v (.agg #[.int .i64 0, .bool true, .string (bs ([] : Str)), .slice none 0 0]) (x_build2 (pl := [(0, 1), (1, 1), (2, 1), (3, 1)]) #[.int .i64 0, .bool true, .string (bs ([] : Str)), .slice none 0 0] Try.underlying30 ty30 (by as_aux_lemma => kernel_rfl) rfl (by as_aux_lemma => kernel_rfl)) rfl (W_yes (congrArg some hb292) ?_))))
        obtain ⟨t304, ht305, H⟩ := bindS H
        replace S : St w267 M268 F [_, _, _] := S.pick [2, 1, 0] (by decide)
        refine W_call fn32 (event_Recorder_Return_POO.con k M268 A247 c248 A251 c252 (⟨x246, x250⟩ : event_Recorder) (0 : Int) none 0 (⟨(0 : Int), true, ([] : Str), ([] : (List api_Pair))⟩ : api_Answer) b8 t304 (SlW.nil _ _) ht305) (Γ1 := [_, _, _]) (Γ2 := []) S rfl rfl ?_
        rintro _ w312 M313 Γ' hM314 E' S ⟨A306, c307, A309, c310, rfl, rfl⟩
        replace HM := Hp.le_trans HM hM314
        replace hM77 := Hp.le_trans hM77 hM314
        replace hM125 := Hp.le_trans hM125 hM314
        replace hM173 := Hp.le_trans hM173 hM314
        replace hM221 := Hp.le_trans hM221 hM314
        replace hM269 := Hp.le_trans hM269 hM314
        replace LE303 := Hp.le_trans LE303 hM314
        replace E := E.trans E'
        replace S : St w312 M313 F [_, _, _] := S
        refine W_yes (congrArg some hb292) (W_v (.bool (t304.1 != (0 : Int))) (x_ibin rfl rfl rfl rfl) rfl (W_v (.bool (t304.1 != (0 : Int))) (x_pick (k := false) (congrArg Value.bool hb292) rfl) rfl (Wl_nil ?_)))
        exact ⟨(t304.1 != (0 : Int)), t304.2.tasks, t304.2.l, A306, c307, A309, c310, M313, Option.some.inj H, ⟨rfl, rfl, trivial⟩, LE303, E, S.pick [2, 1, 0] (by decide)⟩
    as_aux_lemma =>
    rintro ρ w315 ⟨x293, x294, x298, A295, c296, A299, c300, M316, rfl, hρ, hM317, E, S⟩
    rw [agree_eta hρ]
    replace HM := Hp.le_trans HM hM317
    replace hM77 := Hp.le_trans hM77 hM317
    replace hM125 := Hp.le_trans hM125 hM317
    replace hM173 := Hp.le_trans hM173 hM317
    replace hM221 := Hp.le_trans hM221 hM317
    replace hM269 := Hp.le_trans hM269 hM317
    have H := o302H
    refine W_v (.bool x293) (x_move rfl) rfl ?_
    obtain ⟨o350, o350h, o350H⟩ := bindS H
    refine Wl_cutN 4 (fun ρ w' => ∃ (x341 : Bool) (x342 : List event_task) (x346 : List api_Event) (A343 : Option Addr) (c344 : Nat) (A347 : Option Addr) (c348 : Nat) (Mj : Hp), (x341, x342, x346) = o350 ∧ Agree ρ [(1, pt b8 0), (52, .bool x341)] ∧ M316.le Mj ∧ Ext w w' ∧ St w' Mj F [Row r_api_Event 32 (.slice A347 x346.length c348) x346, Row r_event_task 70 (.slice A343 x342.length c344) x342, Blk b8 (.cells #[.slice A343 x342.length c344, .slice A347 x346.length c348] 73 (0, 0))]) ?_ ?_
    · have H := o350h
      have LE351 := Hp.le_refl M316
      rcases iteS H with ⟨hb340, H⟩ | ⟨hb340, H⟩
      · skip
        refine W_no (skF hb340) rfl (W_no (skF hb340) rfl (W_no (skF hb340) rfl (W_v (.bool true) (x_pick (k := true) (congrArg Value.bool hb340) rfl) rfl (Wl_nil ?_))))
        exact ⟨true, x294, x298, A295, c296, A299, c300, M316, Option.some.inj H, ⟨rfl, rfl, trivial⟩, (Hp.le_refl M316), E, S.pick [0, 1, 2] (by decide)⟩
      · skip
        refine W_yes (congrArg some hb340) (W_v (pt b8 0) (x_move rfl) rfl (W_yes (congrArg some hb340) ?_))
        obtain ⟨t352, ht353, H⟩ := bindS H
        replace S : St w315 M316 F [_, _, _] := S.pick [2, 1, 0] (by decide)
        refine W_call fn30 (event_Recorder_Invoke_POO.con k M316 A295 c296 A299 c300 (⟨x294, x298⟩ : event_Recorder) (2 : Int) b8 t352  ht353) (Γ1 := [_, _, _]) (Γ2 := []) S rfl rfl ?_
        rintro _ w360 M361 Γ' hM362 E' S ⟨A354, c355, A357, c358, rfl, rfl⟩
        replace HM := Hp.le_trans HM hM362
        replace hM77 := Hp.le_trans hM77 hM362
        replace hM125 := Hp.le_trans hM125 hM362
        replace hM173 := Hp.le_trans hM173 hM362
        replace hM221 := Hp.le_trans hM221 hM362
        replace hM269 := Hp.le_trans hM269 hM362
        replace hM317 := Hp.le_trans hM317 hM362
        replace LE351 := Hp.le_trans LE351 hM362
        replace E := E.trans E'
        replace S : St w360 M361 F [_, _, _] := S
        refine W_yes (congrArg some hb340) (W_v (.bool (t352.1 != (1 : Int))) (x_ibin rfl rfl rfl rfl) rfl (W_v (.bool (t352.1 != (1 : Int))) (x_pick (k := false) (congrArg Value.bool hb340) rfl) rfl (Wl_nil ?_)))
        exact ⟨(t352.1 != (1 : Int)), t352.2.tasks, t352.2.l, A354, c355, A357, c358, M361, Option.some.inj H, ⟨rfl, rfl, trivial⟩, LE351, E, S.pick [2, 1, 0] (by decide)⟩
    as_aux_lemma =>
    rintro ρ w363 ⟨x341, x342, x346, A343, c344, A347, c348, M364, rfl, hρ, hM365, E, S⟩
    rw [agree_eta hρ]
    replace HM := Hp.le_trans HM hM365
    replace hM77 := Hp.le_trans hM77 hM365
    replace hM125 := Hp.le_trans hM125 hM365
    replace hM173 := Hp.le_trans hM173 hM365
    replace hM221 := Hp.le_trans hM221 hM365
    replace hM269 := Hp.le_trans hM269 hM365
    replace hM317 := Hp.le_trans hM317 hM365
    have H := o350H
    refine Wl_nil (tn ?_)
    rcases iteS H with ⟨hb366, H⟩ | ⟨hb366, H⟩
    · refine Wp_cond_true (congrArg Value.bool hb366) ?_
      refine Wp_seq (Wp_region_lit (W_v (.bool false) (x_assign rfl) rfl (Wl_nil (tn ?_))))
      refine Wp_ret ?_
      refine tr (?_)
      obtain rfl := Option.some.inj H
      exact ⟨_, _, _, fun w1 e1 => run_resR (vs := [.bool false]) (FA.cons (rfl) (FA.nil)), HM, E, S.pick [] (by decide), ⟨rfl, rfl⟩⟩
    refine Wp_cond_false (congrArg Value.bool hb366) (Wp_skip (tn (Wp_seq (Wp_region_lit (W_v (pt b8 0) (x_move rfl) rfl ?_)))))
    obtain ⟨t367, ht368, H⟩ := bindS H
    replace S : St w363 M364 F [_, _, _] := S.pick [2, 1, 0] (by decide)
    refine W_call fn19 (event_Recorder_Events_POO.con k M364 A343 c344 A347 c348 (⟨x342, x346⟩ : event_Recorder) b8 t367  ht368) (Γ1 := [_, _, _]) (Γ2 := []) S rfl rfl ?_
    rintro _ w372 M373 Γ' hM374 E' S ⟨A369, c370, rfl, rfl⟩
    replace HM := Hp.le_trans HM hM374
    replace hM77 := Hp.le_trans hM77 hM374
    replace hM125 := Hp.le_trans hM125 hM374
    replace hM173 := Hp.le_trans hM173 hM374
    replace hM221 := Hp.le_trans hM221 hM374
    replace hM269 := Hp.le_trans hM269 hM374
    replace hM317 := Hp.le_trans hM317 hM374
    replace hM365 := Hp.le_trans hM365 hM374
    replace E := E.trans E'
    replace S : St w372 M373 F [_, _, _, _] := S
    refine W_v (.slice A369 t367.length c370) (x_assign rfl) rfl (Wl_nil (tn ?_))
    as_aux_lemma =>
    refine Wp_seq (Wp_seq (Wp_region_lit (W_v (.slice A369 t367.length c370) (x_move rfl) rfl (W_v (.int .i64 (t367.length : Int)) (x_len_slice (n := t367.length) Try.underlying22 rfl) rfl (W_v (.bool ((t367.length : Int) != (5 : Int))) (x_ibin rfl rfl rfl rfl) rfl (W_v (.bool ((t367.length : Int) != (5 : Int))) (x_move rfl) rfl ?_))))))
    obtain ⟨o405, o405h, o405H⟩ := bindS H
    refine Wl_cutN 6 (fun ρ w' => ∃ (x404 : Bool), (x404) = o405 ∧ Agree ρ [(1, pt b8 0), (3, .slice A369 t367.length c370), (64, .bool x404)] ∧ Ext w w' ∧ St w' M373 F [Nst rw_api_Event 32 (.slice A369 t367.length c370) t367, Blk b8 (.cells #[.slice A343 x342.length c344, .slice A347 x346.length c348] 73 (0, 0)), Row r_event_task 70 (.slice A343 x342.length c344) x342, Row r_api_Event 32 (.slice A347 x346.length c348) x346]) ?_ ?_
    · have H := o405h
      rcases iteS H with ⟨hb403, H⟩ | ⟨hb403, H⟩
      · skip
        refine W_no (skF hb403) rfl (W_no (skF hb403) rfl (W_no (skF hb403) rfl (W_no (skF hb403) rfl (W_no (skF hb403) rfl (W_v (.bool true) (x_pick (k := true) (congrArg Value.bool hb403) rfl) rfl (Wl_nil ?_))))))
        exact ⟨true, Option.some.inj H, ⟨rfl, rfl, rfl, trivial⟩, E, S.pick [0, 1, 2, 3] (by decide)⟩
      · skip
        refine W_yes (congrArg some hb403) (W_v (.slice A369 t367.length c370) (x_move rfl) rfl (W_yes (congrArg some hb403) ?_))
        obtain ⟨⟨p406, p407⟩, H⟩ := chkS H
        obtain ⟨b408, o409, cs410, _, _, ee415, hb411, vs412, hR413, hc414⟩ := SlW.at' (S.nst_read 0 rfl) p406 p407
        obtain ⟨v419, hs418, rfl⟩ := hR413
        obtain ⟨A416, c417, rfl, _⟩ := hs418.form
        refine W_v (.pointer (some ⟨b408, o409 + (4 : Int).toNat * 7, none⟩)) (x_indexAddr Try.underlying22 ty32 (slA ee415) rfl p406 p407) rfl (W_yes (congrArg some hb403) (W_v (.pointer (some ⟨b408, o409 + (4 : Int).toNat * 7, none⟩)) (x_fieldAddr (o := o409 + (4 : Int).toNat * 7) (off := 0) Try.underlying32 rfl ty5 rfl rfl) rfl (W_yes (congrArg some hb403) (W_v (.int .u8 ((rd t367 (4 : Int)).What)) (x_load (Hp.of_get hb411) ty5 rfl (hc414 0 _ rfl)) rfl (W_yes (congrArg some hb403) (W_v (.bool ((rd t367 (4 : Int)).What != (3 : Int))) (x_ibin rfl rfl rfl rfl) rfl (W_v (.bool ((rd t367 (4 : Int)).What != (3 : Int))) (x_pick (k := false) (congrArg Value.bool hb403) rfl) rfl (Wl_nil ?_))))))))
        exact ⟨((rd t367 (4 : Int)).What != (3 : Int)), Option.some.inj H, ⟨rfl, rfl, rfl, trivial⟩, E, S.pick [0, 1, 2, 3] (by decide)⟩
    as_aux_lemma =>
    rintro ρ w420 ⟨x404, rfl, hρ, E, S⟩
    rw [agree_eta hρ]
    have H := o405H
    refine W_v (.bool x404) (x_move rfl) rfl ?_
    obtain ⟨o451, o451h, o451H⟩ := bindS H
    refine Wl_cutN 7 (fun ρ w' => ∃ (x450 : Bool), (x450) = o451 ∧ Agree ρ [(1, pt b8 0), (3, .slice A369 t367.length c370), (72, .bool x450)] ∧ Ext w w' ∧ St w' M373 F [Nst rw_api_Event 32 (.slice A369 t367.length c370) t367, Blk b8 (.cells #[.slice A343 x342.length c344, .slice A347 x346.length c348] 73 (0, 0)), Row r_event_task 70 (.slice A343 x342.length c344) x342, Row r_api_Event 32 (.slice A347 x346.length c348) x346]) ?_ ?_
    · have H := o451h
      rcases iteS H with ⟨hb449, H⟩ | ⟨hb449, H⟩
      · skip
        refine W_no (skF hb449) rfl (W_no (skF hb449) rfl (W_no (skF hb449) rfl (W_no (skF hb449) rfl (W_no (skF hb449) rfl (W_no (skF hb449) rfl (W_v (.bool true) (x_pick (k := true) (congrArg Value.bool hb449) rfl) rfl (Wl_nil ?_)))))))
        exact ⟨true, Option.some.inj H, ⟨rfl, rfl, rfl, trivial⟩, E, S.pick [0, 1, 2, 3] (by decide)⟩
      · skip
        refine W_yes (congrArg some hb449) (W_v (.slice A369 t367.length c370) (x_move rfl) rfl (W_yes (congrArg some hb449) ?_))
        obtain ⟨⟨p452, p453⟩, H⟩ := chkS H
        obtain ⟨b454, o455, cs456, _, _, ee461, hb457, vs458, hR459, hc460⟩ := SlW.at' (S.nst_read 0 rfl) p452 p453
        obtain ⟨v465, hs464, rfl⟩ := hR459
        obtain ⟨A462, c463, rfl, _⟩ := hs464.form
        refine W_v (.pointer (some ⟨b454, o455 + (4 : Int).toNat * 7, none⟩)) (x_indexAddr Try.underlying22 ty32 (slA ee461) rfl p452 p453) rfl (W_yes (congrArg some hb449) (W_v (.pointer (some ⟨b454, o455 + (4 : Int).toNat * 7 + 3, none⟩)) (x_fieldAddr (o := o455 + (4 : Int).toNat * 7) (off := 3) Try.underlying32 rfl ty30 rfl rfl) rfl (W_yes (congrArg some hb449) (W_v (.pointer (some ⟨b454, o455 + (4 : Int).toNat * 7 + 3 + 1, none⟩)) (x_fieldAddr (o := o455 + (4 : Int).toNat * 7 + 3) (off := 1) Try.underlying30 rfl ty4 rfl rfl) rfl (W_yes (congrArg some hb449) (W_v (.bool ((rd t367 (4 : Int)).Answer.Found)) (x_load (Hp.of_get hb457) ty4 rfl (hc460 4 _ rfl)) rfl (W_yes (congrArg some hb449) (W_v (.bool (!((rd t367 (4 : Int)).Answer.Found))) (x_not (b := ((rd t367 (4 : Int)).Answer.Found)) rfl) rfl (W_v (.bool (!((rd t367 (4 : Int)).Answer.Found))) (x_pick (k := false) (congrArg Value.bool hb449) rfl) rfl (Wl_nil ?_))))))))))
        exact ⟨(!((rd t367 (4 : Int)).Answer.Found)), Option.some.inj H, ⟨rfl, rfl, rfl, trivial⟩, E, S.pick [0, 1, 2, 3] (by decide)⟩
    as_aux_lemma =>
    rintro ρ w466 ⟨x450, rfl, hρ, E, S⟩
    rw [agree_eta hρ]
    have H := o451H
    refine W_v (.bool x450) (x_move rfl) rfl ?_
    obtain ⟨o497, o497h, o497H⟩ := bindS H
    refine Wl_cutN 6 (fun ρ w' => ∃ (x496 : Bool), (x496) = o497 ∧ Agree ρ [(1, pt b8 0), (3, .slice A369 t367.length c370), (79, .bool x496)] ∧ Ext w w' ∧ St w' M373 F [Nst rw_api_Event 32 (.slice A369 t367.length c370) t367, Blk b8 (.cells #[.slice A343 x342.length c344, .slice A347 x346.length c348] 73 (0, 0)), Row r_event_task 70 (.slice A343 x342.length c344) x342, Row r_api_Event 32 (.slice A347 x346.length c348) x346]) ?_ ?_
    · have H := o497h
      rcases iteS H with ⟨hb495, H⟩ | ⟨hb495, H⟩
      · skip
        refine W_no (skF hb495) rfl (W_no (skF hb495) rfl (W_no (skF hb495) rfl (W_no (skF hb495) rfl (W_no (skF hb495) rfl (W_v (.bool true) (x_pick (k := true) (congrArg Value.bool hb495) rfl) rfl (Wl_nil ?_))))))
        exact ⟨true, Option.some.inj H, ⟨rfl, rfl, rfl, trivial⟩, E, S.pick [0, 1, 2, 3] (by decide)⟩
      · skip
        refine W_yes (congrArg some hb495) (W_v (.slice A369 t367.length c370) (x_move rfl) rfl (W_yes (congrArg some hb495) ?_))
        obtain ⟨⟨p498, p499⟩, H⟩ := chkS H
        obtain ⟨b500, o501, cs502, _, _, ee507, hb503, vs504, hR505, hc506⟩ := SlW.at' (S.nst_read 0 rfl) p498 p499
        obtain ⟨v511, hs510, rfl⟩ := hR505
        obtain ⟨A508, c509, rfl, _⟩ := hs510.form
        refine W_v (.pointer (some ⟨b500, o501 + (2 : Int).toNat * 7, none⟩)) (x_indexAddr Try.underlying22 ty32 (slA ee507) rfl p498 p499) rfl (W_yes (congrArg some hb495) (W_v (.pointer (some ⟨b500, o501 + (2 : Int).toNat * 7 + 1, none⟩)) (x_fieldAddr (o := o501 + (2 : Int).toNat * 7) (off := 1) Try.underlying32 rfl ty3 rfl rfl) rfl (W_yes (congrArg some hb495) (W_v (.int .i64 ((rd t367 (2 : Int)).Task)) (x_load (Hp.of_get hb503) ty3 rfl (hc506 1 _ rfl)) rfl (W_yes (congrArg some hb495) (W_v (.bool ((rd t367 (2 : Int)).Task != (1 : Int))) (x_ibin rfl rfl rfl rfl) rfl (W_v (.bool ((rd t367 (2 : Int)).Task != (1 : Int))) (x_pick (k := false) (congrArg Value.bool hb495) rfl) rfl (Wl_nil ?_))))))))
        exact ⟨((rd t367 (2 : Int)).Task != (1 : Int)), Option.some.inj H, ⟨rfl, rfl, rfl, trivial⟩, E, S.pick [0, 1, 2, 3] (by decide)⟩
    as_aux_lemma =>
    rintro ρ w512 ⟨x496, rfl, hρ, E, S⟩
    rw [agree_eta hρ]
    have H := o497H
    refine W_v (.bool x496) (x_move rfl) rfl ?_
    obtain ⟨o543, o543h, o543H⟩ := bindS H
    refine Wl_cutN 6 (fun ρ w' => ∃ (x542 : Bool), (x542) = o543 ∧ Agree ρ [(1, pt b8 0), (3, .slice A369 t367.length c370), (86, .bool x542)] ∧ Ext w w' ∧ St w' M373 F [Nst rw_api_Event 32 (.slice A369 t367.length c370) t367, Blk b8 (.cells #[.slice A343 x342.length c344, .slice A347 x346.length c348] 73 (0, 0)), Row r_event_task 70 (.slice A343 x342.length c344) x342, Row r_api_Event 32 (.slice A347 x346.length c348) x346]) ?_ ?_
    · have H := o543h
      rcases iteS H with ⟨hb541, H⟩ | ⟨hb541, H⟩
      · skip
        refine W_no (skF hb541) rfl (W_no (skF hb541) rfl (W_no (skF hb541) rfl (W_no (skF hb541) rfl (W_no (skF hb541) rfl (W_v (.bool true) (x_pick (k := true) (congrArg Value.bool hb541) rfl) rfl (Wl_nil ?_))))))
        exact ⟨true, Option.some.inj H, ⟨rfl, rfl, rfl, trivial⟩, E, S.pick [0, 1, 2, 3] (by decide)⟩
      · skip
        refine W_yes (congrArg some hb541) (W_v (.slice A369 t367.length c370) (x_move rfl) rfl (W_yes (congrArg some hb541) ?_))
        obtain ⟨⟨p544, p545⟩, H⟩ := chkS H
        obtain ⟨b546, o547, cs548, _, _, ee553, hb549, vs550, hR551, hc552⟩ := SlW.at' (S.nst_read 0 rfl) p544 p545
        obtain ⟨v557, hs556, rfl⟩ := hR551
        obtain ⟨A554, c555, rfl, _⟩ := hs556.form
        refine W_v (.pointer (some ⟨b546, o547 + (2 : Int).toNat * 7, none⟩)) (x_indexAddr Try.underlying22 ty32 (slA ee553) rfl p544 p545) rfl (W_yes (congrArg some hb541) (W_v (.pointer (some ⟨b546, o547 + (2 : Int).toNat * 7 + 2, none⟩)) (x_fieldAddr (o := o547 + (2 : Int).toNat * 7) (off := 2) Try.underlying32 rfl ty3 rfl rfl) rfl (W_yes (congrArg some hb541) (W_v (.int .i64 ((rd t367 (2 : Int)).Call)) (x_load (Hp.of_get hb549) ty3 rfl (hc552 2 _ rfl)) rfl (W_yes (congrArg some hb541) (W_v (.bool ((rd t367 (2 : Int)).Call != (0 : Int))) (x_ibin rfl rfl rfl rfl) rfl (W_v (.bool ((rd t367 (2 : Int)).Call != (0 : Int))) (x_pick (k := false) (congrArg Value.bool hb541) rfl) rfl (Wl_nil ?_))))))))
        exact ⟨((rd t367 (2 : Int)).Call != (0 : Int)), Option.some.inj H, ⟨rfl, rfl, rfl, trivial⟩, E, S.pick [0, 1, 2, 3] (by decide)⟩
    as_aux_lemma =>
    rintro ρ w558 ⟨x542, rfl, hρ, E, S⟩
    rw [agree_eta hρ]
    have H := o543H
    refine W_v (.bool x542) (x_move rfl) rfl ?_
    obtain ⟨o591, o591h, o591H⟩ := bindS H
    refine Wl_cutN 5 (fun ρ w' => ∃ (x582 : Bool) (x583 : List event_task) (x587 : List api_Event) (A584 : Option Addr) (c585 : Nat) (A588 : Option Addr) (c589 : Nat) (Mj : Hp), (x582, x583, x587) = o591 ∧ Agree ρ [(1, pt b8 0), (3, .slice A369 t367.length c370), (92, .bool x582)] ∧ M373.le Mj ∧ Ext w w' ∧ St w' Mj F [Row r_api_Event 32 (.slice A588 x587.length c589) x587, Row r_event_task 70 (.slice A584 x583.length c585) x583, Nst rw_api_Event 32 (.slice A369 t367.length c370) t367, Blk b8 (.cells #[.slice A584 x583.length c585, .slice A588 x587.length c589] 73 (0, 0))]) ?_ ?_
    · have H := o591h
      have LE592 := Hp.le_refl M373
      rcases iteS H with ⟨hb581, H⟩ | ⟨hb581, H⟩
      · skip
        refine W_no (skF hb581) rfl (W_no (skF hb581) rfl (W_no (skF hb581) rfl (W_no (skF hb581) rfl (W_v (.bool true) (x_pick (k := true) (congrArg Value.bool hb581) rfl) rfl (Wl_nil ?_)))))
        exact ⟨true, x342, x346, A343, c344, A347, c348, M373, Option.some.inj H, ⟨rfl, rfl, rfl, trivial⟩, (Hp.le_refl M373), E, S.pick [3, 2, 0, 1] (by decide)⟩
      · skip
        refine W_yes (congrArg some hb581) (W_v (pt b8 0) (x_move rfl) rfl (W_yes (congrArg some hb581) (W_v (.agg #[.int .i64 0, .bool false, .string (bs ([] : Str)), .slice none 0 0]) (x_build2 (pl := [(0, 1), (1, 1), (2, 1), (3, 1)]) #[.int .i64 0, .bool false, .string (bs ([] : Str)), .slice none 0 0] Try.underlying30 ty30 (by as_aux_lemma => kernel_rfl) rfl (by as_aux_lemma => kernel_rfl)) rfl (W_yes (congrArg some hb581) ?_))))
        obtain ⟨t593, ht594, H⟩ := bindS H
        replace S : St w558 M373 F [_, _, _, _] := S.pick [1, 2, 3, 0] (by decide)
        refine W_call fn32 (event_Recorder_Return_POO.con k M373 A343 c344 A347 c348 (⟨x342, x346⟩ : event_Recorder) (1 : Int) none 0 (⟨(0 : Int), false, ([] : Str), ([] : (List api_Pair))⟩ : api_Answer) b8 t593 (SlW.nil _ _) ht594) (Γ1 := [_, _, _]) (Γ2 := [_]) S rfl rfl ?_
        rintro _ w601 M602 Γ' hM603 E' S ⟨A595, c596, A598, c599, rfl, rfl⟩
        replace HM := Hp.le_trans HM hM603
        replace hM77 := Hp.le_trans hM77 hM603
        replace hM125 := Hp.le_trans hM125 hM603
        replace hM173 := Hp.le_trans hM173 hM603
        replace hM221 := Hp.le_trans hM221 hM603
        replace hM269 := Hp.le_trans hM269 hM603
        replace hM317 := Hp.le_trans hM317 hM603
        replace hM365 := Hp.le_trans hM365 hM603
        replace LE592 := Hp.le_trans LE592 hM603
        replace E := E.trans E'
        replace S : St w601 M602 F [_, _, _, _] := S
        refine W_yes (congrArg some hb581) (W_v (.bool (t593.1 != (0 : Int))) (x_ibin rfl rfl rfl rfl) rfl (W_v (.bool (t593.1 != (0 : Int))) (x_pick (k := false) (congrArg Value.bool hb581) rfl) rfl (Wl_nil ?_)))
        exact ⟨(t593.1 != (0 : Int)), t593.2.tasks, t593.2.l, A595, c596, A598, c599, M602, Option.some.inj H, ⟨rfl, rfl, rfl, trivial⟩, LE592, E, S.pick [2, 1, 3, 0] (by decide)⟩
    as_aux_lemma =>
    rintro ρ w604 ⟨x582, x583, x587, A584, c585, A588, c589, M605, rfl, hρ, hM606, E, S⟩
    rw [agree_eta hρ]
    replace HM := Hp.le_trans HM hM606
    replace hM77 := Hp.le_trans hM77 hM606
    replace hM125 := Hp.le_trans hM125 hM606
    replace hM173 := Hp.le_trans hM173 hM606
    replace hM221 := Hp.le_trans hM221 hM606
    replace hM269 := Hp.le_trans hM269 hM606
    replace hM317 := Hp.le_trans hM317 hM606
    replace hM365 := Hp.le_trans hM365 hM606
    have H := o591H
    refine W_v (.bool x582) (x_move rfl) rfl ?_
    obtain ⟨o639, o639h, o639H⟩ := bindS H
    refine Wl_cutN 4 (fun ρ w' => ∃ (x630 : Bool) (x631 : List event_task) (x635 : List api_Event) (A632 : Option Addr) (c633 : Nat) (A636 : Option Addr) (c637 : Nat) (Mj : Hp), (x630, x631, x635) = o639 ∧ Agree ρ [(1, pt b8 0), (3, .slice A369 t367.length c370), (97, .bool x630)] ∧ M605.le Mj ∧ Ext w w' ∧ St w' Mj F [Row r_api_Event 32 (.slice A636 x635.length c637) x635, Row r_event_task 70 (.slice A632 x631.length c633) x631, Nst rw_api_Event 32 (.slice A369 t367.length c370) t367, Blk b8 (.cells #[.slice A632 x631.length c633, .slice A636 x635.length c637] 73 (0, 0))]) ?_ ?_
    · have H := o639h
      have LE640 := Hp.le_refl M605
      rcases iteS H with ⟨hb629, H⟩ | ⟨hb629, H⟩
      · skip
        refine W_no (skF hb629) rfl (W_no (skF hb629) rfl (W_no (skF hb629) rfl (W_v (.bool true) (x_pick (k := true) (congrArg Value.bool hb629) rfl) rfl (Wl_nil ?_))))
        exact ⟨true, x583, x587, A584, c585, A588, c589, M605, Option.some.inj H, ⟨rfl, rfl, rfl, trivial⟩, (Hp.le_refl M605), E, S.pick [0, 1, 2, 3] (by decide)⟩
      · skip
        refine W_yes (congrArg some hb629) (W_v (pt b8 0) (x_move rfl) rfl (W_yes (congrArg some hb629) ?_))
        obtain ⟨t641, ht642, H⟩ := bindS H
        replace S : St w604 M605 F [_, _, _, _] := S.pick [3, 1, 0, 2] (by decide)
        refine W_call fn30 (event_Recorder_Invoke_POO.con k M605 A584 c585 A588 c589 (⟨x583, x587⟩ : event_Recorder) (0 : Int) b8 t641  ht642) (Γ1 := [_, _, _]) (Γ2 := [_]) S rfl rfl ?_
        rintro _ w649 M650 Γ' hM651 E' S ⟨A643, c644, A646, c647, rfl, rfl⟩
        replace HM := Hp.le_trans HM hM651
        replace hM77 := Hp.le_trans hM77 hM651
        replace hM125 := Hp.le_trans hM125 hM651
        replace hM173 := Hp.le_trans hM173 hM651
        replace hM221 := Hp.le_trans hM221 hM651
        replace hM269 := Hp.le_trans hM269 hM651
        replace hM317 := Hp.le_trans hM317 hM651
        replace hM365 := Hp.le_trans hM365 hM651
        replace hM606 := Hp.le_trans hM606 hM651
        replace LE640 := Hp.le_trans LE640 hM651
        replace E := E.trans E'
        replace S : St w649 M650 F [_, _, _, _] := S
        refine W_yes (congrArg some hb629) (W_v (.bool (t641.1 != (0 : Int))) (x_ibin rfl rfl rfl rfl) rfl (W_v (.bool (t641.1 != (0 : Int))) (x_pick (k := false) (congrArg Value.bool hb629) rfl) rfl (Wl_nil ?_)))
        exact ⟨(t641.1 != (0 : Int)), t641.2.tasks, t641.2.l, A643, c644, A646, c647, M650, Option.some.inj H, ⟨rfl, rfl, rfl, trivial⟩, LE640, E, S.pick [2, 1, 3, 0] (by decide)⟩
    as_aux_lemma =>
    rintro ρ w652 ⟨x630, x631, x635, A632, c633, A636, c637, M653, rfl, hρ, hM654, E, S⟩
    rw [agree_eta hρ]
    replace HM := Hp.le_trans HM hM654
    replace hM77 := Hp.le_trans hM77 hM654
    replace hM125 := Hp.le_trans hM125 hM654
    replace hM173 := Hp.le_trans hM173 hM654
    replace hM221 := Hp.le_trans hM221 hM654
    replace hM269 := Hp.le_trans hM269 hM654
    replace hM317 := Hp.le_trans hM317 hM654
    replace hM365 := Hp.le_trans hM365 hM654
    replace hM606 := Hp.le_trans hM606 hM654
    have H := o639H
    refine Wl_nil (tn ?_)
    rcases iteS H with ⟨hb655, H⟩ | ⟨hb655, H⟩
    · refine Wp_cond_true (congrArg Value.bool hb655) ?_
      refine Wp_seq (Wp_region_lit (W_v (.bool false) (x_assign rfl) rfl (Wl_nil (tn ?_))))
      refine Wp_ret ?_
      refine tr (?_)
      obtain rfl := Option.some.inj H
      exact ⟨_, _, _, fun w1 e1 => run_resR (vs := [.bool false]) (FA.cons (rfl) (FA.nil)), HM, E, S.pick [] (by decide), ⟨rfl, rfl⟩⟩
    refine Wp_cond_false (congrArg Value.bool hb655) (Wp_skip (tn (Wp_seq (Wp_region_lit (W_v (pt b8 0) (x_move rfl) rfl ?_)))))
    obtain ⟨t656, ht657, H⟩ := bindS H
    replace S : St w652 M653 F [_, _, _, _] := S.pick [3, 1, 0, 2] (by decide)
    refine W_call fn19 (event_Recorder_Events_POO.con k M653 A632 c633 A636 c637 (⟨x631, x635⟩ : event_Recorder) b8 t656  ht657) (Γ1 := [_, _, _]) (Γ2 := [_]) S rfl rfl ?_
    rintro _ w661 M662 Γ' hM663 E' S ⟨A658, c659, rfl, rfl⟩
    replace HM := Hp.le_trans HM hM663
    replace hM77 := Hp.le_trans hM77 hM663
    replace hM125 := Hp.le_trans hM125 hM663
    replace hM173 := Hp.le_trans hM173 hM663
    replace hM221 := Hp.le_trans hM221 hM663
    replace hM269 := Hp.le_trans hM269 hM663
    replace hM317 := Hp.le_trans hM317 hM663
    replace hM365 := Hp.le_trans hM365 hM663
    replace hM606 := Hp.le_trans hM606 hM663
    replace hM654 := Hp.le_trans hM654 hM663
    replace E := E.trans E'
    replace S : St w661 M662 F [_, _, _, _, _] := S
    refine W_v (.agg #[.int .i64 0, .int .i64 0]) (x_build2 (pl := [(0, 1), (1, 1)]) #[.int .i64 0, .int .i64 0] Try.underlying62 ty62 (by as_aux_lemma => kernel_rfl) rfl (by as_aux_lemma => kernel_rfl)) rfl ?_
    refine W_bslice S #[.int .i64 0, .int .i64 0] Try.underlying55 ty62 rfl rfl #[.int .i64 0, .int .i64 0] (by as_aux_lemma => kernel_rfl) (by as_aux_lemma => kernel_rfl) rfl ?_
    intro b664 w665 E' S
    replace E := E.trans E'
    replace S := S.blk_row (r := r_event_Place) (l := ([(⟨(0 : Int), (0 : Int)⟩ : event_Place)] : List event_Place)) 0 rfl 1 (Nat.le_refl 1) rfl (Cells.cons (vs := [.int .i64 0, .int .i64 0]) (rfl) Cells.nil)
    obtain ⟨M667, hM668, hf669, S⟩ := S.nst_freeze 1 rfl
    replace HM := Hp.le_trans HM hM668
    replace hM77 := Hp.le_trans hM77 hM668
    replace hM125 := Hp.le_trans hM125 hM668
    replace hM173 := Hp.le_trans hM173 hM668
    replace hM221 := Hp.le_trans hM221 hM668
    replace hM269 := Hp.le_trans hM269 hM668
    replace hM317 := Hp.le_trans hM317 hM668
    replace hM365 := Hp.le_trans hM365 hM668
    replace hM606 := Hp.le_trans hM606 hM668
    replace hM654 := Hp.le_trans hM654 hM668
    replace hf669 := SlW.wk (r := r_api_Event) hf669
    obtain ⟨M670, hM671, hf672, S⟩ := S.row_freeze 0 rfl
    replace HM := Hp.le_trans HM hM671
    replace hM77 := Hp.le_trans hM77 hM671
    replace hM125 := Hp.le_trans hM125 hM671
    replace hM173 := Hp.le_trans hM173 hM671
    replace hM221 := Hp.le_trans hM221 hM671
    replace hM269 := Hp.le_trans hM269 hM671
    replace hM317 := Hp.le_trans hM317 hM671
    replace hM365 := Hp.le_trans hM365 hM671
    replace hM606 := Hp.le_trans hM606 hM671
    replace hM654 := Hp.le_trans hM654 hM671
    replace hf669 := SlR.mono hf669 hM671
    obtain ⟨t673, ht674, H⟩ := bindS H
    refine W_call fn24 (event_Without.con k M670 A658 c659 t656 (some ⟨b664, 0, none⟩) 1 ([(⟨(0 : Int), (0 : Int)⟩ : event_Place)] : List event_Place) t673 hf669 hf672 ht674) (Γ1 := []) (Γ2 := [_, _, _, _]) S rfl rfl ?_
    rintro _ w678 M679 Γ' hM680 E' S ⟨A675, c676, rfl, rfl⟩
    replace HM := Hp.le_trans HM hM680
    replace hM77 := Hp.le_trans hM77 hM680
    replace hM125 := Hp.le_trans hM125 hM680
    replace hM173 := Hp.le_trans hM173 hM680
    replace hM221 := Hp.le_trans hM221 hM680
    replace hM269 := Hp.le_trans hM269 hM680
    replace hM317 := Hp.le_trans hM317 hM680
    replace hM365 := Hp.le_trans hM365 hM680
    replace hM606 := Hp.le_trans hM606 hM680
    replace hM654 := Hp.le_trans hM654 hM680
    replace hf669 := SlR.mono hf669 hM680
    replace hf672 := SlR.mono hf672 hM680
    replace E := E.trans E'
    refine W_v (.slice A675 t673.length c676) (x_assign rfl) rfl (Wl_nil (tn ?_))
    as_aux_lemma =>
    refine Wp_seq (Wp_region_lit (W_v (.slice A675 t673.length c676) (x_move rfl) rfl (W_v (.int .i64 (t673.length : Int)) (x_len_slice (n := t673.length) Try.underlying22 rfl) rfl (W_v (.bool ((t673.length : Int) == (4 : Int))) (x_ibin rfl rfl rfl rfl) rfl (W_v (.bool ((t673.length : Int) == (4 : Int))) (x_move rfl) rfl ?_)))))
    obtain ⟨o711, o711h, o711H⟩ := bindS H
    refine Wl_cutN 6 (fun ρ w' => ∃ (x710 : Bool), (x710) = o711 ∧ Agree ρ [(3, .slice A369 t367.length c370), (4, .slice A675 t673.length c676), (112, .bool x710)] ∧ Ext w w' ∧ St w' M679 F [Nst rw_api_Event 32 (.slice A675 t673.length c676) t673, Nst rw_api_Event 32 (.slice A369 t367.length c370) t367]) ?_ ?_
    · have H := o711h
      rcases iteS H with ⟨hb709, H⟩ | ⟨hb709, H⟩
      · skip
        refine W_yes (congrArg some hb709) (W_v (.slice A675 t673.length c676) (x_move rfl) rfl (W_yes (congrArg some hb709) ?_))
        obtain ⟨⟨p712, p713⟩, H⟩ := chkS H
        obtain ⟨b714, o715, cs716, _, _, ee721, hb717, vs718, hR719, hc720⟩ := SlW.at' (S.nst_read 0 rfl) p712 p713
        obtain ⟨v725, hs724, rfl⟩ := hR719
        obtain ⟨A722, c723, rfl, _⟩ := hs724.form
        refine W_v (.pointer (some ⟨b714, o715 + (0 : Int).toNat * 7, none⟩)) (x_indexAddr Try.underlying22 ty32 (slA ee721) rfl p712 p713) rfl (W_yes (congrArg some hb709) (W_v (.pointer (some ⟨b714, o715 + (0 : Int).toNat * 7 + 1, none⟩)) (x_fieldAddr (o := o715 + (0 : Int).toNat * 7) (off := 1) Try.underlying32 rfl ty3 rfl rfl) rfl (W_yes (congrArg some hb709) (W_v (.int .i64 ((rd t673 (0 : Int)).Task)) (x_load (Hp.of_get hb717) ty3 rfl (hc720 1 _ rfl)) rfl (W_yes (congrArg some hb709) (W_v (.bool ((rd t673 (0 : Int)).Task == (1 : Int))) (x_ibin rfl rfl rfl rfl) rfl (W_v (.bool ((rd t673 (0 : Int)).Task == (1 : Int))) (x_pick (k := true) (congrArg Value.bool hb709) rfl) rfl (Wl_nil ?_))))))))
        exact ⟨((rd t673 (0 : Int)).Task == (1 : Int)), Option.some.inj H, ⟨rfl, rfl, rfl, trivial⟩, E, S.pick [0, 4] (by decide)⟩
      · skip
        refine W_no (skT hb709) rfl (W_no (skT hb709) rfl (W_no (skT hb709) rfl (W_no (skT hb709) rfl (W_no (skT hb709) rfl (W_v (.bool false) (x_pick (k := false) (congrArg Value.bool hb709) rfl) rfl (Wl_nil ?_))))))
        exact ⟨false, Option.some.inj H, ⟨rfl, rfl, rfl, trivial⟩, E, S.pick [0, 4] (by decide)⟩
    as_aux_lemma =>
    rintro ρ w726 ⟨x710, rfl, hρ, E, S⟩
    rw [agree_eta hρ]
    have H := o711H
    refine W_v (.bool x710) (x_move rfl) rfl ?_
    obtain ⟨o757, o757h, o757H⟩ := bindS H
    refine Wl_cutN 6 (fun ρ w' => ∃ (x756 : Bool), (x756) = o757 ∧ Agree ρ [(3, .slice A369 t367.length c370), (4, .slice A675 t673.length c676), (119, .bool x756)] ∧ Ext w w' ∧ St w' M679 F [Nst rw_api_Event 32 (.slice A675 t673.length c676) t673, Nst rw_api_Event 32 (.slice A369 t367.length c370) t367]) ?_ ?_
    · have H := o757h
      rcases iteS H with ⟨hb755, H⟩ | ⟨hb755, H⟩
      · skip
        refine W_yes (congrArg some hb755) (W_v (.slice A675 t673.length c676) (x_move rfl) rfl (W_yes (congrArg some hb755) ?_))
        obtain ⟨⟨p758, p759⟩, H⟩ := chkS H
        obtain ⟨b760, o761, cs762, _, _, ee767, hb763, vs764, hR765, hc766⟩ := SlW.at' (S.nst_read 0 rfl) p758 p759
        obtain ⟨v771, hs770, rfl⟩ := hR765
        obtain ⟨A768, c769, rfl, _⟩ := hs770.form
        refine W_v (.pointer (some ⟨b760, o761 + (3 : Int).toNat * 7, none⟩)) (x_indexAddr Try.underlying22 ty32 (slA ee767) rfl p758 p759) rfl (W_yes (congrArg some hb755) (W_v (.pointer (some ⟨b760, o761 + (3 : Int).toNat * 7 + 1, none⟩)) (x_fieldAddr (o := o761 + (3 : Int).toNat * 7) (off := 1) Try.underlying32 rfl ty3 rfl rfl) rfl (W_yes (congrArg some hb755) (W_v (.int .i64 ((rd t673 (3 : Int)).Task)) (x_load (Hp.of_get hb763) ty3 rfl (hc766 1 _ rfl)) rfl (W_yes (congrArg some hb755) (W_v (.bool ((rd t673 (3 : Int)).Task == (0 : Int))) (x_ibin rfl rfl rfl rfl) rfl (W_v (.bool ((rd t673 (3 : Int)).Task == (0 : Int))) (x_pick (k := true) (congrArg Value.bool hb755) rfl) rfl (Wl_nil ?_))))))))
        exact ⟨((rd t673 (3 : Int)).Task == (0 : Int)), Option.some.inj H, ⟨rfl, rfl, rfl, trivial⟩, E, S.pick [0, 1] (by decide)⟩
      · skip
        refine W_no (skT hb755) rfl (W_no (skT hb755) rfl (W_no (skT hb755) rfl (W_no (skT hb755) rfl (W_no (skT hb755) rfl (W_v (.bool false) (x_pick (k := false) (congrArg Value.bool hb755) rfl) rfl (Wl_nil ?_))))))
        exact ⟨false, Option.some.inj H, ⟨rfl, rfl, rfl, trivial⟩, E, S.pick [0, 1] (by decide)⟩
    as_aux_lemma =>
    rintro ρ w772 ⟨x756, rfl, hρ, E, S⟩
    rw [agree_eta hρ]
    have H := o757H
    refine W_v (.bool x756) (x_move rfl) rfl ?_
    obtain ⟨o803, o803h, o803H⟩ := bindS H
    refine Wl_cutN 6 (fun ρ w' => ∃ (x802 : Bool), (x802) = o803 ∧ Agree ρ [(3, .slice A369 t367.length c370), (4, .slice A675 t673.length c676), (126, .bool x802)] ∧ Ext w w' ∧ St w' M679 F [Nst rw_api_Event 32 (.slice A675 t673.length c676) t673, Nst rw_api_Event 32 (.slice A369 t367.length c370) t367]) ?_ ?_
    · have H := o803h
      rcases iteS H with ⟨hb801, H⟩ | ⟨hb801, H⟩
      · skip
        refine W_yes (congrArg some hb801) (W_v (.slice A675 t673.length c676) (x_move rfl) rfl (W_yes (congrArg some hb801) ?_))
        obtain ⟨⟨p804, p805⟩, H⟩ := chkS H
        obtain ⟨b806, o807, cs808, _, _, ee813, hb809, vs810, hR811, hc812⟩ := SlW.at' (S.nst_read 0 rfl) p804 p805
        obtain ⟨v817, hs816, rfl⟩ := hR811
        obtain ⟨A814, c815, rfl, _⟩ := hs816.form
        refine W_v (.pointer (some ⟨b806, o807 + (3 : Int).toNat * 7, none⟩)) (x_indexAddr Try.underlying22 ty32 (slA ee813) rfl p804 p805) rfl (W_yes (congrArg some hb801) (W_v (.pointer (some ⟨b806, o807 + (3 : Int).toNat * 7 + 2, none⟩)) (x_fieldAddr (o := o807 + (3 : Int).toNat * 7) (off := 2) Try.underlying32 rfl ty3 rfl rfl) rfl (W_yes (congrArg some hb801) (W_v (.int .i64 ((rd t673 (3 : Int)).Call)) (x_load (Hp.of_get hb809) ty3 rfl (hc812 2 _ rfl)) rfl (W_yes (congrArg some hb801) (W_v (.bool ((rd t673 (3 : Int)).Call == (0 : Int))) (x_ibin rfl rfl rfl rfl) rfl (W_v (.bool ((rd t673 (3 : Int)).Call == (0 : Int))) (x_pick (k := true) (congrArg Value.bool hb801) rfl) rfl (Wl_nil ?_))))))))
        exact ⟨((rd t673 (3 : Int)).Call == (0 : Int)), Option.some.inj H, ⟨rfl, rfl, rfl, trivial⟩, E, S.pick [0, 1] (by decide)⟩
      · skip
        refine W_no (skT hb801) rfl (W_no (skT hb801) rfl (W_no (skT hb801) rfl (W_no (skT hb801) rfl (W_no (skT hb801) rfl (W_v (.bool false) (x_pick (k := false) (congrArg Value.bool hb801) rfl) rfl (Wl_nil ?_))))))
        exact ⟨false, Option.some.inj H, ⟨rfl, rfl, rfl, trivial⟩, E, S.pick [0, 1] (by decide)⟩
    as_aux_lemma =>
    rintro ρ w818 ⟨x802, rfl, hρ, E, S⟩
    rw [agree_eta hρ]
    have H := o803H
    refine W_v (.bool x802) (x_move rfl) rfl ?_
    obtain ⟨o849, o849h, o849H⟩ := bindS H
    refine Wl_cutN 6 (fun ρ w' => ∃ (x848 : Bool), (x848) = o849 ∧ Agree ρ [(3, .slice A369 t367.length c370), (4, .slice A675 t673.length c676), (133, .bool x848)] ∧ Ext w w' ∧ St w' M679 F [Nst rw_api_Event 32 (.slice A675 t673.length c676) t673, Nst rw_api_Event 32 (.slice A369 t367.length c370) t367]) ?_ ?_
    · have H := o849h
      rcases iteS H with ⟨hb847, H⟩ | ⟨hb847, H⟩
      · skip
        refine W_yes (congrArg some hb847) (W_v (.slice A675 t673.length c676) (x_move rfl) rfl (W_yes (congrArg some hb847) ?_))
        obtain ⟨⟨p850, p851⟩, H⟩ := chkS H
        obtain ⟨b852, o853, cs854, _, _, ee859, hb855, vs856, hR857, hc858⟩ := SlW.at' (S.nst_read 0 rfl) p850 p851
        obtain ⟨v863, hs862, rfl⟩ := hR857
        obtain ⟨A860, c861, rfl, _⟩ := hs862.form
        refine W_v (.pointer (some ⟨b852, o853 + (3 : Int).toNat * 7, none⟩)) (x_indexAddr Try.underlying22 ty32 (slA ee859) rfl p850 p851) rfl (W_yes (congrArg some hb847) (W_v (.pointer (some ⟨b852, o853 + (3 : Int).toNat * 7, none⟩)) (x_fieldAddr (o := o853 + (3 : Int).toNat * 7) (off := 0) Try.underlying32 rfl ty5 rfl rfl) rfl (W_yes (congrArg some hb847) (W_v (.int .u8 ((rd t673 (3 : Int)).What)) (x_load (Hp.of_get hb855) ty5 rfl (hc858 0 _ rfl)) rfl (W_yes (congrArg some hb847) (W_v (.bool ((rd t673 (3 : Int)).What == (1 : Int))) (x_ibin rfl rfl rfl rfl) rfl (W_v (.bool ((rd t673 (3 : Int)).What == (1 : Int))) (x_pick (k := true) (congrArg Value.bool hb847) rfl) rfl (Wl_nil ?_))))))))
        exact ⟨((rd t673 (3 : Int)).What == (1 : Int)), Option.some.inj H, ⟨rfl, rfl, rfl, trivial⟩, E, S.pick [0, 1] (by decide)⟩
      · skip
        refine W_no (skT hb847) rfl (W_no (skT hb847) rfl (W_no (skT hb847) rfl (W_no (skT hb847) rfl (W_no (skT hb847) rfl (W_v (.bool false) (x_pick (k := false) (congrArg Value.bool hb847) rfl) rfl (Wl_nil ?_))))))
        exact ⟨false, Option.some.inj H, ⟨rfl, rfl, rfl, trivial⟩, E, S.pick [0, 1] (by decide)⟩
    as_aux_lemma =>
    rintro ρ w864 ⟨x848, rfl, hρ, E, S⟩
    rw [agree_eta hρ]
    have H := o849H
    refine W_v (.bool x848) (x_move rfl) rfl ?_
    obtain ⟨o873, o873h, o873H⟩ := bindS H
    refine Wl_cutN 3 (fun ρ w' => ∃ (x872 : Bool), (x872) = o873 ∧ Agree ρ [(3, .slice A369 t367.length c370), (137, .bool x872)] ∧ Ext w w' ∧ St w' M679 F [Nst rw_api_Event 32 (.slice A369 t367.length c370) t367]) ?_ ?_
    · have H := o873h
      rcases iteS H with ⟨hb871, H⟩ | ⟨hb871, H⟩
      · skip
        refine W_yes (congrArg some hb871) (W_v (.slice A675 t673.length c676) (x_move rfl) rfl (W_yes (congrArg some hb871) ?_))
        obtain ⟨t874, ht875, H⟩ := bindS H
        refine W_callN 1 fn12 (fun h9 hs9 hd9 => event_Legal.con k _ (2 : Int) A675 c676 t673 t874 (SlW.wk (r := r_api_Event) (Sats.nst hs9 hd9 0 rfl)) ht875) S rfl rfl (by rintro _ _ _ ⟨_, rfl⟩; exact flat_nil) ?_
        rintro _ w876 _ Γ' E' S ⟨rfl, rfl⟩
        replace E := E.trans E'
        refine W_v (.bool t874) (x_pick (k := true) (congrArg Value.bool hb871) rfl) rfl (Wl_nil ?_)
        exact ⟨t874, Option.some.inj H, ⟨rfl, rfl, trivial⟩, E, S.pick [1] (by decide)⟩
      · skip
        refine W_no (skT hb871) rfl (W_no (skT hb871) rfl (W_v (.bool false) (x_pick (k := false) (congrArg Value.bool hb871) rfl) rfl (Wl_nil ?_)))
        exact ⟨false, Option.some.inj H, ⟨rfl, rfl, trivial⟩, E, S.pick [1] (by decide)⟩
    as_aux_lemma =>
    rintro ρ w877 ⟨x872, rfl, hρ, E, S⟩
    rw [agree_eta hρ]
    have H := o873H
    refine W_v (.bool x872) (x_move rfl) rfl ?_
    obtain ⟨o902, o902h, o902H⟩ := bindS H
    refine Wl_cutN 5 (fun ρ w' => ∃ (x901 : Bool) (Mj : Hp), (x901) = o902 ∧ Agree ρ [(143, .bool x901)] ∧ M679.le Mj ∧ Ext w w' ∧ St w' Mj F []) ?_ ?_
    · as_aux_lemma =>
        have H := o902h
        have LE903 := Hp.le_refl M679
        rcases iteS H with ⟨hb900, H⟩ | ⟨hb900, H⟩
        · skip
          refine W_yes (congrArg some hb900) (W_v (.slice A369 t367.length c370) (x_move rfl) rfl (W_yes (congrArg some hb900) ?_))
          obtain ⟨M904, hM905, hf906, S⟩ := S.nst_freeze 0 rfl
          replace HM := Hp.le_trans HM hM905
          replace hM77 := Hp.le_trans hM77 hM905
          replace hM125 := Hp.le_trans hM125 hM905
          replace hM173 := Hp.le_trans hM173 hM905
          replace hM221 := Hp.le_trans hM221 hM905
          replace hM269 := Hp.le_trans hM269 hM905
          replace hM317 := Hp.le_trans hM317 hM905
          replace hM365 := Hp.le_trans hM365 hM905
          replace hM606 := Hp.le_trans hM606 hM905
          replace hM654 := Hp.le_trans hM654 hM905
          replace LE903 := Hp.le_trans LE903 hM905
          replace hf669 := SlR.mono hf669 hM905
          replace hf672 := SlR.mono hf672 hM905
          replace hf906 := SlW.wk (r := r_api_Event) hf906
          obtain ⟨t907, ht908, H⟩ := bindS H
          refine W_call fn23 (event_Bare.con k M904 A369 c370 t367 t907 hf906 ht908) (Γ1 := []) (Γ2 := []) S rfl rfl ?_
          rintro _ w912 M913 Γ' hM914 E' S ⟨A909, c910, rfl, rfl⟩
          replace HM := Hp.le_trans HM hM914
          replace hM77 := Hp.le_trans hM77 hM914
          replace hM125 := Hp.le_trans hM125 hM914
          replace hM173 := Hp.le_trans hM173 hM914
          replace hM221 := Hp.le_trans hM221 hM914
          replace hM269 := Hp.le_trans hM269 hM914
          replace hM317 := Hp.le_trans hM317 hM914
          replace hM365 := Hp.le_trans hM365 hM914
          replace hM606 := Hp.le_trans hM606 hM914
          replace hM654 := Hp.le_trans hM654 hM914
          replace LE903 := Hp.le_trans LE903 hM914
          replace hf669 := SlR.mono hf669 hM914
          replace hf672 := SlR.mono hf672 hM914
          replace hf906 := SlR.mono hf906 hM914
          replace E := E.trans E'
          refine W_yes (congrArg some hb900) (W_v (.int .i64 (t907.length : Int)) (x_len_slice (n := t907.length) Try.underlying22 rfl) rfl (W_yes (congrArg some hb900) (W_v (.bool ((t907.length : Int) == (3 : Int))) (x_ibin rfl rfl rfl rfl) rfl (W_v (.bool ((t907.length : Int) == (3 : Int))) (x_pick (k := true) (congrArg Value.bool hb900) rfl) rfl (Wl_nil ?_)))))
          exact ⟨((t907.length : Int) == (3 : Int)), M913, Option.some.inj H, ⟨rfl, trivial⟩, LE903, E, S.pick [] (by decide)⟩
        · skip
          refine W_no (skT hb900) rfl (W_no (skT hb900) rfl (W_no (skT hb900) rfl (W_no (skT hb900) rfl (W_v (.bool false) (x_pick (k := false) (congrArg Value.bool hb900) rfl) rfl (Wl_nil ?_)))))
          exact ⟨false, M679, Option.some.inj H, ⟨rfl, trivial⟩, (Hp.le_refl M679), E, S.pick [] (by decide)⟩
    rintro ρ w915 ⟨x901, M916, rfl, hρ, hM917, E, S⟩
    rw [agree_eta hρ]
    replace HM := Hp.le_trans HM hM917
    replace hM77 := Hp.le_trans hM77 hM917
    replace hM125 := Hp.le_trans hM125 hM917
    replace hM173 := Hp.le_trans hM173 hM917
    replace hM221 := Hp.le_trans hM221 hM917
    replace hM269 := Hp.le_trans hM269 hM917
    replace hM317 := Hp.le_trans hM317 hM917
    replace hM365 := Hp.le_trans hM365 hM917
    replace hM606 := Hp.le_trans hM606 hM917
    replace hM654 := Hp.le_trans hM654 hM917
    replace hf669 := SlR.mono hf669 hM917
    replace hf672 := SlR.mono hf672 hM917
    have H := o902H
    refine W_v (.bool x901) (x_assign rfl) rfl (Wl_nil (tn ?_))
    refine Wp_ret ?_
    obtain rfl := Option.some.inj H
    exact ⟨_, _, _, fun w1 e1 => run_resR (vs := [.bool x901]) (FA.cons (rfl) (FA.nil)), HM, E, S.pick [] (by decide), ⟨rfl, rfl⟩⟩
def ferrymanlaw06_wide_l0 (a0 : (List api_Event)) : Nat → Int → Int → Option ((Int))
  | 0, _, _ => none
  | k + 1, x125, x126 => (if ((decide (x126 < (a0.length : Int))) && (decide (x125 < (3000 : Int)))) = true then (if 0 ≤ x126 ∧ x126 < (a0.length : Int) then (if 0 ≤ x126 ∧ x126 < (a0.length : Int) then ferrymanlaw06_wide_l0 a0 k (IntKind.i64.wrap ((IntKind.i64.wrap (x125 + (imin (3000 : Int) (((rd a0 x126).Answer.Value).length : Int)))) + (imin (3000 : Int) (((rd a0 x126).Answer.Pairs).length : Int)))) (IntKind.i64.wrap (x126 + (1 : Int))) else none) else none) else some (x125))
set_option maxHeartbeats 2000000 in
theorem ferrymanlaw06_wide_l0.mono {a0 : (List api_Event)} : ∀ {kl : Nat} {x0 x1}, OLe (ferrymanlaw06_wide_l0 a0 kl x0 x1) (ferrymanlaw06_wide_l0 a0 (kl + 1) x0 x1) := by
  intro kl
  induction kl with
  | zero => intros; exact OLe.none
  | succ kl ih =>
    intros
    rw [ferrymanlaw06_wide_l0.eq_2, ferrymanlaw06_wide_l0.eq_2]
    repeat' (first | with_reducible exact OLe.none | with_reducible exact OLe.some | with_reducible refine OLe.ite ?_ ?_ | with_reducible refine OLe.bind ?_ (fun _ => ?_) | exact ih | refine OLe.bind ?_ (fun _ => ?_) | refine OLe.ite ?_ ?_ | refine OLe.elim (fun _ => ?_) (fun _ => ?_) | split)
def ferrymanlaw06_wide (k : Nat) (a0 : (List api_Event)) : Option (Bool) :=
  (Option.bind (ferrymanlaw06_wide_l0 a0 k (a0.length : Int) (0 : Int)) (fun x187 => some (decide (x187 ≥ (3000 : Int)))))
set_option maxHeartbeats 2000000 in
theorem ferrymanlaw06_wide.mono {k : Nat} {a0 : (List api_Event)} : OLe (ferrymanlaw06_wide k a0) (ferrymanlaw06_wide (k + 1) a0) := by
  unfold ferrymanlaw06_wide
  repeat' (first | with_reducible exact OLe.none | with_reducible exact OLe.some | with_reducible refine OLe.ite ?_ ?_ | with_reducible refine OLe.bind ?_ (fun _ => ?_) | with_reducible exact ferrymanlaw06_wide_l0.mono | refine OLe.bind ?_ (fun _ => ?_) | refine OLe.ite ?_ ?_ | refine OLe.elim (fun _ => ?_) (fun _ => ?_) | split)
set_option maxHeartbeats 1000000 in
set_option maxRecDepth 100000 in
theorem ferrymanlaw06_wide.con (k : Nat) (M : Hp) (A0 : Option Addr) (c0 : Nat) (a0 : (List api_Event)) (r : Bool) (hr0 : SlR r_api_Event M (.slice A0 a0.length c0) a0) (h : ferrymanlaw06_wide k a0 = some r) : Con Try.prog 11 #[.slice A0 a0.length c0] M [] (fun v M' Γ' => v = .bool r ∧ Γ' = []) := by
  refine con_of_wp Try.func11 rfl Try.ntmps11 Try.results11 rfl ?_
  intro w F rn S hrn
  have E := Ext.refl w
  have HM := Hp.le_refl M
  have H := h
  unfold ferrymanlaw06_wide at H
  refine Wp_seq (Wp_region_lit (W_v (.bool false) (x_assign rfl) rfl (Wl_nil (tn (Wp_seq (Wp_region_lit (W_v (.slice A0 a0.length c0) (x_move rfl) rfl (W_v (.int .i64 (a0.length : Int)) (x_len_slice (n := a0.length) Try.underlying22 rfl) rfl (W_v (.int .i64 (a0.length : Int)) (x_assign rfl) rfl (Wl_nil (tn (Wp_seq (Wp_seq (Wp_region_lit (W_v (.int .i64 0) (x_assign rfl) rfl ?_)))))))))))))))
  refine Wl_nil (tn ?_)
  obtain ⟨o188, o188h, o188H⟩ := bindS H
  refine Wp_blockJ (fun ρ w' => ∃ (x187 : Int), (x187) = o188 ∧ Agree ρ [(3, .int .i64 x187)] ∧ Ext w w' ∧ St w' M F []) ?_ ?_
  · skip
    refine Wp_loop (fun n ρ w' => ∃ (x125 : Int) (x126 : Int), ferrymanlaw06_wide_l0 a0 n x125 x126 = some o188 ∧ Agree ρ [(0, .slice A0 a0.length c0), (3, .int .i64 x125), (4, .int .i64 x126)] ∧ Ext w w' ∧ St w' M F []) k ?_ ?_
    · skip
      exact ⟨(a0.length : Int), (0 : Int), o188h, ⟨rfl, rfl, rfl, trivial⟩, E, S.pick [] (by decide)⟩
    · intro n
      rintro ρ w189 ⟨x125, x126, H, hρ, E, S⟩
      rw [agree_eta hρ]
      cases n with
      | zero => cases H
      | succ k =>
        rw [ferrymanlaw06_wide_l0.eq_2] at H
        refine Wp_seq (Wp_seq (Wp_region_lit (W_v (.int .i64 x126) (x_move rfl) rfl (W_v (.slice A0 a0.length c0) (x_move rfl) rfl (W_v (.int .i64 (a0.length : Int)) (x_len_slice (n := a0.length) Try.underlying22 rfl) rfl (W_v (.bool (decide (x126 < (a0.length : Int)))) (x_ibin rfl rfl rfl rfl) rfl (W_v (.bool (decide (x126 < (a0.length : Int)))) (x_move rfl) rfl ?_)))))))
        refine Wl_cutN 3 (fun ρ w' => Agree ρ [(0, .slice A0 a0.length c0), (3, .int .i64 x125), (4, .int .i64 x126), (14, .bool ((decide (x126 < (a0.length : Int))) && (decide (x125 < (3000 : Int)))))] ∧ w189 = w') ?_ ?_
        · rcases boolCases (decide (x126 < (a0.length : Int))) with hb190 | hb190
          · skip
            refine W_no (skT hb190) rfl (W_no (skT hb190) rfl (W_v (.bool false) (x_pick (k := false) (congrArg Value.bool hb190) rfl) rfl (Wl_nil ?_)))
            exact ⟨⟨rfl, rfl, rfl, (by first | rfl | (rw [hb190]; rfl) | (simp only [hb190]; rfl)), trivial⟩, rfl⟩
          · skip
            refine W_yes (congrArg some hb190) (W_v (.int .i64 x125) (x_move rfl) rfl (W_yes (congrArg some hb190) (W_v (.bool (decide (x125 < (3000 : Int)))) (x_ibin rfl rfl rfl rfl) rfl (W_v (.bool (decide (x125 < (3000 : Int)))) (x_pick (k := true) (congrArg Value.bool hb190) rfl) rfl (Wl_nil ?_)))))
            exact ⟨⟨rfl, rfl, rfl, (by first | rfl | (rw [hb190]; rfl) | (simp only [hb190]; rfl)), trivial⟩, rfl⟩
        as_aux_lemma =>
        rintro ρ _ ⟨hρ, rfl⟩
        rw [agree_eta hρ]
        refine Wl_nil (tn ?_)
        rcases iteS H with ⟨hb191, H⟩ | ⟨hb191, H⟩
        · refine Wp_cond_true (congrArg Value.bool hb191) ?_
          refine Wp_skip (tn (Wp_seq ?_))
          refine Wp_block ?_
          refine Wp_region_any (S := fun w' => ∃ Mx, M.le Mx ∧ St w' Mx F []) (L := 20) mixed ?_
          intro w220 hw221 E'
          replace S := S.heap hw221
          replace E := E.trans E'
          have D1 : ∃ Mx, Hp.le M Mx ∧ St _ Mx F [] := ⟨_, Hp.le_refl _, S.pick [] (by decide)⟩
          refine Wa_take (i := 0) rfl (by kernel_rfl) rfl rfl (.int .i64 x125) rfl (fun w' h' => x_move rfl) D1 (Wa_take (i := 1) rfl (by kernel_rfl) rfl rfl (.slice A0 a0.length c0) rfl (fun w' h' => x_move rfl) D1 (Wa_take (i := 2) rfl (by kernel_rfl) rfl rfl (.int .i64 x126) rfl (fun w' h' => x_move rfl) D1 ?_))
          obtain ⟨⟨p222, p223⟩, H⟩ := chkS H
          obtain ⟨b224, o225, cs226, _, _, ee231, hb227, vs228, hR229, hc230⟩ := SlW.at' hr0 p222 p223
          obtain ⟨v235, hs234, rfl⟩ := hR229
          obtain ⟨A232, c233, rfl, _⟩ := hs234.form
          have hs234z := hs234
          refine Wa_take (i := 3) rfl (by kernel_rfl) rfl rfl (.pointer (some ⟨b224, o225 + x126.toNat * 7, none⟩)) rfl (fun w' h' => x_indexAddr Try.underlying22 ty32 (slA ee231) rfl p222 p223) D1 (Wa_take (i := 4) rfl (by kernel_rfl) rfl rfl (.pointer (some ⟨b224, o225 + x126.toNat * 7 + 3, none⟩)) rfl (fun w' h' => x_fieldAddr (o := o225 + x126.toNat * 7) (off := 3) Try.underlying32 rfl ty30 rfl rfl) D1 (Wa_take (i := 5) rfl (by kernel_rfl) rfl rfl (.pointer (some ⟨b224, o225 + x126.toNat * 7 + 3 + 2, none⟩)) rfl (fun w' h' => x_fieldAddr (o := o225 + x126.toNat * 7 + 3) (off := 2) Try.underlying30 rfl ty9 rfl rfl) D1 (Wa_take (i := 6) rfl (by kernel_rfl) rfl rfl (.string (bs ((rd a0 x126).Answer.Value))) rfl (fun w' h' => x_load (cls_frz h' hb227) ty9 rfl (hc230 5 _ rfl)) D1 (Wa_take (i := 7) rfl (by kernel_rfl) rfl rfl (.int .i64 (((rd a0 x126).Answer.Value).length : Int)) rfl (fun w' h' => x_len_str Try.underlying9 rfl) D1 (Wa_take (i := 8) rfl (by kernel_rfl) rfl rfl (.int .i64 (imin (3000 : Int) (((rd a0 x126).Answer.Value).length : Int))) rfl (fun w' h' => x_min2 rfl rfl) D1 (Wa_take (i := 9) rfl (by kernel_rfl) rfl rfl (.int .i64 (IntKind.i64.wrap (x125 + (imin (3000 : Int) (((rd a0 x126).Answer.Value).length : Int))))) rfl (fun w' h' => x_ibin rfl rfl rfl rfl) D1 (Wa_take (i := 10) rfl (by kernel_rfl) rfl rfl (.slice A0 a0.length c0) rfl (fun w' h' => x_move rfl) D1 (Wa_take (i := 11) rfl (by kernel_rfl) rfl rfl (.int .i64 x126) rfl (fun w' h' => x_move rfl) D1 ?_))))))))
          obtain ⟨⟨p236, p237⟩, H⟩ := chkS H
          obtain ⟨b238, o239, cs240, _, _, ee245, hb241, vs242, hR243, hc244⟩ := SlW.at' hr0 p236 p237
          obtain ⟨v249, hs248, rfl⟩ := hR243
          obtain ⟨A246, c247, rfl, _⟩ := hs248.form
          have hs248z := hs248
          refine Wa_take (i := 12) rfl (by kernel_rfl) rfl rfl (.pointer (some ⟨b238, o239 + x126.toNat * 7, none⟩)) rfl (fun w' h' => x_indexAddr Try.underlying22 ty32 (slA ee245) rfl p236 p237) D1 (Wa_take (i := 13) rfl (by kernel_rfl) rfl rfl (.pointer (some ⟨b238, o239 + x126.toNat * 7 + 3, none⟩)) rfl (fun w' h' => x_fieldAddr (o := o239 + x126.toNat * 7) (off := 3) Try.underlying32 rfl ty30 rfl rfl) D1 (Wa_take (i := 14) rfl (by kernel_rfl) rfl rfl (.pointer (some ⟨b238, o239 + x126.toNat * 7 + 3 + 3, none⟩)) rfl (fun w' h' => x_fieldAddr (o := o239 + x126.toNat * 7 + 3) (off := 3) Try.underlying30 rfl ty28 rfl rfl) D1 (Wa_take (i := 15) rfl (by kernel_rfl) rfl rfl (.slice A246 ((rd a0 x126).Answer.Pairs).length c247) rfl (fun w' h' => x_load (cls_frz h' hb241) ty28 rfl (hc244 6 _ rfl)) D1 (Wa_take (i := 16) rfl (by kernel_rfl) rfl rfl (.int .i64 (((rd a0 x126).Answer.Pairs).length : Int)) rfl (fun w' h' => x_len_slice (n := ((rd a0 x126).Answer.Pairs).length) Try.underlying28 rfl) D1 (Wa_take (i := 17) rfl (by kernel_rfl) rfl rfl (.int .i64 (imin (3000 : Int) (((rd a0 x126).Answer.Pairs).length : Int))) rfl (fun w' h' => x_min2 rfl rfl) D1 (Wa_take (i := 18) rfl (by kernel_rfl) rfl rfl (.int .i64 (IntKind.i64.wrap ((IntKind.i64.wrap (x125 + (imin (3000 : Int) (((rd a0 x126).Answer.Value).length : Int)))) + (imin (3000 : Int) (((rd a0 x126).Answer.Pairs).length : Int))))) rfl (fun w' h' => x_ibin rfl rfl rfl rfl) D1 (Wa_take (i := 19) rfl (by kernel_rfl) rfl rfl (.int .i64 (IntKind.i64.wrap ((IntKind.i64.wrap (x125 + (imin (3000 : Int) (((rd a0 x126).Answer.Value).length : Int)))) + (imin (3000 : Int) (((rd a0 x126).Answer.Pairs).length : Int))))) rfl (fun w' h' => x_assign rfl) D1 ?_)))))))
          refine Wa_done (by kernel_rfl) ?_
          refine bn (tn (Wp_region_lit (W_v (.int .i64 x126) (x_move rfl) rfl (W_v (.int .i64 (IntKind.i64.wrap (x126 + (1 : Int)))) (x_ibin rfl rfl rfl rfl) rfl (W_v (.int .i64 (IntKind.i64.wrap (x126 + (1 : Int)))) (x_assign rfl) rfl (Wl_nil (tn ?_)))))))
          exact ⟨k, Nat.lt_succ_self k, ⟨(IntKind.i64.wrap ((IntKind.i64.wrap (x125 + (imin (3000 : Int) (((rd a0 x126).Answer.Value).length : Int)))) + (imin (3000 : Int) (((rd a0 x126).Answer.Pairs).length : Int)))), (IntKind.i64.wrap (x126 + (1 : Int))), H, ⟨rfl, rfl, rfl, trivial⟩, E, S.pick [] (by decide)⟩⟩
        refine Wp_cond_false (congrArg Value.bool hb191) ?_
        refine Wp_exit ?_
        refine tx (tx (bsm (?_)))
        refine tn ?_
        exact ⟨x125, Option.some.inj H, ⟨rfl, trivial⟩, E, S.pick [] (by decide)⟩
  rintro ρ w250 ⟨x187, rfl, hρ, E, S⟩
  rw [agree_eta hρ]
  have H := o188H
  refine tn ?_
  as_aux_lemma =>
  refine Wp_seq (Wp_region_lit (W_v (.int .i64 x187) (x_move rfl) rfl (W_v (.bool (decide (x187 ≥ (3000 : Int)))) (x_ibin rfl rfl rfl rfl) rfl (W_v (.bool (decide (x187 ≥ (3000 : Int)))) (x_assign rfl) rfl (Wl_nil (tn ?_))))))
  refine Wp_ret ?_
  obtain rfl := Option.some.inj H
  exact ⟨_, _, _, fun w1 e1 => run_resR (vs := [.bool (decide (x187 ≥ (3000 : Int)))]) (FA.cons (rfl) (FA.nil)), HM, E, S.pick [] (by decide), ⟨rfl, rfl⟩⟩
def ferrymanref06_of_l0 (a0 : (List api_Event)) (a1 : Int) : Nat → List api_Event → Int → Option ((List api_Event))
  | 0, _, _ => none
  | k + 1, x425, x429 => (if (decide (x429 < (a0.length : Int))) = true then (Option.bind (α := List api_Event) (if 0 ≤ x429 ∧ x429 < (a0.length : Int) then (Option.bind (α := List api_Event) (if ((rd a0 x429).Task == a1) = true then (if 0 ≤ x429 ∧ x429 < (a0.length : Int) then (if x425.length + ([(rd a0 x429)] : List api_Event).length ≤ 1759218604441 then some ((x425 ++ ([(rd a0 x429)] : List api_Event))) else none) else none) else some (x425)) (fun x810 => some (x810))) else none) (fun x739 => ferrymanref06_of_l0 a0 a1 k x739 (IntKind.i64.wrap (x429 + (1 : Int))))) else some (x425))
set_option maxHeartbeats 2000000 in
theorem ferrymanref06_of_l0.mono {a0 : (List api_Event)} {a1 : Int} : ∀ {kl : Nat} {x0 x1}, OLe (ferrymanref06_of_l0 a0 a1 kl x0 x1) (ferrymanref06_of_l0 a0 a1 (kl + 1) x0 x1) := by
  intro kl
  induction kl with
  | zero => intros; exact OLe.none
  | succ kl ih =>
    intros
    rw [ferrymanref06_of_l0.eq_2, ferrymanref06_of_l0.eq_2]
    repeat' (first | with_reducible exact OLe.none | with_reducible exact OLe.some | with_reducible refine OLe.ite ?_ ?_ | with_reducible refine OLe.bind ?_ (fun _ => ?_) | exact ih | refine OLe.bind ?_ (fun _ => ?_) | refine OLe.ite ?_ ?_ | refine OLe.elim (fun _ => ?_) (fun _ => ?_) | split)
def ferrymanref06_of (k : Nat) (a0 : (List api_Event)) (a1 : Int) : Option ((List api_Event)) :=
  (Option.bind (ferrymanref06_of_l0 a0 a1 k ([] : List api_Event) (0 : Int)) (fun x633 => some x633))
set_option maxHeartbeats 2000000 in
theorem ferrymanref06_of.mono {k : Nat} {a0 : (List api_Event)} {a1 : Int} : OLe (ferrymanref06_of k a0 a1) (ferrymanref06_of (k + 1) a0 a1) := by
  unfold ferrymanref06_of
  repeat' (first | with_reducible exact OLe.none | with_reducible exact OLe.some | with_reducible refine OLe.ite ?_ ?_ | with_reducible refine OLe.bind ?_ (fun _ => ?_) | with_reducible exact ferrymanref06_of_l0.mono | refine OLe.bind ?_ (fun _ => ?_) | refine OLe.ite ?_ ?_ | refine OLe.elim (fun _ => ?_) (fun _ => ?_) | split)
set_option maxHeartbeats 1000000 in
set_option maxRecDepth 100000 in
theorem ferrymanref06_of.con (k : Nat) (M : Hp) (A0 : Option Addr) (c0 : Nat) (a0 : (List api_Event)) (a1 : Int) (r : (List api_Event)) (hr0 : SlR r_api_Event M (.slice A0 a0.length c0) a0) (h : ferrymanref06_of k a0 a1 = some r) : Con Try.prog 35 #[.slice A0 a0.length c0, .int .i64 a1] M [] (fun v M' Γ' => ∃ (A0 : Option Addr) (c0 : Nat), v = .slice A0 r.length c0 ∧ Γ' = [Row r_api_Event 32 (.slice A0 r.length c0) r]) := by
  refine con_of_wp Try.func35 rfl Try.ntmps35 Try.results35 rfl ?_
  intro w F rn S hrn
  have E := Ext.refl w
  have HM := Hp.le_refl M
  have H := h
  unfold ferrymanref06_of at H
  refine Wp_seq (Wp_region_lit (W_v (.slice none 0 0) (x_assign rfl) rfl (Wl_nil (tn (Wp_seq (Wp_region_lit (W_v (.slice none 0 0) (x_assign rfl) rfl (Wl_nil (tn (Wp_seq (Wp_seq (Wp_region_lit (W_v (.int .i64 0) (x_assign rfl) rfl (Wl_nil (tn ?_)))))))))))))))
  obtain ⟨o637, o637h, o637H⟩ := bindS H
  refine Wp_blockJ (fun ρ w' => ∃ (x633 : List api_Event) (A634 : Option Addr) (c635 : Nat), (x633) = o637 ∧ Agree ρ [(5, .slice A634 x633.length c635)] ∧ Ext w w' ∧ St w' M F [Row r_api_Event 32 (.slice A634 x633.length c635) x633]) ?_ ?_
  · skip
    refine Wp_loop (fun n ρ w' => ∃ (x425 : List api_Event) (x429 : Int) (A426 : Option Addr) (c427 : Nat), ferrymanref06_of_l0 a0 a1 n x425 x429 = some o637 ∧ Agree ρ [(0, .slice A0 a0.length c0), (1, .int .i64 a1), (5, .slice A426 x425.length c427), (6, .int .i64 x429)] ∧ Ext w w' ∧ St w' M F [Row r_api_Event 32 (.slice A426 x425.length c427) x425]) k ?_ ?_
    · skip
      replace S := S.row_nil r_api_Event 32
      exact ⟨([] : List api_Event), (0 : Int), none, 0, o637h, ⟨rfl, rfl, rfl, rfl, trivial⟩, E, S.pick [0] (by decide)⟩
    · intro n
      rintro ρ w639 ⟨x425, x429, A426, c427, H, hρ, E, S⟩
      rw [agree_eta hρ]
      cases n with
      | zero => cases H
      | succ k =>
        rw [ferrymanref06_of_l0.eq_2] at H
        refine Wp_seq (Wp_seq (Wp_region_lit (W_v (.int .i64 x429) (x_move rfl) rfl (W_v (.slice A0 a0.length c0) (x_move rfl) rfl (W_v (.int .i64 (a0.length : Int)) (x_len_slice (n := a0.length) Try.underlying22 rfl) rfl (W_v (.bool (decide (x429 < (a0.length : Int)))) (x_ibin rfl rfl rfl rfl) rfl (Wl_nil (tn ?_))))))))
        rcases iteS H with ⟨hb640, H⟩ | ⟨hb640, H⟩
        · refine Wp_cond_true (congrArg Value.bool hb640) ?_
          refine Wp_skip (tn (Wp_seq ?_))
          obtain ⟨o743, o743h, o743H⟩ := bindS H
          refine Wp_cut (fun ρ w' => ∃ (x739 : List api_Event) (A740 : Option Addr) (c741 : Nat), (x739) = o743 ∧ Agree ρ [(0, .slice A0 a0.length c0), (1, .int .i64 a1), (5, .slice A740 x739.length c741), (6, .int .i64 x429)] ∧ Ext w w' ∧ St w' M F [Row r_api_Event 32 (.slice A740 x739.length c741) x739]) ?_ ?_
          · as_aux_lemma =>
              clear o743H
              have H := o743h
              refine Wp_block ?_
              refine Wp_seq (Wp_region_lit (W_v (.slice A0 a0.length c0) (x_move rfl) rfl (W_v (.int .i64 x429) (x_move rfl) rfl ?_)))
              obtain ⟨⟨p744, p745⟩, H⟩ := chkS H
              obtain ⟨b746, o747, cs748, _, _, ee753, hb749, vs750, hR751, hc752⟩ := SlW.at' hr0 p744 p745
              obtain ⟨v757, hs756, rfl⟩ := hR751
              obtain ⟨A754, c755, rfl, _⟩ := hs756.form
              refine W_v (.pointer (some ⟨b746, o747 + x429.toNat * 7, none⟩)) (x_indexAddr Try.underlying22 ty32 (slA ee753) rfl p744 p745) rfl (W_v (.pointer (some ⟨b746, o747 + x429.toNat * 7 + 1, none⟩)) (x_fieldAddr (o := o747 + x429.toNat * 7) (off := 1) Try.underlying32 rfl ty3 rfl rfl) rfl (W_v (.int .i64 ((rd a0 x429).Task)) (x_load (S.frz hb749) ty3 rfl (hc752 1 _ rfl)) rfl (W_v (.int .i64 a1) (x_move rfl) rfl (W_v (.bool ((rd a0 x429).Task == a1)) (x_ibin rfl rfl rfl rfl) rfl (Wl_nil (tn ?_))))))
              obtain ⟨o814, o814h, o814H⟩ := bindS H
              refine Wp_cut (fun ρ w' => ∃ (x810 : List api_Event) (A811 : Option Addr) (c812 : Nat), (x810) = o814 ∧ Agree ρ [(0, .slice A0 a0.length c0), (1, .int .i64 a1), (5, .slice A811 x810.length c812), (6, .int .i64 x429)] ∧ Ext w w' ∧ St w' M F [Row r_api_Event 32 (.slice A811 x810.length c812) x810]) ?_ ?_
              · clear o814H
                have H := o814h
                rcases iteS H with ⟨hb815, H⟩ | ⟨hb815, H⟩
                · refine Wp_cond_true (congrArg Value.bool hb815) ?_
                  refine Wp_region_lit (W_v (.slice A426 x425.length c427) (x_move rfl) rfl (W_v (.slice A0 a0.length c0) (x_move rfl) rfl (W_v (.int .i64 x429) (x_move rfl) rfl ?_)))
                  obtain ⟨⟨p816, p817⟩, H⟩ := chkS H
                  obtain ⟨b818, o819, cs820, _, _, ee825, hb821, vs822, hR823, hc824⟩ := SlW.at' hr0 p816 p817
                  obtain ⟨v829, hs828, rfl⟩ := hR823
                  obtain ⟨A826, c827, rfl, _⟩ := hs828.form
                  refine W_v (.pointer (some ⟨b818, o819 + x429.toNat * 7, none⟩)) (x_indexAddr Try.underlying22 ty32 (slA ee825) rfl p816 p817) rfl (W_v (.agg #[.int .u8 ((rd a0 x429).What), .int .i64 ((rd a0 x429).Task), .int .i64 ((rd a0 x429).Call), .int .i64 ((rd a0 x429).Answer.Err), .bool ((rd a0 x429).Answer.Found), .string (bs ((rd a0 x429).Answer.Value)), .slice A826 ((rd a0 x429).Answer.Pairs).length c827]) (x_loadA (S.frz hb821) ty32 rfl (sub_el hc824 0 rfl) rfl rfl) rfl ?_)
                  refine W_bslice S #[.int .u8 ((rd a0 x429).What), .int .i64 ((rd a0 x429).Task), .int .i64 ((rd a0 x429).Call), .int .i64 ((rd a0 x429).Answer.Err), .bool ((rd a0 x429).Answer.Found), .string (bs ((rd a0 x429).Answer.Value)), .slice A826 ((rd a0 x429).Answer.Pairs).length c827] Try.underlying22 ty32 rfl rfl #[.int .u8 0, .int .i64 0, .int .i64 0, .int .i64 0, .bool false, .string (bs ([] : Str)), .slice none 0 0] (by as_aux_lemma => kernel_rfl) (by as_aux_lemma => kernel_rfl) rfl ?_
                  intro b830 w831 E' S
                  replace E := E.trans E'
                  replace S := S.blk_row (r := r_api_Event) (l := ([(rd a0 x429)] : List api_Event)) 0 rfl 1 (Nat.le_refl 1) rfl (Cells.cons (vs := [.int .u8 ((rd a0 x429).What), .int .i64 ((rd a0 x429).Task), .int .i64 ((rd a0 x429).Call), .int .i64 ((rd a0 x429).Answer.Err), .bool ((rd a0 x429).Answer.Found), .string (bs ((rd a0 x429).Answer.Value)), .slice A826 ((rd a0 x429).Answer.Pairs).length c827]) (⟨_, hs828, rfl⟩) Cells.nil)
                  obtain ⟨p833, H⟩ := chkS H
                  obtain ⟨src834, hs835, hC836⟩ := src_of_read (P := Try.prog) (ρ := r_api_Event) (l := ([(rd a0 x429)] : List api_Event)) (S.row_read 0 rfl) (by decide)
                  refine W_append S 1 rfl rfl rfl Try.underlying22 (.inl Try.underlying22) ty32 rfl (by decide) (by decide) hs835 hC836 rfl (by omega) rfl ?_
                  intro v837 w838 E' S
                  replace E := E.trans E'
                  obtain ⟨A839, c840, rfl, _⟩ := (S.row_read 1 rfl).form
                  refine W_v (.slice A839 (x425 ++ ([(rd a0 x429)] : List api_Event)).length c840) (x_assign rfl) rfl (Wl_nil (tn ?_))
                  exact ⟨(x425 ++ ([(rd a0 x429)] : List api_Event)), A839, c840, Option.some.inj H, ⟨rfl, rfl, rfl, rfl, trivial⟩, E, S.pick [1] (by decide)⟩
                refine Wp_cond_false (congrArg Value.bool hb815) (Wp_skip (tn ?_))
                exact ⟨x425, A426, c427, Option.some.inj H, ⟨rfl, rfl, rfl, rfl, trivial⟩, E, S.pick [0] (by decide)⟩
              rintro ρ w841 ⟨x810, A811, c812, rfl, hρ, E, S⟩
              rw [agree_eta hρ]
              have H := o814H
              refine bn (tn ?_)
              exact ⟨x810, A811, c812, Option.some.inj H, ⟨rfl, rfl, rfl, rfl, trivial⟩, E, S.pick [0] (by decide)⟩
          rintro ρ w842 ⟨x739, A740, c741, rfl, hρ, E, S⟩
          rw [agree_eta hρ]
          have H := o743H
          refine tn (Wp_region_lit (W_v (.int .i64 x429) (x_move rfl) rfl (W_v (.int .i64 (IntKind.i64.wrap (x429 + (1 : Int)))) (x_ibin rfl rfl rfl rfl) rfl (W_v (.int .i64 (IntKind.i64.wrap (x429 + (1 : Int)))) (x_assign rfl) rfl (Wl_nil (tn ?_))))))
          exact ⟨k, Nat.lt_succ_self k, ⟨x739, (IntKind.i64.wrap (x429 + (1 : Int))), A740, c741, H, ⟨rfl, rfl, rfl, rfl, trivial⟩, E, S.pick [0] (by decide)⟩⟩
        refine Wp_cond_false (congrArg Value.bool hb640) ?_
        refine Wp_exit ?_
        refine tx (tx (bsm (?_)))
        refine tn ?_
        exact ⟨x425, A426, c427, Option.some.inj H, ⟨rfl, trivial⟩, E, S.pick [0] (by decide)⟩
  rintro ρ w843 ⟨x633, A634, c635, rfl, hρ, E, S⟩
  rw [agree_eta hρ]
  have H := o637H
  refine tn ?_
  as_aux_lemma =>
  refine Wp_seq (Wp_region_lit (W_v (.slice A634 x633.length c635) (x_move rfl) rfl (W_v (.slice A634 x633.length c635) (x_assign rfl) rfl (Wl_nil (tn ?_)))))
  refine Wp_ret ?_
  obtain rfl := Option.some.inj H
  exact ⟨_, _, _, fun w1 e1 => run_resR (vs := [.slice A634 x633.length c635]) (FA.cons (rfl) (FA.nil)), HM, E, S.pick [0] (by decide), ⟨A634, c635, rfl, rfl⟩⟩
def ferrymanref06_Answers_l0 (a0 : api_Answer) (a1 : api_Answer) : Nat → Int → Option ((Bool) ⊕ (Unit))
  | 0, _ => none
  | k + 1, x101 => (if (decide (x101 < (a0.Pairs.length : Int))) = true then (if 0 ≤ x101 ∧ x101 < (a0.Pairs.length : Int) then (if 0 ≤ x101 ∧ x101 < (a1.Pairs.length : Int) then (if (!(((rd a0.Pairs x101).Key == (rd a1.Pairs x101).Key) && ((rd a0.Pairs x101).Value == (rd a1.Pairs x101).Value))) = true then some (.inl false) else ferrymanref06_Answers_l0 a0 a1 k (IntKind.i64.wrap (x101 + (1 : Int)))) else none) else none) else some (.inr ()))
set_option maxHeartbeats 2000000 in
theorem ferrymanref06_Answers_l0.mono {a0 : api_Answer} {a1 : api_Answer} : ∀ {kl : Nat} {x0}, OLe (ferrymanref06_Answers_l0 a0 a1 kl x0) (ferrymanref06_Answers_l0 a0 a1 (kl + 1) x0) := by
  intro kl
  induction kl with
  | zero => intros; exact OLe.none
  | succ kl ih =>
    intros
    rw [ferrymanref06_Answers_l0.eq_2, ferrymanref06_Answers_l0.eq_2]
    repeat' (first | with_reducible exact OLe.none | with_reducible exact OLe.some | with_reducible refine OLe.ite ?_ ?_ | with_reducible refine OLe.bind ?_ (fun _ => ?_) | exact ih | refine OLe.bind ?_ (fun _ => ?_) | refine OLe.ite ?_ ?_ | refine OLe.elim (fun _ => ?_) (fun _ => ?_) | split)
def ferrymanref06_Answers (k : Nat) (a0 : api_Answer) (a1 : api_Answer) : Option (Bool) :=
  (if ((((a0.Err != a1.Err) || (!(a0.Found == a1.Found))) || (sbin .neq a0.Value a1.Value)) || ((a0.Pairs.length : Int) != (a1.Pairs.length : Int))) = true then some false else (Option.bind (ferrymanref06_Answers_l0 a0 a1 k (0 : Int)) (fun o146o => Sum.elim (fun r' => some r') (fun _ => some true) o146o)))
set_option maxHeartbeats 2000000 in
theorem ferrymanref06_Answers.mono {k : Nat} {a0 : api_Answer} {a1 : api_Answer} : OLe (ferrymanref06_Answers k a0 a1) (ferrymanref06_Answers (k + 1) a0 a1) := by
  unfold ferrymanref06_Answers
  repeat' (first | with_reducible exact OLe.none | with_reducible exact OLe.some | with_reducible refine OLe.ite ?_ ?_ | with_reducible refine OLe.bind ?_ (fun _ => ?_) | with_reducible exact ferrymanref06_Answers_l0.mono | refine OLe.bind ?_ (fun _ => ?_) | refine OLe.ite ?_ ?_ | refine OLe.elim (fun _ => ?_) (fun _ => ?_) | split)
set_option maxHeartbeats 1000000 in
set_option maxRecDepth 100000 in
theorem ferrymanref06_Answers.con (k : Nat) (M : Hp) (A0_0 : Option Addr) (c0_0 : Nat) (a0 : api_Answer) (A1_0 : Option Addr) (c1_0 : Nat) (a1 : api_Answer) (r : Bool) (hr0_0 : SlR r_api_Pair M (.slice A0_0 a0.Pairs.length c0_0) a0.Pairs) (hr1_0 : SlR r_api_Pair M (.slice A1_0 a1.Pairs.length c1_0) a1.Pairs) (h : ferrymanref06_Answers k a0 a1 = some r) : Con Try.prog 36 #[.agg #[.int .i64 a0.Err, .bool a0.Found, .string (bs a0.Value), .slice A0_0 a0.Pairs.length c0_0], .agg #[.int .i64 a1.Err, .bool a1.Found, .string (bs a1.Value), .slice A1_0 a1.Pairs.length c1_0]] M [] (fun v M' Γ' => v = .bool r ∧ Γ' = []) := by
  refine con_of_wp Try.func36 rfl Try.ntmps36 Try.results36 rfl ?_
  intro w F rn S hrn
  have E := Ext.refl w
  have HM := Hp.le_refl M
  have H := h
  unfold ferrymanref06_Answers at H
  refine Wp_seq (Wp_region_lit ?_)
  refine W_box S #[.int .i64 a0.Err, .bool a0.Found, .string (bs a0.Value), .slice A0_0 a0.Pairs.length c0_0] rfl rfl rfl ?_
  intro b1 w2 E' S
  replace E := E.trans E'
  refine W_box S #[.int .i64 a1.Err, .bool a1.Found, .string (bs a1.Value), .slice A1_0 a1.Pairs.length c1_0] rfl rfl rfl ?_
  intro b4 w5 E' S
  replace E := E.trans E'
  refine W_v (.bool false) (x_assign rfl) rfl (Wl_nil (tn (Wp_seq (Wp_seq (Wp_region_lit (W_v (pt b1 0) (x_fieldAddr (o := 0) (off := 0) Try.underlying30 rfl ty27 rfl rfl) rfl (W_v (.int .i64 a0.Err) (x_load (S.blk 1 rfl) ty27 rfl rfl) rfl (W_v (pt b4 0) (x_fieldAddr (o := 0) (off := 0) Try.underlying30 rfl ty27 rfl rfl) rfl (W_v (.int .i64 a1.Err) (x_load (S.blk 0 rfl) ty27 rfl rfl) rfl (W_v (.bool (a0.Err != a1.Err)) (x_ibin rfl rfl rfl rfl) rfl (W_v (.bool (a0.Err != a1.Err)) (x_move rfl) rfl ?_)))))))))))
  refine Wl_cutN 6 (fun ρ w' => Agree ρ [(2, pt b1 0), (3, pt b4 0), (17, .bool ((a0.Err != a1.Err) || (!(a0.Found == a1.Found))))] ∧ w5 = w') ?_ ?_
  · rcases boolCases (a0.Err != a1.Err) with hb7 | hb7
    · skip
      refine W_yes (congrArg some hb7) (W_v (pt b1 1) (x_fieldAddr (o := 0) (off := 1) Try.underlying30 rfl ty4 rfl rfl) rfl (W_yes (congrArg some hb7) (W_v (.bool a0.Found) (x_load (S.blk 1 rfl) ty4 rfl rfl) rfl (W_yes (congrArg some hb7) (W_v (pt b4 1) (x_fieldAddr (o := 0) (off := 1) Try.underlying30 rfl ty4 rfl rfl) rfl (W_yes (congrArg some hb7) (W_v (.bool a1.Found) (x_load (S.blk 0 rfl) ty4 rfl rfl) rfl (W_yes (congrArg some hb7) (W_v (.bool (!(a0.Found == a1.Found))) (x_bne Try.underlying4 rfl rfl) rfl (W_v (.bool (!(a0.Found == a1.Found))) (x_pick (k := false) (congrArg Value.bool hb7) rfl) rfl (Wl_nil ?_)))))))))))
      exact ⟨⟨rfl, rfl, (by first | rfl | (rw [hb7]; rfl) | (simp only [hb7]; rfl)), trivial⟩, rfl⟩
    · skip
      refine W_no (skF hb7) rfl (W_no (skF hb7) rfl (W_no (skF hb7) rfl (W_no (skF hb7) rfl (W_no (skF hb7) rfl (W_v (.bool true) (x_pick (k := true) (congrArg Value.bool hb7) rfl) rfl (Wl_nil ?_))))))
      exact ⟨⟨rfl, rfl, (by first | rfl | (rw [hb7]; rfl) | (simp only [hb7]; rfl)), trivial⟩, rfl⟩
  as_aux_lemma =>
  rintro ρ _ ⟨hρ, rfl⟩
  rw [agree_eta hρ]
  refine W_v (.bool ((a0.Err != a1.Err) || (!(a0.Found == a1.Found)))) (x_move rfl) rfl ?_
  refine Wl_cutN 6 (fun ρ w' => Agree ρ [(2, pt b1 0), (3, pt b4 0), (24, .bool (((a0.Err != a1.Err) || (!(a0.Found == a1.Found))) || (sbin .neq a0.Value a1.Value)))] ∧ w5 = w') ?_ ?_
  · rcases boolCases ((a0.Err != a1.Err) || (!(a0.Found == a1.Found))) with hb8 | hb8
    · skip
      refine W_yes (congrArg some hb8) (W_v (pt b1 2) (x_fieldAddr (o := 0) (off := 2) Try.underlying30 rfl ty9 rfl rfl) rfl (W_yes (congrArg some hb8) (W_v (.string (bs a0.Value)) (x_load (S.blk 1 rfl) ty9 rfl rfl) rfl (W_yes (congrArg some hb8) (W_v (pt b4 2) (x_fieldAddr (o := 0) (off := 2) Try.underlying30 rfl ty9 rfl rfl) rfl (W_yes (congrArg some hb8) (W_v (.string (bs a1.Value)) (x_load (S.blk 0 rfl) ty9 rfl rfl) rfl (W_yes (congrArg some hb8) (W_v (.bool (sbin .neq a0.Value a1.Value)) (x_sbin rfl rfl rfl) rfl (W_v (.bool (sbin .neq a0.Value a1.Value)) (x_pick (k := false) (congrArg Value.bool hb8) rfl) rfl (Wl_nil ?_)))))))))))
      exact ⟨⟨rfl, rfl, (by first | rfl | (rw [hb8]; rfl) | (simp only [hb8]; rfl)), trivial⟩, rfl⟩
    · skip
      refine W_no (skF hb8) rfl (W_no (skF hb8) rfl (W_no (skF hb8) rfl (W_no (skF hb8) rfl (W_no (skF hb8) rfl (W_v (.bool true) (x_pick (k := true) (congrArg Value.bool hb8) rfl) rfl (Wl_nil ?_))))))
      exact ⟨⟨rfl, rfl, (by first | rfl | (rw [hb8]; rfl) | (simp only [hb8]; rfl)), trivial⟩, rfl⟩
  as_aux_lemma =>
  rintro ρ _ ⟨hρ, rfl⟩
  rw [agree_eta hρ]
  refine W_v (.bool (((a0.Err != a1.Err) || (!(a0.Found == a1.Found))) || (sbin .neq a0.Value a1.Value))) (x_move rfl) rfl ?_
  refine Wl_cutN 8 (fun ρ w' => Agree ρ [(2, pt b1 0), (3, pt b4 0), (33, .bool ((((a0.Err != a1.Err) || (!(a0.Found == a1.Found))) || (sbin .neq a0.Value a1.Value)) || ((a0.Pairs.length : Int) != (a1.Pairs.length : Int))))] ∧ w5 = w') ?_ ?_
  · rcases boolCases (((a0.Err != a1.Err) || (!(a0.Found == a1.Found))) || (sbin .neq a0.Value a1.Value)) with hb9 | hb9
    · skip
      refine W_yes (congrArg some hb9) (W_v (pt b1 3) (x_fieldAddr (o := 0) (off := 3) Try.underlying30 rfl ty28 rfl rfl) rfl (W_yes (congrArg some hb9) (W_v (.slice A0_0 a0.Pairs.length c0_0) (x_load (S.blk 1 rfl) ty28 rfl rfl) rfl (W_yes (congrArg some hb9) (W_v (.int .i64 (a0.Pairs.length : Int)) (x_len_slice (n := a0.Pairs.length) Try.underlying28 rfl) rfl (W_yes (congrArg some hb9) (W_v (pt b4 3) (x_fieldAddr (o := 0) (off := 3) Try.underlying30 rfl ty28 rfl rfl) rfl (W_yes (congrArg some hb9) (W_v (.slice A1_0 a1.Pairs.length c1_0) (x_load (S.blk 0 rfl) ty28 rfl rfl) rfl (W_yes (congrArg some hb9) (W_v (.int .i64 (a1.Pairs.length : Int)) (x_len_slice (n := a1.Pairs.length) Try.underlying28 rfl) rfl (W_yes (congrArg some hb9) (W_v (.bool ((a0.Pairs.length : Int) != (a1.Pairs.length : Int))) (x_ibin rfl rfl rfl rfl) rfl (W_v (.bool ((a0.Pairs.length : Int) != (a1.Pairs.length : Int))) (x_pick (k := false) (congrArg Value.bool hb9) rfl) rfl (Wl_nil ?_)))))))))))))))
      exact ⟨⟨rfl, rfl, (by first | rfl | (rw [hb9]; rfl) | (simp only [hb9]; rfl)), trivial⟩, rfl⟩
    · skip
      refine W_no (skF hb9) rfl (W_no (skF hb9) rfl (W_no (skF hb9) rfl (W_no (skF hb9) rfl (W_no (skF hb9) rfl (W_no (skF hb9) rfl (W_no (skF hb9) rfl (W_v (.bool true) (x_pick (k := true) (congrArg Value.bool hb9) rfl) rfl (Wl_nil ?_))))))))
      exact ⟨⟨rfl, rfl, (by first | rfl | (rw [hb9]; rfl) | (simp only [hb9]; rfl)), trivial⟩, rfl⟩
  as_aux_lemma =>
  rintro ρ _ ⟨hρ, rfl⟩
  rw [agree_eta hρ]
  refine Wl_nil (tn ?_)
  rcases iteS H with ⟨hb10, H⟩ | ⟨hb10, H⟩
  · refine Wp_cond_true (congrArg Value.bool hb10) ?_
    refine Wp_seq (Wp_region_lit (W_v (.bool false) (x_assign rfl) rfl (Wl_nil (tn ?_))))
    refine Wp_ret ?_
    refine tr (?_)
    obtain rfl := Option.some.inj H
    exact ⟨_, _, _, fun w1 e1 => run_resR (vs := [.bool false]) (FA.cons (rfl) (FA.nil)), HM, E, S.pick [] (by decide), ⟨rfl, rfl⟩⟩
  refine Wp_cond_false (congrArg Value.bool hb10) (Wp_skip (tn (Wp_seq (Wp_seq (Wp_region_lit (W_v (.int .i64 0) (x_assign rfl) rfl (Wl_nil (tn ?_))))))))
  obtain ⟨o146, o146h, o146H⟩ := bindS H
  refine Wp_blockJ (fun ρ w' => .inr () = o146 ∧ Agree ρ [] ∧ Ext w w' ∧ St w' M F []) ?_ ?_
  · skip
    refine Wp_loop (fun n ρ w' => ∃ (x101 : Int), ferrymanref06_Answers_l0 a0 a1 n x101 = some o146 ∧ Agree ρ [(2, pt b1 0), (3, pt b4 0), (5, .int .i64 x101)] ∧ Ext w w' ∧ St w' M F [B30 b4 a1 A1_0 c1_0, B30 b1 a0 A0_0 c0_0]) k ?_ ?_
    · skip
      exact ⟨(0 : Int), o146h, ⟨rfl, rfl, rfl, trivial⟩, E, S.pick [0, 1] (by decide)⟩
    · intro n
      rintro ρ w147 ⟨x101, H, hρ, E, S⟩
      rw [agree_eta hρ]
      cases n with
      | zero => cases H
      | succ k =>
        rw [ferrymanref06_Answers_l0.eq_2] at H
        refine Wp_seq (Wp_seq (Wp_region_lit (W_v (.int .i64 x101) (x_move rfl) rfl (W_v (pt b1 3) (x_fieldAddr (o := 0) (off := 3) Try.underlying30 rfl ty28 rfl rfl) rfl (W_v (.slice A0_0 a0.Pairs.length c0_0) (x_load (S.blk 1 rfl) ty28 rfl rfl) rfl (W_v (.int .i64 (a0.Pairs.length : Int)) (x_len_slice (n := a0.Pairs.length) Try.underlying28 rfl) rfl (W_v (.bool (decide (x101 < (a0.Pairs.length : Int)))) (x_ibin rfl rfl rfl rfl) rfl (Wl_nil (tn ?_)))))))))
        rcases iteS H with ⟨hb148, H⟩ | ⟨hb148, H⟩
        · refine Wp_cond_true (congrArg Value.bool hb148) ?_
          refine Wp_skip (tn (Wp_seq ?_))
          refine Wp_block ?_
          refine Wp_seq ?_
          refine Wp_region_any (S := fun w' => ∃ Mx, M.le Mx ∧ St w' Mx F [B30 b4 a1 A1_0 c1_0, B30 b1 a0 A0_0 c0_0]) (L := 11) mixed ?_
          intro w169 hw170 E'
          replace S := S.heap hw170
          replace E := E.trans E'
          have D1 : ∃ Mx, Hp.le M Mx ∧ St _ Mx F [_, _] := ⟨_, Hp.le_refl _, S.pick [0, 1] (by decide)⟩
          refine Wa_take (i := 0) rfl (by kernel_rfl) rfl rfl (pt b1 3) rfl (fun w' h' => x_fieldAddr (o := 0) (off := 3) Try.underlying30 rfl ty28 rfl rfl) D1 (Wa_take (i := 1) rfl (by kernel_rfl) rfl rfl (.slice A0_0 a0.Pairs.length c0_0) rfl (fun w' h' => x_load (cls_blk h' 1 rfl) ty28 rfl rfl) D1 (Wa_take (i := 2) rfl (by kernel_rfl) rfl rfl (.int .i64 x101) rfl (fun w' h' => x_move rfl) D1 ?_))
          obtain ⟨⟨p171, p172⟩, H⟩ := chkS H
          obtain ⟨b173, o174, cs175, _, _, ee180, hb176, vs177, hR178, hc179⟩ := SlW.at' hr0_0 p171 p172
          obtain rfl : vs177 = _ := hR178
          refine Wa_take (i := 3) rfl (by kernel_rfl) rfl rfl (.pointer (some ⟨b173, o174 + x101.toNat * 2, none⟩)) rfl (fun w' h' => x_indexAddr Try.underlying28 ty43 (slA ee180) rfl p171 p172) D1 (Wa_take (i := 4) rfl (by kernel_rfl) rfl rfl (.agg #[.string (bs ((rd a0.Pairs x101).Key)), .string (bs ((rd a0.Pairs x101).Value))]) rfl (fun w' h' => x_loadA (cls_frz h' hb176) ty43 rfl (sub_el hc179 0 rfl) rfl rfl) D1 (Wa_take (i := 5) rfl (by kernel_rfl) rfl rfl (pt b4 3) rfl (fun w' h' => x_fieldAddr (o := 0) (off := 3) Try.underlying30 rfl ty28 rfl rfl) D1 (Wa_take (i := 6) rfl (by kernel_rfl) rfl rfl (.slice A1_0 a1.Pairs.length c1_0) rfl (fun w' h' => x_load (cls_blk h' 0 rfl) ty28 rfl rfl) D1 (Wa_take (i := 7) rfl (by kernel_rfl) rfl rfl (.int .i64 x101) rfl (fun w' h' => x_move rfl) D1 ?_))))
          obtain ⟨⟨p181, p182⟩, H⟩ := chkS H
          obtain ⟨b183, o184, cs185, _, _, ee190, hb186, vs187, hR188, hc189⟩ := SlW.at' hr1_0 p181 p182
          obtain rfl : vs187 = _ := hR188
          refine Wa_take (i := 8) rfl (by kernel_rfl) rfl rfl (.pointer (some ⟨b183, o184 + x101.toNat * 2, none⟩)) rfl (fun w' h' => x_indexAddr Try.underlying28 ty43 (slA ee190) rfl p181 p182) D1 (Wa_take (i := 9) rfl (by kernel_rfl) rfl rfl (.agg #[.string (bs ((rd a1.Pairs x101).Key)), .string (bs ((rd a1.Pairs x101).Value))]) rfl (fun w' h' => x_loadA (cls_frz h' hb186) ty43 rfl (sub_el hc189 0 rfl) rfl rfl) D1 (Wa_take (i := 10) rfl (by kernel_rfl) rfl rfl (.bool (!(((rd a0.Pairs x101).Key == (rd a1.Pairs x101).Key) && ((rd a0.Pairs x101).Value == (rd a1.Pairs x101).Value)))) rfl (fun w' h' => x_ne_of (en43 _ _ _ _) rfl (eq43 _ ((rd a0.Pairs x101).Key) ((rd a0.Pairs x101).Value) ((rd a1.Pairs x101).Key) ((rd a1.Pairs x101).Value))) D1 ?_))
          refine Wa_done (by kernel_rfl) ?_
          refine tn ?_
          rcases iteS H with ⟨hb191, H⟩ | ⟨hb191, H⟩
          · refine Wp_cond_true (congrArg Value.bool hb191) ?_
            refine Wp_seq (Wp_region_lit (W_v (.bool false) (x_assign rfl) rfl (Wl_nil (tn ?_))))
            refine Wp_ret ?_
            refine br (tr (tr (br (tr (tr (?_))))))
            obtain rfl := Option.some.inj H
            have H := o146H
            replace H := elimL H
            obtain rfl := Option.some.inj H
            exact ⟨_, _, _, fun w1 e1 => run_resR (vs := [.bool false]) (FA.cons (rfl) (FA.nil)), HM, E, S.pick [] (by decide), ⟨rfl, rfl⟩⟩
          refine Wp_cond_false (congrArg Value.bool hb191) (Wp_skip (bn (tn (Wp_region_lit (W_v (.int .i64 x101) (x_move rfl) rfl (W_v (.int .i64 (IntKind.i64.wrap (x101 + (1 : Int)))) (x_ibin rfl rfl rfl rfl) rfl (W_v (.int .i64 (IntKind.i64.wrap (x101 + (1 : Int)))) (x_assign rfl) rfl (Wl_nil (tn ?_)))))))))
          exact ⟨k, Nat.lt_succ_self k, ⟨(IntKind.i64.wrap (x101 + (1 : Int))), H, ⟨rfl, rfl, rfl, trivial⟩, E, S.pick [0, 1] (by decide)⟩⟩
        refine Wp_cond_false (congrArg Value.bool hb148) ?_
        refine Wp_exit ?_
        refine tx (tx (bsm (?_)))
        refine tn ?_
        exact ⟨Option.some.inj H, trivial, E, S.pick [] (by decide)⟩
  rintro ρ w192 ⟨rfl, hρ, E, S⟩
  rw [agree_eta hρ]
  have H := o146H
  replace H := elimR H
  refine tn ?_
  as_aux_lemma =>
  refine Wp_seq (Wp_region_lit (W_v (.bool true) (x_assign rfl) rfl (Wl_nil (tn ?_))))
  refine Wp_ret ?_
  obtain rfl := Option.some.inj H
  exact ⟨_, _, _, fun w1 e1 => run_resR (vs := [.bool true]) (FA.cons (rfl) (FA.nil)), HM, E, S.pick [] (by decide), ⟨rfl, rfl⟩⟩
def ferrymanref06_Legal_l4 (t2832 : (List api_Event)) : Nat → Int → Option ((Bool) ⊕ (Unit))
  | 0, _ => none
  | k + 1, x3304 => (if (decide (x3304 < (t2832.length : Int))) = true then (if 0 ≤ x3304 ∧ x3304 < (t2832.length : Int) then (Option.bind (α := Bool) (if ((IntKind.i64.wrap ((rd t2832 x3304).What)) != (IntKind.i64.wrap ((1 : Int) + (Int.tmod x3304 (3 : Int))))) = true then some (true) else (if 0 ≤ x3304 ∧ x3304 < (t2832.length : Int) then some (((rd t2832 x3304).Call != (IntKind.i64.wrap (Int.tdiv x3304 (3 : Int))))) else none)) (fun x3582 => (Option.bind (α := Bool) (if x3582 = true then some (true) else (Option.bind (α := Bool) (if ((Int.tmod x3304 (3 : Int)) != (2 : Int)) = true then (if 0 ≤ x3304 ∧ x3304 < (t2832.length : Int) then (Option.bind (ferrymanref06_Answers k ((rd t2832 x3304).Answer) (⟨(0 : Int), false, ([] : Str), ([] : (List api_Pair))⟩ : api_Answer)) (fun t3763 => some ((!t3763)))) else none) else some (false)) (fun x3747 => some (x3747)))) (fun x3710 => (if x3710 = true then some (.inl false) else ferrymanref06_Legal_l4 t2832 k (IntKind.i64.wrap (x3304 + (1 : Int)))))))) else none) else some (.inr ()))
set_option maxHeartbeats 2000000 in
theorem ferrymanref06_Legal_l4.mono {t2832 : (List api_Event)} : ∀ {kl : Nat} {x0}, OLe (ferrymanref06_Legal_l4 t2832 kl x0) (ferrymanref06_Legal_l4 t2832 (kl + 1) x0) := by
  intro kl
  induction kl with
  | zero => intros; exact OLe.none
  | succ kl ih =>
    intros
    rw [ferrymanref06_Legal_l4.eq_2, ferrymanref06_Legal_l4.eq_2]
    repeat' (first | with_reducible exact OLe.none | with_reducible exact OLe.some | with_reducible refine OLe.ite ?_ ?_ | with_reducible refine OLe.bind ?_ (fun _ => ?_) | with_reducible exact ferrymanref06_Answers.mono | exact ih | refine OLe.bind ?_ (fun _ => ?_) | refine OLe.ite ?_ ?_ | refine OLe.elim (fun _ => ?_) (fun _ => ?_) | split)
def ferrymanref06_Legal_l2 (a0 : Int) (a1 : (List api_Event)) : Nat → Int → Int → Option ((Bool) ⊕ (Int))
  | 0, _, _ => none
  | k + 1, x1885, x1886 => (if (decide (x1886 < a0)) = true then (Option.bind (ferrymanref06_of k a1 x1886) (fun t2832 => (Option.bind (ferrymanref06_Legal_l4 t2832 k (0 : Int)) (fun o3536o => Sum.elim (fun r' => some (.inl r')) (fun _ => ferrymanref06_Legal_l2 a0 a1 k (IntKind.i64.wrap (x1885 + (t2832.length : Int))) (IntKind.i64.wrap (x1886 + (1 : Int)))) o3536o)))) else some (.inr (x1885)))
set_option maxHeartbeats 2000000 in
theorem ferrymanref06_Legal_l2.mono {a0 : Int} {a1 : (List api_Event)} : ∀ {kl : Nat} {x0 x1}, OLe (ferrymanref06_Legal_l2 a0 a1 kl x0 x1) (ferrymanref06_Legal_l2 a0 a1 (kl + 1) x0 x1) := by
  intro kl
  induction kl with
  | zero => intros; exact OLe.none
  | succ kl ih =>
    intros
    rw [ferrymanref06_Legal_l2.eq_2, ferrymanref06_Legal_l2.eq_2]
    repeat' (first | with_reducible exact OLe.none | with_reducible exact OLe.some | with_reducible refine OLe.ite ?_ ?_ | with_reducible refine OLe.bind ?_ (fun _ => ?_) | with_reducible exact ferrymanref06_Legal_l4.mono | with_reducible exact ferrymanref06_of.mono | exact ih | refine OLe.bind ?_ (fun _ => ?_) | refine OLe.ite ?_ ?_ | refine OLe.elim (fun _ => ?_) (fun _ => ?_) | split)
def ferrymanref06_Legal (k : Nat) (a0 : Int) (a1 : (List api_Event)) : Option (Bool) :=
  (if ((decide (a0 < (1 : Int))) || (decide (a0 > (6 : Int)))) = true then some false else (Option.bind (ferrymanref06_Legal_l2 a0 a1 k (0 : Int) (0 : Int)) (fun o2827o => Sum.elim (fun r' => some r') (fun x2826 => some (x2826 == (a1.length : Int))) o2827o)))
set_option maxHeartbeats 2000000 in
theorem ferrymanref06_Legal.mono {k : Nat} {a0 : Int} {a1 : (List api_Event)} : OLe (ferrymanref06_Legal k a0 a1) (ferrymanref06_Legal (k + 1) a0 a1) := by
  unfold ferrymanref06_Legal
  repeat' (first | with_reducible exact OLe.none | with_reducible exact OLe.some | with_reducible refine OLe.ite ?_ ?_ | with_reducible refine OLe.bind ?_ (fun _ => ?_) | with_reducible exact ferrymanref06_Legal_l2.mono | refine OLe.bind ?_ (fun _ => ?_) | refine OLe.ite ?_ ?_ | refine OLe.elim (fun _ => ?_) (fun _ => ?_) | split)
set_option maxHeartbeats 1000000 in
set_option maxRecDepth 100000 in
theorem ferrymanref06_Legal.con (k : Nat) (M : Hp) (a0 : Int) (A1 : Option Addr) (c1 : Nat) (a1 : (List api_Event)) (r : Bool) (hr1 : SlR r_api_Event M (.slice A1 a1.length c1) a1) (h : ferrymanref06_Legal k a0 a1 = some r) : Con Try.prog 15 #[.int .i64 a0, .slice A1 a1.length c1] M [] (fun v M' Γ' => v = .bool r ∧ Γ' = []) := by
  refine con_of_wp Try.func15 rfl Try.ntmps15 Try.results15 rfl ?_
  intro w F rn S hrn
  have E := Ext.refl w
  have HM := Hp.le_refl M
  have H := h
  unfold ferrymanref06_Legal at H
  refine Wp_seq (Wp_region_lit (W_v (.bool false) (x_assign rfl) rfl (Wl_nil (tn (Wp_seq (Wp_seq (Wp_region_lit (W_v (.int .i64 a0) (x_move rfl) rfl (W_v (.bool (decide (a0 < (1 : Int)))) (x_ibin rfl rfl rfl rfl) rfl (W_v (.bool (decide (a0 < (1 : Int)))) (x_move rfl) rfl ?_))))))))))
  refine Wl_cutN 3 (fun ρ w' => Agree ρ [(0, .int .i64 a0), (1, .slice A1 a1.length c1), (14, .bool ((decide (a0 < (1 : Int))) || (decide (a0 > (6 : Int)))))] ∧ w = w') ?_ ?_
  · rcases boolCases (decide (a0 < (1 : Int))) with hb1 | hb1
    · skip
      refine W_yes (congrArg some hb1) (W_v (.int .i64 a0) (x_move rfl) rfl (W_yes (congrArg some hb1) (W_v (.bool (decide (a0 > (6 : Int)))) (x_ibin rfl rfl rfl rfl) rfl (W_v (.bool (decide (a0 > (6 : Int)))) (x_pick (k := false) (congrArg Value.bool hb1) rfl) rfl (Wl_nil ?_)))))
      exact ⟨⟨rfl, rfl, (by first | rfl | (rw [hb1]; rfl) | (simp only [hb1]; rfl)), trivial⟩, rfl⟩
    · skip
      refine W_no (skF hb1) rfl (W_no (skF hb1) rfl (W_v (.bool true) (x_pick (k := true) (congrArg Value.bool hb1) rfl) rfl (Wl_nil ?_)))
      exact ⟨⟨rfl, rfl, (by first | rfl | (rw [hb1]; rfl) | (simp only [hb1]; rfl)), trivial⟩, rfl⟩
  as_aux_lemma =>
  rintro ρ _ ⟨hρ, rfl⟩
  rw [agree_eta hρ]
  refine Wl_nil (tn ?_)
  rcases iteS H with ⟨hb2, H⟩ | ⟨hb2, H⟩
  · refine Wp_cond_true (congrArg Value.bool hb2) ?_
    refine Wp_seq (Wp_region_lit (W_v (.bool false) (x_assign rfl) rfl (Wl_nil (tn ?_))))
    refine Wp_ret ?_
    refine tr (?_)
    obtain rfl := Option.some.inj H
    exact ⟨_, _, _, fun w1 e1 => run_resR (vs := [.bool false]) (FA.cons (rfl) (FA.nil)), HM, E, S.pick [] (by decide), ⟨rfl, rfl⟩⟩
  refine Wp_cond_false (congrArg Value.bool hb2) (Wp_skip (tn (Wp_seq (Wp_region_lit (W_v (.int .i64 0) (x_assign rfl) rfl (Wl_nil (tn (Wp_seq (Wp_seq (Wp_region_lit (W_v (.int .i64 0) (x_assign rfl) rfl (Wl_nil (tn ?_)))))))))))))
  obtain ⟨o2827, o2827h, o2827H⟩ := bindS H
  refine Wp_blockJ (fun ρ w' => ∃ (x2826 : Int) (Mj : Hp), .inr (x2826) = o2827 ∧ Agree ρ [(1, .slice A1 a1.length c1), (5, .int .i64 x2826)] ∧ M.le Mj ∧ Ext w w' ∧ St w' Mj F []) ?_ ?_
  · skip
    refine Wp_loop (fun n ρ w' => ∃ (x1885 : Int) (x1886 : Int) (Mj : Hp), ferrymanref06_Legal_l2 a0 a1 n x1885 x1886 = some o2827 ∧ Agree ρ [(0, .int .i64 a0), (1, .slice A1 a1.length c1), (5, .int .i64 x1885), (6, .int .i64 x1886)] ∧ M.le Mj ∧ Ext w w' ∧ St w' Mj F []) k ?_ ?_
    · skip
      exact ⟨(0 : Int), (0 : Int), M, o2827h, ⟨rfl, rfl, rfl, rfl, trivial⟩, (Hp.le_refl M), E, S.pick [] (by decide)⟩
    · intro n
      rintro ρ w2828 ⟨x1885, x1886, M2829, H, hρ, hM2830, E, S⟩
      rw [agree_eta hρ]
      replace HM := Hp.le_trans HM hM2830
      replace hr1 := SlR.mono hr1 hM2830
      cases n with
      | zero => cases H
      | succ k =>
        rw [ferrymanref06_Legal_l2.eq_2] at H
        refine Wp_seq (Wp_seq (Wp_region_lit (W_v (.int .i64 x1886) (x_move rfl) rfl (W_v (.int .i64 a0) (x_move rfl) rfl (W_v (.bool (decide (x1886 < a0))) (x_ibin rfl rfl rfl rfl) rfl (Wl_nil (tn ?_)))))))
        rcases iteS H with ⟨hb2831, H⟩ | ⟨hb2831, H⟩
        · refine Wp_cond_true (congrArg Value.bool hb2831) ?_
          refine Wp_skip (tn (Wp_seq ?_))
          refine Wp_block ?_
          refine Wp_seq (Wp_region_lit (W_v (.slice A1 a1.length c1) (x_move rfl) rfl (W_v (.int .i64 x1886) (x_move rfl) rfl ?_)))
          obtain ⟨t2832, ht2833, H⟩ := bindS H
          refine W_call fn35 (ferrymanref06_of.con k M2829 A1 c1 a1 x1886 t2832 hr1 ht2833) (Γ1 := []) (Γ2 := []) S rfl rfl ?_
          rintro _ w2837 M2838 Γ' hM2839 E' S ⟨A2834, c2835, rfl, rfl⟩
          replace HM := Hp.le_trans HM hM2839
          replace hM2830 := Hp.le_trans hM2830 hM2839
          replace hr1 := SlR.mono hr1 hM2839
          replace E := E.trans E'
          refine W_v (.slice A2834 t2832.length c2835) (x_assign rfl) rfl (Wl_nil (tn (Wp_seq (Wp_region_lit (W_v (.int .i64 x1885) (x_move rfl) rfl (W_v (.slice A2834 t2832.length c2835) (x_move rfl) rfl (W_v (.int .i64 (t2832.length : Int)) (x_len_slice (n := t2832.length) Try.underlying22 rfl) rfl (W_v (.int .i64 (IntKind.i64.wrap (x1885 + (t2832.length : Int)))) (x_ibin rfl rfl rfl rfl) rfl (W_v (.int .i64 (IntKind.i64.wrap (x1885 + (t2832.length : Int)))) (x_assign rfl) rfl (Wl_nil (tn (Wp_seq (Wp_region_lit (W_v (.int .i64 0) (x_assign rfl) rfl (Wl_nil ?_)))))))))))))))
          refine tn ?_
          obtain ⟨o3536, o3536h, o3536H⟩ := bindS H
          refine Wp_blockJ (fun ρ w' => .inr () = o3536 ∧ Agree ρ [(0, .int .i64 a0), (1, .slice A1 a1.length c1), (5, .int .i64 (IntKind.i64.wrap (x1885 + (t2832.length : Int)))), (6, .int .i64 x1886)] ∧ Ext w w' ∧ St w' M2838 F []) ?_ ?_
          · skip
            refine Wp_loop (fun n ρ w' => ∃ (x3304 : Int), ferrymanref06_Legal_l4 t2832 n x3304 = some o3536 ∧ Agree ρ [(0, .int .i64 a0), (1, .slice A1 a1.length c1), (5, .int .i64 (IntKind.i64.wrap (x1885 + (t2832.length : Int)))), (6, .int .i64 x1886), (7, .slice A2834 t2832.length c2835), (8, .int .i64 x3304)] ∧ Ext w w' ∧ St w' M2838 F [Row r_api_Event 32 (.slice A2834 t2832.length c2835) t2832]) k ?_ ?_
            · skip
              exact ⟨(0 : Int), o3536h, ⟨rfl, rfl, rfl, rfl, rfl, rfl, trivial⟩, E, S.pick [0] (by decide)⟩
            · intro n
              rintro ρ w3537 ⟨x3304, H, hρ, E, S⟩
              rw [agree_eta hρ]
              cases n with
              | zero => cases H
              | succ k =>
                rw [ferrymanref06_Legal_l4.eq_2] at H
                refine Wp_seq (Wp_seq (Wp_region_lit (W_v (.int .i64 x3304) (x_move rfl) rfl (W_v (.slice A2834 t2832.length c2835) (x_move rfl) rfl (W_v (.int .i64 (t2832.length : Int)) (x_len_slice (n := t2832.length) Try.underlying22 rfl) rfl (W_v (.bool (decide (x3304 < (t2832.length : Int)))) (x_ibin rfl rfl rfl rfl) rfl (Wl_nil (tn ?_))))))))
                rcases iteS H with ⟨hb3538, H⟩ | ⟨hb3538, H⟩
                · refine Wp_cond_true (congrArg Value.bool hb3538) ?_
                  refine Wp_skip (tn (Wp_seq ?_))
                  refine Wp_block ?_
                  refine Wp_seq (Wp_region_lit (W_v (.slice A2834 t2832.length c2835) (x_move rfl) rfl (W_v (.int .i64 x3304) (x_move rfl) rfl ?_)))
                  obtain ⟨⟨p3539, p3540⟩, H⟩ := chkS H
                  obtain ⟨b3541, o3542, cs3543, _, _, ee3548, hb3544, vs3545, hR3546, hc3547⟩ := SlW.at' (S.row_read 0 rfl) p3539 p3540
                  obtain ⟨v3552, hs3551, rfl⟩ := hR3546
                  obtain ⟨A3549, c3550, rfl, _⟩ := hs3551.form
                  refine W_v (.pointer (some ⟨b3541, o3542 + x3304.toNat * 7, none⟩)) (x_indexAddr Try.underlying22 ty32 (slA ee3548) rfl p3539 p3540) rfl (W_v (.pointer (some ⟨b3541, o3542 + x3304.toNat * 7, none⟩)) (x_fieldAddr (o := o3542 + x3304.toNat * 7) (off := 0) Try.underlying32 rfl ty5 rfl rfl) rfl (W_v (.int .u8 ((rd t2832 x3304).What)) (x_load (Hp.of_get hb3544) ty5 rfl (hc3547 0 _ rfl)) rfl (W_v (.int .i64 (IntKind.i64.wrap ((rd t2832 x3304).What))) (x_conv_int Try.underlying5 Try.underlying3 rfl) rfl (W_v (.int .i64 x3304) (x_move rfl) rfl (W_v (.int .i64 (Int.tmod x3304 (3 : Int))) (x_rem rfl rfl (by decide)) rfl (W_v (.int .i64 (IntKind.i64.wrap ((1 : Int) + (Int.tmod x3304 (3 : Int))))) (x_ibin rfl rfl rfl rfl) rfl (W_v (.bool ((IntKind.i64.wrap ((rd t2832 x3304).What)) != (IntKind.i64.wrap ((1 : Int) + (Int.tmod x3304 (3 : Int)))))) (x_ibin rfl rfl rfl rfl) rfl (W_v (.bool ((IntKind.i64.wrap ((rd t2832 x3304).What)) != (IntKind.i64.wrap ((1 : Int) + (Int.tmod x3304 (3 : Int)))))) (x_move rfl) rfl ?_))))))))
                  obtain ⟨o3583, o3583h, o3583H⟩ := bindS H
                  refine Wl_cutN 9 (fun ρ w' => ∃ (x3582 : Bool), (x3582) = o3583 ∧ Agree ρ [(0, .int .i64 a0), (1, .slice A1 a1.length c1), (5, .int .i64 (IntKind.i64.wrap (x1885 + (t2832.length : Int)))), (6, .int .i64 x1886), (7, .slice A2834 t2832.length c2835), (8, .int .i64 x3304), (52, .bool x3582)] ∧ Ext w w' ∧ St w' M2838 F [Row r_api_Event 32 (.slice A2834 t2832.length c2835) t2832]) ?_ ?_
                  · have H := o3583h
                    rcases iteS H with ⟨hb3581, H⟩ | ⟨hb3581, H⟩
                    · skip
                      refine W_no (skF hb3581) rfl (W_no (skF hb3581) rfl (W_no (skF hb3581) rfl (W_no (skF hb3581) rfl (W_no (skF hb3581) rfl (W_no (skF hb3581) rfl (W_no (skF hb3581) rfl (W_no (skF hb3581) rfl (W_v (.bool true) (x_pick (k := true) (congrArg Value.bool hb3581) rfl) rfl (Wl_nil ?_)))))))))
                      exact ⟨true, Option.some.inj H, ⟨rfl, rfl, rfl, rfl, rfl, rfl, rfl, trivial⟩, E, S.pick [0] (by decide)⟩
                    · skip
                      refine W_yes (congrArg some hb3581) (W_v (.slice A2834 t2832.length c2835) (x_move rfl) rfl (W_yes (congrArg some hb3581) (W_v (.int .i64 x3304) (x_move rfl) rfl (W_yes (congrArg some hb3581) ?_))))
                      obtain ⟨⟨p3584, p3585⟩, H⟩ := chkS H
                      obtain ⟨b3586, o3587, cs3588, _, _, ee3593, hb3589, vs3590, hR3591, hc3592⟩ := SlW.at' (S.row_read 0 rfl) p3584 p3585
                      obtain ⟨v3597, hs3596, rfl⟩ := hR3591
                      obtain ⟨A3594, c3595, rfl, _⟩ := hs3596.form
                      refine W_v (.pointer (some ⟨b3586, o3587 + x3304.toNat * 7, none⟩)) (x_indexAddr Try.underlying22 ty32 (slA ee3593) rfl p3584 p3585) rfl (W_yes (congrArg some hb3581) (W_v (.pointer (some ⟨b3586, o3587 + x3304.toNat * 7 + 2, none⟩)) (x_fieldAddr (o := o3587 + x3304.toNat * 7) (off := 2) Try.underlying32 rfl ty3 rfl rfl) rfl (W_yes (congrArg some hb3581) (W_v (.int .i64 ((rd t2832 x3304).Call)) (x_load (Hp.of_get hb3589) ty3 rfl (hc3592 2 _ rfl)) rfl (W_yes (congrArg some hb3581) (W_v (.int .i64 x3304) (x_move rfl) rfl (W_yes (congrArg some hb3581) (W_v (.int .i64 (IntKind.i64.wrap (Int.tdiv x3304 (3 : Int)))) (x_quo rfl rfl (by decide)) rfl (W_yes (congrArg some hb3581) (W_v (.bool ((rd t2832 x3304).Call != (IntKind.i64.wrap (Int.tdiv x3304 (3 : Int))))) (x_ibin rfl rfl rfl rfl) rfl (W_v (.bool ((rd t2832 x3304).Call != (IntKind.i64.wrap (Int.tdiv x3304 (3 : Int))))) (x_pick (k := false) (congrArg Value.bool hb3581) rfl) rfl (Wl_nil ?_))))))))))))
                      exact ⟨((rd t2832 x3304).Call != (IntKind.i64.wrap (Int.tdiv x3304 (3 : Int)))), Option.some.inj H, ⟨rfl, rfl, rfl, rfl, rfl, rfl, rfl, trivial⟩, E, S.pick [0] (by decide)⟩
                  as_aux_lemma =>
                  rintro ρ w3598 ⟨x3582, rfl, hρ, E, S⟩
                  rw [agree_eta hρ]
                  have H := o3583H
                  refine W_v (.bool x3582) (x_move rfl) rfl ?_
                  obtain ⟨o3711, o3711h, o3711H⟩ := bindS H
                  refine Wl_cutN 14 (fun ρ w' => ∃ (x3710 : Bool), (x3710) = o3711 ∧ Agree ρ [(0, .int .i64 a0), (1, .slice A1 a1.length c1), (5, .int .i64 (IntKind.i64.wrap (x1885 + (t2832.length : Int)))), (6, .int .i64 x1886), (7, .slice A2834 t2832.length c2835), (8, .int .i64 x3304), (67, .bool x3710)] ∧ Ext w w' ∧ St w' M2838 F [Row r_api_Event 32 (.slice A2834 t2832.length c2835) t2832]) ?_ ?_
                  · as_aux_lemma =>
                      have H := o3711h
                      rcases iteS H with ⟨hb3709, H⟩ | ⟨hb3709, H⟩
                      · skip
                        refine W_no (skF hb3709) rfl (W_no (skF hb3709) rfl (W_no (skF hb3709) rfl (W_no (skF hb3709) rfl (W_no (rfl) rfl (W_no (rfl) rfl (W_no (rfl) rfl (W_no (rfl) rfl (W_no (rfl) rfl (W_no (rfl) rfl (W_no (rfl) rfl (W_no (rfl) rfl (W_no (skF hb3709) rfl (W_v (.bool true) (x_pick (k := true) (congrArg Value.bool hb3709) rfl) rfl (Wl_nil ?_))))))))))))))
                        exact ⟨true, Option.some.inj H, ⟨rfl, rfl, rfl, rfl, rfl, rfl, rfl, trivial⟩, E, S.pick [0] (by decide)⟩
                      · skip
                        refine W_yes (congrArg some hb3709) (W_v (.int .i64 x3304) (x_move rfl) rfl (W_yes (congrArg some hb3709) (W_v (.int .i64 (Int.tmod x3304 (3 : Int))) (x_rem rfl rfl (by decide)) rfl (W_yes (congrArg some hb3709) (W_v (.bool ((Int.tmod x3304 (3 : Int)) != (2 : Int))) (x_ibin rfl rfl rfl rfl) rfl (W_yes (congrArg some hb3709) (W_v (.bool ((Int.tmod x3304 (3 : Int)) != (2 : Int))) (x_move rfl) rfl ?_)))))))
                        obtain ⟨o3748, o3748h, o3748H⟩ := bindS H
                        refine Wl_cutN 9 (fun ρ w' => ∃ (x3747 : Bool), (x3747) = o3748 ∧ Agree ρ [(0, .int .i64 a0), (1, .slice A1 a1.length c1), (5, .int .i64 (IntKind.i64.wrap (x1885 + (t2832.length : Int)))), (6, .int .i64 x1886), (7, .slice A2834 t2832.length c2835), (8, .int .i64 x3304), (53, .bool x3582), (54, .int .i64 x3304), (55, .int .i64 (Int.tmod x3304 (3 : Int))), (56, .bool ((Int.tmod x3304 (3 : Int)) != (2 : Int))), (57, .bool ((Int.tmod x3304 (3 : Int)) != (2 : Int))), (66, .bool x3747)] ∧ Ext w w' ∧ St w' M2838 F [Row r_api_Event 32 (.slice A2834 t2832.length c2835) t2832]) ?_ ?_
                        · as_aux_lemma =>
                            have H := o3748h
                            rcases iteS H with ⟨hb3746, H⟩ | ⟨hb3746, H⟩
                            · skip
                              refine W_yes (congrArg some hb3746) (W_v (.slice A2834 t2832.length c2835) (x_move rfl) rfl (W_yes (congrArg some hb3746) (W_v (.int .i64 x3304) (x_move rfl) rfl (W_yes (congrArg some hb3746) ?_))))
                              obtain ⟨⟨p3749, p3750⟩, H⟩ := chkS H
                              obtain ⟨b3751, o3752, cs3753, _, _, ee3758, hb3754, vs3755, hR3756, hc3757⟩ := SlW.at' (S.row_read 0 rfl) p3749 p3750
                              obtain ⟨v3762, hs3761, rfl⟩ := hR3756
                              obtain ⟨A3759, c3760, rfl, _⟩ := hs3761.form
                              refine W_v (.pointer (some ⟨b3751, o3752 + x3304.toNat * 7, none⟩)) (x_indexAddr Try.underlying22 ty32 (slA ee3758) rfl p3749 p3750) rfl (W_yes (congrArg some hb3746) (W_v (.pointer (some ⟨b3751, o3752 + x3304.toNat * 7 + 3, none⟩)) (x_fieldAddr (o := o3752 + x3304.toNat * 7) (off := 3) Try.underlying32 rfl ty30 rfl rfl) rfl (W_yes (congrArg some hb3746) (W_v (.agg #[.int .i64 ((rd t2832 x3304).Answer.Err), .bool ((rd t2832 x3304).Answer.Found), .string (bs ((rd t2832 x3304).Answer.Value)), .slice A3759 ((rd t2832 x3304).Answer.Pairs).length c3760]) (x_loadA (Hp.of_get hb3754) ty30 rfl (sub_el hc3757 3 rfl) rfl rfl) rfl (W_yes (congrArg some hb3746) (W_v (.agg #[.int .i64 0, .bool false, .string (bs ([] : Str)), .slice none 0 0]) (x_build2 (pl := [(0, 1), (1, 1), (2, 1), (3, 1)]) #[.int .i64 0, .bool false, .string (bs ([] : Str)), .slice none 0 0] Try.underlying30 ty30 (by as_aux_lemma => kernel_rfl) rfl (by as_aux_lemma => kernel_rfl)) rfl (W_yes (congrArg some hb3746) ?_)))))))
                              obtain ⟨t3763, ht3764, H⟩ := bindS H
                              refine W_callF fn36 (ferrymanref06_Answers.con k M2838 A3759 c3760 ((rd t2832 x3304).Answer) none 0 (⟨(0 : Int), false, ([] : Str), ([] : (List api_Pair))⟩ : api_Answer) t3763 hs3761 (SlW.nil _ _) ht3764) S rfl rfl (by rintro _ _ _ ⟨_, rfl⟩; exact flat_nil) ?_
                              rintro _ w3765 _ Γ' E' S ⟨rfl, rfl⟩
                              replace E := E.trans E'
                              refine W_yes (congrArg some hb3746) (W_v (.bool (!t3763)) (x_not (b := t3763) rfl) rfl (W_yes (congrArg some hb3709) (W_v (.bool (!t3763)) (x_pick (k := true) (congrArg Value.bool hb3746) rfl) rfl (Wl_nil ?_))))
                              exact ⟨(!t3763), Option.some.inj H, ⟨rfl, rfl, rfl, rfl, rfl, rfl, rfl, rfl, rfl, rfl, rfl, rfl, trivial⟩, E, S.pick [0] (by decide)⟩
                            · skip
                              refine W_no (skT hb3746) rfl (W_no (skT hb3746) rfl (W_no (skT hb3746) rfl (W_no (skT hb3746) rfl (W_no (skT hb3746) rfl (W_no (skT hb3746) rfl (W_no (skT hb3746) rfl (W_no (skT hb3746) rfl (W_yes (congrArg some hb3709) (W_v (.bool false) (x_pick (k := false) (congrArg Value.bool hb3746) rfl) rfl (Wl_nil ?_))))))))))
                              exact ⟨false, Option.some.inj H, ⟨rfl, rfl, rfl, rfl, rfl, rfl, rfl, rfl, rfl, rfl, rfl, rfl, trivial⟩, E, S.pick [0] (by decide)⟩
                        rintro ρ w3766 ⟨x3747, rfl, hρ, E, S⟩
                        rw [agree_eta hρ]
                        have H := o3748H
                        refine W_v (.bool x3747) (x_pick (k := false) (congrArg Value.bool hb3709) rfl) rfl (Wl_nil ?_)
                        exact ⟨x3747, Option.some.inj H, ⟨rfl, rfl, rfl, rfl, rfl, rfl, rfl, trivial⟩, E, S.pick [0] (by decide)⟩
                  rintro ρ w3767 ⟨x3710, rfl, hρ, E, S⟩
                  rw [agree_eta hρ]
                  have H := o3711H
                  refine Wl_nil (tn ?_)
                  rcases iteS H with ⟨hb3768, H⟩ | ⟨hb3768, H⟩
                  · refine Wp_cond_true (congrArg Value.bool hb3768) ?_
                    refine Wp_seq (Wp_region_lit (W_v (.bool false) (x_assign rfl) rfl (Wl_nil (tn ?_))))
                    refine Wp_ret ?_
                    refine br (tr (tr (br (tr (br (tr (tr (br (tr (tr (?_)))))))))))
                    obtain rfl := Option.some.inj H
                    have H := o3536H
                    replace H := elimL H
                    obtain rfl := Option.some.inj H
                    have H := o2827H
                    replace H := elimL H
                    obtain rfl := Option.some.inj H
                    exact ⟨_, _, _, fun w1 e1 => run_resR (vs := [.bool false]) (FA.cons (rfl) (FA.nil)), HM, E, S.pick [] (by decide), ⟨rfl, rfl⟩⟩
                  refine Wp_cond_false (congrArg Value.bool hb3768) (Wp_skip (bn (tn (Wp_region_lit (W_v (.int .i64 x3304) (x_move rfl) rfl (W_v (.int .i64 (IntKind.i64.wrap (x3304 + (1 : Int)))) (x_ibin rfl rfl rfl rfl) rfl (W_v (.int .i64 (IntKind.i64.wrap (x3304 + (1 : Int)))) (x_assign rfl) rfl (Wl_nil (tn ?_)))))))))
                  exact ⟨k, Nat.lt_succ_self k, ⟨(IntKind.i64.wrap (x3304 + (1 : Int))), H, ⟨rfl, rfl, rfl, rfl, rfl, rfl, trivial⟩, E, S.pick [0] (by decide)⟩⟩
                refine Wp_cond_false (congrArg Value.bool hb3538) ?_
                refine Wp_exit ?_
                refine tx (tx (bsm (?_)))
                refine tn ?_
                exact ⟨Option.some.inj H, ⟨rfl, rfl, rfl, rfl, trivial⟩, E, S.pick [] (by decide)⟩
          rintro ρ w3769 ⟨rfl, hρ, E, S⟩
          rw [agree_eta hρ]
          have H := o3536H
          replace H := elimR H
          refine bn (tn (Wp_region_lit (W_v (.int .i64 x1886) (x_move rfl) rfl (W_v (.int .i64 (IntKind.i64.wrap (x1886 + (1 : Int)))) (x_ibin rfl rfl rfl rfl) rfl (W_v (.int .i64 (IntKind.i64.wrap (x1886 + (1 : Int)))) (x_assign rfl) rfl (Wl_nil (tn ?_)))))))
          exact ⟨k, Nat.lt_succ_self k, ⟨(IntKind.i64.wrap (x1885 + (t2832.length : Int))), (IntKind.i64.wrap (x1886 + (1 : Int))), M2838, H, ⟨rfl, rfl, rfl, rfl, trivial⟩, hM2830, E, S.pick [] (by decide)⟩⟩
        refine Wp_cond_false (congrArg Value.bool hb2831) ?_
        refine Wp_exit ?_
        refine tx (tx (bsm (?_)))
        refine tn ?_
        exact ⟨x1885, M2829, Option.some.inj H, ⟨rfl, rfl, trivial⟩, hM2830, E, S.pick [] (by decide)⟩
  rintro ρ w3770 ⟨x2826, M3771, rfl, hρ, hM3772, E, S⟩
  rw [agree_eta hρ]
  replace HM := Hp.le_trans HM hM3772
  replace hr1 := SlR.mono hr1 hM3772
  have H := o2827H
  replace H := elimR H
  refine tn ?_
  as_aux_lemma =>
  refine Wp_seq (Wp_region_lit (W_v (.int .i64 x2826) (x_move rfl) rfl (W_v (.slice A1 a1.length c1) (x_move rfl) rfl (W_v (.int .i64 (a1.length : Int)) (x_len_slice (n := a1.length) Try.underlying22 rfl) rfl (W_v (.bool (x2826 == (a1.length : Int))) (x_ibin rfl rfl rfl rfl) rfl (W_v (.bool (x2826 == (a1.length : Int))) (x_assign rfl) rfl (Wl_nil (tn ?_))))))))
  refine Wp_ret ?_
  obtain rfl := Option.some.inj H
  exact ⟨_, _, _, fun w1 e1 => run_resR (vs := [.bool (x2826 == (a1.length : Int))]) (FA.cons (rfl) (FA.nil)), HM, E, S.pick [] (by decide), ⟨rfl, rfl⟩⟩
def ferrymanref06_Same_l0 (a0 : (List api_Event)) (a1 : (List api_Event)) : Nat → Int → Option ((Bool) ⊕ (Unit))
  | 0, _ => none
  | k + 1, x868 => (if (decide (x868 < (a0.length : Int))) = true then (if 0 ≤ x868 ∧ x868 < (a0.length : Int) then (if 0 ≤ x868 ∧ x868 < (a1.length : Int) then (Option.bind (α := Bool) (if ((rd a0 x868).What != (rd a1 x868).What) = true then some (true) else (if 0 ≤ x868 ∧ x868 < (a0.length : Int) then (if 0 ≤ x868 ∧ x868 < (a1.length : Int) then some (((rd a0 x868).Task != (rd a1 x868).Task)) else none) else none)) (fun x1577 => (Option.bind (α := Bool) (if x1577 = true then some (true) else (if 0 ≤ x868 ∧ x868 < (a0.length : Int) then (if 0 ≤ x868 ∧ x868 < (a1.length : Int) then some (((rd a0 x868).Call != (rd a1 x868).Call)) else none) else none)) (fun x1637 => (Option.bind (α := Bool) (if x1637 = true then some (true) else (if 0 ≤ x868 ∧ x868 < (a0.length : Int) then (if 0 ≤ x868 ∧ x868 < (a1.length : Int) then (Option.bind (ferrymanref06_Answers k ((rd a0 x868).Answer) ((rd a1 x868).Answer)) (fun t1730 => some ((!t1730)))) else none) else none)) (fun x1700 => (if x1700 = true then some (.inl false) else ferrymanref06_Same_l0 a0 a1 k (IntKind.i64.wrap (x868 + (1 : Int)))))))))) else none) else none) else some (.inr ()))
set_option maxHeartbeats 2000000 in
theorem ferrymanref06_Same_l0.mono {a0 : (List api_Event)} {a1 : (List api_Event)} : ∀ {kl : Nat} {x0}, OLe (ferrymanref06_Same_l0 a0 a1 kl x0) (ferrymanref06_Same_l0 a0 a1 (kl + 1) x0) := by
  intro kl
  induction kl with
  | zero => intros; exact OLe.none
  | succ kl ih =>
    intros
    rw [ferrymanref06_Same_l0.eq_2, ferrymanref06_Same_l0.eq_2]
    repeat' (first | with_reducible exact OLe.none | with_reducible exact OLe.some | with_reducible refine OLe.ite ?_ ?_ | with_reducible refine OLe.bind ?_ (fun _ => ?_) | with_reducible exact ferrymanref06_Answers.mono | exact ih | refine OLe.bind ?_ (fun _ => ?_) | refine OLe.ite ?_ ?_ | refine OLe.elim (fun _ => ?_) (fun _ => ?_) | split)
def ferrymanref06_Same (k : Nat) (a0 : (List api_Event)) (a1 : (List api_Event)) : Option (Bool) :=
  (if ((a0.length : Int) != (a1.length : Int)) = true then some false else (Option.bind (ferrymanref06_Same_l0 a0 a1 k (0 : Int)) (fun o1301o => Sum.elim (fun r' => some r') (fun _ => some true) o1301o)))
set_option maxHeartbeats 2000000 in
theorem ferrymanref06_Same.mono {k : Nat} {a0 : (List api_Event)} {a1 : (List api_Event)} : OLe (ferrymanref06_Same k a0 a1) (ferrymanref06_Same (k + 1) a0 a1) := by
  unfold ferrymanref06_Same
  repeat' (first | with_reducible exact OLe.none | with_reducible exact OLe.some | with_reducible refine OLe.ite ?_ ?_ | with_reducible refine OLe.bind ?_ (fun _ => ?_) | with_reducible exact ferrymanref06_Same_l0.mono | refine OLe.bind ?_ (fun _ => ?_) | refine OLe.ite ?_ ?_ | refine OLe.elim (fun _ => ?_) (fun _ => ?_) | split)
set_option maxHeartbeats 1000000 in
set_option maxRecDepth 100000 in
theorem ferrymanref06_Same.con (k : Nat) (M : Hp) (A0 : Option Addr) (c0 : Nat) (a0 : (List api_Event)) (A1 : Option Addr) (c1 : Nat) (a1 : (List api_Event)) (r : Bool) (hr0 : SlR r_api_Event M (.slice A0 a0.length c0) a0) (hr1 : SlR r_api_Event M (.slice A1 a1.length c1) a1) (h : ferrymanref06_Same k a0 a1 = some r) : Con Try.prog 18 #[.slice A0 a0.length c0, .slice A1 a1.length c1] M [] (fun v M' Γ' => v = .bool r ∧ Γ' = []) := by
  refine con_of_wp Try.func18 rfl Try.ntmps18 Try.results18 rfl ?_
  intro w F rn S hrn
  have E := Ext.refl w
  have HM := Hp.le_refl M
  have H := h
  unfold ferrymanref06_Same at H
  refine Wp_seq (Wp_region_lit (W_v (.bool false) (x_assign rfl) rfl (Wl_nil (tn (Wp_seq (Wp_seq (Wp_region_lit (W_v (.slice A0 a0.length c0) (x_move rfl) rfl (W_v (.int .i64 (a0.length : Int)) (x_len_slice (n := a0.length) Try.underlying22 rfl) rfl (W_v (.slice A1 a1.length c1) (x_move rfl) rfl (W_v (.int .i64 (a1.length : Int)) (x_len_slice (n := a1.length) Try.underlying22 rfl) rfl (W_v (.bool ((a0.length : Int) != (a1.length : Int))) (x_ibin rfl rfl rfl rfl) rfl (Wl_nil (tn ?_))))))))))))))
  rcases iteS H with ⟨hb1, H⟩ | ⟨hb1, H⟩
  · refine Wp_cond_true (congrArg Value.bool hb1) ?_
    refine Wp_seq (Wp_region_lit (W_v (.bool false) (x_assign rfl) rfl (Wl_nil (tn ?_))))
    refine Wp_ret ?_
    refine tr (?_)
    obtain rfl := Option.some.inj H
    exact ⟨_, _, _, fun w1 e1 => run_resR (vs := [.bool false]) (FA.cons (rfl) (FA.nil)), HM, E, S.pick [] (by decide), ⟨rfl, rfl⟩⟩
  refine Wp_cond_false (congrArg Value.bool hb1) (Wp_skip (tn (Wp_seq (Wp_seq (Wp_region_lit (W_v (.int .i64 0) (x_assign rfl) rfl (Wl_nil (tn ?_))))))))
  obtain ⟨o1301, o1301h, o1301H⟩ := bindS H
  refine Wp_blockJ (fun ρ w' => .inr () = o1301 ∧ Agree ρ [] ∧ Ext w w' ∧ St w' M F []) ?_ ?_
  · skip
    refine Wp_loop (fun n ρ w' => ∃ (x868 : Int), ferrymanref06_Same_l0 a0 a1 n x868 = some o1301 ∧ Agree ρ [(0, .slice A0 a0.length c0), (1, .slice A1 a1.length c1), (5, .int .i64 x868)] ∧ Ext w w' ∧ St w' M F []) k ?_ ?_
    · skip
      exact ⟨(0 : Int), o1301h, ⟨rfl, rfl, rfl, trivial⟩, E, S.pick [] (by decide)⟩
    · intro n
      rintro ρ w1302 ⟨x868, H, hρ, E, S⟩
      rw [agree_eta hρ]
      cases n with
      | zero => cases H
      | succ k =>
        rw [ferrymanref06_Same_l0.eq_2] at H
        refine Wp_seq (Wp_seq (Wp_region_lit (W_v (.int .i64 x868) (x_move rfl) rfl (W_v (.slice A0 a0.length c0) (x_move rfl) rfl (W_v (.int .i64 (a0.length : Int)) (x_len_slice (n := a0.length) Try.underlying22 rfl) rfl (W_v (.bool (decide (x868 < (a0.length : Int)))) (x_ibin rfl rfl rfl rfl) rfl (Wl_nil (tn ?_))))))))
        rcases iteS H with ⟨hb1303, H⟩ | ⟨hb1303, H⟩
        · refine Wp_cond_true (congrArg Value.bool hb1303) ?_
          refine Wp_skip (tn (Wp_seq ?_))
          refine Wp_block ?_
          refine Wp_seq ?_
          refine Wp_region_any (S := fun w' => ∃ Mx, M.le Mx ∧ St w' Mx F []) (L := 51) mixed ?_
          intro w1518 hw1519 E'
          replace S := S.heap hw1519
          replace E := E.trans E'
          have D1 : ∃ Mx, Hp.le M Mx ∧ St _ Mx F [] := ⟨_, Hp.le_refl _, S.pick [] (by decide)⟩
          refine Wa_take (i := 0) rfl (by kernel_rfl) rfl rfl (.slice A0 a0.length c0) rfl (fun w' h' => x_move rfl) D1 (Wa_take (i := 1) rfl (by kernel_rfl) rfl rfl (.int .i64 x868) rfl (fun w' h' => x_move rfl) D1 ?_)
          obtain ⟨⟨p1520, p1521⟩, H⟩ := chkS H
          obtain ⟨b1522, o1523, cs1524, _, _, ee1529, hb1525, vs1526, hR1527, hc1528⟩ := SlW.at' hr0 p1520 p1521
          obtain ⟨v1533, hs1532, rfl⟩ := hR1527
          obtain ⟨A1530, c1531, rfl, _⟩ := hs1532.form
          have hs1532z := hs1532
          refine Wa_take (i := 2) rfl (by kernel_rfl) rfl rfl (.pointer (some ⟨b1522, o1523 + x868.toNat * 7, none⟩)) rfl (fun w' h' => x_indexAddr Try.underlying22 ty32 (slA ee1529) rfl p1520 p1521) D1 (Wa_take (i := 3) rfl (by kernel_rfl) rfl rfl (.pointer (some ⟨b1522, o1523 + x868.toNat * 7, none⟩)) rfl (fun w' h' => x_fieldAddr (o := o1523 + x868.toNat * 7) (off := 0) Try.underlying32 rfl ty5 rfl rfl) D1 (Wa_take (i := 4) rfl (by kernel_rfl) rfl rfl (.int .u8 ((rd a0 x868).What)) rfl (fun w' h' => x_load (cls_frz h' hb1525) ty5 rfl (hc1528 0 _ rfl)) D1 (Wa_take (i := 5) rfl (by kernel_rfl) rfl rfl (.slice A1 a1.length c1) rfl (fun w' h' => x_move rfl) D1 (Wa_take (i := 6) rfl (by kernel_rfl) rfl rfl (.int .i64 x868) rfl (fun w' h' => x_move rfl) D1 ?_))))
          obtain ⟨⟨p1534, p1535⟩, H⟩ := chkS H
          obtain ⟨b1536, o1537, cs1538, _, _, ee1543, hb1539, vs1540, hR1541, hc1542⟩ := SlW.at' hr1 p1534 p1535
          obtain ⟨v1547, hs1546, rfl⟩ := hR1541
          obtain ⟨A1544, c1545, rfl, _⟩ := hs1546.form
          have hs1546z := hs1546
          refine Wa_take (i := 7) rfl (by kernel_rfl) rfl rfl (.pointer (some ⟨b1536, o1537 + x868.toNat * 7, none⟩)) rfl (fun w' h' => x_indexAddr Try.underlying22 ty32 (slA ee1543) rfl p1534 p1535) D1 (Wa_take (i := 8) rfl (by kernel_rfl) rfl rfl (.pointer (some ⟨b1536, o1537 + x868.toNat * 7, none⟩)) rfl (fun w' h' => x_fieldAddr (o := o1537 + x868.toNat * 7) (off := 0) Try.underlying32 rfl ty5 rfl rfl) D1 (Wa_take (i := 9) rfl (by kernel_rfl) rfl rfl (.int .u8 ((rd a1 x868).What)) rfl (fun w' h' => x_load (cls_frz h' hb1539) ty5 rfl (hc1542 0 _ rfl)) D1 (Wa_take (i := 10) rfl (by kernel_rfl) rfl rfl (.bool ((rd a0 x868).What != (rd a1 x868).What)) rfl (fun w' h' => x_ibin rfl rfl rfl rfl) D1 (Wa_take (i := 11) rfl (by kernel_rfl) rfl rfl (.bool ((rd a0 x868).What != (rd a1 x868).What)) rfl (fun w' h' => x_move rfl) D1 ?_))))
          obtain ⟨o1578, o1578h, o1578H⟩ := bindS H
          refine Wa_join (fun ρ w' => ∃ (x1577 : Bool), (x1577) = o1578 ∧ Agree ρ [(0, .slice A0 a0.length c0), (1, .slice A1 a1.length c1), (5, .int .i64 x868), (40, .bool x1577)] ∧ Ext w w' ∧ St w' M F []) 27 (Ls 51 [0, 1, 2, 3, 4, 5, 6, 7, 8, 9, 10, 11, 12, 13, 14, 15, 16, 17, 18, 19, 20, 21, 22, 23]) ?_ ?_
          rotate_left
          · intro hrest
            have H := o1578h
            rcases iteS H with ⟨hb1576, H⟩ | ⟨hb1576, H⟩
            · skip
              have D2 : ∃ Mx, Hp.le M Mx ∧ St _ Mx F [] := ⟨_, Hp.le_refl _, S.pick [] (by decide)⟩
              refine Wa_takeN (i := 12) rfl (by kernel_rfl) rfl rfl rfl (skF hb1576) D2 (Wa_takeN (i := 13) rfl (by kernel_rfl) rfl rfl rfl (skF hb1576) D2 (Wa_takeN (i := 14) rfl (by kernel_rfl) rfl rfl rfl (skF hb1576) D2 (Wa_takeN (i := 15) rfl (by kernel_rfl) rfl rfl rfl (skF hb1576) D2 (Wa_takeN (i := 16) rfl (by kernel_rfl) rfl rfl rfl (skF hb1576) D2 (Wa_takeN (i := 17) rfl (by kernel_rfl) rfl rfl rfl (skF hb1576) D2 (Wa_takeN (i := 18) rfl (by kernel_rfl) rfl rfl rfl (skF hb1576) D2 (Wa_takeN (i := 19) rfl (by kernel_rfl) rfl rfl rfl (skF hb1576) D2 (Wa_takeN (i := 20) rfl (by kernel_rfl) rfl rfl rfl (skF hb1576) D2 (Wa_takeN (i := 21) rfl (by kernel_rfl) rfl rfl rfl (skF hb1576) D2 (Wa_takeN (i := 22) rfl (by kernel_rfl) rfl rfl rfl (skF hb1576) D2 (Wa_take (i := 23) rfl (by kernel_rfl) rfl rfl (.bool true) rfl (fun w' h' => x_pick (k := true) (congrArg Value.bool hb1576) rfl) D2 ?_)))))))))))
              exact hrest _ _ ⟨true, Option.some.inj H, ⟨rfl, rfl, rfl, rfl, trivial⟩, E, S.pick [] (by decide)⟩
            · skip
              have D3 : ∃ Mx, Hp.le M Mx ∧ St _ Mx F [] := ⟨_, Hp.le_refl _, S.pick [] (by decide)⟩
              refine Wa_takeY (i := 12) rfl (by kernel_rfl) rfl rfl (.slice A0 a0.length c0) rfl (congrArg some hb1576) (fun w' h' => x_move rfl) D3 (Wa_takeY (i := 13) rfl (by kernel_rfl) rfl rfl (.int .i64 x868) rfl (congrArg some hb1576) (fun w' h' => x_move rfl) D3 ?_)
              obtain ⟨⟨p1579, p1580⟩, H⟩ := chkS H
              obtain ⟨b1581, o1582, cs1583, _, _, ee1588, hb1584, vs1585, hR1586, hc1587⟩ := SlW.at' hr0 p1579 p1580
              obtain ⟨v1592, hs1591, rfl⟩ := hR1586
              obtain ⟨A1589, c1590, rfl, _⟩ := hs1591.form
              have hs1591z := hs1591
              refine Wa_takeY (i := 14) rfl (by kernel_rfl) rfl rfl (.pointer (some ⟨b1581, o1582 + x868.toNat * 7, none⟩)) rfl (congrArg some hb1576) (fun w' h' => x_indexAddr Try.underlying22 ty32 (slA ee1588) rfl p1579 p1580) D3 (Wa_takeY (i := 15) rfl (by kernel_rfl) rfl rfl (.pointer (some ⟨b1581, o1582 + x868.toNat * 7 + 1, none⟩)) rfl (congrArg some hb1576) (fun w' h' => x_fieldAddr (o := o1582 + x868.toNat * 7) (off := 1) Try.underlying32 rfl ty3 rfl rfl) D3 (Wa_takeY (i := 16) rfl (by kernel_rfl) rfl rfl (.int .i64 ((rd a0 x868).Task)) rfl (congrArg some hb1576) (fun w' h' => x_load (cls_frz h' hb1584) ty3 rfl (hc1587 1 _ rfl)) D3 (Wa_takeY (i := 17) rfl (by kernel_rfl) rfl rfl (.slice A1 a1.length c1) rfl (congrArg some hb1576) (fun w' h' => x_move rfl) D3 (Wa_takeY (i := 18) rfl (by kernel_rfl) rfl rfl (.int .i64 x868) rfl (congrArg some hb1576) (fun w' h' => x_move rfl) D3 ?_))))
              obtain ⟨⟨p1593, p1594⟩, H⟩ := chkS H
              obtain ⟨b1595, o1596, cs1597, _, _, ee1602, hb1598, vs1599, hR1600, hc1601⟩ := SlW.at' hr1 p1593 p1594
              obtain ⟨v1606, hs1605, rfl⟩ := hR1600
              obtain ⟨A1603, c1604, rfl, _⟩ := hs1605.form
              have hs1605z := hs1605
              refine Wa_takeY (i := 19) rfl (by kernel_rfl) rfl rfl (.pointer (some ⟨b1595, o1596 + x868.toNat * 7, none⟩)) rfl (congrArg some hb1576) (fun w' h' => x_indexAddr Try.underlying22 ty32 (slA ee1602) rfl p1593 p1594) D3 (Wa_takeY (i := 20) rfl (by kernel_rfl) rfl rfl (.pointer (some ⟨b1595, o1596 + x868.toNat * 7 + 1, none⟩)) rfl (congrArg some hb1576) (fun w' h' => x_fieldAddr (o := o1596 + x868.toNat * 7) (off := 1) Try.underlying32 rfl ty3 rfl rfl) D3 (Wa_takeY (i := 21) rfl (by kernel_rfl) rfl rfl (.int .i64 ((rd a1 x868).Task)) rfl (congrArg some hb1576) (fun w' h' => x_load (cls_frz h' hb1598) ty3 rfl (hc1601 1 _ rfl)) D3 (Wa_takeY (i := 22) rfl (by kernel_rfl) rfl rfl (.bool ((rd a0 x868).Task != (rd a1 x868).Task)) rfl (congrArg some hb1576) (fun w' h' => x_ibin rfl rfl rfl rfl) D3 (Wa_take (i := 23) rfl (by kernel_rfl) rfl rfl (.bool ((rd a0 x868).Task != (rd a1 x868).Task)) rfl (fun w' h' => x_pick (k := false) (congrArg Value.bool hb1576) rfl) D3 ?_))))
              exact hrest _ _ ⟨((rd a0 x868).Task != (rd a1 x868).Task), Option.some.inj H, ⟨rfl, rfl, rfl, rfl, trivial⟩, E, S.pick [] (by decide)⟩
          rintro ρ w1607 ⟨x1577, rfl, hρ, E, S⟩
          rw [agree_eta hρ]
          have H := o1578H
          refine Wa_take (i := 24) rfl (by kernel_rfl) rfl rfl (.bool x1577) rfl (fun w' h' => x_move rfl) (⟨M, Hp.le_refl M, (S.pick [] (by decide))⟩) ?_
          obtain ⟨o1638, o1638h, o1638H⟩ := bindS H
          refine Wa_join (fun ρ w' => ∃ (x1637 : Bool), (x1637) = o1638 ∧ Agree ρ [(0, .slice A0 a0.length c0), (1, .slice A1 a1.length c1), (5, .int .i64 x868), (53, .bool x1637)] ∧ Ext w w' ∧ St w' M F []) 14 (Ls 51 [0, 1, 2, 3, 4, 5, 6, 7, 8, 9, 10, 11, 12, 13, 14, 15, 16, 17, 18, 19, 20, 21, 22, 23, 24, 25, 26, 27, 28, 29, 30, 31, 32, 33, 34, 35, 36]) ?_ ?_
          rotate_left
          · intro hrest
            have H := o1638h
            rcases iteS H with ⟨hb1636, H⟩ | ⟨hb1636, H⟩
            · skip
              have D5 : ∃ Mx, Hp.le M Mx ∧ St _ Mx F [] := ⟨_, Hp.le_refl _, S.pick [] (by decide)⟩
              refine Wa_takeN (i := 25) rfl (by kernel_rfl) rfl rfl rfl (skF hb1636) D5 (Wa_takeN (i := 26) rfl (by kernel_rfl) rfl rfl rfl (skF hb1636) D5 (Wa_takeN (i := 27) rfl (by kernel_rfl) rfl rfl rfl (skF hb1636) D5 (Wa_takeN (i := 28) rfl (by kernel_rfl) rfl rfl rfl (skF hb1636) D5 (Wa_takeN (i := 29) rfl (by kernel_rfl) rfl rfl rfl (skF hb1636) D5 (Wa_takeN (i := 30) rfl (by kernel_rfl) rfl rfl rfl (skF hb1636) D5 (Wa_takeN (i := 31) rfl (by kernel_rfl) rfl rfl rfl (skF hb1636) D5 (Wa_takeN (i := 32) rfl (by kernel_rfl) rfl rfl rfl (skF hb1636) D5 (Wa_takeN (i := 33) rfl (by kernel_rfl) rfl rfl rfl (skF hb1636) D5 (Wa_takeN (i := 34) rfl (by kernel_rfl) rfl rfl rfl (skF hb1636) D5 (Wa_takeN (i := 35) rfl (by kernel_rfl) rfl rfl rfl (skF hb1636) D5 (Wa_take (i := 36) rfl (by kernel_rfl) rfl rfl (.bool true) rfl (fun w' h' => x_pick (k := true) (congrArg Value.bool hb1636) rfl) D5 ?_)))))))))))
              exact hrest _ _ ⟨true, Option.some.inj H, ⟨rfl, rfl, rfl, rfl, trivial⟩, E, S.pick [] (by decide)⟩
            · skip
              have D6 : ∃ Mx, Hp.le M Mx ∧ St _ Mx F [] := ⟨_, Hp.le_refl _, S.pick [] (by decide)⟩
              refine Wa_takeY (i := 25) rfl (by kernel_rfl) rfl rfl (.slice A0 a0.length c0) rfl (congrArg some hb1636) (fun w' h' => x_move rfl) D6 (Wa_takeY (i := 26) rfl (by kernel_rfl) rfl rfl (.int .i64 x868) rfl (congrArg some hb1636) (fun w' h' => x_move rfl) D6 ?_)
              obtain ⟨⟨p1639, p1640⟩, H⟩ := chkS H
              obtain ⟨b1641, o1642, cs1643, _, _, ee1648, hb1644, vs1645, hR1646, hc1647⟩ := SlW.at' hr0 p1639 p1640
              obtain ⟨v1652, hs1651, rfl⟩ := hR1646
              obtain ⟨A1649, c1650, rfl, _⟩ := hs1651.form
              have hs1651z := hs1651
              refine Wa_takeY (i := 27) rfl (by kernel_rfl) rfl rfl (.pointer (some ⟨b1641, o1642 + x868.toNat * 7, none⟩)) rfl (congrArg some hb1636) (fun w' h' => x_indexAddr Try.underlying22 ty32 (slA ee1648) rfl p1639 p1640) D6 (Wa_takeY (i := 28) rfl (by kernel_rfl) rfl rfl (.pointer (some ⟨b1641, o1642 + x868.toNat * 7 + 2, none⟩)) rfl (congrArg some hb1636) (fun w' h' => x_fieldAddr (o := o1642 + x868.toNat * 7) (off := 2) Try.underlying32 rfl ty3 rfl rfl) D6 (Wa_takeY (i := 29) rfl (by kernel_rfl) rfl rfl (.int .i64 ((rd a0 x868).Call)) rfl (congrArg some hb1636) (fun w' h' => x_load (cls_frz h' hb1644) ty3 rfl (hc1647 2 _ rfl)) D6 (Wa_takeY (i := 30) rfl (by kernel_rfl) rfl rfl (.slice A1 a1.length c1) rfl (congrArg some hb1636) (fun w' h' => x_move rfl) D6 (Wa_takeY (i := 31) rfl (by kernel_rfl) rfl rfl (.int .i64 x868) rfl (congrArg some hb1636) (fun w' h' => x_move rfl) D6 ?_))))
              obtain ⟨⟨p1653, p1654⟩, H⟩ := chkS H
              obtain ⟨b1655, o1656, cs1657, _, _, ee1662, hb1658, vs1659, hR1660, hc1661⟩ := SlW.at' hr1 p1653 p1654
              obtain ⟨v1666, hs1665, rfl⟩ := hR1660
              obtain ⟨A1663, c1664, rfl, _⟩ := hs1665.form
              have hs1665z := hs1665
              refine Wa_takeY (i := 32) rfl (by kernel_rfl) rfl rfl (.pointer (some ⟨b1655, o1656 + x868.toNat * 7, none⟩)) rfl (congrArg some hb1636) (fun w' h' => x_indexAddr Try.underlying22 ty32 (slA ee1662) rfl p1653 p1654) D6 (Wa_takeY (i := 33) rfl (by kernel_rfl) rfl rfl (.pointer (some ⟨b1655, o1656 + x868.toNat * 7 + 2, none⟩)) rfl (congrArg some hb1636) (fun w' h' => x_fieldAddr (o := o1656 + x868.toNat * 7) (off := 2) Try.underlying32 rfl ty3 rfl rfl) D6 (Wa_takeY (i := 34) rfl (by kernel_rfl) rfl rfl (.int .i64 ((rd a1 x868).Call)) rfl (congrArg some hb1636) (fun w' h' => x_load (cls_frz h' hb1658) ty3 rfl (hc1661 2 _ rfl)) D6 (Wa_takeY (i := 35) rfl (by kernel_rfl) rfl rfl (.bool ((rd a0 x868).Call != (rd a1 x868).Call)) rfl (congrArg some hb1636) (fun w' h' => x_ibin rfl rfl rfl rfl) D6 (Wa_take (i := 36) rfl (by kernel_rfl) rfl rfl (.bool ((rd a0 x868).Call != (rd a1 x868).Call)) rfl (fun w' h' => x_pick (k := false) (congrArg Value.bool hb1636) rfl) D6 ?_))))
              exact hrest _ _ ⟨((rd a0 x868).Call != (rd a1 x868).Call), Option.some.inj H, ⟨rfl, rfl, rfl, rfl, trivial⟩, E, S.pick [] (by decide)⟩
          rintro ρ w1667 ⟨x1637, rfl, hρ, E, S⟩
          rw [agree_eta hρ]
          have H := o1638H
          refine Wa_take (i := 37) rfl (by kernel_rfl) rfl rfl (.bool x1637) rfl (fun w' h' => x_move rfl) (⟨M, Hp.le_refl M, (S.pick [] (by decide))⟩) ?_
          obtain ⟨o1701, o1701h, o1701H⟩ := bindS H
          refine Wa_join (fun ρ w' => ∃ (x1700 : Bool), (x1700) = o1701 ∧ Agree ρ [(0, .slice A0 a0.length c0), (1, .slice A1 a1.length c1), (5, .int .i64 x868), (67, .bool x1700)] ∧ Ext w w' ∧ St w' M F []) 0 (Ls 51 [0, 1, 2, 3, 4, 5, 6, 7, 8, 9, 10, 11, 12, 13, 14, 15, 16, 17, 18, 19, 20, 21, 22, 23, 24, 25, 26, 27, 28, 29, 30, 31, 32, 33, 34, 35, 36, 37, 38, 39, 40, 41, 42, 43, 44, 45, 46, 47, 48, 49, 50]) ?_ ?_
          rotate_left
          · intro hrest
            have H := o1701h
            rcases iteS H with ⟨hb1699, H⟩ | ⟨hb1699, H⟩
            · skip
              have D8 : ∃ Mx, Hp.le M Mx ∧ St _ Mx F [] := ⟨_, Hp.le_refl _, S.pick [] (by decide)⟩
              refine Wa_takeN (i := 38) rfl (by kernel_rfl) rfl rfl rfl (skF hb1699) D8 (Wa_takeN (i := 39) rfl (by kernel_rfl) rfl rfl rfl (skF hb1699) D8 (Wa_takeN (i := 40) rfl (by kernel_rfl) rfl rfl rfl (skF hb1699) D8 (Wa_takeN (i := 41) rfl (by kernel_rfl) rfl rfl rfl (skF hb1699) D8 (Wa_takeN (i := 42) rfl (by kernel_rfl) rfl rfl rfl (skF hb1699) D8 (Wa_takeN (i := 43) rfl (by kernel_rfl) rfl rfl rfl (skF hb1699) D8 (Wa_takeN (i := 44) rfl (by kernel_rfl) rfl rfl rfl (skF hb1699) D8 (Wa_takeN (i := 45) rfl (by kernel_rfl) rfl rfl rfl (skF hb1699) D8 (Wa_takeN (i := 46) rfl (by kernel_rfl) rfl rfl rfl (skF hb1699) D8 (Wa_takeN (i := 47) rfl (by kernel_rfl) rfl rfl rfl (skF hb1699) D8 (Wa_takeN (i := 48) rfl (by kernel_rfl) rfl rfl rfl (skF hb1699) D8 (Wa_takeN (i := 49) rfl (by kernel_rfl) rfl rfl rfl (skF hb1699) D8 (Wa_take (i := 50) rfl (by kernel_rfl) rfl rfl (.bool true) rfl (fun w' h' => x_pick (k := true) (congrArg Value.bool hb1699) rfl) D8 ?_))))))))))))
              exact hrest _ _ ⟨true, Option.some.inj H, ⟨rfl, rfl, rfl, rfl, trivial⟩, E, S.pick [] (by decide)⟩
            · skip
              have D9 : ∃ Mx, Hp.le M Mx ∧ St _ Mx F [] := ⟨_, Hp.le_refl _, S.pick [] (by decide)⟩
              refine Wa_takeY (i := 38) rfl (by kernel_rfl) rfl rfl (.slice A0 a0.length c0) rfl (congrArg some hb1699) (fun w' h' => x_move rfl) D9 (Wa_takeY (i := 39) rfl (by kernel_rfl) rfl rfl (.int .i64 x868) rfl (congrArg some hb1699) (fun w' h' => x_move rfl) D9 ?_)
              obtain ⟨⟨p1702, p1703⟩, H⟩ := chkS H
              obtain ⟨b1704, o1705, cs1706, _, _, ee1711, hb1707, vs1708, hR1709, hc1710⟩ := SlW.at' hr0 p1702 p1703
              obtain ⟨v1715, hs1714, rfl⟩ := hR1709
              obtain ⟨A1712, c1713, rfl, _⟩ := hs1714.form
              have hs1714z := hs1714
              refine Wa_takeY (i := 40) rfl (by kernel_rfl) rfl rfl (.pointer (some ⟨b1704, o1705 + x868.toNat * 7, none⟩)) rfl (congrArg some hb1699) (fun w' h' => x_indexAddr Try.underlying22 ty32 (slA ee1711) rfl p1702 p1703) D9 (Wa_takeY (i := 41) rfl (by kernel_rfl) rfl rfl (.pointer (some ⟨b1704, o1705 + x868.toNat * 7 + 3, none⟩)) rfl (congrArg some hb1699) (fun w' h' => x_fieldAddr (o := o1705 + x868.toNat * 7) (off := 3) Try.underlying32 rfl ty30 rfl rfl) D9 (Wa_takeY (i := 42) rfl (by kernel_rfl) rfl rfl (.agg #[.int .i64 ((rd a0 x868).Answer.Err), .bool ((rd a0 x868).Answer.Found), .string (bs ((rd a0 x868).Answer.Value)), .slice A1712 ((rd a0 x868).Answer.Pairs).length c1713]) rfl (congrArg some hb1699) (fun w' h' => x_loadA (cls_frz h' hb1707) ty30 rfl (sub_el hc1710 3 rfl) rfl rfl) D9 (Wa_takeY (i := 43) rfl (by kernel_rfl) rfl rfl (.slice A1 a1.length c1) rfl (congrArg some hb1699) (fun w' h' => x_move rfl) D9 (Wa_takeY (i := 44) rfl (by kernel_rfl) rfl rfl (.int .i64 x868) rfl (congrArg some hb1699) (fun w' h' => x_move rfl) D9 ?_))))
              obtain ⟨⟨p1716, p1717⟩, H⟩ := chkS H
              obtain ⟨b1718, o1719, cs1720, _, _, ee1725, hb1721, vs1722, hR1723, hc1724⟩ := SlW.at' hr1 p1716 p1717
              obtain ⟨v1729, hs1728, rfl⟩ := hR1723
              obtain ⟨A1726, c1727, rfl, _⟩ := hs1728.form
              have hs1728z := hs1728
              refine Wa_takeY (i := 45) rfl (by kernel_rfl) rfl rfl (.pointer (some ⟨b1718, o1719 + x868.toNat * 7, none⟩)) rfl (congrArg some hb1699) (fun w' h' => x_indexAddr Try.underlying22 ty32 (slA ee1725) rfl p1716 p1717) D9 (Wa_takeY (i := 46) rfl (by kernel_rfl) rfl rfl (.pointer (some ⟨b1718, o1719 + x868.toNat * 7 + 3, none⟩)) rfl (congrArg some hb1699) (fun w' h' => x_fieldAddr (o := o1719 + x868.toNat * 7) (off := 3) Try.underlying32 rfl ty30 rfl rfl) D9 (Wa_takeY (i := 47) rfl (by kernel_rfl) rfl rfl (.agg #[.int .i64 ((rd a1 x868).Answer.Err), .bool ((rd a1 x868).Answer.Found), .string (bs ((rd a1 x868).Answer.Value)), .slice A1726 ((rd a1 x868).Answer.Pairs).length c1727]) rfl (congrArg some hb1699) (fun w' h' => x_loadA (cls_frz h' hb1721) ty30 rfl (sub_el hc1724 3 rfl) rfl rfl) D9 ?_))
              refine Wa_solo (i := 48) rfl (by kernel_rfl) ?_
              refine W_yes (congrArg some hb1699) ?_
              obtain ⟨t1730, ht1731, H⟩ := bindS H
              refine W_callF fn36 (ferrymanref06_Answers.con k M A1712 c1713 ((rd a0 x868).Answer) A1726 c1727 ((rd a1 x868).Answer) t1730 hs1714 hs1728 ht1731) S rfl rfl (by rintro _ _ _ ⟨_, rfl⟩; exact flat_nil) ?_
              rintro _ w1732 _ Γ' E' S ⟨rfl, rfl⟩
              replace E := E.trans E'
              refine Wl_nil (on_n ⟨.inr ⟨M, Hp.le_refl M, (S.pick [] (by decide))⟩, ?_⟩)
              have D10 : ∃ Mx, Hp.le M Mx ∧ St _ Mx F [] := ⟨_, Hp.le_refl _, S.pick [] (by decide)⟩
              refine Wa_takeY (i := 49) rfl (by kernel_rfl) rfl rfl (.bool (!t1730)) rfl (congrArg some hb1699) (fun w' h' => x_not (b := t1730) rfl) D10 (Wa_take (i := 50) rfl (by kernel_rfl) rfl rfl (.bool (!t1730)) rfl (fun w' h' => x_pick (k := false) (congrArg Value.bool hb1699) rfl) D10 ?_)
              exact hrest _ _ ⟨(!t1730), Option.some.inj H, ⟨rfl, rfl, rfl, rfl, trivial⟩, E, S.pick [] (by decide)⟩
          rintro ρ w1733 ⟨x1700, rfl, hρ, E, S⟩
          rw [agree_eta hρ]
          have H := o1701H
          refine Wa_done (by kernel_rfl) ?_
          refine tn ?_
          rcases iteS H with ⟨hb1734, H⟩ | ⟨hb1734, H⟩
          · refine Wp_cond_true (congrArg Value.bool hb1734) ?_
            refine Wp_seq (Wp_region_lit (W_v (.bool false) (x_assign rfl) rfl (Wl_nil (tn ?_))))
            refine Wp_ret ?_
            refine br (tr (tr (br (tr (tr (?_))))))
            obtain rfl := Option.some.inj H
            have H := o1301H
            replace H := elimL H
            obtain rfl := Option.some.inj H
            exact ⟨_, _, _, fun w1 e1 => run_resR (vs := [.bool false]) (FA.cons (rfl) (FA.nil)), HM, E, S.pick [] (by decide), ⟨rfl, rfl⟩⟩
          refine Wp_cond_false (congrArg Value.bool hb1734) (Wp_skip (bn (tn (Wp_region_lit (W_v (.int .i64 x868) (x_move rfl) rfl (W_v (.int .i64 (IntKind.i64.wrap (x868 + (1 : Int)))) (x_ibin rfl rfl rfl rfl) rfl (W_v (.int .i64 (IntKind.i64.wrap (x868 + (1 : Int)))) (x_assign rfl) rfl (Wl_nil (tn ?_)))))))))
          exact ⟨k, Nat.lt_succ_self k, ⟨(IntKind.i64.wrap (x868 + (1 : Int))), H, ⟨rfl, rfl, rfl, trivial⟩, E, S.pick [] (by decide)⟩⟩
        refine Wp_cond_false (congrArg Value.bool hb1303) ?_
        refine Wp_exit ?_
        refine tx (tx (bsm (?_)))
        refine tn ?_
        exact ⟨Option.some.inj H, trivial, E, S.pick [] (by decide)⟩
  rintro ρ w1735 ⟨rfl, hρ, E, S⟩
  rw [agree_eta hρ]
  have H := o1301H
  replace H := elimR H
  refine tn ?_
  as_aux_lemma =>
  refine Wp_seq (Wp_region_lit (W_v (.bool true) (x_assign rfl) rfl (Wl_nil (tn ?_))))
  refine Wp_ret ?_
  obtain rfl := Option.some.inj H
  exact ⟨_, _, _, fun w1 e1 => run_resR (vs := [.bool true]) (FA.cons (rfl) (FA.nil)), HM, E, S.pick [] (by decide), ⟨rfl, rfl⟩⟩
end Go.Proofs.Ytninegjnkkcepaa
