import Derived.Test.YtdommjjhfplcaaaGf2P0
namespace Go.Proofs.Ytdommjjhfplcaaa
open Go
set_option linter.unusedVariables false
set_option linter.unusedSimpArgs false
/-! ### ferryman/fork.Put: function 19 -/
def fork_Put (k : Nat) (a0 : fork_Node) (a1 : Str) (a2 : Int) : Option (fork_Node × Int) :=
  (Option.bind (fork_Place k a0 a1) (fun t7 => (Option.bind (α := Bool) (if (!a0.Leaf) = true then some (true) else (Option.bind (fork_May k a0) (fun t19 => some ((!t19))))) (fun x17 => (if x17 = true then some ((⟨false, ([] : (List Str)), ([] : (List Int)), ([] : (List Int))⟩ : fork_Node), (4 : Int)) else (if t7.2 = true then some ((⟨false, ([] : (List Str)), ([] : (List Int)), ([] : (List Int))⟩ : fork_Node), (6 : Int)) else (Option.bind (α := List Str × List Int) (Option.bind (fork_with_string k a0.Keys t7.1 (0 : Int) ([a1] : List Str)) (fun t254 => some (t254, ([a2] : List Int)))) (fun ⟨x243, x247⟩ => (Option.bind (fork_with_api_Handle k a0.Rows t7.1 (0 : Int) x247) (fun t350 => some ((⟨true, x243, ([] : (List Int)), t350⟩ : fork_Node), (0 : Int))))))))))))
set_option maxHeartbeats 2000000 in
theorem fork_Put.mono {k : Nat} {a0 : fork_Node} {a1 : Str} {a2 : Int} : OLe (fork_Put k a0 a1 a2) (fork_Put (k + 1) a0 a1 a2) := by
  unfold fork_Put
  repeat' (first | with_reducible exact OLe.none | with_reducible exact OLe.some | with_reducible refine OLe.ite ?_ ?_ | with_reducible refine OLe.bind ?_ (fun _ => ?_) | with_reducible exact fork_May.mono | with_reducible exact fork_Place.mono | with_reducible exact fork_with_api_Handle.mono | with_reducible exact fork_with_string.mono | refine OLe.bind ?_ (fun _ => ?_) | refine OLe.ite ?_ ?_ | refine OLe.elim (fun _ => ?_) (fun _ => ?_) | split)
set_option maxHeartbeats 1000000 in
set_option maxRecDepth 100000 in
theorem fork_Put.con (k : Nat) (M : Hp) (A0_0 : Option Addr) (c0_0 : Nat) (A0_1 : Option Addr) (c0_1 : Nat) (A0_2 : Option Addr) (c0_2 : Nat) (a0 : fork_Node) (a1 : Str) (a2 : Int) (r : fork_Node × Int) (hr0_0 : SlR rStr M (.slice A0_0 a0.Keys.length c0_0) a0.Keys) (hr0_1 : SlR (rInt .i64) M (.slice A0_1 a0.Kids.length c0_1) a0.Kids) (hr0_2 : SlR (rInt .u64) M (.slice A0_2 a0.Rows.length c0_2) a0.Rows) (h : fork_Put k a0 a1 a2 = some r) : Con Try.prog 19 #[.agg #[.bool a0.Leaf, .slice A0_0 a0.Keys.length c0_0, .slice A0_1 a0.Kids.length c0_1, .slice A0_2 a0.Rows.length c0_2], .string (bs a1), .int .u64 a2] M [] (fun v M' Γ' => ∃ (A0 : Option Addr) (c0 : Nat) (A1 : Option Addr) (c1 : Nat) (A2 : Option Addr) (c2 : Nat), v = .tuple #[.agg #[.bool r.1.Leaf, .slice A0 r.1.Keys.length c0, .slice A1 r.1.Kids.length c1, .slice A2 r.1.Rows.length c2], .int .i64 r.2] ∧ Γ' = [Row rStr 9 (.slice A0 r.1.Keys.length c0) r.1.Keys, Row (rInt .i64) 3 (.slice A1 r.1.Kids.length c1) r.1.Kids, Row (rInt .u64) 41 (.slice A2 r.1.Rows.length c2) r.1.Rows]) := by
  refine con_of_wp Try.func19 rfl Try.ntmps19 Try.results19 rfl ?_
  intro w F rn S hrn
  have E := Ext.refl w
  have HM := Hp.le_refl M
  have H := h
  unfold fork_Put at H
  refine Wp_seq ?_
  refine Wp_region_lit ?_
  refine W_box S #[.bool a0.Leaf, .slice A0_0 a0.Keys.length c0_0, .slice A0_1 a0.Kids.length c0_1, .slice A0_2 a0.Rows.length c0_2] rfl rfl rfl ?_
  intro b1 w2 E' S
  replace E := E.trans E'
  clear E'
  refine W_alloc S #[.bool false, .slice none 0 0, .slice none 0 0, .slice none 0 0] ty26 rfl rfl ?_
  intro b4 w5 E' S
  replace E := E.trans E'
  clear E'
  refine W_v (.int .i64 0) (x_assign rfl) rfl ?_
  refine Wl_nil ?_
  refine tn ?_
  refine Wp_seq ?_
  refine Wp_region_lit ?_
  refine W_v (.agg #[.bool a0.Leaf, .slice A0_0 a0.Keys.length c0_0, .slice A0_1 a0.Kids.length c0_1, .slice A0_2 a0.Rows.length c0_2]) (x_loadA (S.blk 1 rfl) ty26 rfl (sub_of_extract rfl) rfl rfl) rfl ?_
  refine W_v (.string (bs a1)) (x_move rfl) rfl ?_
  obtain ⟨t7, ht8, H⟩ := bindS H
  refine W_callF fn12 (fork_Place.con k M A0_0 c0_0 A0_1 c0_1 A0_2 c0_2 a0 a1 t7 hr0_0 hr0_1 hr0_2 ht8) S rfl rfl (by rintro _ _ _ ⟨_, rfl⟩; exact flat_nil) ?_
  rintro _ w9 _ Γ' E' S ⟨rfl, rfl⟩
  replace E := E.trans E'
  clear E'
  refine W_v (.tuple #[.int .i64 t7.1, .bool t7.2]) (x_move rfl) rfl ?_
  refine W_v (.int .i64 t7.1) (x_extract rfl rfl) rfl ?_
  refine W_v (.bool t7.2) (x_extract rfl rfl) rfl ?_
  refine W_v (.int .i64 t7.1) (x_assign rfl) rfl ?_
  refine W_v (.bool t7.2) (x_assign rfl) rfl ?_
  refine Wl_nil ?_
  refine tn ?_
  refine Wp_seq ?_
  refine Wp_block ?_
  refine Wp_seq ?_
  refine Wp_region_lit ?_
  refine W_v (.pointer (some ⟨b1, 0, none⟩)) (x_fieldAddr (o := 0) (off := 0) Try.underlying26 rfl ty4 rfl rfl) rfl ?_
  refine W_v (.bool a0.Leaf) (x_load (S.blk 1 rfl) ty4 rfl rfl) rfl ?_
  refine W_v (.bool (!a0.Leaf)) (x_not rfl) rfl ?_
  refine W_v (.bool (!a0.Leaf)) (x_move rfl) rfl ?_
  obtain ⟨o18, o18h, o18H⟩ := bindS H
  clear H
  refine Wl_cutN 4 (fun ρ w' => ∃ (x17 : Bool), (x17) = o18 ∧ Agree ρ [(1, .string (bs a1)), (2, .int .u64 a2), (3, .pointer (some ⟨b1, 0, none⟩)), (6, .pointer (some ⟨b4, 0, none⟩)), (8, .int .i64 t7.1), (9, .bool t7.2), (24, .bool x17)] ∧ Ext w w' ∧ St w' M F [Blk b4 (.cells #[.bool false, .slice none 0 0, .slice none 0 0, .slice none 0 0] 26 (0, 0)), Blk b1 (.cells #[.bool a0.Leaf, .slice A0_0 a0.Keys.length c0_0, .slice A0_1 a0.Kids.length c0_1, .slice A0_2 a0.Rows.length c0_2] 26 (0, 0))]) ?_ ?_
  · have H := o18h
    rcases iteS H with ⟨hb16, H⟩ | ⟨hb16, H⟩
    · skip
      refine W_no (skF hb16) rfl ?_
      refine W_no (skF hb16) rfl ?_
      refine W_no (skF hb16) rfl ?_
      refine W_v (.bool true) (x_pick (k := true) (congrArg Value.bool hb16) rfl) rfl ?_
      refine Wl_nil ?_
      exact ⟨true, Option.some.inj H, ⟨rfl, rfl, rfl, rfl, rfl, rfl, rfl, trivial⟩, E, S.pick [0, 1] (by decide)⟩
    · skip
      refine W_yes (congrArg some hb16) ?_
      refine W_v (.agg #[.bool a0.Leaf, .slice A0_0 a0.Keys.length c0_0, .slice A0_1 a0.Kids.length c0_1, .slice A0_2 a0.Rows.length c0_2]) (x_loadA (S.blk 1 rfl) ty26 rfl (sub_of_extract rfl) rfl rfl) rfl ?_
      refine W_yes (congrArg some hb16) ?_
      obtain ⟨t19, ht20, H⟩ := bindS H
      refine W_callF fn11 (fork_May.con k M A0_0 c0_0 A0_1 c0_1 A0_2 c0_2 a0 t19 hr0_0 hr0_1 hr0_2 ht20) S rfl rfl (by rintro _ _ _ ⟨_, rfl⟩; exact flat_nil) ?_
      rintro _ w21 _ Γ' E' S ⟨rfl, rfl⟩
      replace E := E.trans E'
      clear E'
      refine W_yes (congrArg some hb16) ?_
      refine W_v (.bool (!t19)) (x_not rfl) rfl ?_
      refine W_v (.bool (!t19)) (x_pick (k := false) (congrArg Value.bool hb16) rfl) rfl ?_
      refine Wl_nil ?_
      exact ⟨(!t19), Option.some.inj H, ⟨rfl, rfl, rfl, rfl, rfl, rfl, rfl, trivial⟩, E, S.pick [0, 1] (by decide)⟩
  clear o18h
  rintro ρ w22 ⟨x17, rfl, hρ, E, S⟩
  rw [agree_eta hρ]
  clear hρ
  have H := o18H
  clear o18H
  refine W_v (.bool x17) (x_assign rfl) rfl ?_
  refine Wl_nil ?_
  refine tn ?_
  rcases iteS H with ⟨hb23, H⟩ | ⟨hb23, H⟩
  · refine Wp_cond_true (congrArg Value.bool hb23) ?_
    refine Wp_seq ?_
    refine Wp_region_lit ?_
    refine W_v (.agg #[.bool false, .slice none 0 0, .slice none 0 0, .slice none 0 0]) (x_build2 (pl := [(0, 1), (1, 1), (2, 1), (3, 1)]) #[.bool false, .slice none 0 0, .slice none 0 0, .slice none 0 0] Try.underlying26 ty26 (by kernel_rfl) rfl (by kernel_rfl)) rfl ?_
    refine W_store S 0 rfl ty26 rfl rfl [.bool false, .slice none 0 0, .slice none 0 0, .slice none 0 0] rfl rfl rfl #[.bool false, .slice none 0 0, .slice none 0 0, .slice none 0 0] rfl rfl ?_
    intro w24 E' S
    replace E := E.trans E'
    clear E'
    refine W_v (.int .i64 4) (x_assign rfl) rfl ?_
    refine Wl_nil ?_
    refine tn ?_
    refine Wp_ret ?_
    refine br (tr (?_))
    obtain rfl := Option.some.inj H
    replace S := S.row_nil rStr 9
    replace S := S.row_nil (rInt .i64) 3
    replace S := S.row_nil (rInt .u64) 41
    exact ⟨_, _, _, fun w1 e1 => run_resR (vs := [.agg #[.bool false, .slice none 0 0, .slice none 0 0, .slice none 0 0], .int .i64 4]) (FA.cons (⟨_, rfl, run_loadVar_agg ty26 ((S.of_eq e1).blk 3 rfl) (sub_of_extract rfl) rfl (by decide)⟩) (FA.cons (rfl) (FA.nil))), HM, E, S.pick [2, 1, 0] (by decide), ⟨none, 0, none, 0, none, 0, rfl, rfl⟩⟩
  refine Wp_cond_false (congrArg Value.bool hb23) ?_
  refine Wp_seq ?_
  refine Wp_region_lit ?_
  refine W_v (.bool t7.2) (x_move rfl) rfl ?_
  refine W_v (.bool t7.2) (x_assign rfl) rfl ?_
  refine Wl_nil ?_
  refine tn ?_
  rcases iteS H with ⟨hb28, H⟩ | ⟨hb28, H⟩
  · refine Wp_cond_true (congrArg Value.bool hb28) ?_
    refine Wp_seq ?_
    refine Wp_region_lit ?_
    refine W_v (.agg #[.bool false, .slice none 0 0, .slice none 0 0, .slice none 0 0]) (x_build2 (pl := [(0, 1), (1, 1), (2, 1), (3, 1)]) #[.bool false, .slice none 0 0, .slice none 0 0, .slice none 0 0] Try.underlying26 ty26 (by kernel_rfl) rfl (by kernel_rfl)) rfl ?_
    refine W_store S 0 rfl ty26 rfl rfl [.bool false, .slice none 0 0, .slice none 0 0, .slice none 0 0] rfl rfl rfl #[.bool false, .slice none 0 0, .slice none 0 0, .slice none 0 0] rfl rfl ?_
    intro w29 E' S
    replace E := E.trans E'
    clear E'
    refine W_v (.int .i64 6) (x_assign rfl) rfl ?_
    refine Wl_nil ?_
    refine tn ?_
    refine Wp_ret ?_
    refine br (tr (?_))
    obtain rfl := Option.some.inj H
    replace S := S.row_nil rStr 9
    replace S := S.row_nil (rInt .i64) 3
    replace S := S.row_nil (rInt .u64) 41
    exact ⟨_, _, _, fun w1 e1 => run_resR (vs := [.agg #[.bool false, .slice none 0 0, .slice none 0 0, .slice none 0 0], .int .i64 6]) (FA.cons (⟨_, rfl, run_loadVar_agg ty26 ((S.of_eq e1).blk 3 rfl) (sub_of_extract rfl) rfl (by decide)⟩) (FA.cons (rfl) (FA.nil))), HM, E, S.pick [2, 1, 0] (by decide), ⟨none, 0, none, 0, none, 0, rfl, rfl⟩⟩
  refine Wp_cond_false (congrArg Value.bool hb28) ?_
  refine Wp_skip ?_
  refine bn ?_
  refine tn ?_
  refine Wp_seq ?_
  refine Wp_region_any (S := fun w' => ∃ Mx, M.le Mx ∧ St w' Mx F [Blk b1 (.cells #[.bool a0.Leaf, .slice A0_0 a0.Keys.length c0_0, .slice A0_1 a0.Kids.length c0_1, .slice A0_2 a0.Rows.length c0_2] 26 (0, 0))]) mixed ?_
  intro w194 hw195 E'
  replace S := S.heap hw195
  replace E := E.trans E'
  clear E'
  refine Wa_take (i := 0) rfl (by kernel_rfl) rfl rfl (.pointer (some ⟨b1, 1, none⟩)) rfl (fun w' h' => x_fieldAddr (o := 0) (off := 1) Try.underlying26 rfl ty22 rfl rfl) (⟨M, Hp.le_refl M, S.pick [1] (by decide)⟩) ?_
  refine Wa_take (i := 1) rfl (by kernel_rfl) rfl rfl (.slice A0_0 a0.Keys.length c0_0) rfl (fun w' h' => x_load (cls_blk h' 0 rfl) ty22 rfl rfl) (⟨M, Hp.le_refl M, S.pick [1] (by decide)⟩) ?_
  refine Wa_take (i := 2) rfl (by kernel_rfl) rfl rfl (.int .i64 t7.1) rfl (fun w' h' => x_move rfl) (⟨M, Hp.le_refl M, S.pick [1] (by decide)⟩) ?_
  refine Wa_take (i := 3) rfl (by kernel_rfl) rfl rfl (.string (bs a1)) rfl (fun w' h' => x_move rfl) (⟨M, Hp.le_refl M, S.pick [1] (by decide)⟩) ?_
  refine Wa_take (i := 6) rfl (by kernel_rfl) rfl rfl (.pointer (some ⟨b1, 3, none⟩)) rfl (fun w' h' => x_fieldAddr (o := 0) (off := 3) Try.underlying26 rfl ty24 rfl rfl) (⟨M, Hp.le_refl M, S.pick [1] (by decide)⟩) ?_
  refine Wa_take (i := 7) rfl (by kernel_rfl) rfl rfl (.slice A0_2 a0.Rows.length c0_2) rfl (fun w' h' => x_load (cls_blk h' 0 rfl) ty24 rfl rfl) (⟨M, Hp.le_refl M, S.pick [1] (by decide)⟩) ?_
  refine Wa_take (i := 8) rfl (by kernel_rfl) rfl rfl (.int .i64 t7.1) rfl (fun w' h' => x_move rfl) (⟨M, Hp.le_refl M, S.pick [1] (by decide)⟩) ?_
  refine Wa_take (i := 9) rfl (by kernel_rfl) rfl rfl (.int .u64 a2) rfl (fun w' h' => x_move rfl) (⟨M, Hp.le_refl M, S.pick [1] (by decide)⟩) ?_
  obtain ⟨o311, o311h, o311H⟩ := bindS H
  clear H
  refine Wa_join (fun ρ w' => ∃ (x243 : List Str) (x247 : List Int) (A244 : Option Addr) (c245 : Nat) (A248 : Option Addr) (c249 : Nat), (x243, x247) = o311 ∧ Agree ρ [(6, .pointer (some ⟨b4, 0, none⟩)), (34, .slice A244 x243.length c245), (36, .slice A0_2 a0.Rows.length c0_2), (37, .int .i64 t7.1), (39, .slice A248 x247.length c249)] ∧ Ext w w' ∧ St w' M F [Row (rInt .u64) 41 (.slice A248 x247.length c249) x247, Row rStr 9 (.slice A244 x243.length c245) x243, Blk b4 (.cells #[.bool false, .slice none 0 0, .slice none 0 0, .slice none 0 0] 26 (0, 0)), Blk b1 (.cells #[.bool a0.Leaf, .slice A0_0 a0.Keys.length c0_0, .slice A0_1 a0.Kids.length c0_1, .slice A0_2 a0.Rows.length c0_2] 26 (0, 0))]) 4 (Ls 15 [0, 1, 2, 3, 4, 5, 6, 7, 8, 9, 10]) ?_ ?_
  rotate_left
  · intro hq317
    clear o311H
    refine Wa_join (fun ρ w' => ∃ (x229 : List Str) (x233 : List Int) (A230 : Option Addr) (c231 : Nat) (A234 : Option Addr) (c235 : Nat), (Option.bind (fork_with_string k a0.Keys t7.1 (0 : Int) x229) (fun t305 => some (t305, x233))) = some o311 ∧ Agree ρ [(6, .pointer (some ⟨b4, 0, none⟩)), (30, .slice A0_0 a0.Keys.length c0_0), (31, .int .i64 t7.1), (33, .slice A230 x229.length c231), (36, .slice A0_2 a0.Rows.length c0_2), (37, .int .i64 t7.1), (39, .slice A234 x233.length c235)] ∧ Ext w w' ∧ St w' M F [Row (rInt .u64) 41 (.slice A234 x233.length c235) x233, Row rStr 9 (.slice A230 x229.length c231) x229, Blk b4 (.cells #[.bool false, .slice none 0 0, .slice none 0 0, .slice none 0 0] 26 (0, 0)), Blk b1 (.cells #[.bool a0.Leaf, .slice A0_0 a0.Keys.length c0_0, .slice A0_1 a0.Kids.length c0_1, .slice A0_2 a0.Rows.length c0_2] 26 (0, 0))]) 5 (Ls 15 [0, 1, 2, 3, 4, 6, 7, 8, 9, 10]) ?_ ?_
    · clear o311h
      rintro ρ w318 ⟨x229, x233, A230, c231, A234, c235, H, hρ, E, S⟩
      rw [agree_eta hρ]
      clear hρ
      refine Wa_solo (i := 5) rfl (by kernel_rfl) ?_
      replace S : St w318 M F [Row rStr 9 (.slice A230 x229.length c231) x229, Row (rInt .u64) 41 (.slice A234 x233.length c235) x233, Blk b4 (.cells #[.bool false, .slice none 0 0, .slice none 0 0, .slice none 0 0] 26 (0, 0)), Blk b1 (.cells #[.bool a0.Leaf, .slice A0_0 a0.Keys.length c0_0, .slice A0_1 a0.Kids.length c0_1, .slice A0_2 a0.Rows.length c0_2] 26 (0, 0))] := S.pick [1, 0, 2, 3] (by decide)
      obtain ⟨t319, ht320, H⟩ := bindS H
      refine W_callN 1 fn37 (fun h9 hs9 hd9 => fork_with_string.con k _ A0_0 c0_0 a0.Keys t7.1 (0 : Int) A230 c231 x229 t319 (SlR.mono hr0_0 (Hp.le_union_left _ _)) (Sats.row hs9 hd9 0 rfl) ht320) S rfl rfl (by rintro _ _ _ ⟨_, _, _, rfl⟩; exact (flat_cons (flat_row (fun _ _ _ _ h => h)) flat_nil)) ?_
      rintro _ w324 _ Γ' E' S ⟨A321, c322, rfl, rfl⟩
      replace E := E.trans E'
      clear E'
      refine Wl_nil (on_n ⟨⟨M, Hp.le_refl M, S.pick [4] (by decide)⟩, ?_⟩)
      exact hq317 _ _ ⟨t319, x233, A321, c322, A234, c235, Option.some.inj H, ⟨rfl, rfl, rfl, rfl, rfl, trivial⟩, E, S.pick [2, 0, 3, 4] (by decide)⟩
    intro hq316
    refine Wa_join (fun ρ w' => ∃ (x222 : List Str) (A223 : Option Addr) (c224 : Nat), some (x222, ([a2] : List Int)) = some o311 ∧ Agree ρ [(6, .pointer (some ⟨b4, 0, none⟩)), (34, .slice A223 x222.length c224), (36, .slice A0_2 a0.Rows.length c0_2), (37, .int .i64 t7.1), (38, .int .u64 a2)] ∧ Ext w w' ∧ St w' M F [Row rStr 9 (.slice A223 x222.length c224) x222, Blk b4 (.cells #[.bool false, .slice none 0 0, .slice none 0 0, .slice none 0 0] 26 (0, 0)), Blk b1 (.cells #[.bool a0.Leaf, .slice A0_0 a0.Keys.length c0_0, .slice A0_1 a0.Kids.length c0_1, .slice A0_2 a0.Rows.length c0_2] 26 (0, 0))]) 5 (Ls 15 [0, 1, 2, 3, 4, 5, 6, 7, 8, 9]) ?_ ?_
    · clear o311h
      rintro ρ w325 ⟨x222, A223, c224, H, hρ, E, S⟩
      rw [agree_eta hρ]
      clear hρ
      refine Wa_solo (i := 10) rfl (by kernel_rfl) ?_
      refine W_bslice S #[.int .u64 a2] Try.underlying24 ty41 rfl rfl #[.int .u64 0] (by kernel_rfl) (by kernel_rfl) rfl ?_
      intro b326 w327 E' S
      replace E := E.trans E'
      clear E'
      replace S := S.blk_row (r := (rInt .u64)) (l := ([a2] : List Int)) 0 rfl 1 (Nat.le_refl 1) rfl (Cells.cons (vs := [.int .u64 a2]) (rfl) Cells.nil)
      refine Wl_nil (on_n ⟨⟨M, Hp.le_refl M, S.pick [3] (by decide)⟩, ?_⟩)
      exact hq317 _ _ ⟨x222, ([a2] : List Int), A223, c224, (some ⟨b326, 0, none⟩), 1, Option.some.inj H, ⟨rfl, rfl, rfl, rfl, rfl, trivial⟩, E, S.pick [0, 1, 2, 3] (by decide)⟩
    intro hq315
    refine Wa_join (fun ρ w' => ∃ (x215 : List Int) (A216 : Option Addr) (c217 : Nat), (Option.bind (fork_with_string k a0.Keys t7.1 (0 : Int) ([a1] : List Str)) (fun t296 => some (t296, x215))) = some o311 ∧ Agree ρ [(6, .pointer (some ⟨b4, 0, none⟩)), (30, .slice A0_0 a0.Keys.length c0_0), (31, .int .i64 t7.1), (32, .string (bs a1)), (36, .slice A0_2 a0.Rows.length c0_2), (37, .int .i64 t7.1), (39, .slice A216 x215.length c217)] ∧ Ext w w' ∧ St w' M F [Row (rInt .u64) 41 (.slice A216 x215.length c217) x215, Blk b4 (.cells #[.bool false, .slice none 0 0, .slice none 0 0, .slice none 0 0] 26 (0, 0)), Blk b1 (.cells #[.bool a0.Leaf, .slice A0_0 a0.Keys.length c0_0, .slice A0_1 a0.Kids.length c0_1, .slice A0_2 a0.Rows.length c0_2] 26 (0, 0))]) 6 (Ls 15 [0, 1, 2, 3, 6, 7, 8, 9, 10]) ?_ ?_
    · clear o311h
      rintro ρ w329 ⟨x215, A216, c217, H, hρ, E, S⟩
      rw [agree_eta hρ]
      clear hρ
      refine Wa_solo (i := 4) rfl (by kernel_rfl) ?_
      refine W_bslice S #[.string (bs a1)] Try.underlying22 ty9 rfl rfl #[.string (bs ([] : Str))] (by kernel_rfl) (by kernel_rfl) rfl ?_
      intro b330 w331 E' S
      replace E := E.trans E'
      clear E'
      replace S := S.blk_row (r := rStr) (l := ([a1] : List Str)) 0 rfl 1 (Nat.le_refl 1) rfl (Cells.cons (vs := [.string (bs a1)]) (rfl) Cells.nil)
      refine Wl_nil (on_n ⟨⟨M, Hp.le_refl M, S.pick [3] (by decide)⟩, ?_⟩)
      exact hq316 _ _ ⟨([a1] : List Str), x215, (some ⟨b330, 0, none⟩), 1, A216, c217, H, ⟨rfl, rfl, rfl, rfl, rfl, rfl, rfl, trivial⟩, E, S.pick [1, 0, 2, 3] (by decide)⟩
    intro hq314
    refine Wa_join (fun ρ w' => ∃ (x202 : List Str) (A203 : Option Addr) (c204 : Nat), (Option.bind (fork_with_string k a0.Keys t7.1 (0 : Int) x202) (fun t275 => some (t275, ([a2] : List Int)))) = some o311 ∧ Agree ρ [(6, .pointer (some ⟨b4, 0, none⟩)), (30, .slice A0_0 a0.Keys.length c0_0), (31, .int .i64 t7.1), (33, .slice A203 x202.length c204), (36, .slice A0_2 a0.Rows.length c0_2), (37, .int .i64 t7.1), (38, .int .u64 a2)] ∧ Ext w w' ∧ St w' M F [Row rStr 9 (.slice A203 x202.length c204) x202, Blk b4 (.cells #[.bool false, .slice none 0 0, .slice none 0 0, .slice none 0 0] 26 (0, 0)), Blk b1 (.cells #[.bool a0.Leaf, .slice A0_0 a0.Keys.length c0_0, .slice A0_1 a0.Kids.length c0_1, .slice A0_2 a0.Rows.length c0_2] 26 (0, 0))]) 6 (Ls 15 [0, 1, 2, 3, 4, 6, 7, 8, 9]) ?_ ?_
    · clear o311h
      rintro ρ w333 ⟨x202, A203, c204, H, hρ, E, S⟩
      rw [agree_eta hρ]
      clear hρ
      refine Wa_oneOf (rs := [5, 10]) (by kernel_rfl) (by decide) ?_
      simp only [List.forall_mem_cons, List.not_mem_nil, false_implies, implies_true, and_true]
      refine ⟨?_, ?_⟩
      · refine ⟨_, rfl, ?_⟩
        obtain ⟨t334, ht335, H⟩ := bindS H
        refine W_callN 1 fn37 (fun h9 hs9 hd9 => fork_with_string.con k _ A0_0 c0_0 a0.Keys t7.1 (0 : Int) A203 c204 x202 t334 (SlR.mono hr0_0 (Hp.le_union_left _ _)) (Sats.row hs9 hd9 0 rfl) ht335) S rfl rfl (by rintro _ _ _ ⟨_, _, _, rfl⟩; exact (flat_cons (flat_row (fun _ _ _ _ h => h)) flat_nil)) ?_
        rintro _ w339 _ Γ' E' S ⟨A336, c337, rfl, rfl⟩
        replace E := E.trans E'
        clear E'
        refine Wl_nil (on_n ⟨⟨M, Hp.le_refl M, S.pick [3] (by decide)⟩, ?_⟩)
        exact hq315 _ _ ⟨t334, A336, c337, H, ⟨rfl, rfl, rfl, rfl, rfl, trivial⟩, E, S.pick [0, 2, 3] (by decide)⟩
      · refine ⟨_, rfl, ?_⟩
        refine W_bslice S #[.int .u64 a2] Try.underlying24 ty41 rfl rfl #[.int .u64 0] (by kernel_rfl) (by kernel_rfl) rfl ?_
        intro b340 w341 E' S
        replace E := E.trans E'
        clear E'
        replace S := S.blk_row (r := (rInt .u64)) (l := ([a2] : List Int)) 0 rfl 1 (Nat.le_refl 1) rfl (Cells.cons (vs := [.int .u64 a2]) (rfl) Cells.nil)
        refine Wl_nil (on_n ⟨⟨M, Hp.le_refl M, S.pick [3] (by decide)⟩, ?_⟩)
        exact hq316 _ _ ⟨x202, ([a2] : List Int), A203, c204, (some ⟨b340, 0, none⟩), 1, H, ⟨rfl, rfl, rfl, rfl, rfl, rfl, rfl, trivial⟩, E, S.pick [0, 1, 2, 3] (by decide)⟩
    intro hq313
    have H := o311h
    refine Wa_oneOf (rs := [4, 10]) (by kernel_rfl) (by decide) ?_
    simp only [List.forall_mem_cons, List.not_mem_nil, false_implies, implies_true, and_true]
    refine ⟨?_, ?_⟩
    · refine ⟨_, rfl, ?_⟩
      refine W_bslice S #[.string (bs a1)] Try.underlying22 ty9 rfl rfl #[.string (bs ([] : Str))] (by kernel_rfl) (by kernel_rfl) rfl ?_
      intro b343 w344 E' S
      replace E := E.trans E'
      clear E'
      replace S := S.blk_row (r := rStr) (l := ([a1] : List Str)) 0 rfl 1 (Nat.le_refl 1) rfl (Cells.cons (vs := [.string (bs a1)]) (rfl) Cells.nil)
      refine Wl_nil (on_n ⟨⟨M, Hp.le_refl M, S.pick [2] (by decide)⟩, ?_⟩)
      exact hq313 _ _ ⟨([a1] : List Str), (some ⟨b343, 0, none⟩), 1, H, ⟨rfl, rfl, rfl, rfl, rfl, rfl, rfl, trivial⟩, E, S.pick [0, 1, 2] (by decide)⟩
    · refine ⟨_, rfl, ?_⟩
      refine W_bslice S #[.int .u64 a2] Try.underlying24 ty41 rfl rfl #[.int .u64 0] (by kernel_rfl) (by kernel_rfl) rfl ?_
      intro b346 w347 E' S
      replace E := E.trans E'
      clear E'
      replace S := S.blk_row (r := (rInt .u64)) (l := ([a2] : List Int)) 0 rfl 1 (Nat.le_refl 1) rfl (Cells.cons (vs := [.int .u64 a2]) (rfl) Cells.nil)
      refine Wl_nil (on_n ⟨⟨M, Hp.le_refl M, S.pick [2] (by decide)⟩, ?_⟩)
      exact hq314 _ _ ⟨([a2] : List Int), (some ⟨b346, 0, none⟩), 1, H, ⟨rfl, rfl, rfl, rfl, rfl, rfl, rfl, trivial⟩, E, S.pick [0, 1, 2] (by decide)⟩
  clear o311h
  rintro ρ w349 ⟨x243, x247, A244, c245, A248, c249, rfl, hρ, E, S⟩
  rw [agree_eta hρ]
  clear hρ
  have H := o311H
  clear o311H
  refine Wa_solo (i := 11) rfl (by kernel_rfl) ?_
  obtain ⟨t350, ht351, H⟩ := bindS H
  refine W_callN 1 fn38 (fun h9 hs9 hd9 => fork_with_api_Handle.con k _ A0_2 c0_2 a0.Rows t7.1 (0 : Int) A248 c249 x247 t350 (SlR.mono hr0_2 (Hp.le_union_left _ _)) (Sats.row hs9 hd9 0 rfl) ht351) S rfl rfl (by rintro _ _ _ ⟨_, _, _, rfl⟩; exact (flat_cons (flat_row (fun _ _ _ _ h => h)) flat_nil)) ?_
  rintro _ w355 _ Γ' E' S ⟨A352, c353, rfl, rfl⟩
  replace E := E.trans E'
  clear E'
  refine Wl_nil (on_n ⟨⟨M, Hp.le_refl M, S.pick [4] (by decide)⟩, ?_⟩)
  refine Wa_take (i := 12) rfl (by kernel_rfl) rfl rfl (.agg #[.bool true, .slice A244 x243.length c245, .slice none 0 0, .slice A352 t350.length c353]) rfl (fun w' h' => x_build2 (pl := [(0, 1), (1, 1), (2, 1), (3, 1)]) #[.bool true, .slice A244 x243.length c245, .slice none 0 0, .slice A352 t350.length c353] Try.underlying26 ty26 (by kernel_rfl) rfl (by kernel_rfl)) (⟨M, Hp.le_refl M, S.pick [4] (by decide)⟩) ?_
  refine Wa_solo (i := 13) rfl (by kernel_rfl) ?_
  refine W_store S 3 rfl ty26 rfl rfl [.bool true, .slice A244 x243.length c245, .slice none 0 0, .slice A352 t350.length c353] rfl rfl rfl #[.bool true, .slice A244 x243.length c245, .slice none 0 0, .slice A352 t350.length c353] rfl rfl ?_
  intro w356 E' S
  replace E := E.trans E'
  clear E'
  refine Wl_nil (on_n ⟨⟨M, Hp.le_refl M, S.pick [4] (by decide)⟩, ?_⟩)
  refine Wa_take (i := 14) rfl (by kernel_rfl) rfl rfl (.int .i64 0) rfl (fun w' h' => x_assign rfl) (⟨M, Hp.le_refl M, S.pick [4] (by decide)⟩) ?_
  refine Wa_done (by kernel_rfl) ?_
  refine tn ?_
  refine Wp_ret ?_
  obtain rfl := Option.some.inj H
  replace S := S.row_nil (rInt .i64) 3
  exact ⟨_, _, _, fun w1 e1 => run_resR (vs := [.agg #[.bool true, .slice A244 x243.length c245, .slice none 0 0, .slice A352 t350.length c353], .int .i64 0]) (FA.cons (⟨_, rfl, run_loadVar_agg ty26 ((S.of_eq e1).blk 4 rfl) (sub_of_extract rfl) rfl (by decide)⟩) (FA.cons (rfl) (FA.nil))), HM, E, S.pick [3, 0, 1] (by decide), ⟨A244, c245, none, 0, A352, c353, rfl, rfl⟩⟩
/-! ### slices.Grow[[]int,int]: function 53 -/
def slices_Grow_int_int_N (k : Nat) (a1 : Int) : Option ((List Int)) :=
  (Option.bind (α := Unit) (if (decide (a1 < (0 : Int))) = true then none else some ()) (fun _ => (Option.bind (α := List Int) (if (decide ((IntKind.i64.wrap (a1 - (IntKind.i64.wrap ((0 : Int) - (0 : Int))))) > (0 : Int))) = true then (if 0 ≤ (IntKind.i64.wrap (a1 - (IntKind.i64.wrap ((0 : Int) - (0 : Int))))) ∧ (IntKind.i64.wrap (a1 - (IntKind.i64.wrap ((0 : Int) - (0 : Int))))) * 8 ≤ 140737488355328 then (if 0 ≤ (0 : Int) ∧ (0 : Int) ≤ ((List.replicate (IntKind.i64.wrap (a1 - (IntKind.i64.wrap ((0 : Int) - (0 : Int))))).toNat (0 : Int)).length : Int) then some ((List.take (0 : Int).toNat (List.replicate (IntKind.i64.wrap (a1 - (IntKind.i64.wrap ((0 : Int) - (0 : Int))))).toNat (0 : Int)))) else none) else none) else some (([] : List Int))) (fun x15 => some x15))))
set_option maxHeartbeats 2000000 in
theorem slices_Grow_int_int_N.mono {k : Nat} {a1 : Int} : OLe (slices_Grow_int_int_N k a1) (slices_Grow_int_int_N (k + 1) a1) := by
  unfold slices_Grow_int_int_N
  repeat' (first | with_reducible exact OLe.none | with_reducible exact OLe.some | with_reducible refine OLe.ite ?_ ?_ | with_reducible refine OLe.bind ?_ (fun _ => ?_) | refine OLe.bind ?_ (fun _ => ?_) | refine OLe.ite ?_ ?_ | refine OLe.elim (fun _ => ?_) (fun _ => ?_) | split)
set_option maxHeartbeats 1000000 in
set_option maxRecDepth 100000 in
theorem slices_Grow_int_int_N.con (k : Nat) (M : Hp) (a1 : Int) (r : (List Int))  (h : slices_Grow_int_int_N k a1 = some r) : Con Try.prog 53 #[.slice none 0 0, .int .i64 a1] M [] (fun v M' Γ' => ∃ (Aq1 : Option Addr) (cq2 : Nat), v = .slice Aq1 r.length cq2 ∧ Γ' = [Row (rInt .i64) 3 (.slice Aq1 r.length cq2) r]) := by
  refine con_of_wp Try.func53 rfl Try.ntmps53 Try.results53 rfl ?_
  intro w F rn S hrn
  have E := Ext.refl w
  have HM := Hp.le_refl M
  have H := h
  unfold slices_Grow_int_int_N at H
  refine Wp_seq ?_
  refine Wp_region_lit ?_
  refine W_v (.slice none 0 0) (x_assign rfl) rfl ?_
  refine Wl_nil ?_
  refine tn ?_
  refine Wp_seq ?_
  refine Wp_seq ?_
  refine Wp_region_lit ?_
  refine W_v (.int .i64 a1) (x_move rfl) rfl ?_
  refine W_v (.bool (decide (a1 < (0 : Int)))) (x_ibin rfl rfl rfl rfl) rfl ?_
  refine Wl_nil ?_
  refine tn ?_
  obtain ⟨o2, o2h, o2H⟩ := bindS H
  refine Wp_cut (fun ρ w' => () = o2 ∧ Agree ρ [(0, .slice none 0 0), (1, .int .i64 a1)] ∧ Ext w w' ∧ St w' M F []) ?_ ?_
  · clear o2H
    have H := o2h
    clear o2h
    rcases iteS H with ⟨hb3, H⟩ | ⟨hb3, H⟩
    · refine Wp_cond_true (congrArg Value.bool hb3) ?_
      cases H
    refine Wp_cond_false (congrArg Value.bool hb3) ?_
    refine Wp_skip ?_
    refine tn ?_
    exact ⟨Option.some.inj H, ⟨rfl, rfl, trivial⟩, E, S.pick [] (by decide)⟩
  clear o2h
  rintro ρ w4 ⟨rfl, hρ, E, S⟩
  rw [agree_eta hρ]
  clear hρ
  have H := o2H
  clear o2H
  refine tn ?_
  refine Wp_seq ?_
  refine Wp_seq ?_
  refine Wp_region_lit ?_
  refine W_v (.int .i64 a1) (x_move rfl) rfl ?_
  refine W_v (.slice none 0 0) (x_move rfl) rfl ?_
  refine W_v (.int .i64 0) (x_cap_slice (c := 0) Try.underlying23 rfl) rfl ?_
  refine W_v (.slice none 0 0) (x_move rfl) rfl ?_
  refine W_v (.int .i64 0) (x_len_slice (n := 0) Try.underlying23 rfl) rfl ?_
  refine W_v (.int .i64 (IntKind.i64.wrap ((0 : Int) - (0 : Int)))) (x_ibin rfl rfl rfl rfl) rfl ?_
  refine W_v (.int .i64 (IntKind.i64.wrap (a1 - (IntKind.i64.wrap ((0 : Int) - (0 : Int)))))) (x_ibin rfl rfl rfl rfl) rfl ?_
  refine W_v (.int .i64 (IntKind.i64.wrap (a1 - (IntKind.i64.wrap ((0 : Int) - (0 : Int)))))) (x_assign rfl) rfl ?_
  refine Wl_nil ?_
  refine tn ?_
  refine Wp_seq ?_
  refine Wp_region_lit ?_
  refine W_v (.int .i64 (IntKind.i64.wrap (a1 - (IntKind.i64.wrap ((0 : Int) - (0 : Int)))))) (x_move rfl) rfl ?_
  refine W_v (.bool (decide ((IntKind.i64.wrap (a1 - (IntKind.i64.wrap ((0 : Int) - (0 : Int))))) > (0 : Int)))) (x_ibin rfl rfl rfl rfl) rfl ?_
  refine Wl_nil ?_
  refine tn ?_
  obtain ⟨o19, o19h, o19H⟩ := bindS H
  refine Wp_cut (fun ρ w' => ∃ (x15 : List Int) (A16 : Option Addr) (c17 : Nat), (x15) = o19 ∧ Agree ρ [(0, .slice A16 x15.length c17)] ∧ Ext w w' ∧ St w' M F [Row (rInt .i64) 3 (.slice A16 x15.length c17) x15]) ?_ ?_
  · clear o19H
    have H := o19h
    clear o19h
    rcases iteS H with ⟨hb20, H⟩ | ⟨hb20, H⟩
    · refine Wp_cond_true (congrArg Value.bool hb20) ?_
      refine Wp_region_lit ?_
      refine W_v (.slice none 0 0) (x_move rfl) rfl ?_
      refine W_v (.slice none 0 0) (x_move rfl) rfl ?_
      refine W_v (.int .i64 0) (x_cap_slice (c := 0) Try.underlying23 rfl) rfl ?_
      refine W_v (.slice none 0 0) (x_slice_nil0 Try.underlying23 ty3 rfl rfl) rfl ?_
      refine W_v (.int .i64 (IntKind.i64.wrap (a1 - (IntKind.i64.wrap ((0 : Int) - (0 : Int)))))) (x_move rfl) rfl ?_
      obtain ⟨⟨p21, p22⟩, H⟩ := chkS H
      refine W_appendZ (r := (rInt .i64)) S (0 : Int) Try.underlying23 Try.underlying3 ty3 rfl (by decide) (by decide) (fun _ => rfl) rfl rfl p21 p22 rfl ?_
      intro A23 c24 w25 E' S
      replace E := E.trans E'
      clear E'
      refine W_v (.slice none 0 0) (x_move rfl) rfl ?_
      refine W_v (.int .i64 0) (x_len_slice (n := 0) Try.underlying23 rfl) rfl ?_
      obtain ⟨⟨p27, p28⟩, H⟩ := chkS H
      have hx29 := @slW_hi _ _ _ _ _ _ _ _ _ (S.row_read 0 rfl) p27 p28
      replace S := S.row_take 0 rfl (0 : Int).toNat (by omega)
      replace S : St w25 M F [Row (rInt .i64) 3 (.slice A23 (List.take (0 : Int).toNat (List.replicate (IntKind.i64.wrap (a1 - (IntKind.i64.wrap ((0 : Int) - (0 : Int))))).toNat (0 : Int))).length c24) (List.take (0 : Int).toNat (List.replicate (IntKind.i64.wrap (a1 - (IntKind.i64.wrap ((0 : Int) - (0 : Int))))).toNat (0 : Int)))] := S
      refine W_v (.slice A23 (List.take (0 : Int).toNat (List.replicate (IntKind.i64.wrap (a1 - (IntKind.i64.wrap ((0 : Int) - (0 : Int))))).toNat (0 : Int))).length c24) (hx29 Try.underlying23 ty3 rfl rfl) rfl ?_
      refine W_v (.slice A23 (List.take (0 : Int).toNat (List.replicate (IntKind.i64.wrap (a1 - (IntKind.i64.wrap ((0 : Int) - (0 : Int))))).toNat (0 : Int))).length c24) (x_assign rfl) rfl ?_
      refine Wl_nil ?_
      refine tn ?_
      exact ⟨(List.take (0 : Int).toNat (List.replicate (IntKind.i64.wrap (a1 - (IntKind.i64.wrap ((0 : Int) - (0 : Int))))).toNat (0 : Int))), A23, c24, Option.some.inj H, ⟨rfl, trivial⟩, E, S.pick [0] (by decide)⟩
    refine Wp_cond_false (congrArg Value.bool hb20) ?_
    refine Wp_skip ?_
    refine tn ?_
    replace S := S.row_nil (rInt .i64) 3
    exact ⟨([] : List Int), none, 0, Option.some.inj H, ⟨rfl, trivial⟩, E, S.pick [0] (by decide)⟩
  clear o19h
  rintro ρ w31 ⟨x15, A16, c17, rfl, hρ, E, S⟩
  rw [agree_eta hρ]
  clear hρ
  have H := o19H
  clear o19H
  refine tn ?_
  refine Wp_seq ?_
  refine Wp_region_lit ?_
  refine W_v (.slice A16 x15.length c17) (x_move rfl) rfl ?_
  refine W_v (.slice A16 x15.length c17) (x_assign rfl) rfl ?_
  refine Wl_nil ?_
  refine tn ?_
  refine Wp_ret ?_
  obtain rfl := Option.some.inj H
  exact ⟨_, _, _, fun w1 e1 => run_resR (vs := [.slice A16 x15.length c17]) (FA.cons (rfl) (FA.nil)), HM, E, S.pick [0] (by decide), ⟨A16, c17, rfl, rfl⟩⟩
/-! ### slices.Concat[[]int,int]: function 49 -/
def slices_Concat_int_int_l1 (a0 : (List (List Int))) : Nat → List Int → Int → Option ((List Int))
  | 0, _, _ => none
  | k + 1, x231, x235 => (if (decide (x235 < (a0.length : Int))) = true then (if 0 ≤ x235 ∧ x235 < (a0.length : Int) then (if x231.length + (rd a0 x235).length ≤ 17592186044416 then slices_Concat_int_int_l1 a0 k (x231 ++ (rd a0 x235)) (IntKind.i64.wrap (x235 + (1 : Int))) else none) else none) else some (x231))
set_option maxHeartbeats 2000000 in
theorem slices_Concat_int_int_l1.mono {a0 : (List (List Int))} : ∀ {k : Nat} {x0 x1}, OLe (slices_Concat_int_int_l1 a0 k x0 x1) (slices_Concat_int_int_l1 a0 (k + 1) x0 x1) := by
  intro k
  induction k with
  | zero => intros; exact OLe.none
  | succ k ih =>
    intros
    rw [slices_Concat_int_int_l1.eq_2, slices_Concat_int_int_l1.eq_2]
    repeat' (first | with_reducible exact OLe.none | with_reducible exact OLe.some | with_reducible refine OLe.ite ?_ ?_ | with_reducible refine OLe.bind ?_ (fun _ => ?_) | exact ih | refine OLe.bind ?_ (fun _ => ?_) | refine OLe.ite ?_ ?_ | refine OLe.elim (fun _ => ?_) (fun _ => ?_) | split)
def slices_Concat_int_int_l0 (a0 : (List (List Int))) : Nat → Int → Int → Option ((Int))
  | 0, _, _ => none
  | k + 1, x83, x84 => (if (decide (x84 < (a0.length : Int))) = true then (Option.bind (α := Unit) (if 0 ≤ x84 ∧ x84 < (a0.length : Int) then (Option.bind (α := Unit) (if (decide ((IntKind.i64.wrap (x83 + ((rd a0 x84).length : Int))) < (0 : Int))) = true then none else some ()) (fun _ => some ())) else none) (fun _ => slices_Concat_int_int_l0 a0 k (IntKind.i64.wrap (x83 + ((rd a0 x84).length : Int))) (IntKind.i64.wrap (x84 + (1 : Int))))) else some (x83))
set_option maxHeartbeats 2000000 in
theorem slices_Concat_int_int_l0.mono {a0 : (List (List Int))} : ∀ {k : Nat} {x0 x1}, OLe (slices_Concat_int_int_l0 a0 k x0 x1) (slices_Concat_int_int_l0 a0 (k + 1) x0 x1) := by
  intro k
  induction k with
  | zero => intros; exact OLe.none
  | succ k ih =>
    intros
    rw [slices_Concat_int_int_l0.eq_2, slices_Concat_int_int_l0.eq_2]
    repeat' (first | with_reducible exact OLe.none | with_reducible exact OLe.some | with_reducible refine OLe.ite ?_ ?_ | with_reducible refine OLe.bind ?_ (fun _ => ?_) | exact ih | refine OLe.bind ?_ (fun _ => ?_) | refine OLe.ite ?_ ?_ | refine OLe.elim (fun _ => ?_) (fun _ => ?_) | split)
def slices_Concat_int_int (k : Nat) (a0 : (List (List Int))) : Option ((List Int)) :=
  (Option.bind (slices_Concat_int_int_l0 a0 k (0 : Int) (0 : Int)) (fun x124 => (Option.bind (slices_Grow_int_int_N k x124) (fun t167 => (Option.bind (slices_Concat_int_int_l1 a0 k t167 (0 : Int)) (fun x259 => some x259))))))
set_option maxHeartbeats 2000000 in
theorem slices_Concat_int_int.mono {k : Nat} {a0 : (List (List Int))} : OLe (slices_Concat_int_int k a0) (slices_Concat_int_int (k + 1) a0) := by
  unfold slices_Concat_int_int
  repeat' (first | with_reducible exact OLe.none | with_reducible exact OLe.some | with_reducible refine OLe.ite ?_ ?_ | with_reducible refine OLe.bind ?_ (fun _ => ?_) | with_reducible exact slices_Concat_int_int_l0.mono | with_reducible exact slices_Concat_int_int_l1.mono | with_reducible exact slices_Grow_int_int_N.mono | refine OLe.bind ?_ (fun _ => ?_) | refine OLe.ite ?_ ?_ | refine OLe.elim (fun _ => ?_) (fun _ => ?_) | split)
set_option maxHeartbeats 1000000 in
set_option maxRecDepth 100000 in
theorem slices_Concat_int_int.con (k : Nat) (M : Hp) (A0 : Option Addr) (c0 : Nat) (a0 : (List (List Int))) (r : (List Int)) (hr0 : SlR (rSl (rInt .i64)) M (.slice A0 a0.length c0) a0) (h : slices_Concat_int_int k a0 = some r) : Con Try.prog 49 #[.slice A0 a0.length c0] M [] (fun v M' Γ' => ∃ (A0 : Option Addr) (c0 : Nat), v = .slice A0 r.length c0 ∧ Γ' = [Row (rInt .i64) 3 (.slice A0 r.length c0) r]) := by
  refine con_of_wp Try.func49 rfl Try.ntmps49 Try.results49 rfl ?_
  intro w F rn S hrn
  have E := Ext.refl w
  have HM := Hp.le_refl M
  have H := h
  unfold slices_Concat_int_int at H
  refine Wp_seq ?_
  refine Wp_region_lit ?_
  refine W_v (.slice none 0 0) (x_assign rfl) rfl ?_
  refine Wl_nil ?_
  refine tn ?_
  refine Wp_seq ?_
  refine Wp_region_lit ?_
  refine W_v (.int .i64 0) (x_assign rfl) rfl ?_
  refine Wl_nil ?_
  refine tn ?_
  refine Wp_seq ?_
  refine Wp_seq ?_
  refine Wp_region_lit ?_
  refine W_v (.slice A0 a0.length c0) (x_move rfl) rfl ?_
  refine W_v (.int .i64 (a0.length : Int)) (x_len_slice (n := a0.length) Try.underlying80 rfl) rfl ?_
  refine W_v (.int .i64 0) (x_move rfl) rfl ?_
  refine Wl_nil ?_
  refine tn ?_
  obtain ⟨o125, o125h, o125H⟩ := bindS H
  clear H
  refine Wp_blockJ (fun ρ w' => ∃ (x124 : Int), (x124) = o125 ∧ Agree ρ [(0, .slice A0 a0.length c0), (3, .int .i64 x124)] ∧ Ext w w' ∧ St w' M F []) ?_ ?_
  · skip
    refine Wp_loop (fun n ρ w' => ∃ (x83 : Int) (x84 : Int), slices_Concat_int_int_l0 a0 n x83 x84 = some o125 ∧ Agree ρ [(0, .slice A0 a0.length c0), (3, .int .i64 x83), (9, .slice A0 a0.length c0), (10, .int .i64 (a0.length : Int)), (11, .int .i64 x84)] ∧ Ext w w' ∧ St w' M F []) k ?_ ?_
    · skip
      exact ⟨(0 : Int), (0 : Int), o125h, ⟨rfl, rfl, rfl, rfl, rfl, trivial⟩, E, S.pick [] (by decide)⟩
    · intro n
      rintro ρ w126 ⟨x83, x84, H, hρ, E, S⟩
      rw [agree_eta hρ]
      clear hρ
      cases n with
      | zero => cases H
      | succ k =>
        rw [slices_Concat_int_int_l0.eq_2] at H
        refine Wp_seq ?_
        refine Wp_region_lit ?_
        refine W_v (.bool (decide (x84 < (a0.length : Int)))) (x_ibin rfl rfl rfl rfl) rfl ?_
        refine Wl_nil ?_
        refine tn ?_
        refine Wp_seq ?_
        rcases iteS H with ⟨hb127, H⟩ | ⟨hb127, H⟩
        · refine Wp_cond_true (congrArg Value.bool hb127) ?_
          refine Wp_skip ?_
          refine tn ?_
          refine Wp_seq ?_
          obtain ⟨o146, o146h, o146H⟩ := bindS H
          refine Wp_cut (fun ρ w' => () = o146 ∧ Agree ρ [(0, .slice A0 a0.length c0), (3, .int .i64 (IntKind.i64.wrap (x83 + ((rd a0 x84).length : Int)))), (9, .slice A0 a0.length c0), (10, .int .i64 (a0.length : Int)), (11, .int .i64 x84)] ∧ Ext w w' ∧ St w' M F []) ?_ ?_
          · clear o146H
            have H := o146h
            clear o146h
            refine Wp_block ?_
            refine Wp_seq ?_
            refine Wp_region_lit ?_
            obtain ⟨⟨p147, p148⟩, H⟩ := chkS H
            obtain ⟨b149, o150, cs151, _, _, ee156, hb152, vs153, hR154, hc155⟩ := SlW.at' hr0 p147 p148
            obtain ⟨v160, hs159, rfl⟩ := hR154
            obtain ⟨A157, c158, rfl, _⟩ := hs159.form
            refine W_v (.pointer (some ⟨b149, o150 + x84.toNat * 1, none⟩)) (x_indexAddr Try.underlying80 ty23 (slA ee156) rfl p147 p148) rfl ?_
            refine W_v (.slice A157 (rd a0 x84).length c158) (x_load (S.frz hb152) ty23 rfl (hc155 0 _ rfl)) rfl ?_
            refine W_v (.slice A157 (rd a0 x84).length c158) (x_assign rfl) rfl ?_
            refine Wl_nil ?_
            refine tn ?_
            refine Wp_seq ?_
            refine Wp_region_lit ?_
            refine W_v (.int .i64 x83) (x_move rfl) rfl ?_
            refine W_v (.slice A157 (rd a0 x84).length c158) (x_move rfl) rfl ?_
            refine W_v (.int .i64 ((rd a0 x84).length : Int)) (x_len_slice (n := (rd a0 x84).length) Try.underlying23 rfl) rfl ?_
            refine W_v (.int .i64 (IntKind.i64.wrap (x83 + ((rd a0 x84).length : Int)))) (x_ibin rfl rfl rfl rfl) rfl ?_
            refine W_v (.int .i64 (IntKind.i64.wrap (x83 + ((rd a0 x84).length : Int)))) (x_assign rfl) rfl ?_
            refine Wl_nil ?_
            refine tn ?_
            refine Wp_seq ?_
            refine Wp_region_lit ?_
            refine W_v (.int .i64 (IntKind.i64.wrap (x83 + ((rd a0 x84).length : Int)))) (x_move rfl) rfl ?_
            refine W_v (.bool (decide ((IntKind.i64.wrap (x83 + ((rd a0 x84).length : Int))) < (0 : Int)))) (x_ibin rfl rfl rfl rfl) rfl ?_
            refine Wl_nil ?_
            refine tn ?_
            obtain ⟨o162, o162h, o162H⟩ := bindS H
            refine Wp_cut (fun ρ w' => () = o162 ∧ Agree ρ [(0, .slice A0 a0.length c0), (3, .int .i64 (IntKind.i64.wrap (x83 + ((rd a0 x84).length : Int)))), (9, .slice A0 a0.length c0), (10, .int .i64 (a0.length : Int)), (11, .int .i64 x84)] ∧ Ext w w' ∧ St w' M F []) ?_ ?_
            · clear o162H
              have H := o162h
              clear o162h
              rcases iteS H with ⟨hb163, H⟩ | ⟨hb163, H⟩
              · refine Wp_cond_true (congrArg Value.bool hb163) ?_
                cases H
              refine Wp_cond_false (congrArg Value.bool hb163) ?_
              refine Wp_skip ?_
              refine tn ?_
              exact ⟨Option.some.inj H, ⟨rfl, rfl, rfl, rfl, rfl, trivial⟩, E, S.pick [] (by decide)⟩
            clear o162h
            rintro ρ w164 ⟨rfl, hρ, E, S⟩
            rw [agree_eta hρ]
            clear hρ
            have H := o162H
            clear o162H
            refine bn ?_
            refine tn ?_
            exact ⟨Option.some.inj H, ⟨rfl, rfl, rfl, rfl, rfl, trivial⟩, E, S.pick [] (by decide)⟩
          clear o146h
          rintro ρ w165 ⟨rfl, hρ, E, S⟩
          rw [agree_eta hρ]
          clear hρ
          have H := o146H
          clear o146H
          refine tn ?_
          refine Wp_region_lit ?_
          refine W_v (.int .i64 (IntKind.i64.wrap (x84 + (1 : Int)))) (x_ibin rfl rfl rfl rfl) rfl ?_
          refine W_v (.int .i64 (IntKind.i64.wrap (x84 + (1 : Int)))) (x_move rfl) rfl ?_
          refine Wl_nil ?_
          refine tn ?_
          exact ⟨k, Nat.lt_succ_self k, ⟨(IntKind.i64.wrap (x83 + ((rd a0 x84).length : Int))), (IntKind.i64.wrap (x84 + (1 : Int))), H, ⟨rfl, rfl, rfl, rfl, rfl, trivial⟩, E, S.pick [] (by decide)⟩⟩
        refine Wp_cond_false (congrArg Value.bool hb127) ?_
        refine Wp_exit ?_
        refine tx (tx (bsm (?_)))
        refine tn ?_
        exact ⟨x83, Option.some.inj H, ⟨rfl, rfl, trivial⟩, E, S.pick [] (by decide)⟩
  clear o125h
  rintro ρ w166 ⟨x124, rfl, hρ, E, S⟩
  rw [agree_eta hρ]
  clear hρ
  have H := o125H
  clear o125H
  refine tn ?_
  refine Wp_seq ?_
  refine Wp_region_lit ?_
  refine W_v (.int .i64 x124) (x_move rfl) rfl ?_
  obtain ⟨t167, ht168, H⟩ := bindS H
  refine W_callF2 fn53 (slices_Grow_int_int_N.con k M x124 t167  ht168) (Γ1 := []) (Γ2 := []) S rfl rfl (by rintro _ _ _ ⟨_, _, rfl, rfl⟩; exact (flat_cons (flat_row (fun _ _ _ _ h => h)) flat_nil)) ?_
  rintro _ w172 _ Γ' E' S ⟨A169, c170, rfl, rfl⟩
  replace E := E.trans E'
  clear E'
  replace S : St w172 M F [Row (rInt .i64) 3 (.slice A169 t167.length c170) t167] := S
  refine W_v (.slice A169 t167.length c170) (x_assign rfl) rfl ?_
  refine Wl_nil ?_
  refine tn ?_
  refine Wp_seq ?_
  refine Wp_seq ?_
  refine Wp_region_lit ?_
  refine W_v (.slice A0 a0.length c0) (x_move rfl) rfl ?_
  refine W_v (.int .i64 (a0.length : Int)) (x_len_slice (n := a0.length) Try.underlying80 rfl) rfl ?_
  refine W_v (.int .i64 0) (x_move rfl) rfl ?_
  refine Wl_nil ?_
  refine tn ?_
  obtain ⟨o263, o263h, o263H⟩ := bindS H
  clear H
  refine Wp_blockJ (fun ρ w' => ∃ (x259 : List Int) (A260 : Option Addr) (c261 : Nat), (x259) = o263 ∧ Agree ρ [(6, .slice A260 x259.length c261)] ∧ Ext w w' ∧ St w' M F [Row (rInt .i64) 3 (.slice A260 x259.length c261) x259]) ?_ ?_
  · skip
    refine Wp_loop (fun n ρ w' => ∃ (x231 : List Int) (x235 : Int) (A232 : Option Addr) (c233 : Nat), slices_Concat_int_int_l1 a0 n x231 x235 = some o263 ∧ Agree ρ [(6, .slice A232 x231.length c233), (25, .slice A0 a0.length c0), (26, .int .i64 (a0.length : Int)), (27, .int .i64 x235)] ∧ Ext w w' ∧ St w' M F [Row (rInt .i64) 3 (.slice A232 x231.length c233) x231]) k ?_ ?_
    · skip
      exact ⟨t167, (0 : Int), A169, c170, o263h, ⟨rfl, rfl, rfl, rfl, trivial⟩, E, S.pick [0] (by decide)⟩
    · intro n
      rintro ρ w264 ⟨x231, x235, A232, c233, H, hρ, E, S⟩
      rw [agree_eta hρ]
      clear hρ
      cases n with
      | zero => cases H
      | succ k =>
        rw [slices_Concat_int_int_l1.eq_2] at H
        refine Wp_seq ?_
        refine Wp_region_lit ?_
        refine W_v (.bool (decide (x235 < (a0.length : Int)))) (x_ibin rfl rfl rfl rfl) rfl ?_
        refine Wl_nil ?_
        refine tn ?_
        refine Wp_seq ?_
        rcases iteS H with ⟨hb265, H⟩ | ⟨hb265, H⟩
        · refine Wp_cond_true (congrArg Value.bool hb265) ?_
          refine Wp_skip ?_
          refine tn ?_
          refine Wp_seq ?_
          refine Wp_block ?_
          refine Wp_seq ?_
          refine Wp_region_lit ?_
          obtain ⟨⟨p266, p267⟩, H⟩ := chkS H
          obtain ⟨b268, o269, cs270, _, _, ee275, hb271, vs272, hR273, hc274⟩ := SlW.at' hr0 p266 p267
          obtain ⟨v279, hs278, rfl⟩ := hR273
          obtain ⟨A276, c277, rfl, _⟩ := hs278.form
          refine W_v (.pointer (some ⟨b268, o269 + x235.toNat * 1, none⟩)) (x_indexAddr Try.underlying80 ty23 (slA ee275) rfl p266 p267) rfl ?_
          refine W_v (.slice A276 (rd a0 x235).length c277) (x_load (S.frz hb271) ty23 rfl (hc274 0 _ rfl)) rfl ?_
          refine W_v (.slice A276 (rd a0 x235).length c277) (x_assign rfl) rfl ?_
          refine Wl_nil ?_
          refine tn ?_
          refine Wp_region_lit ?_
          refine W_v (.slice A232 x231.length c233) (x_move rfl) rfl ?_
          refine W_v (.slice A276 (rd a0 x235).length c277) (x_move rfl) rfl ?_
          obtain ⟨p280, H⟩ := chkS H
          obtain ⟨src281, hs282, hC283⟩ := src_of_read (P := Try.prog) (ρ := (rInt .i64)) (l := (rd a0 x235)) (SlR.world hs278 S) (by decide)
          refine W_append S 0 rfl rfl rfl Try.underlying23 (.inl Try.underlying23) ty3 rfl (by decide) (by decide) hs282 hC283 rfl (by omega) rfl ?_
          intro v284 w285 E' S
          replace E := E.trans E'
          clear E'
          obtain ⟨A286, c287, rfl, _⟩ := (S.row_read 0 rfl).form
          refine W_v (.slice A286 (x231 ++ (rd a0 x235)).length c287) (x_assign rfl) rfl ?_
          refine Wl_nil ?_
          refine bn ?_
          refine tn ?_
          refine Wp_region_lit ?_
          refine W_v (.int .i64 (IntKind.i64.wrap (x235 + (1 : Int)))) (x_ibin rfl rfl rfl rfl) rfl ?_
          refine W_v (.int .i64 (IntKind.i64.wrap (x235 + (1 : Int)))) (x_move rfl) rfl ?_
          refine Wl_nil ?_
          refine tn ?_
          exact ⟨k, Nat.lt_succ_self k, ⟨(x231 ++ (rd a0 x235)), (IntKind.i64.wrap (x235 + (1 : Int))), A286, c287, H, ⟨rfl, rfl, rfl, rfl, trivial⟩, E, S.pick [0] (by decide)⟩⟩
        refine Wp_cond_false (congrArg Value.bool hb265) ?_
        refine Wp_exit ?_
        refine tx (tx (bsm (?_)))
        refine tn ?_
        exact ⟨x231, A232, c233, Option.some.inj H, ⟨rfl, trivial⟩, E, S.pick [0] (by decide)⟩
  clear o263h
  rintro ρ w288 ⟨x259, A260, c261, rfl, hρ, E, S⟩
  rw [agree_eta hρ]
  clear hρ
  have H := o263H
  clear o263H
  refine tn ?_
  refine Wp_seq ?_
  refine Wp_region_lit ?_
  refine W_v (.slice A260 x259.length c261) (x_move rfl) rfl ?_
  refine W_v (.slice A260 x259.length c261) (x_assign rfl) rfl ?_
  refine Wl_nil ?_
  refine tn ?_
  refine Wp_ret ?_
  obtain rfl := Option.some.inj H
  exact ⟨_, _, _, fun w1 e1 => run_resR (vs := [.slice A260 x259.length c261]) (FA.cons (rfl) (FA.nil)), HM, E, S.pick [0] (by decide), ⟨A260, c261, rfl, rfl⟩⟩
/-! ### ferryman/fork.with[int]: function 39 -/
def fork_with_int (k : Nat) (a0 : (List Int)) (a1 : Int) (a2 : Int) (a3 : (List Int)) : Option ((List Int)) :=
  (if 0 ≤ a1 ∧ a1 ≤ (a0.length : Int) then (if 0 ≤ (IntKind.i64.wrap (a1 + a2)) ∧ (IntKind.i64.wrap (a1 + a2)) ≤ (a0.length : Int) then (Option.bind (slices_Concat_int_int k ([(List.take a1.toNat a0), a3, (List.drop (IntKind.i64.wrap (a1 + a2)).toNat a0)] : List (List Int))) (fun t37 => some t37)) else none) else none)
set_option maxHeartbeats 2000000 in
theorem fork_with_int.mono {k : Nat} {a0 : (List Int)} {a1 : Int} {a2 : Int} {a3 : (List Int)} : OLe (fork_with_int k a0 a1 a2 a3) (fork_with_int (k + 1) a0 a1 a2 a3) := by
  unfold fork_with_int
  repeat' (first | with_reducible exact OLe.none | with_reducible exact OLe.some | with_reducible refine OLe.ite ?_ ?_ | with_reducible refine OLe.bind ?_ (fun _ => ?_) | with_reducible exact slices_Concat_int_int.mono | refine OLe.bind ?_ (fun _ => ?_) | refine OLe.ite ?_ ?_ | refine OLe.elim (fun _ => ?_) (fun _ => ?_) | split)
set_option maxHeartbeats 1000000 in
set_option maxRecDepth 100000 in
theorem fork_with_int.con (k : Nat) (M : Hp) (A0 : Option Addr) (c0 : Nat) (a0 : (List Int)) (a1 : Int) (a2 : Int) (A3 : Option Addr) (c3 : Nat) (a3 : (List Int)) (r : (List Int)) (hr0 : SlR (rInt .i64) M (.slice A0 a0.length c0) a0) (hr3 : SlR (rInt .i64) M (.slice A3 a3.length c3) a3) (h : fork_with_int k a0 a1 a2 a3 = some r) : Con Try.prog 39 #[.slice A0 a0.length c0, .int .i64 a1, .int .i64 a2, .slice A3 a3.length c3] M [] (fun v M' Γ' => ∃ (A0 : Option Addr) (c0 : Nat), v = .slice A0 r.length c0 ∧ Γ' = [Row (rInt .i64) 3 (.slice A0 r.length c0) r]) := by
  refine con_of_wp Try.func39 rfl Try.ntmps39 Try.results39 rfl ?_
  intro w F rn S hrn
  have E := Ext.refl w
  have HM := Hp.le_refl M
  have H := h
  unfold fork_with_int at H
  refine Wp_seq ?_
  refine Wp_region_lit ?_
  refine W_v (.slice none 0 0) (x_assign rfl) rfl ?_
  refine Wl_nil ?_
  refine tn ?_
  refine Wp_seq ?_
  refine Wp_region_any (S := fun w' => ∃ Mx, M.le Mx ∧ St w' Mx F []) mixed ?_
  intro w21 hw22 E'
  replace S := S.heap hw22
  replace E := E.trans E'
  clear E'
  refine Wa_take (i := 0) rfl (by kernel_rfl) rfl rfl (.slice A0 a0.length c0) rfl (fun w' h' => x_move rfl) (⟨M, Hp.le_refl M, S.pick [] (by decide)⟩) ?_
  refine Wa_take (i := 1) rfl (by kernel_rfl) rfl rfl (.int .i64 a1) rfl (fun w' h' => x_move rfl) (⟨M, Hp.le_refl M, S.pick [] (by decide)⟩) ?_
  obtain ⟨⟨p23, p24⟩, H⟩ := chkS H
  obtain ⟨hs26, hx27⟩ := sl_hi hr0 p23 p24
  have hs26z := hs26
  refine Wa_take (i := 2) rfl (by kernel_rfl) rfl rfl (.slice A0 (List.take a1.toNat a0).length c0) rfl (fun w' h' => hx27 Try.underlying23 ty3 rfl rfl) (⟨M, Hp.le_refl M, S.pick [] (by decide)⟩) ?_
  refine Wa_take (i := 3) rfl (by kernel_rfl) rfl rfl (.slice A3 a3.length c3) rfl (fun w' h' => x_move rfl) (⟨M, Hp.le_refl M, S.pick [] (by decide)⟩) ?_
  refine Wa_take (i := 4) rfl (by kernel_rfl) rfl rfl (.slice A0 a0.length c0) rfl (fun w' h' => x_move rfl) (⟨M, Hp.le_refl M, S.pick [] (by decide)⟩) ?_
  refine Wa_take (i := 5) rfl (by kernel_rfl) rfl rfl (.int .i64 a1) rfl (fun w' h' => x_move rfl) (⟨M, Hp.le_refl M, S.pick [] (by decide)⟩) ?_
  refine Wa_take (i := 6) rfl (by kernel_rfl) rfl rfl (.int .i64 a2) rfl (fun w' h' => x_move rfl) (⟨M, Hp.le_refl M, S.pick [] (by decide)⟩) ?_
  refine Wa_take (i := 7) rfl (by kernel_rfl) rfl rfl (.int .i64 (IntKind.i64.wrap (a1 + a2))) rfl (fun w' h' => x_ibin rfl rfl rfl rfl) (⟨M, Hp.le_refl M, S.pick [] (by decide)⟩) ?_
  obtain ⟨⟨p28, p29⟩, H⟩ := chkS H
  obtain ⟨A30, c31, hs32, hx33⟩ := sl_lo hr0 p28 p29
  have hs32z := hs32
  refine Wa_take (i := 8) rfl (by kernel_rfl) rfl rfl (.slice A30 (List.drop (IntKind.i64.wrap (a1 + a2)).toNat a0).length c31) rfl (fun w' h' => hx33 Try.underlying23 ty3 rfl rfl) (⟨M, Hp.le_refl M, S.pick [] (by decide)⟩) ?_
  refine Wa_solo (i := 9) rfl (by kernel_rfl) ?_
  refine W_bslice S #[.slice A0 (List.take a1.toNat a0).length c0, .slice A3 a3.length c3, .slice A30 (List.drop (IntKind.i64.wrap (a1 + a2)).toNat a0).length c31] Try.underlying80 ty23 rfl rfl #[.slice none 0 0, .slice none 0 0, .slice none 0 0] (by kernel_rfl) (by kernel_rfl) rfl ?_
  intro b34 w35 E' S
  replace E := E.trans E'
  clear E'
  replace S := S.blk_row (r := (rSl (rInt .i64))) (l := ([(List.take a1.toNat a0), a3, (List.drop (IntKind.i64.wrap (a1 + a2)).toNat a0)] : List (List Int))) 0 rfl 3 (Nat.le_refl 3) rfl (Cells.cons (vs := [.slice A0 (List.take a1.toNat a0).length c0]) (⟨_, hs26, rfl⟩) (Cells.cons (vs := [.slice A3 a3.length c3]) (⟨_, hr3, rfl⟩) (Cells.cons (vs := [.slice A30 (List.drop (IntKind.i64.wrap (a1 + a2)).toNat a0).length c31]) (⟨_, hs32, rfl⟩) Cells.nil)))
  refine Wl_nil (on_n ⟨⟨M, Hp.le_refl M, S.pick [] (by decide)⟩, ?_⟩)
  refine Wa_solo (i := 10) rfl (by kernel_rfl) ?_
  obtain ⟨t37, ht38, H⟩ := bindS H
  refine W_callN 1 fn49 (fun h9 hs9 hd9 => slices_Concat_int_int.con k _ (some ⟨b34, 0, none⟩) 3 ([(List.take a1.toNat a0), a3, (List.drop (IntKind.i64.wrap (a1 + a2)).toNat a0)] : List (List Int)) t37 (Sats.row hs9 hd9 0 rfl) ht38) S rfl rfl (by rintro _ _ _ ⟨_, _, _, rfl⟩; exact (flat_cons (flat_row (fun _ _ _ _ h => h)) flat_nil)) ?_
  rintro _ w42 _ Γ' E' S ⟨A39, c40, rfl, rfl⟩
  replace E := E.trans E'
  clear E'
  refine Wl_nil (on_n ⟨⟨M, Hp.le_refl M, S.pick [] (by decide)⟩, ?_⟩)
  refine Wa_take (i := 11) rfl (by kernel_rfl) rfl rfl (.slice A39 t37.length c40) rfl (fun w' h' => x_assign rfl) (⟨M, Hp.le_refl M, S.pick [] (by decide)⟩) ?_
  refine Wa_done (by kernel_rfl) ?_
  refine tn ?_
  refine Wp_ret ?_
  obtain rfl := Option.some.inj H
  exact ⟨_, _, _, fun w1 e1 => run_resR (vs := [.slice A39 t37.length c40]) (FA.cons (rfl) (FA.nil)), HM, E, S.pick [0] (by decide), ⟨A39, c40, rfl, rfl⟩⟩
/-! ### ferryman/fork.Cut: function 20 -/
def fork_Cut (k : Nat) (a0 : fork_Node) (a1 : Int) : Option (fork_Node × Int) :=
  (Option.bind (α := Bool) (if a0.Leaf = true then some (true) else (Option.bind (fork_May k a0) (fun t16 => some ((!t16))))) (fun x14 => (if (x14 || (decide ((a0.Kids.length : Int) < (2 : Int)))) = true then some ((⟨false, ([] : (List Str)), ([] : (List Int)), ([] : (List Int))⟩ : fork_Node), (4 : Int)) else (if ((decide (a1 < (0 : Int))) || (decide (a1 ≥ (a0.Kids.length : Int)))) = true then some ((⟨false, ([] : (List Str)), ([] : (List Int)), ([] : (List Int))⟩ : fork_Node), (5 : Int)) else (Option.bind (fork_with_string k a0.Keys (imax (0 : Int) (IntKind.i64.wrap (a1 - (1 : Int)))) (1 : Int) ([] : (List Str))) (fun t47 => (Option.bind (fork_with_int k a0.Kids a1 (1 : Int) ([] : (List Int))) (fun t53 => some ((⟨false, t47, t53, ([] : (List Int))⟩ : fork_Node), (0 : Int))))))))))
set_option maxHeartbeats 2000000 in
theorem fork_Cut.mono {k : Nat} {a0 : fork_Node} {a1 : Int} : OLe (fork_Cut k a0 a1) (fork_Cut (k + 1) a0 a1) := by
  unfold fork_Cut
  repeat' (first | with_reducible exact OLe.none | with_reducible exact OLe.some | with_reducible refine OLe.ite ?_ ?_ | with_reducible refine OLe.bind ?_ (fun _ => ?_) | with_reducible exact fork_May.mono | with_reducible exact fork_with_int.mono | with_reducible exact fork_with_string.mono | refine OLe.bind ?_ (fun _ => ?_) | refine OLe.ite ?_ ?_ | refine OLe.elim (fun _ => ?_) (fun _ => ?_) | split)
set_option maxHeartbeats 1000000 in
set_option maxRecDepth 100000 in
theorem fork_Cut.con (k : Nat) (M : Hp) (A0_0 : Option Addr) (c0_0 : Nat) (A0_1 : Option Addr) (c0_1 : Nat) (A0_2 : Option Addr) (c0_2 : Nat) (a0 : fork_Node) (a1 : Int) (r : fork_Node × Int) (hr0_0 : SlR rStr M (.slice A0_0 a0.Keys.length c0_0) a0.Keys) (hr0_1 : SlR (rInt .i64) M (.slice A0_1 a0.Kids.length c0_1) a0.Kids) (hr0_2 : SlR (rInt .u64) M (.slice A0_2 a0.Rows.length c0_2) a0.Rows) (h : fork_Cut k a0 a1 = some r) : Con Try.prog 20 #[.agg #[.bool a0.Leaf, .slice A0_0 a0.Keys.length c0_0, .slice A0_1 a0.Kids.length c0_1, .slice A0_2 a0.Rows.length c0_2], .int .i64 a1] M [] (fun v M' Γ' => ∃ (A0 : Option Addr) (c0 : Nat) (A1 : Option Addr) (c1 : Nat) (A2 : Option Addr) (c2 : Nat), v = .tuple #[.agg #[.bool r.1.Leaf, .slice A0 r.1.Keys.length c0, .slice A1 r.1.Kids.length c1, .slice A2 r.1.Rows.length c2], .int .i64 r.2] ∧ Γ' = [Row rStr 9 (.slice A0 r.1.Keys.length c0) r.1.Keys, Row (rInt .i64) 3 (.slice A1 r.1.Kids.length c1) r.1.Kids, Row (rInt .u64) 41 (.slice A2 r.1.Rows.length c2) r.1.Rows]) := by
  refine con_of_wp Try.func20 rfl Try.ntmps20 Try.results20 rfl ?_
  intro w F rn S hrn
  have E := Ext.refl w
  have HM := Hp.le_refl M
  have H := h
  unfold fork_Cut at H
  refine Wp_seq ?_
  refine Wp_region_lit ?_
  refine W_box S #[.bool a0.Leaf, .slice A0_0 a0.Keys.length c0_0, .slice A0_1 a0.Kids.length c0_1, .slice A0_2 a0.Rows.length c0_2] rfl rfl rfl ?_
  intro b1 w2 E' S
  replace E := E.trans E'
  clear E'
  refine W_alloc S #[.bool false, .slice none 0 0, .slice none 0 0, .slice none 0 0] ty26 rfl rfl ?_
  intro b4 w5 E' S
  replace E := E.trans E'
  clear E'
  refine W_v (.int .i64 0) (x_assign rfl) rfl ?_
  refine Wl_nil ?_
  refine tn ?_
  refine Wp_seq ?_
  refine Wp_block ?_
  refine Wp_seq ?_
  refine Wp_region_lit ?_
  refine W_v (.pointer (some ⟨b1, 0, none⟩)) (x_fieldAddr (o := 0) (off := 0) Try.underlying26 rfl ty4 rfl rfl) rfl ?_
  refine W_v (.bool a0.Leaf) (x_load (S.blk 1 rfl) ty4 rfl rfl) rfl ?_
  refine W_v (.bool a0.Leaf) (x_move rfl) rfl ?_
  obtain ⟨o15, o15h, o15H⟩ := bindS H
  clear H
  refine Wl_cutN 4 (fun ρ w' => ∃ (x14 : Bool), (x14) = o15 ∧ Agree ρ [(1, .int .i64 a1), (2, .pointer (some ⟨b1, 0, none⟩)), (4, .pointer (some ⟨b4, 0, none⟩)), (13, .bool x14)] ∧ Ext w w' ∧ St w' M F [Blk b4 (.cells #[.bool false, .slice none 0 0, .slice none 0 0, .slice none 0 0] 26 (0, 0)), Blk b1 (.cells #[.bool a0.Leaf, .slice A0_0 a0.Keys.length c0_0, .slice A0_1 a0.Kids.length c0_1, .slice A0_2 a0.Rows.length c0_2] 26 (0, 0))]) ?_ ?_
  · have H := o15h
    rcases iteS H with ⟨hb13, H⟩ | ⟨hb13, H⟩
    · skip
      refine W_no (skF hb13) rfl ?_
      refine W_no (skF hb13) rfl ?_
      refine W_no (skF hb13) rfl ?_
      refine W_v (.bool true) (x_pick (k := true) (congrArg Value.bool hb13) rfl) rfl ?_
      refine Wl_nil ?_
      exact ⟨true, Option.some.inj H, ⟨rfl, rfl, rfl, rfl, trivial⟩, E, S.pick [0, 1] (by decide)⟩
    · skip
      refine W_yes (congrArg some hb13) ?_
      refine W_v (.agg #[.bool a0.Leaf, .slice A0_0 a0.Keys.length c0_0, .slice A0_1 a0.Kids.length c0_1, .slice A0_2 a0.Rows.length c0_2]) (x_loadA (S.blk 1 rfl) ty26 rfl (sub_of_extract rfl) rfl rfl) rfl ?_
      refine W_yes (congrArg some hb13) ?_
      obtain ⟨t16, ht17, H⟩ := bindS H
      refine W_callF fn11 (fork_May.con k M A0_0 c0_0 A0_1 c0_1 A0_2 c0_2 a0 t16 hr0_0 hr0_1 hr0_2 ht17) S rfl rfl (by rintro _ _ _ ⟨_, rfl⟩; exact flat_nil) ?_
      rintro _ w18 _ Γ' E' S ⟨rfl, rfl⟩
      replace E := E.trans E'
      clear E'
      refine W_yes (congrArg some hb13) ?_
      refine W_v (.bool (!t16)) (x_not rfl) rfl ?_
      refine W_v (.bool (!t16)) (x_pick (k := false) (congrArg Value.bool hb13) rfl) rfl ?_
      refine Wl_nil ?_
      exact ⟨(!t16), Option.some.inj H, ⟨rfl, rfl, rfl, rfl, trivial⟩, E, S.pick [0, 1] (by decide)⟩
  clear o15h
  rintro ρ w19 ⟨x14, rfl, hρ, E, S⟩
  rw [agree_eta hρ]
  clear hρ
  have H := o15H
  clear o15H
  refine W_v (.bool x14) (x_move rfl) rfl ?_
  refine Wl_cutN 5 (fun ρ w' => Agree ρ [(1, .int .i64 a1), (2, .pointer (some ⟨b1, 0, none⟩)), (4, .pointer (some ⟨b4, 0, none⟩)), (19, .bool (x14 || (decide ((a0.Kids.length : Int) < (2 : Int)))))] ∧ w19 = w') ?_ ?_
  · rcases boolCases x14 with hb20 | hb20
    · skip
      refine W_yes (congrArg some hb20) ?_
      refine W_v (.pointer (some ⟨b1, 2, none⟩)) (x_fieldAddr (o := 0) (off := 2) Try.underlying26 rfl ty23 rfl rfl) rfl ?_
      refine W_yes (congrArg some hb20) ?_
      refine W_v (.slice A0_1 a0.Kids.length c0_1) (x_load (S.blk 1 rfl) ty23 rfl rfl) rfl ?_
      refine W_yes (congrArg some hb20) ?_
      refine W_v (.int .i64 (a0.Kids.length : Int)) (x_len_slice (n := a0.Kids.length) Try.underlying23 rfl) rfl ?_
      refine W_yes (congrArg some hb20) ?_
      refine W_v (.bool (decide ((a0.Kids.length : Int) < (2 : Int)))) (x_ibin rfl rfl rfl rfl) rfl ?_
      refine W_v (.bool (decide ((a0.Kids.length : Int) < (2 : Int)))) (x_pick (k := false) (congrArg Value.bool hb20) rfl) rfl ?_
      refine Wl_nil ?_
      exact ⟨⟨rfl, rfl, rfl, (by first | rfl | (rw [hb20]; rfl) | (simp only [hb20]; rfl)), trivial⟩, rfl⟩
    · skip
      refine W_no (skF hb20) rfl ?_
      refine W_no (skF hb20) rfl ?_
      refine W_no (skF hb20) rfl ?_
      refine W_no (skF hb20) rfl ?_
      refine W_v (.bool true) (x_pick (k := true) (congrArg Value.bool hb20) rfl) rfl ?_
      refine Wl_nil ?_
      exact ⟨⟨rfl, rfl, rfl, (by first | rfl | (rw [hb20]; rfl) | (simp only [hb20]; rfl)), trivial⟩, rfl⟩
  rintro ρ _ ⟨hρ, rfl⟩
  rw [agree_eta hρ]
  clear hρ
  refine W_v (.bool (x14 || (decide ((a0.Kids.length : Int) < (2 : Int))))) (x_assign rfl) rfl ?_
  refine Wl_nil ?_
  refine tn ?_
  rcases iteS H with ⟨hb21, H⟩ | ⟨hb21, H⟩
  · refine Wp_cond_true (congrArg Value.bool hb21) ?_
    refine Wp_seq ?_
    refine Wp_region_lit ?_
    refine W_v (.agg #[.bool false, .slice none 0 0, .slice none 0 0, .slice none 0 0]) (x_build2 (pl := [(0, 1), (1, 1), (2, 1), (3, 1)]) #[.bool false, .slice none 0 0, .slice none 0 0, .slice none 0 0] Try.underlying26 ty26 (by kernel_rfl) rfl (by kernel_rfl)) rfl ?_
    refine W_store S 0 rfl ty26 rfl rfl [.bool false, .slice none 0 0, .slice none 0 0, .slice none 0 0] rfl rfl rfl #[.bool false, .slice none 0 0, .slice none 0 0, .slice none 0 0] rfl rfl ?_
    intro w22 E' S
    replace E := E.trans E'
    clear E'
    refine W_v (.int .i64 4) (x_assign rfl) rfl ?_
    refine Wl_nil ?_
    refine tn ?_
    refine Wp_ret ?_
    refine br (tr (?_))
    obtain rfl := Option.some.inj H
    replace S := S.row_nil rStr 9
    replace S := S.row_nil (rInt .i64) 3
    replace S := S.row_nil (rInt .u64) 41
    exact ⟨_, _, _, fun w1 e1 => run_resR (vs := [.agg #[.bool false, .slice none 0 0, .slice none 0 0, .slice none 0 0], .int .i64 4]) (FA.cons (⟨_, rfl, run_loadVar_agg ty26 ((S.of_eq e1).blk 3 rfl) (sub_of_extract rfl) rfl (by decide)⟩) (FA.cons (rfl) (FA.nil))), HM, E, S.pick [2, 1, 0] (by decide), ⟨none, 0, none, 0, none, 0, rfl, rfl⟩⟩
  refine Wp_cond_false (congrArg Value.bool hb21) ?_
  refine Wp_seq ?_
  refine Wp_region_lit ?_
  refine W_v (.int .i64 a1) (x_move rfl) rfl ?_
  refine W_v (.bool (decide (a1 < (0 : Int)))) (x_ibin rfl rfl rfl rfl) rfl ?_
  refine W_v (.bool (decide (a1 < (0 : Int)))) (x_move rfl) rfl ?_
  refine Wl_cutN 6 (fun ρ w' => Agree ρ [(1, .int .i64 a1), (2, .pointer (some ⟨b1, 0, none⟩)), (4, .pointer (some ⟨b4, 0, none⟩)), (30, .bool ((decide (a1 < (0 : Int))) || (decide (a1 ≥ (a0.Kids.length : Int)))))] ∧ w19 = w') ?_ ?_
  · rcases boolCases (decide (a1 < (0 : Int))) with hb26 | hb26
    · skip
      refine W_yes (congrArg some hb26) ?_
      refine W_v (.int .i64 a1) (x_move rfl) rfl ?_
      refine W_yes (congrArg some hb26) ?_
      refine W_v (.pointer (some ⟨b1, 2, none⟩)) (x_fieldAddr (o := 0) (off := 2) Try.underlying26 rfl ty23 rfl rfl) rfl ?_
      refine W_yes (congrArg some hb26) ?_
      refine W_v (.slice A0_1 a0.Kids.length c0_1) (x_load (S.blk 1 rfl) ty23 rfl rfl) rfl ?_
      refine W_yes (congrArg some hb26) ?_
      refine W_v (.int .i64 (a0.Kids.length : Int)) (x_len_slice (n := a0.Kids.length) Try.underlying23 rfl) rfl ?_
      refine W_yes (congrArg some hb26) ?_
      refine W_v (.bool (decide (a1 ≥ (a0.Kids.length : Int)))) (x_ibin rfl rfl rfl rfl) rfl ?_
      refine W_v (.bool (decide (a1 ≥ (a0.Kids.length : Int)))) (x_pick (k := false) (congrArg Value.bool hb26) rfl) rfl ?_
      refine Wl_nil ?_
      exact ⟨⟨rfl, rfl, rfl, (by first | rfl | (rw [hb26]; rfl) | (simp only [hb26]; rfl)), trivial⟩, rfl⟩
    · skip
      refine W_no (skF hb26) rfl ?_
      refine W_no (skF hb26) rfl ?_
      refine W_no (skF hb26) rfl ?_
      refine W_no (skF hb26) rfl ?_
      refine W_no (skF hb26) rfl ?_
      refine W_v (.bool true) (x_pick (k := true) (congrArg Value.bool hb26) rfl) rfl ?_
      refine Wl_nil ?_
      exact ⟨⟨rfl, rfl, rfl, (by first | rfl | (rw [hb26]; rfl) | (simp only [hb26]; rfl)), trivial⟩, rfl⟩
  rintro ρ _ ⟨hρ, rfl⟩
  rw [agree_eta hρ]
  clear hρ
  refine W_v (.bool ((decide (a1 < (0 : Int))) || (decide (a1 ≥ (a0.Kids.length : Int))))) (x_assign rfl) rfl ?_
  refine Wl_nil ?_
  refine tn ?_
  rcases iteS H with ⟨hb27, H⟩ | ⟨hb27, H⟩
  · refine Wp_cond_true (congrArg Value.bool hb27) ?_
    refine Wp_seq ?_
    refine Wp_region_lit ?_
    refine W_v (.agg #[.bool false, .slice none 0 0, .slice none 0 0, .slice none 0 0]) (x_build2 (pl := [(0, 1), (1, 1), (2, 1), (3, 1)]) #[.bool false, .slice none 0 0, .slice none 0 0, .slice none 0 0] Try.underlying26 ty26 (by kernel_rfl) rfl (by kernel_rfl)) rfl ?_
    refine W_store S 0 rfl ty26 rfl rfl [.bool false, .slice none 0 0, .slice none 0 0, .slice none 0 0] rfl rfl rfl #[.bool false, .slice none 0 0, .slice none 0 0, .slice none 0 0] rfl rfl ?_
    intro w28 E' S
    replace E := E.trans E'
    clear E'
    refine W_v (.int .i64 5) (x_assign rfl) rfl ?_
    refine Wl_nil ?_
    refine tn ?_
    refine Wp_ret ?_
    refine br (tr (?_))
    obtain rfl := Option.some.inj H
    replace S := S.row_nil rStr 9
    replace S := S.row_nil (rInt .i64) 3
    replace S := S.row_nil (rInt .u64) 41
    exact ⟨_, _, _, fun w1 e1 => run_resR (vs := [.agg #[.bool false, .slice none 0 0, .slice none 0 0, .slice none 0 0], .int .i64 5]) (FA.cons (⟨_, rfl, run_loadVar_agg ty26 ((S.of_eq e1).blk 3 rfl) (sub_of_extract rfl) rfl (by decide)⟩) (FA.cons (rfl) (FA.nil))), HM, E, S.pick [2, 1, 0] (by decide), ⟨none, 0, none, 0, none, 0, rfl, rfl⟩⟩
  refine Wp_cond_false (congrArg Value.bool hb27) ?_
  refine Wp_skip ?_
  refine bn ?_
  refine tn ?_
  refine Wp_seq ?_
  refine Wp_region_any (S := fun w' => ∃ Mx, M.le Mx ∧ St w' Mx F [Blk b1 (.cells #[.bool a0.Leaf, .slice A0_0 a0.Keys.length c0_0, .slice A0_1 a0.Kids.length c0_1, .slice A0_2 a0.Rows.length c0_2] 26 (0, 0))]) mixed ?_
  intro w45 hw46 E'
  replace S := S.heap hw46
  replace E := E.trans E'
  clear E'
  refine Wa_take (i := 0) rfl (by kernel_rfl) rfl rfl (.pointer (some ⟨b1, 1, none⟩)) rfl (fun w' h' => x_fieldAddr (o := 0) (off := 1) Try.underlying26 rfl ty22 rfl rfl) (⟨M, Hp.le_refl M, S.pick [1] (by decide)⟩) ?_
  refine Wa_take (i := 1) rfl (by kernel_rfl) rfl rfl (.slice A0_0 a0.Keys.length c0_0) rfl (fun w' h' => x_load (cls_blk h' 0 rfl) ty22 rfl rfl) (⟨M, Hp.le_refl M, S.pick [1] (by decide)⟩) ?_
  refine Wa_take (i := 2) rfl (by kernel_rfl) rfl rfl (.int .i64 a1) rfl (fun w' h' => x_move rfl) (⟨M, Hp.le_refl M, S.pick [1] (by decide)⟩) ?_
  refine Wa_take (i := 3) rfl (by kernel_rfl) rfl rfl (.int .i64 (IntKind.i64.wrap (a1 - (1 : Int)))) rfl (fun w' h' => x_ibin rfl rfl rfl rfl) (⟨M, Hp.le_refl M, S.pick [1] (by decide)⟩) ?_
  refine Wa_take (i := 4) rfl (by kernel_rfl) rfl rfl (.int .i64 (imax (0 : Int) (IntKind.i64.wrap (a1 - (1 : Int))))) rfl (fun w' h' => x_max2 rfl rfl) (⟨M, Hp.le_refl M, S.pick [1] (by decide)⟩) ?_
  refine Wa_take (i := 6) rfl (by kernel_rfl) rfl rfl (.pointer (some ⟨b1, 2, none⟩)) rfl (fun w' h' => x_fieldAddr (o := 0) (off := 2) Try.underlying26 rfl ty23 rfl rfl) (⟨M, Hp.le_refl M, S.pick [1] (by decide)⟩) ?_
  refine Wa_take (i := 7) rfl (by kernel_rfl) rfl rfl (.slice A0_1 a0.Kids.length c0_1) rfl (fun w' h' => x_load (cls_blk h' 0 rfl) ty23 rfl rfl) (⟨M, Hp.le_refl M, S.pick [1] (by decide)⟩) ?_
  refine Wa_take (i := 8) rfl (by kernel_rfl) rfl rfl (.int .i64 a1) rfl (fun w' h' => x_move rfl) (⟨M, Hp.le_refl M, S.pick [1] (by decide)⟩) ?_
  refine Wa_solo (i := 5) rfl (by kernel_rfl) ?_
  obtain ⟨t47, ht48, H⟩ := bindS H
  refine W_callF fn37 (fork_with_string.con k M A0_0 c0_0 a0.Keys (imax (0 : Int) (IntKind.i64.wrap (a1 - (1 : Int)))) (1 : Int) none 0 ([] : (List Str)) t47 hr0_0 (SlW.nil _ _) ht48) S rfl rfl (by rintro _ _ _ ⟨_, _, _, rfl⟩; exact (flat_cons (flat_row (fun _ _ _ _ h => h)) flat_nil)) ?_
  rintro _ w52 _ Γ' E' S ⟨A49, c50, rfl, rfl⟩
  replace E := E.trans E'
  clear E'
  refine Wl_nil (on_n ⟨⟨M, Hp.le_refl M, S.pick [2] (by decide)⟩, ?_⟩)
  refine Wa_solo (i := 9) rfl (by kernel_rfl) ?_
  obtain ⟨t53, ht54, H⟩ := bindS H
  refine W_callF fn39 (fork_with_int.con k M A0_1 c0_1 a0.Kids a1 (1 : Int) none 0 ([] : (List Int)) t53 hr0_1 (SlW.nil _ _) ht54) S rfl rfl (by rintro _ _ _ ⟨_, _, _, rfl⟩; exact (flat_cons (flat_row (fun _ _ _ _ h => h)) flat_nil)) ?_
  rintro _ w58 _ Γ' E' S ⟨A55, c56, rfl, rfl⟩
  replace E := E.trans E'
  clear E'
  refine Wl_nil (on_n ⟨⟨M, Hp.le_refl M, S.pick [3] (by decide)⟩, ?_⟩)
  refine Wa_take (i := 10) rfl (by kernel_rfl) rfl rfl (.agg #[.bool false, .slice A49 t47.length c50, .slice A55 t53.length c56, .slice none 0 0]) rfl (fun w' h' => x_build2 (pl := [(0, 1), (1, 1), (2, 1), (3, 1)]) #[.bool false, .slice A49 t47.length c50, .slice A55 t53.length c56, .slice none 0 0] Try.underlying26 ty26 (by kernel_rfl) rfl (by kernel_rfl)) (⟨M, Hp.le_refl M, S.pick [3] (by decide)⟩) ?_
  refine Wa_solo (i := 11) rfl (by kernel_rfl) ?_
  refine W_store S 2 rfl ty26 rfl rfl [.bool false, .slice A49 t47.length c50, .slice A55 t53.length c56, .slice none 0 0] rfl rfl rfl #[.bool false, .slice A49 t47.length c50, .slice A55 t53.length c56, .slice none 0 0] rfl rfl ?_
  intro w59 E' S
  replace E := E.trans E'
  clear E'
  refine Wl_nil (on_n ⟨⟨M, Hp.le_refl M, S.pick [3] (by decide)⟩, ?_⟩)
  refine Wa_take (i := 12) rfl (by kernel_rfl) rfl rfl (.int .i64 0) rfl (fun w' h' => x_assign rfl) (⟨M, Hp.le_refl M, S.pick [3] (by decide)⟩) ?_
  refine Wa_done (by kernel_rfl) ?_
  refine tn ?_
  refine Wp_ret ?_
  obtain rfl := Option.some.inj H
  replace S := S.row_nil (rInt .u64) 41
  exact ⟨_, _, _, fun w1 e1 => run_resR (vs := [.agg #[.bool false, .slice A49 t47.length c50, .slice A55 t53.length c56, .slice none 0 0], .int .i64 0]) (FA.cons (⟨_, rfl, run_loadVar_agg ty26 ((S.of_eq e1).blk 3 rfl) (sub_of_extract rfl) rfl (by decide)⟩) (FA.cons (rfl) (FA.nil))), HM, E, S.pick [2, 1, 0] (by decide), ⟨A49, c50, A55, c56, none, 0, rfl, rfl⟩⟩
/-! ### ferryman/fork.Graft: function 21 -/
def fork_Graft (k : Nat) (a0 : fork_Node) (a1 : Str) (a2 : Int) : Option (fork_Node × Int) :=
  (Option.bind (fork_Place k a0 a1) (fun t7 => (Option.bind (α := Bool) (if a0.Leaf = true then some (true) else (Option.bind (fork_May k a0) (fun t19 => some ((!t19))))) (fun x17 => (if x17 = true then some ((⟨false, ([] : (List Str)), ([] : (List Int)), ([] : (List Int))⟩ : fork_Node), (4 : Int)) else (if t7.2 = true then some ((⟨false, ([] : (List Str)), ([] : (List Int)), ([] : (List Int))⟩ : fork_Node), (6 : Int)) else (Option.bind (α := List Str × List Int) (Option.bind (fork_with_string k a0.Keys t7.1 (0 : Int) ([a1] : List Str)) (fun t254 => some (t254, ([a2] : List Int)))) (fun ⟨x243, x247⟩ => (Option.bind (fork_with_int k a0.Kids (IntKind.i64.wrap (t7.1 + (1 : Int))) (0 : Int) x247) (fun t350 => some ((⟨false, x243, t350, ([] : (List Int))⟩ : fork_Node), (0 : Int))))))))))))
set_option maxHeartbeats 2000000 in
theorem fork_Graft.mono {k : Nat} {a0 : fork_Node} {a1 : Str} {a2 : Int} : OLe (fork_Graft k a0 a1 a2) (fork_Graft (k + 1) a0 a1 a2) := by
  unfold fork_Graft
  repeat' (first | with_reducible exact OLe.none | with_reducible exact OLe.some | with_reducible refine OLe.ite ?_ ?_ | with_reducible refine OLe.bind ?_ (fun _ => ?_) | with_reducible exact fork_May.mono | with_reducible exact fork_Place.mono | with_reducible exact fork_with_int.mono | with_reducible exact fork_with_string.mono | refine OLe.bind ?_ (fun _ => ?_) | refine OLe.ite ?_ ?_ | refine OLe.elim (fun _ => ?_) (fun _ => ?_) | split)
set_option maxHeartbeats 1000000 in
set_option maxRecDepth 100000 in
theorem fork_Graft.con (k : Nat) (M : Hp) (A0_0 : Option Addr) (c0_0 : Nat) (A0_1 : Option Addr) (c0_1 : Nat) (A0_2 : Option Addr) (c0_2 : Nat) (a0 : fork_Node) (a1 : Str) (a2 : Int) (r : fork_Node × Int) (hr0_0 : SlR rStr M (.slice A0_0 a0.Keys.length c0_0) a0.Keys) (hr0_1 : SlR (rInt .i64) M (.slice A0_1 a0.Kids.length c0_1) a0.Kids) (hr0_2 : SlR (rInt .u64) M (.slice A0_2 a0.Rows.length c0_2) a0.Rows) (h : fork_Graft k a0 a1 a2 = some r) : Con Try.prog 21 #[.agg #[.bool a0.Leaf, .slice A0_0 a0.Keys.length c0_0, .slice A0_1 a0.Kids.length c0_1, .slice A0_2 a0.Rows.length c0_2], .string (bs a1), .int .i64 a2] M [] (fun v M' Γ' => ∃ (A0 : Option Addr) (c0 : Nat) (A1 : Option Addr) (c1 : Nat) (A2 : Option Addr) (c2 : Nat), v = .tuple #[.agg #[.bool r.1.Leaf, .slice A0 r.1.Keys.length c0, .slice A1 r.1.Kids.length c1, .slice A2 r.1.Rows.length c2], .int .i64 r.2] ∧ Γ' = [Row rStr 9 (.slice A0 r.1.Keys.length c0) r.1.Keys, Row (rInt .i64) 3 (.slice A1 r.1.Kids.length c1) r.1.Kids, Row (rInt .u64) 41 (.slice A2 r.1.Rows.length c2) r.1.Rows]) := by
  refine con_of_wp Try.func21 rfl Try.ntmps21 Try.results21 rfl ?_
  intro w F rn S hrn
  have E := Ext.refl w
  have HM := Hp.le_refl M
  have H := h
  unfold fork_Graft at H
  refine Wp_seq ?_
  refine Wp_region_lit ?_
  refine W_box S #[.bool a0.Leaf, .slice A0_0 a0.Keys.length c0_0, .slice A0_1 a0.Kids.length c0_1, .slice A0_2 a0.Rows.length c0_2] rfl rfl rfl ?_
  intro b1 w2 E' S
  replace E := E.trans E'
  clear E'
  refine W_alloc S #[.bool false, .slice none 0 0, .slice none 0 0, .slice none 0 0] ty26 rfl rfl ?_
  intro b4 w5 E' S
  replace E := E.trans E'
  clear E'
  refine W_v (.int .i64 0) (x_assign rfl) rfl ?_
  refine Wl_nil ?_
  refine tn ?_
  refine Wp_seq ?_
  refine Wp_region_lit ?_
  refine W_v (.agg #[.bool a0.Leaf, .slice A0_0 a0.Keys.length c0_0, .slice A0_1 a0.Kids.length c0_1, .slice A0_2 a0.Rows.length c0_2]) (x_loadA (S.blk 1 rfl) ty26 rfl (sub_of_extract rfl) rfl rfl) rfl ?_
  refine W_v (.string (bs a1)) (x_move rfl) rfl ?_
  obtain ⟨t7, ht8, H⟩ := bindS H
  refine W_callF fn12 (fork_Place.con k M A0_0 c0_0 A0_1 c0_1 A0_2 c0_2 a0 a1 t7 hr0_0 hr0_1 hr0_2 ht8) S rfl rfl (by rintro _ _ _ ⟨_, rfl⟩; exact flat_nil) ?_
  rintro _ w9 _ Γ' E' S ⟨rfl, rfl⟩
  replace E := E.trans E'
  clear E'
  refine W_v (.tuple #[.int .i64 t7.1, .bool t7.2]) (x_move rfl) rfl ?_
  refine W_v (.int .i64 t7.1) (x_extract rfl rfl) rfl ?_
  refine W_v (.bool t7.2) (x_extract rfl rfl) rfl ?_
  refine W_v (.int .i64 t7.1) (x_assign rfl) rfl ?_
  refine W_v (.bool t7.2) (x_assign rfl) rfl ?_
  refine Wl_nil ?_
  refine tn ?_
  refine Wp_seq ?_
  refine Wp_block ?_
  refine Wp_seq ?_
  refine Wp_region_lit ?_
  refine W_v (.pointer (some ⟨b1, 0, none⟩)) (x_fieldAddr (o := 0) (off := 0) Try.underlying26 rfl ty4 rfl rfl) rfl ?_
  refine W_v (.bool a0.Leaf) (x_load (S.blk 1 rfl) ty4 rfl rfl) rfl ?_
  refine W_v (.bool a0.Leaf) (x_move rfl) rfl ?_
  obtain ⟨o18, o18h, o18H⟩ := bindS H
  clear H
  refine Wl_cutN 4 (fun ρ w' => ∃ (x17 : Bool), (x17) = o18 ∧ Agree ρ [(1, .string (bs a1)), (2, .int .i64 a2), (3, .pointer (some ⟨b1, 0, none⟩)), (6, .pointer (some ⟨b4, 0, none⟩)), (8, .int .i64 t7.1), (9, .bool t7.2), (23, .bool x17)] ∧ Ext w w' ∧ St w' M F [Blk b4 (.cells #[.bool false, .slice none 0 0, .slice none 0 0, .slice none 0 0] 26 (0, 0)), Blk b1 (.cells #[.bool a0.Leaf, .slice A0_0 a0.Keys.length c0_0, .slice A0_1 a0.Kids.length c0_1, .slice A0_2 a0.Rows.length c0_2] 26 (0, 0))]) ?_ ?_
  · have H := o18h
    rcases iteS H with ⟨hb16, H⟩ | ⟨hb16, H⟩
    · skip
      refine W_no (skF hb16) rfl ?_
      refine W_no (skF hb16) rfl ?_
      refine W_no (skF hb16) rfl ?_
      refine W_v (.bool true) (x_pick (k := true) (congrArg Value.bool hb16) rfl) rfl ?_
      refine Wl_nil ?_
      exact ⟨true, Option.some.inj H, ⟨rfl, rfl, rfl, rfl, rfl, rfl, rfl, trivial⟩, E, S.pick [0, 1] (by decide)⟩
    · skip
      refine W_yes (congrArg some hb16) ?_
      refine W_v (.agg #[.bool a0.Leaf, .slice A0_0 a0.Keys.length c0_0, .slice A0_1 a0.Kids.length c0_1, .slice A0_2 a0.Rows.length c0_2]) (x_loadA (S.blk 1 rfl) ty26 rfl (sub_of_extract rfl) rfl rfl) rfl ?_
      refine W_yes (congrArg some hb16) ?_
      obtain ⟨t19, ht20, H⟩ := bindS H
      refine W_callF fn11 (fork_May.con k M A0_0 c0_0 A0_1 c0_1 A0_2 c0_2 a0 t19 hr0_0 hr0_1 hr0_2 ht20) S rfl rfl (by rintro _ _ _ ⟨_, rfl⟩; exact flat_nil) ?_
      rintro _ w21 _ Γ' E' S ⟨rfl, rfl⟩
      replace E := E.trans E'
      clear E'
      refine W_yes (congrArg some hb16) ?_
      refine W_v (.bool (!t19)) (x_not rfl) rfl ?_
      refine W_v (.bool (!t19)) (x_pick (k := false) (congrArg Value.bool hb16) rfl) rfl ?_
      refine Wl_nil ?_
      exact ⟨(!t19), Option.some.inj H, ⟨rfl, rfl, rfl, rfl, rfl, rfl, rfl, trivial⟩, E, S.pick [0, 1] (by decide)⟩
  clear o18h
  rintro ρ w22 ⟨x17, rfl, hρ, E, S⟩
  rw [agree_eta hρ]
  clear hρ
  have H := o18H
  clear o18H
  refine W_v (.bool x17) (x_assign rfl) rfl ?_
  refine Wl_nil ?_
  refine tn ?_
  rcases iteS H with ⟨hb23, H⟩ | ⟨hb23, H⟩
  · refine Wp_cond_true (congrArg Value.bool hb23) ?_
    refine Wp_seq ?_
    refine Wp_region_lit ?_
    refine W_v (.agg #[.bool false, .slice none 0 0, .slice none 0 0, .slice none 0 0]) (x_build2 (pl := [(0, 1), (1, 1), (2, 1), (3, 1)]) #[.bool false, .slice none 0 0, .slice none 0 0, .slice none 0 0] Try.underlying26 ty26 (by kernel_rfl) rfl (by kernel_rfl)) rfl ?_
    refine W_store S 0 rfl ty26 rfl rfl [.bool false, .slice none 0 0, .slice none 0 0, .slice none 0 0] rfl rfl rfl #[.bool false, .slice none 0 0, .slice none 0 0, .slice none 0 0] rfl rfl ?_
    intro w24 E' S
    replace E := E.trans E'
    clear E'
    refine W_v (.int .i64 4) (x_assign rfl) rfl ?_
    refine Wl_nil ?_
    refine tn ?_
    refine Wp_ret ?_
    refine br (tr (?_))
    obtain rfl := Option.some.inj H
    replace S := S.row_nil rStr 9
    replace S := S.row_nil (rInt .i64) 3
    replace S := S.row_nil (rInt .u64) 41
    exact ⟨_, _, _, fun w1 e1 => run_resR (vs := [.agg #[.bool false, .slice none 0 0, .slice none 0 0, .slice none 0 0], .int .i64 4]) (FA.cons (⟨_, rfl, run_loadVar_agg ty26 ((S.of_eq e1).blk 3 rfl) (sub_of_extract rfl) rfl (by decide)⟩) (FA.cons (rfl) (FA.nil))), HM, E, S.pick [2, 1, 0] (by decide), ⟨none, 0, none, 0, none, 0, rfl, rfl⟩⟩
  refine Wp_cond_false (congrArg Value.bool hb23) ?_
  refine Wp_seq ?_
  refine Wp_region_lit ?_
  refine W_v (.bool t7.2) (x_move rfl) rfl ?_
  refine W_v (.bool t7.2) (x_assign rfl) rfl ?_
  refine Wl_nil ?_
  refine tn ?_
  rcases iteS H with ⟨hb28, H⟩ | ⟨hb28, H⟩
  · refine Wp_cond_true (congrArg Value.bool hb28) ?_
    refine Wp_seq ?_
    refine Wp_region_lit ?_
    refine W_v (.agg #[.bool false, .slice none 0 0, .slice none 0 0, .slice none 0 0]) (x_build2 (pl := [(0, 1), (1, 1), (2, 1), (3, 1)]) #[.bool false, .slice none 0 0, .slice none 0 0, .slice none 0 0] Try.underlying26 ty26 (by kernel_rfl) rfl (by kernel_rfl)) rfl ?_
    refine W_store S 0 rfl ty26 rfl rfl [.bool false, .slice none 0 0, .slice none 0 0, .slice none 0 0] rfl rfl rfl #[.bool false, .slice none 0 0, .slice none 0 0, .slice none 0 0] rfl rfl ?_
    intro w29 E' S
    replace E := E.trans E'
    clear E'
    refine W_v (.int .i64 6) (x_assign rfl) rfl ?_
    refine Wl_nil ?_
    refine tn ?_
    refine Wp_ret ?_
    refine br (tr (?_))
    obtain rfl := Option.some.inj H
    replace S := S.row_nil rStr 9
    replace S := S.row_nil (rInt .i64) 3
    replace S := S.row_nil (rInt .u64) 41
    exact ⟨_, _, _, fun w1 e1 => run_resR (vs := [.agg #[.bool false, .slice none 0 0, .slice none 0 0, .slice none 0 0], .int .i64 6]) (FA.cons (⟨_, rfl, run_loadVar_agg ty26 ((S.of_eq e1).blk 3 rfl) (sub_of_extract rfl) rfl (by decide)⟩) (FA.cons (rfl) (FA.nil))), HM, E, S.pick [2, 1, 0] (by decide), ⟨none, 0, none, 0, none, 0, rfl, rfl⟩⟩
  refine Wp_cond_false (congrArg Value.bool hb28) ?_
  refine Wp_skip ?_
  refine bn ?_
  refine tn ?_
  refine Wp_seq ?_
  refine Wp_region_any (S := fun w' => ∃ Mx, M.le Mx ∧ St w' Mx F [Blk b1 (.cells #[.bool a0.Leaf, .slice A0_0 a0.Keys.length c0_0, .slice A0_1 a0.Kids.length c0_1, .slice A0_2 a0.Rows.length c0_2] 26 (0, 0))]) mixed ?_
  intro w194 hw195 E'
  replace S := S.heap hw195
  replace E := E.trans E'
  clear E'
  refine Wa_take (i := 0) rfl (by kernel_rfl) rfl rfl (.pointer (some ⟨b1, 1, none⟩)) rfl (fun w' h' => x_fieldAddr (o := 0) (off := 1) Try.underlying26 rfl ty22 rfl rfl) (⟨M, Hp.le_refl M, S.pick [1] (by decide)⟩) ?_
  refine Wa_take (i := 1) rfl (by kernel_rfl) rfl rfl (.slice A0_0 a0.Keys.length c0_0) rfl (fun w' h' => x_load (cls_blk h' 0 rfl) ty22 rfl rfl) (⟨M, Hp.le_refl M, S.pick [1] (by decide)⟩) ?_
  refine Wa_take (i := 2) rfl (by kernel_rfl) rfl rfl (.int .i64 t7.1) rfl (fun w' h' => x_move rfl) (⟨M, Hp.le_refl M, S.pick [1] (by decide)⟩) ?_
  refine Wa_take (i := 3) rfl (by kernel_rfl) rfl rfl (.string (bs a1)) rfl (fun w' h' => x_move rfl) (⟨M, Hp.le_refl M, S.pick [1] (by decide)⟩) ?_
  refine Wa_take (i := 6) rfl (by kernel_rfl) rfl rfl (.pointer (some ⟨b1, 2, none⟩)) rfl (fun w' h' => x_fieldAddr (o := 0) (off := 2) Try.underlying26 rfl ty23 rfl rfl) (⟨M, Hp.le_refl M, S.pick [1] (by decide)⟩) ?_
  refine Wa_take (i := 7) rfl (by kernel_rfl) rfl rfl (.slice A0_1 a0.Kids.length c0_1) rfl (fun w' h' => x_load (cls_blk h' 0 rfl) ty23 rfl rfl) (⟨M, Hp.le_refl M, S.pick [1] (by decide)⟩) ?_
  refine Wa_take (i := 8) rfl (by kernel_rfl) rfl rfl (.int .i64 t7.1) rfl (fun w' h' => x_move rfl) (⟨M, Hp.le_refl M, S.pick [1] (by decide)⟩) ?_
  refine Wa_take (i := 9) rfl (by kernel_rfl) rfl rfl (.int .i64 (IntKind.i64.wrap (t7.1 + (1 : Int)))) rfl (fun w' h' => x_ibin rfl rfl rfl rfl) (⟨M, Hp.le_refl M, S.pick [1] (by decide)⟩) ?_
  refine Wa_take (i := 10) rfl (by kernel_rfl) rfl rfl (.int .i64 a2) rfl (fun w' h' => x_move rfl) (⟨M, Hp.le_refl M, S.pick [1] (by decide)⟩) ?_
  obtain ⟨o311, o311h, o311H⟩ := bindS H
  clear H
  refine Wa_join (fun ρ w' => ∃ (x243 : List Str) (x247 : List Int) (A244 : Option Addr) (c245 : Nat) (A248 : Option Addr) (c249 : Nat), (x243, x247) = o311 ∧ Agree ρ [(6, .pointer (some ⟨b4, 0, none⟩)), (33, .slice A244 x243.length c245), (35, .slice A0_1 a0.Kids.length c0_1), (37, .int .i64 (IntKind.i64.wrap (t7.1 + (1 : Int)))), (39, .slice A248 x247.length c249)] ∧ Ext w w' ∧ St w' M F [Row (rInt .i64) 3 (.slice A248 x247.length c249) x247, Row rStr 9 (.slice A244 x243.length c245) x243, Blk b4 (.cells #[.bool false, .slice none 0 0, .slice none 0 0, .slice none 0 0] 26 (0, 0)), Blk b1 (.cells #[.bool a0.Leaf, .slice A0_0 a0.Keys.length c0_0, .slice A0_1 a0.Kids.length c0_1, .slice A0_2 a0.Rows.length c0_2] 26 (0, 0))]) 4 (Ls 16 [0, 1, 2, 3, 4, 5, 6, 7, 8, 9, 10, 11]) ?_ ?_
  rotate_left
  · intro hq317
    clear o311H
    refine Wa_join (fun ρ w' => ∃ (x229 : List Str) (x233 : List Int) (A230 : Option Addr) (c231 : Nat) (A234 : Option Addr) (c235 : Nat), (Option.bind (fork_with_string k a0.Keys t7.1 (0 : Int) x229) (fun t305 => some (t305, x233))) = some o311 ∧ Agree ρ [(6, .pointer (some ⟨b4, 0, none⟩)), (29, .slice A0_0 a0.Keys.length c0_0), (30, .int .i64 t7.1), (32, .slice A230 x229.length c231), (35, .slice A0_1 a0.Kids.length c0_1), (37, .int .i64 (IntKind.i64.wrap (t7.1 + (1 : Int)))), (39, .slice A234 x233.length c235)] ∧ Ext w w' ∧ St w' M F [Row (rInt .i64) 3 (.slice A234 x233.length c235) x233, Row rStr 9 (.slice A230 x229.length c231) x229, Blk b4 (.cells #[.bool false, .slice none 0 0, .slice none 0 0, .slice none 0 0] 26 (0, 0)), Blk b1 (.cells #[.bool a0.Leaf, .slice A0_0 a0.Keys.length c0_0, .slice A0_1 a0.Kids.length c0_1, .slice A0_2 a0.Rows.length c0_2] 26 (0, 0))]) 5 (Ls 16 [0, 1, 2, 3, 4, 6, 7, 8, 9, 10, 11]) ?_ ?_
    · clear o311h
      rintro ρ w318 ⟨x229, x233, A230, c231, A234, c235, H, hρ, E, S⟩
      rw [agree_eta hρ]
      clear hρ
      refine Wa_solo (i := 5) rfl (by kernel_rfl) ?_
      replace S : St w318 M F [Row rStr 9 (.slice A230 x229.length c231) x229, Row (rInt .i64) 3 (.slice A234 x233.length c235) x233, Blk b4 (.cells #[.bool false, .slice none 0 0, .slice none 0 0, .slice none 0 0] 26 (0, 0)), Blk b1 (.cells #[.bool a0.Leaf, .slice A0_0 a0.Keys.length c0_0, .slice A0_1 a0.Kids.length c0_1, .slice A0_2 a0.Rows.length c0_2] 26 (0, 0))] := S.pick [1, 0, 2, 3] (by decide)
      obtain ⟨t319, ht320, H⟩ := bindS H
      refine W_callN 1 fn37 (fun h9 hs9 hd9 => fork_with_string.con k _ A0_0 c0_0 a0.Keys t7.1 (0 : Int) A230 c231 x229 t319 (SlR.mono hr0_0 (Hp.le_union_left _ _)) (Sats.row hs9 hd9 0 rfl) ht320) S rfl rfl (by rintro _ _ _ ⟨_, _, _, rfl⟩; exact (flat_cons (flat_row (fun _ _ _ _ h => h)) flat_nil)) ?_
      rintro _ w324 _ Γ' E' S ⟨A321, c322, rfl, rfl⟩
      replace E := E.trans E'
      clear E'
      refine Wl_nil (on_n ⟨⟨M, Hp.le_refl M, S.pick [4] (by decide)⟩, ?_⟩)
      exact hq317 _ _ ⟨t319, x233, A321, c322, A234, c235, Option.some.inj H, ⟨rfl, rfl, rfl, rfl, rfl, trivial⟩, E, S.pick [2, 0, 3, 4] (by decide)⟩
    intro hq316
    refine Wa_join (fun ρ w' => ∃ (x222 : List Str) (A223 : Option Addr) (c224 : Nat), some (x222, ([a2] : List Int)) = some o311 ∧ Agree ρ [(6, .pointer (some ⟨b4, 0, none⟩)), (33, .slice A223 x222.length c224), (35, .slice A0_1 a0.Kids.length c0_1), (37, .int .i64 (IntKind.i64.wrap (t7.1 + (1 : Int)))), (38, .int .i64 a2)] ∧ Ext w w' ∧ St w' M F [Row rStr 9 (.slice A223 x222.length c224) x222, Blk b4 (.cells #[.bool false, .slice none 0 0, .slice none 0 0, .slice none 0 0] 26 (0, 0)), Blk b1 (.cells #[.bool a0.Leaf, .slice A0_0 a0.Keys.length c0_0, .slice A0_1 a0.Kids.length c0_1, .slice A0_2 a0.Rows.length c0_2] 26 (0, 0))]) 5 (Ls 16 [0, 1, 2, 3, 4, 5, 6, 7, 8, 9, 10]) ?_ ?_
    · clear o311h
      rintro ρ w325 ⟨x222, A223, c224, H, hρ, E, S⟩
      rw [agree_eta hρ]
      clear hρ
      refine Wa_solo (i := 11) rfl (by kernel_rfl) ?_
      refine W_bslice S #[.int .i64 a2] Try.underlying23 ty3 rfl rfl #[.int .i64 0] (by kernel_rfl) (by kernel_rfl) rfl ?_
      intro b326 w327 E' S
      replace E := E.trans E'
      clear E'
      replace S := S.blk_row (r := (rInt .i64)) (l := ([a2] : List Int)) 0 rfl 1 (Nat.le_refl 1) rfl (Cells.cons (vs := [.int .i64 a2]) (rfl) Cells.nil)
      refine Wl_nil (on_n ⟨⟨M, Hp.le_refl M, S.pick [3] (by decide)⟩, ?_⟩)
      exact hq317 _ _ ⟨x222, ([a2] : List Int), A223, c224, (some ⟨b326, 0, none⟩), 1, Option.some.inj H, ⟨rfl, rfl, rfl, rfl, rfl, trivial⟩, E, S.pick [0, 1, 2, 3] (by decide)⟩
    intro hq315
    refine Wa_join (fun ρ w' => ∃ (x215 : List Int) (A216 : Option Addr) (c217 : Nat), (Option.bind (fork_with_string k a0.Keys t7.1 (0 : Int) ([a1] : List Str)) (fun t296 => some (t296, x215))) = some o311 ∧ Agree ρ [(6, .pointer (some ⟨b4, 0, none⟩)), (29, .slice A0_0 a0.Keys.length c0_0), (30, .int .i64 t7.1), (31, .string (bs a1)), (35, .slice A0_1 a0.Kids.length c0_1), (37, .int .i64 (IntKind.i64.wrap (t7.1 + (1 : Int)))), (39, .slice A216 x215.length c217)] ∧ Ext w w' ∧ St w' M F [Row (rInt .i64) 3 (.slice A216 x215.length c217) x215, Blk b4 (.cells #[.bool false, .slice none 0 0, .slice none 0 0, .slice none 0 0] 26 (0, 0)), Blk b1 (.cells #[.bool a0.Leaf, .slice A0_0 a0.Keys.length c0_0, .slice A0_1 a0.Kids.length c0_1, .slice A0_2 a0.Rows.length c0_2] 26 (0, 0))]) 6 (Ls 16 [0, 1, 2, 3, 6, 7, 8, 9, 10, 11]) ?_ ?_
    · clear o311h
      rintro ρ w329 ⟨x215, A216, c217, H, hρ, E, S⟩
      rw [agree_eta hρ]
      clear hρ
      refine Wa_solo (i := 4) rfl (by kernel_rfl) ?_
      refine W_bslice S #[.string (bs a1)] Try.underlying22 ty9 rfl rfl #[.string (bs ([] : Str))] (by kernel_rfl) (by kernel_rfl) rfl ?_
      intro b330 w331 E' S
      replace E := E.trans E'
      clear E'
      replace S := S.blk_row (r := rStr) (l := ([a1] : List Str)) 0 rfl 1 (Nat.le_refl 1) rfl (Cells.cons (vs := [.string (bs a1)]) (rfl) Cells.nil)
      refine Wl_nil (on_n ⟨⟨M, Hp.le_refl M, S.pick [3] (by decide)⟩, ?_⟩)
      exact hq316 _ _ ⟨([a1] : List Str), x215, (some ⟨b330, 0, none⟩), 1, A216, c217, H, ⟨rfl, rfl, rfl, rfl, rfl, rfl, rfl, trivial⟩, E, S.pick [1, 0, 2, 3] (by decide)⟩
    intro hq314
    refine Wa_join (fun ρ w' => ∃ (x202 : List Str) (A203 : Option Addr) (c204 : Nat), (Option.bind (fork_with_string k a0.Keys t7.1 (0 : Int) x202) (fun t275 => some (t275, ([a2] : List Int)))) = some o311 ∧ Agree ρ [(6, .pointer (some ⟨b4, 0, none⟩)), (29, .slice A0_0 a0.Keys.length c0_0), (30, .int .i64 t7.1), (32, .slice A203 x202.length c204), (35, .slice A0_1 a0.Kids.length c0_1), (37, .int .i64 (IntKind.i64.wrap (t7.1 + (1 : Int)))), (38, .int .i64 a2)] ∧ Ext w w' ∧ St w' M F [Row rStr 9 (.slice A203 x202.length c204) x202, Blk b4 (.cells #[.bool false, .slice none 0 0, .slice none 0 0, .slice none 0 0] 26 (0, 0)), Blk b1 (.cells #[.bool a0.Leaf, .slice A0_0 a0.Keys.length c0_0, .slice A0_1 a0.Kids.length c0_1, .slice A0_2 a0.Rows.length c0_2] 26 (0, 0))]) 6 (Ls 16 [0, 1, 2, 3, 4, 6, 7, 8, 9, 10]) ?_ ?_
    · clear o311h
      rintro ρ w333 ⟨x202, A203, c204, H, hρ, E, S⟩
      rw [agree_eta hρ]
      clear hρ
      refine Wa_oneOf (rs := [5, 11]) (by kernel_rfl) (by decide) ?_
      simp only [List.forall_mem_cons, List.not_mem_nil, false_implies, implies_true, and_true]
      refine ⟨?_, ?_⟩
      · refine ⟨_, rfl, ?_⟩
        obtain ⟨t334, ht335, H⟩ := bindS H
        refine W_callN 1 fn37 (fun h9 hs9 hd9 => fork_with_string.con k _ A0_0 c0_0 a0.Keys t7.1 (0 : Int) A203 c204 x202 t334 (SlR.mono hr0_0 (Hp.le_union_left _ _)) (Sats.row hs9 hd9 0 rfl) ht335) S rfl rfl (by rintro _ _ _ ⟨_, _, _, rfl⟩; exact (flat_cons (flat_row (fun _ _ _ _ h => h)) flat_nil)) ?_
        rintro _ w339 _ Γ' E' S ⟨A336, c337, rfl, rfl⟩
        replace E := E.trans E'
        clear E'
        refine Wl_nil (on_n ⟨⟨M, Hp.le_refl M, S.pick [3] (by decide)⟩, ?_⟩)
        exact hq315 _ _ ⟨t334, A336, c337, H, ⟨rfl, rfl, rfl, rfl, rfl, trivial⟩, E, S.pick [0, 2, 3] (by decide)⟩
      · refine ⟨_, rfl, ?_⟩
        refine W_bslice S #[.int .i64 a2] Try.underlying23 ty3 rfl rfl #[.int .i64 0] (by kernel_rfl) (by kernel_rfl) rfl ?_
        intro b340 w341 E' S
        replace E := E.trans E'
        clear E'
        replace S := S.blk_row (r := (rInt .i64)) (l := ([a2] : List Int)) 0 rfl 1 (Nat.le_refl 1) rfl (Cells.cons (vs := [.int .i64 a2]) (rfl) Cells.nil)
        refine Wl_nil (on_n ⟨⟨M, Hp.le_refl M, S.pick [3] (by decide)⟩, ?_⟩)
        exact hq316 _ _ ⟨x202, ([a2] : List Int), A203, c204, (some ⟨b340, 0, none⟩), 1, H, ⟨rfl, rfl, rfl, rfl, rfl, rfl, rfl, trivial⟩, E, S.pick [0, 1, 2, 3] (by decide)⟩
    intro hq313
    have H := o311h
    refine Wa_oneOf (rs := [4, 11]) (by kernel_rfl) (by decide) ?_
    simp only [List.forall_mem_cons, List.not_mem_nil, false_implies, implies_true, and_true]
    refine ⟨?_, ?_⟩
    · refine ⟨_, rfl, ?_⟩
      refine W_bslice S #[.string (bs a1)] Try.underlying22 ty9 rfl rfl #[.string (bs ([] : Str))] (by kernel_rfl) (by kernel_rfl) rfl ?_
      intro b343 w344 E' S
      replace E := E.trans E'
      clear E'
      replace S := S.blk_row (r := rStr) (l := ([a1] : List Str)) 0 rfl 1 (Nat.le_refl 1) rfl (Cells.cons (vs := [.string (bs a1)]) (rfl) Cells.nil)
      refine Wl_nil (on_n ⟨⟨M, Hp.le_refl M, S.pick [2] (by decide)⟩, ?_⟩)
      exact hq313 _ _ ⟨([a1] : List Str), (some ⟨b343, 0, none⟩), 1, H, ⟨rfl, rfl, rfl, rfl, rfl, rfl, rfl, trivial⟩, E, S.pick [0, 1, 2] (by decide)⟩
    · refine ⟨_, rfl, ?_⟩
      refine W_bslice S #[.int .i64 a2] Try.underlying23 ty3 rfl rfl #[.int .i64 0] (by kernel_rfl) (by kernel_rfl) rfl ?_
      intro b346 w347 E' S
      replace E := E.trans E'
      clear E'
      replace S := S.blk_row (r := (rInt .i64)) (l := ([a2] : List Int)) 0 rfl 1 (Nat.le_refl 1) rfl (Cells.cons (vs := [.int .i64 a2]) (rfl) Cells.nil)
      refine Wl_nil (on_n ⟨⟨M, Hp.le_refl M, S.pick [2] (by decide)⟩, ?_⟩)
      exact hq314 _ _ ⟨([a2] : List Int), (some ⟨b346, 0, none⟩), 1, H, ⟨rfl, rfl, rfl, rfl, rfl, rfl, rfl, trivial⟩, E, S.pick [0, 1, 2] (by decide)⟩
  clear o311h
  rintro ρ w349 ⟨x243, x247, A244, c245, A248, c249, rfl, hρ, E, S⟩
  rw [agree_eta hρ]
  clear hρ
  have H := o311H
  clear o311H
  refine Wa_solo (i := 12) rfl (by kernel_rfl) ?_
  obtain ⟨t350, ht351, H⟩ := bindS H
  refine W_callN 1 fn39 (fun h9 hs9 hd9 => fork_with_int.con k _ A0_1 c0_1 a0.Kids (IntKind.i64.wrap (t7.1 + (1 : Int))) (0 : Int) A248 c249 x247 t350 (SlR.mono hr0_1 (Hp.le_union_left _ _)) (Sats.row hs9 hd9 0 rfl) ht351) S rfl rfl (by rintro _ _ _ ⟨_, _, _, rfl⟩; exact (flat_cons (flat_row (fun _ _ _ _ h => h)) flat_nil)) ?_
  rintro _ w355 _ Γ' E' S ⟨A352, c353, rfl, rfl⟩
  replace E := E.trans E'
  clear E'
  refine Wl_nil (on_n ⟨⟨M, Hp.le_refl M, S.pick [4] (by decide)⟩, ?_⟩)
  refine Wa_take (i := 13) rfl (by kernel_rfl) rfl rfl (.agg #[.bool false, .slice A244 x243.length c245, .slice A352 t350.length c353, .slice none 0 0]) rfl (fun w' h' => x_build2 (pl := [(0, 1), (1, 1), (2, 1), (3, 1)]) #[.bool false, .slice A244 x243.length c245, .slice A352 t350.length c353, .slice none 0 0] Try.underlying26 ty26 (by kernel_rfl) rfl (by kernel_rfl)) (⟨M, Hp.le_refl M, S.pick [4] (by decide)⟩) ?_
  refine Wa_solo (i := 14) rfl (by kernel_rfl) ?_
  refine W_store S 3 rfl ty26 rfl rfl [.bool false, .slice A244 x243.length c245, .slice A352 t350.length c353, .slice none 0 0] rfl rfl rfl #[.bool false, .slice A244 x243.length c245, .slice A352 t350.length c353, .slice none 0 0] rfl rfl ?_
  intro w356 E' S
  replace E := E.trans E'
  clear E'
  refine Wl_nil (on_n ⟨⟨M, Hp.le_refl M, S.pick [4] (by decide)⟩, ?_⟩)
  refine Wa_take (i := 15) rfl (by kernel_rfl) rfl rfl (.int .i64 0) rfl (fun w' h' => x_assign rfl) (⟨M, Hp.le_refl M, S.pick [4] (by decide)⟩) ?_
  refine Wa_done (by kernel_rfl) ?_
  refine tn ?_
  refine Wp_ret ?_
  obtain rfl := Option.some.inj H
  replace S := S.row_nil (rInt .u64) 41
  exact ⟨_, _, _, fun w1 e1 => run_resR (vs := [.agg #[.bool false, .slice A244 x243.length c245, .slice A352 t350.length c353, .slice none 0 0], .int .i64 0]) (FA.cons (⟨_, rfl, run_loadVar_agg ty26 ((S.of_eq e1).blk 4 rfl) (sub_of_extract rfl) rfl (by decide)⟩) (FA.cons (rfl) (FA.nil))), HM, E, S.pick [3, 1, 0] (by decide), ⟨A244, c245, A352, c353, none, 0, rfl, rfl⟩⟩
/-! ### ferryman/ferrymanref13.Same: function 16 -/
def ferrymanref13_Same_l2 (a0 : ferrymanref13_Node) (a1 : ferrymanref13_Node) : Nat → Int → Option ((Bool) ⊕ (Unit))
  | 0, _ => none
  | k + 1, x465 => (if (decide (x465 < (a0.Rows.length : Int))) = true then (if 0 ≤ x465 ∧ x465 < (a0.Rows.length : Int) then (if 0 ≤ x465 ∧ x465 < (a1.Rows.length : Int) then (if ((rd a0.Rows x465) != (rd a1.Rows x465)) = true then some (.inl false) else ferrymanref13_Same_l2 a0 a1 k (IntKind.i64.wrap (x465 + (1 : Int)))) else none) else none) else some (.inr ()))
set_option maxHeartbeats 2000000 in
theorem ferrymanref13_Same_l2.mono {a0 : ferrymanref13_Node} {a1 : ferrymanref13_Node} : ∀ {k : Nat} {x0}, OLe (ferrymanref13_Same_l2 a0 a1 k x0) (ferrymanref13_Same_l2 a0 a1 (k + 1) x0) := by
  intro k
  induction k with
  | zero => intros; exact OLe.none
  | succ k ih =>
    intros
    rw [ferrymanref13_Same_l2.eq_2, ferrymanref13_Same_l2.eq_2]
    repeat' (first | with_reducible exact OLe.none | with_reducible exact OLe.some | with_reducible refine OLe.ite ?_ ?_ | with_reducible refine OLe.bind ?_ (fun _ => ?_) | exact ih | refine OLe.bind ?_ (fun _ => ?_) | refine OLe.ite ?_ ?_ | refine OLe.elim (fun _ => ?_) (fun _ => ?_) | split)
def ferrymanref13_Same_l1 (a0 : ferrymanref13_Node) (a1 : ferrymanref13_Node) : Nat → Int → Option ((Bool) ⊕ (Unit))
  | 0, _ => none
  | k + 1, x283 => (if (decide (x283 < (a0.Kids.length : Int))) = true then (if 0 ≤ x283 ∧ x283 < (a0.Kids.length : Int) then (if 0 ≤ x283 ∧ x283 < (a1.Kids.length : Int) then (if ((rd a0.Kids x283) != (rd a1.Kids x283)) = true then some (.inl false) else ferrymanref13_Same_l1 a0 a1 k (IntKind.i64.wrap (x283 + (1 : Int)))) else none) else none) else some (.inr ()))
set_option maxHeartbeats 2000000 in
theorem ferrymanref13_Same_l1.mono {a0 : ferrymanref13_Node} {a1 : ferrymanref13_Node} : ∀ {k : Nat} {x0}, OLe (ferrymanref13_Same_l1 a0 a1 k x0) (ferrymanref13_Same_l1 a0 a1 (k + 1) x0) := by
  intro k
  induction k with
  | zero => intros; exact OLe.none
  | succ k ih =>
    intros
    rw [ferrymanref13_Same_l1.eq_2, ferrymanref13_Same_l1.eq_2]
    repeat' (first | with_reducible exact OLe.none | with_reducible exact OLe.some | with_reducible refine OLe.ite ?_ ?_ | with_reducible refine OLe.bind ?_ (fun _ => ?_) | exact ih | refine OLe.bind ?_ (fun _ => ?_) | refine OLe.ite ?_ ?_ | refine OLe.elim (fun _ => ?_) (fun _ => ?_) | split)
def ferrymanref13_Same_l0 (a0 : ferrymanref13_Node) (a1 : ferrymanref13_Node) : Nat → Int → Option ((Bool) ⊕ (Unit))
  | 0, _ => none
  | k + 1, x101 => (if (decide (x101 < (a0.Keys.length : Int))) = true then (if 0 ≤ x101 ∧ x101 < (a0.Keys.length : Int) then (if 0 ≤ x101 ∧ x101 < (a1.Keys.length : Int) then (if (sbin .neq (rd a0.Keys x101) (rd a1.Keys x101)) = true then some (.inl false) else ferrymanref13_Same_l0 a0 a1 k (IntKind.i64.wrap (x101 + (1 : Int)))) else none) else none) else some (.inr ()))
set_option maxHeartbeats 2000000 in
theorem ferrymanref13_Same_l0.mono {a0 : ferrymanref13_Node} {a1 : ferrymanref13_Node} : ∀ {k : Nat} {x0}, OLe (ferrymanref13_Same_l0 a0 a1 k x0) (ferrymanref13_Same_l0 a0 a1 (k + 1) x0) := by
  intro k
  induction k with
  | zero => intros; exact OLe.none
  | succ k ih =>
    intros
    rw [ferrymanref13_Same_l0.eq_2, ferrymanref13_Same_l0.eq_2]
    repeat' (first | with_reducible exact OLe.none | with_reducible exact OLe.some | with_reducible refine OLe.ite ?_ ?_ | with_reducible refine OLe.bind ?_ (fun _ => ?_) | exact ih | refine OLe.bind ?_ (fun _ => ?_) | refine OLe.ite ?_ ?_ | refine OLe.elim (fun _ => ?_) (fun _ => ?_) | split)
def ferrymanref13_Same (k : Nat) (a0 : ferrymanref13_Node) (a1 : ferrymanref13_Node) : Option (Bool) :=
  (if ((((!(a0.Leaf == a1.Leaf)) || ((a0.Keys.length : Int) != (a1.Keys.length : Int))) || ((a0.Kids.length : Int) != (a1.Kids.length : Int))) || ((a0.Rows.length : Int) != (a1.Rows.length : Int))) = true then some false else (Option.bind (ferrymanref13_Same_l0 a0 a1 k (0 : Int)) (fun o146o => Sum.elim (fun r' => some r') (fun _ => (Option.bind (ferrymanref13_Same_l1 a0 a1 k (0 : Int)) (fun o328o => Sum.elim (fun r' => some r') (fun _ => (Option.bind (ferrymanref13_Same_l2 a0 a1 k (0 : Int)) (fun o510o => Sum.elim (fun r' => some r') (fun _ => some true) o510o))) o328o))) o146o)))
set_option maxHeartbeats 2000000 in
theorem ferrymanref13_Same.mono {k : Nat} {a0 : ferrymanref13_Node} {a1 : ferrymanref13_Node} : OLe (ferrymanref13_Same k a0 a1) (ferrymanref13_Same (k + 1) a0 a1) := by
  unfold ferrymanref13_Same
  repeat' (first | with_reducible exact OLe.none | with_reducible exact OLe.some | with_reducible refine OLe.ite ?_ ?_ | with_reducible refine OLe.bind ?_ (fun _ => ?_) | with_reducible exact ferrymanref13_Same_l0.mono | with_reducible exact ferrymanref13_Same_l1.mono | with_reducible exact ferrymanref13_Same_l2.mono | refine OLe.bind ?_ (fun _ => ?_) | refine OLe.ite ?_ ?_ | refine OLe.elim (fun _ => ?_) (fun _ => ?_) | split)
set_option maxHeartbeats 1000000 in
set_option maxRecDepth 100000 in
theorem ferrymanref13_Same.con (k : Nat) (M : Hp) (A0_0 : Option Addr) (c0_0 : Nat) (A0_1 : Option Addr) (c0_1 : Nat) (A0_2 : Option Addr) (c0_2 : Nat) (a0 : ferrymanref13_Node) (A1_0 : Option Addr) (c1_0 : Nat) (A1_1 : Option Addr) (c1_1 : Nat) (A1_2 : Option Addr) (c1_2 : Nat) (a1 : ferrymanref13_Node) (r : Bool) (hr0_0 : SlR rStr M (.slice A0_0 a0.Keys.length c0_0) a0.Keys) (hr0_1 : SlR (rInt .i64) M (.slice A0_1 a0.Kids.length c0_1) a0.Kids) (hr0_2 : SlR (rInt .u64) M (.slice A0_2 a0.Rows.length c0_2) a0.Rows) (hr1_0 : SlR rStr M (.slice A1_0 a1.Keys.length c1_0) a1.Keys) (hr1_1 : SlR (rInt .i64) M (.slice A1_1 a1.Kids.length c1_1) a1.Kids) (hr1_2 : SlR (rInt .u64) M (.slice A1_2 a1.Rows.length c1_2) a1.Rows) (h : ferrymanref13_Same k a0 a1 = some r) : Con Try.prog 16 #[.agg #[.bool a0.Leaf, .slice A0_0 a0.Keys.length c0_0, .slice A0_1 a0.Kids.length c0_1, .slice A0_2 a0.Rows.length c0_2], .agg #[.bool a1.Leaf, .slice A1_0 a1.Keys.length c1_0, .slice A1_1 a1.Kids.length c1_1, .slice A1_2 a1.Rows.length c1_2]] M [] (fun v M' Γ' => v = .bool r ∧ Γ' = []) := by
  refine con_of_wp Try.func16 rfl Try.ntmps16 Try.results16 rfl ?_
  intro w F rn S hrn
  have E := Ext.refl w
  have HM := Hp.le_refl M
  have H := h
  unfold ferrymanref13_Same at H
  refine Wp_seq ?_
  refine Wp_region_lit ?_
  refine W_box S #[.bool a0.Leaf, .slice A0_0 a0.Keys.length c0_0, .slice A0_1 a0.Kids.length c0_1, .slice A0_2 a0.Rows.length c0_2] rfl rfl rfl ?_
  intro b1 w2 E' S
  replace E := E.trans E'
  clear E'
  refine W_box S #[.bool a1.Leaf, .slice A1_0 a1.Keys.length c1_0, .slice A1_1 a1.Kids.length c1_1, .slice A1_2 a1.Rows.length c1_2] rfl rfl rfl ?_
  intro b4 w5 E' S
  replace E := E.trans E'
  clear E'
  refine W_v (.bool false) (x_assign rfl) rfl ?_
  refine Wl_nil ?_
  refine tn ?_
  refine Wp_seq ?_
  refine Wp_seq ?_
  refine Wp_region_lit ?_
  refine W_v (.pointer (some ⟨b1, 0, none⟩)) (x_fieldAddr (o := 0) (off := 0) Try.underlying39 rfl ty4 rfl rfl) rfl ?_
  refine W_v (.bool a0.Leaf) (x_load (S.blk 1 rfl) ty4 rfl rfl) rfl ?_
  refine W_v (.pointer (some ⟨b4, 0, none⟩)) (x_fieldAddr (o := 0) (off := 0) Try.underlying39 rfl ty4 rfl rfl) rfl ?_
  refine W_v (.bool a1.Leaf) (x_load (S.blk 0 rfl) ty4 rfl rfl) rfl ?_
  refine W_v (.bool (!(a0.Leaf == a1.Leaf))) (x_bne Try.underlying4 rfl rfl) rfl ?_
  refine W_v (.bool (!(a0.Leaf == a1.Leaf))) (x_move rfl) rfl ?_
  refine Wl_cutN 8 (fun ρ w' => Agree ρ [(2, .pointer (some ⟨b1, 0, none⟩)), (3, .pointer (some ⟨b4, 0, none⟩)), (21, .bool ((!(a0.Leaf == a1.Leaf)) || ((a0.Keys.length : Int) != (a1.Keys.length : Int))))] ∧ w5 = w') ?_ ?_
  · rcases boolCases (!(a0.Leaf == a1.Leaf)) with hb7 | hb7
    · skip
      refine W_yes (congrArg some hb7) ?_
      refine W_v (.pointer (some ⟨b1, 1, none⟩)) (x_fieldAddr (o := 0) (off := 1) Try.underlying39 rfl ty22 rfl rfl) rfl ?_
      refine W_yes (congrArg some hb7) ?_
      refine W_v (.slice A0_0 a0.Keys.length c0_0) (x_load (S.blk 1 rfl) ty22 rfl rfl) rfl ?_
      refine W_yes (congrArg some hb7) ?_
      refine W_v (.int .i64 (a0.Keys.length : Int)) (x_len_slice (n := a0.Keys.length) Try.underlying22 rfl) rfl ?_
      refine W_yes (congrArg some hb7) ?_
      refine W_v (.pointer (some ⟨b4, 1, none⟩)) (x_fieldAddr (o := 0) (off := 1) Try.underlying39 rfl ty22 rfl rfl) rfl ?_
      refine W_yes (congrArg some hb7) ?_
      refine W_v (.slice A1_0 a1.Keys.length c1_0) (x_load (S.blk 0 rfl) ty22 rfl rfl) rfl ?_
      refine W_yes (congrArg some hb7) ?_
      refine W_v (.int .i64 (a1.Keys.length : Int)) (x_len_slice (n := a1.Keys.length) Try.underlying22 rfl) rfl ?_
      refine W_yes (congrArg some hb7) ?_
      refine W_v (.bool ((a0.Keys.length : Int) != (a1.Keys.length : Int))) (x_ibin rfl rfl rfl rfl) rfl ?_
      refine W_v (.bool ((a0.Keys.length : Int) != (a1.Keys.length : Int))) (x_pick (k := false) (congrArg Value.bool hb7) rfl) rfl ?_
      refine Wl_nil ?_
      exact ⟨⟨rfl, rfl, (by first | rfl | (rw [hb7]; rfl) | (simp only [hb7]; rfl)), trivial⟩, rfl⟩
    · skip
      refine W_no (skF hb7) rfl ?_
      refine W_no (skF hb7) rfl ?_
      refine W_no (skF hb7) rfl ?_
      refine W_no (skF hb7) rfl ?_
      refine W_no (skF hb7) rfl ?_
      refine W_no (skF hb7) rfl ?_
      refine W_no (skF hb7) rfl ?_
      refine W_v (.bool true) (x_pick (k := true) (congrArg Value.bool hb7) rfl) rfl ?_
      refine Wl_nil ?_
      exact ⟨⟨rfl, rfl, (by first | rfl | (rw [hb7]; rfl) | (simp only [hb7]; rfl)), trivial⟩, rfl⟩
  rintro ρ _ ⟨hρ, rfl⟩
  rw [agree_eta hρ]
  clear hρ
  refine W_v (.bool ((!(a0.Leaf == a1.Leaf)) || ((a0.Keys.length : Int) != (a1.Keys.length : Int)))) (x_move rfl) rfl ?_
  refine Wl_cutN 8 (fun ρ w' => Agree ρ [(2, .pointer (some ⟨b1, 0, none⟩)), (3, .pointer (some ⟨b4, 0, none⟩)), (30, .bool (((!(a0.Leaf == a1.Leaf)) || ((a0.Keys.length : Int) != (a1.Keys.length : Int))) || ((a0.Kids.length : Int) != (a1.Kids.length : Int))))] ∧ w5 = w') ?_ ?_
  · rcases boolCases ((!(a0.Leaf == a1.Leaf)) || ((a0.Keys.length : Int) != (a1.Keys.length : Int))) with hb8 | hb8
    · skip
      refine W_yes (congrArg some hb8) ?_
      refine W_v (.pointer (some ⟨b1, 2, none⟩)) (x_fieldAddr (o := 0) (off := 2) Try.underlying39 rfl ty23 rfl rfl) rfl ?_
      refine W_yes (congrArg some hb8) ?_
      refine W_v (.slice A0_1 a0.Kids.length c0_1) (x_load (S.blk 1 rfl) ty23 rfl rfl) rfl ?_
      refine W_yes (congrArg some hb8) ?_
      refine W_v (.int .i64 (a0.Kids.length : Int)) (x_len_slice (n := a0.Kids.length) Try.underlying23 rfl) rfl ?_
      refine W_yes (congrArg some hb8) ?_
      refine W_v (.pointer (some ⟨b4, 2, none⟩)) (x_fieldAddr (o := 0) (off := 2) Try.underlying39 rfl ty23 rfl rfl) rfl ?_
      refine W_yes (congrArg some hb8) ?_
      refine W_v (.slice A1_1 a1.Kids.length c1_1) (x_load (S.blk 0 rfl) ty23 rfl rfl) rfl ?_
      refine W_yes (congrArg some hb8) ?_
      refine W_v (.int .i64 (a1.Kids.length : Int)) (x_len_slice (n := a1.Kids.length) Try.underlying23 rfl) rfl ?_
      refine W_yes (congrArg some hb8) ?_
      refine W_v (.bool ((a0.Kids.length : Int) != (a1.Kids.length : Int))) (x_ibin rfl rfl rfl rfl) rfl ?_
      refine W_v (.bool ((a0.Kids.length : Int) != (a1.Kids.length : Int))) (x_pick (k := false) (congrArg Value.bool hb8) rfl) rfl ?_
      refine Wl_nil ?_
      exact ⟨⟨rfl, rfl, (by first | rfl | (rw [hb8]; rfl) | (simp only [hb8]; rfl)), trivial⟩, rfl⟩
    · skip
      refine W_no (skF hb8) rfl ?_
      refine W_no (skF hb8) rfl ?_
      refine W_no (skF hb8) rfl ?_
      refine W_no (skF hb8) rfl ?_
      refine W_no (skF hb8) rfl ?_
      refine W_no (skF hb8) rfl ?_
      refine W_no (skF hb8) rfl ?_
      refine W_v (.bool true) (x_pick (k := true) (congrArg Value.bool hb8) rfl) rfl ?_
      refine Wl_nil ?_
      exact ⟨⟨rfl, rfl, (by first | rfl | (rw [hb8]; rfl) | (simp only [hb8]; rfl)), trivial⟩, rfl⟩
  rintro ρ _ ⟨hρ, rfl⟩
  rw [agree_eta hρ]
  clear hρ
  refine W_v (.bool (((!(a0.Leaf == a1.Leaf)) || ((a0.Keys.length : Int) != (a1.Keys.length : Int))) || ((a0.Kids.length : Int) != (a1.Kids.length : Int)))) (x_move rfl) rfl ?_
  refine Wl_cutN 8 (fun ρ w' => Agree ρ [(2, .pointer (some ⟨b1, 0, none⟩)), (3, .pointer (some ⟨b4, 0, none⟩)), (39, .bool ((((!(a0.Leaf == a1.Leaf)) || ((a0.Keys.length : Int) != (a1.Keys.length : Int))) || ((a0.Kids.length : Int) != (a1.Kids.length : Int))) || ((a0.Rows.length : Int) != (a1.Rows.length : Int))))] ∧ w5 = w') ?_ ?_
  · rcases boolCases (((!(a0.Leaf == a1.Leaf)) || ((a0.Keys.length : Int) != (a1.Keys.length : Int))) || ((a0.Kids.length : Int) != (a1.Kids.length : Int))) with hb9 | hb9
    · skip
      refine W_yes (congrArg some hb9) ?_
      refine W_v (.pointer (some ⟨b1, 3, none⟩)) (x_fieldAddr (o := 0) (off := 3) Try.underlying39 rfl ty24 rfl rfl) rfl ?_
      refine W_yes (congrArg some hb9) ?_
      refine W_v (.slice A0_2 a0.Rows.length c0_2) (x_load (S.blk 1 rfl) ty24 rfl rfl) rfl ?_
      refine W_yes (congrArg some hb9) ?_
      refine W_v (.int .i64 (a0.Rows.length : Int)) (x_len_slice (n := a0.Rows.length) Try.underlying24 rfl) rfl ?_
      refine W_yes (congrArg some hb9) ?_
      refine W_v (.pointer (some ⟨b4, 3, none⟩)) (x_fieldAddr (o := 0) (off := 3) Try.underlying39 rfl ty24 rfl rfl) rfl ?_
      refine W_yes (congrArg some hb9) ?_
      refine W_v (.slice A1_2 a1.Rows.length c1_2) (x_load (S.blk 0 rfl) ty24 rfl rfl) rfl ?_
      refine W_yes (congrArg some hb9) ?_
      refine W_v (.int .i64 (a1.Rows.length : Int)) (x_len_slice (n := a1.Rows.length) Try.underlying24 rfl) rfl ?_
      refine W_yes (congrArg some hb9) ?_
      refine W_v (.bool ((a0.Rows.length : Int) != (a1.Rows.length : Int))) (x_ibin rfl rfl rfl rfl) rfl ?_
      refine W_v (.bool ((a0.Rows.length : Int) != (a1.Rows.length : Int))) (x_pick (k := false) (congrArg Value.bool hb9) rfl) rfl ?_
      refine Wl_nil ?_
      exact ⟨⟨rfl, rfl, (by first | rfl | (rw [hb9]; rfl) | (simp only [hb9]; rfl)), trivial⟩, rfl⟩
    · skip
      refine W_no (skF hb9) rfl ?_
      refine W_no (skF hb9) rfl ?_
      refine W_no (skF hb9) rfl ?_
      refine W_no (skF hb9) rfl ?_
      refine W_no (skF hb9) rfl ?_
      refine W_no (skF hb9) rfl ?_
      refine W_no (skF hb9) rfl ?_
      refine W_v (.bool true) (x_pick (k := true) (congrArg Value.bool hb9) rfl) rfl ?_
      refine Wl_nil ?_
      exact ⟨⟨rfl, rfl, (by first | rfl | (rw [hb9]; rfl) | (simp only [hb9]; rfl)), trivial⟩, rfl⟩
  rintro ρ _ ⟨hρ, rfl⟩
  rw [agree_eta hρ]
  clear hρ
  refine Wl_nil ?_
  refine tn ?_
  rcases iteS H with ⟨hb10, H⟩ | ⟨hb10, H⟩
  · refine Wp_cond_true (congrArg Value.bool hb10) ?_
    refine Wp_seq ?_
    refine Wp_region_lit ?_
    refine W_v (.bool false) (x_assign rfl) rfl ?_
    refine Wl_nil ?_
    refine tn ?_
    refine Wp_ret ?_
    refine tr (?_)
    obtain rfl := Option.some.inj H
    exact ⟨_, _, _, fun w1 e1 => run_resR (vs := [.bool false]) (FA.cons (rfl) (FA.nil)), HM, E, S.pick [] (by decide), ⟨rfl, rfl⟩⟩
  refine Wp_cond_false (congrArg Value.bool hb10) ?_
  refine Wp_skip ?_
  refine tn ?_
  refine Wp_seq ?_
  refine Wp_seq ?_
  refine Wp_region_lit ?_
  refine W_v (.int .i64 0) (x_assign rfl) rfl ?_
  refine Wl_nil ?_
  refine tn ?_
  obtain ⟨o146, o146h, o146H⟩ := bindS H
  clear H
  refine Wp_blockJ (fun ρ w' => .inr () = o146 ∧ Agree ρ [(2, .pointer (some ⟨b1, 0, none⟩)), (3, .pointer (some ⟨b4, 0, none⟩))] ∧ Ext w w' ∧ St w' M F [Blk b4 (.cells #[.bool a1.Leaf, .slice A1_0 a1.Keys.length c1_0, .slice A1_1 a1.Kids.length c1_1, .slice A1_2 a1.Rows.length c1_2] 39 (0, 0)), Blk b1 (.cells #[.bool a0.Leaf, .slice A0_0 a0.Keys.length c0_0, .slice A0_1 a0.Kids.length c0_1, .slice A0_2 a0.Rows.length c0_2] 39 (0, 0))]) ?_ ?_
  · skip
    refine Wp_loop (fun n ρ w' => ∃ (x101 : Int), ferrymanref13_Same_l0 a0 a1 n x101 = some o146 ∧ Agree ρ [(2, .pointer (some ⟨b1, 0, none⟩)), (3, .pointer (some ⟨b4, 0, none⟩)), (5, .int .i64 x101)] ∧ Ext w w' ∧ St w' M F [Blk b4 (.cells #[.bool a1.Leaf, .slice A1_0 a1.Keys.length c1_0, .slice A1_1 a1.Kids.length c1_1, .slice A1_2 a1.Rows.length c1_2] 39 (0, 0)), Blk b1 (.cells #[.bool a0.Leaf, .slice A0_0 a0.Keys.length c0_0, .slice A0_1 a0.Kids.length c0_1, .slice A0_2 a0.Rows.length c0_2] 39 (0, 0))]) k ?_ ?_
    · skip
      exact ⟨(0 : Int), o146h, ⟨rfl, rfl, rfl, trivial⟩, E, S.pick [0, 1] (by decide)⟩
    · intro n
      rintro ρ w147 ⟨x101, H, hρ, E, S⟩
      rw [agree_eta hρ]
      clear hρ
      cases n with
      | zero => cases H
      | succ k =>
        rw [ferrymanref13_Same_l0.eq_2] at H
        refine Wp_seq ?_
        refine Wp_seq ?_
        refine Wp_region_lit ?_
        refine W_v (.int .i64 x101) (x_move rfl) rfl ?_
        refine W_v (.pointer (some ⟨b1, 1, none⟩)) (x_fieldAddr (o := 0) (off := 1) Try.underlying39 rfl ty22 rfl rfl) rfl ?_
        refine W_v (.slice A0_0 a0.Keys.length c0_0) (x_load (S.blk 1 rfl) ty22 rfl rfl) rfl ?_
        refine W_v (.int .i64 (a0.Keys.length : Int)) (x_len_slice (n := a0.Keys.length) Try.underlying22 rfl) rfl ?_
        refine W_v (.bool (decide (x101 < (a0.Keys.length : Int)))) (x_ibin rfl rfl rfl rfl) rfl ?_
        refine Wl_nil ?_
        refine tn ?_
        rcases iteS H with ⟨hb148, H⟩ | ⟨hb148, H⟩
        · refine Wp_cond_true (congrArg Value.bool hb148) ?_
          refine Wp_skip ?_
          refine tn ?_
          refine Wp_seq ?_
          refine Wp_block ?_
          refine Wp_seq ?_
          refine Wp_region_any (S := fun w' => ∃ Mx, M.le Mx ∧ St w' Mx F [Blk b4 (.cells #[.bool a1.Leaf, .slice A1_0 a1.Keys.length c1_0, .slice A1_1 a1.Kids.length c1_1, .slice A1_2 a1.Rows.length c1_2] 39 (0, 0)), Blk b1 (.cells #[.bool a0.Leaf, .slice A0_0 a0.Keys.length c0_0, .slice A0_1 a0.Kids.length c0_1, .slice A0_2 a0.Rows.length c0_2] 39 (0, 0))]) mixed ?_
          intro w169 hw170 E'
          replace S := S.heap hw170
          replace E := E.trans E'
          clear E'
          refine Wa_take (i := 0) rfl (by kernel_rfl) rfl rfl (.pointer (some ⟨b1, 1, none⟩)) rfl (fun w' h' => x_fieldAddr (o := 0) (off := 1) Try.underlying39 rfl ty22 rfl rfl) (⟨M, Hp.le_refl M, S.pick [0, 1] (by decide)⟩) ?_
          refine Wa_take (i := 1) rfl (by kernel_rfl) rfl rfl (.slice A0_0 a0.Keys.length c0_0) rfl (fun w' h' => x_load (cls_blk h' 1 rfl) ty22 rfl rfl) (⟨M, Hp.le_refl M, S.pick [0, 1] (by decide)⟩) ?_
          refine Wa_take (i := 2) rfl (by kernel_rfl) rfl rfl (.int .i64 x101) rfl (fun w' h' => x_move rfl) (⟨M, Hp.le_refl M, S.pick [0, 1] (by decide)⟩) ?_
          obtain ⟨⟨p171, p172⟩, H⟩ := chkS H
          obtain ⟨b173, o174, cs175, _, _, ee180, hb176, vs177, hR178, hc179⟩ := SlW.at' hr0_0 p171 p172
          obtain rfl : vs177 = _ := hR178
          refine Wa_take (i := 3) rfl (by kernel_rfl) rfl rfl (.pointer (some ⟨b173, o174 + x101.toNat * 1, none⟩)) rfl (fun w' h' => x_indexAddr Try.underlying22 ty9 (slA ee180) rfl p171 p172) (⟨M, Hp.le_refl M, S.pick [0, 1] (by decide)⟩) ?_
          refine Wa_take (i := 4) rfl (by kernel_rfl) rfl rfl (.string (bs (rd a0.Keys x101))) rfl (fun w' h' => x_load (cls_frz h' hb176) ty9 rfl (hc179 0 _ rfl)) (⟨M, Hp.le_refl M, S.pick [0, 1] (by decide)⟩) ?_
          refine Wa_take (i := 5) rfl (by kernel_rfl) rfl rfl (.pointer (some ⟨b4, 1, none⟩)) rfl (fun w' h' => x_fieldAddr (o := 0) (off := 1) Try.underlying39 rfl ty22 rfl rfl) (⟨M, Hp.le_refl M, S.pick [0, 1] (by decide)⟩) ?_
          refine Wa_take (i := 6) rfl (by kernel_rfl) rfl rfl (.slice A1_0 a1.Keys.length c1_0) rfl (fun w' h' => x_load (cls_blk h' 0 rfl) ty22 rfl rfl) (⟨M, Hp.le_refl M, S.pick [0, 1] (by decide)⟩) ?_
          refine Wa_take (i := 7) rfl (by kernel_rfl) rfl rfl (.int .i64 x101) rfl (fun w' h' => x_move rfl) (⟨M, Hp.le_refl M, S.pick [0, 1] (by decide)⟩) ?_
          obtain ⟨⟨p181, p182⟩, H⟩ := chkS H
          obtain ⟨b183, o184, cs185, _, _, ee190, hb186, vs187, hR188, hc189⟩ := SlW.at' hr1_0 p181 p182
          obtain rfl : vs187 = _ := hR188
          refine Wa_take (i := 8) rfl (by kernel_rfl) rfl rfl (.pointer (some ⟨b183, o184 + x101.toNat * 1, none⟩)) rfl (fun w' h' => x_indexAddr Try.underlying22 ty9 (slA ee190) rfl p181 p182) (⟨M, Hp.le_refl M, S.pick [0, 1] (by decide)⟩) ?_
          refine Wa_take (i := 9) rfl (by kernel_rfl) rfl rfl (.string (bs (rd a1.Keys x101))) rfl (fun w' h' => x_load (cls_frz h' hb186) ty9 rfl (hc189 0 _ rfl)) (⟨M, Hp.le_refl M, S.pick [0, 1] (by decide)⟩) ?_
          refine Wa_take (i := 10) rfl (by kernel_rfl) rfl rfl (.bool (sbin .neq (rd a0.Keys x101) (rd a1.Keys x101))) rfl (fun w' h' => x_sbin rfl rfl rfl) (⟨M, Hp.le_refl M, S.pick [0, 1] (by decide)⟩) ?_
          refine Wa_done (by kernel_rfl) ?_
          refine tn ?_
          rcases iteS H with ⟨hb191, H⟩ | ⟨hb191, H⟩
          · refine Wp_cond_true (congrArg Value.bool hb191) ?_
            refine Wp_seq ?_
            refine Wp_region_lit ?_
            refine W_v (.bool false) (x_assign rfl) rfl ?_
            refine Wl_nil ?_
            refine tn ?_
            refine Wp_ret ?_
            refine br (tr (tr (br (tr (tr (?_))))))
            obtain rfl := Option.some.inj H
            have H := o146H
            replace H := elimL H
            obtain rfl := Option.some.inj H
            exact ⟨_, _, _, fun w1 e1 => run_resR (vs := [.bool false]) (FA.cons (rfl) (FA.nil)), HM, E, S.pick [] (by decide), ⟨rfl, rfl⟩⟩
          refine Wp_cond_false (congrArg Value.bool hb191) ?_
          refine Wp_skip ?_
          refine bn ?_
          refine tn ?_
          refine Wp_region_lit ?_
          refine W_v (.int .i64 x101) (x_move rfl) rfl ?_
          refine W_v (.int .i64 (IntKind.i64.wrap (x101 + (1 : Int)))) (x_ibin rfl rfl rfl rfl) rfl ?_
          refine W_v (.int .i64 (IntKind.i64.wrap (x101 + (1 : Int)))) (x_assign rfl) rfl ?_
          refine Wl_nil ?_
          refine tn ?_
          exact ⟨k, Nat.lt_succ_self k, ⟨(IntKind.i64.wrap (x101 + (1 : Int))), H, ⟨rfl, rfl, rfl, trivial⟩, E, S.pick [0, 1] (by decide)⟩⟩
        refine Wp_cond_false (congrArg Value.bool hb148) ?_
        refine Wp_exit ?_
        refine tx (tx (bsm (?_)))
        refine tn ?_
        exact ⟨Option.some.inj H, ⟨rfl, rfl, trivial⟩, E, S.pick [0, 1] (by decide)⟩
  clear o146h
  rintro ρ w192 ⟨rfl, hρ, E, S⟩
  rw [agree_eta hρ]
  clear hρ
  have H := o146H
  clear o146H
  replace H := elimR H
  refine tn ?_
  refine Wp_seq ?_
  refine Wp_seq ?_
  refine Wp_region_lit ?_
  refine W_v (.int .i64 0) (x_assign rfl) rfl ?_
  refine Wl_nil ?_
  refine tn ?_
  obtain ⟨o328, o328h, o328H⟩ := bindS H
  clear H
  refine Wp_blockJ (fun ρ w' => .inr () = o328 ∧ Agree ρ [(2, .pointer (some ⟨b1, 0, none⟩)), (3, .pointer (some ⟨b4, 0, none⟩))] ∧ Ext w w' ∧ St w' M F [Blk b4 (.cells #[.bool a1.Leaf, .slice A1_0 a1.Keys.length c1_0, .slice A1_1 a1.Kids.length c1_1, .slice A1_2 a1.Rows.length c1_2] 39 (0, 0)), Blk b1 (.cells #[.bool a0.Leaf, .slice A0_0 a0.Keys.length c0_0, .slice A0_1 a0.Kids.length c0_1, .slice A0_2 a0.Rows.length c0_2] 39 (0, 0))]) ?_ ?_
  · skip
    refine Wp_loop (fun n ρ w' => ∃ (x283 : Int), ferrymanref13_Same_l1 a0 a1 n x283 = some o328 ∧ Agree ρ [(2, .pointer (some ⟨b1, 0, none⟩)), (3, .pointer (some ⟨b4, 0, none⟩)), (6, .int .i64 x283)] ∧ Ext w w' ∧ St w' M F [Blk b4 (.cells #[.bool a1.Leaf, .slice A1_0 a1.Keys.length c1_0, .slice A1_1 a1.Kids.length c1_1, .slice A1_2 a1.Rows.length c1_2] 39 (0, 0)), Blk b1 (.cells #[.bool a0.Leaf, .slice A0_0 a0.Keys.length c0_0, .slice A0_1 a0.Kids.length c0_1, .slice A0_2 a0.Rows.length c0_2] 39 (0, 0))]) k ?_ ?_
    · skip
      exact ⟨(0 : Int), o328h, ⟨rfl, rfl, rfl, trivial⟩, E, S.pick [0, 1] (by decide)⟩
    · intro n
      rintro ρ w329 ⟨x283, H, hρ, E, S⟩
      rw [agree_eta hρ]
      clear hρ
      cases n with
      | zero => cases H
      | succ k =>
        rw [ferrymanref13_Same_l1.eq_2] at H
        refine Wp_seq ?_
        refine Wp_seq ?_
        refine Wp_region_lit ?_
        refine W_v (.int .i64 x283) (x_move rfl) rfl ?_
        refine W_v (.pointer (some ⟨b1, 2, none⟩)) (x_fieldAddr (o := 0) (off := 2) Try.underlying39 rfl ty23 rfl rfl) rfl ?_
        refine W_v (.slice A0_1 a0.Kids.length c0_1) (x_load (S.blk 1 rfl) ty23 rfl rfl) rfl ?_
        refine W_v (.int .i64 (a0.Kids.length : Int)) (x_len_slice (n := a0.Kids.length) Try.underlying23 rfl) rfl ?_
        refine W_v (.bool (decide (x283 < (a0.Kids.length : Int)))) (x_ibin rfl rfl rfl rfl) rfl ?_
        refine Wl_nil ?_
        refine tn ?_
        rcases iteS H with ⟨hb330, H⟩ | ⟨hb330, H⟩
        · refine Wp_cond_true (congrArg Value.bool hb330) ?_
          refine Wp_skip ?_
          refine tn ?_
          refine Wp_seq ?_
          refine Wp_block ?_
          refine Wp_seq ?_
          refine Wp_region_any (S := fun w' => ∃ Mx, M.le Mx ∧ St w' Mx F [Blk b4 (.cells #[.bool a1.Leaf, .slice A1_0 a1.Keys.length c1_0, .slice A1_1 a1.Kids.length c1_1, .slice A1_2 a1.Rows.length c1_2] 39 (0, 0)), Blk b1 (.cells #[.bool a0.Leaf, .slice A0_0 a0.Keys.length c0_0, .slice A0_1 a0.Kids.length c0_1, .slice A0_2 a0.Rows.length c0_2] 39 (0, 0))]) mixed ?_
          intro w351 hw352 E'
          replace S := S.heap hw352
          replace E := E.trans E'
          clear E'
          refine Wa_take (i := 0) rfl (by kernel_rfl) rfl rfl (.pointer (some ⟨b1, 2, none⟩)) rfl (fun w' h' => x_fieldAddr (o := 0) (off := 2) Try.underlying39 rfl ty23 rfl rfl) (⟨M, Hp.le_refl M, S.pick [0, 1] (by decide)⟩) ?_
          refine Wa_take (i := 1) rfl (by kernel_rfl) rfl rfl (.slice A0_1 a0.Kids.length c0_1) rfl (fun w' h' => x_load (cls_blk h' 1 rfl) ty23 rfl rfl) (⟨M, Hp.le_refl M, S.pick [0, 1] (by decide)⟩) ?_
          refine Wa_take (i := 2) rfl (by kernel_rfl) rfl rfl (.int .i64 x283) rfl (fun w' h' => x_move rfl) (⟨M, Hp.le_refl M, S.pick [0, 1] (by decide)⟩) ?_
          obtain ⟨⟨p353, p354⟩, H⟩ := chkS H
          obtain ⟨b355, o356, cs357, _, _, ee362, hb358, vs359, hR360, hc361⟩ := SlW.at' hr0_1 p353 p354
          obtain rfl : vs359 = _ := hR360
          refine Wa_take (i := 3) rfl (by kernel_rfl) rfl rfl (.pointer (some ⟨b355, o356 + x283.toNat * 1, none⟩)) rfl (fun w' h' => x_indexAddr Try.underlying23 ty3 (slA ee362) rfl p353 p354) (⟨M, Hp.le_refl M, S.pick [0, 1] (by decide)⟩) ?_
          refine Wa_take (i := 4) rfl (by kernel_rfl) rfl rfl (.int .i64 (rd a0.Kids x283)) rfl (fun w' h' => x_load (cls_frz h' hb358) ty3 rfl (hc361 0 _ rfl)) (⟨M, Hp.le_refl M, S.pick [0, 1] (by decide)⟩) ?_
          refine Wa_take (i := 5) rfl (by kernel_rfl) rfl rfl (.pointer (some ⟨b4, 2, none⟩)) rfl (fun w' h' => x_fieldAddr (o := 0) (off := 2) Try.underlying39 rfl ty23 rfl rfl) (⟨M, Hp.le_refl M, S.pick [0, 1] (by decide)⟩) ?_
          refine Wa_take (i := 6) rfl (by kernel_rfl) rfl rfl (.slice A1_1 a1.Kids.length c1_1) rfl (fun w' h' => x_load (cls_blk h' 0 rfl) ty23 rfl rfl) (⟨M, Hp.le_refl M, S.pick [0, 1] (by decide)⟩) ?_
          refine Wa_take (i := 7) rfl (by kernel_rfl) rfl rfl (.int .i64 x283) rfl (fun w' h' => x_move rfl) (⟨M, Hp.le_refl M, S.pick [0, 1] (by decide)⟩) ?_
          obtain ⟨⟨p363, p364⟩, H⟩ := chkS H
          obtain ⟨b365, o366, cs367, _, _, ee372, hb368, vs369, hR370, hc371⟩ := SlW.at' hr1_1 p363 p364
          obtain rfl : vs369 = _ := hR370
          refine Wa_take (i := 8) rfl (by kernel_rfl) rfl rfl (.pointer (some ⟨b365, o366 + x283.toNat * 1, none⟩)) rfl (fun w' h' => x_indexAddr Try.underlying23 ty3 (slA ee372) rfl p363 p364) (⟨M, Hp.le_refl M, S.pick [0, 1] (by decide)⟩) ?_
          refine Wa_take (i := 9) rfl (by kernel_rfl) rfl rfl (.int .i64 (rd a1.Kids x283)) rfl (fun w' h' => x_load (cls_frz h' hb368) ty3 rfl (hc371 0 _ rfl)) (⟨M, Hp.le_refl M, S.pick [0, 1] (by decide)⟩) ?_
          refine Wa_take (i := 10) rfl (by kernel_rfl) rfl rfl (.bool ((rd a0.Kids x283) != (rd a1.Kids x283))) rfl (fun w' h' => x_ibin rfl rfl rfl rfl) (⟨M, Hp.le_refl M, S.pick [0, 1] (by decide)⟩) ?_
          refine Wa_done (by kernel_rfl) ?_
          refine tn ?_
          rcases iteS H with ⟨hb373, H⟩ | ⟨hb373, H⟩
          · refine Wp_cond_true (congrArg Value.bool hb373) ?_
            refine Wp_seq ?_
            refine Wp_region_lit ?_
            refine W_v (.bool false) (x_assign rfl) rfl ?_
            refine Wl_nil ?_
            refine tn ?_
            refine Wp_ret ?_
            refine br (tr (tr (br (tr (tr (?_))))))
            obtain rfl := Option.some.inj H
            have H := o328H
            replace H := elimL H
            obtain rfl := Option.some.inj H
            exact ⟨_, _, _, fun w1 e1 => run_resR (vs := [.bool false]) (FA.cons (rfl) (FA.nil)), HM, E, S.pick [] (by decide), ⟨rfl, rfl⟩⟩
          refine Wp_cond_false (congrArg Value.bool hb373) ?_
          refine Wp_skip ?_
          refine bn ?_
          refine tn ?_
          refine Wp_region_lit ?_
          refine W_v (.int .i64 x283) (x_move rfl) rfl ?_
          refine W_v (.int .i64 (IntKind.i64.wrap (x283 + (1 : Int)))) (x_ibin rfl rfl rfl rfl) rfl ?_
          refine W_v (.int .i64 (IntKind.i64.wrap (x283 + (1 : Int)))) (x_assign rfl) rfl ?_
          refine Wl_nil ?_
          refine tn ?_
          exact ⟨k, Nat.lt_succ_self k, ⟨(IntKind.i64.wrap (x283 + (1 : Int))), H, ⟨rfl, rfl, rfl, trivial⟩, E, S.pick [0, 1] (by decide)⟩⟩
        refine Wp_cond_false (congrArg Value.bool hb330) ?_
        refine Wp_exit ?_
        refine tx (tx (bsm (?_)))
        refine tn ?_
        exact ⟨Option.some.inj H, ⟨rfl, rfl, trivial⟩, E, S.pick [0, 1] (by decide)⟩
  clear o328h
  rintro ρ w374 ⟨rfl, hρ, E, S⟩
  rw [agree_eta hρ]
  clear hρ
  have H := o328H
  clear o328H
  replace H := elimR H
  refine tn ?_
  refine Wp_seq ?_
  refine Wp_seq ?_
  refine Wp_region_lit ?_
  refine W_v (.int .i64 0) (x_assign rfl) rfl ?_
  refine Wl_nil ?_
  refine tn ?_
  obtain ⟨o510, o510h, o510H⟩ := bindS H
  clear H
  refine Wp_blockJ (fun ρ w' => .inr () = o510 ∧ Agree ρ [] ∧ Ext w w' ∧ St w' M F []) ?_ ?_
  · skip
    refine Wp_loop (fun n ρ w' => ∃ (x465 : Int), ferrymanref13_Same_l2 a0 a1 n x465 = some o510 ∧ Agree ρ [(2, .pointer (some ⟨b1, 0, none⟩)), (3, .pointer (some ⟨b4, 0, none⟩)), (7, .int .i64 x465)] ∧ Ext w w' ∧ St w' M F [Blk b4 (.cells #[.bool a1.Leaf, .slice A1_0 a1.Keys.length c1_0, .slice A1_1 a1.Kids.length c1_1, .slice A1_2 a1.Rows.length c1_2] 39 (0, 0)), Blk b1 (.cells #[.bool a0.Leaf, .slice A0_0 a0.Keys.length c0_0, .slice A0_1 a0.Kids.length c0_1, .slice A0_2 a0.Rows.length c0_2] 39 (0, 0))]) k ?_ ?_
    · skip
      exact ⟨(0 : Int), o510h, ⟨rfl, rfl, rfl, trivial⟩, E, S.pick [0, 1] (by decide)⟩
    · intro n
      rintro ρ w511 ⟨x465, H, hρ, E, S⟩
      rw [agree_eta hρ]
      clear hρ
      cases n with
      | zero => cases H
      | succ k =>
        rw [ferrymanref13_Same_l2.eq_2] at H
        refine Wp_seq ?_
        refine Wp_seq ?_
        refine Wp_region_lit ?_
        refine W_v (.int .i64 x465) (x_move rfl) rfl ?_
        refine W_v (.pointer (some ⟨b1, 3, none⟩)) (x_fieldAddr (o := 0) (off := 3) Try.underlying39 rfl ty24 rfl rfl) rfl ?_
        refine W_v (.slice A0_2 a0.Rows.length c0_2) (x_load (S.blk 1 rfl) ty24 rfl rfl) rfl ?_
        refine W_v (.int .i64 (a0.Rows.length : Int)) (x_len_slice (n := a0.Rows.length) Try.underlying24 rfl) rfl ?_
        refine W_v (.bool (decide (x465 < (a0.Rows.length : Int)))) (x_ibin rfl rfl rfl rfl) rfl ?_
        refine Wl_nil ?_
        refine tn ?_
        rcases iteS H with ⟨hb512, H⟩ | ⟨hb512, H⟩
        · refine Wp_cond_true (congrArg Value.bool hb512) ?_
          refine Wp_skip ?_
          refine tn ?_
          refine Wp_seq ?_
          refine Wp_block ?_
          refine Wp_seq ?_
          refine Wp_region_any (S := fun w' => ∃ Mx, M.le Mx ∧ St w' Mx F [Blk b4 (.cells #[.bool a1.Leaf, .slice A1_0 a1.Keys.length c1_0, .slice A1_1 a1.Kids.length c1_1, .slice A1_2 a1.Rows.length c1_2] 39 (0, 0)), Blk b1 (.cells #[.bool a0.Leaf, .slice A0_0 a0.Keys.length c0_0, .slice A0_1 a0.Kids.length c0_1, .slice A0_2 a0.Rows.length c0_2] 39 (0, 0))]) mixed ?_
          intro w533 hw534 E'
          replace S := S.heap hw534
          replace E := E.trans E'
          clear E'
          refine Wa_take (i := 0) rfl (by kernel_rfl) rfl rfl (.pointer (some ⟨b1, 3, none⟩)) rfl (fun w' h' => x_fieldAddr (o := 0) (off := 3) Try.underlying39 rfl ty24 rfl rfl) (⟨M, Hp.le_refl M, S.pick [0, 1] (by decide)⟩) ?_
          refine Wa_take (i := 1) rfl (by kernel_rfl) rfl rfl (.slice A0_2 a0.Rows.length c0_2) rfl (fun w' h' => x_load (cls_blk h' 1 rfl) ty24 rfl rfl) (⟨M, Hp.le_refl M, S.pick [0, 1] (by decide)⟩) ?_
          refine Wa_take (i := 2) rfl (by kernel_rfl) rfl rfl (.int .i64 x465) rfl (fun w' h' => x_move rfl) (⟨M, Hp.le_refl M, S.pick [0, 1] (by decide)⟩) ?_
          obtain ⟨⟨p535, p536⟩, H⟩ := chkS H
          obtain ⟨b537, o538, cs539, _, _, ee544, hb540, vs541, hR542, hc543⟩ := SlW.at' hr0_2 p535 p536
          obtain rfl : vs541 = _ := hR542
          refine Wa_take (i := 3) rfl (by kernel_rfl) rfl rfl (.pointer (some ⟨b537, o538 + x465.toNat * 1, none⟩)) rfl (fun w' h' => x_indexAddr Try.underlying24 ty41 (slA ee544) rfl p535 p536) (⟨M, Hp.le_refl M, S.pick [0, 1] (by decide)⟩) ?_
          refine Wa_take (i := 4) rfl (by kernel_rfl) rfl rfl (.int .u64 (rd a0.Rows x465)) rfl (fun w' h' => x_load (cls_frz h' hb540) ty41 rfl (hc543 0 _ rfl)) (⟨M, Hp.le_refl M, S.pick [0, 1] (by decide)⟩) ?_
          refine Wa_take (i := 5) rfl (by kernel_rfl) rfl rfl (.pointer (some ⟨b4, 3, none⟩)) rfl (fun w' h' => x_fieldAddr (o := 0) (off := 3) Try.underlying39 rfl ty24 rfl rfl) (⟨M, Hp.le_refl M, S.pick [0, 1] (by decide)⟩) ?_
          refine Wa_take (i := 6) rfl (by kernel_rfl) rfl rfl (.slice A1_2 a1.Rows.length c1_2) rfl (fun w' h' => x_load (cls_blk h' 0 rfl) ty24 rfl rfl) (⟨M, Hp.le_refl M, S.pick [0, 1] (by decide)⟩) ?_
          refine Wa_take (i := 7) rfl (by kernel_rfl) rfl rfl (.int .i64 x465) rfl (fun w' h' => x_move rfl) (⟨M, Hp.le_refl M, S.pick [0, 1] (by decide)⟩) ?_
          obtain ⟨⟨p545, p546⟩, H⟩ := chkS H
          obtain ⟨b547, o548, cs549, _, _, ee554, hb550, vs551, hR552, hc553⟩ := SlW.at' hr1_2 p545 p546
          obtain rfl : vs551 = _ := hR552
          refine Wa_take (i := 8) rfl (by kernel_rfl) rfl rfl (.pointer (some ⟨b547, o548 + x465.toNat * 1, none⟩)) rfl (fun w' h' => x_indexAddr Try.underlying24 ty41 (slA ee554) rfl p545 p546) (⟨M, Hp.le_refl M, S.pick [0, 1] (by decide)⟩) ?_
          refine Wa_take (i := 9) rfl (by kernel_rfl) rfl rfl (.int .u64 (rd a1.Rows x465)) rfl (fun w' h' => x_load (cls_frz h' hb550) ty41 rfl (hc553 0 _ rfl)) (⟨M, Hp.le_refl M, S.pick [0, 1] (by decide)⟩) ?_
          refine Wa_take (i := 10) rfl (by kernel_rfl) rfl rfl (.bool ((rd a0.Rows x465) != (rd a1.Rows x465))) rfl (fun w' h' => x_ibin rfl rfl rfl rfl) (⟨M, Hp.le_refl M, S.pick [0, 1] (by decide)⟩) ?_
          refine Wa_done (by kernel_rfl) ?_
          refine tn ?_
          rcases iteS H with ⟨hb555, H⟩ | ⟨hb555, H⟩
          · refine Wp_cond_true (congrArg Value.bool hb555) ?_
            refine Wp_seq ?_
            refine Wp_region_lit ?_
            refine W_v (.bool false) (x_assign rfl) rfl ?_
            refine Wl_nil ?_
            refine tn ?_
            refine Wp_ret ?_
            refine br (tr (tr (br (tr (tr (?_))))))
            obtain rfl := Option.some.inj H
            have H := o510H
            replace H := elimL H
            obtain rfl := Option.some.inj H
            exact ⟨_, _, _, fun w1 e1 => run_resR (vs := [.bool false]) (FA.cons (rfl) (FA.nil)), HM, E, S.pick [] (by decide), ⟨rfl, rfl⟩⟩
          refine Wp_cond_false (congrArg Value.bool hb555) ?_
          refine Wp_skip ?_
          refine bn ?_
          refine tn ?_
          refine Wp_region_lit ?_
          refine W_v (.int .i64 x465) (x_move rfl) rfl ?_
          refine W_v (.int .i64 (IntKind.i64.wrap (x465 + (1 : Int)))) (x_ibin rfl rfl rfl rfl) rfl ?_
          refine W_v (.int .i64 (IntKind.i64.wrap (x465 + (1 : Int)))) (x_assign rfl) rfl ?_
          refine Wl_nil ?_
          refine tn ?_
          exact ⟨k, Nat.lt_succ_self k, ⟨(IntKind.i64.wrap (x465 + (1 : Int))), H, ⟨rfl, rfl, rfl, trivial⟩, E, S.pick [0, 1] (by decide)⟩⟩
        refine Wp_cond_false (congrArg Value.bool hb512) ?_
        refine Wp_exit ?_
        refine tx (tx (bsm (?_)))
        refine tn ?_
        exact ⟨Option.some.inj H, trivial, E, S.pick [] (by decide)⟩
  clear o510h
  rintro ρ w556 ⟨rfl, hρ, E, S⟩
  rw [agree_eta hρ]
  clear hρ
  have H := o510H
  clear o510H
  replace H := elimR H
  refine tn ?_
  refine Wp_seq ?_
  refine Wp_region_lit ?_
  refine W_v (.bool true) (x_assign rfl) rfl ?_
  refine Wl_nil ?_
  refine tn ?_
  refine Wp_ret ?_
  obtain rfl := Option.some.inj H
  exact ⟨_, _, _, fun w1 e1 => run_resR (vs := [.bool true]) (FA.cons (rfl) (FA.nil)), HM, E, S.pick [] (by decide), ⟨rfl, rfl⟩⟩
/-! ### ferryman/ferrymanlaw13.is: function 32 -/
def ferrymanlaw13_is (k : Nat) (a0 : fork_Node) (a1 : (List Str)) (a2 : (List Int)) (a3 : (List Int)) : Option (Bool) :=
  (Option.bind (ferrymanref13_Same k (⟨a0.Leaf, a0.Keys, a0.Kids, a0.Rows⟩ : ferrymanref13_Node) (⟨((a2.length : Int) == (0 : Int)), a1, a2, a3⟩ : ferrymanref13_Node)) (fun t4 => some t4))
set_option maxHeartbeats 2000000 in
theorem ferrymanlaw13_is.mono {k : Nat} {a0 : fork_Node} {a1 : (List Str)} {a2 : (List Int)} {a3 : (List Int)} : OLe (ferrymanlaw13_is k a0 a1 a2 a3) (ferrymanlaw13_is (k + 1) a0 a1 a2 a3) := by
  unfold ferrymanlaw13_is
  repeat' (first | with_reducible exact OLe.none | with_reducible exact OLe.some | with_reducible refine OLe.ite ?_ ?_ | with_reducible refine OLe.bind ?_ (fun _ => ?_) | with_reducible exact ferrymanref13_Same.mono | refine OLe.bind ?_ (fun _ => ?_) | refine OLe.ite ?_ ?_ | refine OLe.elim (fun _ => ?_) (fun _ => ?_) | split)
set_option maxHeartbeats 1000000 in
set_option maxRecDepth 100000 in
theorem ferrymanlaw13_is.con (k : Nat) (M : Hp) (A0_0 : Option Addr) (c0_0 : Nat) (A0_1 : Option Addr) (c0_1 : Nat) (A0_2 : Option Addr) (c0_2 : Nat) (a0 : fork_Node) (A1 : Option Addr) (c1 : Nat) (a1 : (List Str)) (A2 : Option Addr) (c2 : Nat) (a2 : (List Int)) (A3 : Option Addr) (c3 : Nat) (a3 : (List Int)) (r : Bool) (hr0_0 : SlR rStr M (.slice A0_0 a0.Keys.length c0_0) a0.Keys) (hr0_1 : SlR (rInt .i64) M (.slice A0_1 a0.Kids.length c0_1) a0.Kids) (hr0_2 : SlR (rInt .u64) M (.slice A0_2 a0.Rows.length c0_2) a0.Rows) (hr1 : SlR rStr M (.slice A1 a1.length c1) a1) (hr2 : SlR (rInt .i64) M (.slice A2 a2.length c2) a2) (hr3 : SlR (rInt .u64) M (.slice A3 a3.length c3) a3) (h : ferrymanlaw13_is k a0 a1 a2 a3 = some r) : Con Try.prog 32 #[.agg #[.bool a0.Leaf, .slice A0_0 a0.Keys.length c0_0, .slice A0_1 a0.Kids.length c0_1, .slice A0_2 a0.Rows.length c0_2], .slice A1 a1.length c1, .slice A2 a2.length c2, .slice A3 a3.length c3] M [] (fun v M' Γ' => v = .bool r ∧ Γ' = []) := by
  refine con_of_wp Try.func32 rfl Try.ntmps32 Try.results32 rfl ?_
  intro w F rn S hrn
  have E := Ext.refl w
  have HM := Hp.le_refl M
  have H := h
  unfold ferrymanlaw13_is at H
  refine Wp_seq ?_
  refine Wp_region_lit ?_
  refine W_box S #[.bool a0.Leaf, .slice A0_0 a0.Keys.length c0_0, .slice A0_1 a0.Kids.length c0_1, .slice A0_2 a0.Rows.length c0_2] rfl rfl rfl ?_
  intro b1 w2 E' S
  replace E := E.trans E'
  clear E'
  refine W_v (.bool false) (x_assign rfl) rfl ?_
  refine Wl_nil ?_
  refine tn ?_
  refine Wp_seq ?_
  refine Wp_region_lit ?_
  refine W_v (.agg #[.bool a0.Leaf, .slice A0_0 a0.Keys.length c0_0, .slice A0_1 a0.Kids.length c0_1, .slice A0_2 a0.Rows.length c0_2]) (x_loadA (S.blk 0 rfl) ty26 rfl (sub_of_extract rfl) rfl rfl) rfl ?_
  refine W_v (.slice A2 a2.length c2) (x_move rfl) rfl ?_
  refine W_v (.int .i64 (a2.length : Int)) (x_len_slice (n := a2.length) Try.underlying23 rfl) rfl ?_
  refine W_v (.bool ((a2.length : Int) == (0 : Int))) (x_ibin rfl rfl rfl rfl) rfl ?_
  refine W_v (.slice A1 a1.length c1) (x_move rfl) rfl ?_
  refine W_v (.slice A2 a2.length c2) (x_move rfl) rfl ?_
  refine W_v (.slice A3 a3.length c3) (x_move rfl) rfl ?_
  refine W_v (.agg #[.bool ((a2.length : Int) == (0 : Int)), .slice A1 a1.length c1, .slice A2 a2.length c2, .slice A3 a3.length c3]) (x_build2 (pl := [(0, 1), (1, 1), (2, 1), (3, 1)]) #[.bool ((a2.length : Int) == (0 : Int)), .slice A1 a1.length c1, .slice A2 a2.length c2, .slice A3 a3.length c3] Try.underlying39 ty39 (by kernel_rfl) rfl (by kernel_rfl)) rfl ?_
  obtain ⟨t4, ht5, H⟩ := bindS H
  refine W_callF fn16 (ferrymanref13_Same.con k M A0_0 c0_0 A0_1 c0_1 A0_2 c0_2 (⟨a0.Leaf, a0.Keys, a0.Kids, a0.Rows⟩ : ferrymanref13_Node) A1 c1 A2 c2 A3 c3 (⟨((a2.length : Int) == (0 : Int)), a1, a2, a3⟩ : ferrymanref13_Node) t4 hr0_0 hr0_1 hr0_2 hr1 hr2 hr3 ht5) S rfl rfl (by rintro _ _ _ ⟨_, rfl⟩; exact flat_nil) ?_
  rintro _ w6 _ Γ' E' S ⟨rfl, rfl⟩
  replace E := E.trans E'
  clear E'
  refine W_v (.bool t4) (x_assign rfl) rfl ?_
  refine Wl_nil ?_
  refine tn ?_
  refine Wp_ret ?_
  obtain rfl := Option.some.inj H
  exact ⟨_, _, _, fun w1 e1 => run_resR (vs := [.bool t4]) (FA.cons (rfl) (FA.nil)), HM, E, S.pick [] (by decide), ⟨rfl, rfl⟩⟩
end Go.Proofs.Ytdommjjhfplcaaa
