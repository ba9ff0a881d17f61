import Derived.Test.YtbdelepfpnneoaaDoorGs1P0
namespace Go.Proofs.YtbdelepfpnneoaaDoor
open Go
set_option linter.unusedVariables false
set_option linter.unusedSimpArgs false
/-! ### (ferryman/ferrymanlaw08.Step).do: function 11 -/
def ferrymanlaw08_Step_do_PO (k : Nat) (a0 : ferrymanlaw08_Step) (a1 : status_Writers) : Option (Int × Int × status_Writers) :=
  (if (a0.What == (0 : Int)) = true then (Option.bind (status_Writers_Begin_PO k a1) (fun t5 => some (t5.1, (0 : Int), t5.2))) else (if (a0.What == (1 : Int)) = true then (Option.bind (status_Writers_Commit_PO k a1 a0.W a0.TS) (fun t14 => some ((0 : Int), t14.1, t14.2))) else (if (a0.What == (2 : Int)) = true then (Option.bind (status_Writers_Fall_PO k a1 a0.W) (fun t23 => some ((0 : Int), t23.1, t23.2))) else (if (a0.What == (3 : Int)) = true then (Option.bind (status_Writers_Fallen_PO k a1 a0.W) (fun t32 => some ((0 : Int), t32.1, t32.2))) else (Option.bind (status_Writers_Last_PO k a1) (fun t55 => (Option.bind (status_Writers_Commit_PO k a1 a0.W (IntKind.i64.wrap (t55 + (1 : Int)))) (fun t60 => some ((0 : Int), t60.1, t60.2)))))))))
set_option maxHeartbeats 2000000 in
theorem ferrymanlaw08_Step_do_PO.mono {k : Nat} {a0 : ferrymanlaw08_Step} {a1 : status_Writers} : OLe (ferrymanlaw08_Step_do_PO k a0 a1) (ferrymanlaw08_Step_do_PO (k + 1) a0 a1) := by
  unfold ferrymanlaw08_Step_do_PO
  repeat' (first | with_reducible exact OLe.none | with_reducible exact OLe.some | with_reducible refine OLe.ite ?_ ?_ | with_reducible refine OLe.bind ?_ (fun _ => ?_) | with_reducible exact status_Writers_Begin_PO.mono | with_reducible exact status_Writers_Commit_PO.mono | with_reducible exact status_Writers_Fall_PO.mono | with_reducible exact status_Writers_Fallen_PO.mono | with_reducible exact status_Writers_Last_PO.mono | refine OLe.bind ?_ (fun _ => ?_) | refine OLe.ite ?_ ?_ | refine OLe.elim (fun _ => ?_) (fun _ => ?_) | split)
set_option maxHeartbeats 1000000 in
set_option maxRecDepth 100000 in
theorem ferrymanlaw08_Step_do_PO.con (k : Nat) (M : Hp) (a0 : ferrymanlaw08_Step) (A1_0 : Option Addr) (c1_0 : Nat) (a1 : status_Writers) (bo1 : Nat) (r : Int × Int × status_Writers)  (hg0 : ∃ gt fr, M 0 = some (.cells #[.int .u8 0, .int .u8 0, .int .u8 1, .int .u8 1, .int .u8 2] gt fr)) (h : ferrymanlaw08_Step_do_PO k a0 a1 = some r) : Con Tryd.prog 11 #[.agg #[.int .u8 a0.What, .int .i64 a0.W, .int .i64 a0.TS], .pointer (some ⟨bo1, 0, none⟩)] M [Blk bo1 (.cells #[.slice A1_0 a1.l.length c1_0, .int .i64 a1.last] 47 (0, 0)), Row r_status_writer 49 (.slice A1_0 a1.l.length c1_0) a1.l] (fun v M' Γ' => ∃ (Aq1 : Option Addr) (cq2 : Nat), v = .tuple #[.int .i64 r.1, .int .i64 r.2.1] ∧ Γ' = [Blk bo1 (.cells #[.slice Aq1 r.2.2.l.length cq2, .int .i64 r.2.2.last] 47 (0, 0)), Row r_status_writer 49 (.slice Aq1 r.2.2.l.length cq2) r.2.2.l]) := by
  refine con_of_wp Tryd.func11 rfl Tryd.ntmps11 Tryd.results11 rfl ?_
  intro w F rn S hrn
  have E := Ext.refl w
  have HM := Hp.le_refl M
  have H := h
  unfold ferrymanlaw08_Step_do_PO at H
  refine Wp_seq ?_
  refine Wp_region_lit ?_
  refine W_box S #[.int .u8 a0.What, .int .i64 a0.W, .int .i64 a0.TS] rfl rfl rfl ?_
  intro b1 w2 E' S
  replace E := E.trans E'
  clear E'
  refine W_v (.int .i64 0) (x_assign rfl) rfl ?_
  refine W_v (.int .i64 0) (x_assign rfl) rfl ?_
  refine Wl_nil ?_
  refine tn ?_
  refine Wp_seq ?_
  refine Wp_seq ?_
  refine Wp_region_lit ?_
  refine W_v (.pointer (some ⟨b1, 0, none⟩)) (x_fieldAddr (o := 0) (off := 0) Tryd.underlying30 rfl ty5 rfl rfl) rfl ?_
  refine W_v (.int .u8 a0.What) (x_load (S.blk 0 rfl) ty5 rfl rfl) rfl ?_
  refine Wl_nil ?_
  refine tn ?_
  refine Wp_block ?_
  refine Wp_seq ?_
  refine Wp_region_lit ?_
  refine W_v (.bool (a0.What == (0 : Int))) (x_ibin rfl rfl rfl rfl) rfl ?_
  refine W_v (.bool (a0.What == (0 : Int))) (x_assign rfl) rfl ?_
  refine Wl_nil ?_
  refine tn ?_
  rcases iteS H with ⟨hb4, H⟩ | ⟨hb4, H⟩
  · refine Wp_cond_true (congrArg Value.bool hb4) ?_
    refine Wp_seq ?_
    refine Wp_region_lit ?_
    refine W_v (.pointer (some ⟨bo1, 0, none⟩)) (x_move rfl) rfl ?_
    obtain ⟨t5, ht6, H⟩ := bindS H
    replace S : St w2 M F [Blk bo1 (.cells #[.slice A1_0 a1.l.length c1_0, .int .i64 a1.last] 47 (0, 0)), Row r_status_writer 49 (.slice A1_0 a1.l.length c1_0) a1.l, Blk b1 (.cells #[.int .u8 a0.What, .int .i64 a0.W, .int .i64 a0.TS] 30 (0, 0))] := S.pick [1, 2, 0] (by decide)
    refine W_callF2 fn16 (status_Writers_Begin_PO.con k M A1_0 c1_0 a1 bo1 t5 hg0 ht6) (Γ1 := [Blk bo1 (.cells #[.slice A1_0 a1.l.length c1_0, .int .i64 a1.last] 47 (0, 0)), Row r_status_writer 49 (.slice A1_0 a1.l.length c1_0) a1.l]) (Γ2 := [Blk b1 (.cells #[.int .u8 a0.What, .int .i64 a0.W, .int .i64 a0.TS] 30 (0, 0))]) S rfl rfl (by rintro _ _ _ ⟨_, _, rfl, rfl⟩; exact (flat_cons flat_blk (flat_cons (flat_row (fun _ _ _ _ h => h)) flat_nil))) ?_
    rintro _ w10 _ Γ' E' S ⟨A7, c8, rfl, rfl⟩
    replace E := E.trans E'
    clear E'
    replace S : St w10 M F [Blk bo1 (.cells #[.slice A7 t5.2.l.length c8, .int .i64 t5.2.last] 47 (0, 0)), Row r_status_writer 49 (.slice A7 t5.2.l.length c8) t5.2.l, Blk b1 (.cells #[.int .u8 a0.What, .int .i64 a0.W, .int .i64 a0.TS] 30 (0, 0))] := S
    refine W_v (.int .i64 t5.1) (x_assign rfl) rfl ?_
    refine W_v (.int .i64 0) (x_assign rfl) rfl ?_
    refine Wl_nil ?_
    refine tn ?_
    refine Wp_ret ?_
    refine br (tr (?_))
    obtain rfl := Option.some.inj H
    exact ⟨_, _, _, fun w1 e1 => run_resR (vs := [.int .i64 t5.1, .int .i64 0]) (FA.cons (rfl) (FA.cons (rfl) (FA.nil))), HM, E, S.pick [0, 1] (by decide), ⟨A7, c8, rfl, rfl⟩⟩
  refine Wp_cond_false (congrArg Value.bool hb4) ?_
  refine Wp_seq ?_
  refine Wp_region_lit ?_
  refine W_v (.bool (a0.What == (1 : Int))) (x_ibin rfl rfl rfl rfl) rfl ?_
  refine W_v (.bool (a0.What == (1 : Int))) (x_assign rfl) rfl ?_
  refine Wl_nil ?_
  refine tn ?_
  rcases iteS H with ⟨hb13, H⟩ | ⟨hb13, H⟩
  · refine Wp_cond_true (congrArg Value.bool hb13) ?_
    refine Wp_seq ?_
    refine Wp_region_lit ?_
    refine W_v (.pointer (some ⟨bo1, 0, none⟩)) (x_move rfl) rfl ?_
    refine W_v (.pointer (some ⟨b1, 1, none⟩)) (x_fieldAddr (o := 0) (off := 1) Tryd.underlying30 rfl ty3 rfl rfl) rfl ?_
    refine W_v (.int .i64 a0.W) (x_load (S.blk 0 rfl) ty3 rfl rfl) rfl ?_
    refine W_v (.pointer (some ⟨b1, 2, none⟩)) (x_fieldAddr (o := 0) (off := 2) Tryd.underlying30 rfl ty3 rfl rfl) rfl ?_
    refine W_v (.int .i64 a0.TS) (x_load (S.blk 0 rfl) ty3 rfl rfl) rfl ?_
    obtain ⟨t14, ht15, H⟩ := bindS H
    replace S : St w2 M F [Blk bo1 (.cells #[.slice A1_0 a1.l.length c1_0, .int .i64 a1.last] 47 (0, 0)), Row r_status_writer 49 (.slice A1_0 a1.l.length c1_0) a1.l, Blk b1 (.cells #[.int .u8 a0.What, .int .i64 a0.W, .int .i64 a0.TS] 30 (0, 0))] := S.pick [1, 2, 0] (by decide)
    refine W_callF2 fn17 (status_Writers_Commit_PO.con k M A1_0 c1_0 a1 a0.W a0.TS bo1 t14 hg0 ht15) (Γ1 := [Blk bo1 (.cells #[.slice A1_0 a1.l.length c1_0, .int .i64 a1.last] 47 (0, 0)), Row r_status_writer 49 (.slice A1_0 a1.l.length c1_0) a1.l]) (Γ2 := [Blk b1 (.cells #[.int .u8 a0.What, .int .i64 a0.W, .int .i64 a0.TS] 30 (0, 0))]) S rfl rfl (by rintro _ _ _ ⟨_, _, rfl, rfl⟩; exact (flat_cons flat_blk (flat_cons (flat_row (fun _ _ _ _ h => h)) flat_nil))) ?_
    rintro _ w19 _ Γ' E' S ⟨A16, c17, rfl, rfl⟩
    replace E := E.trans E'
    clear E'
    replace S : St w19 M F [Blk bo1 (.cells #[.slice A16 t14.2.l.length c17, .int .i64 t14.2.last] 47 (0, 0)), Row r_status_writer 49 (.slice A16 t14.2.l.length c17) t14.2.l, Blk b1 (.cells #[.int .u8 a0.What, .int .i64 a0.W, .int .i64 a0.TS] 30 (0, 0))] := S
    refine W_v (.int .i64 0) (x_assign rfl) rfl ?_
    refine W_v (.int .i64 t14.1) (x_assign rfl) rfl ?_
    refine Wl_nil ?_
    refine tn ?_
    refine Wp_ret ?_
    refine br (tr (?_))
    obtain rfl := Option.some.inj H
    exact ⟨_, _, _, fun w1 e1 => run_resR (vs := [.int .i64 0, .int .i64 t14.1]) (FA.cons (rfl) (FA.cons (rfl) (FA.nil))), HM, E, S.pick [0, 1] (by decide), ⟨A16, c17, rfl, rfl⟩⟩
  refine Wp_cond_false (congrArg Value.bool hb13) ?_
  refine Wp_seq ?_
  refine Wp_region_lit ?_
  refine W_v (.bool (a0.What == (2 : Int))) (x_ibin rfl rfl rfl rfl) rfl ?_
  refine W_v (.bool (a0.What == (2 : Int))) (x_assign rfl) rfl ?_
  refine Wl_nil ?_
  refine tn ?_
  rcases iteS H with ⟨hb22, H⟩ | ⟨hb22, H⟩
  · refine Wp_cond_true (congrArg Value.bool hb22) ?_
    refine Wp_seq ?_
    refine Wp_region_lit ?_
    refine W_v (.pointer (some ⟨bo1, 0, none⟩)) (x_move rfl) rfl ?_
    refine W_v (.pointer (some ⟨b1, 1, none⟩)) (x_fieldAddr (o := 0) (off := 1) Tryd.underlying30 rfl ty3 rfl rfl) rfl ?_
    refine W_v (.int .i64 a0.W) (x_load (S.blk 0 rfl) ty3 rfl rfl) rfl ?_
    obtain ⟨t23, ht24, H⟩ := bindS H
    replace S : St w2 M F [Blk bo1 (.cells #[.slice A1_0 a1.l.length c1_0, .int .i64 a1.last] 47 (0, 0)), Row r_status_writer 49 (.slice A1_0 a1.l.length c1_0) a1.l, Blk b1 (.cells #[.int .u8 a0.What, .int .i64 a0.W, .int .i64 a0.TS] 30 (0, 0))] := S.pick [1, 2, 0] (by decide)
    refine W_callF2 fn18 (status_Writers_Fall_PO.con k M A1_0 c1_0 a1 a0.W bo1 t23 hg0 ht24) (Γ1 := [Blk bo1 (.cells #[.slice A1_0 a1.l.length c1_0, .int .i64 a1.last] 47 (0, 0)), Row r_status_writer 49 (.slice A1_0 a1.l.length c1_0) a1.l]) (Γ2 := [Blk b1 (.cells #[.int .u8 a0.What, .int .i64 a0.W, .int .i64 a0.TS] 30 (0, 0))]) S rfl rfl (by rintro _ _ _ ⟨_, _, rfl, rfl⟩; exact (flat_cons flat_blk (flat_cons (flat_row (fun _ _ _ _ h => h)) flat_nil))) ?_
    rintro _ w28 _ Γ' E' S ⟨A25, c26, rfl, rfl⟩
    replace E := E.trans E'
    clear E'
    replace S : St w28 M F [Blk bo1 (.cells #[.slice A25 t23.2.l.length c26, .int .i64 t23.2.last] 47 (0, 0)), Row r_status_writer 49 (.slice A25 t23.2.l.length c26) t23.2.l, Blk b1 (.cells #[.int .u8 a0.What, .int .i64 a0.W, .int .i64 a0.TS] 30 (0, 0))] := S
    refine W_v (.int .i64 0) (x_assign rfl) rfl ?_
    refine W_v (.int .i64 t23.1) (x_assign rfl) rfl ?_
    refine Wl_nil ?_
    refine tn ?_
    refine Wp_ret ?_
    refine br (tr (?_))
    obtain rfl := Option.some.inj H
    exact ⟨_, _, _, fun w1 e1 => run_resR (vs := [.int .i64 0, .int .i64 t23.1]) (FA.cons (rfl) (FA.cons (rfl) (FA.nil))), HM, E, S.pick [0, 1] (by decide), ⟨A25, c26, rfl, rfl⟩⟩
  refine Wp_cond_false (congrArg Value.bool hb22) ?_
  refine Wp_seq ?_
  refine Wp_region_lit ?_
  refine W_v (.bool (a0.What == (3 : Int))) (x_ibin rfl rfl rfl rfl) rfl ?_
  refine W_v (.bool (a0.What == (3 : Int))) (x_assign rfl) rfl ?_
  refine Wl_nil ?_
  refine tn ?_
  rcases iteS H with ⟨hb31, H⟩ | ⟨hb31, H⟩
  · refine Wp_cond_true (congrArg Value.bool hb31) ?_
    refine Wp_seq ?_
    refine Wp_region_lit ?_
    refine W_v (.pointer (some ⟨bo1, 0, none⟩)) (x_move rfl) rfl ?_
    refine W_v (.pointer (some ⟨b1, 1, none⟩)) (x_fieldAddr (o := 0) (off := 1) Tryd.underlying30 rfl ty3 rfl rfl) rfl ?_
    refine W_v (.int .i64 a0.W) (x_load (S.blk 0 rfl) ty3 rfl rfl) rfl ?_
    obtain ⟨t32, ht33, H⟩ := bindS H
    replace S : St w2 M F [Blk bo1 (.cells #[.slice A1_0 a1.l.length c1_0, .int .i64 a1.last] 47 (0, 0)), Row r_status_writer 49 (.slice A1_0 a1.l.length c1_0) a1.l, Blk b1 (.cells #[.int .u8 a0.What, .int .i64 a0.W, .int .i64 a0.TS] 30 (0, 0))] := S.pick [1, 2, 0] (by decide)
    refine W_callF2 fn19 (status_Writers_Fallen_PO.con k M A1_0 c1_0 a1 a0.W bo1 t32 hg0 ht33) (Γ1 := [Blk bo1 (.cells #[.slice A1_0 a1.l.length c1_0, .int .i64 a1.last] 47 (0, 0)), Row r_status_writer 49 (.slice A1_0 a1.l.length c1_0) a1.l]) (Γ2 := [Blk b1 (.cells #[.int .u8 a0.What, .int .i64 a0.W, .int .i64 a0.TS] 30 (0, 0))]) S rfl rfl (by rintro _ _ _ ⟨_, _, rfl, rfl⟩; exact (flat_cons flat_blk (flat_cons (flat_row (fun _ _ _ _ h => h)) flat_nil))) ?_
    rintro _ w37 _ Γ' E' S ⟨A34, c35, rfl, rfl⟩
    replace E := E.trans E'
    clear E'
    replace S : St w37 M F [Blk bo1 (.cells #[.slice A34 t32.2.l.length c35, .int .i64 t32.2.last] 47 (0, 0)), Row r_status_writer 49 (.slice A34 t32.2.l.length c35) t32.2.l, Blk b1 (.cells #[.int .u8 a0.What, .int .i64 a0.W, .int .i64 a0.TS] 30 (0, 0))] := S
    refine W_v (.int .i64 0) (x_assign rfl) rfl ?_
    refine W_v (.int .i64 t32.1) (x_assign rfl) rfl ?_
    refine Wl_nil ?_
    refine tn ?_
    refine Wp_ret ?_
    refine br (tr (?_))
    obtain rfl := Option.some.inj H
    exact ⟨_, _, _, fun w1 e1 => run_resR (vs := [.int .i64 0, .int .i64 t32.1]) (FA.cons (rfl) (FA.cons (rfl) (FA.nil))), HM, E, S.pick [0, 1] (by decide), ⟨A34, c35, rfl, rfl⟩⟩
  refine Wp_cond_false (congrArg Value.bool hb31) ?_
  refine Wp_skip ?_
  refine bn ?_
  refine tn ?_
  refine Wp_seq ?_
  refine Wp_region_any (S := fun w' => ∃ Mx, M.le Mx ∧ St w' Mx F [Blk b1 (.cells #[.int .u8 a0.What, .int .i64 a0.W, .int .i64 a0.TS] 30 (0, 0))]) mixed ?_
  intro w53 hw54 E'
  replace S := S.heap hw54
  replace E := E.trans E'
  clear E'
  refine Wa_take (i := 0) rfl (by kernel_rfl) rfl rfl (.pointer (some ⟨bo1, 0, none⟩)) rfl (fun w' h' => x_move rfl) (⟨M, Hp.le_refl M, S.pick [0] (by decide)⟩) ?_
  refine Wa_take (i := 1) rfl (by kernel_rfl) rfl rfl (.pointer (some ⟨b1, 1, none⟩)) rfl (fun w' h' => x_fieldAddr (o := 0) (off := 1) Tryd.underlying30 rfl ty3 rfl rfl) (⟨M, Hp.le_refl M, S.pick [0] (by decide)⟩) ?_
  refine Wa_take (i := 2) rfl (by kernel_rfl) rfl rfl (.int .i64 a0.W) rfl (fun w' h' => x_load (cls_blk h' 0 rfl) ty3 rfl rfl) (⟨M, Hp.le_refl M, S.pick [0] (by decide)⟩) ?_
  refine Wa_take (i := 3) rfl (by kernel_rfl) rfl rfl (.pointer (some ⟨bo1, 0, none⟩)) rfl (fun w' h' => x_move rfl) (⟨M, Hp.le_refl M, S.pick [0] (by decide)⟩) ?_
  refine Wa_solo (i := 4) rfl (by kernel_rfl) ?_
  obtain ⟨t55, ht56, H⟩ := bindS H
  replace S : St w53 M F [Blk bo1 (.cells #[.slice A1_0 a1.l.length c1_0, .int .i64 a1.last] 47 (0, 0)), Row r_status_writer 49 (.slice A1_0 a1.l.length c1_0) a1.l, Blk b1 (.cells #[.int .u8 a0.What, .int .i64 a0.W, .int .i64 a0.TS] 30 (0, 0))] := S.pick [1, 2, 0] (by decide)
  refine W_callF2 fn21 (status_Writers_Last_PO.con k M A1_0 c1_0 a1 bo1 t55 hg0 ht56) (Γ1 := [Blk bo1 (.cells #[.slice A1_0 a1.l.length c1_0, .int .i64 a1.last] 47 (0, 0)), Row r_status_writer 49 (.slice A1_0 a1.l.length c1_0) a1.l]) (Γ2 := [Blk b1 (.cells #[.int .u8 a0.What, .int .i64 a0.W, .int .i64 a0.TS] 30 (0, 0))]) S rfl rfl (by rintro _ _ _ ⟨rfl, rfl⟩; exact (flat_cons flat_blk (flat_cons (flat_row (fun _ _ _ _ h => h)) flat_nil))) ?_
  rintro _ w57 _ Γ' E' S ⟨rfl, rfl⟩
  replace E := E.trans E'
  clear E'
  replace S : St w57 M F [Blk bo1 (.cells #[.slice A1_0 a1.l.length c1_0, .int .i64 a1.last] 47 (0, 0)), Row r_status_writer 49 (.slice A1_0 a1.l.length c1_0) a1.l, Blk b1 (.cells #[.int .u8 a0.What, .int .i64 a0.W, .int .i64 a0.TS] 30 (0, 0))] := S
  refine Wl_nil (on_n ⟨⟨M, Hp.le_refl M, S.pick [2] (by decide)⟩, ?_⟩)
  refine Wa_take (i := 5) rfl (by kernel_rfl) rfl rfl (.int .i64 (IntKind.i64.wrap (t55 + (1 : Int)))) rfl (fun w' h' => x_ibin rfl rfl rfl rfl) (⟨M, Hp.le_refl M, S.pick [2] (by decide)⟩) ?_
  refine Wa_solo (i := 6) rfl (by kernel_rfl) ?_
  obtain ⟨t60, ht61, H⟩ := bindS H
  refine W_callF2 fn17 (status_Writers_Commit_PO.con k M A1_0 c1_0 a1 a0.W (IntKind.i64.wrap (t55 + (1 : Int))) bo1 t60 hg0 ht61) (Γ1 := [Blk bo1 (.cells #[.slice A1_0 a1.l.length c1_0, .int .i64 a1.last] 47 (0, 0)), Row r_status_writer 49 (.slice A1_0 a1.l.length c1_0) a1.l]) (Γ2 := [Blk b1 (.cells #[.int .u8 a0.What, .int .i64 a0.W, .int .i64 a0.TS] 30 (0, 0))]) S rfl rfl (by rintro _ _ _ ⟨_, _, rfl, rfl⟩; exact (flat_cons flat_blk (flat_cons (flat_row (fun _ _ _ _ h => h)) flat_nil))) ?_
  rintro _ w65 _ Γ' E' S ⟨A62, c63, rfl, rfl⟩
  replace E := E.trans E'
  clear E'
  replace S : St w65 M F [Blk bo1 (.cells #[.slice A62 t60.2.l.length c63, .int .i64 t60.2.last] 47 (0, 0)), Row r_status_writer 49 (.slice A62 t60.2.l.length c63) t60.2.l, Blk b1 (.cells #[.int .u8 a0.What, .int .i64 a0.W, .int .i64 a0.TS] 30 (0, 0))] := S
  refine Wl_nil (on_n ⟨⟨M, Hp.le_refl M, S.pick [2] (by decide)⟩, ?_⟩)
  refine Wa_take (i := 7) rfl (by kernel_rfl) rfl rfl (.int .i64 0) rfl (fun w' h' => x_assign rfl) (⟨M, Hp.le_refl M, S.pick [2] (by decide)⟩) ?_
  refine Wa_take (i := 8) rfl (by kernel_rfl) rfl rfl (.int .i64 t60.1) rfl (fun w' h' => x_assign rfl) (⟨M, Hp.le_refl M, S.pick [2] (by decide)⟩) ?_
  refine Wa_done (by kernel_rfl) ?_
  refine tn ?_
  refine Wp_ret ?_
  obtain rfl := Option.some.inj H
  exact ⟨_, _, _, fun w1 e1 => run_resR (vs := [.int .i64 0, .int .i64 t60.1]) (FA.cons (rfl) (FA.cons (rfl) (FA.nil))), HM, E, S.pick [0, 1] (by decide), ⟨A62, c63, rfl, rfl⟩⟩
/-! ### ferryman/ferrymanref08.New: function 23 -/
def ferrymanref08_New (k : Nat)  : Option (ferrymanref08_Writers) :=
  some (⟨([] : List ferrymanref08_Writer)⟩ : ferrymanref08_Writers)
set_option maxHeartbeats 2000000 in
theorem ferrymanref08_New.mono {k : Nat}  : OLe (ferrymanref08_New k ) (ferrymanref08_New (k + 1) ) := by
  unfold ferrymanref08_New
  repeat' (first | with_reducible exact OLe.none | with_reducible exact OLe.some | with_reducible refine OLe.ite ?_ ?_ | with_reducible refine OLe.bind ?_ (fun _ => ?_) | refine OLe.bind ?_ (fun _ => ?_) | refine OLe.ite ?_ ?_ | refine OLe.elim (fun _ => ?_) (fun _ => ?_) | split)
set_option maxHeartbeats 1000000 in
set_option maxRecDepth 100000 in
theorem ferrymanref08_New.con (k : Nat) (M : Hp)  (r : ferrymanref08_Writers)  (hg0 : ∃ gt fr, M 0 = some (.cells #[.int .u8 0, .int .u8 0, .int .u8 1, .int .u8 1, .int .u8 2] gt fr)) (h : ferrymanref08_New k  = some r) : Con Tryd.prog 23 #[] M [] (fun v M' Γ' => ∃ (bq1 : Nat) (Aq3 : Option Addr) (cq4 : Nat), v = .pointer (some ⟨bq1, 0, none⟩) ∧ Γ' = [Blk bq1 (.cells #[.slice Aq3 r.L.length cq4] 58 (0, 0)), Row r_ferrymanref08_Writer 60 (.slice Aq3 r.L.length cq4) r.L]) := by
  refine con_of_wp Tryd.func23 rfl Tryd.ntmps23 Tryd.results23 rfl ?_
  intro w F rn S hrn
  have E := Ext.refl w
  have HM := Hp.le_refl M
  have H := h
  unfold ferrymanref08_New at H
  refine Wp_seq ?_
  refine Wp_region_lit ?_
  refine W_v (.pointer none) (x_assign rfl) rfl ?_
  refine Wl_nil ?_
  refine tn ?_
  refine Wp_seq ?_
  refine Wp_region_lit ?_
  refine W_v (.agg #[.slice none 0 0]) (x_build2 (pl := [(0, 1)]) #[.slice none 0 0] Tryd.underlying58 ty58 (by kernel_rfl) rfl (by kernel_rfl)) rfl ?_
  refine W_box S #[.slice none 0 0] rfl rfl rfl ?_
  intro b1 w2 E' S
  replace E := E.trans E'
  clear E'
  refine W_v (.pointer (some ⟨b1, 0, none⟩)) (x_assign rfl) rfl ?_
  refine Wl_nil ?_
  refine tn ?_
  refine Wp_ret ?_
  obtain rfl := Option.some.inj H
  replace S := S.row_nil r_ferrymanref08_Writer 60
  exact ⟨_, _, _, fun w1 e1 => run_resR (vs := [.pointer (some ⟨b1, 0, none⟩)]) (FA.cons (rfl) (FA.nil)), HM, E, S.pick [1, 0] (by decide), ⟨b1, none, 0, rfl, rfl⟩⟩
/-! ### (*ferryman/status.Writers).Copy: function 22 -/
def status_Writers_Copy_PO (k : Nat) (a0 : status_Writers) : Option (status_Writers) :=
  (Option.bind (slices_Clone_status_writer_status_writer k a0.l) (fun t12 => some (⟨t12, a0.last⟩ : status_Writers)))
set_option maxHeartbeats 2000000 in
theorem status_Writers_Copy_PO.mono {k : Nat} {a0 : status_Writers} : OLe (status_Writers_Copy_PO k a0) (status_Writers_Copy_PO (k + 1) a0) := by
  unfold status_Writers_Copy_PO
  repeat' (first | with_reducible exact OLe.none | with_reducible exact OLe.some | with_reducible refine OLe.ite ?_ ?_ | with_reducible refine OLe.bind ?_ (fun _ => ?_) | with_reducible exact slices_Clone_status_writer_status_writer.mono | refine OLe.bind ?_ (fun _ => ?_) | refine OLe.ite ?_ ?_ | refine OLe.elim (fun _ => ?_) (fun _ => ?_) | split)
set_option maxHeartbeats 1000000 in
set_option maxRecDepth 100000 in
theorem status_Writers_Copy_PO.con (k : Nat) (M : Hp) (A0_0 : Option Addr) (c0_0 : Nat) (a0 : status_Writers) (bo0 : Nat) (r : status_Writers)  (hg0 : ∃ gt fr, M 0 = some (.cells #[.int .u8 0, .int .u8 0, .int .u8 1, .int .u8 1, .int .u8 2] gt fr)) (h : status_Writers_Copy_PO k a0 = some r) : Con Tryd.prog 22 #[.pointer (some ⟨bo0, 0, none⟩)] M [Blk bo0 (.cells #[.slice A0_0 a0.l.length c0_0, .int .i64 a0.last] 47 (0, 0)), Row r_status_writer 49 (.slice A0_0 a0.l.length c0_0) a0.l] (fun v M' Γ' => ∃ (bq1 : Nat) (Aq3 : Option Addr) (cq4 : Nat), v = .pointer (some ⟨bq1, 0, none⟩) ∧ Γ' = [Blk bq1 (.cells #[.slice Aq3 r.l.length cq4, .int .i64 r.last] 47 (0, 0)), Row r_status_writer 49 (.slice Aq3 r.l.length cq4) r.l, Blk bo0 (.cells #[.slice A0_0 a0.l.length c0_0, .int .i64 a0.last] 47 (0, 0)), Row r_status_writer 49 (.slice A0_0 a0.l.length c0_0) a0.l]) := by
  refine con_of_wp Tryd.func22 rfl Tryd.ntmps22 Tryd.results22 rfl ?_
  intro w F rn S hrn
  have E := Ext.refl w
  have HM := Hp.le_refl M
  have H := h
  unfold status_Writers_Copy_PO at H
  refine Wp_seq ?_
  refine Wp_region_lit ?_
  refine W_v (.pointer none) (x_assign rfl) rfl ?_
  refine Wl_nil ?_
  refine tn ?_
  refine Wp_seq ?_
  refine Wp_seq ?_
  refine Wp_region_lit ?_
  refine W_v (.pointer (some ⟨bo0, 0, none⟩)) (x_move rfl) rfl ?_
  refine W_v (.bool false) (x_eq_of (r := false) rfl rfl (run_eq_ptrsn Tryd.underlying24)) rfl ?_
  refine Wl_nil ?_
  refine tn ?_
  refine Wp_cond_false rfl ?_
  refine Wp_skip ?_
  refine tn ?_
  refine Wp_seq ?_
  refine Wp_region_any (S := fun w' => ∃ Mx, M.le Mx ∧ St w' Mx F [Blk bo0 (.cells #[.slice A0_0 a0.l.length c0_0, .int .i64 a0.last] 47 (0, 0)), Row r_status_writer 49 (.slice A0_0 a0.l.length c0_0) a0.l]) mixed ?_
  intro w10 hw11 E'
  replace S := S.heap hw11
  replace E := E.trans E'
  clear E'
  refine Wa_take (i := 0) rfl (by kernel_rfl) rfl rfl (.pointer (some ⟨bo0, 0, none⟩)) rfl (fun w' h' => x_move rfl) (⟨M, Hp.le_refl M, S.pick [0, 1] (by decide)⟩) ?_
  refine Wa_take (i := 1) rfl (by kernel_rfl) rfl rfl (.pointer (some ⟨bo0, 0, none⟩)) rfl (fun w' h' => x_nilptr rfl) (⟨M, Hp.le_refl M, S.pick [0, 1] (by decide)⟩) ?_
  refine Wa_take (i := 2) rfl (by kernel_rfl) rfl rfl (.pointer (some ⟨bo0, 0, none⟩)) rfl (fun w' h' => x_fieldAddr (o := 0) (off := 0) Tryd.underlying47 rfl ty45 rfl rfl) (⟨M, Hp.le_refl M, S.pick [0, 1] (by decide)⟩) ?_
  refine Wa_take (i := 3) rfl (by kernel_rfl) rfl rfl (.slice A0_0 a0.l.length c0_0) rfl (fun w' h' => x_load (cls_blk h' 0 rfl) ty45 rfl rfl) (⟨M, Hp.le_refl M, S.pick [0, 1] (by decide)⟩) ?_
  refine Wa_take (i := 5) rfl (by kernel_rfl) rfl rfl (.pointer (some ⟨bo0, 0, none⟩)) rfl (fun w' h' => x_move rfl) (⟨M, Hp.le_refl M, S.pick [0, 1] (by decide)⟩) ?_
  refine Wa_take (i := 6) rfl (by kernel_rfl) rfl rfl (.pointer (some ⟨bo0, 0, none⟩)) rfl (fun w' h' => x_nilptr rfl) (⟨M, Hp.le_refl M, S.pick [0, 1] (by decide)⟩) ?_
  refine Wa_take (i := 7) rfl (by kernel_rfl) rfl rfl (.pointer (some ⟨bo0, 1, none⟩)) rfl (fun w' h' => x_fieldAddr (o := 0) (off := 1) Tryd.underlying47 rfl ty3 rfl rfl) (⟨M, Hp.le_refl M, S.pick [0, 1] (by decide)⟩) ?_
  refine Wa_take (i := 8) rfl (by kernel_rfl) rfl rfl (.int .i64 a0.last) rfl (fun w' h' => x_load (cls_blk h' 0 rfl) ty3 rfl rfl) (⟨M, Hp.le_refl M, S.pick [0, 1] (by decide)⟩) ?_
  refine Wa_solo (i := 4) rfl (by kernel_rfl) ?_
  replace S : St w10 M F [Row r_status_writer 49 (.slice A0_0 a0.l.length c0_0) a0.l, Blk bo0 (.cells #[.slice A0_0 a0.l.length c0_0, .int .i64 a0.last] 47 (0, 0))] := S.pick [1, 0] (by decide)
  obtain ⟨t12, ht13, H⟩ := bindS H
  refine W_callN 1 fn35 (fun h9 hs9 hd9 => slices_Clone_status_writer_status_writer.con k _ A0_0 c0_0 a0.l t12 (Sats.row hs9 hd9 0 rfl) (let ⟨gt, fr, h8⟩ := hg0; ⟨gt, fr, Hp.le_union_left _ _ _ _ h8⟩) ht13) S rfl rfl (by rintro _ _ _ ⟨_, _, _, rfl⟩; exact (flat_cons (flat_row (fun _ _ _ _ h => h)) flat_nil)) ?_
  rintro _ w17 _ Γ' E' S ⟨A14, c15, rfl, rfl⟩
  replace E := E.trans E'
  clear E'
  refine Wl_nil (on_n ⟨⟨M, Hp.le_refl M, S.pick [2, 1] (by decide)⟩, ?_⟩)
  refine Wa_take (i := 9) rfl (by kernel_rfl) rfl rfl (.agg #[.slice A14 t12.length c15, .int .i64 a0.last]) rfl (fun w' h' => x_build2 (pl := [(0, 1), (1, 1)]) #[.slice A14 t12.length c15, .int .i64 a0.last] Tryd.underlying47 ty47 (by kernel_rfl) rfl (by kernel_rfl)) (⟨M, Hp.le_refl M, S.pick [2, 1] (by decide)⟩) ?_
  refine Wa_solo (i := 10) rfl (by kernel_rfl) ?_
  refine W_box S #[.slice A14 t12.length c15, .int .i64 a0.last] rfl rfl rfl ?_
  intro b18 w19 E' S
  replace E := E.trans E'
  clear E'
  refine Wl_nil (on_n ⟨⟨M, Hp.le_refl M, S.pick [3, 2] (by decide)⟩, ?_⟩)
  refine Wa_take (i := 11) rfl (by kernel_rfl) rfl rfl (.pointer (some ⟨b18, 0, none⟩)) rfl (fun w' h' => x_assign rfl) (⟨M, Hp.le_refl M, S.pick [3, 2] (by decide)⟩) ?_
  refine Wa_done (by kernel_rfl) ?_
  refine tn ?_
  refine Wp_ret ?_
  obtain rfl := Option.some.inj H
  exact ⟨_, _, _, fun w1 e1 => run_resR (vs := [.pointer (some ⟨b18, 0, none⟩)]) (FA.cons (rfl) (FA.nil)), HM, E, S.pick [0, 1, 3, 2] (by decide), ⟨b18, A14, c15, rfl, rfl⟩⟩
/-! ### (*ferryman/ferrymanref08.Writers).Copy: function 24 -/
def ferrymanref08_Writers_Copy_PO (k : Nat) (a0 : ferrymanref08_Writers) : Option (ferrymanref08_Writers × ferrymanref08_Writers) :=
  some (a0, a0)
set_option maxHeartbeats 2000000 in
theorem ferrymanref08_Writers_Copy_PO.mono {k : Nat} {a0 : ferrymanref08_Writers} : OLe (ferrymanref08_Writers_Copy_PO k a0) (ferrymanref08_Writers_Copy_PO (k + 1) a0) := by
  unfold ferrymanref08_Writers_Copy_PO
  repeat' (first | with_reducible exact OLe.none | with_reducible exact OLe.some | with_reducible refine OLe.ite ?_ ?_ | with_reducible refine OLe.bind ?_ (fun _ => ?_) | refine OLe.bind ?_ (fun _ => ?_) | refine OLe.ite ?_ ?_ | refine OLe.elim (fun _ => ?_) (fun _ => ?_) | split)
set_option maxHeartbeats 1000000 in
set_option maxRecDepth 100000 in
theorem ferrymanref08_Writers_Copy_PO.con (k : Nat) (M : Hp) (A0_0 : Option Addr) (c0_0 : Nat) (a0 : ferrymanref08_Writers) (bo0 : Nat) (r : ferrymanref08_Writers × ferrymanref08_Writers)  (hg0 : ∃ gt fr, M 0 = some (.cells #[.int .u8 0, .int .u8 0, .int .u8 1, .int .u8 1, .int .u8 2] gt fr)) (h : ferrymanref08_Writers_Copy_PO k a0 = some r) : Con Tryd.prog 24 #[.pointer (some ⟨bo0, 0, none⟩)] M [Blk bo0 (.cells #[.slice A0_0 a0.L.length c0_0] 58 (0, 0)), Row r_ferrymanref08_Writer 60 (.slice A0_0 a0.L.length c0_0) a0.L] (fun v M' Γ' => ∃ (bq1 : Nat) (Aq3 : Option Addr) (cq4 : Nat) (Aq6 : Option Addr) (cq7 : Nat), v = .pointer (some ⟨bq1, 0, none⟩) ∧ SlR r_ferrymanref08_Writer M' (.slice Aq3 r.1.L.length cq4) r.1.L ∧ SlR r_ferrymanref08_Writer M' (.slice Aq6 r.2.L.length cq7) r.2.L ∧ Γ' = [Blk bq1 (.cells #[.slice Aq3 r.1.L.length cq4] 58 (0, 0)), Blk bo0 (.cells #[.slice Aq6 r.2.L.length cq7] 58 (0, 0))]) := by
  refine con_of_wp Tryd.func24 rfl Tryd.ntmps24 Tryd.results24 rfl ?_
  intro w F rn S hrn
  have E := Ext.refl w
  have HM := Hp.le_refl M
  have H := h
  unfold ferrymanref08_Writers_Copy_PO at H
  refine Wp_seq ?_
  refine Wp_region_lit ?_
  refine W_v (.pointer none) (x_assign rfl) rfl ?_
  refine Wl_nil ?_
  refine tn ?_
  refine Wp_seq ?_
  refine Wp_region_lit ?_
  refine W_v (.pointer (some ⟨bo0, 0, none⟩)) (x_move rfl) rfl ?_
  refine W_v (.pointer (some ⟨bo0, 0, none⟩)) (x_nilptr rfl) rfl ?_
  refine W_v (.pointer (some ⟨bo0, 0, none⟩)) (x_fieldAddr (o := 0) (off := 0) Tryd.underlying58 rfl ty56 rfl rfl) rfl ?_
  refine W_v (.slice A0_0 a0.L.length c0_0) (x_load (S.blk 0 rfl) ty56 rfl rfl) rfl ?_
  refine W_v (.agg #[.slice A0_0 a0.L.length c0_0]) (x_build2 (pl := [(0, 1)]) #[.slice A0_0 a0.L.length c0_0] Tryd.underlying58 ty58 (by kernel_rfl) rfl (by kernel_rfl)) rfl ?_
  refine W_box S #[.slice A0_0 a0.L.length c0_0] rfl rfl rfl ?_
  intro b1 w2 E' S
  replace E := E.trans E'
  clear E'
  refine W_v (.pointer (some ⟨b1, 0, none⟩)) (x_assign rfl) rfl ?_
  refine Wl_nil ?_
  refine tn ?_
  refine Wp_ret ?_
  obtain rfl := Option.some.inj H
  obtain ⟨M4, hM5, hf6, S⟩ := S.row_freeze 2 rfl
  replace hg0 : ∃ gt fr, _ := (let ⟨gt, fr, h8⟩ := hg0; ⟨gt, fr, hM5 _ _ h8⟩)
  replace HM := Hp.le_trans HM hM5
  exact ⟨_, _, _, fun w1 e1 => run_resR (vs := [.pointer (some ⟨b1, 0, none⟩)]) (FA.cons (rfl) (FA.nil)), HM, E, S.pick [0, 1] (by decide), ⟨b1, A0_0, c0_0, A0_0, c0_0, rfl, hf6, hf6, rfl⟩⟩
/-! ### (*ferryman/ferrymanref08.Writers).Begin: function 25 -/
def ferrymanref08_Writers_Begin_PR (k : Nat) (a0 : ferrymanref08_Writers) : Option (Int × ferrymanref08_Writers) :=
  (if ([] : List ferrymanref08_Writer).length + a0.L.length ≤ 8796093022208 then (if (([] : List ferrymanref08_Writer) ++ a0.L).length + ([(⟨(1 : Int), (0 : Int)⟩ : ferrymanref08_Writer)] : List ferrymanref08_Writer).length ≤ 8796093022208 then some ((((([] : List ferrymanref08_Writer) ++ a0.L) ++ ([(⟨(1 : Int), (0 : Int)⟩ : ferrymanref08_Writer)] : List ferrymanref08_Writer)).length : Int), (⟨((([] : List ferrymanref08_Writer) ++ a0.L) ++ ([(⟨(1 : Int), (0 : Int)⟩ : ferrymanref08_Writer)] : List ferrymanref08_Writer))⟩ : ferrymanref08_Writers)) else none) else none)
set_option maxHeartbeats 2000000 in
theorem ferrymanref08_Writers_Begin_PR.mono {k : Nat} {a0 : ferrymanref08_Writers} : OLe (ferrymanref08_Writers_Begin_PR k a0) (ferrymanref08_Writers_Begin_PR (k + 1) a0) := by
  unfold ferrymanref08_Writers_Begin_PR
  repeat' (first | with_reducible exact OLe.none | with_reducible exact OLe.some | with_reducible refine OLe.ite ?_ ?_ | with_reducible refine OLe.bind ?_ (fun _ => ?_) | refine OLe.bind ?_ (fun _ => ?_) | refine OLe.ite ?_ ?_ | refine OLe.elim (fun _ => ?_) (fun _ => ?_) | split)
set_option maxHeartbeats 1000000 in
set_option maxRecDepth 100000 in
theorem ferrymanref08_Writers_Begin_PR.con (k : Nat) (M : Hp) (A0_0 : Option Addr) (c0_0 : Nat) (a0 : ferrymanref08_Writers) (bo0 : Nat) (r : Int × ferrymanref08_Writers) (hr0_0 : SlR r_ferrymanref08_Writer M (.slice A0_0 a0.L.length c0_0) a0.L) (hg0 : ∃ gt fr, M 0 = some (.cells #[.int .u8 0, .int .u8 0, .int .u8 1, .int .u8 1, .int .u8 2] gt fr)) (h : ferrymanref08_Writers_Begin_PR k a0 = some r) : Con Tryd.prog 25 #[.pointer (some ⟨bo0, 0, none⟩)] M [Blk bo0 (.cells #[.slice A0_0 a0.L.length c0_0] 58 (0, 0))] (fun v M' Γ' => ∃ (Aq1 : Option Addr) (cq2 : Nat), v = .int .i64 r.1 ∧ Γ' = [Blk bo0 (.cells #[.slice Aq1 r.2.L.length cq2] 58 (0, 0)), Row r_ferrymanref08_Writer 60 (.slice Aq1 r.2.L.length cq2) r.2.L]) := by
  refine con_of_wp Tryd.func25 rfl Tryd.ntmps25 Tryd.results25 rfl ?_
  intro w F rn S hrn
  have E := Ext.refl w
  have HM := Hp.le_refl M
  have H := h
  unfold ferrymanref08_Writers_Begin_PR at H
  refine Wp_seq ?_
  refine Wp_region_lit ?_
  refine W_v (.int .i64 0) (x_assign rfl) rfl ?_
  refine Wl_nil ?_
  refine tn ?_
  refine Wp_seq ?_
  refine Wp_region_lit ?_
  refine W_v (.pointer (some ⟨bo0, 0, none⟩)) (x_move rfl) rfl ?_
  refine W_bslice S #[] Tryd.underlying56 ty60 rfl rfl #[] (by kernel_rfl) (by kernel_rfl) rfl ?_
  intro b1 w2 E' S
  replace E := E.trans E'
  clear E'
  replace S := S.blk_row (r := r_ferrymanref08_Writer) (l := ([] : List ferrymanref08_Writer)) 0 rfl 0 (Nat.le_refl 0) rfl Cells.nil
  refine W_v (.pointer (some ⟨bo0, 0, none⟩)) (x_move rfl) rfl ?_
  refine W_v (.pointer (some ⟨bo0, 0, none⟩)) (x_nilptr rfl) rfl ?_
  refine W_v (.pointer (some ⟨bo0, 0, none⟩)) (x_fieldAddr (o := 0) (off := 0) Tryd.underlying58 rfl ty56 rfl rfl) rfl ?_
  refine W_v (.slice A0_0 a0.L.length c0_0) (x_load (S.blk 1 rfl) ty56 rfl rfl) rfl ?_
  obtain ⟨p4, H⟩ := chkS H
  obtain ⟨src5, hs6, hC7⟩ := src_of_read (P := Tryd.prog) (ρ := r_ferrymanref08_Writer) (l := a0.L) (SlR.world hr0_0 S) (by decide)
  refine W_append S 0 rfl rfl rfl Tryd.underlying56 (.inl Tryd.underlying56) ty60 rfl (by decide) (by decide) hs6 hC7 rfl (by omega) rfl ?_
  intro v8 w9 E' S
  replace E := E.trans E'
  clear E'
  obtain ⟨A10, c11, rfl, _⟩ := (S.row_read 0 rfl).form
  refine W_v (.agg #[.int .u8 1, .int .i64 0]) (x_build2 (pl := [(0, 1), (1, 1)]) #[.int .u8 1, .int .i64 0] Tryd.underlying60 ty60 (by kernel_rfl) rfl (by kernel_rfl)) rfl ?_
  refine W_bslice S #[.int .u8 1, .int .i64 0] Tryd.underlying56 ty60 rfl rfl #[.int .u8 0, .int .i64 0] (by kernel_rfl) (by kernel_rfl) rfl ?_
  intro b12 w13 E' S
  replace E := E.trans E'
  clear E'
  replace S := S.blk_row (r := r_ferrymanref08_Writer) (l := ([(⟨(1 : Int), (0 : Int)⟩ : ferrymanref08_Writer)] : List ferrymanref08_Writer)) 0 rfl 1 (Nat.le_refl 1) rfl (Cells.cons (vs := [.int .u8 1, .int .i64 0]) (rfl) Cells.nil)
  obtain ⟨p15, H⟩ := chkS H
  obtain ⟨src16, hs17, hC18⟩ := src_of_read (P := Tryd.prog) (ρ := r_ferrymanref08_Writer) (l := ([(⟨(1 : Int), (0 : Int)⟩ : ferrymanref08_Writer)] : List ferrymanref08_Writer)) (S.row_read 0 rfl) (by decide)
  refine W_append S 1 rfl rfl rfl Tryd.underlying56 (.inl Tryd.underlying56) ty60 rfl (by decide) (by decide) hs17 hC18 rfl (by omega) rfl ?_
  intro v19 w20 E' S
  replace E := E.trans E'
  clear E'
  obtain ⟨A21, c22, rfl, _⟩ := (S.row_read 1 rfl).form
  refine W_v (.pointer (some ⟨bo0, 0, none⟩)) (x_nilptr rfl) rfl ?_
  refine W_v (.pointer (some ⟨bo0, 0, none⟩)) (x_fieldAddr (o := 0) (off := 0) Tryd.underlying58 rfl ty56 rfl rfl) rfl ?_
  refine W_store S 2 rfl ty56 rfl rfl [.slice A21 ((([] : List ferrymanref08_Writer) ++ a0.L) ++ ([(⟨(1 : Int), (0 : Int)⟩ : ferrymanref08_Writer)] : List ferrymanref08_Writer)).length c22] rfl rfl rfl #[.slice A21 ((([] : List ferrymanref08_Writer) ++ a0.L) ++ ([(⟨(1 : Int), (0 : Int)⟩ : ferrymanref08_Writer)] : List ferrymanref08_Writer)).length c22] rfl rfl ?_
  intro w23 E' S
  replace E := E.trans E'
  clear E'
  refine Wl_nil ?_
  refine tn ?_
  refine Wp_seq ?_
  refine Wp_region_lit ?_
  refine W_v (.pointer (some ⟨bo0, 0, none⟩)) (x_move rfl) rfl ?_
  refine W_v (.pointer (some ⟨bo0, 0, none⟩)) (x_nilptr rfl) rfl ?_
  refine W_v (.pointer (some ⟨bo0, 0, none⟩)) (x_fieldAddr (o := 0) (off := 0) Tryd.underlying58 rfl ty56 rfl rfl) rfl ?_
  refine W_v (.slice A21 ((([] : List ferrymanref08_Writer) ++ a0.L) ++ ([(⟨(1 : Int), (0 : Int)⟩ : ferrymanref08_Writer)] : List ferrymanref08_Writer)).length c22) (x_load (S.blk 2 rfl) ty56 rfl rfl) rfl ?_
  refine W_v (.int .i64 (((([] : List ferrymanref08_Writer) ++ a0.L) ++ ([(⟨(1 : Int), (0 : Int)⟩ : ferrymanref08_Writer)] : List ferrymanref08_Writer)).length : Int)) (x_len_slice (n := ((([] : List ferrymanref08_Writer) ++ a0.L) ++ ([(⟨(1 : Int), (0 : Int)⟩ : ferrymanref08_Writer)] : List ferrymanref08_Writer)).length) Tryd.underlying56 rfl) rfl ?_
  refine W_v (.int .i64 (((([] : List ferrymanref08_Writer) ++ a0.L) ++ ([(⟨(1 : Int), (0 : Int)⟩ : ferrymanref08_Writer)] : List ferrymanref08_Writer)).length : Int)) (x_assign rfl) rfl ?_
  refine Wl_nil ?_
  refine tn ?_
  refine Wp_ret ?_
  obtain rfl := Option.some.inj H
  exact ⟨_, _, _, fun w1 e1 => run_resR (vs := [.int .i64 (((([] : List ferrymanref08_Writer) ++ a0.L) ++ ([(⟨(1 : Int), (0 : Int)⟩ : ferrymanref08_Writer)] : List ferrymanref08_Writer)).length : Int)]) (FA.cons (rfl) (FA.nil)), HM, E, S.pick [2, 1] (by decide), ⟨A21, c22, rfl, rfl⟩⟩
/-! ### (*ferryman/ferrymanref08.Writers).Last: function 29 -/
def ferrymanref08_Writers_Last_PR_l0 (a0 : ferrymanref08_Writers) : Nat → Int → Int → Option ((Int))
  | 0, _, _ => none
  | k + 1, x153, x154 => (if (decide (x154 < (a0.L.length : Int))) = true then (Option.bind (α := Int) (if 0 ≤ x154 ∧ x154 < (a0.L.length : Int) then (Option.bind (α := Int) (if (decide ((rd a0.L x154).TS > x153)) = true then (if 0 ≤ x154 ∧ x154 < (a0.L.length : Int) then some ((rd a0.L x154).TS) else none) else some (x153)) (fun x291 => some (x291))) else none) (fun x268 => ferrymanref08_Writers_Last_PR_l0 a0 k x268 (IntKind.i64.wrap (x154 + (1 : Int))))) else some (x153))
set_option maxHeartbeats 2000000 in
theorem ferrymanref08_Writers_Last_PR_l0.mono {a0 : ferrymanref08_Writers} : ∀ {k : Nat} {x0 x1}, OLe (ferrymanref08_Writers_Last_PR_l0 a0 k x0 x1) (ferrymanref08_Writers_Last_PR_l0 a0 (k + 1) x0 x1) := by
  intro k
  induction k with
  | zero => intros; exact OLe.none
  | succ k ih =>
    intros
    rw [ferrymanref08_Writers_Last_PR_l0.eq_2, ferrymanref08_Writers_Last_PR_l0.eq_2]
    repeat' (first | with_reducible exact OLe.none | with_reducible exact OLe.some | with_reducible refine OLe.ite ?_ ?_ | with_reducible refine OLe.bind ?_ (fun _ => ?_) | exact ih | refine OLe.bind ?_ (fun _ => ?_) | refine OLe.ite ?_ ?_ | refine OLe.elim (fun _ => ?_) (fun _ => ?_) | split)
def ferrymanref08_Writers_Last_PR (k : Nat) (a0 : ferrymanref08_Writers) : Option (Int) :=
  (Option.bind (ferrymanref08_Writers_Last_PR_l0 a0 k (0 : Int) (0 : Int)) (fun x229 => some x229))
set_option maxHeartbeats 2000000 in
theorem ferrymanref08_Writers_Last_PR.mono {k : Nat} {a0 : ferrymanref08_Writers} : OLe (ferrymanref08_Writers_Last_PR k a0) (ferrymanref08_Writers_Last_PR (k + 1) a0) := by
  unfold ferrymanref08_Writers_Last_PR
  repeat' (first | with_reducible exact OLe.none | with_reducible exact OLe.some | with_reducible refine OLe.ite ?_ ?_ | with_reducible refine OLe.bind ?_ (fun _ => ?_) | with_reducible exact ferrymanref08_Writers_Last_PR_l0.mono | refine OLe.bind ?_ (fun _ => ?_) | refine OLe.ite ?_ ?_ | refine OLe.elim (fun _ => ?_) (fun _ => ?_) | split)
set_option maxHeartbeats 1000000 in
set_option maxRecDepth 100000 in
theorem ferrymanref08_Writers_Last_PR.con (k : Nat) (M : Hp) (A0_0 : Option Addr) (c0_0 : Nat) (a0 : ferrymanref08_Writers) (bo0 : Nat) (r : Int) (hr0_0 : SlR r_ferrymanref08_Writer M (.slice A0_0 a0.L.length c0_0) a0.L) (hg0 : ∃ gt fr, M 0 = some (.cells #[.int .u8 0, .int .u8 0, .int .u8 1, .int .u8 1, .int .u8 2] gt fr)) (h : ferrymanref08_Writers_Last_PR k a0 = some r) : Con Tryd.prog 29 #[.pointer (some ⟨bo0, 0, none⟩)] M [Blk bo0 (.cells #[.slice A0_0 a0.L.length c0_0] 58 (0, 0))] (fun v M' Γ' => v = .int .i64 r ∧ Γ' = [Blk bo0 (.cells #[.slice A0_0 a0.L.length c0_0] 58 (0, 0))]) := by
  refine con_of_wp Tryd.func29 rfl Tryd.ntmps29 Tryd.results29 rfl ?_
  intro w F rn S hrn
  have E := Ext.refl w
  have HM := Hp.le_refl M
  have H := h
  unfold ferrymanref08_Writers_Last_PR at H
  refine Wp_seq ?_
  refine Wp_region_lit ?_
  refine W_v (.int .i64 0) (x_assign rfl) rfl ?_
  refine Wl_nil ?_
  refine tn ?_
  refine Wp_seq ?_
  refine Wp_region_lit ?_
  refine W_v (.int .i64 0) (x_assign rfl) rfl ?_
  refine Wl_nil ?_
  refine tn ?_
  refine Wp_seq ?_
  refine Wp_seq ?_
  refine Wp_region_lit ?_
  refine W_v (.int .i64 0) (x_assign rfl) rfl ?_
  refine Wl_nil ?_
  refine tn ?_
  obtain ⟨o230, o230h, o230H⟩ := bindS H
  clear H
  refine Wp_blockJ (fun ρ w' => ∃ (x229 : Int), (x229) = o230 ∧ Agree ρ [(3, .int .i64 x229)] ∧ Ext w w' ∧ St w' M F [Blk bo0 (.cells #[.slice A0_0 a0.L.length c0_0] 58 (0, 0))]) ?_ ?_
  · skip
    refine Wp_loop (fun n ρ w' => ∃ (x153 : Int) (x154 : Int), ferrymanref08_Writers_Last_PR_l0 a0 n x153 x154 = some o230 ∧ Agree ρ [(0, .pointer (some ⟨bo0, 0, none⟩)), (3, .int .i64 x153), (4, .int .i64 x154)] ∧ Ext w w' ∧ St w' M F [Blk bo0 (.cells #[.slice A0_0 a0.L.length c0_0] 58 (0, 0))]) k ?_ ?_
    · skip
      exact ⟨(0 : Int), (0 : Int), o230h, ⟨rfl, rfl, rfl, trivial⟩, E, S.pick [0] (by decide)⟩
    · intro n
      rintro ρ w231 ⟨x153, x154, H, hρ, E, S⟩
      rw [agree_eta hρ]
      clear hρ
      cases n with
      | zero => cases H
      | succ k =>
        rw [ferrymanref08_Writers_Last_PR_l0.eq_2] at H
        refine Wp_seq ?_
        refine Wp_seq ?_
        refine Wp_region_lit ?_
        refine W_v (.int .i64 x154) (x_move rfl) rfl ?_
        refine W_v (.pointer (some ⟨bo0, 0, none⟩)) (x_move rfl) rfl ?_
        refine W_v (.pointer (some ⟨bo0, 0, none⟩)) (x_nilptr rfl) rfl ?_
        refine W_v (.pointer (some ⟨bo0, 0, none⟩)) (x_fieldAddr (o := 0) (off := 0) Tryd.underlying58 rfl ty56 rfl rfl) rfl ?_
        refine W_v (.slice A0_0 a0.L.length c0_0) (x_load (S.blk 0 rfl) ty56 rfl rfl) rfl ?_
        refine W_v (.int .i64 (a0.L.length : Int)) (x_len_slice (n := a0.L.length) Tryd.underlying56 rfl) rfl ?_
        refine W_v (.bool (decide (x154 < (a0.L.length : Int)))) (x_ibin rfl rfl rfl rfl) rfl ?_
        refine Wl_nil ?_
        refine tn ?_
        rcases iteS H with ⟨hb232, H⟩ | ⟨hb232, H⟩
        · refine Wp_cond_true (congrArg Value.bool hb232) ?_
          refine Wp_skip ?_
          refine tn ?_
          refine Wp_seq ?_
          obtain ⟨o269, o269h, o269H⟩ := bindS H
          refine Wp_cut (fun ρ w' => ∃ (x268 : Int), (x268) = o269 ∧ Agree ρ [(0, .pointer (some ⟨bo0, 0, none⟩)), (3, .int .i64 x268), (4, .int .i64 x154)] ∧ Ext w w' ∧ St w' M F [Blk bo0 (.cells #[.slice A0_0 a0.L.length c0_0] 58 (0, 0))]) ?_ ?_
          · clear o269H
            have H := o269h
            clear o269h
            refine Wp_block ?_
            refine Wp_seq ?_
            refine Wp_region_lit ?_
            refine W_v (.pointer (some ⟨bo0, 0, none⟩)) (x_move rfl) rfl ?_
            refine W_v (.pointer (some ⟨bo0, 0, none⟩)) (x_nilptr rfl) rfl ?_
            refine W_v (.pointer (some ⟨bo0, 0, none⟩)) (x_fieldAddr (o := 0) (off := 0) Tryd.underlying58 rfl ty56 rfl rfl) rfl ?_
            refine W_v (.slice A0_0 a0.L.length c0_0) (x_load (S.blk 0 rfl) ty56 rfl rfl) rfl ?_
            refine W_v (.int .i64 x154) (x_move rfl) rfl ?_
            obtain ⟨⟨p270, p271⟩, H⟩ := chkS H
            obtain ⟨b272, o273, cs274, _, _, ee279, hb275, vs276, hR277, hc278⟩ := SlW.at' hr0_0 p270 p271
            obtain rfl : vs276 = _ := hR277
            refine W_v (.pointer (some ⟨b272, o273 + x154.toNat * 2, none⟩)) (x_indexAddr Tryd.underlying56 ty60 (slA ee279) rfl p270 p271) rfl ?_
            refine W_v (.pointer (some ⟨b272, o273 + x154.toNat * 2 + 1, none⟩)) (x_fieldAddr (o := o273 + x154.toNat * 2) (off := 1) Tryd.underlying60 rfl ty3 rfl rfl) rfl ?_
            refine W_v (.int .i64 ((rd a0.L x154).TS)) (x_load (S.frz hb275) ty3 rfl (hc278 1 _ rfl)) rfl ?_
            refine W_v (.int .i64 x153) (x_move rfl) rfl ?_
            refine W_v (.bool (decide ((rd a0.L x154).TS > x153))) (x_ibin rfl rfl rfl rfl) rfl ?_
            refine Wl_nil ?_
            refine tn ?_
            obtain ⟨o292, o292h, o292H⟩ := bindS H
            refine Wp_cut (fun ρ w' => ∃ (x291 : Int), (x291) = o292 ∧ Agree ρ [(0, .pointer (some ⟨bo0, 0, none⟩)), (3, .int .i64 x291), (4, .int .i64 x154)] ∧ Ext w w' ∧ St w' M F [Blk bo0 (.cells #[.slice A0_0 a0.L.length c0_0] 58 (0, 0))]) ?_ ?_
            · clear o292H
              have H := o292h
              clear o292h
              rcases iteS H with ⟨hb293, H⟩ | ⟨hb293, H⟩
              · refine Wp_cond_true (congrArg Value.bool hb293) ?_
                refine Wp_region_lit ?_
                refine W_v (.pointer (some ⟨bo0, 0, none⟩)) (x_move rfl) rfl ?_
                refine W_v (.pointer (some ⟨bo0, 0, none⟩)) (x_nilptr rfl) rfl ?_
                refine W_v (.pointer (some ⟨bo0, 0, none⟩)) (x_fieldAddr (o := 0) (off := 0) Tryd.underlying58 rfl ty56 rfl rfl) rfl ?_
                refine W_v (.slice A0_0 a0.L.length c0_0) (x_load (S.blk 0 rfl) ty56 rfl rfl) rfl ?_
                refine W_v (.int .i64 x154) (x_move rfl) rfl ?_
                obtain ⟨⟨p294, p295⟩, H⟩ := chkS H
                obtain ⟨b296, o297, cs298, _, _, ee303, hb299, vs300, hR301, hc302⟩ := SlW.at' hr0_0 p294 p295
                obtain rfl : vs300 = _ := hR301
                refine W_v (.pointer (some ⟨b296, o297 + x154.toNat * 2, none⟩)) (x_indexAddr Tryd.underlying56 ty60 (slA ee303) rfl p294 p295) rfl ?_
                refine W_v (.pointer (some ⟨b296, o297 + x154.toNat * 2 + 1, none⟩)) (x_fieldAddr (o := o297 + x154.toNat * 2) (off := 1) Tryd.underlying60 rfl ty3 rfl rfl) rfl ?_
                refine W_v (.int .i64 ((rd a0.L x154).TS)) (x_load (S.frz hb299) ty3 rfl (hc302 1 _ rfl)) rfl ?_
                refine W_v (.int .i64 ((rd a0.L x154).TS)) (x_assign rfl) rfl ?_
                refine Wl_nil ?_
                refine tn ?_
                exact ⟨((rd a0.L x154).TS), Option.some.inj H, ⟨rfl, rfl, rfl, trivial⟩, E, S.pick [0] (by decide)⟩
              refine Wp_cond_false (congrArg Value.bool hb293) ?_
              refine Wp_skip ?_
              refine tn ?_
              exact ⟨x153, Option.some.inj H, ⟨rfl, rfl, rfl, trivial⟩, E, S.pick [0] (by decide)⟩
            clear o292h
            rintro ρ w304 ⟨x291, rfl, hρ, E, S⟩
            rw [agree_eta hρ]
            clear hρ
            have H := o292H
            clear o292H
            refine bn ?_
            refine tn ?_
            exact ⟨x291, Option.some.inj H, ⟨rfl, rfl, rfl, trivial⟩, E, S.pick [0] (by decide)⟩
          clear o269h
          rintro ρ w305 ⟨x268, rfl, hρ, E, S⟩
          rw [agree_eta hρ]
          clear hρ
          have H := o269H
          clear o269H
          refine tn ?_
          refine Wp_region_lit ?_
          refine W_v (.int .i64 x154) (x_move rfl) rfl ?_
          refine W_v (.int .i64 (IntKind.i64.wrap (x154 + (1 : Int)))) (x_ibin rfl rfl rfl rfl) rfl ?_
          refine W_v (.int .i64 (IntKind.i64.wrap (x154 + (1 : Int)))) (x_assign rfl) rfl ?_
          refine Wl_nil ?_
          refine tn ?_
          exact ⟨k, Nat.lt_succ_self k, ⟨x268, (IntKind.i64.wrap (x154 + (1 : Int))), H, ⟨rfl, rfl, rfl, trivial⟩, E, S.pick [0] (by decide)⟩⟩
        refine Wp_cond_false (congrArg Value.bool hb232) ?_
        refine Wp_exit ?_
        refine tx (tx (bsm (?_)))
        refine tn ?_
        exact ⟨x153, Option.some.inj H, ⟨rfl, trivial⟩, E, S.pick [0] (by decide)⟩
  clear o230h
  rintro ρ w306 ⟨x229, rfl, hρ, E, S⟩
  rw [agree_eta hρ]
  clear hρ
  have H := o230H
  clear o230H
  refine tn ?_
  refine Wp_seq ?_
  refine Wp_region_lit ?_
  refine W_v (.int .i64 x229) (x_move rfl) rfl ?_
  refine W_v (.int .i64 x229) (x_assign rfl) rfl ?_
  refine Wl_nil ?_
  refine tn ?_
  refine Wp_ret ?_
  obtain rfl := Option.some.inj H
  exact ⟨_, _, _, fun w1 e1 => run_resR (vs := [.int .i64 x229]) (FA.cons (rfl) (FA.nil)), HM, E, S.pick [0] (by decide), ⟨rfl, rfl⟩⟩
/-! ### (*ferryman/ferrymanref08.Writers).turn: function 36 -/
def ferrymanref08_Writers_turn_PR (k : Nat) (a0 : ferrymanref08_Writers) (a1 : Int) (a2 : Int) (a3 : Int) (a4 : Int) (a5 : Bool) : Option (Int × ferrymanref08_Writers) :=
  (if ((decide (a1 < (1 : Int))) || (decide (a1 > (a0.L.length : Int)))) = true then some ((5 : Int), a0) else (if 0 ≤ (IntKind.i64.wrap (a1 - (1 : Int))) ∧ (IntKind.i64.wrap (a1 - (1 : Int))) < (a0.L.length : Int) then (if ((rd a0.L (IntKind.i64.wrap (a1 - (1 : Int)))).State != a2) = true then some ((7 : Int), a0) else (if (!a5) = true then some ((1 : Int), a0) else (if ([] : List ferrymanref08_Writer).length + a0.L.length ≤ 8796093022208 then (if 0 ≤ (IntKind.i64.wrap (a1 - (1 : Int))) ∧ (IntKind.i64.wrap (a1 - (1 : Int))) < ((([] : List ferrymanref08_Writer) ++ a0.L).length : Int) then (Option.bind (α := List ferrymanref08_Writer) (some (List.set (([] : List ferrymanref08_Writer) ++ a0.L) (IntKind.i64.wrap (a1 - (1 : Int))).toNat (⟨a3, a4⟩ : ferrymanref08_Writer))) (fun x38 => some ((0 : Int), (⟨x38⟩ : ferrymanref08_Writers)))) else none) else none))) else none))
set_option maxHeartbeats 2000000 in
theorem ferrymanref08_Writers_turn_PR.mono {k : Nat} {a0 : ferrymanref08_Writers} {a1 : Int} {a2 : Int} {a3 : Int} {a4 : Int} {a5 : Bool} : OLe (ferrymanref08_Writers_turn_PR k a0 a1 a2 a3 a4 a5) (ferrymanref08_Writers_turn_PR (k + 1) a0 a1 a2 a3 a4 a5) := by
  unfold ferrymanref08_Writers_turn_PR
  repeat' (first | with_reducible exact OLe.none | with_reducible exact OLe.some | with_reducible refine OLe.ite ?_ ?_ | with_reducible refine OLe.bind ?_ (fun _ => ?_) | refine OLe.bind ?_ (fun _ => ?_) | refine OLe.ite ?_ ?_ | refine OLe.elim (fun _ => ?_) (fun _ => ?_) | split)
set_option maxHeartbeats 1000000 in
set_option maxRecDepth 100000 in
theorem ferrymanref08_Writers_turn_PR.con (k : Nat) (M : Hp) (A0_0 : Option Addr) (c0_0 : Nat) (a0 : ferrymanref08_Writers) (a1 : Int) (a2 : Int) (a3 : Int) (a4 : Int) (a5 : Bool) (bo0 : Nat) (r : Int × ferrymanref08_Writers) (hr0_0 : SlR r_ferrymanref08_Writer M (.slice A0_0 a0.L.length c0_0) a0.L) (hg0 : ∃ gt fr, M 0 = some (.cells #[.int .u8 0, .int .u8 0, .int .u8 1, .int .u8 1, .int .u8 2] gt fr)) (h : ferrymanref08_Writers_turn_PR k a0 a1 a2 a3 a4 a5 = some r) : Con Tryd.prog 36 #[.pointer (some ⟨bo0, 0, none⟩), .int .i64 a1, .int .u8 a2, .int .u8 a3, .int .i64 a4, .bool a5] M [Blk bo0 (.cells #[.slice A0_0 a0.L.length c0_0] 58 (0, 0))] (fun v M' Γ' => ∃ (Aq1 : Option Addr) (cq2 : Nat), v = .int .i64 r.1 ∧ SlR r_ferrymanref08_Writer M' (.slice Aq1 r.2.L.length cq2) r.2.L ∧ Γ' = [Blk bo0 (.cells #[.slice Aq1 r.2.L.length cq2] 58 (0, 0))]) := by
  refine con_of_wp Tryd.func36 rfl Tryd.ntmps36 Tryd.results36 rfl ?_
  intro w F rn S hrn
  have E := Ext.refl w
  have HM := Hp.le_refl M
  have H := h
  unfold ferrymanref08_Writers_turn_PR at H
  refine Wp_seq ?_
  refine Wp_region_lit ?_
  refine W_v (.int .i64 0) (x_assign rfl) rfl ?_
  refine Wl_nil ?_
  refine tn ?_
  refine Wp_seq ?_
  refine Wp_seq ?_
  refine Wp_region_lit ?_
  refine W_v (.int .i64 a1) (x_move rfl) rfl ?_
  refine W_v (.bool (decide (a1 < (1 : Int)))) (x_ibin rfl rfl rfl rfl) rfl ?_
  refine W_v (.bool (decide (a1 < (1 : Int)))) (x_move rfl) rfl ?_
  refine Wl_cutN 8 (fun ρ w' => Agree ρ [(0, .pointer (some ⟨bo0, 0, none⟩)), (1, .int .i64 a1), (2, .int .u8 a2), (3, .int .u8 a3), (4, .int .i64 a4), (5, .bool a5), (23, .bool ((decide (a1 < (1 : Int))) || (decide (a1 > (a0.L.length : Int)))))] ∧ w = w') ?_ ?_
  · rcases boolCases (decide (a1 < (1 : Int))) with hb1 | hb1
    · skip
      refine W_yes (congrArg some hb1) ?_
      refine W_v (.int .i64 a1) (x_move rfl) rfl ?_
      refine W_yes (congrArg some hb1) ?_
      refine W_v (.pointer (some ⟨bo0, 0, none⟩)) (x_move rfl) rfl ?_
      refine W_yes (congrArg some hb1) ?_
      refine W_v (.pointer (some ⟨bo0, 0, none⟩)) (x_nilptr rfl) rfl ?_
      refine W_yes (congrArg some hb1) ?_
      refine W_v (.pointer (some ⟨bo0, 0, none⟩)) (x_fieldAddr (o := 0) (off := 0) Tryd.underlying58 rfl ty56 rfl rfl) rfl ?_
      refine W_yes (congrArg some hb1) ?_
      refine W_v (.slice A0_0 a0.L.length c0_0) (x_load (S.blk 0 rfl) ty56 rfl rfl) rfl ?_
      refine W_yes (congrArg some hb1) ?_
      refine W_v (.int .i64 (a0.L.length : Int)) (x_len_slice (n := a0.L.length) Tryd.underlying56 rfl) rfl ?_
      refine W_yes (congrArg some hb1) ?_
      refine W_v (.bool (decide (a1 > (a0.L.length : Int)))) (x_ibin rfl rfl rfl rfl) rfl ?_
      refine W_v (.bool (decide (a1 > (a0.L.length : Int)))) (x_pick (k := false) (congrArg Value.bool hb1) rfl) rfl ?_
      refine Wl_nil ?_
      exact ⟨⟨rfl, rfl, rfl, rfl, rfl, rfl, (by first | rfl | (rw [hb1]; rfl) | (simp only [hb1]; rfl)), trivial⟩, rfl⟩
    · skip
      refine W_no (skF hb1) rfl ?_
      refine W_no (skF hb1) rfl ?_
      refine W_no (skF hb1) rfl ?_
      refine W_no (skF hb1) rfl ?_
      refine W_no (skF hb1) rfl ?_
      refine W_no (skF hb1) rfl ?_
      refine W_no (skF hb1) rfl ?_
      refine W_v (.bool true) (x_pick (k := true) (congrArg Value.bool hb1) rfl) rfl ?_
      refine Wl_nil ?_
      exact ⟨⟨rfl, rfl, rfl, rfl, rfl, rfl, (by first | rfl | (rw [hb1]; rfl) | (simp only [hb1]; rfl)), trivial⟩, rfl⟩
  rintro ρ _ ⟨hρ, rfl⟩
  rw [agree_eta hρ]
  clear hρ
  refine Wl_nil ?_
  refine tn ?_
  rcases iteS H with ⟨hb2, H⟩ | ⟨hb2, H⟩
  · refine Wp_cond_true (congrArg Value.bool hb2) ?_
    refine Wp_seq ?_
    refine Wp_region_lit ?_
    refine W_v (.int .i64 5) (x_assign rfl) rfl ?_
    refine Wl_nil ?_
    refine tn ?_
    refine Wp_ret ?_
    refine tr (?_)
    obtain rfl := Option.some.inj H
    exact ⟨_, _, _, fun w1 e1 => run_resR (vs := [.int .i64 5]) (FA.cons (rfl) (FA.nil)), HM, E, S.pick [0] (by decide), ⟨A0_0, c0_0, rfl, hr0_0, rfl⟩⟩
  refine Wp_cond_false (congrArg Value.bool hb2) ?_
  refine Wp_skip ?_
  refine tn ?_
  refine Wp_seq ?_
  refine Wp_seq ?_
  refine Wp_region_lit ?_
  refine W_v (.pointer (some ⟨bo0, 0, none⟩)) (x_move rfl) rfl ?_
  refine W_v (.pointer (some ⟨bo0, 0, none⟩)) (x_nilptr rfl) rfl ?_
  refine W_v (.pointer (some ⟨bo0, 0, none⟩)) (x_fieldAddr (o := 0) (off := 0) Tryd.underlying58 rfl ty56 rfl rfl) rfl ?_
  refine W_v (.slice A0_0 a0.L.length c0_0) (x_load (S.blk 0 rfl) ty56 rfl rfl) rfl ?_
  refine W_v (.int .i64 a1) (x_move rfl) rfl ?_
  refine W_v (.int .i64 (IntKind.i64.wrap (a1 - (1 : Int)))) (x_ibin rfl rfl rfl rfl) rfl ?_
  obtain ⟨⟨p3, p4⟩, H⟩ := chkS H
  obtain ⟨b5, o6, cs7, _, _, ee12, hb8, vs9, hR10, hc11⟩ := SlW.at' hr0_0 p3 p4
  obtain rfl : vs9 = _ := hR10
  refine W_v (.pointer (some ⟨b5, o6 + (IntKind.i64.wrap (a1 - (1 : Int))).toNat * 2, none⟩)) (x_indexAddr Tryd.underlying56 ty60 (slA ee12) rfl p3 p4) rfl ?_
  refine W_v (.pointer (some ⟨b5, o6 + (IntKind.i64.wrap (a1 - (1 : Int))).toNat * 2, none⟩)) (x_fieldAddr (o := o6 + (IntKind.i64.wrap (a1 - (1 : Int))).toNat * 2) (off := 0) Tryd.underlying60 rfl ty5 rfl rfl) rfl ?_
  refine W_v (.int .u8 ((rd a0.L (IntKind.i64.wrap (a1 - (1 : Int)))).State)) (x_load (S.frz hb8) ty5 rfl (hc11 0 _ rfl)) rfl ?_
  refine W_v (.int .u8 a2) (x_move rfl) rfl ?_
  refine W_v (.bool ((rd a0.L (IntKind.i64.wrap (a1 - (1 : Int)))).State != a2)) (x_ibin rfl rfl rfl rfl) rfl ?_
  refine Wl_nil ?_
  refine tn ?_
  rcases iteS H with ⟨hb13, H⟩ | ⟨hb13, H⟩
  · refine Wp_cond_true (congrArg Value.bool hb13) ?_
    refine Wp_seq ?_
    refine Wp_region_lit ?_
    refine W_v (.int .i64 7) (x_assign rfl) rfl ?_
    refine Wl_nil ?_
    refine tn ?_
    refine Wp_ret ?_
    refine tr (?_)
    obtain rfl := Option.some.inj H
    exact ⟨_, _, _, fun w1 e1 => run_resR (vs := [.int .i64 7]) (FA.cons (rfl) (FA.nil)), HM, E, S.pick [0] (by decide), ⟨A0_0, c0_0, rfl, hr0_0, rfl⟩⟩
  refine Wp_cond_false (congrArg Value.bool hb13) ?_
  refine Wp_skip ?_
  refine tn ?_
  refine Wp_seq ?_
  refine Wp_seq ?_
  refine Wp_region_lit ?_
  refine W_v (.bool a5) (x_move rfl) rfl ?_
  refine W_v (.bool (!a5)) (x_not rfl) rfl ?_
  refine Wl_nil ?_
  refine tn ?_
  rcases iteS H with ⟨hb14, H⟩ | ⟨hb14, H⟩
  · refine Wp_cond_true (congrArg Value.bool hb14) ?_
    refine Wp_seq ?_
    refine Wp_region_lit ?_
    refine W_v (.int .i64 1) (x_assign rfl) rfl ?_
    refine Wl_nil ?_
    refine tn ?_
    refine Wp_ret ?_
    refine tr (?_)
    obtain rfl := Option.some.inj H
    exact ⟨_, _, _, fun w1 e1 => run_resR (vs := [.int .i64 1]) (FA.cons (rfl) (FA.nil)), HM, E, S.pick [0] (by decide), ⟨A0_0, c0_0, rfl, hr0_0, rfl⟩⟩
  refine Wp_cond_false (congrArg Value.bool hb14) ?_
  refine Wp_skip ?_
  refine tn ?_
  refine Wp_seq ?_
  refine Wp_region_lit ?_
  refine W_v (.pointer (some ⟨bo0, 0, none⟩)) (x_move rfl) rfl ?_
  refine W_bslice S #[] Tryd.underlying56 ty60 rfl rfl #[] (by kernel_rfl) (by kernel_rfl) rfl ?_
  intro b15 w16 E' S
  replace E := E.trans E'
  clear E'
  replace S := S.blk_row (r := r_ferrymanref08_Writer) (l := ([] : List ferrymanref08_Writer)) 0 rfl 0 (Nat.le_refl 0) rfl Cells.nil
  refine W_v (.pointer (some ⟨bo0, 0, none⟩)) (x_move rfl) rfl ?_
  refine W_v (.pointer (some ⟨bo0, 0, none⟩)) (x_nilptr rfl) rfl ?_
  refine W_v (.pointer (some ⟨bo0, 0, none⟩)) (x_fieldAddr (o := 0) (off := 0) Tryd.underlying58 rfl ty56 rfl rfl) rfl ?_
  refine W_v (.slice A0_0 a0.L.length c0_0) (x_load (S.blk 1 rfl) ty56 rfl rfl) rfl ?_
  obtain ⟨p18, H⟩ := chkS H
  obtain ⟨src19, hs20, hC21⟩ := src_of_read (P := Tryd.prog) (ρ := r_ferrymanref08_Writer) (l := a0.L) (SlR.world hr0_0 S) (by decide)
  refine W_append S 0 rfl rfl rfl Tryd.underlying56 (.inl Tryd.underlying56) ty60 rfl (by decide) (by decide) hs20 hC21 rfl (by omega) rfl ?_
  intro v22 w23 E' S
  replace E := E.trans E'
  clear E'
  obtain ⟨A24, c25, rfl, _⟩ := (S.row_read 0 rfl).form
  refine W_v (.pointer (some ⟨bo0, 0, none⟩)) (x_nilptr rfl) rfl ?_
  refine W_v (.pointer (some ⟨bo0, 0, none⟩)) (x_fieldAddr (o := 0) (off := 0) Tryd.underlying58 rfl ty56 rfl rfl) rfl ?_
  refine W_store S 1 rfl ty56 rfl rfl [.slice A24 (([] : List ferrymanref08_Writer) ++ a0.L).length c25] rfl rfl rfl #[.slice A24 (([] : List ferrymanref08_Writer) ++ a0.L).length c25] rfl rfl ?_
  intro w26 E' S
  replace E := E.trans E'
  clear E'
  refine Wl_nil ?_
  refine tn ?_
  refine Wp_seq ?_
  refine Wp_region_lit ?_
  refine W_v (.pointer (some ⟨bo0, 0, none⟩)) (x_move rfl) rfl ?_
  refine W_v (.pointer (some ⟨bo0, 0, none⟩)) (x_nilptr rfl) rfl ?_
  refine W_v (.pointer (some ⟨bo0, 0, none⟩)) (x_fieldAddr (o := 0) (off := 0) Tryd.underlying58 rfl ty56 rfl rfl) rfl ?_
  refine W_v (.slice A24 (([] : List ferrymanref08_Writer) ++ a0.L).length c25) (x_load (S.blk 1 rfl) ty56 rfl rfl) rfl ?_
  refine W_v (.int .i64 a1) (x_move rfl) rfl ?_
  refine W_v (.int .i64 (IntKind.i64.wrap (a1 - (1 : Int)))) (x_ibin rfl rfl rfl rfl) rfl ?_
  refine W_v (.int .u8 a3) (x_move rfl) rfl ?_
  refine W_v (.int .i64 a4) (x_move rfl) rfl ?_
  refine W_v (.agg #[.int .u8 a3, .int .i64 a4]) (x_build2 (pl := [(0, 1), (1, 1)]) #[.int .u8 a3, .int .i64 a4] Tryd.underlying60 ty60 (by kernel_rfl) rfl (by kernel_rfl)) rfl ?_
  obtain ⟨⟨p27, p28⟩, H⟩ := chkS H
  obtain ⟨b29, o30, cs31, _, _, ee36, hb32, vs33, hR34, hc35⟩ := SlW.at' (S.row_read 0 rfl) p27 p28
  obtain rfl : vs33 = _ := hR34
  refine W_v (.pointer (some ⟨b29, o30 + (IntKind.i64.wrap (a1 - (1 : Int))).toNat * 2, none⟩)) (x_indexAddr Tryd.underlying56 ty60 (slA ee36) rfl p27 p28) rfl ?_
  obtain ⟨x38, he39, H⟩ := bindS H
  replace he39 := Option.some.inj he39
  refine W_rowstore S 0 rfl rfl ee36 (by first | exact p27 | simpa using p27) (by first | exact p28 | simpa using p28) 0 ty60 rfl rfl [.int .u8 a3, .int .i64 a4] rfl rfl rfl rfl (⟨a3, a4⟩ : ferrymanref08_Writer) (by rintro _ rfl; rfl) he39 ?_
  intro w37 E' S
  replace E := E.trans E'
  clear E'
  have hs40 : Value.slice A24 (([] : List ferrymanref08_Writer) ++ a0.L).length c25 = Value.slice A24 x38.length c25 := by rw [← he39, List.length_set]
  try rw [hs40] at S
  try rw [hs40]
  clear hs40
  refine Wl_nil ?_
  refine tn ?_
  refine Wp_seq ?_
  refine Wp_region_lit ?_
  refine W_v (.int .i64 0) (x_assign rfl) rfl ?_
  refine Wl_nil ?_
  refine tn ?_
  refine Wp_ret ?_
  obtain rfl := Option.some.inj H
  obtain ⟨M41, hM42, hf43, S⟩ := S.row_freeze 0 rfl
  replace hg0 : ∃ gt fr, _ := (let ⟨gt, fr, h8⟩ := hg0; ⟨gt, fr, hM42 _ _ h8⟩)
  replace HM := Hp.le_trans HM hM42
  replace hr0_0 := SlR.mono hr0_0 hM42
  replace hb8 := hM42 _ _ hb8
  exact ⟨_, _, _, fun w1 e1 => run_resR (vs := [.int .i64 0]) (FA.cons (rfl) (FA.nil)), HM, E, S.pick [0] (by decide), ⟨A24, c25, rfl, hf43, rfl⟩⟩
/-! ### (*ferryman/ferrymanref08.Writers).Commit: function 26 -/
def ferrymanref08_Writers_Commit_PR (k : Nat) (a0 : ferrymanref08_Writers) (a1 : Int) (a2 : Int) : Option (Int × ferrymanref08_Writers) :=
  (Option.bind (α := Bool) (if (a2 == (0 : Int)) = true then some (true) else (Option.bind (ferrymanref08_Writers_Last_PR k a0) (fun t16 => some (((decide (a2 > t16)) && (decide (a2 ≤ (1048576 : Int)))))))) (fun x14 => (Option.bind (ferrymanref08_Writers_turn_PR k a0 a1 (1 : Int) (3 : Int) a2 x14) (fun t23 => some (t23.1, t23.2)))))
set_option maxHeartbeats 2000000 in
theorem ferrymanref08_Writers_Commit_PR.mono {k : Nat} {a0 : ferrymanref08_Writers} {a1 : Int} {a2 : Int} : OLe (ferrymanref08_Writers_Commit_PR k a0 a1 a2) (ferrymanref08_Writers_Commit_PR (k + 1) a0 a1 a2) := by
  unfold ferrymanref08_Writers_Commit_PR
  repeat' (first | with_reducible exact OLe.none | with_reducible exact OLe.some | with_reducible refine OLe.ite ?_ ?_ | with_reducible refine OLe.bind ?_ (fun _ => ?_) | with_reducible exact ferrymanref08_Writers_Last_PR.mono | with_reducible exact ferrymanref08_Writers_turn_PR.mono | refine OLe.bind ?_ (fun _ => ?_) | refine OLe.ite ?_ ?_ | refine OLe.elim (fun _ => ?_) (fun _ => ?_) | split)
set_option maxHeartbeats 1000000 in
set_option maxRecDepth 100000 in
theorem ferrymanref08_Writers_Commit_PR.con (k : Nat) (M : Hp) (A0_0 : Option Addr) (c0_0 : Nat) (a0 : ferrymanref08_Writers) (a1 : Int) (a2 : Int) (bo0 : Nat) (r : Int × ferrymanref08_Writers) (hr0_0 : SlR r_ferrymanref08_Writer M (.slice A0_0 a0.L.length c0_0) a0.L) (hg0 : ∃ gt fr, M 0 = some (.cells #[.int .u8 0, .int .u8 0, .int .u8 1, .int .u8 1, .int .u8 2] gt fr)) (h : ferrymanref08_Writers_Commit_PR k a0 a1 a2 = some r) : Con Tryd.prog 26 #[.pointer (some ⟨bo0, 0, none⟩), .int .i64 a1, .int .i64 a2] M [Blk bo0 (.cells #[.slice A0_0 a0.L.length c0_0] 58 (0, 0))] (fun v M' Γ' => ∃ (Aq1 : Option Addr) (cq2 : Nat), v = .int .i64 r.1 ∧ SlR r_ferrymanref08_Writer M' (.slice Aq1 r.2.L.length cq2) r.2.L ∧ Γ' = [Blk bo0 (.cells #[.slice Aq1 r.2.L.length cq2] 58 (0, 0))]) := by
  refine con_of_wp Tryd.func26 rfl Tryd.ntmps26 Tryd.results26 rfl ?_
  intro w F rn S hrn
  have E := Ext.refl w
  have HM := Hp.le_refl M
  have H := h
  unfold ferrymanref08_Writers_Commit_PR at H
  refine Wp_seq ?_
  refine Wp_region_lit ?_
  refine W_v (.int .i64 0) (x_assign rfl) rfl ?_
  refine Wl_nil ?_
  refine tn ?_
  refine Wp_seq ?_
  refine Wp_region_lit ?_
  refine W_v (.pointer (some ⟨bo0, 0, none⟩)) (x_move rfl) rfl ?_
  refine W_v (.int .i64 a1) (x_move rfl) rfl ?_
  refine W_v (.int .i64 a2) (x_move rfl) rfl ?_
  refine W_v (.int .i64 a2) (x_move rfl) rfl ?_
  refine W_v (.bool (a2 == (0 : Int))) (x_ibin rfl rfl rfl rfl) rfl ?_
  refine W_v (.bool (a2 == (0 : Int))) (x_move rfl) rfl ?_
  obtain ⟨o15, o15h, o15H⟩ := bindS H
  clear H
  refine Wl_cutN 9 (fun ρ w' => ∃ (x14 : Bool), (x14) = o15 ∧ Agree ρ [(7, .pointer (some ⟨bo0, 0, none⟩)), (8, .int .i64 a1), (9, .int .i64 a2), (21, .bool x14)] ∧ Ext w w' ∧ St w' M F [Blk bo0 (.cells #[.slice A0_0 a0.L.length c0_0] 58 (0, 0))]) ?_ ?_
  · have H := o15h
    rcases iteS H with ⟨hb13, H⟩ | ⟨hb13, H⟩
    · skip
      refine W_no (skF hb13) rfl ?_
      refine W_no (skF hb13) rfl ?_
      refine W_no (skF hb13) rfl ?_
      refine W_no (skF hb13) rfl ?_
      refine W_no (skF hb13) rfl ?_
      refine W_no (rfl) rfl ?_
      refine W_no (rfl) rfl ?_
      refine W_no (skF hb13) rfl ?_
      refine W_v (.bool true) (x_pick (k := true) (congrArg Value.bool hb13) rfl) rfl ?_
      refine Wl_nil ?_
      exact ⟨true, Option.some.inj H, ⟨rfl, rfl, rfl, rfl, trivial⟩, E, S.pick [0] (by decide)⟩
    · skip
      refine W_yes (congrArg some hb13) ?_
      refine W_v (.int .i64 a2) (x_move rfl) rfl ?_
      refine W_yes (congrArg some hb13) ?_
      refine W_v (.pointer (some ⟨bo0, 0, none⟩)) (x_move rfl) rfl ?_
      refine W_yes (congrArg some hb13) ?_
      obtain ⟨t16, ht17, H⟩ := bindS H
      refine W_callF2 fn29 (ferrymanref08_Writers_Last_PR.con k M A0_0 c0_0 a0 bo0 t16 hr0_0 hg0 ht17) (Γ1 := [Blk bo0 (.cells #[.slice A0_0 a0.L.length c0_0] 58 (0, 0))]) (Γ2 := []) S rfl rfl (by rintro _ _ _ ⟨rfl, rfl⟩; exact (flat_cons flat_blk flat_nil)) ?_
      rintro _ w18 _ Γ' E' S ⟨rfl, rfl⟩
      replace E := E.trans E'
      clear E'
      replace S : St w18 M F [Blk bo0 (.cells #[.slice A0_0 a0.L.length c0_0] 58 (0, 0))] := S
      refine W_yes (congrArg some hb13) ?_
      refine W_v (.bool (decide (a2 > t16))) (x_ibin rfl rfl rfl rfl) rfl ?_
      refine W_yes (congrArg some hb13) ?_
      refine W_v (.bool (decide (a2 > t16))) (x_move rfl) rfl ?_
      refine Wl_cutN 3 (fun ρ w' => Agree ρ [(7, .pointer (some ⟨bo0, 0, none⟩)), (8, .int .i64 a1), (9, .int .i64 a2), (12, .bool (a2 == (0 : Int))), (20, .bool ((decide (a2 > t16)) && (decide (a2 ≤ (1048576 : Int)))))] ∧ w18 = w') ?_ ?_
      · rcases boolCases (decide (a2 > t16)) with hb21 | hb21
        · skip
          refine W_no (skT hb21) rfl ?_
          refine W_no (skT hb21) rfl ?_
          refine W_yes (congrArg some hb13) ?_
          refine W_v (.bool false) (x_pick (k := false) (congrArg Value.bool hb21) rfl) rfl ?_
          refine Wl_nil ?_
          exact ⟨⟨rfl, rfl, rfl, rfl, (by first | rfl | (rw [hb21]; rfl) | (simp only [hb21]; rfl)), trivial⟩, rfl⟩
        · skip
          refine W_yes (congrArg some hb21) ?_
          refine W_v (.int .i64 a2) (x_move rfl) rfl ?_
          refine W_yes (congrArg some hb21) ?_
          refine W_v (.bool (decide (a2 ≤ (1048576 : Int)))) (x_ibin rfl rfl rfl rfl) rfl ?_
          refine W_yes (congrArg some hb13) ?_
          refine W_v (.bool (decide (a2 ≤ (1048576 : Int)))) (x_pick (k := true) (congrArg Value.bool hb21) rfl) rfl ?_
          refine Wl_nil ?_
          exact ⟨⟨rfl, rfl, rfl, rfl, (by first | rfl | (rw [hb21]; rfl) | (simp only [hb21]; rfl)), trivial⟩, rfl⟩
      rintro ρ _ ⟨hρ, rfl⟩
      rw [agree_eta hρ]
      clear hρ
      refine W_v (.bool ((decide (a2 > t16)) && (decide (a2 ≤ (1048576 : Int))))) (x_pick (k := false) (congrArg Value.bool hb13) rfl) rfl ?_
      refine Wl_nil ?_
      exact ⟨((decide (a2 > t16)) && (decide (a2 ≤ (1048576 : Int)))), Option.some.inj H, ⟨rfl, rfl, rfl, rfl, trivial⟩, E, S.pick [0] (by decide)⟩
  clear o15h
  rintro ρ w22 ⟨x14, rfl, hρ, E, S⟩
  rw [agree_eta hρ]
  clear hρ
  have H := o15H
  clear o15H
  obtain ⟨t23, ht24, H⟩ := bindS H
  refine W_call fn36 (ferrymanref08_Writers_turn_PR.con k M A0_0 c0_0 a0 a1 (1 : Int) (3 : Int) a2 x14 bo0 t23 hr0_0 hg0 ht24) (Γ1 := [Blk bo0 (.cells #[.slice A0_0 a0.L.length c0_0] 58 (0, 0))]) (Γ2 := []) S rfl rfl ?_
  rintro _ w28 M29 Γ' hM30 E' S ⟨A25, c26, rfl, hs27, rfl⟩
  replace hg0 : ∃ gt fr, _ := (let ⟨gt, fr, h8⟩ := hg0; ⟨gt, fr, hM30 _ _ h8⟩)
  replace HM := Hp.le_trans HM hM30
  replace hr0_0 := SlR.mono hr0_0 hM30
  replace E := E.trans E'
  clear E'
  replace S : St w28 M29 F [Blk bo0 (.cells #[.slice A25 t23.2.L.length c26] 58 (0, 0))] := S
  refine W_v (.int .i64 t23.1) (x_assign rfl) rfl ?_
  refine Wl_nil ?_
  refine tn ?_
  refine Wp_ret ?_
  obtain rfl := Option.some.inj H
  exact ⟨_, _, _, fun w1 e1 => run_resR (vs := [.int .i64 t23.1]) (FA.cons (rfl) (FA.nil)), HM, E, S.pick [0] (by decide), ⟨A25, c26, rfl, hs27, rfl⟩⟩
/-! ### (*ferryman/ferrymanref08.Writers).Fall: function 27 -/
def ferrymanref08_Writers_Fall_PR (k : Nat) (a0 : ferrymanref08_Writers) (a1 : Int) : Option (Int × ferrymanref08_Writers) :=
  (Option.bind (ferrymanref08_Writers_turn_PR k a0 a1 (1 : Int) (2 : Int) (0 : Int) true) (fun t1 => some (t1.1, t1.2)))
set_option maxHeartbeats 2000000 in
theorem ferrymanref08_Writers_Fall_PR.mono {k : Nat} {a0 : ferrymanref08_Writers} {a1 : Int} : OLe (ferrymanref08_Writers_Fall_PR k a0 a1) (ferrymanref08_Writers_Fall_PR (k + 1) a0 a1) := by
  unfold ferrymanref08_Writers_Fall_PR
  repeat' (first | with_reducible exact OLe.none | with_reducible exact OLe.some | with_reducible refine OLe.ite ?_ ?_ | with_reducible refine OLe.bind ?_ (fun _ => ?_) | with_reducible exact ferrymanref08_Writers_turn_PR.mono | refine OLe.bind ?_ (fun _ => ?_) | refine OLe.ite ?_ ?_ | refine OLe.elim (fun _ => ?_) (fun _ => ?_) | split)
set_option maxHeartbeats 1000000 in
set_option maxRecDepth 100000 in
theorem ferrymanref08_Writers_Fall_PR.con (k : Nat) (M : Hp) (A0_0 : Option Addr) (c0_0 : Nat) (a0 : ferrymanref08_Writers) (a1 : Int) (bo0 : Nat) (r : Int × ferrymanref08_Writers) (hr0_0 : SlR r_ferrymanref08_Writer M (.slice A0_0 a0.L.length c0_0) a0.L) (hg0 : ∃ gt fr, M 0 = some (.cells #[.int .u8 0, .int .u8 0, .int .u8 1, .int .u8 1, .int .u8 2] gt fr)) (h : ferrymanref08_Writers_Fall_PR k a0 a1 = some r) : Con Tryd.prog 27 #[.pointer (some ⟨bo0, 0, none⟩), .int .i64 a1] M [Blk bo0 (.cells #[.slice A0_0 a0.L.length c0_0] 58 (0, 0))] (fun v M' Γ' => ∃ (Aq1 : Option Addr) (cq2 : Nat), v = .int .i64 r.1 ∧ SlR r_ferrymanref08_Writer M' (.slice Aq1 r.2.L.length cq2) r.2.L ∧ Γ' = [Blk bo0 (.cells #[.slice Aq1 r.2.L.length cq2] 58 (0, 0))]) := by
  refine con_of_wp Tryd.func27 rfl Tryd.ntmps27 Tryd.results27 rfl ?_
  intro w F rn S hrn
  have E := Ext.refl w
  have HM := Hp.le_refl M
  have H := h
  unfold ferrymanref08_Writers_Fall_PR at H
  refine Wp_seq ?_
  refine Wp_region_lit ?_
  refine W_v (.int .i64 0) (x_assign rfl) rfl ?_
  refine Wl_nil ?_
  refine tn ?_
  refine Wp_seq ?_
  refine Wp_region_lit ?_
  refine W_v (.pointer (some ⟨bo0, 0, none⟩)) (x_move rfl) rfl ?_
  refine W_v (.int .i64 a1) (x_move rfl) rfl ?_
  obtain ⟨t1, ht2, H⟩ := bindS H
  refine W_call fn36 (ferrymanref08_Writers_turn_PR.con k M A0_0 c0_0 a0 a1 (1 : Int) (2 : Int) (0 : Int) true bo0 t1 hr0_0 hg0 ht2) (Γ1 := [Blk bo0 (.cells #[.slice A0_0 a0.L.length c0_0] 58 (0, 0))]) (Γ2 := []) S rfl rfl ?_
  rintro _ w6 M7 Γ' hM8 E' S ⟨A3, c4, rfl, hs5, rfl⟩
  replace hg0 : ∃ gt fr, _ := (let ⟨gt, fr, h8⟩ := hg0; ⟨gt, fr, hM8 _ _ h8⟩)
  replace HM := Hp.le_trans HM hM8
  replace hr0_0 := SlR.mono hr0_0 hM8
  replace E := E.trans E'
  clear E'
  replace S : St w6 M7 F [Blk bo0 (.cells #[.slice A3 t1.2.L.length c4] 58 (0, 0))] := S
  refine W_v (.int .i64 t1.1) (x_assign rfl) rfl ?_
  refine Wl_nil ?_
  refine tn ?_
  refine Wp_ret ?_
  obtain rfl := Option.some.inj H
  exact ⟨_, _, _, fun w1 e1 => run_resR (vs := [.int .i64 t1.1]) (FA.cons (rfl) (FA.nil)), HM, E, S.pick [0] (by decide), ⟨A3, c4, rfl, hs5, rfl⟩⟩
/-! ### (*ferryman/ferrymanref08.Writers).Fallen: function 28 -/
def ferrymanref08_Writers_Fallen_PR (k : Nat) (a0 : ferrymanref08_Writers) (a1 : Int) : Option (Int × ferrymanref08_Writers) :=
  (Option.bind (ferrymanref08_Writers_turn_PR k a0 a1 (2 : Int) (4 : Int) (0 : Int) true) (fun t1 => some (t1.1, t1.2)))
set_option maxHeartbeats 2000000 in
theorem ferrymanref08_Writers_Fallen_PR.mono {k : Nat} {a0 : ferrymanref08_Writers} {a1 : Int} : OLe (ferrymanref08_Writers_Fallen_PR k a0 a1) (ferrymanref08_Writers_Fallen_PR (k + 1) a0 a1) := by
  unfold ferrymanref08_Writers_Fallen_PR
  repeat' (first | with_reducible exact OLe.none | with_reducible exact OLe.some | with_reducible refine OLe.ite ?_ ?_ | with_reducible refine OLe.bind ?_ (fun _ => ?_) | with_reducible exact ferrymanref08_Writers_turn_PR.mono | refine OLe.bind ?_ (fun _ => ?_) | refine OLe.ite ?_ ?_ | refine OLe.elim (fun _ => ?_) (fun _ => ?_) | split)
set_option maxHeartbeats 1000000 in
set_option maxRecDepth 100000 in
theorem ferrymanref08_Writers_Fallen_PR.con (k : Nat) (M : Hp) (A0_0 : Option Addr) (c0_0 : Nat) (a0 : ferrymanref08_Writers) (a1 : Int) (bo0 : Nat) (r : Int × ferrymanref08_Writers) (hr0_0 : SlR r_ferrymanref08_Writer M (.slice A0_0 a0.L.length c0_0) a0.L) (hg0 : ∃ gt fr, M 0 = some (.cells #[.int .u8 0, .int .u8 0, .int .u8 1, .int .u8 1, .int .u8 2] gt fr)) (h : ferrymanref08_Writers_Fallen_PR k a0 a1 = some r) : Con Tryd.prog 28 #[.pointer (some ⟨bo0, 0, none⟩), .int .i64 a1] M [Blk bo0 (.cells #[.slice A0_0 a0.L.length c0_0] 58 (0, 0))] (fun v M' Γ' => ∃ (Aq1 : Option Addr) (cq2 : Nat), v = .int .i64 r.1 ∧ SlR r_ferrymanref08_Writer M' (.slice Aq1 r.2.L.length cq2) r.2.L ∧ Γ' = [Blk bo0 (.cells #[.slice Aq1 r.2.L.length cq2] 58 (0, 0))]) := by
  refine con_of_wp Tryd.func28 rfl Tryd.ntmps28 Tryd.results28 rfl ?_
  intro w F rn S hrn
  have E := Ext.refl w
  have HM := Hp.le_refl M
  have H := h
  unfold ferrymanref08_Writers_Fallen_PR at H
  refine Wp_seq ?_
  refine Wp_region_lit ?_
  refine W_v (.int .i64 0) (x_assign rfl) rfl ?_
  refine Wl_nil ?_
  refine tn ?_
  refine Wp_seq ?_
  refine Wp_region_lit ?_
  refine W_v (.pointer (some ⟨bo0, 0, none⟩)) (x_move rfl) rfl ?_
  refine W_v (.int .i64 a1) (x_move rfl) rfl ?_
  obtain ⟨t1, ht2, H⟩ := bindS H
  refine W_call fn36 (ferrymanref08_Writers_turn_PR.con k M A0_0 c0_0 a0 a1 (2 : Int) (4 : Int) (0 : Int) true bo0 t1 hr0_0 hg0 ht2) (Γ1 := [Blk bo0 (.cells #[.slice A0_0 a0.L.length c0_0] 58 (0, 0))]) (Γ2 := []) S rfl rfl ?_
  rintro _ w6 M7 Γ' hM8 E' S ⟨A3, c4, rfl, hs5, rfl⟩
  replace hg0 : ∃ gt fr, _ := (let ⟨gt, fr, h8⟩ := hg0; ⟨gt, fr, hM8 _ _ h8⟩)
  replace HM := Hp.le_trans HM hM8
  replace hr0_0 := SlR.mono hr0_0 hM8
  replace E := E.trans E'
  clear E'
  replace S : St w6 M7 F [Blk bo0 (.cells #[.slice A3 t1.2.L.length c4] 58 (0, 0))] := S
  refine W_v (.int .i64 t1.1) (x_assign rfl) rfl ?_
  refine Wl_nil ?_
  refine tn ?_
  refine Wp_ret ?_
  obtain rfl := Option.some.inj H
  exact ⟨_, _, _, fun w1 e1 => run_resR (vs := [.int .i64 t1.1]) (FA.cons (rfl) (FA.nil)), HM, E, S.pick [0] (by decide), ⟨A3, c4, rfl, hs5, rfl⟩⟩
/-! ### (*ferryman/ferrymanref08.Writers).High: function 37 -/
def ferrymanref08_Writers_High_PR (k : Nat) (a0 : ferrymanref08_Writers) : Option (Int) :=
  some (IntKind.i64.wrap ((a0.L.length : Int) + (1 : Int)))
set_option maxHeartbeats 2000000 in
theorem ferrymanref08_Writers_High_PR.mono {k : Nat} {a0 : ferrymanref08_Writers} : OLe (ferrymanref08_Writers_High_PR k a0) (ferrymanref08_Writers_High_PR (k + 1) a0) := by
  unfold ferrymanref08_Writers_High_PR
  repeat' (first | with_reducible exact OLe.none | with_reducible exact OLe.some | with_reducible refine OLe.ite ?_ ?_ | with_reducible refine OLe.bind ?_ (fun _ => ?_) | refine OLe.bind ?_ (fun _ => ?_) | refine OLe.ite ?_ ?_ | refine OLe.elim (fun _ => ?_) (fun _ => ?_) | split)
set_option maxHeartbeats 1000000 in
set_option maxRecDepth 100000 in
theorem ferrymanref08_Writers_High_PR.con (k : Nat) (M : Hp) (A0_0 : Option Addr) (c0_0 : Nat) (a0 : ferrymanref08_Writers) (bo0 : Nat) (r : Int) (hr0_0 : SlR r_ferrymanref08_Writer M (.slice A0_0 a0.L.length c0_0) a0.L) (hg0 : ∃ gt fr, M 0 = some (.cells #[.int .u8 0, .int .u8 0, .int .u8 1, .int .u8 1, .int .u8 2] gt fr)) (h : ferrymanref08_Writers_High_PR k a0 = some r) : Con Tryd.prog 37 #[.pointer (some ⟨bo0, 0, none⟩)] M [Blk bo0 (.cells #[.slice A0_0 a0.L.length c0_0] 58 (0, 0))] (fun v M' Γ' => v = .int .i64 r ∧ Γ' = [Blk bo0 (.cells #[.slice A0_0 a0.L.length c0_0] 58 (0, 0))]) := by
  refine con_of_wp Tryd.func37 rfl Tryd.ntmps37 Tryd.results37 rfl ?_
  intro w F rn S hrn
  have E := Ext.refl w
  have HM := Hp.le_refl M
  have H := h
  unfold ferrymanref08_Writers_High_PR at H
  refine Wp_seq ?_
  refine Wp_region_lit ?_
  refine W_v (.int .i64 0) (x_assign rfl) rfl ?_
  refine Wl_nil ?_
  refine tn ?_
  refine Wp_seq ?_
  refine Wp_region_lit ?_
  refine W_v (.pointer (some ⟨bo0, 0, none⟩)) (x_move rfl) rfl ?_
  refine W_v (.pointer (some ⟨bo0, 0, none⟩)) (x_nilptr rfl) rfl ?_
  refine W_v (.pointer (some ⟨bo0, 0, none⟩)) (x_fieldAddr (o := 0) (off := 0) Tryd.underlying58 rfl ty56 rfl rfl) rfl ?_
  refine W_v (.slice A0_0 a0.L.length c0_0) (x_load (S.blk 0 rfl) ty56 rfl rfl) rfl ?_
  refine W_v (.int .i64 (a0.L.length : Int)) (x_len_slice (n := a0.L.length) Tryd.underlying56 rfl) rfl ?_
  refine W_v (.int .i64 (IntKind.i64.wrap ((a0.L.length : Int) + (1 : Int)))) (x_ibin rfl rfl rfl rfl) rfl ?_
  refine W_v (.int .i64 (IntKind.i64.wrap ((a0.L.length : Int) + (1 : Int)))) (x_assign rfl) rfl ?_
  refine Wl_nil ?_
  refine tn ?_
  refine Wp_ret ?_
  obtain rfl := Option.some.inj H
  exact ⟨_, _, _, fun w1 e1 => run_resR (vs := [.int .i64 (IntKind.i64.wrap ((a0.L.length : Int) + (1 : Int)))]) (FA.cons (rfl) (FA.nil)), HM, E, S.pick [0] (by decide), ⟨rfl, rfl⟩⟩
/-! ### (*ferryman/ferrymanref08.Writers).Active: function 38 -/
def ferrymanref08_Writers_Active_PR_l0 (a0 : ferrymanref08_Writers) : Nat → Int → Int → Option ((Int))
  | 0, _, _ => none
  | k + 1, x73, x74 => (if (decide (x74 < (a0.L.length : Int))) = true then (Option.bind (α := Int) (if 0 ≤ x74 ∧ x74 < (a0.L.length : Int) then (Option.bind (α := Int) (if ((rd a0.L x74).State == (1 : Int)) = true then some ((IntKind.i64.wrap (x73 + (1 : Int)))) else some (x73)) (fun x141 => some (x141))) else none) (fun x128 => ferrymanref08_Writers_Active_PR_l0 a0 k x128 (IntKind.i64.wrap (x74 + (1 : Int))))) else some (x73))
set_option maxHeartbeats 2000000 in
theorem ferrymanref08_Writers_Active_PR_l0.mono {a0 : ferrymanref08_Writers} : ∀ {k : Nat} {x0 x1}, OLe (ferrymanref08_Writers_Active_PR_l0 a0 k x0 x1) (ferrymanref08_Writers_Active_PR_l0 a0 (k + 1) x0 x1) := by
  intro k
  induction k with
  | zero => intros; exact OLe.none
  | succ k ih =>
    intros
    rw [ferrymanref08_Writers_Active_PR_l0.eq_2, ferrymanref08_Writers_Active_PR_l0.eq_2]
    repeat' (first | with_reducible exact OLe.none | with_reducible exact OLe.some | with_reducible refine OLe.ite ?_ ?_ | with_reducible refine OLe.bind ?_ (fun _ => ?_) | exact ih | refine OLe.bind ?_ (fun _ => ?_) | refine OLe.ite ?_ ?_ | refine OLe.elim (fun _ => ?_) (fun _ => ?_) | split)
def ferrymanref08_Writers_Active_PR (k : Nat) (a0 : ferrymanref08_Writers) : Option (Int) :=
  (Option.bind (ferrymanref08_Writers_Active_PR_l0 a0 k (0 : Int) (0 : Int)) (fun x109 => some x109))
set_option maxHeartbeats 2000000 in
theorem ferrymanref08_Writers_Active_PR.mono {k : Nat} {a0 : ferrymanref08_Writers} : OLe (ferrymanref08_Writers_Active_PR k a0) (ferrymanref08_Writers_Active_PR (k + 1) a0) := by
  unfold ferrymanref08_Writers_Active_PR
  repeat' (first | with_reducible exact OLe.none | with_reducible exact OLe.some | with_reducible refine OLe.ite ?_ ?_ | with_reducible refine OLe.bind ?_ (fun _ => ?_) | with_reducible exact ferrymanref08_Writers_Active_PR_l0.mono | refine OLe.bind ?_ (fun _ => ?_) | refine OLe.ite ?_ ?_ | refine OLe.elim (fun _ => ?_) (fun _ => ?_) | split)
set_option maxHeartbeats 1000000 in
set_option maxRecDepth 100000 in
theorem ferrymanref08_Writers_Active_PR.con (k : Nat) (M : Hp) (A0_0 : Option Addr) (c0_0 : Nat) (a0 : ferrymanref08_Writers) (bo0 : Nat) (r : Int) (hr0_0 : SlR r_ferrymanref08_Writer M (.slice A0_0 a0.L.length c0_0) a0.L) (hg0 : ∃ gt fr, M 0 = some (.cells #[.int .u8 0, .int .u8 0, .int .u8 1, .int .u8 1, .int .u8 2] gt fr)) (h : ferrymanref08_Writers_Active_PR k a0 = some r) : Con Tryd.prog 38 #[.pointer (some ⟨bo0, 0, none⟩)] M [Blk bo0 (.cells #[.slice A0_0 a0.L.length c0_0] 58 (0, 0))] (fun v M' Γ' => v = .int .i64 r ∧ Γ' = [Blk bo0 (.cells #[.slice A0_0 a0.L.length c0_0] 58 (0, 0))]) := by
  refine con_of_wp Tryd.func38 rfl Tryd.ntmps38 Tryd.results38 rfl ?_
  intro w F rn S hrn
  have E := Ext.refl w
  have HM := Hp.le_refl M
  have H := h
  unfold ferrymanref08_Writers_Active_PR at H
  refine Wp_seq ?_
  refine Wp_region_lit ?_
  refine W_v (.int .i64 0) (x_assign rfl) rfl ?_
  refine Wl_nil ?_
  refine tn ?_
  refine Wp_seq ?_
  refine Wp_region_lit ?_
  refine W_v (.int .i64 0) (x_assign rfl) rfl ?_
  refine Wl_nil ?_
  refine tn ?_
  refine Wp_seq ?_
  refine Wp_seq ?_
  refine Wp_region_lit ?_
  refine W_v (.int .i64 0) (x_assign rfl) rfl ?_
  refine Wl_nil ?_
  refine tn ?_
  obtain ⟨o110, o110h, o110H⟩ := bindS H
  clear H
  refine Wp_blockJ (fun ρ w' => ∃ (x109 : Int), (x109) = o110 ∧ Agree ρ [(3, .int .i64 x109)] ∧ Ext w w' ∧ St w' M F [Blk bo0 (.cells #[.slice A0_0 a0.L.length c0_0] 58 (0, 0))]) ?_ ?_
  · skip
    refine Wp_loop (fun n ρ w' => ∃ (x73 : Int) (x74 : Int), ferrymanref08_Writers_Active_PR_l0 a0 n x73 x74 = some o110 ∧ Agree ρ [(0, .pointer (some ⟨bo0, 0, none⟩)), (3, .int .i64 x73), (4, .int .i64 x74)] ∧ Ext w w' ∧ St w' M F [Blk bo0 (.cells #[.slice A0_0 a0.L.length c0_0] 58 (0, 0))]) k ?_ ?_
    · skip
      exact ⟨(0 : Int), (0 : Int), o110h, ⟨rfl, rfl, rfl, trivial⟩, E, S.pick [0] (by decide)⟩
    · intro n
      rintro ρ w111 ⟨x73, x74, H, hρ, E, S⟩
      rw [agree_eta hρ]
      clear hρ
      cases n with
      | zero => cases H
      | succ k =>
        rw [ferrymanref08_Writers_Active_PR_l0.eq_2] at H
        refine Wp_seq ?_
        refine Wp_seq ?_
        refine Wp_region_lit ?_
        refine W_v (.int .i64 x74) (x_move rfl) rfl ?_
        refine W_v (.pointer (some ⟨bo0, 0, none⟩)) (x_move rfl) rfl ?_
        refine W_v (.pointer (some ⟨bo0, 0, none⟩)) (x_nilptr rfl) rfl ?_
        refine W_v (.pointer (some ⟨bo0, 0, none⟩)) (x_fieldAddr (o := 0) (off := 0) Tryd.underlying58 rfl ty56 rfl rfl) rfl ?_
        refine W_v (.slice A0_0 a0.L.length c0_0) (x_load (S.blk 0 rfl) ty56 rfl rfl) rfl ?_
        refine W_v (.int .i64 (a0.L.length : Int)) (x_len_slice (n := a0.L.length) Tryd.underlying56 rfl) rfl ?_
        refine W_v (.bool (decide (x74 < (a0.L.length : Int)))) (x_ibin rfl rfl rfl rfl) rfl ?_
        refine Wl_nil ?_
        refine tn ?_
        rcases iteS H with ⟨hb112, H⟩ | ⟨hb112, H⟩
        · refine Wp_cond_true (congrArg Value.bool hb112) ?_
          refine Wp_skip ?_
          refine tn ?_
          refine Wp_seq ?_
          obtain ⟨o129, o129h, o129H⟩ := bindS H
          refine Wp_cut (fun ρ w' => ∃ (x128 : Int), (x128) = o129 ∧ Agree ρ [(0, .pointer (some ⟨bo0, 0, none⟩)), (3, .int .i64 x128), (4, .int .i64 x74)] ∧ Ext w w' ∧ St w' M F [Blk bo0 (.cells #[.slice A0_0 a0.L.length c0_0] 58 (0, 0))]) ?_ ?_
          · clear o129H
            have H := o129h
            clear o129h
            refine Wp_block ?_
            refine Wp_seq ?_
            refine Wp_region_lit ?_
            refine W_v (.pointer (some ⟨bo0, 0, none⟩)) (x_move rfl) rfl ?_
            refine W_v (.pointer (some ⟨bo0, 0, none⟩)) (x_nilptr rfl) rfl ?_
            refine W_v (.pointer (some ⟨bo0, 0, none⟩)) (x_fieldAddr (o := 0) (off := 0) Tryd.underlying58 rfl ty56 rfl rfl) rfl ?_
            refine W_v (.slice A0_0 a0.L.length c0_0) (x_load (S.blk 0 rfl) ty56 rfl rfl) rfl ?_
            refine W_v (.int .i64 x74) (x_move rfl) rfl ?_
            obtain ⟨⟨p130, p131⟩, H⟩ := chkS H
            obtain ⟨b132, o133, cs134, _, _, ee139, hb135, vs136, hR137, hc138⟩ := SlW.at' hr0_0 p130 p131
            obtain rfl : vs136 = _ := hR137
            refine W_v (.pointer (some ⟨b132, o133 + x74.toNat * 2, none⟩)) (x_indexAddr Tryd.underlying56 ty60 (slA ee139) rfl p130 p131) rfl ?_
            refine W_v (.pointer (some ⟨b132, o133 + x74.toNat * 2, none⟩)) (x_fieldAddr (o := o133 + x74.toNat * 2) (off := 0) Tryd.underlying60 rfl ty5 rfl rfl) rfl ?_
            refine W_v (.int .u8 ((rd a0.L x74).State)) (x_load (S.frz hb135) ty5 rfl (hc138 0 _ rfl)) rfl ?_
            refine W_v (.bool ((rd a0.L x74).State == (1 : Int))) (x_ibin rfl rfl rfl rfl) rfl ?_
            refine Wl_nil ?_
            refine tn ?_
            obtain ⟨o142, o142h, o142H⟩ := bindS H
            refine Wp_cut (fun ρ w' => ∃ (x141 : Int), (x141) = o142 ∧ Agree ρ [(0, .pointer (some ⟨bo0, 0, none⟩)), (3, .int .i64 x141), (4, .int .i64 x74)] ∧ Ext w w' ∧ St w' M F [Blk bo0 (.cells #[.slice A0_0 a0.L.length c0_0] 58 (0, 0))]) ?_ ?_
            · clear o142H
              have H := o142h
              clear o142h
              rcases iteS H with ⟨hb143, H⟩ | ⟨hb143, H⟩
              · refine Wp_cond_true (congrArg Value.bool hb143) ?_
                refine Wp_region_lit ?_
                refine W_v (.int .i64 x73) (x_move rfl) rfl ?_
                refine W_v (.int .i64 (IntKind.i64.wrap (x73 + (1 : Int)))) (x_ibin rfl rfl rfl rfl) rfl ?_
                refine W_v (.int .i64 (IntKind.i64.wrap (x73 + (1 : Int)))) (x_assign rfl) rfl ?_
                refine Wl_nil ?_
                refine tn ?_
                exact ⟨(IntKind.i64.wrap (x73 + (1 : Int))), Option.some.inj H, ⟨rfl, rfl, rfl, trivial⟩, E, S.pick [0] (by decide)⟩
              refine Wp_cond_false (congrArg Value.bool hb143) ?_
              refine Wp_skip ?_
              refine tn ?_
              exact ⟨x73, Option.some.inj H, ⟨rfl, rfl, rfl, trivial⟩, E, S.pick [0] (by decide)⟩
            clear o142h
            rintro ρ w144 ⟨x141, rfl, hρ, E, S⟩
            rw [agree_eta hρ]
            clear hρ
            have H := o142H
            clear o142H
            refine bn ?_
            refine tn ?_
            exact ⟨x141, Option.some.inj H, ⟨rfl, rfl, rfl, trivial⟩, E, S.pick [0] (by decide)⟩
          clear o129h
          rintro ρ w145 ⟨x128, rfl, hρ, E, S⟩
          rw [agree_eta hρ]
          clear hρ
          have H := o129H
          clear o129H
          refine tn ?_
          refine Wp_region_lit ?_
          refine W_v (.int .i64 x74) (x_move rfl) rfl ?_
          refine W_v (.int .i64 (IntKind.i64.wrap (x74 + (1 : Int)))) (x_ibin rfl rfl rfl rfl) rfl ?_
          refine W_v (.int .i64 (IntKind.i64.wrap (x74 + (1 : Int)))) (x_assign rfl) rfl ?_
          refine Wl_nil ?_
          refine tn ?_
          exact ⟨k, Nat.lt_succ_self k, ⟨x128, (IntKind.i64.wrap (x74 + (1 : Int))), H, ⟨rfl, rfl, rfl, trivial⟩, E, S.pick [0] (by decide)⟩⟩
        refine Wp_cond_false (congrArg Value.bool hb112) ?_
        refine Wp_exit ?_
        refine tx (tx (bsm (?_)))
        refine tn ?_
        exact ⟨x73, Option.some.inj H, ⟨rfl, trivial⟩, E, S.pick [0] (by decide)⟩
  clear o110h
  rintro ρ w146 ⟨x109, rfl, hρ, E, S⟩
  rw [agree_eta hρ]
  clear hρ
  have H := o110H
  clear o110H
  refine tn ?_
  refine Wp_seq ?_
  refine Wp_region_lit ?_
  refine W_v (.int .i64 x109) (x_move rfl) rfl ?_
  refine W_v (.int .i64 x109) (x_assign rfl) rfl ?_
  refine Wl_nil ?_
  refine tn ?_
  refine Wp_ret ?_
  obtain rfl := Option.some.inj H
  exact ⟨_, _, _, fun w1 e1 => run_resR (vs := [.int .i64 x109]) (FA.cons (rfl) (FA.nil)), HM, E, S.pick [0] (by decide), ⟨rfl, rfl⟩⟩
/-! ### (*ferryman/ferrymanref08.Writers).Busy: function 39 -/
def ferrymanref08_Writers_Busy_PR_l0 (a0 : ferrymanref08_Writers) : Nat → List Int → Int → Option ((List Int))
  | 0, _, _ => none
  | k + 1, x327, x331 => (if (decide (x331 < (a0.L.length : Int))) = true then (Option.bind (α := List Int) (if 0 ≤ x331 ∧ x331 < (a0.L.length : Int) then (Option.bind (α := Bool) (if ((rd a0.L x331).State == (1 : Int)) = true then some (true) else (if 0 ≤ x331 ∧ x331 < (a0.L.length : Int) then some (((rd a0.L x331).State == (2 : Int))) else none)) (fun x605 => (Option.bind (α := List Int) (if x605 = true then (if x327.length + ([(IntKind.i64.wrap (x331 + (1 : Int)))] : List Int).length ≤ 17592186044416 then some ((x327 ++ ([(IntKind.i64.wrap (x331 + (1 : Int)))] : List Int))) else none) else some (x327)) (fun x630 => some (x630))))) else none) (fun x569 => ferrymanref08_Writers_Busy_PR_l0 a0 k x569 (IntKind.i64.wrap (x331 + (1 : Int))))) else some (x327))
set_option maxHeartbeats 2000000 in
theorem ferrymanref08_Writers_Busy_PR_l0.mono {a0 : ferrymanref08_Writers} : ∀ {k : Nat} {x0 x1}, OLe (ferrymanref08_Writers_Busy_PR_l0 a0 k x0 x1) (ferrymanref08_Writers_Busy_PR_l0 a0 (k + 1) x0 x1) := by
  intro k
  induction k with
  | zero => intros; exact OLe.none
  | succ k ih =>
    intros
    rw [ferrymanref08_Writers_Busy_PR_l0.eq_2, ferrymanref08_Writers_Busy_PR_l0.eq_2]
    repeat' (first | with_reducible exact OLe.none | with_reducible exact OLe.some | with_reducible refine OLe.ite ?_ ?_ | with_reducible refine OLe.bind ?_ (fun _ => ?_) | exact ih | refine OLe.bind ?_ (fun _ => ?_) | refine OLe.ite ?_ ?_ | refine OLe.elim (fun _ => ?_) (fun _ => ?_) | split)
def ferrymanref08_Writers_Busy_PR (k : Nat) (a0 : ferrymanref08_Writers) : Option ((List Int)) :=
  (Option.bind (ferrymanref08_Writers_Busy_PR_l0 a0 k ([] : List Int) (0 : Int)) (fun x487 => some x487))
set_option maxHeartbeats 2000000 in
theorem ferrymanref08_Writers_Busy_PR.mono {k : Nat} {a0 : ferrymanref08_Writers} : OLe (ferrymanref08_Writers_Busy_PR k a0) (ferrymanref08_Writers_Busy_PR (k + 1) a0) := by
  unfold ferrymanref08_Writers_Busy_PR
  repeat' (first | with_reducible exact OLe.none | with_reducible exact OLe.some | with_reducible refine OLe.ite ?_ ?_ | with_reducible refine OLe.bind ?_ (fun _ => ?_) | with_reducible exact ferrymanref08_Writers_Busy_PR_l0.mono | refine OLe.bind ?_ (fun _ => ?_) | refine OLe.ite ?_ ?_ | refine OLe.elim (fun _ => ?_) (fun _ => ?_) | split)
set_option maxHeartbeats 1000000 in
set_option maxRecDepth 100000 in
theorem ferrymanref08_Writers_Busy_PR.con (k : Nat) (M : Hp) (A0_0 : Option Addr) (c0_0 : Nat) (a0 : ferrymanref08_Writers) (bo0 : Nat) (r : (List Int)) (hr0_0 : SlR r_ferrymanref08_Writer M (.slice A0_0 a0.L.length c0_0) a0.L) (hg0 : ∃ gt fr, M 0 = some (.cells #[.int .u8 0, .int .u8 0, .int .u8 1, .int .u8 1, .int .u8 2] gt fr)) (h : ferrymanref08_Writers_Busy_PR k a0 = some r) : Con Tryd.prog 39 #[.pointer (some ⟨bo0, 0, none⟩)] M [Blk bo0 (.cells #[.slice A0_0 a0.L.length c0_0] 58 (0, 0))] (fun v M' Γ' => ∃ (Aq1 : Option Addr) (cq2 : Nat), v = .slice Aq1 r.length cq2 ∧ Γ' = [Row (rInt .i64) 3 (.slice Aq1 r.length cq2) r, Blk bo0 (.cells #[.slice A0_0 a0.L.length c0_0] 58 (0, 0))]) := by
  refine con_of_wp Tryd.func39 rfl Tryd.ntmps39 Tryd.results39 rfl ?_
  intro w F rn S hrn
  have E := Ext.refl w
  have HM := Hp.le_refl M
  have H := h
  unfold ferrymanref08_Writers_Busy_PR at H
  refine Wp_seq ?_
  refine Wp_region_lit ?_
  refine W_v (.slice none 0 0) (x_assign rfl) rfl ?_
  refine Wl_nil ?_
  refine tn ?_
  refine Wp_seq ?_
  refine Wp_region_lit ?_
  refine W_v (.slice none 0 0) (x_assign rfl) rfl ?_
  refine Wl_nil ?_
  refine tn ?_
  refine Wp_seq ?_
  refine Wp_seq ?_
  refine Wp_region_lit ?_
  refine W_v (.int .i64 0) (x_assign rfl) rfl ?_
  refine Wl_nil ?_
  refine tn ?_
  obtain ⟨o491, o491h, o491H⟩ := bindS H
  clear H
  refine Wp_blockJ (fun ρ w' => ∃ (x487 : List Int) (A488 : Option Addr) (c489 : Nat), (x487) = o491 ∧ Agree ρ [(3, .slice A488 x487.length c489)] ∧ Ext w w' ∧ St w' M F [Row (rInt .i64) 3 (.slice A488 x487.length c489) x487, Blk bo0 (.cells #[.slice A0_0 a0.L.length c0_0] 58 (0, 0))]) ?_ ?_
  · skip
    refine Wp_loop (fun n ρ w' => ∃ (x327 : List Int) (x331 : Int) (A328 : Option Addr) (c329 : Nat), ferrymanref08_Writers_Busy_PR_l0 a0 n x327 x331 = some o491 ∧ Agree ρ [(0, .pointer (some ⟨bo0, 0, none⟩)), (3, .slice A328 x327.length c329), (4, .int .i64 x331)] ∧ Ext w w' ∧ St w' M F [Row (rInt .i64) 3 (.slice A328 x327.length c329) x327, Blk bo0 (.cells #[.slice A0_0 a0.L.length c0_0] 58 (0, 0))]) k ?_ ?_
    · skip
      replace S := S.row_nil (rInt .i64) 3
      exact ⟨([] : List Int), (0 : Int), none, 0, o491h, ⟨rfl, rfl, rfl, trivial⟩, E, S.pick [0, 1] (by decide)⟩
    · intro n
      rintro ρ w493 ⟨x327, x331, A328, c329, H, hρ, E, S⟩
      rw [agree_eta hρ]
      clear hρ
      cases n with
      | zero => cases H
      | succ k =>
        rw [ferrymanref08_Writers_Busy_PR_l0.eq_2] at H
        refine Wp_seq ?_
        refine Wp_seq ?_
        refine Wp_region_lit ?_
        refine W_v (.int .i64 x331) (x_move rfl) rfl ?_
        refine W_v (.pointer (some ⟨bo0, 0, none⟩)) (x_move rfl) rfl ?_
        refine W_v (.pointer (some ⟨bo0, 0, none⟩)) (x_nilptr rfl) rfl ?_
        refine W_v (.pointer (some ⟨bo0, 0, none⟩)) (x_fieldAddr (o := 0) (off := 0) Tryd.underlying58 rfl ty56 rfl rfl) rfl ?_
        refine W_v (.slice A0_0 a0.L.length c0_0) (x_load (S.blk 1 rfl) ty56 rfl rfl) rfl ?_
        refine W_v (.int .i64 (a0.L.length : Int)) (x_len_slice (n := a0.L.length) Tryd.underlying56 rfl) rfl ?_
        refine W_v (.bool (decide (x331 < (a0.L.length : Int)))) (x_ibin rfl rfl rfl rfl) rfl ?_
        refine Wl_nil ?_
        refine tn ?_
        rcases iteS H with ⟨hb494, H⟩ | ⟨hb494, H⟩
        · refine Wp_cond_true (congrArg Value.bool hb494) ?_
          refine Wp_skip ?_
          refine tn ?_
          refine Wp_seq ?_
          obtain ⟨o573, o573h, o573H⟩ := bindS H
          refine Wp_cut (fun ρ w' => ∃ (x569 : List Int) (A570 : Option Addr) (c571 : Nat), (x569) = o573 ∧ Agree ρ [(0, .pointer (some ⟨bo0, 0, none⟩)), (3, .slice A570 x569.length c571), (4, .int .i64 x331)] ∧ Ext w w' ∧ St w' M F [Row (rInt .i64) 3 (.slice A570 x569.length c571) x569, Blk bo0 (.cells #[.slice A0_0 a0.L.length c0_0] 58 (0, 0))]) ?_ ?_
          · clear o573H
            have H := o573h
            clear o573h
            refine Wp_block ?_
            refine Wp_seq ?_
            refine Wp_region_lit ?_
            refine W_v (.pointer (some ⟨bo0, 0, none⟩)) (x_move rfl) rfl ?_
            refine W_v (.pointer (some ⟨bo0, 0, none⟩)) (x_nilptr rfl) rfl ?_
            refine W_v (.pointer (some ⟨bo0, 0, none⟩)) (x_fieldAddr (o := 0) (off := 0) Tryd.underlying58 rfl ty56 rfl rfl) rfl ?_
            refine W_v (.slice A0_0 a0.L.length c0_0) (x_load (S.blk 1 rfl) ty56 rfl rfl) rfl ?_
            refine W_v (.int .i64 x331) (x_move rfl) rfl ?_
            obtain ⟨⟨p574, p575⟩, H⟩ := chkS H
            obtain ⟨b576, o577, cs578, _, _, ee583, hb579, vs580, hR581, hc582⟩ := SlW.at' hr0_0 p574 p575
            obtain rfl : vs580 = _ := hR581
            refine W_v (.pointer (some ⟨b576, o577 + x331.toNat * 2, none⟩)) (x_indexAddr Tryd.underlying56 ty60 (slA ee583) rfl p574 p575) rfl ?_
            refine W_v (.pointer (some ⟨b576, o577 + x331.toNat * 2, none⟩)) (x_fieldAddr (o := o577 + x331.toNat * 2) (off := 0) Tryd.underlying60 rfl ty5 rfl rfl) rfl ?_
            refine W_v (.int .u8 ((rd a0.L x331).State)) (x_load (S.frz hb579) ty5 rfl (hc582 0 _ rfl)) rfl ?_
            refine W_v (.bool ((rd a0.L x331).State == (1 : Int))) (x_ibin rfl rfl rfl rfl) rfl ?_
            refine W_v (.bool ((rd a0.L x331).State == (1 : Int))) (x_move rfl) rfl ?_
            obtain ⟨o606, o606h, o606H⟩ := bindS H
            clear H
            refine Wl_cutN 10 (fun ρ w' => ∃ (x605 : Bool), (x605) = o606 ∧ Agree ρ [(0, .pointer (some ⟨bo0, 0, none⟩)), (3, .slice A328 x327.length c329), (4, .int .i64 x331), (33, .bool x605)] ∧ Ext w w' ∧ St w' M F [Row (rInt .i64) 3 (.slice A328 x327.length c329) x327, Blk bo0 (.cells #[.slice A0_0 a0.L.length c0_0] 58 (0, 0))]) ?_ ?_
            · have H := o606h
              rcases iteS H with ⟨hb604, H⟩ | ⟨hb604, H⟩
              · skip
                refine W_no (skF hb604) rfl ?_
                refine W_no (skF hb604) rfl ?_
                refine W_no (skF hb604) rfl ?_
                refine W_no (skF hb604) rfl ?_
                refine W_no (skF hb604) rfl ?_
                refine W_no (skF hb604) rfl ?_
                refine W_no (skF hb604) rfl ?_
                refine W_no (skF hb604) rfl ?_
                refine W_no (skF hb604) rfl ?_
                refine W_v (.bool true) (x_pick (k := true) (congrArg Value.bool hb604) rfl) rfl ?_
                refine Wl_nil ?_
                exact ⟨true, Option.some.inj H, ⟨rfl, rfl, rfl, rfl, trivial⟩, E, S.pick [0, 1] (by decide)⟩
              · skip
                refine W_yes (congrArg some hb604) ?_
                refine W_v (.pointer (some ⟨bo0, 0, none⟩)) (x_move rfl) rfl ?_
                refine W_yes (congrArg some hb604) ?_
                refine W_v (.pointer (some ⟨bo0, 0, none⟩)) (x_nilptr rfl) rfl ?_
                refine W_yes (congrArg some hb604) ?_
                refine W_v (.pointer (some ⟨bo0, 0, none⟩)) (x_fieldAddr (o := 0) (off := 0) Tryd.underlying58 rfl ty56 rfl rfl) rfl ?_
                refine W_yes (congrArg some hb604) ?_
                refine W_v (.slice A0_0 a0.L.length c0_0) (x_load (S.blk 1 rfl) ty56 rfl rfl) rfl ?_
                refine W_yes (congrArg some hb604) ?_
                refine W_v (.int .i64 x331) (x_move rfl) rfl ?_
                refine W_yes (congrArg some hb604) ?_
                obtain ⟨⟨p607, p608⟩, H⟩ := chkS H
                obtain ⟨b609, o610, cs611, _, _, ee616, hb612, vs613, hR614, hc615⟩ := SlW.at' hr0_0 p607 p608
                obtain rfl : vs613 = _ := hR614
                refine W_v (.pointer (some ⟨b609, o610 + x331.toNat * 2, none⟩)) (x_indexAddr Tryd.underlying56 ty60 (slA ee616) rfl p607 p608) rfl ?_
                refine W_yes (congrArg some hb604) ?_
                refine W_v (.pointer (some ⟨b609, o610 + x331.toNat * 2, none⟩)) (x_fieldAddr (o := o610 + x331.toNat * 2) (off := 0) Tryd.underlying60 rfl ty5 rfl rfl) rfl ?_
                refine W_yes (congrArg some hb604) ?_
                refine W_v (.int .u8 ((rd a0.L x331).State)) (x_load (S.frz hb612) ty5 rfl (hc615 0 _ rfl)) rfl ?_
                refine W_yes (congrArg some hb604) ?_
                refine W_v (.bool ((rd a0.L x331).State == (2 : Int))) (x_ibin rfl rfl rfl rfl) rfl ?_
                refine W_v (.bool ((rd a0.L x331).State == (2 : Int))) (x_pick (k := false) (congrArg Value.bool hb604) rfl) rfl ?_
                refine Wl_nil ?_
                exact ⟨((rd a0.L x331).State == (2 : Int)), Option.some.inj H, ⟨rfl, rfl, rfl, rfl, trivial⟩, E, S.pick [0, 1] (by decide)⟩
            clear o606h
            rintro ρ w617 ⟨x605, rfl, hρ, E, S⟩
            rw [agree_eta hρ]
            clear hρ
            have H := o606H
            clear o606H
            refine Wl_nil ?_
            refine tn ?_
            obtain ⟨o634, o634h, o634H⟩ := bindS H
            refine Wp_cut (fun ρ w' => ∃ (x630 : List Int) (A631 : Option Addr) (c632 : Nat), (x630) = o634 ∧ Agree ρ [(0, .pointer (some ⟨bo0, 0, none⟩)), (3, .slice A631 x630.length c632), (4, .int .i64 x331)] ∧ Ext w w' ∧ St w' M F [Row (rInt .i64) 3 (.slice A631 x630.length c632) x630, Blk bo0 (.cells #[.slice A0_0 a0.L.length c0_0] 58 (0, 0))]) ?_ ?_
            · clear o634H
              have H := o634h
              clear o634h
              rcases iteS H with ⟨hb635, H⟩ | ⟨hb635, H⟩
              · refine Wp_cond_true (congrArg Value.bool hb635) ?_
                refine Wp_region_lit ?_
                refine W_v (.slice A328 x327.length c329) (x_move rfl) rfl ?_
                refine W_v (.int .i64 x331) (x_move rfl) rfl ?_
                refine W_v (.int .i64 (IntKind.i64.wrap (x331 + (1 : Int)))) (x_ibin rfl rfl rfl rfl) rfl ?_
                refine W_bslice S #[.int .i64 (IntKind.i64.wrap (x331 + (1 : Int)))] Tryd.underlying32 ty3 rfl rfl #[.int .i64 0] (by kernel_rfl) (by kernel_rfl) rfl ?_
                intro b636 w637 E' S
                replace E := E.trans E'
                clear E'
                replace S := S.blk_row (r := (rInt .i64)) (l := ([(IntKind.i64.wrap (x331 + (1 : Int)))] : List Int)) 0 rfl 1 (Nat.le_refl 1) rfl (Cells.cons (vs := [.int .i64 (IntKind.i64.wrap (x331 + (1 : Int)))]) (rfl) Cells.nil)
                obtain ⟨p639, H⟩ := chkS H
                obtain ⟨src640, hs641, hC642⟩ := src_of_read (P := Tryd.prog) (ρ := (rInt .i64)) (l := ([(IntKind.i64.wrap (x331 + (1 : Int)))] : List Int)) (S.row_read 0 rfl) (by decide)
                refine W_append S 1 rfl rfl rfl Tryd.underlying32 (.inl Tryd.underlying32) ty3 rfl (by decide) (by decide) hs641 hC642 rfl (by omega) rfl ?_
                intro v643 w644 E' S
                replace E := E.trans E'
                clear E'
                obtain ⟨A645, c646, rfl, _⟩ := (S.row_read 1 rfl).form
                refine W_v (.slice A645 (x327 ++ ([(IntKind.i64.wrap (x331 + (1 : Int)))] : List Int)).length c646) (x_assign rfl) rfl ?_
                refine Wl_nil ?_
                refine tn ?_
                exact ⟨(x327 ++ ([(IntKind.i64.wrap (x331 + (1 : Int)))] : List Int)), A645, c646, Option.some.inj H, ⟨rfl, rfl, rfl, trivial⟩, E, S.pick [1, 2] (by decide)⟩
              refine Wp_cond_false (congrArg Value.bool hb635) ?_
              refine Wp_skip ?_
              refine tn ?_
              exact ⟨x327, A328, c329, Option.some.inj H, ⟨rfl, rfl, rfl, trivial⟩, E, S.pick [0, 1] (by decide)⟩
            clear o634h
            rintro ρ w647 ⟨x630, A631, c632, rfl, hρ, E, S⟩
            rw [agree_eta hρ]
            clear hρ
            have H := o634H
            clear o634H
            refine bn ?_
            refine tn ?_
            exact ⟨x630, A631, c632, Option.some.inj H, ⟨rfl, rfl, rfl, trivial⟩, E, S.pick [0, 1] (by decide)⟩
          clear o573h
          rintro ρ w648 ⟨x569, A570, c571, rfl, hρ, E, S⟩
          rw [agree_eta hρ]
          clear hρ
          have H := o573H
          clear o573H
          refine tn ?_
          refine Wp_region_lit ?_
          refine W_v (.int .i64 x331) (x_move rfl) rfl ?_
          refine W_v (.int .i64 (IntKind.i64.wrap (x331 + (1 : Int)))) (x_ibin rfl rfl rfl rfl) rfl ?_
          refine W_v (.int .i64 (IntKind.i64.wrap (x331 + (1 : Int)))) (x_assign rfl) rfl ?_
          refine Wl_nil ?_
          refine tn ?_
          exact ⟨k, Nat.lt_succ_self k, ⟨x569, (IntKind.i64.wrap (x331 + (1 : Int))), A570, c571, H, ⟨rfl, rfl, rfl, trivial⟩, E, S.pick [0, 1] (by decide)⟩⟩
        refine Wp_cond_false (congrArg Value.bool hb494) ?_
        refine Wp_exit ?_
        refine tx (tx (bsm (?_)))
        refine tn ?_
        exact ⟨x327, A328, c329, Option.some.inj H, ⟨rfl, trivial⟩, E, S.pick [0, 1] (by decide)⟩
  clear o491h
  rintro ρ w649 ⟨x487, A488, c489, rfl, hρ, E, S⟩
  rw [agree_eta hρ]
  clear hρ
  have H := o491H
  clear o491H
  refine tn ?_
  refine Wp_seq ?_
  refine Wp_region_lit ?_
  refine W_v (.slice A488 x487.length c489) (x_move rfl) rfl ?_
  refine W_v (.slice A488 x487.length c489) (x_assign rfl) rfl ?_
  refine Wl_nil ?_
  refine tn ?_
  refine Wp_ret ?_
  obtain rfl := Option.some.inj H
  exact ⟨_, _, _, fun w1 e1 => run_resR (vs := [.slice A488 x487.length c489]) (FA.cons (rfl) (FA.nil)), HM, E, S.pick [0, 1] (by decide), ⟨A488, c489, rfl, rfl⟩⟩
/-! ### (*ferryman/ferrymanref08.Writers).Of: function 40 -/
def ferrymanref08_Writers_Of_PR (k : Nat) (a0 : ferrymanref08_Writers) (a1 : Int) : Option (Int × Int) :=
  (if ((decide (a1 < (1 : Int))) || (decide (a1 > (a0.L.length : Int)))) = true then some ((0 : Int), (0 : Int)) else (if 0 ≤ (IntKind.i64.wrap (a1 - (1 : Int))) ∧ (IntKind.i64.wrap (a1 - (1 : Int))) < (a0.L.length : Int) then (if 0 ≤ (IntKind.i64.wrap (a1 - (1 : Int))) ∧ (IntKind.i64.wrap (a1 - (1 : Int))) < (a0.L.length : Int) then some ((rd a0.L (IntKind.i64.wrap (a1 - (1 : Int)))).State, (rd a0.L (IntKind.i64.wrap (a1 - (1 : Int)))).TS) else none) else none))
set_option maxHeartbeats 2000000 in
theorem ferrymanref08_Writers_Of_PR.mono {k : Nat} {a0 : ferrymanref08_Writers} {a1 : Int} : OLe (ferrymanref08_Writers_Of_PR k a0 a1) (ferrymanref08_Writers_Of_PR (k + 1) a0 a1) := by
  unfold ferrymanref08_Writers_Of_PR
  repeat' (first | with_reducible exact OLe.none | with_reducible exact OLe.some | with_reducible refine OLe.ite ?_ ?_ | with_reducible refine OLe.bind ?_ (fun _ => ?_) | refine OLe.bind ?_ (fun _ => ?_) | refine OLe.ite ?_ ?_ | refine OLe.elim (fun _ => ?_) (fun _ => ?_) | split)
set_option maxHeartbeats 1000000 in
set_option maxRecDepth 100000 in
theorem ferrymanref08_Writers_Of_PR.con (k : Nat) (M : Hp) (A0_0 : Option Addr) (c0_0 : Nat) (a0 : ferrymanref08_Writers) (a1 : Int) (bo0 : Nat) (r : Int × Int) (hr0_0 : SlR r_ferrymanref08_Writer M (.slice A0_0 a0.L.length c0_0) a0.L) (hg0 : ∃ gt fr, M 0 = some (.cells #[.int .u8 0, .int .u8 0, .int .u8 1, .int .u8 1, .int .u8 2] gt fr)) (h : ferrymanref08_Writers_Of_PR k a0 a1 = some r) : Con Tryd.prog 40 #[.pointer (some ⟨bo0, 0, none⟩), .int .i64 a1] M [Blk bo0 (.cells #[.slice A0_0 a0.L.length c0_0] 58 (0, 0))] (fun v M' Γ' => v = .tuple #[.int .u8 r.1, .int .i64 r.2] ∧ Γ' = [Blk bo0 (.cells #[.slice A0_0 a0.L.length c0_0] 58 (0, 0))]) := by
  refine con_of_wp Tryd.func40 rfl Tryd.ntmps40 Tryd.results40 rfl ?_
  intro w F rn S hrn
  have E := Ext.refl w
  have HM := Hp.le_refl M
  have H := h
  unfold ferrymanref08_Writers_Of_PR at H
  refine Wp_seq ?_
  refine Wp_region_lit ?_
  refine W_v (.int .u8 0) (x_assign rfl) rfl ?_
  refine W_v (.int .i64 0) (x_assign rfl) rfl ?_
  refine Wl_nil ?_
  refine tn ?_
  refine Wp_seq ?_
  refine Wp_seq ?_
  refine Wp_region_lit ?_
  refine W_v (.int .i64 a1) (x_move rfl) rfl ?_
  refine W_v (.bool (decide (a1 < (1 : Int)))) (x_ibin rfl rfl rfl rfl) rfl ?_
  refine W_v (.bool (decide (a1 < (1 : Int)))) (x_move rfl) rfl ?_
  refine Wl_cutN 8 (fun ρ w' => Agree ρ [(0, .pointer (some ⟨bo0, 0, none⟩)), (1, .int .i64 a1), (16, .bool ((decide (a1 < (1 : Int))) || (decide (a1 > (a0.L.length : Int)))))] ∧ w = w') ?_ ?_
  · rcases boolCases (decide (a1 < (1 : Int))) with hb1 | hb1
    · skip
      refine W_yes (congrArg some hb1) ?_
      refine W_v (.int .i64 a1) (x_move rfl) rfl ?_
      refine W_yes (congrArg some hb1) ?_
      refine W_v (.pointer (some ⟨bo0, 0, none⟩)) (x_move rfl) rfl ?_
      refine W_yes (congrArg some hb1) ?_
      refine W_v (.pointer (some ⟨bo0, 0, none⟩)) (x_nilptr rfl) rfl ?_
      refine W_yes (congrArg some hb1) ?_
      refine W_v (.pointer (some ⟨bo0, 0, none⟩)) (x_fieldAddr (o := 0) (off := 0) Tryd.underlying58 rfl ty56 rfl rfl) rfl ?_
      refine W_yes (congrArg some hb1) ?_
      refine W_v (.slice A0_0 a0.L.length c0_0) (x_load (S.blk 0 rfl) ty56 rfl rfl) rfl ?_
      refine W_yes (congrArg some hb1) ?_
      refine W_v (.int .i64 (a0.L.length : Int)) (x_len_slice (n := a0.L.length) Tryd.underlying56 rfl) rfl ?_
      refine W_yes (congrArg some hb1) ?_
      refine W_v (.bool (decide (a1 > (a0.L.length : Int)))) (x_ibin rfl rfl rfl rfl) rfl ?_
      refine W_v (.bool (decide (a1 > (a0.L.length : Int)))) (x_pick (k := false) (congrArg Value.bool hb1) rfl) rfl ?_
      refine Wl_nil ?_
      exact ⟨⟨rfl, rfl, (by first | rfl | (rw [hb1]; rfl) | (simp only [hb1]; rfl)), trivial⟩, rfl⟩
    · skip
      refine W_no (skF hb1) rfl ?_
      refine W_no (skF hb1) rfl ?_
      refine W_no (skF hb1) rfl ?_
      refine W_no (skF hb1) rfl ?_
      refine W_no (skF hb1) rfl ?_
      refine W_no (skF hb1) rfl ?_
      refine W_no (skF hb1) rfl ?_
      refine W_v (.bool true) (x_pick (k := true) (congrArg Value.bool hb1) rfl) rfl ?_
      refine Wl_nil ?_
      exact ⟨⟨rfl, rfl, (by first | rfl | (rw [hb1]; rfl) | (simp only [hb1]; rfl)), trivial⟩, rfl⟩
  rintro ρ _ ⟨hρ, rfl⟩
  rw [agree_eta hρ]
  clear hρ
  refine Wl_nil ?_
  refine tn ?_
  rcases iteS H with ⟨hb2, H⟩ | ⟨hb2, H⟩
  · refine Wp_cond_true (congrArg Value.bool hb2) ?_
    refine Wp_seq ?_
    refine Wp_region_lit ?_
    refine W_v (.int .u8 0) (x_assign rfl) rfl ?_
    refine W_v (.int .i64 0) (x_assign rfl) rfl ?_
    refine Wl_nil ?_
    refine tn ?_
    refine Wp_ret ?_
    refine tr (?_)
    obtain rfl := Option.some.inj H
    exact ⟨_, _, _, fun w1 e1 => run_resR (vs := [.int .u8 0, .int .i64 0]) (FA.cons (rfl) (FA.cons (rfl) (FA.nil))), HM, E, S.pick [0] (by decide), ⟨rfl, rfl⟩⟩
  refine Wp_cond_false (congrArg Value.bool hb2) ?_
  refine Wp_skip ?_
  refine tn ?_
  refine Wp_seq ?_
  refine Wp_region_any (S := fun w' => ∃ Mx, M.le Mx ∧ St w' Mx F [Blk bo0 (.cells #[.slice A0_0 a0.L.length c0_0] 58 (0, 0))]) mixed ?_
  intro w23 hw24 E'
  replace S := S.heap hw24
  replace E := E.trans E'
  clear E'
  refine Wa_take (i := 0) rfl (by kernel_rfl) rfl rfl (.pointer (some ⟨bo0, 0, none⟩)) rfl (fun w' h' => x_move rfl) (⟨M, Hp.le_refl M, S.pick [0] (by decide)⟩) ?_
  refine Wa_take (i := 1) rfl (by kernel_rfl) rfl rfl (.pointer (some ⟨bo0, 0, none⟩)) rfl (fun w' h' => x_nilptr rfl) (⟨M, Hp.le_refl M, S.pick [0] (by decide)⟩) ?_
  refine Wa_take (i := 2) rfl (by kernel_rfl) rfl rfl (.pointer (some ⟨bo0, 0, none⟩)) rfl (fun w' h' => x_fieldAddr (o := 0) (off := 0) Tryd.underlying58 rfl ty56 rfl rfl) (⟨M, Hp.le_refl M, S.pick [0] (by decide)⟩) ?_
  refine Wa_take (i := 3) rfl (by kernel_rfl) rfl rfl (.slice A0_0 a0.L.length c0_0) rfl (fun w' h' => x_load (cls_blk h' 0 rfl) ty56 rfl rfl) (⟨M, Hp.le_refl M, S.pick [0] (by decide)⟩) ?_
  refine Wa_take (i := 4) rfl (by kernel_rfl) rfl rfl (.int .i64 a1) rfl (fun w' h' => x_move rfl) (⟨M, Hp.le_refl M, S.pick [0] (by decide)⟩) ?_
  refine Wa_take (i := 5) rfl (by kernel_rfl) rfl rfl (.int .i64 (IntKind.i64.wrap (a1 - (1 : Int)))) rfl (fun w' h' => x_ibin rfl rfl rfl rfl) (⟨M, Hp.le_refl M, S.pick [0] (by decide)⟩) ?_
  obtain ⟨⟨p25, p26⟩, H⟩ := chkS H
  obtain ⟨b27, o28, cs29, _, _, ee34, hb30, vs31, hR32, hc33⟩ := SlW.at' hr0_0 p25 p26
  obtain rfl : vs31 = _ := hR32
  refine Wa_take (i := 6) rfl (by kernel_rfl) rfl rfl (.pointer (some ⟨b27, o28 + (IntKind.i64.wrap (a1 - (1 : Int))).toNat * 2, none⟩)) rfl (fun w' h' => x_indexAddr Tryd.underlying56 ty60 (slA ee34) rfl p25 p26) (⟨M, Hp.le_refl M, S.pick [0] (by decide)⟩) ?_
  refine Wa_take (i := 7) rfl (by kernel_rfl) rfl rfl (.pointer (some ⟨b27, o28 + (IntKind.i64.wrap (a1 - (1 : Int))).toNat * 2, none⟩)) rfl (fun w' h' => x_fieldAddr (o := o28 + (IntKind.i64.wrap (a1 - (1 : Int))).toNat * 2) (off := 0) Tryd.underlying60 rfl ty5 rfl rfl) (⟨M, Hp.le_refl M, S.pick [0] (by decide)⟩) ?_
  refine Wa_take (i := 8) rfl (by kernel_rfl) rfl rfl (.int .u8 ((rd a0.L (IntKind.i64.wrap (a1 - (1 : Int)))).State)) rfl (fun w' h' => x_load (cls_frz h' hb30) ty5 rfl (hc33 0 _ rfl)) (⟨M, Hp.le_refl M, S.pick [0] (by decide)⟩) ?_
  refine Wa_take (i := 9) rfl (by kernel_rfl) rfl rfl (.pointer (some ⟨bo0, 0, none⟩)) rfl (fun w' h' => x_move rfl) (⟨M, Hp.le_refl M, S.pick [0] (by decide)⟩) ?_
  refine Wa_take (i := 10) rfl (by kernel_rfl) rfl rfl (.pointer (some ⟨bo0, 0, none⟩)) rfl (fun w' h' => x_nilptr rfl) (⟨M, Hp.le_refl M, S.pick [0] (by decide)⟩) ?_
  refine Wa_take (i := 11) rfl (by kernel_rfl) rfl rfl (.pointer (some ⟨bo0, 0, none⟩)) rfl (fun w' h' => x_fieldAddr (o := 0) (off := 0) Tryd.underlying58 rfl ty56 rfl rfl) (⟨M, Hp.le_refl M, S.pick [0] (by decide)⟩) ?_
  refine Wa_take (i := 12) rfl (by kernel_rfl) rfl rfl (.slice A0_0 a0.L.length c0_0) rfl (fun w' h' => x_load (cls_blk h' 0 rfl) ty56 rfl rfl) (⟨M, Hp.le_refl M, S.pick [0] (by decide)⟩) ?_
  refine Wa_take (i := 13) rfl (by kernel_rfl) rfl rfl (.int .i64 a1) rfl (fun w' h' => x_move rfl) (⟨M, Hp.le_refl M, S.pick [0] (by decide)⟩) ?_
  refine Wa_take (i := 14) rfl (by kernel_rfl) rfl rfl (.int .i64 (IntKind.i64.wrap (a1 - (1 : Int)))) rfl (fun w' h' => x_ibin rfl rfl rfl rfl) (⟨M, Hp.le_refl M, S.pick [0] (by decide)⟩) ?_
  obtain ⟨⟨p35, p36⟩, H⟩ := chkS H
  obtain ⟨b37, o38, cs39, _, _, ee44, hb40, vs41, hR42, hc43⟩ := SlW.at' hr0_0 p35 p36
  obtain rfl : vs41 = _ := hR42
  refine Wa_take (i := 15) rfl (by kernel_rfl) rfl rfl (.pointer (some ⟨b37, o38 + (IntKind.i64.wrap (a1 - (1 : Int))).toNat * 2, none⟩)) rfl (fun w' h' => x_indexAddr Tryd.underlying56 ty60 (slA ee44) rfl p35 p36) (⟨M, Hp.le_refl M, S.pick [0] (by decide)⟩) ?_
  refine Wa_take (i := 16) rfl (by kernel_rfl) rfl rfl (.pointer (some ⟨b37, o38 + (IntKind.i64.wrap (a1 - (1 : Int))).toNat * 2 + 1, none⟩)) rfl (fun w' h' => x_fieldAddr (o := o38 + (IntKind.i64.wrap (a1 - (1 : Int))).toNat * 2) (off := 1) Tryd.underlying60 rfl ty3 rfl rfl) (⟨M, Hp.le_refl M, S.pick [0] (by decide)⟩) ?_
  refine Wa_take (i := 17) rfl (by kernel_rfl) rfl rfl (.int .i64 ((rd a0.L (IntKind.i64.wrap (a1 - (1 : Int)))).TS)) rfl (fun w' h' => x_load (cls_frz h' hb40) ty3 rfl (hc43 1 _ rfl)) (⟨M, Hp.le_refl M, S.pick [0] (by decide)⟩) ?_
  refine Wa_take (i := 18) rfl (by kernel_rfl) rfl rfl (.int .u8 ((rd a0.L (IntKind.i64.wrap (a1 - (1 : Int)))).State)) rfl (fun w' h' => x_assign rfl) (⟨M, Hp.le_refl M, S.pick [0] (by decide)⟩) ?_
  refine Wa_take (i := 19) rfl (by kernel_rfl) rfl rfl (.int .i64 ((rd a0.L (IntKind.i64.wrap (a1 - (1 : Int)))).TS)) rfl (fun w' h' => x_assign rfl) (⟨M, Hp.le_refl M, S.pick [0] (by decide)⟩) ?_
  refine Wa_done (by kernel_rfl) ?_
  refine tn ?_
  refine Wp_ret ?_
  obtain rfl := Option.some.inj H
  exact ⟨_, _, _, fun w1 e1 => run_resR (vs := [.int .u8 ((rd a0.L (IntKind.i64.wrap (a1 - (1 : Int)))).State), .int .i64 ((rd a0.L (IntKind.i64.wrap (a1 - (1 : Int)))).TS)]) (FA.cons (rfl) (FA.cons (rfl) (FA.nil))), HM, E, S.pick [0] (by decide), ⟨rfl, rfl⟩⟩
/-! ### ferryman/ferrymanlaw08.like: function 30 -/
def ferrymanlaw08_like_PO_PR_l0 (a0 : status_Writers) (a1 : ferrymanref08_Writers) : Nat → Int → Option ((Bool) ⊕ (Unit))
  | 0, _ => none
  | k + 1, x179 => (Option.bind (ferrymanref08_Writers_High_PR k a1) (fun t200 => (if (decide (x179 ≤ t200)) = true then (Option.bind (status_Writers_Of_PO k a0 x179) (fun t206 => (Option.bind (ferrymanref08_Writers_Of_PR k a1 x179) (fun t211 => (if ((t206.1 != t211.1) || (t206.2 != t211.2)) = true then some (.inl false) else ferrymanlaw08_like_PO_PR_l0 a0 a1 k (IntKind.i64.wrap (x179 + (1 : Int)))))))) else some (.inr ()))))
set_option maxHeartbeats 2000000 in
theorem ferrymanlaw08_like_PO_PR_l0.mono {a0 : status_Writers} {a1 : ferrymanref08_Writers} : ∀ {k : Nat} {x0}, OLe (ferrymanlaw08_like_PO_PR_l0 a0 a1 k x0) (ferrymanlaw08_like_PO_PR_l0 a0 a1 (k + 1) x0) := by
  intro k
  induction k with
  | zero => intros; exact OLe.none
  | succ k ih =>
    intros
    rw [ferrymanlaw08_like_PO_PR_l0.eq_2, ferrymanlaw08_like_PO_PR_l0.eq_2]
    repeat' (first | with_reducible exact OLe.none | with_reducible exact OLe.some | with_reducible refine OLe.ite ?_ ?_ | with_reducible refine OLe.bind ?_ (fun _ => ?_) | with_reducible exact ferrymanref08_Writers_High_PR.mono | with_reducible exact ferrymanref08_Writers_Of_PR.mono | with_reducible exact status_Writers_Of_PO.mono | exact ih | refine OLe.bind ?_ (fun _ => ?_) | refine OLe.ite ?_ ?_ | refine OLe.elim (fun _ => ?_) (fun _ => ?_) | split)
def ferrymanlaw08_like_PO_PR (k : Nat) (a0 : status_Writers) (a1 : ferrymanref08_Writers) : Option (Bool) :=
  (Option.bind (status_Writers_High_PO k a0) (fun t1 => (Option.bind (ferrymanref08_Writers_High_PR k a1) (fun t6 => (Option.bind (α := Bool) (if (t1 != t6) = true then some (true) else (Option.bind (status_Writers_Active_PO k a0) (fun t34 => (Option.bind (ferrymanref08_Writers_Active_PR k a1) (fun t39 => some ((t34 != t39))))))) (fun x32 => (Option.bind (α := Bool) (if x32 = true then some (true) else (Option.bind (status_Writers_Last_PO k a0) (fun t68 => (Option.bind (ferrymanref08_Writers_Last_PR k a1) (fun t73 => some ((t68 != t73))))))) (fun x66 => (Option.bind (α := Bool) (if x66 = true then some (true) else (Option.bind (status_Writers_Busy_PO k a0) (fun t120 => (Option.bind (ferrymanref08_Writers_Busy_PR k a1) (fun t128 => (Option.bind (ferrymanref08_Ints k t120 t128) (fun t136 => some ((!t136))))))))) (fun x118 => (if x118 = true then some false else (Option.bind (ferrymanlaw08_like_PO_PR_l0 a0 a1 k (-1 : Int)) (fun o198o => Sum.elim (fun r' => some r') (fun _ => some true) o198o)))))))))))))
set_option maxHeartbeats 2000000 in
theorem ferrymanlaw08_like_PO_PR.mono {k : Nat} {a0 : status_Writers} {a1 : ferrymanref08_Writers} : OLe (ferrymanlaw08_like_PO_PR k a0 a1) (ferrymanlaw08_like_PO_PR (k + 1) a0 a1) := by
  unfold ferrymanlaw08_like_PO_PR
  repeat' (first | with_reducible exact OLe.none | with_reducible exact OLe.some | with_reducible refine OLe.ite ?_ ?_ | with_reducible refine OLe.bind ?_ (fun _ => ?_) | with_reducible exact ferrymanlaw08_like_PO_PR_l0.mono | with_reducible exact ferrymanref08_Ints.mono | with_reducible exact ferrymanref08_Writers_Active_PR.mono | with_reducible exact ferrymanref08_Writers_Busy_PR.mono | with_reducible exact ferrymanref08_Writers_High_PR.mono | with_reducible exact ferrymanref08_Writers_Last_PR.mono | with_reducible exact status_Writers_Active_PO.mono | with_reducible exact status_Writers_Busy_PO.mono | with_reducible exact status_Writers_High_PO.mono | with_reducible exact status_Writers_Last_PO.mono | refine OLe.bind ?_ (fun _ => ?_) | refine OLe.ite ?_ ?_ | refine OLe.elim (fun _ => ?_) (fun _ => ?_) | split)
set_option maxHeartbeats 1000000 in
set_option maxRecDepth 100000 in
theorem ferrymanlaw08_like_PO_PR.con (k : Nat) (M : Hp) (A0_0 : Option Addr) (c0_0 : Nat) (a0 : status_Writers) (A1_0 : Option Addr) (c1_0 : Nat) (a1 : ferrymanref08_Writers) (bo0 : Nat) (bo1 : Nat) (r : Bool) (hr1_0 : SlR r_ferrymanref08_Writer M (.slice A1_0 a1.L.length c1_0) a1.L) (hg0 : ∃ gt fr, M 0 = some (.cells #[.int .u8 0, .int .u8 0, .int .u8 1, .int .u8 1, .int .u8 2] gt fr)) (h : ferrymanlaw08_like_PO_PR k a0 a1 = some r) : Con Tryd.prog 30 #[.pointer (some ⟨bo0, 0, none⟩), .pointer (some ⟨bo1, 0, none⟩)] M [Blk bo0 (.cells #[.slice A0_0 a0.l.length c0_0, .int .i64 a0.last] 47 (0, 0)), Row r_status_writer 49 (.slice A0_0 a0.l.length c0_0) a0.l, Blk bo1 (.cells #[.slice A1_0 a1.L.length c1_0] 58 (0, 0))] (fun v M' Γ' => v = .bool r ∧ Γ' = [Blk bo0 (.cells #[.slice A0_0 a0.l.length c0_0, .int .i64 a0.last] 47 (0, 0)), Row r_status_writer 49 (.slice A0_0 a0.l.length c0_0) a0.l, Blk bo1 (.cells #[.slice A1_0 a1.L.length c1_0] 58 (0, 0))]) := by
  refine con_of_wp Tryd.func30 rfl Tryd.ntmps30 Tryd.results30 rfl ?_
  intro w F rn S hrn
  have E := Ext.refl w
  have HM := Hp.le_refl M
  have H := h
  unfold ferrymanlaw08_like_PO_PR at H
  refine Wp_seq ?_
  refine Wp_region_lit ?_
  refine W_v (.bool false) (x_assign rfl) rfl ?_
  refine Wl_nil ?_
  refine tn ?_
  refine Wp_seq ?_
  refine Wp_seq ?_
  refine Wp_region_lit ?_
  refine W_v (.pointer (some ⟨bo0, 0, none⟩)) (x_move rfl) rfl ?_
  obtain ⟨t1, ht2, H⟩ := bindS H
  refine W_callF2 fn10 (status_Writers_High_PO.con k M A0_0 c0_0 a0 bo0 t1 hg0 ht2) (Γ1 := [Blk bo0 (.cells #[.slice A0_0 a0.l.length c0_0, .int .i64 a0.last] 47 (0, 0)), Row r_status_writer 49 (.slice A0_0 a0.l.length c0_0) a0.l]) (Γ2 := [Blk bo1 (.cells #[.slice A1_0 a1.L.length c1_0] 58 (0, 0))]) S rfl rfl (by rintro _ _ _ ⟨rfl, rfl⟩; exact (flat_cons flat_blk (flat_cons (flat_row (fun _ _ _ _ h => h)) flat_nil))) ?_
  rintro _ w3 _ Γ' E' S ⟨rfl, rfl⟩
  replace E := E.trans E'
  clear E'
  replace S : St w3 M F [Blk bo0 (.cells #[.slice A0_0 a0.l.length c0_0, .int .i64 a0.last] 47 (0, 0)), Row r_status_writer 49 (.slice A0_0 a0.l.length c0_0) a0.l, Blk bo1 (.cells #[.slice A1_0 a1.L.length c1_0] 58 (0, 0))] := S
  refine W_v (.pointer (some ⟨bo1, 0, none⟩)) (x_move rfl) rfl ?_
  obtain ⟨t6, ht7, H⟩ := bindS H
  replace S : St w3 M F [Blk bo1 (.cells #[.slice A1_0 a1.L.length c1_0] 58 (0, 0)), Blk bo0 (.cells #[.slice A0_0 a0.l.length c0_0, .int .i64 a0.last] 47 (0, 0)), Row r_status_writer 49 (.slice A0_0 a0.l.length c0_0) a0.l] := S.pick [2, 0, 1] (by decide)
  refine W_callF2 fn37 (ferrymanref08_Writers_High_PR.con k M A1_0 c1_0 a1 bo1 t6 hr1_0 hg0 ht7) (Γ1 := [Blk bo1 (.cells #[.slice A1_0 a1.L.length c1_0] 58 (0, 0))]) (Γ2 := [Blk bo0 (.cells #[.slice A0_0 a0.l.length c0_0, .int .i64 a0.last] 47 (0, 0)), Row r_status_writer 49 (.slice A0_0 a0.l.length c0_0) a0.l]) S rfl rfl (by rintro _ _ _ ⟨rfl, rfl⟩; exact (flat_cons flat_blk flat_nil)) ?_
  rintro _ w8 _ Γ' E' S ⟨rfl, rfl⟩
  replace E := E.trans E'
  clear E'
  replace S : St w8 M F [Blk bo1 (.cells #[.slice A1_0 a1.L.length c1_0] 58 (0, 0)), Blk bo0 (.cells #[.slice A0_0 a0.l.length c0_0, .int .i64 a0.last] 47 (0, 0)), Row r_status_writer 49 (.slice A0_0 a0.l.length c0_0) a0.l] := S
  refine W_v (.bool (t1 != t6)) (x_ibin rfl rfl rfl rfl) rfl ?_
  refine W_v (.bool (t1 != t6)) (x_move rfl) rfl ?_
  obtain ⟨o33, o33h, o33H⟩ := bindS H
  clear H
  refine Wl_cutN 6 (fun ρ w' => ∃ (x32 : Bool), (x32) = o33 ∧ Agree ρ [(0, .pointer (some ⟨bo0, 0, none⟩)), (1, .pointer (some ⟨bo1, 0, none⟩)), (21, .bool x32)] ∧ Ext w w' ∧ St w' M F [Blk bo1 (.cells #[.slice A1_0 a1.L.length c1_0] 58 (0, 0)), Blk bo0 (.cells #[.slice A0_0 a0.l.length c0_0, .int .i64 a0.last] 47 (0, 0)), Row r_status_writer 49 (.slice A0_0 a0.l.length c0_0) a0.l]) ?_ ?_
  · have H := o33h
    rcases iteS H with ⟨hb31, H⟩ | ⟨hb31, H⟩
    · skip
      refine W_no (skF hb31) rfl ?_
      refine W_no (skF hb31) rfl ?_
      refine W_no (skF hb31) rfl ?_
      refine W_no (skF hb31) rfl ?_
      refine W_no (skF hb31) rfl ?_
      refine W_v (.bool true) (x_pick (k := true) (congrArg Value.bool hb31) rfl) rfl ?_
      refine Wl_nil ?_
      exact ⟨true, Option.some.inj H, ⟨rfl, rfl, rfl, trivial⟩, E, S.pick [0, 1, 2] (by decide)⟩
    · skip
      refine W_yes (congrArg some hb31) ?_
      refine W_v (.pointer (some ⟨bo0, 0, none⟩)) (x_move rfl) rfl ?_
      refine W_yes (congrArg some hb31) ?_
      obtain ⟨t34, ht35, H⟩ := bindS H
      replace S : St w8 M F [Blk bo0 (.cells #[.slice A0_0 a0.l.length c0_0, .int .i64 a0.last] 47 (0, 0)), Row r_status_writer 49 (.slice A0_0 a0.l.length c0_0) a0.l, Blk bo1 (.cells #[.slice A1_0 a1.L.length c1_0] 58 (0, 0))] := S.pick [1, 2, 0] (by decide)
      refine W_callF2 fn15 (status_Writers_Active_PO.con k M A0_0 c0_0 a0 bo0 t34 hg0 ht35) (Γ1 := [Blk bo0 (.cells #[.slice A0_0 a0.l.length c0_0, .int .i64 a0.last] 47 (0, 0)), Row r_status_writer 49 (.slice A0_0 a0.l.length c0_0) a0.l]) (Γ2 := [Blk bo1 (.cells #[.slice A1_0 a1.L.length c1_0] 58 (0, 0))]) S rfl rfl (by rintro _ _ _ ⟨rfl, rfl⟩; exact (flat_cons flat_blk (flat_cons (flat_row (fun _ _ _ _ h => h)) flat_nil))) ?_
      rintro _ w36 _ Γ' E' S ⟨rfl, rfl⟩
      replace E := E.trans E'
      clear E'
      replace S : St w36 M F [Blk bo0 (.cells #[.slice A0_0 a0.l.length c0_0, .int .i64 a0.last] 47 (0, 0)), Row r_status_writer 49 (.slice A0_0 a0.l.length c0_0) a0.l, Blk bo1 (.cells #[.slice A1_0 a1.L.length c1_0] 58 (0, 0))] := S
      refine W_yes (congrArg some hb31) ?_
      refine W_v (.pointer (some ⟨bo1, 0, none⟩)) (x_move rfl) rfl ?_
      refine W_yes (congrArg some hb31) ?_
      obtain ⟨t39, ht40, H⟩ := bindS H
      replace S : St w36 M F [Blk bo1 (.cells #[.slice A1_0 a1.L.length c1_0] 58 (0, 0)), Blk bo0 (.cells #[.slice A0_0 a0.l.length c0_0, .int .i64 a0.last] 47 (0, 0)), Row r_status_writer 49 (.slice A0_0 a0.l.length c0_0) a0.l] := S.pick [2, 0, 1] (by decide)
      refine W_callF2 fn38 (ferrymanref08_Writers_Active_PR.con k M A1_0 c1_0 a1 bo1 t39 hr1_0 hg0 ht40) (Γ1 := [Blk bo1 (.cells #[.slice A1_0 a1.L.length c1_0] 58 (0, 0))]) (Γ2 := [Blk bo0 (.cells #[.slice A0_0 a0.l.length c0_0, .int .i64 a0.last] 47 (0, 0)), Row r_status_writer 49 (.slice A0_0 a0.l.length c0_0) a0.l]) S rfl rfl (by rintro _ _ _ ⟨rfl, rfl⟩; exact (flat_cons flat_blk flat_nil)) ?_
      rintro _ w41 _ Γ' E' S ⟨rfl, rfl⟩
      replace E := E.trans E'
      clear E'
      replace S : St w41 M F [Blk bo1 (.cells #[.slice A1_0 a1.L.length c1_0] 58 (0, 0)), Blk bo0 (.cells #[.slice A0_0 a0.l.length c0_0, .int .i64 a0.last] 47 (0, 0)), Row r_status_writer 49 (.slice A0_0 a0.l.length c0_0) a0.l] := S
      refine W_yes (congrArg some hb31) ?_
      refine W_v (.bool (t34 != t39)) (x_ibin rfl rfl rfl rfl) rfl ?_
      refine W_v (.bool (t34 != t39)) (x_pick (k := false) (congrArg Value.bool hb31) rfl) rfl ?_
      refine Wl_nil ?_
      exact ⟨(t34 != t39), Option.some.inj H, ⟨rfl, rfl, rfl, trivial⟩, E, S.pick [0, 1, 2] (by decide)⟩
  clear o33h
  rintro ρ w44 ⟨x32, rfl, hρ, E, S⟩
  rw [agree_eta hρ]
  clear hρ
  have H := o33H
  clear o33H
  refine W_v (.bool x32) (x_move rfl) rfl ?_
  obtain ⟨o67, o67h, o67H⟩ := bindS H
  clear H
  refine Wl_cutN 6 (fun ρ w' => ∃ (x66 : Bool), (x66) = o67 ∧ Agree ρ [(0, .pointer (some ⟨bo0, 0, none⟩)), (1, .pointer (some ⟨bo1, 0, none⟩)), (28, .bool x66)] ∧ Ext w w' ∧ St w' M F [Blk bo1 (.cells #[.slice A1_0 a1.L.length c1_0] 58 (0, 0)), Blk bo0 (.cells #[.slice A0_0 a0.l.length c0_0, .int .i64 a0.last] 47 (0, 0)), Row r_status_writer 49 (.slice A0_0 a0.l.length c0_0) a0.l]) ?_ ?_
  · have H := o67h
    rcases iteS H with ⟨hb65, H⟩ | ⟨hb65, H⟩
    · skip
      refine W_no (skF hb65) rfl ?_
      refine W_no (skF hb65) rfl ?_
      refine W_no (skF hb65) rfl ?_
      refine W_no (skF hb65) rfl ?_
      refine W_no (skF hb65) rfl ?_
      refine W_v (.bool true) (x_pick (k := true) (congrArg Value.bool hb65) rfl) rfl ?_
      refine Wl_nil ?_
      exact ⟨true, Option.some.inj H, ⟨rfl, rfl, rfl, trivial⟩, E, S.pick [0, 1, 2] (by decide)⟩
    · skip
      refine W_yes (congrArg some hb65) ?_
      refine W_v (.pointer (some ⟨bo0, 0, none⟩)) (x_move rfl) rfl ?_
      refine W_yes (congrArg some hb65) ?_
      obtain ⟨t68, ht69, H⟩ := bindS H
      replace S : St w44 M F [Blk bo0 (.cells #[.slice A0_0 a0.l.length c0_0, .int .i64 a0.last] 47 (0, 0)), Row r_status_writer 49 (.slice A0_0 a0.l.length c0_0) a0.l, Blk bo1 (.cells #[.slice A1_0 a1.L.length c1_0] 58 (0, 0))] := S.pick [1, 2, 0] (by decide)
      refine W_callF2 fn21 (status_Writers_Last_PO.con k M A0_0 c0_0 a0 bo0 t68 hg0 ht69) (Γ1 := [Blk bo0 (.cells #[.slice A0_0 a0.l.length c0_0, .int .i64 a0.last] 47 (0, 0)), Row r_status_writer 49 (.slice A0_0 a0.l.length c0_0) a0.l]) (Γ2 := [Blk bo1 (.cells #[.slice A1_0 a1.L.length c1_0] 58 (0, 0))]) S rfl rfl (by rintro _ _ _ ⟨rfl, rfl⟩; exact (flat_cons flat_blk (flat_cons (flat_row (fun _ _ _ _ h => h)) flat_nil))) ?_
      rintro _ w70 _ Γ' E' S ⟨rfl, rfl⟩
      replace E := E.trans E'
      clear E'
      replace S : St w70 M F [Blk bo0 (.cells #[.slice A0_0 a0.l.length c0_0, .int .i64 a0.last] 47 (0, 0)), Row r_status_writer 49 (.slice A0_0 a0.l.length c0_0) a0.l, Blk bo1 (.cells #[.slice A1_0 a1.L.length c1_0] 58 (0, 0))] := S
      refine W_yes (congrArg some hb65) ?_
      refine W_v (.pointer (some ⟨bo1, 0, none⟩)) (x_move rfl) rfl ?_
      refine W_yes (congrArg some hb65) ?_
      obtain ⟨t73, ht74, H⟩ := bindS H
      replace S : St w70 M F [Blk bo1 (.cells #[.slice A1_0 a1.L.length c1_0] 58 (0, 0)), Blk bo0 (.cells #[.slice A0_0 a0.l.length c0_0, .int .i64 a0.last] 47 (0, 0)), Row r_status_writer 49 (.slice A0_0 a0.l.length c0_0) a0.l] := S.pick [2, 0, 1] (by decide)
      refine W_callF2 fn29 (ferrymanref08_Writers_Last_PR.con k M A1_0 c1_0 a1 bo1 t73 hr1_0 hg0 ht74) (Γ1 := [Blk bo1 (.cells #[.slice A1_0 a1.L.length c1_0] 58 (0, 0))]) (Γ2 := [Blk bo0 (.cells #[.slice A0_0 a0.l.length c0_0, .int .i64 a0.last] 47 (0, 0)), Row r_status_writer 49 (.slice A0_0 a0.l.length c0_0) a0.l]) S rfl rfl (by rintro _ _ _ ⟨rfl, rfl⟩; exact (flat_cons flat_blk flat_nil)) ?_
      rintro _ w75 _ Γ' E' S ⟨rfl, rfl⟩
      replace E := E.trans E'
      clear E'
      replace S : St w75 M F [Blk bo1 (.cells #[.slice A1_0 a1.L.length c1_0] 58 (0, 0)), Blk bo0 (.cells #[.slice A0_0 a0.l.length c0_0, .int .i64 a0.last] 47 (0, 0)), Row r_status_writer 49 (.slice A0_0 a0.l.length c0_0) a0.l] := S
      refine W_yes (congrArg some hb65) ?_
      refine W_v (.bool (t68 != t73)) (x_ibin rfl rfl rfl rfl) rfl ?_
      refine W_v (.bool (t68 != t73)) (x_pick (k := false) (congrArg Value.bool hb65) rfl) rfl ?_
      refine Wl_nil ?_
      exact ⟨(t68 != t73), Option.some.inj H, ⟨rfl, rfl, rfl, trivial⟩, E, S.pick [0, 1, 2] (by decide)⟩
  clear o67h
  rintro ρ w78 ⟨x66, rfl, hρ, E, S⟩
  rw [agree_eta hρ]
  clear hρ
  have H := o67H
  clear o67H
  refine W_v (.bool x66) (x_move rfl) rfl ?_
  obtain ⟨o119, o119h, o119H⟩ := bindS H
  clear H
  refine Wl_cutN 7 (fun ρ w' => ∃ (x118 : Bool), (x118) = o119 ∧ Agree ρ [(0, .pointer (some ⟨bo0, 0, none⟩)), (1, .pointer (some ⟨bo1, 0, none⟩)), (36, .bool x118)] ∧ Ext w w' ∧ St w' M F [Blk bo1 (.cells #[.slice A1_0 a1.L.length c1_0] 58 (0, 0)), Blk bo0 (.cells #[.slice A0_0 a0.l.length c0_0, .int .i64 a0.last] 47 (0, 0)), Row r_status_writer 49 (.slice A0_0 a0.l.length c0_0) a0.l]) ?_ ?_
  · have H := o119h
    rcases iteS H with ⟨hb117, H⟩ | ⟨hb117, H⟩
    · skip
      refine W_no (skF hb117) rfl ?_
      refine W_no (skF hb117) rfl ?_
      refine W_no (skF hb117) rfl ?_
      refine W_no (skF hb117) rfl ?_
      refine W_no (skF hb117) rfl ?_
      refine W_no (skF hb117) rfl ?_
      refine W_v (.bool true) (x_pick (k := true) (congrArg Value.bool hb117) rfl) rfl ?_
      refine Wl_nil ?_
      exact ⟨true, Option.some.inj H, ⟨rfl, rfl, rfl, trivial⟩, E, S.pick [0, 1, 2] (by decide)⟩
    · skip
      refine W_yes (congrArg some hb117) ?_
      refine W_v (.pointer (some ⟨bo0, 0, none⟩)) (x_move rfl) rfl ?_
      refine W_yes (congrArg some hb117) ?_
      obtain ⟨t120, ht121, H⟩ := bindS H
      replace S : St w78 M F [Blk bo0 (.cells #[.slice A0_0 a0.l.length c0_0, .int .i64 a0.last] 47 (0, 0)), Row r_status_writer 49 (.slice A0_0 a0.l.length c0_0) a0.l, Blk bo1 (.cells #[.slice A1_0 a1.L.length c1_0] 58 (0, 0))] := S.pick [1, 2, 0] (by decide)
      refine W_callF2 fn14 (status_Writers_Busy_PO.con k M A0_0 c0_0 a0 bo0 t120 hg0 ht121) (Γ1 := [Blk bo0 (.cells #[.slice A0_0 a0.l.length c0_0, .int .i64 a0.last] 47 (0, 0)), Row r_status_writer 49 (.slice A0_0 a0.l.length c0_0) a0.l]) (Γ2 := [Blk bo1 (.cells #[.slice A1_0 a1.L.length c1_0] 58 (0, 0))]) S rfl rfl (by rintro _ _ _ ⟨_, _, rfl, rfl⟩; exact (flat_cons (flat_row (fun _ _ _ _ h => h)) (flat_cons flat_blk (flat_cons (flat_row (fun _ _ _ _ h => h)) flat_nil)))) ?_
      rintro _ w125 _ Γ' E' S ⟨A122, c123, rfl, rfl⟩
      replace E := E.trans E'
      clear E'
      replace S : St w125 M F [Row (rInt .i64) 3 (.slice A122 t120.length c123) t120, Blk bo0 (.cells #[.slice A0_0 a0.l.length c0_0, .int .i64 a0.last] 47 (0, 0)), Row r_status_writer 49 (.slice A0_0 a0.l.length c0_0) a0.l, Blk bo1 (.cells #[.slice A1_0 a1.L.length c1_0] 58 (0, 0))] := S
      refine W_yes (congrArg some hb117) ?_
      refine W_v (.pointer (some ⟨bo1, 0, none⟩)) (x_move rfl) rfl ?_
      refine W_yes (congrArg some hb117) ?_
      obtain ⟨t128, ht129, H⟩ := bindS H
      replace S : St w125 M F [Blk bo1 (.cells #[.slice A1_0 a1.L.length c1_0] 58 (0, 0)), Row (rInt .i64) 3 (.slice A122 t120.length c123) t120, Blk bo0 (.cells #[.slice A0_0 a0.l.length c0_0, .int .i64 a0.last] 47 (0, 0)), Row r_status_writer 49 (.slice A0_0 a0.l.length c0_0) a0.l] := S.pick [3, 0, 1, 2] (by decide)
      refine W_callF2 fn39 (ferrymanref08_Writers_Busy_PR.con k M A1_0 c1_0 a1 bo1 t128 hr1_0 hg0 ht129) (Γ1 := [Blk bo1 (.cells #[.slice A1_0 a1.L.length c1_0] 58 (0, 0))]) (Γ2 := [Row (rInt .i64) 3 (.slice A122 t120.length c123) t120, Blk bo0 (.cells #[.slice A0_0 a0.l.length c0_0, .int .i64 a0.last] 47 (0, 0)), Row r_status_writer 49 (.slice A0_0 a0.l.length c0_0) a0.l]) S rfl rfl (by rintro _ _ _ ⟨_, _, rfl, rfl⟩; exact (flat_cons (flat_row (fun _ _ _ _ h => h)) (flat_cons flat_blk flat_nil))) ?_
      rintro _ w133 _ Γ' E' S ⟨A130, c131, rfl, rfl⟩
      replace E := E.trans E'
      clear E'
      replace S : St w133 M F [Row (rInt .i64) 3 (.slice A130 t128.length c131) t128, Blk bo1 (.cells #[.slice A1_0 a1.L.length c1_0] 58 (0, 0)), Row (rInt .i64) 3 (.slice A122 t120.length c123) t120, Blk bo0 (.cells #[.slice A0_0 a0.l.length c0_0, .int .i64 a0.last] 47 (0, 0)), Row r_status_writer 49 (.slice A0_0 a0.l.length c0_0) a0.l] := S
      refine W_yes (congrArg some hb117) ?_
      replace S : St w133 M F [Row (rInt .i64) 3 (.slice A122 t120.length c123) t120, Row (rInt .i64) 3 (.slice A130 t128.length c131) t128, Blk bo1 (.cells #[.slice A1_0 a1.L.length c1_0] 58 (0, 0)), Blk bo0 (.cells #[.slice A0_0 a0.l.length c0_0, .int .i64 a0.last] 47 (0, 0)), Row r_status_writer 49 (.slice A0_0 a0.l.length c0_0) a0.l] := S.pick [2, 0, 1, 3, 4] (by decide)
      obtain ⟨t136, ht137, H⟩ := bindS H
      refine W_callN 2 fn13 (fun h9 hs9 hd9 => ferrymanref08_Ints.con k _ A122 c123 t120 A130 c131 t128 t136 (Sats.row hs9 hd9 0 rfl) (Sats.row hs9 hd9 1 rfl) (let ⟨gt, fr, h8⟩ := hg0; ⟨gt, fr, Hp.le_union_left _ _ _ _ h8⟩) ht137) S rfl rfl (by rintro _ _ _ ⟨_, rfl⟩; exact flat_nil) ?_
      rintro _ w138 _ Γ' E' S ⟨rfl, rfl⟩
      replace E := E.trans E'
      clear E'
      refine W_yes (congrArg some hb117) ?_
      refine W_v (.bool (!t136)) (x_not rfl) rfl ?_
      refine W_v (.bool (!t136)) (x_pick (k := false) (congrArg Value.bool hb117) rfl) rfl ?_
      refine Wl_nil ?_
      exact ⟨(!t136), Option.some.inj H, ⟨rfl, rfl, rfl, trivial⟩, E, S.pick [2, 3, 4] (by decide)⟩
  clear o119h
  rintro ρ w139 ⟨x118, rfl, hρ, E, S⟩
  rw [agree_eta hρ]
  clear hρ
  have H := o119H
  clear o119H
  refine Wl_nil ?_
  refine tn ?_
  rcases iteS H with ⟨hb140, H⟩ | ⟨hb140, H⟩
  · refine Wp_cond_true (congrArg Value.bool hb140) ?_
    refine Wp_seq ?_
    refine Wp_region_lit ?_
    refine W_v (.bool false) (x_assign rfl) rfl ?_
    refine Wl_nil ?_
    refine tn ?_
    refine Wp_ret ?_
    refine tr (?_)
    obtain rfl := Option.some.inj H
    exact ⟨_, _, _, fun w1 e1 => run_resR (vs := [.bool false]) (FA.cons (rfl) (FA.nil)), HM, E, S.pick [1, 2, 0] (by decide), ⟨rfl, rfl⟩⟩
  refine Wp_cond_false (congrArg Value.bool hb140) ?_
  refine Wp_skip ?_
  refine tn ?_
  refine Wp_seq ?_
  refine Wp_seq ?_
  refine Wp_region_lit ?_
  refine W_v (.int .i64 (-1)) (x_assign rfl) rfl ?_
  refine Wl_nil ?_
  refine tn ?_
  obtain ⟨o198, o198h, o198H⟩ := bindS H
  clear H
  refine Wp_blockJ (fun ρ w' => .inr () = o198 ∧ Agree ρ [] ∧ Ext w w' ∧ St w' M F [Blk bo1 (.cells #[.slice A1_0 a1.L.length c1_0] 58 (0, 0)), Blk bo0 (.cells #[.slice A0_0 a0.l.length c0_0, .int .i64 a0.last] 47 (0, 0)), Row r_status_writer 49 (.slice A0_0 a0.l.length c0_0) a0.l]) ?_ ?_
  · skip
    refine Wp_loop (fun n ρ w' => ∃ (x179 : Int), ferrymanlaw08_like_PO_PR_l0 a0 a1 n x179 = some o198 ∧ Agree ρ [(0, .pointer (some ⟨bo0, 0, none⟩)), (1, .pointer (some ⟨bo1, 0, none⟩)), (5, .int .i64 x179)] ∧ Ext w w' ∧ St w' M F [Blk bo1 (.cells #[.slice A1_0 a1.L.length c1_0] 58 (0, 0)), Blk bo0 (.cells #[.slice A0_0 a0.l.length c0_0, .int .i64 a0.last] 47 (0, 0)), Row r_status_writer 49 (.slice A0_0 a0.l.length c0_0) a0.l]) k ?_ ?_
    · skip
      exact ⟨(-1 : Int), o198h, ⟨rfl, rfl, rfl, trivial⟩, E, S.pick [0, 1, 2] (by decide)⟩
    · intro n
      rintro ρ w199 ⟨x179, H, hρ, E, S⟩
      rw [agree_eta hρ]
      clear hρ
      cases n with
      | zero => cases H
      | succ k =>
        rw [ferrymanlaw08_like_PO_PR_l0.eq_2] at H
        refine Wp_seq ?_
        refine Wp_seq ?_
        refine Wp_region_lit ?_
        refine W_v (.int .i64 x179) (x_move rfl) rfl ?_
        refine W_v (.pointer (some ⟨bo1, 0, none⟩)) (x_move rfl) rfl ?_
        obtain ⟨t200, ht201, H⟩ := bindS H
        refine W_callF2 fn37 (ferrymanref08_Writers_High_PR.con k M A1_0 c1_0 a1 bo1 t200 hr1_0 hg0 ht201) (Γ1 := [Blk bo1 (.cells #[.slice A1_0 a1.L.length c1_0] 58 (0, 0))]) (Γ2 := [Blk bo0 (.cells #[.slice A0_0 a0.l.length c0_0, .int .i64 a0.last] 47 (0, 0)), Row r_status_writer 49 (.slice A0_0 a0.l.length c0_0) a0.l]) S rfl rfl (by rintro _ _ _ ⟨rfl, rfl⟩; exact (flat_cons flat_blk flat_nil)) ?_
        rintro _ w202 _ Γ' E' S ⟨rfl, rfl⟩
        replace E := E.trans E'
        clear E'
        replace S : St w202 M F [Blk bo1 (.cells #[.slice A1_0 a1.L.length c1_0] 58 (0, 0)), Blk bo0 (.cells #[.slice A0_0 a0.l.length c0_0, .int .i64 a0.last] 47 (0, 0)), Row r_status_writer 49 (.slice A0_0 a0.l.length c0_0) a0.l] := S
        refine W_v (.bool (decide (x179 ≤ t200))) (x_ibin rfl rfl rfl rfl) rfl ?_
        refine Wl_nil ?_
        refine tn ?_
        rcases iteS H with ⟨hb205, H⟩ | ⟨hb205, H⟩
        · refine Wp_cond_true (congrArg Value.bool hb205) ?_
          refine Wp_skip ?_
          refine tn ?_
          refine Wp_seq ?_
          refine Wp_block ?_
          refine Wp_seq ?_
          refine Wp_region_lit ?_
          refine W_v (.pointer (some ⟨bo0, 0, none⟩)) (x_move rfl) rfl ?_
          refine W_v (.int .i64 x179) (x_move rfl) rfl ?_
          obtain ⟨t206, ht207, H⟩ := bindS H
          replace S : St w202 M F [Blk bo0 (.cells #[.slice A0_0 a0.l.length c0_0, .int .i64 a0.last] 47 (0, 0)), Row r_status_writer 49 (.slice A0_0 a0.l.length c0_0) a0.l, Blk bo1 (.cells #[.slice A1_0 a1.L.length c1_0] 58 (0, 0))] := S.pick [1, 2, 0] (by decide)
          refine W_callF2 fn12 (status_Writers_Of_PO.con k M A0_0 c0_0 a0 x179 bo0 t206 hg0 ht207) (Γ1 := [Blk bo0 (.cells #[.slice A0_0 a0.l.length c0_0, .int .i64 a0.last] 47 (0, 0)), Row r_status_writer 49 (.slice A0_0 a0.l.length c0_0) a0.l]) (Γ2 := [Blk bo1 (.cells #[.slice A1_0 a1.L.length c1_0] 58 (0, 0))]) S rfl rfl (by rintro _ _ _ ⟨rfl, rfl⟩; exact (flat_cons flat_blk (flat_cons (flat_row (fun _ _ _ _ h => h)) flat_nil))) ?_
          rintro _ w208 _ Γ' E' S ⟨rfl, rfl⟩
          replace E := E.trans E'
          clear E'
          replace S : St w208 M F [Blk bo0 (.cells #[.slice A0_0 a0.l.length c0_0, .int .i64 a0.last] 47 (0, 0)), Row r_status_writer 49 (.slice A0_0 a0.l.length c0_0) a0.l, Blk bo1 (.cells #[.slice A1_0 a1.L.length c1_0] 58 (0, 0))] := S
          refine W_v (.tuple #[.int .u8 t206.1, .int .i64 t206.2]) (x_move rfl) rfl ?_
          refine W_v (.int .u8 t206.1) (x_extract rfl rfl) rfl ?_
          refine W_v (.int .i64 t206.2) (x_extract rfl rfl) rfl ?_
          refine W_v (.int .u8 t206.1) (x_assign rfl) rfl ?_
          refine W_v (.int .i64 t206.2) (x_assign rfl) rfl ?_
          refine Wl_nil ?_
          refine tn ?_
          refine Wp_seq ?_
          refine Wp_region_lit ?_
          refine W_v (.pointer (some ⟨bo1, 0, none⟩)) (x_move rfl) rfl ?_
          refine W_v (.int .i64 x179) (x_move rfl) rfl ?_
          obtain ⟨t211, ht212, H⟩ := bindS H
          replace S : St w208 M F [Blk bo1 (.cells #[.slice A1_0 a1.L.length c1_0] 58 (0, 0)), Blk bo0 (.cells #[.slice A0_0 a0.l.length c0_0, .int .i64 a0.last] 47 (0, 0)), Row r_status_writer 49 (.slice A0_0 a0.l.length c0_0) a0.l] := S.pick [2, 0, 1] (by decide)
          refine W_callF2 fn40 (ferrymanref08_Writers_Of_PR.con k M A1_0 c1_0 a1 x179 bo1 t211 hr1_0 hg0 ht212) (Γ1 := [Blk bo1 (.cells #[.slice A1_0 a1.L.length c1_0] 58 (0, 0))]) (Γ2 := [Blk bo0 (.cells #[.slice A0_0 a0.l.length c0_0, .int .i64 a0.last] 47 (0, 0)), Row r_status_writer 49 (.slice A0_0 a0.l.length c0_0) a0.l]) S rfl rfl (by rintro _ _ _ ⟨rfl, rfl⟩; exact (flat_cons flat_blk flat_nil)) ?_
          rintro _ w213 _ Γ' E' S ⟨rfl, rfl⟩
          replace E := E.trans E'
          clear E'
          replace S : St w213 M F [Blk bo1 (.cells #[.slice A1_0 a1.L.length c1_0] 58 (0, 0)), Blk bo0 (.cells #[.slice A0_0 a0.l.length c0_0, .int .i64 a0.last] 47 (0, 0)), Row r_status_writer 49 (.slice A0_0 a0.l.length c0_0) a0.l] := S
          refine W_v (.tuple #[.int .u8 t211.1, .int .i64 t211.2]) (x_move rfl) rfl ?_
          refine W_v (.int .u8 t211.1) (x_extract rfl rfl) rfl ?_
          refine W_v (.int .i64 t211.2) (x_extract rfl rfl) rfl ?_
          refine W_v (.int .u8 t211.1) (x_assign rfl) rfl ?_
          refine W_v (.int .i64 t211.2) (x_assign rfl) rfl ?_
          refine Wl_nil ?_
          refine tn ?_
          refine Wp_seq ?_
          refine Wp_region_lit ?_
          refine W_v (.int .u8 t206.1) (x_move rfl) rfl ?_
          refine W_v (.int .u8 t211.1) (x_move rfl) rfl ?_
          refine W_v (.bool (t206.1 != t211.1)) (x_ibin rfl rfl rfl rfl) rfl ?_
          refine W_v (.bool (t206.1 != t211.1)) (x_move rfl) rfl ?_
          refine Wl_cutN 4 (fun ρ w' => Agree ρ [(0, .pointer (some ⟨bo0, 0, none⟩)), (1, .pointer (some ⟨bo1, 0, none⟩)), (5, .int .i64 x179), (62, .bool ((t206.1 != t211.1) || (t206.2 != t211.2)))] ∧ w213 = w') ?_ ?_
          · rcases boolCases (t206.1 != t211.1) with hb216 | hb216
            · skip
              refine W_yes (congrArg some hb216) ?_
              refine W_v (.int .i64 t206.2) (x_move rfl) rfl ?_
              refine W_yes (congrArg some hb216) ?_
              refine W_v (.int .i64 t211.2) (x_move rfl) rfl ?_
              refine W_yes (congrArg some hb216) ?_
              refine W_v (.bool (t206.2 != t211.2)) (x_ibin rfl rfl rfl rfl) rfl ?_
              refine W_v (.bool (t206.2 != t211.2)) (x_pick (k := false) (congrArg Value.bool hb216) rfl) rfl ?_
              refine Wl_nil ?_
              exact ⟨⟨rfl, rfl, rfl, (by first | rfl | (rw [hb216]; rfl) | (simp only [hb216]; rfl)), trivial⟩, rfl⟩
            · skip
              refine W_no (skF hb216) rfl ?_
              refine W_no (skF hb216) rfl ?_
              refine W_no (skF hb216) rfl ?_
              refine W_v (.bool true) (x_pick (k := true) (congrArg Value.bool hb216) rfl) rfl ?_
              refine Wl_nil ?_
              exact ⟨⟨rfl, rfl, rfl, (by first | rfl | (rw [hb216]; rfl) | (simp only [hb216]; rfl)), trivial⟩, rfl⟩
          rintro ρ _ ⟨hρ, rfl⟩
          rw [agree_eta hρ]
          clear hρ
          refine Wl_nil ?_
          refine tn ?_
          rcases iteS H with ⟨hb217, H⟩ | ⟨hb217, H⟩
          · refine Wp_cond_true (congrArg Value.bool hb217) ?_
            refine Wp_seq ?_
            refine Wp_region_lit ?_
            refine W_v (.bool false) (x_assign rfl) rfl ?_
            refine Wl_nil ?_
            refine tn ?_
            refine Wp_ret ?_
            refine br (tr (tr (br (tr (tr (?_))))))
            obtain rfl := Option.some.inj H
            have H := o198H
            replace H := elimL H
            obtain rfl := Option.some.inj H
            exact ⟨_, _, _, fun w1 e1 => run_resR (vs := [.bool false]) (FA.cons (rfl) (FA.nil)), HM, E, S.pick [1, 2, 0] (by decide), ⟨rfl, rfl⟩⟩
          refine Wp_cond_false (congrArg Value.bool hb217) ?_
          refine Wp_skip ?_
          refine bn ?_
          refine tn ?_
          refine Wp_region_lit ?_
          refine W_v (.int .i64 x179) (x_move rfl) rfl ?_
          refine W_v (.int .i64 (IntKind.i64.wrap (x179 + (1 : Int)))) (x_ibin rfl rfl rfl rfl) rfl ?_
          refine W_v (.int .i64 (IntKind.i64.wrap (x179 + (1 : Int)))) (x_assign rfl) rfl ?_
          refine Wl_nil ?_
          refine tn ?_
          exact ⟨k, Nat.lt_succ_self k, ⟨(IntKind.i64.wrap (x179 + (1 : Int))), H, ⟨rfl, rfl, rfl, trivial⟩, E, S.pick [0, 1, 2] (by decide)⟩⟩
        refine Wp_cond_false (congrArg Value.bool hb205) ?_
        refine Wp_exit ?_
        refine tx (tx (bsm (?_)))
        refine tn ?_
        exact ⟨Option.some.inj H, trivial, E, S.pick [0, 1, 2] (by decide)⟩
  clear o198h
  rintro ρ w218 ⟨rfl, hρ, E, S⟩
  rw [agree_eta hρ]
  clear hρ
  have H := o198H
  clear o198H
  replace H := elimR H
  refine tn ?_
  refine Wp_seq ?_
  refine Wp_region_lit ?_
  refine W_v (.bool true) (x_assign rfl) rfl ?_
  refine Wl_nil ?_
  refine tn ?_
  refine Wp_ret ?_
  obtain rfl := Option.some.inj H
  exact ⟨_, _, _, fun w1 e1 => run_resR (vs := [.bool true]) (FA.cons (rfl) (FA.nil)), HM, E, S.pick [1, 2, 0] (by decide), ⟨rfl, rfl⟩⟩
/-! ### (*ferryman/ferrymanref08.Writers).Copy: function 24 -/
def ferrymanref08_Writers_Copy_PR (k : Nat) (a0 : ferrymanref08_Writers) : Option (ferrymanref08_Writers) :=
  some a0
set_option maxHeartbeats 2000000 in
theorem ferrymanref08_Writers_Copy_PR.mono {k : Nat} {a0 : ferrymanref08_Writers} : OLe (ferrymanref08_Writers_Copy_PR k a0) (ferrymanref08_Writers_Copy_PR (k + 1) a0) := by
  unfold ferrymanref08_Writers_Copy_PR
  repeat' (first | with_reducible exact OLe.none | with_reducible exact OLe.some | with_reducible refine OLe.ite ?_ ?_ | with_reducible refine OLe.bind ?_ (fun _ => ?_) | refine OLe.bind ?_ (fun _ => ?_) | refine OLe.ite ?_ ?_ | refine OLe.elim (fun _ => ?_) (fun _ => ?_) | split)
set_option maxHeartbeats 1000000 in
set_option maxRecDepth 100000 in
theorem ferrymanref08_Writers_Copy_PR.con (k : Nat) (M : Hp) (A0_0 : Option Addr) (c0_0 : Nat) (a0 : ferrymanref08_Writers) (bo0 : Nat) (r : ferrymanref08_Writers) (hr0_0 : SlR r_ferrymanref08_Writer M (.slice A0_0 a0.L.length c0_0) a0.L) (hg0 : ∃ gt fr, M 0 = some (.cells #[.int .u8 0, .int .u8 0, .int .u8 1, .int .u8 1, .int .u8 2] gt fr)) (h : ferrymanref08_Writers_Copy_PR k a0 = some r) : Con Tryd.prog 24 #[.pointer (some ⟨bo0, 0, none⟩)] M [Blk bo0 (.cells #[.slice A0_0 a0.L.length c0_0] 58 (0, 0))] (fun v M' Γ' => ∃ (bq1 : Nat) (Aq3 : Option Addr) (cq4 : Nat), v = .pointer (some ⟨bq1, 0, none⟩) ∧ SlR r_ferrymanref08_Writer M' (.slice Aq3 r.L.length cq4) r.L ∧ Γ' = [Blk bq1 (.cells #[.slice Aq3 r.L.length cq4] 58 (0, 0)), Blk bo0 (.cells #[.slice A0_0 a0.L.length c0_0] 58 (0, 0))]) := by
  refine con_of_wp Tryd.func24 rfl Tryd.ntmps24 Tryd.results24 rfl ?_
  intro w F rn S hrn
  have E := Ext.refl w
  have HM := Hp.le_refl M
  have H := h
  unfold ferrymanref08_Writers_Copy_PR at H
  refine Wp_seq ?_
  refine Wp_region_lit ?_
  refine W_v (.pointer none) (x_assign rfl) rfl ?_
  refine Wl_nil ?_
  refine tn ?_
  refine Wp_seq ?_
  refine Wp_region_lit ?_
  refine W_v (.pointer (some ⟨bo0, 0, none⟩)) (x_move rfl) rfl ?_
  refine W_v (.pointer (some ⟨bo0, 0, none⟩)) (x_nilptr rfl) rfl ?_
  refine W_v (.pointer (some ⟨bo0, 0, none⟩)) (x_fieldAddr (o := 0) (off := 0) Tryd.underlying58 rfl ty56 rfl rfl) rfl ?_
  refine W_v (.slice A0_0 a0.L.length c0_0) (x_load (S.blk 0 rfl) ty56 rfl rfl) rfl ?_
  refine W_v (.agg #[.slice A0_0 a0.L.length c0_0]) (x_build2 (pl := [(0, 1)]) #[.slice A0_0 a0.L.length c0_0] Tryd.underlying58 ty58 (by kernel_rfl) rfl (by kernel_rfl)) rfl ?_
  refine W_box S #[.slice A0_0 a0.L.length c0_0] rfl rfl rfl ?_
  intro b1 w2 E' S
  replace E := E.trans E'
  clear E'
  refine W_v (.pointer (some ⟨b1, 0, none⟩)) (x_assign rfl) rfl ?_
  refine Wl_nil ?_
  refine tn ?_
  refine Wp_ret ?_
  obtain rfl := Option.some.inj H
  exact ⟨_, _, _, fun w1 e1 => run_resR (vs := [.pointer (some ⟨b1, 0, none⟩)]) (FA.cons (rfl) (FA.nil)), HM, E, S.pick [0, 1] (by decide), ⟨b1, A0_0, c0_0, rfl, hr0_0, rfl⟩⟩
end Go.Proofs.YtbdelepfpnneoaaDoor
