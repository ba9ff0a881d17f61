import Derived.Test.YtninegjnkkcepaaGe4B
import Derived.Test.YtninegjnkkcepaaGe4P0
import Derived.Test.YtninegjnkkcepaaGe4P1
namespace Go.Proofs.Ytninegjnkkcepaa
open Go
set_option linter.unusedVariables false
set_option linter.unusedSimpArgs false
def ferrymanlaw06_large_l0 (a0 : (List ferrymanlaw06_Step)) : Nat → List api_Event → Int → Option ((List api_Event))
  | 0, _, _ => none
  | k + 1, x69, x73 => (if (decide (x73 < (a0.length : Int))) = true then (if 0 ≤ x73 ∧ x73 < (a0.length : Int) then (Option.bind (α := List api_Event) (some ([(⟨(0 : Int), (0 : Int), (0 : Int), ⟨(rd a0 x73).Answer.Err, (rd a0 x73).Answer.Found, (rd a0 x73).Answer.Value, (rd a0 x73).Answer.Pairs⟩⟩ : api_Event)] : List api_Event)) (fun x127 => (if x69.length + x127.length ≤ 1759218604441 then ferrymanlaw06_large_l0 a0 k (x69 ++ x127) (IntKind.i64.wrap (x73 + (1 : Int))) else none))) else none) else some (x69))
set_option maxHeartbeats 2000000 in
theorem ferrymanlaw06_large_l0.mono {a0 : (List ferrymanlaw06_Step)} : ∀ {kl : Nat} {x0 x1}, OLe (ferrymanlaw06_large_l0 a0 kl x0 x1) (ferrymanlaw06_large_l0 a0 (kl + 1) x0 x1) := by
  intro kl
  induction kl with
  | zero => intros; exact OLe.none
  | succ kl ih =>
    intros
    rw [ferrymanlaw06_large_l0.eq_2, ferrymanlaw06_large_l0.eq_2]
    repeat' (first | with_reducible exact OLe.none | with_reducible exact OLe.some | with_reducible refine OLe.ite ?_ ?_ | with_reducible refine OLe.bind ?_ (fun _ => ?_) | exact ih | refine OLe.bind ?_ (fun _ => ?_) | refine OLe.ite ?_ ?_ | refine OLe.elim (fun _ => ?_) (fun _ => ?_) | split)
def ferrymanlaw06_large (k : Nat) (a0 : (List ferrymanlaw06_Step)) : Option (Bool) :=
  (if (decide ((a0.length : Int) > (200 : Int))) = true then some true else (Option.bind (ferrymanlaw06_large_l0 a0 k ([] : List api_Event) (0 : Int)) (fun x102 => (Option.bind (ferrymanlaw06_wide k x102) (fun t138 => some t138)))))
set_option maxHeartbeats 2000000 in
theorem ferrymanlaw06_large.mono {k : Nat} {a0 : (List ferrymanlaw06_Step)} : OLe (ferrymanlaw06_large k a0) (ferrymanlaw06_large (k + 1) a0) := by
  unfold ferrymanlaw06_large
  repeat' (first | with_reducible exact OLe.none | with_reducible exact OLe.some | with_reducible refine OLe.ite ?_ ?_ | with_reducible refine OLe.bind ?_ (fun _ => ?_) | with_reducible exact ferrymanlaw06_large_l0.mono | with_reducible exact ferrymanlaw06_wide.mono | refine OLe.bind ?_ (fun _ => ?_) | refine OLe.ite ?_ ?_ | refine OLe.elim (fun _ => ?_) (fun _ => ?_) | split)
set_option maxHeartbeats 1000000 in
set_option maxRecDepth 100000 in
theorem ferrymanlaw06_large.con (k : Nat) (M : Hp) (A0 : Option Addr) (c0 : Nat) (a0 : (List ferrymanlaw06_Step)) (r : Bool) (hr0 : SlR r_ferrymanlaw06_Step M (.slice A0 a0.length c0) a0) (h : ferrymanlaw06_large k a0 = some r) : Con Try.prog 13 #[.slice A0 a0.length c0] M [] (fun v M' Γ' => v = .bool r ∧ Γ' = []) := by
  refine con_of_wp Try.func13 rfl Try.ntmps13 Try.results13 rfl ?_
  intro w F rn S hrn
  have E := Ext.refl w
  have HM := Hp.le_refl M
  have H := h
  unfold ferrymanlaw06_large at H
  refine Wp_seq (Wp_region_lit (W_v (.bool false) (x_assign rfl) rfl (Wl_nil (tn (Wp_seq (Wp_seq (Wp_region_lit (W_v (.slice A0 a0.length c0) (x_move rfl) rfl (W_v (.int .i64 (a0.length : Int)) (x_len_slice (n := a0.length) Try.underlying34 rfl) rfl (W_v (.bool (decide ((a0.length : Int) > (200 : Int)))) (x_ibin rfl rfl rfl rfl) rfl (Wl_nil (tn ?_))))))))))))
  rcases iteS H with ⟨hb1, H⟩ | ⟨hb1, H⟩
  · refine Wp_cond_true (congrArg Value.bool hb1) ?_
    refine Wp_seq (Wp_region_lit (W_v (.bool true) (x_assign rfl) rfl (Wl_nil (tn ?_))))
    refine Wp_ret ?_
    refine tr (?_)
    obtain rfl := Option.some.inj H
    exact ⟨_, _, _, fun w1 e1 => run_resR (vs := [.bool true]) (FA.cons (rfl) (FA.nil)), HM, E, S.pick [] (by decide), ⟨rfl, rfl⟩⟩
  refine Wp_cond_false (congrArg Value.bool hb1) (Wp_skip (tn (Wp_seq (Wp_region_lit (W_v (.slice none 0 0) (x_assign rfl) rfl (Wl_nil (tn (Wp_seq (Wp_seq (Wp_region_lit (W_v (.int .i64 0) (x_assign rfl) rfl (Wl_nil (tn ?_)))))))))))))
  obtain ⟨o106, o106h, o106H⟩ := bindS H
  refine Wp_blockJ (fun ρ w' => ∃ (x102 : List api_Event) (A103 : Option Addr) (c104 : Nat), (x102) = o106 ∧ Agree ρ [(3, .slice A103 x102.length c104)] ∧ Ext w w' ∧ St w' M F [Row r_api_Event 32 (.slice A103 x102.length c104) x102]) ?_ ?_
  · skip
    refine Wp_loop (fun n ρ w' => ∃ (x69 : List api_Event) (x73 : Int) (A70 : Option Addr) (c71 : Nat), ferrymanlaw06_large_l0 a0 n x69 x73 = some o106 ∧ Agree ρ [(0, .slice A0 a0.length c0), (3, .slice A70 x69.length c71), (4, .int .i64 x73)] ∧ Ext w w' ∧ St w' M F [Row r_api_Event 32 (.slice A70 x69.length c71) x69]) k ?_ ?_
    · skip
      replace S := S.row_nil r_api_Event 32
      exact ⟨([] : List api_Event), (0 : Int), none, 0, o106h, ⟨rfl, rfl, rfl, trivial⟩, E, S.pick [0] (by decide)⟩
    · intro n
      rintro ρ w108 ⟨x69, x73, A70, c71, H, hρ, E, S⟩
      rw [agree_eta hρ]
      cases n with
      | zero => cases H
      | succ k =>
        rw [ferrymanlaw06_large_l0.eq_2] at H
        refine Wp_seq (Wp_seq (Wp_region_lit (W_v (.int .i64 x73) (x_move rfl) rfl (W_v (.slice A0 a0.length c0) (x_move rfl) rfl (W_v (.int .i64 (a0.length : Int)) (x_len_slice (n := a0.length) Try.underlying34 rfl) rfl (W_v (.bool (decide (x73 < (a0.length : Int)))) (x_ibin rfl rfl rfl rfl) rfl (Wl_nil (tn ?_))))))))
        rcases iteS H with ⟨hb109, H⟩ | ⟨hb109, H⟩
        · refine Wp_cond_true (congrArg Value.bool hb109) ?_
          refine Wp_skip (tn (Wp_seq ?_))
          refine Wp_block ?_
          refine Wp_region_lit (W_v (.slice A70 x69.length c71) (x_move rfl) rfl (W_v (.slice A0 a0.length c0) (x_move rfl) rfl (W_v (.int .i64 x73) (x_move rfl) rfl ?_)))
          obtain ⟨⟨p110, p111⟩, H⟩ := chkS H
          obtain ⟨b112, o113, cs114, _, _, ee119, hb115, vs116, hR117, hc118⟩ := SlW.at' hr0 p110 p111
          obtain ⟨v123, hs122, rfl⟩ := hR117
          obtain ⟨A120, c121, rfl, _⟩ := hs122.form
          refine W_v (.pointer (some ⟨b112, o113 + x73.toNat * 6, none⟩)) (x_indexAddr Try.underlying34 ty40 (slA ee119) rfl p110 p111) rfl (W_v (.pointer (some ⟨b112, o113 + x73.toNat * 6 + 2, none⟩)) (x_fieldAddr (o := o113 + x73.toNat * 6) (off := 2) Try.underlying40 rfl ty30 rfl rfl) rfl (W_v (.agg #[.int .i64 ((rd a0 x73).Answer.Err), .bool ((rd a0 x73).Answer.Found), .string (bs ((rd a0 x73).Answer.Value)), .slice A120 ((rd a0 x73).Answer.Pairs).length c121]) (x_loadA (S.frz hb115) ty30 rfl (sub_el hc118 2 rfl) rfl rfl) rfl (W_v (.agg #[.int .u8 0, .int .i64 0, .int .i64 0, .int .i64 ((rd a0 x73).Answer.Err), .bool ((rd a0 x73).Answer.Found), .string (bs ((rd a0 x73).Answer.Value)), .slice A120 ((rd a0 x73).Answer.Pairs).length c121]) (x_build2 (pl := [(0, 1), (1, 1), (2, 1), (3, 4)]) #[.int .u8 0, .int .i64 0, .int .i64 0, .int .i64 ((rd a0 x73).Answer.Err), .bool ((rd a0 x73).Answer.Found), .string (bs ((rd a0 x73).Answer.Value)), .slice A120 ((rd a0 x73).Answer.Pairs).length c121] Try.underlying32 ty32 (by as_aux_lemma => kernel_rfl) rfl (by as_aux_lemma => kernel_rfl)) rfl ?_)))
          refine W_bslice S #[.int .u8 0, .int .i64 0, .int .i64 0, .int .i64 ((rd a0 x73).Answer.Err), .bool ((rd a0 x73).Answer.Found), .string (bs ((rd a0 x73).Answer.Value)), .slice A120 ((rd a0 x73).Answer.Pairs).length c121] Try.underlying22 ty32 rfl rfl #[.int .u8 0, .int .i64 0, .int .i64 0, .int .i64 0, .bool false, .string (bs ([] : Str)), .slice none 0 0] (by as_aux_lemma => kernel_rfl) (by as_aux_lemma => kernel_rfl) rfl ?_
          intro b124 w125 E' S
          replace E := E.trans E'
          replace S := S.blk_row (r := r_api_Event) (l := ([(⟨(0 : Int), (0 : Int), (0 : Int), ⟨(rd a0 x73).Answer.Err, (rd a0 x73).Answer.Found, (rd a0 x73).Answer.Value, (rd a0 x73).Answer.Pairs⟩⟩ : api_Event)] : List api_Event)) 0 rfl 1 (Nat.le_refl 1) rfl (Cells.cons (vs := [.int .u8 0, .int .i64 0, .int .i64 0, .int .i64 ((rd a0 x73).Answer.Err), .bool ((rd a0 x73).Answer.Found), .string (bs ((rd a0 x73).Answer.Value)), .slice A120 ((rd a0 x73).Answer.Pairs).length c121]) (⟨_, hs122, rfl⟩) Cells.nil)
          obtain ⟨x127, he128, H⟩ := bindS H
          replace he128 := Option.some.inj he128
          rw [he128] at S
          refine Eq.mpr (congrArg (fun z => Wl _ _ _ _ _ _ (upd _ _ z) _) (show Value.slice (some ⟨b124, 0, none⟩) 1 1 = Value.slice (some ⟨b124, 0, none⟩) x127.length 1 from (by rw [← he128]; rfl))) ?_
          obtain ⟨p129, H⟩ := chkS H
          obtain ⟨src130, hs131, hC132⟩ := src_of_read (P := Try.prog) (ρ := r_api_Event) (l := x127) (S.row_read 0 rfl) (by decide)
          refine W_append S 1 rfl rfl rfl Try.underlying22 (.inl Try.underlying22) ty32 rfl (by decide) (by decide) hs131 hC132 rfl (by omega) rfl ?_
          intro v133 w134 E' S
          replace E := E.trans E'
          obtain ⟨A135, c136, rfl, _⟩ := (S.row_read 1 rfl).form
          refine W_v (.slice A135 (x69 ++ x127).length c136) (x_assign rfl) rfl (Wl_nil (bn (tn (Wp_region_lit (W_v (.int .i64 x73) (x_move rfl) rfl (W_v (.int .i64 (IntKind.i64.wrap (x73 + (1 : Int)))) (x_ibin rfl rfl rfl rfl) rfl (W_v (.int .i64 (IntKind.i64.wrap (x73 + (1 : Int)))) (x_assign rfl) rfl (Wl_nil (tn ?_)))))))))
          exact ⟨k, Nat.lt_succ_self k, ⟨(x69 ++ x127), (IntKind.i64.wrap (x73 + (1 : Int))), A135, c136, H, ⟨rfl, rfl, rfl, trivial⟩, E, S.pick [1] (by decide)⟩⟩
        refine Wp_cond_false (congrArg Value.bool hb109) ?_
        refine Wp_exit ?_
        refine tx (tx (bsm (?_)))
        refine tn ?_
        exact ⟨x69, A70, c71, Option.some.inj H, ⟨rfl, trivial⟩, E, S.pick [0] (by decide)⟩
  rintro ρ w137 ⟨x102, A103, c104, rfl, hρ, E, S⟩
  rw [agree_eta hρ]
  have H := o106H
  refine tn ?_
  as_aux_lemma =>
  refine Wp_seq (Wp_region_lit (W_v (.slice A103 x102.length c104) (x_move rfl) rfl ?_))
  obtain ⟨t138, ht139, H⟩ := bindS H
  refine W_callN 1 fn11 (fun h9 hs9 hd9 => ferrymanlaw06_wide.con k _ A103 c104 x102 t138 (Sats.row hs9 hd9 0 rfl) ht139) S rfl rfl (by rintro _ _ _ ⟨_, rfl⟩; exact flat_nil) ?_
  rintro _ w140 _ Γ' E' S ⟨rfl, rfl⟩
  replace E := E.trans E'
  refine W_v (.bool t138) (x_assign rfl) rfl (Wl_nil (tn ?_))
  refine Wp_ret ?_
  obtain rfl := Option.some.inj H
  exact ⟨_, _, _, fun w1 e1 => run_resR (vs := [.bool t138]) (FA.cons (rfl) (FA.nil)), HM, E, S.pick [] (by decide), ⟨rfl, rfl⟩⟩
def ferrymanref06_Next (k : Nat) (a0 : Int) (a1 : (List api_Event)) (a2 : Int) (a3 : Int) (a4 : api_Answer) : Option ((List api_Event) × Bool) :=
  (Option.bind (α := Int × Bool × Str × List api_Pair) (if (a2 != (3 : Int)) = true then some ((0 : Int), false, ([] : Str), ([] : List api_Pair)) else some (a4.Err, a4.Found, a4.Value, a4.Pairs)) (fun ⟨x8, x9, x10, x11⟩ => (if ([] : List api_Event).length + a1.length ≤ 1759218604441 then (Option.bind (ferrymanref06_of k a1 a3) (fun t63 => (if (([] : List api_Event) ++ a1).length + ([(⟨a2, a3, (IntKind.i64.wrap (Int.tdiv (t63.length : Int) (3 : Int))), ⟨x8, x9, x10, x11⟩⟩ : api_Event)] : List api_Event).length ≤ 1759218604441 then (Option.bind (ferrymanref06_Legal k a0 ((([] : List api_Event) ++ a1) ++ ([(⟨a2, a3, (IntKind.i64.wrap (Int.tdiv (t63.length : Int) (3 : Int))), ⟨x8, x9, x10, x11⟩⟩ : api_Event)] : List api_Event))) (fun t82 => (if t82 = true then some (((([] : List api_Event) ++ a1) ++ ([(⟨a2, a3, (IntKind.i64.wrap (Int.tdiv (t63.length : Int) (3 : Int))), ⟨x8, x9, x10, x11⟩⟩ : api_Event)] : List api_Event)), true) else some (a1, false)))) else none))) else none)))
set_option maxHeartbeats 2000000 in
theorem ferrymanref06_Next.mono {k : Nat} {a0 : Int} {a1 : (List api_Event)} {a2 : Int} {a3 : Int} {a4 : api_Answer} : OLe (ferrymanref06_Next k a0 a1 a2 a3 a4) (ferrymanref06_Next (k + 1) a0 a1 a2 a3 a4) := by
  unfold ferrymanref06_Next
  repeat' (first | with_reducible exact OLe.none | with_reducible exact OLe.some | with_reducible refine OLe.ite ?_ ?_ | with_reducible refine OLe.bind ?_ (fun _ => ?_) | with_reducible exact ferrymanref06_Legal.mono | with_reducible exact ferrymanref06_of.mono | refine OLe.bind ?_ (fun _ => ?_) | refine OLe.ite ?_ ?_ | refine OLe.elim (fun _ => ?_) (fun _ => ?_) | split)
set_option maxHeartbeats 1000000 in
set_option maxRecDepth 100000 in
theorem ferrymanref06_Next.con (k : Nat) (M : Hp) (a0 : Int) (A1 : Option Addr) (c1 : Nat) (a1 : (List api_Event)) (a2 : Int) (a3 : Int) (A4_0 : Option Addr) (c4_0 : Nat) (a4 : api_Answer) (r : (List api_Event) × Bool) (hr1 : SlR r_api_Event M (.slice A1 a1.length c1) a1) (hr4_0 : SlR r_api_Pair M (.slice A4_0 a4.Pairs.length c4_0) a4.Pairs) (h : ferrymanref06_Next k a0 a1 a2 a3 a4 = some r) : Con Try.prog 17 #[.int .i64 a0, .slice A1 a1.length c1, .int .u8 a2, .int .i64 a3, .agg #[.int .i64 a4.Err, .bool a4.Found, .string (bs a4.Value), .slice A4_0 a4.Pairs.length c4_0]] M [] (fun v M' Γ' => ∃ (A0 : Option Addr) (c0 : Nat), v = .tuple #[.slice A0 r.1.length c0, .bool r.2] ∧ SlR r_api_Event M' (.slice A0 r.1.length c0) r.1 ∧ Γ' = []) := by
  refine con_of_wp Try.func17 rfl Try.ntmps17 Try.results17 rfl ?_
  intro w F rn S hrn
  have E := Ext.refl w
  have HM := Hp.le_refl M
  have H := h
  unfold ferrymanref06_Next at H
  refine Wp_seq (Wp_region_lit ?_)
  refine W_box S #[.int .i64 a4.Err, .bool a4.Found, .string (bs a4.Value), .slice A4_0 a4.Pairs.length c4_0] rfl rfl rfl ?_
  intro b1 w2 E' S
  replace E := E.trans E'
  refine W_v (.slice none 0 0) (x_assign rfl) rfl (W_v (.bool false) (x_assign rfl) rfl (Wl_nil (tn (Wp_seq (Wp_seq (Wp_region_lit (W_v (.int .u8 a2) (x_move rfl) rfl (W_v (.bool (a2 != (3 : Int))) (x_ibin rfl rfl rfl rfl) rfl (Wl_nil (tn ?_))))))))))
  obtain ⟨o15, o15h, o15H⟩ := bindS H
  refine Wp_cut (fun ρ w' => ∃ (x8 : Int) (x9 : Bool) (x10 : Str) (x11 : List api_Pair) (A12 : Option Addr) (c13 : Nat), (x8, x9, x10, x11) = o15 ∧ Agree ρ [(0, .int .i64 a0), (1, .slice A1 a1.length c1), (2, .int .u8 a2), (3, .int .i64 a3), (9, pt b1 0)] ∧ Ext w w' ∧ St w' M F [Blk b1 (.cells #[.int .i64 x8, .bool x9, .string (bs x10), .slice A12 x11.length c13] 30 (0, 0))] ∧ SlR r_api_Pair M (.slice A12 x11.length c13) x11) ?_ ?_
  · clear o15H
    have H := o15h
    rcases iteS H with ⟨hb16, H⟩ | ⟨hb16, H⟩
    · refine Wp_cond_true (congrArg Value.bool hb16) ?_
      refine Wp_region_lit (W_v (.agg #[.int .i64 0, .bool false, .string (bs ([] : Str)), .slice none 0 0]) (x_build2 (pl := [(0, 1), (1, 1), (2, 1), (3, 1)]) #[.int .i64 0, .bool false, .string (bs ([] : Str)), .slice none 0 0] Try.underlying30 ty30 (by as_aux_lemma => kernel_rfl) rfl (by as_aux_lemma => kernel_rfl)) rfl ?_)
      refine W_store S 0 rfl ty30 rfl rfl [.int .i64 0, .bool false, .string (bs ([] : Str)), .slice none 0 0] rfl rfl rfl #[.int .i64 0, .bool false, .string (bs ([] : Str)), .slice none 0 0] rfl rfl ?_
      intro w17 E' S
      replace E := E.trans E'
      refine Wl_nil (tn ?_)
      exact ⟨(0 : Int), false, ([] : Str), ([] : List api_Pair), none, 0, Option.some.inj H, ⟨rfl, rfl, rfl, rfl, rfl, trivial⟩, E, S.pick [0] (by decide), (SlW.nil _ _)⟩
    refine Wp_cond_false (congrArg Value.bool hb16) (Wp_skip (tn ?_))
    exact ⟨a4.Err, a4.Found, a4.Value, a4.Pairs, A4_0, c4_0, Option.some.inj H, ⟨rfl, rfl, rfl, rfl, rfl, trivial⟩, E, S.pick [0] (by decide), hr4_0⟩
  as_aux_lemma =>
  rintro ρ w18 ⟨x8, x9, x10, x11, A12, c13, rfl, hρ, E, S, hs14⟩
  rw [agree_eta hρ]
  have H := o15H
  refine tn (Wp_seq ?_)
  have LE49 := Hp.le_refl M
  refine Wp_region_any (S := fun w' => ∃ Mx, M.le Mx ∧ St w' Mx F [Blk b1 (.cells #[.int .i64 x8, .bool x9, .string (bs x10), .slice A12 x11.length c13] 30 (0, 0))]) (L := 15) mixed ?_
  intro w50 hw51 E'
  replace S := S.heap hw51
  replace E := E.trans E'
  have hr1z := hr1
  have hr4_0z := hr4_0
  have hs14z := hs14
  have D1 : ∃ Mx, Hp.le M Mx ∧ St _ Mx F [_] := ⟨_, Hp.le_refl _, S.pick [0] (by decide)⟩
  refine Wa_take (i := 1) rfl (by kernel_rfl) rfl rfl (.slice A1 a1.length c1) rfl (fun w' h' => x_move rfl) D1 (Wa_take (i := 3) rfl (by kernel_rfl) rfl rfl (.int .u8 a2) rfl (fun w' h' => x_move rfl) D1 (Wa_take (i := 4) rfl (by kernel_rfl) rfl rfl (.int .i64 a3) rfl (fun w' h' => x_move rfl) D1 (Wa_take (i := 5) rfl (by kernel_rfl) rfl rfl (.slice A1 a1.length c1) rfl (fun w' h' => x_move rfl) D1 (Wa_take (i := 6) rfl (by kernel_rfl) rfl rfl (.int .i64 a3) rfl (fun w' h' => x_move rfl) D1 (Wa_take (i := 10) rfl (by kernel_rfl) rfl rfl (.agg #[.int .i64 x8, .bool x9, .string (bs x10), .slice A12 x11.length c13]) rfl (fun w' h' => x_loadA (cls_blk h' 0 rfl) ty30 rfl (sub_of_extract rfl) rfl rfl) D1 ?_)))))
  refine Wa_solo (i := 0) rfl (by kernel_rfl) ?_
  refine W_bslice S #[] Try.underlying22 ty32 rfl rfl #[] (by as_aux_lemma => kernel_rfl) (by as_aux_lemma => kernel_rfl) rfl ?_
  intro b52 w53 E' S
  replace E := E.trans E'
  replace S := S.blk_row (r := r_api_Event) (l := ([] : List api_Event)) 0 rfl 0 (Nat.le_refl 0) rfl Cells.nil
  refine Wl_nil (on_n ⟨.inr ⟨M, Hp.le_refl M, (S.pick [1] (by decide))⟩, ?_⟩)
  refine Wa_solo (i := 2) rfl (by kernel_rfl) ?_
  obtain ⟨p55, H⟩ := chkS H
  obtain ⟨src56, hs57, hC58⟩ := src_of_read (P := Try.prog) (ρ := r_api_Event) (l := a1) (SlR.world hr1 S) (by decide)
  refine W_append S 0 rfl rfl rfl Try.underlying22 (.inl Try.underlying22) ty32 rfl (by decide) (by decide) hs57 hC58 rfl (by omega) rfl ?_
  intro v59 w60 E' S
  replace E := E.trans E'
  obtain ⟨A61, c62, rfl, _⟩ := (S.row_read 0 rfl).form
  refine Wl_nil (on_n ⟨.inr ⟨M, Hp.le_refl M, (S.pick [1] (by decide))⟩, ?_⟩)
  refine Wa_solo (i := 7) rfl (by kernel_rfl) ?_
  obtain ⟨t63, ht64, H⟩ := bindS H
  refine W_call fn35 (ferrymanref06_of.con k M A1 c1 a1 a3 t63 hr1 ht64) (Γ1 := []) (Γ2 := [_, _]) S rfl rfl ?_
  rintro _ w68 M69 Γ' hM70 E' S ⟨A65, c66, rfl, rfl⟩
  replace HM := Hp.le_trans HM hM70
  replace LE49 := Hp.le_trans LE49 hM70
  replace hr1 := SlR.mono hr1 hM70
  replace hr4_0 := SlR.mono hr4_0 hM70
  replace hs14 := SlR.mono hs14 hM70
  replace E := E.trans E'
  refine Wl_nil (on_n ⟨.inr ⟨M69, LE49, (S.pick [2] (by decide))⟩, ?_⟩)
  refine Wa_take (i := 8) rfl (by kernel_rfl) rfl rfl (.int .i64 (t63.length : Int)) rfl (fun w' h' => x_len_slice (n := t63.length) Try.underlying22 rfl) (⟨M69, LE49, (S.pick [2] (by decide))⟩) (Wa_take (i := 9) rfl (by kernel_rfl) rfl rfl (.int .i64 (IntKind.i64.wrap (Int.tdiv (t63.length : Int) (3 : Int)))) rfl (fun w' h' => x_quo rfl rfl (by decide)) (⟨M69, LE49, (S.pick [2] (by decide))⟩) (Wa_take (i := 11) rfl (by kernel_rfl) rfl rfl (.agg #[.int .u8 a2, .int .i64 a3, .int .i64 (IntKind.i64.wrap (Int.tdiv (t63.length : Int) (3 : Int))), .int .i64 x8, .bool x9, .string (bs x10), .slice A12 x11.length c13]) rfl (fun w' h' => x_build2 (pl := [(0, 1), (1, 1), (2, 1), (3, 4)]) #[.int .u8 a2, .int .i64 a3, .int .i64 (IntKind.i64.wrap (Int.tdiv (t63.length : Int) (3 : Int))), .int .i64 x8, .bool x9, .string (bs x10), .slice A12 x11.length c13] Try.underlying32 ty32 (by as_aux_lemma => kernel_rfl) rfl (by as_aux_lemma => kernel_rfl)) (⟨M69, LE49, (S.pick [2] (by decide))⟩) ?_))
  refine Wa_solo (i := 12) rfl (by kernel_rfl) ?_
  refine W_bslice S #[.int .u8 a2, .int .i64 a3, .int .i64 (IntKind.i64.wrap (Int.tdiv (t63.length : Int) (3 : Int))), .int .i64 x8, .bool x9, .string (bs x10), .slice A12 x11.length c13] Try.underlying22 ty32 rfl rfl #[.int .u8 0, .int .i64 0, .int .i64 0, .int .i64 0, .bool false, .string (bs ([] : Str)), .slice none 0 0] (by as_aux_lemma => kernel_rfl) (by as_aux_lemma => kernel_rfl) rfl ?_
  intro b71 w72 E' S
  replace E := E.trans E'
  replace S := S.blk_row (r := r_api_Event) (l := ([(⟨a2, a3, (IntKind.i64.wrap (Int.tdiv (t63.length : Int) (3 : Int))), ⟨x8, x9, x10, x11⟩⟩ : api_Event)] : List api_Event)) 0 rfl 1 (Nat.le_refl 1) rfl (Cells.cons (vs := [.int .u8 a2, .int .i64 a3, .int .i64 (IntKind.i64.wrap (Int.tdiv (t63.length : Int) (3 : Int))), .int .i64 x8, .bool x9, .string (bs x10), .slice A12 x11.length c13]) (⟨_, hs14, rfl⟩) Cells.nil)
  refine Wl_nil (on_n ⟨.inr ⟨M69, LE49, (S.pick [3] (by decide))⟩, ?_⟩)
  refine Wa_solo (i := 13) rfl (by kernel_rfl) ?_
  obtain ⟨p74, H⟩ := chkS H
  obtain ⟨src75, hs76, hC77⟩ := src_of_read (P := Try.prog) (ρ := r_api_Event) (l := ([(⟨a2, a3, (IntKind.i64.wrap (Int.tdiv (t63.length : Int) (3 : Int))), ⟨x8, x9, x10, x11⟩⟩ : api_Event)] : List api_Event)) (S.row_read 0 rfl) (by decide)
  refine W_append S 2 rfl rfl rfl Try.underlying22 (.inl Try.underlying22) ty32 rfl (by decide) (by decide) hs76 hC77 rfl (by omega) rfl ?_
  intro v78 w79 E' S
  replace E := E.trans E'
  obtain ⟨A80, c81, rfl, _⟩ := (S.row_read 2 rfl).form
  refine Wl_nil (on_n ⟨.inr ⟨M69, LE49, (S.pick [3] (by decide))⟩, ?_⟩)
  refine Wa_take (i := 14) rfl (by kernel_rfl) rfl rfl (.slice A80 ((([] : List api_Event) ++ a1) ++ ([(⟨a2, a3, (IntKind.i64.wrap (Int.tdiv (t63.length : Int) (3 : Int))), ⟨x8, x9, x10, x11⟩⟩ : api_Event)] : List api_Event)).length c81) rfl (fun w' h' => x_assign rfl) (⟨M69, LE49, (S.pick [3] (by decide))⟩) ?_
  refine Wa_done (by kernel_rfl) ?_
  refine tn ?_
  as_aux_lemma =>
  refine Wp_seq (Wp_seq (Wp_region_lit (W_v (.int .i64 a0) (x_move rfl) rfl (W_v (.slice A80 ((([] : List api_Event) ++ a1) ++ ([(⟨a2, a3, (IntKind.i64.wrap (Int.tdiv (t63.length : Int) (3 : Int))), ⟨x8, x9, x10, x11⟩⟩ : api_Event)] : List api_Event)).length c81) (x_move rfl) rfl ?_))))
  replace S : St w79 M69 F [_, _, _, _] := S.pick [2, 0, 1, 3] (by decide)
  obtain ⟨t82, ht83, H⟩ := bindS H
  refine W_callN 1 fn15 (fun h9 hs9 hd9 => ferrymanref06_Legal.con k _ a0 A80 c81 ((([] : List api_Event) ++ a1) ++ ([(⟨a2, a3, (IntKind.i64.wrap (Int.tdiv (t63.length : Int) (3 : Int))), ⟨x8, x9, x10, x11⟩⟩ : api_Event)] : List api_Event)) t82 (Sats.row hs9 hd9 0 rfl) ht83) S rfl rfl (by rintro _ _ _ ⟨_, rfl⟩; exact flat_nil) ?_
  rintro _ w84 _ Γ' E' S ⟨rfl, rfl⟩
  replace E := E.trans E'
  refine Wl_nil (tn ?_)
  rcases iteS H with ⟨hb85, H⟩ | ⟨hb85, H⟩
  · refine Wp_cond_true (congrArg Value.bool hb85) ?_
    refine Wp_seq (Wp_region_lit (W_v (.slice A80 ((([] : List api_Event) ++ a1) ++ ([(⟨a2, a3, (IntKind.i64.wrap (Int.tdiv (t63.length : Int) (3 : Int))), ⟨x8, x9, x10, x11⟩⟩ : api_Event)] : List api_Event)).length c81) (x_move rfl) rfl (W_v (.slice A80 ((([] : List api_Event) ++ a1) ++ ([(⟨a2, a3, (IntKind.i64.wrap (Int.tdiv (t63.length : Int) (3 : Int))), ⟨x8, x9, x10, x11⟩⟩ : api_Event)] : List api_Event)).length c81) (x_assign rfl) rfl (W_v (.bool true) (x_assign rfl) rfl (Wl_nil (tn ?_))))))
    refine Wp_ret ?_
    refine tr (?_)
    obtain rfl := Option.some.inj H
    obtain ⟨M86, hM87, hf88, S⟩ := S.row_freeze 0 rfl
    replace HM := Hp.le_trans HM hM87
    replace LE49 := Hp.le_trans LE49 hM87
    replace hr1 := SlR.mono hr1 hM87
    replace hr4_0 := SlR.mono hr4_0 hM87
    replace hs14 := SlR.mono hs14 hM87
    exact ⟨_, _, _, fun w1 e1 => run_resR (vs := [.slice A80 ((([] : List api_Event) ++ a1) ++ ([(⟨a2, a3, (IntKind.i64.wrap (Int.tdiv (t63.length : Int) (3 : Int))), ⟨x8, x9, x10, x11⟩⟩ : api_Event)] : List api_Event)).length c81, .bool true]) (FA.cons (rfl) (FA.cons (rfl) (FA.nil))), HM, E, S.pick [] (by decide), ⟨A80, c81, rfl, hf88, rfl⟩⟩
  refine Wp_cond_false (congrArg Value.bool hb85) (Wp_skip (tn (Wp_seq (Wp_region_lit (W_v (.slice A1 a1.length c1) (x_move rfl) rfl (W_v (.slice A1 a1.length c1) (x_assign rfl) rfl (W_v (.bool false) (x_assign rfl) rfl (Wl_nil (tn ?_)))))))))
  refine Wp_ret ?_
  obtain rfl := Option.some.inj H
  exact ⟨_, _, _, fun w1 e1 => run_resR (vs := [.slice A1 a1.length c1, .bool false]) (FA.cons (rfl) (FA.cons (rfl) (FA.nil))), HM, E, S.pick [] (by decide), ⟨A1, c1, rfl, hr1, rfl⟩⟩
def ferrymanref06_Under (k : Nat) (a0 : (List api_Event)) (a1 : Int) : Option (Int × Bool × Bool) :=
  (Option.bind (ferrymanref06_of k a0 a1) (fun t1 => (if ((Int.tmod (t1.length : Int) (3 : Int)) == (0 : Int)) = true then some ((0 : Int), false, false) else some ((IntKind.i64.wrap (Int.tdiv (t1.length : Int) (3 : Int))), ((Int.tmod (t1.length : Int) (3 : Int)) == (2 : Int)), true))))
set_option maxHeartbeats 2000000 in
theorem ferrymanref06_Under.mono {k : Nat} {a0 : (List api_Event)} {a1 : Int} : OLe (ferrymanref06_Under k a0 a1) (ferrymanref06_Under (k + 1) a0 a1) := by
  unfold ferrymanref06_Under
  repeat' (first | with_reducible exact OLe.none | with_reducible exact OLe.some | with_reducible refine OLe.ite ?_ ?_ | with_reducible refine OLe.bind ?_ (fun _ => ?_) | with_reducible exact ferrymanref06_of.mono | refine OLe.bind ?_ (fun _ => ?_) | refine OLe.ite ?_ ?_ | refine OLe.elim (fun _ => ?_) (fun _ => ?_) | split)
set_option maxHeartbeats 1000000 in
set_option maxRecDepth 100000 in
theorem ferrymanref06_Under.con (k : Nat) (M : Hp) (A0 : Option Addr) (c0 : Nat) (a0 : (List api_Event)) (a1 : Int) (r : Int × Bool × Bool) (hr0 : SlR r_api_Event M (.slice A0 a0.length c0) a0) (h : ferrymanref06_Under k a0 a1 = some r) : Con Try.prog 21 #[.slice A0 a0.length c0, .int .i64 a1] M [] (fun v M' Γ' => v = .tuple #[.int .i64 r.1, .bool r.2.1, .bool r.2.2] ∧ Γ' = []) := by
  refine con_of_wp Try.func21 rfl Try.ntmps21 Try.results21 rfl ?_
  intro w F rn S hrn
  have E := Ext.refl w
  have HM := Hp.le_refl M
  have H := h
  unfold ferrymanref06_Under at H
  refine Wp_seq (Wp_region_lit (W_v (.int .i64 0) (x_assign rfl) rfl (W_v (.bool false) (x_assign rfl) rfl (W_v (.bool false) (x_assign rfl) rfl (Wl_nil (tn (Wp_seq (Wp_region_lit (W_v (.slice A0 a0.length c0) (x_move rfl) rfl (W_v (.int .i64 a1) (x_move rfl) rfl ?_))))))))))
  obtain ⟨t1, ht2, H⟩ := bindS H
  refine W_call fn35 (ferrymanref06_of.con k M A0 c0 a0 a1 t1 hr0 ht2) (Γ1 := []) (Γ2 := []) S rfl rfl ?_
  rintro _ w6 M7 Γ' hM8 E' S ⟨A3, c4, rfl, rfl⟩
  replace HM := Hp.le_trans HM hM8
  replace hr0 := SlR.mono hr0 hM8
  replace E := E.trans E'
  refine W_v (.int .i64 (t1.length : Int)) (x_len_slice (n := t1.length) Try.underlying22 rfl) rfl (W_v (.int .i64 (t1.length : Int)) (x_assign rfl) rfl (Wl_nil (tn (Wp_seq (Wp_seq (Wp_region_lit (W_v (.int .i64 (t1.length : Int)) (x_move rfl) rfl (W_v (.int .i64 (Int.tmod (t1.length : Int) (3 : Int))) (x_rem rfl rfl (by decide)) rfl (W_v (.bool ((Int.tmod (t1.length : Int) (3 : Int)) == (0 : Int))) (x_ibin rfl rfl rfl rfl) rfl (Wl_nil (tn ?_)))))))))))
  rcases iteS H with ⟨hb9, H⟩ | ⟨hb9, H⟩
  · refine Wp_cond_true (congrArg Value.bool hb9) ?_
    refine Wp_seq (Wp_region_lit (W_v (.int .i64 0) (x_assign rfl) rfl (W_v (.bool false) (x_assign rfl) rfl (W_v (.bool false) (x_assign rfl) rfl (Wl_nil (tn ?_))))))
    refine Wp_ret ?_
    refine tr (?_)
    obtain rfl := Option.some.inj H
    exact ⟨_, _, _, fun w1 e1 => run_resR (vs := [.int .i64 0, .bool false, .bool false]) (FA.cons (rfl) (FA.cons (rfl) (FA.cons (rfl) (FA.nil)))), HM, E, S.pick [] (by decide), ⟨rfl, rfl⟩⟩
  refine Wp_cond_false (congrArg Value.bool hb9) (Wp_skip (tn ?_))
  as_aux_lemma =>
  refine Wp_seq (Wp_region_lit (W_v (.int .i64 (t1.length : Int)) (x_move rfl) rfl (W_v (.int .i64 (IntKind.i64.wrap (Int.tdiv (t1.length : Int) (3 : Int)))) (x_quo rfl rfl (by decide)) rfl (W_v (.int .i64 (t1.length : Int)) (x_move rfl) rfl (W_v (.int .i64 (Int.tmod (t1.length : Int) (3 : Int))) (x_rem rfl rfl (by decide)) rfl (W_v (.bool ((Int.tmod (t1.length : Int) (3 : Int)) == (2 : Int))) (x_ibin rfl rfl rfl rfl) rfl (W_v (.int .i64 (IntKind.i64.wrap (Int.tdiv (t1.length : Int) (3 : Int)))) (x_assign rfl) rfl (W_v (.bool ((Int.tmod (t1.length : Int) (3 : Int)) == (2 : Int))) (x_assign rfl) rfl (W_v (.bool true) (x_assign rfl) rfl (Wl_nil (tn ?_)))))))))))
  refine Wp_ret ?_
  obtain rfl := Option.some.inj H
  exact ⟨_, _, _, fun w1 e1 => run_resR (vs := [.int .i64 (IntKind.i64.wrap (Int.tdiv (t1.length : Int) (3 : Int))), .bool ((Int.tmod (t1.length : Int) (3 : Int)) == (2 : Int)), .bool true]) (FA.cons (rfl) (FA.cons (rfl) (FA.cons (rfl) (FA.nil)))), HM, E, S.pick [] (by decide), ⟨rfl, rfl⟩⟩
def event_Recorder_put_Z (k : Nat) (a1 : Int) (a2 : Int) (a3 : api_Event) : Option (Int) :=
  some (2 : Int)
set_option maxHeartbeats 2000000 in
theorem event_Recorder_put_Z.mono {k : Nat} {a1 : Int} {a2 : Int} {a3 : api_Event} : OLe (event_Recorder_put_Z k a1 a2 a3) (event_Recorder_put_Z (k + 1) a1 a2 a3) := by
  unfold event_Recorder_put_Z
  repeat' (first | with_reducible exact OLe.none | with_reducible exact OLe.some | with_reducible refine OLe.ite ?_ ?_ | with_reducible refine OLe.bind ?_ (fun _ => ?_) | refine OLe.bind ?_ (fun _ => ?_) | refine OLe.ite ?_ ?_ | refine OLe.elim (fun _ => ?_) (fun _ => ?_) | split)
set_option maxHeartbeats 4000000 in
set_option maxRecDepth 100000 in
theorem event_Recorder_put_Z.con (k : Nat) (M : Hp) (a1 : Int) (a2 : Int) (A3_0 : Option Addr) (c3_0 : Nat) (a3 : api_Event) (r : Int) (hr3_0 : SlR r_api_Pair M (.slice A3_0 a3.Answer.Pairs.length c3_0) a3.Answer.Pairs) (h : event_Recorder_put_Z k a1 a2 a3 = some r) : Con Try.prog 34 #[.pointer none, .int .i64 a1, .int .i64 a2, .agg #[.int .u8 a3.What, .int .i64 a3.Task, .int .i64 a3.Call, .int .i64 a3.Answer.Err, .bool a3.Answer.Found, .string (bs a3.Answer.Value), .slice A3_0 a3.Answer.Pairs.length c3_0]] M [] (fun v M' Γ' => v = .int .i64 r ∧ Γ' = []) := by
  refine con_of_wp Try.func34 rfl Try.ntmps34 Try.results34 rfl ?_
  intro w F rn S hrn
  have E := Ext.refl w
  have HM := Hp.le_refl M
  have H := h
  unfold event_Recorder_put_Z at H
  refine Wp_seq (Wp_region_lit ?_)
  refine W_box S #[.int .u8 a3.What, .int .i64 a3.Task, .int .i64 a3.Call, .int .i64 a3.Answer.Err, .bool a3.Answer.Found, .string (bs a3.Answer.Value), .slice A3_0 a3.Answer.Pairs.length c3_0] rfl rfl rfl ?_
  intro b1 w2 E' S
  replace E := E.trans E'
  refine W_v (.int .i64 0) (x_assign rfl) rfl (Wl_nil (tn (Wp_seq ?_)))
  refine Wp_block ?_
  refine Wp_seq (Wp_region_lit (W_v (.pointer none) (x_move rfl) rfl (W_v (.bool true) (x_eq_of (r := true) rfl rfl (run_eq_ptrnn Try.underlying36)) rfl (W_v (.bool true) (x_assign rfl) rfl (Wl_nil (tn (Wp_cond_true rfl (Wp_seq (Wp_region_lit (W_v (.int .i64 2) (x_assign rfl) rfl (Wl_nil (tn ?_))))))))))))
  refine Wp_ret ?_
  refine br (tr (?_))
  obtain rfl := Option.some.inj H
  exact ⟨_, _, _, fun w1 e1 => run_resR (vs := [.int .i64 2]) (FA.cons (rfl) (FA.nil)), HM, E, S.pick [] (by decide), ⟨rfl, rfl⟩⟩
def event_Recorder_Invoke_Z (k : Nat) (a1 : Int) : Option (Int) :=
  (Option.bind (event_Recorder_put_Z k a1 (0 : Int) (⟨(1 : Int), (0 : Int), (0 : Int), ⟨(0 : Int), false, ([] : Str), ([] : (List api_Pair))⟩⟩ : api_Event)) (fun t1 => some t1))
set_option maxHeartbeats 2000000 in
theorem event_Recorder_Invoke_Z.mono {k : Nat} {a1 : Int} : OLe (event_Recorder_Invoke_Z k a1) (event_Recorder_Invoke_Z (k + 1) a1) := by
  unfold event_Recorder_Invoke_Z
  repeat' (first | with_reducible exact OLe.none | with_reducible exact OLe.some | with_reducible refine OLe.ite ?_ ?_ | with_reducible refine OLe.bind ?_ (fun _ => ?_) | with_reducible exact event_Recorder_put_Z.mono | refine OLe.bind ?_ (fun _ => ?_) | refine OLe.ite ?_ ?_ | refine OLe.elim (fun _ => ?_) (fun _ => ?_) | split)
set_option maxHeartbeats 4000000 in
set_option maxRecDepth 100000 in
theorem event_Recorder_Invoke_Z.con (k : Nat) (M : Hp) (a1 : Int) (r : Int)  (h : event_Recorder_Invoke_Z k a1 = some r) : Con Try.prog 30 #[.pointer none, .int .i64 a1] M [] (fun v M' Γ' => v = .int .i64 r ∧ Γ' = []) := by
  refine con_of_wp Try.func30 rfl Try.ntmps30 Try.results30 rfl ?_
  intro w F rn S hrn
  have E := Ext.refl w
  have HM := Hp.le_refl M
  have H := h
  unfold event_Recorder_Invoke_Z at H
  refine Wp_seq (Wp_region_lit (W_v (.int .i64 0) (x_assign rfl) rfl (Wl_nil (tn (Wp_seq (Wp_region_lit (W_v (.pointer none) (x_move rfl) rfl (W_v (.int .i64 a1) (x_move rfl) rfl (W_v (.agg #[.int .u8 1, .int .i64 0, .int .i64 0, .int .i64 0, .bool false, .string (bs ([] : Str)), .slice none 0 0]) (x_build2 (pl := [(0, 1), (1, 1), (2, 1), (3, 4)]) #[.int .u8 1, .int .i64 0, .int .i64 0, .int .i64 0, .bool false, .string (bs ([] : Str)), .slice none 0 0] Try.underlying32 ty32 (by as_aux_lemma => kernel_rfl) rfl (by as_aux_lemma => kernel_rfl)) rfl ?_)))))))))
  obtain ⟨t1, ht2, H⟩ := bindS H
  refine W_callF2 fn34 (event_Recorder_put_Z.con k M a1 (0 : Int) none 0 (⟨(1 : Int), (0 : Int), (0 : Int), ⟨(0 : Int), false, ([] : Str), ([] : (List api_Pair))⟩⟩ : api_Event) t1 (SlW.nil _ _) ht2) (Γ1 := []) (Γ2 := []) S rfl rfl (by rintro _ _ _ ⟨rfl, rfl⟩; exact flat_nil) ?_
  rintro _ w3 _ Γ' E' S ⟨rfl, rfl⟩
  replace E := E.trans E'
  replace S : St w3 M F [] := S
  refine W_v (.int .i64 t1) (x_assign rfl) rfl (Wl_nil (tn ?_))
  refine Wp_ret ?_
  obtain rfl := Option.some.inj H
  exact ⟨_, _, _, fun w1 e1 => run_resR (vs := [.int .i64 t1]) (FA.cons (rfl) (FA.nil)), HM, E, S.pick [] (by decide), ⟨rfl, rfl⟩⟩
def event_Recorder_Mark_Z (k : Nat) (a1 : Int) : Option (Int) :=
  (Option.bind (event_Recorder_put_Z k a1 (1 : Int) (⟨(2 : Int), (0 : Int), (0 : Int), ⟨(0 : Int), false, ([] : Str), ([] : (List api_Pair))⟩⟩ : api_Event)) (fun t1 => some t1))
set_option maxHeartbeats 2000000 in
theorem event_Recorder_Mark_Z.mono {k : Nat} {a1 : Int} : OLe (event_Recorder_Mark_Z k a1) (event_Recorder_Mark_Z (k + 1) a1) := by
  unfold event_Recorder_Mark_Z
  repeat' (first | with_reducible exact OLe.none | with_reducible exact OLe.some | with_reducible refine OLe.ite ?_ ?_ | with_reducible refine OLe.bind ?_ (fun _ => ?_) | with_reducible exact event_Recorder_put_Z.mono | refine OLe.bind ?_ (fun _ => ?_) | refine OLe.ite ?_ ?_ | refine OLe.elim (fun _ => ?_) (fun _ => ?_) | split)
set_option maxHeartbeats 4000000 in
set_option maxRecDepth 100000 in
theorem event_Recorder_Mark_Z.con (k : Nat) (M : Hp) (a1 : Int) (r : Int)  (h : event_Recorder_Mark_Z k a1 = some r) : Con Try.prog 31 #[.pointer none, .int .i64 a1] M [] (fun v M' Γ' => v = .int .i64 r ∧ Γ' = []) := by
  refine con_of_wp Try.func31 rfl Try.ntmps31 Try.results31 rfl ?_
  intro w F rn S hrn
  have E := Ext.refl w
  have HM := Hp.le_refl M
  have H := h
  unfold event_Recorder_Mark_Z at H
  refine Wp_seq (Wp_region_lit (W_v (.int .i64 0) (x_assign rfl) rfl (Wl_nil (tn (Wp_seq (Wp_region_lit (W_v (.pointer none) (x_move rfl) rfl (W_v (.int .i64 a1) (x_move rfl) rfl (W_v (.agg #[.int .u8 2, .int .i64 0, .int .i64 0, .int .i64 0, .bool false, .string (bs ([] : Str)), .slice none 0 0]) (x_build2 (pl := [(0, 1), (1, 1), (2, 1), (3, 4)]) #[.int .u8 2, .int .i64 0, .int .i64 0, .int .i64 0, .bool false, .string (bs ([] : Str)), .slice none 0 0] Try.underlying32 ty32 (by as_aux_lemma => kernel_rfl) rfl (by as_aux_lemma => kernel_rfl)) rfl ?_)))))))))
  obtain ⟨t1, ht2, H⟩ := bindS H
  refine W_callF2 fn34 (event_Recorder_put_Z.con k M a1 (1 : Int) none 0 (⟨(2 : Int), (0 : Int), (0 : Int), ⟨(0 : Int), false, ([] : Str), ([] : (List api_Pair))⟩⟩ : api_Event) t1 (SlW.nil _ _) ht2) (Γ1 := []) (Γ2 := []) S rfl rfl (by rintro _ _ _ ⟨rfl, rfl⟩; exact flat_nil) ?_
  rintro _ w3 _ Γ' E' S ⟨rfl, rfl⟩
  replace E := E.trans E'
  replace S : St w3 M F [] := S
  refine W_v (.int .i64 t1) (x_assign rfl) rfl (Wl_nil (tn ?_))
  refine Wp_ret ?_
  obtain rfl := Option.some.inj H
  exact ⟨_, _, _, fun w1 e1 => run_resR (vs := [.int .i64 t1]) (FA.cons (rfl) (FA.nil)), HM, E, S.pick [] (by decide), ⟨rfl, rfl⟩⟩
def event_Recorder_Return_Z (k : Nat) (a1 : Int) (a2 : api_Answer) : Option (Int) :=
  (Option.bind (event_Recorder_put_Z k a1 (2 : Int) (⟨(3 : Int), (0 : Int), (0 : Int), ⟨a2.Err, a2.Found, a2.Value, a2.Pairs⟩⟩ : api_Event)) (fun t4 => some t4))
set_option maxHeartbeats 2000000 in
theorem event_Recorder_Return_Z.mono {k : Nat} {a1 : Int} {a2 : api_Answer} : OLe (event_Recorder_Return_Z k a1 a2) (event_Recorder_Return_Z (k + 1) a1 a2) := by
  unfold event_Recorder_Return_Z
  repeat' (first | with_reducible exact OLe.none | with_reducible exact OLe.some | with_reducible refine OLe.ite ?_ ?_ | with_reducible refine OLe.bind ?_ (fun _ => ?_) | with_reducible exact event_Recorder_put_Z.mono | refine OLe.bind ?_ (fun _ => ?_) | refine OLe.ite ?_ ?_ | refine OLe.elim (fun _ => ?_) (fun _ => ?_) | split)
set_option maxHeartbeats 4000000 in
set_option maxRecDepth 100000 in
theorem event_Recorder_Return_Z.con (k : Nat) (M : Hp) (a1 : Int) (A2_0 : Option Addr) (c2_0 : Nat) (a2 : api_Answer) (r : Int) (hr2_0 : SlR r_api_Pair M (.slice A2_0 a2.Pairs.length c2_0) a2.Pairs) (h : event_Recorder_Return_Z k a1 a2 = some r) : Con Try.prog 32 #[.pointer none, .int .i64 a1, .agg #[.int .i64 a2.Err, .bool a2.Found, .string (bs a2.Value), .slice A2_0 a2.Pairs.length c2_0]] M [] (fun v M' Γ' => v = .int .i64 r ∧ Γ' = []) := by
  refine con_of_wp Try.func32 rfl Try.ntmps32 Try.results32 rfl ?_
  intro w F rn S hrn
  have E := Ext.refl w
  have HM := Hp.le_refl M
  have H := h
  unfold event_Recorder_Return_Z at H
  refine Wp_seq (Wp_region_lit ?_)
  refine W_box S #[.int .i64 a2.Err, .bool a2.Found, .string (bs a2.Value), .slice A2_0 a2.Pairs.length c2_0] rfl rfl rfl ?_
  intro b1 w2 E' S
  replace E := E.trans E'
  refine W_v (.int .i64 0) (x_assign rfl) rfl (Wl_nil (tn (Wp_seq (Wp_region_lit (W_v (.pointer none) (x_move rfl) rfl (W_v (.int .i64 a1) (x_move rfl) rfl (W_v (.agg #[.int .i64 a2.Err, .bool a2.Found, .string (bs a2.Value), .slice A2_0 a2.Pairs.length c2_0]) (x_loadA (S.blk 0 rfl) ty30 rfl (sub_of_extract rfl) rfl rfl) rfl (W_v (.agg #[.int .u8 3, .int .i64 0, .int .i64 0, .int .i64 a2.Err, .bool a2.Found, .string (bs a2.Value), .slice A2_0 a2.Pairs.length c2_0]) (x_build2 (pl := [(0, 1), (1, 1), (2, 1), (3, 4)]) #[.int .u8 3, .int .i64 0, .int .i64 0, .int .i64 a2.Err, .bool a2.Found, .string (bs a2.Value), .slice A2_0 a2.Pairs.length c2_0] Try.underlying32 ty32 (by as_aux_lemma => kernel_rfl) rfl (by as_aux_lemma => kernel_rfl)) rfl ?_))))))))
  obtain ⟨t4, ht5, H⟩ := bindS H
  refine W_callF2 fn34 (event_Recorder_put_Z.con k M a1 (2 : Int) A2_0 c2_0 (⟨(3 : Int), (0 : Int), (0 : Int), ⟨a2.Err, a2.Found, a2.Value, a2.Pairs⟩⟩ : api_Event) t4 hr2_0 ht5) (Γ1 := []) (Γ2 := [_]) S rfl rfl (by rintro _ _ _ ⟨rfl, rfl⟩; exact flat_nil) ?_
  rintro _ w6 _ Γ' E' S ⟨rfl, rfl⟩
  replace E := E.trans E'
  replace S : St w6 M F [_] := S
  refine W_v (.int .i64 t4) (x_assign rfl) rfl (Wl_nil (tn ?_))
  refine Wp_ret ?_
  obtain rfl := Option.some.inj H
  exact ⟨_, _, _, fun w1 e1 => run_resR (vs := [.int .i64 t4]) (FA.cons (rfl) (FA.nil)), HM, E, S.pick [] (by decide), ⟨rfl, rfl⟩⟩
def ferrymanlaw06_Step_do_Z (k : Nat) (a0 : ferrymanlaw06_Step) : Option (Int) :=
  (if (a0.What == (1 : Int)) = true then (Option.bind (event_Recorder_Invoke_Z k a0.Task) (fun t5 => some t5)) else (if (a0.What == (2 : Int)) = true then (Option.bind (event_Recorder_Mark_Z k a0.Task) (fun t11 => some t11)) else (Option.bind (event_Recorder_Return_Z k a0.Task a0.Answer) (fun t16 => some t16))))
set_option maxHeartbeats 2000000 in
theorem ferrymanlaw06_Step_do_Z.mono {k : Nat} {a0 : ferrymanlaw06_Step} : OLe (ferrymanlaw06_Step_do_Z k a0) (ferrymanlaw06_Step_do_Z (k + 1) a0) := by
  unfold ferrymanlaw06_Step_do_Z
  repeat' (first | with_reducible exact OLe.none | with_reducible exact OLe.some | with_reducible refine OLe.ite ?_ ?_ | with_reducible refine OLe.bind ?_ (fun _ => ?_) | with_reducible exact event_Recorder_Invoke_Z.mono | with_reducible exact event_Recorder_Mark_Z.mono | with_reducible exact event_Recorder_Return_Z.mono | refine OLe.bind ?_ (fun _ => ?_) | refine OLe.ite ?_ ?_ | refine OLe.elim (fun _ => ?_) (fun _ => ?_) | split)
set_option maxHeartbeats 4000000 in
set_option maxRecDepth 100000 in
theorem ferrymanlaw06_Step_do_Z.con (k : Nat) (M : Hp) (A0_0 : Option Addr) (c0_0 : Nat) (a0 : ferrymanlaw06_Step) (r : Int) (hr0_0 : SlR r_api_Pair M (.slice A0_0 a0.Answer.Pairs.length c0_0) a0.Answer.Pairs) (h : ferrymanlaw06_Step_do_Z k a0 = some r) : Con Try.prog 16 #[.agg #[.int .u8 a0.What, .int .i64 a0.Task, .int .i64 a0.Answer.Err, .bool a0.Answer.Found, .string (bs a0.Answer.Value), .slice A0_0 a0.Answer.Pairs.length c0_0], .pointer none] M [] (fun v M' Γ' => v = .int .i64 r ∧ Γ' = []) := by
  refine con_of_wp Try.func16 rfl Try.ntmps16 Try.results16 rfl ?_
  intro w F rn S hrn
  have E := Ext.refl w
  have HM := Hp.le_refl M
  have H := h
  unfold ferrymanlaw06_Step_do_Z at H
  refine Wp_seq (Wp_region_lit ?_)
  refine W_box S #[.int .u8 a0.What, .int .i64 a0.Task, .int .i64 a0.Answer.Err, .bool a0.Answer.Found, .string (bs a0.Answer.Value), .slice A0_0 a0.Answer.Pairs.length c0_0] rfl rfl rfl ?_
  intro b1 w2 E' S
  replace E := E.trans E'
  refine W_v (.int .i64 0) (x_assign rfl) rfl (Wl_nil (tn (Wp_seq (Wp_seq (Wp_region_lit (W_v (pt b1 0) (x_fieldAddr (o := 0) (off := 0) Try.underlying40 rfl ty5 rfl rfl) rfl (W_v (.int .u8 a0.What) (x_load (S.blk 0 rfl) ty5 rfl rfl) rfl (Wl_nil (tn ?_)))))))))
  refine Wp_block ?_
  refine Wp_seq (Wp_region_lit (W_v (.bool (a0.What == (1 : Int))) (x_ibin rfl rfl rfl rfl) rfl (W_v (.bool (a0.What == (1 : Int))) (x_assign rfl) rfl (Wl_nil (tn ?_)))))
  rcases iteS H with ⟨hb4, H⟩ | ⟨hb4, H⟩
  · refine Wp_cond_true (congrArg Value.bool hb4) ?_
    refine Wp_seq (Wp_region_lit (W_v (.pointer none) (x_move rfl) rfl (W_v (pt b1 1) (x_fieldAddr (o := 0) (off := 1) Try.underlying40 rfl ty3 rfl rfl) rfl (W_v (.int .i64 a0.Task) (x_load (S.blk 0 rfl) ty3 rfl rfl) rfl ?_))))
    obtain ⟨t5, ht6, H⟩ := bindS H
    refine W_callF2 fn30 (event_Recorder_Invoke_Z.con k M a0.Task t5  ht6) (Γ1 := []) (Γ2 := [_]) S rfl rfl (by rintro _ _ _ ⟨rfl, rfl⟩; exact flat_nil) ?_
    rintro _ w7 _ Γ' E' S ⟨rfl, rfl⟩
    replace E := E.trans E'
    replace S : St w7 M F [_] := S
    refine W_v (.int .i64 t5) (x_assign rfl) rfl (Wl_nil (tn ?_))
    refine Wp_ret ?_
    refine br (tr (?_))
    obtain rfl := Option.some.inj H
    exact ⟨_, _, _, fun w1 e1 => run_resR (vs := [.int .i64 t5]) (FA.cons (rfl) (FA.nil)), HM, E, S.pick [] (by decide), ⟨rfl, rfl⟩⟩
  refine Wp_cond_false (congrArg Value.bool hb4) (Wp_seq (Wp_region_lit (W_v (.bool (a0.What == (2 : Int))) (x_ibin rfl rfl rfl rfl) rfl (W_v (.bool (a0.What == (2 : Int))) (x_assign rfl) rfl (Wl_nil (tn ?_))))))
  rcases iteS H with ⟨hb10, H⟩ | ⟨hb10, H⟩
  · refine Wp_cond_true (congrArg Value.bool hb10) ?_
    refine Wp_seq (Wp_region_lit (W_v (.pointer none) (x_move rfl) rfl (W_v (pt b1 1) (x_fieldAddr (o := 0) (off := 1) Try.underlying40 rfl ty3 rfl rfl) rfl (W_v (.int .i64 a0.Task) (x_load (S.blk 0 rfl) ty3 rfl rfl) rfl ?_))))
    obtain ⟨t11, ht12, H⟩ := bindS H
    refine W_callF2 fn31 (event_Recorder_Mark_Z.con k M a0.Task t11  ht12) (Γ1 := []) (Γ2 := [_]) S rfl rfl (by rintro _ _ _ ⟨rfl, rfl⟩; exact flat_nil) ?_
    rintro _ w13 _ Γ' E' S ⟨rfl, rfl⟩
    replace E := E.trans E'
    replace S : St w13 M F [_] := S
    refine W_v (.int .i64 t11) (x_assign rfl) rfl (Wl_nil (tn ?_))
    refine Wp_ret ?_
    refine br (tr (?_))
    obtain rfl := Option.some.inj H
    exact ⟨_, _, _, fun w1 e1 => run_resR (vs := [.int .i64 t11]) (FA.cons (rfl) (FA.nil)), HM, E, S.pick [] (by decide), ⟨rfl, rfl⟩⟩
  refine Wp_cond_false (congrArg Value.bool hb10) (Wp_skip (bn (tn ?_)))
  as_aux_lemma =>
  refine Wp_seq (Wp_region_lit (W_v (.pointer none) (x_move rfl) rfl (W_v (pt b1 1) (x_fieldAddr (o := 0) (off := 1) Try.underlying40 rfl ty3 rfl rfl) rfl (W_v (.int .i64 a0.Task) (x_load (S.blk 0 rfl) ty3 rfl rfl) rfl (W_v (pt b1 2) (x_fieldAddr (o := 0) (off := 2) Try.underlying40 rfl ty30 rfl rfl) rfl (W_v (.agg #[.int .i64 a0.Answer.Err, .bool a0.Answer.Found, .string (bs a0.Answer.Value), .slice A0_0 a0.Answer.Pairs.length c0_0]) (x_loadA (S.blk 0 rfl) ty30 rfl (sub_of_extract rfl) rfl rfl) rfl ?_))))))
  obtain ⟨t16, ht17, H⟩ := bindS H
  refine W_callF2 fn32 (event_Recorder_Return_Z.con k M a0.Task A0_0 c0_0 a0.Answer t16 hr0_0 ht17) (Γ1 := []) (Γ2 := [_]) S rfl rfl (by rintro _ _ _ ⟨rfl, rfl⟩; exact flat_nil) ?_
  rintro _ w18 _ Γ' E' S ⟨rfl, rfl⟩
  replace E := E.trans E'
  replace S : St w18 M F [_] := S
  refine W_v (.int .i64 t16) (x_assign rfl) rfl (Wl_nil (tn ?_))
  refine Wp_ret ?_
  obtain rfl := Option.some.inj H
  exact ⟨_, _, _, fun w1 e1 => run_resR (vs := [.int .i64 t16]) (FA.cons (rfl) (FA.nil)), HM, E, S.pick [] (by decide), ⟨rfl, rfl⟩⟩
def event_Recorder_Events_Z (k : Nat)  : Option ((List api_Event)) :=
  some ([] : List api_Event)
set_option maxHeartbeats 2000000 in
theorem event_Recorder_Events_Z.mono {k : Nat}  : OLe (event_Recorder_Events_Z k ) (event_Recorder_Events_Z (k + 1) ) := by
  unfold event_Recorder_Events_Z
  repeat' (first | with_reducible exact OLe.none | with_reducible exact OLe.some | with_reducible refine OLe.ite ?_ ?_ | with_reducible refine OLe.bind ?_ (fun _ => ?_) | refine OLe.bind ?_ (fun _ => ?_) | refine OLe.ite ?_ ?_ | refine OLe.elim (fun _ => ?_) (fun _ => ?_) | split)
set_option maxHeartbeats 4000000 in
set_option maxRecDepth 100000 in
theorem event_Recorder_Events_Z.con (k : Nat) (M : Hp)  (r : (List api_Event))  (h : event_Recorder_Events_Z k  = some r) : Con Try.prog 19 #[.pointer none] M [] (fun v M' Γ' => ∃ (Aq1 : Option Addr) (cq2 : Nat), v = .slice Aq1 r.length cq2 ∧ Γ' = [Nst rw_api_Event 32 (.slice Aq1 r.length cq2) r]) := by
  refine con_of_wp Try.func19 rfl Try.ntmps19 Try.results19 rfl ?_
  intro w F rn S hrn
  have E := Ext.refl w
  have HM := Hp.le_refl M
  have H := h
  unfold event_Recorder_Events_Z at H
  refine Wp_seq (Wp_region_lit (W_v (.slice none 0 0) (x_assign rfl) rfl (Wl_nil (tn (Wp_seq (Wp_seq (Wp_region_lit (W_v (.pointer none) (x_move rfl) rfl (W_v (.bool true) (x_eq_of (r := true) rfl rfl (run_eq_ptrnn Try.underlying36)) rfl (Wl_nil (tn (Wp_cond_true rfl (Wp_seq (Wp_region_lit (W_v (.slice none 0 0) (x_assign rfl) rfl ?_)))))))))))))))
  refine Wl_nil (tn ?_)
  refine Wp_ret ?_
  refine tr (?_)
  obtain rfl := Option.some.inj H
  replace S := S.nst_nil rw_api_Event 32
  exact ⟨_, _, _, fun w1 e1 => run_resR (vs := [.slice none ([] : List api_Event).length 0]) (FA.cons (rfl) (FA.nil)), HM, E, S.pick [0] (by decide), ⟨none, 0, rfl, rfl⟩⟩
def event_Recorder_Under_Z (k : Nat) (a1 : Int) : Option (Int × Bool × Bool) :=
  some ((0 : Int), false, false)
set_option maxHeartbeats 2000000 in
theorem event_Recorder_Under_Z.mono {k : Nat} {a1 : Int} : OLe (event_Recorder_Under_Z k a1) (event_Recorder_Under_Z (k + 1) a1) := by
  unfold event_Recorder_Under_Z
  repeat' (first | with_reducible exact OLe.none | with_reducible exact OLe.some | with_reducible refine OLe.ite ?_ ?_ | with_reducible refine OLe.bind ?_ (fun _ => ?_) | refine OLe.bind ?_ (fun _ => ?_) | refine OLe.ite ?_ ?_ | refine OLe.elim (fun _ => ?_) (fun _ => ?_) | split)
set_option maxHeartbeats 4000000 in
set_option maxRecDepth 100000 in
theorem event_Recorder_Under_Z.con (k : Nat) (M : Hp) (a1 : Int) (r : Int × Bool × Bool)  (h : event_Recorder_Under_Z k a1 = some r) : Con Try.prog 20 #[.pointer none, .int .i64 a1] M [] (fun v M' Γ' => v = .tuple #[.int .i64 r.1, .bool r.2.1, .bool r.2.2] ∧ Γ' = []) := by
  refine con_of_wp Try.func20 rfl Try.ntmps20 Try.results20 rfl ?_
  intro w F rn S hrn
  have E := Ext.refl w
  have HM := Hp.le_refl M
  have H := h
  unfold event_Recorder_Under_Z at H
  refine Wp_seq (Wp_region_lit (W_v (.int .i64 0) (x_assign rfl) rfl (W_v (.bool false) (x_assign rfl) rfl (W_v (.bool false) (x_assign rfl) rfl (Wl_nil (tn (Wp_seq (Wp_seq (Wp_region_lit (W_v (.pointer none) (x_move rfl) rfl (W_v (.bool true) (x_eq_of (r := true) rfl rfl (run_eq_ptrnn Try.underlying36)) rfl (W_v (.bool true) (x_move rfl) rfl (W_no (rfl) rfl (W_no (rfl) rfl (W_v (.bool true) (x_pick (k := true) rfl rfl) rfl ?_)))))))))))))))
  refine W_v (.bool true) (x_move rfl) rfl (W_no (rfl) rfl (W_no (rfl) rfl (W_no (rfl) rfl (W_no (rfl) rfl (W_no (rfl) rfl (W_no (rfl) rfl (W_no (rfl) rfl (W_v (.bool true) (x_pick (k := true) rfl rfl) rfl (W_v (.bool true) (x_move rfl) rfl (W_no (rfl) rfl (W_no (rfl) rfl (W_no (rfl) rfl (W_no (rfl) rfl (W_no (rfl) rfl (W_no (rfl) rfl ?_)))))))))))))))
  refine W_no (rfl) rfl (W_no (rfl) rfl (W_no (rfl) rfl (W_v (.bool true) (x_pick (k := true) rfl rfl) rfl (Wl_nil (tn (Wp_cond_true rfl (Wp_seq (Wp_region_lit (W_v (.int .i64 0) (x_assign rfl) rfl (W_v (.bool false) (x_assign rfl) rfl (W_v (.bool false) (x_assign rfl) rfl (Wl_nil (tn ?_)))))))))))))
  refine Wp_ret ?_
  refine tr (?_)
  obtain rfl := Option.some.inj H
  exact ⟨_, _, _, fun w1 e1 => run_resR (vs := [.int .i64 0, .bool false, .bool false]) (FA.cons (rfl) (FA.cons (rfl) (FA.cons (rfl) (FA.nil)))), HM, E, S.pick [] (by decide), ⟨rfl, rfl⟩⟩
def event_Recorder_put_POO_AO (k : Nat) (a0 : event_Recorder) (a1 : Int) (a2 : Int) (a3 : api_Event) : Option (Int × event_Recorder) :=
  (if ((decide (a1 < (0 : Int))) || (decide (a1 ≥ (a0.tasks.length : Int)))) = true then some ((1 : Int), a0) else (if 0 ≤ a1 ∧ a1 < (a0.tasks.length : Int) then (if ((rd a0.tasks a1).at_ != a2) = true then some ((7 : Int), a0) else (if 0 ≤ a1 ∧ a1 < (a0.tasks.length : Int) then (Option.bind (event_own k (⟨a3.What, a1, (rd a0.tasks a1).calls, ⟨a3.Answer.Err, a3.Answer.Found, a3.Answer.Value, a3.Answer.Pairs⟩⟩ : api_Event)) (fun t57 => (if a0.l.length + ([t57] : List api_Event).length ≤ 1759218604441 then (Option.bind (α := List event_task) (some (List.set a0.tasks a1.toNat (⟨(IntKind.i64.wrap ((rd a0.tasks a1).at_ + (1 : Int))), (rd a0.tasks a1).calls⟩ : event_task))) (fun x80 => (Option.bind (α := List event_task) (if (decide ((rd x80 a1).at_ > (2 : Int))) = true then (Option.bind (α := List event_task) (some (List.set x80 a1.toNat (⟨(0 : Int), (rd x80 a1).calls⟩ : event_task))) (fun x123 => (Option.bind (α := List event_task) (some (List.set x123 a1.toNat (⟨(rd x123 a1).at_, (IntKind.i64.wrap ((rd x123 a1).calls + (1 : Int)))⟩ : event_task))) (fun x130 => some (x130))))) else some (x80)) (fun x115 => some ((0 : Int), (⟨x115, (a0.l ++ ([t57] : List api_Event))⟩ : event_Recorder)))))) else none))) else none)) else none))
set_option maxHeartbeats 2000000 in
theorem event_Recorder_put_POO_AO.mono {k : Nat} {a0 : event_Recorder} {a1 : Int} {a2 : Int} {a3 : api_Event} : OLe (event_Recorder_put_POO_AO k a0 a1 a2 a3) (event_Recorder_put_POO_AO (k + 1) a0 a1 a2 a3) := by
  unfold event_Recorder_put_POO_AO
  repeat' (first | with_reducible exact OLe.none | with_reducible exact OLe.some | with_reducible refine OLe.ite ?_ ?_ | with_reducible refine OLe.bind ?_ (fun _ => ?_) | with_reducible exact event_own.mono | refine OLe.bind ?_ (fun _ => ?_) | refine OLe.ite ?_ ?_ | refine OLe.elim (fun _ => ?_) (fun _ => ?_) | split)
set_option maxHeartbeats 4000000 in
set_option maxRecDepth 100000 in
theorem event_Recorder_put_POO_AO.con (k : Nat) (M : Hp) (A0_0 : Option Addr) (c0_0 : Nat) (A0_1 : Option Addr) (c0_1 : Nat) (a0 : event_Recorder) (a1 : Int) (a2 : Int) (A3_0 : Option Addr) (c3_0 : Nat) (a3 : api_Event) (bo0 : Nat) (r : Int × event_Recorder)  (h : event_Recorder_put_POO_AO k a0 a1 a2 a3 = some r) : Con Try.prog 34 #[pt bo0 0, .int .i64 a1, .int .i64 a2, .agg #[.int .u8 a3.What, .int .i64 a3.Task, .int .i64 a3.Call, .int .i64 a3.Answer.Err, .bool a3.Answer.Found, .string (bs a3.Answer.Value), .slice A3_0 a3.Answer.Pairs.length c3_0]] M [Blk bo0 (.cells #[.slice A0_0 a0.tasks.length c0_0, .slice A0_1 a0.l.length c0_1] 73 (0, 0)), Row r_event_task 70 (.slice A0_0 a0.tasks.length c0_0) a0.tasks, Row r_api_Event 32 (.slice A0_1 a0.l.length c0_1) a0.l, Row r_api_Pair 43 (.slice A3_0 a3.Answer.Pairs.length c3_0) a3.Answer.Pairs] (fun v M' Γ' => ∃ (Aq1 : Option Addr) (cq2 : Nat) (Aq4 : Option Addr) (cq5 : Nat), v = .int .i64 r.1 ∧ Γ' = [Blk bo0 (.cells #[.slice Aq1 r.2.tasks.length cq2, .slice Aq4 r.2.l.length cq5] 73 (0, 0)), Row r_event_task 70 (.slice Aq1 r.2.tasks.length cq2) r.2.tasks, Row r_api_Event 32 (.slice Aq4 r.2.l.length cq5) r.2.l, Row r_api_Pair 43 (.slice A3_0 a3.Answer.Pairs.length c3_0) a3.Answer.Pairs]) := by
  refine con_of_wp Try.func34 rfl Try.ntmps34 Try.results34 rfl ?_
  intro w F rn S hrn
  have E := Ext.refl w
  have HM := Hp.le_refl M
  have H := h
  unfold event_Recorder_put_POO_AO at H
  refine Wp_seq (Wp_region_lit ?_)
  refine W_box S #[.int .u8 a3.What, .int .i64 a3.Task, .int .i64 a3.Call, .int .i64 a3.Answer.Err, .bool a3.Answer.Found, .string (bs a3.Answer.Value), .slice A3_0 a3.Answer.Pairs.length c3_0] rfl rfl rfl ?_
  intro b1 w2 E' S
  replace E := E.trans E'
  refine W_v (.int .i64 0) (x_assign rfl) rfl (Wl_nil (tn (Wp_seq ?_)))
  refine Wp_block ?_
  refine Wp_seq (Wp_region_lit (W_v (pt bo0 0) (x_move rfl) rfl (W_v (.bool false) (x_eq_of (r := false) rfl rfl (run_eq_ptrsn Try.underlying36)) rfl (W_v (.bool false) (x_assign rfl) rfl (Wl_nil (tn (Wp_cond_false rfl (Wp_seq (Wp_region_lit (W_v (.int .i64 a1) (x_move rfl) rfl (W_v (.bool (decide (a1 < (0 : Int)))) (x_ibin rfl rfl rfl rfl) rfl (W_v (.bool (decide (a1 < (0 : Int)))) (x_move rfl) rfl ?_))))))))))))
  refine Wl_cutN 8 (fun ρ w' => Agree ρ [(0, pt bo0 0), (1, .int .i64 a1), (2, .int .i64 a2), (7, pt b1 0), (24, .bool ((decide (a1 < (0 : Int))) || (decide (a1 ≥ (a0.tasks.length : Int)))))] ∧ w2 = w') ?_ ?_
  · rcases boolCases (decide (a1 < (0 : Int))) with hb4 | hb4
    · skip
      refine W_yes (congrArg some hb4) (W_v (.int .i64 a1) (x_move rfl) rfl (W_yes (congrArg some hb4) (W_v (pt bo0 0) (x_move rfl) rfl (W_yes (congrArg some hb4) (W_v (pt bo0 0) (x_nilptr rfl) rfl (W_yes (congrArg some hb4) (W_v (pt bo0 0) (x_fieldAddr (o := 0) (off := 0) Try.underlying73 rfl ty71 rfl rfl) rfl (W_yes (congrArg some hb4) (W_v (.slice A0_0 a0.tasks.length c0_0) (x_load (S.blk 1 rfl) ty71 rfl rfl) rfl (W_yes (congrArg some hb4) (W_v (.int .i64 (a0.tasks.length : Int)) (x_len_slice (n := a0.tasks.length) Try.underlying71 rfl) rfl (W_yes (congrArg some hb4) (W_v (.bool (decide (a1 ≥ (a0.tasks.length : Int)))) (x_ibin rfl rfl rfl rfl) rfl (W_v (.bool (decide (a1 ≥ (a0.tasks.length : Int)))) (x_pick (k := false) (congrArg Value.bool hb4) rfl) rfl (Wl_nil ?_)))))))))))))))
      exact ⟨⟨rfl, rfl, rfl, rfl, (by first | rfl | (rw [hb4]; rfl) | (simp only [hb4]; rfl)), trivial⟩, rfl⟩
    · skip
      refine W_no (skF hb4) rfl (W_no (skF hb4) rfl (W_no (skF hb4) rfl (W_no (skF hb4) rfl (W_no (skF hb4) rfl (W_no (skF hb4) rfl (W_no (skF hb4) rfl (W_v (.bool true) (x_pick (k := true) (congrArg Value.bool hb4) rfl) rfl (Wl_nil ?_))))))))
      exact ⟨⟨rfl, rfl, rfl, rfl, (by first | rfl | (rw [hb4]; rfl) | (simp only [hb4]; rfl)), trivial⟩, rfl⟩
  as_aux_lemma =>
  rintro ρ _ ⟨hρ, rfl⟩
  rw [agree_eta hρ]
  refine W_v (.bool ((decide (a1 < (0 : Int))) || (decide (a1 ≥ (a0.tasks.length : Int))))) (x_assign rfl) rfl (Wl_nil (tn ?_))
  rcases iteS H with ⟨hb5, H⟩ | ⟨hb5, H⟩
  · refine Wp_cond_true (congrArg Value.bool hb5) ?_
    refine Wp_seq (Wp_region_lit (W_v (.int .i64 1) (x_assign rfl) rfl (Wl_nil (tn ?_))))
    refine Wp_ret ?_
    refine br (tr (?_))
    obtain rfl := Option.some.inj H
    exact ⟨_, _, _, fun w1 e1 => run_resR (vs := [.int .i64 1]) (FA.cons (rfl) (FA.nil)), HM, E, S.pick [1, 2, 3, 4] (by decide), ⟨A0_0, c0_0, A0_1, c0_1, rfl, rfl⟩⟩
  refine Wp_cond_false (congrArg Value.bool hb5) (Wp_seq (Wp_region_lit (W_v (pt bo0 0) (x_move rfl) rfl (W_v (pt bo0 0) (x_nilptr rfl) rfl (W_v (pt bo0 0) (x_fieldAddr (o := 0) (off := 0) Try.underlying73 rfl ty71 rfl rfl) rfl (W_v (.slice A0_0 a0.tasks.length c0_0) (x_load (S.blk 1 rfl) ty71 rfl rfl) rfl (W_v (.int .i64 a1) (x_move rfl) rfl ?_)))))))
  obtain ⟨⟨p6, p7⟩, H⟩ := chkS H
  obtain ⟨b8, o9, cs10, _, _, ee15, hb11, vs12, hR13, hc14⟩ := SlW.at' (S.row_read 2 rfl) p6 p7
  obtain rfl : vs12 = _ := hR13
  refine W_v (.pointer (some ⟨b8, o9 + a1.toNat * 2, none⟩)) (x_indexAddr Try.underlying71 ty70 (slA ee15) rfl p6 p7) rfl (W_v (.pointer (some ⟨b8, o9 + a1.toNat * 2, none⟩)) (x_fieldAddr (o := o9 + a1.toNat * 2) (off := 0) Try.underlying70 rfl ty3 rfl rfl) rfl (W_v (.int .i64 ((rd a0.tasks a1).at_)) (x_load (Hp.of_get hb11) ty3 rfl (hc14 0 _ rfl)) rfl (W_v (.int .i64 a2) (x_move rfl) rfl (W_v (.bool ((rd a0.tasks a1).at_ != a2)) (x_ibin rfl rfl rfl rfl) rfl (W_v (.bool ((rd a0.tasks a1).at_ != a2)) (x_assign rfl) rfl (Wl_nil (tn ?_)))))))
  rcases iteS H with ⟨hb16, H⟩ | ⟨hb16, H⟩
  · refine Wp_cond_true (congrArg Value.bool hb16) ?_
    refine Wp_seq (Wp_region_lit (W_v (.int .i64 7) (x_assign rfl) rfl (Wl_nil (tn ?_))))
    refine Wp_ret ?_
    refine br (tr (?_))
    obtain rfl := Option.some.inj H
    exact ⟨_, _, _, fun w1 e1 => run_resR (vs := [.int .i64 7]) (FA.cons (rfl) (FA.nil)), HM, E, S.pick [1, 2, 3, 4] (by decide), ⟨A0_0, c0_0, A0_1, c0_1, rfl, rfl⟩⟩
  refine Wp_cond_false (congrArg Value.bool hb16) (Wp_skip (bn (tn ?_)))
  as_aux_lemma =>
  refine Wp_seq (Wp_region_lit (W_v (pt bo0 0) (x_move rfl) rfl (W_v (pt bo0 0) (x_nilptr rfl) rfl (W_v (pt bo0 0) (x_fieldAddr (o := 0) (off := 0) Try.underlying73 rfl ty71 rfl rfl) rfl (W_v (.slice A0_0 a0.tasks.length c0_0) (x_load (S.blk 1 rfl) ty71 rfl rfl) rfl (W_v (.int .i64 a1) (x_move rfl) rfl ?_))))))
  obtain ⟨⟨p17, p18⟩, H⟩ := chkS H
  obtain ⟨b19, o20, cs21, _, _, ee26, hb22, vs23, hR24, hc25⟩ := SlW.at' (S.row_read 2 rfl) p17 p18
  obtain rfl : vs23 = _ := hR24
  refine W_v (.pointer (some ⟨b19, o20 + a1.toNat * 2, none⟩)) (x_indexAddr Try.underlying71 ty70 (slA ee26) rfl p17 p18) rfl (W_v (.pointer (some ⟨b19, o20 + a1.toNat * 2, none⟩)) (x_assign rfl) rfl (Wl_nil (tn (Wp_seq ?_))))
  refine Wp_region_any (S := fun w' => ∃ Mx, M.le Mx ∧ St w' Mx F [Blk bo0 (.cells #[.slice A0_0 a0.tasks.length c0_0, .slice A0_1 a0.l.length c0_1] 73 (0, 0)), Row r_event_task 70 (.slice A0_0 a0.tasks.length c0_0) a0.tasks, Row r_api_Event 32 (.slice A0_1 a0.l.length c0_1) a0.l, Row r_api_Pair 43 (.slice A3_0 a3.Answer.Pairs.length c3_0) a3.Answer.Pairs]) (L := 8) mixed ?_
  intro w29 hw30 E'
  replace S := S.heap hw30
  replace E := E.trans E'
  have D1 : ∃ Mx, Hp.le M Mx ∧ St _ Mx F [_, _, _, _] := ⟨_, Hp.le_refl _, S.pick [1, 2, 3, 4] (by decide)⟩
  refine Wa_take (i := 0) rfl (by kernel_rfl) rfl rfl (.int .i64 a1) rfl (fun w' h' => x_move rfl) D1 (Wa_take (i := 1) rfl (by kernel_rfl) rfl rfl (.pointer (some ⟨b19, o20 + a1.toNat * 2, none⟩)) rfl (fun w' h' => x_move rfl) D1 (Wa_take (i := 2) rfl (by kernel_rfl) rfl rfl (.pointer (some ⟨b19, o20 + a1.toNat * 2, none⟩)) rfl (fun w' h' => x_nilptr rfl) D1 (Wa_take (i := 3) rfl (by kernel_rfl) rfl rfl (.pointer (some ⟨b19, o20 + a1.toNat * 2 + 1, none⟩)) rfl (fun w' h' => x_fieldAddr (o := o20 + a1.toNat * 2) (off := 1) Try.underlying70 rfl ty3 rfl rfl) D1 (Wa_take (i := 4) rfl (by kernel_rfl) rfl rfl (.int .i64 ((rd a0.tasks a1).calls)) rfl (fun w' h' => x_load_cls h' 1 rfl ee26 p17 p18 1 (by rintro _ _ rfl; rfl) ty3 rfl) D1 (Wa_take (i := 5) rfl (by kernel_rfl) rfl rfl (pt b1 1) rfl (fun w' h' => x_fieldAddr (o := 0) (off := 1) Try.underlying32 rfl ty3 rfl rfl) D1 ?_)))))
  refine Wa_solo (i := 6) rfl (by kernel_rfl) ?_
  refine W_store S 0 rfl ty3 rfl rfl [.int .i64 a1] rfl rfl rfl #[.int .u8 a3.What, .int .i64 a1, .int .i64 a3.Call, .int .i64 a3.Answer.Err, .bool a3.Answer.Found, .string (bs a3.Answer.Value), .slice A3_0 a3.Answer.Pairs.length c3_0] rfl rfl ?_
  intro w31 E' S
  replace E := E.trans E'
  refine Wl_nil (on_n ⟨.inr ⟨M, Hp.le_refl M, (S.pick [1, 2, 3, 4] (by decide))⟩, ?_⟩)
  refine Wa_take (i := 7) rfl (by kernel_rfl) rfl rfl (pt b1 2) rfl (fun w' h' => x_fieldAddr (o := 0) (off := 2) Try.underlying32 rfl ty3 rfl rfl) (⟨M, Hp.le_refl M, (S.pick [1, 2, 3, 4] (by decide))⟩) ?_
  refine Wa_solo (i := 8) rfl (by kernel_rfl) ?_
  refine W_store S 0 rfl ty3 rfl rfl [.int .i64 ((rd a0.tasks a1).calls)] rfl rfl rfl #[.int .u8 a3.What, .int .i64 a1, .int .i64 ((rd a0.tasks a1).calls), .int .i64 a3.Answer.Err, .bool a3.Answer.Found, .string (bs a3.Answer.Value), .slice A3_0 a3.Answer.Pairs.length c3_0] rfl rfl ?_
  intro w32 E' S
  replace E := E.trans E'
  refine Wl_nil (on_n ⟨.inl (by decide), ?_⟩)
  refine Wa_done (by kernel_rfl) ?_
  refine tn (Wp_seq ?_)
  have LE54 := Hp.le_refl M
  refine Wp_region_any (S := fun w' => ∃ Mx, M.le Mx ∧ St w' Mx F [Blk b1 (.cells #[.int .u8 a3.What, .int .i64 a1, .int .i64 ((rd a0.tasks a1).calls), .int .i64 a3.Answer.Err, .bool a3.Answer.Found, .string (bs a3.Answer.Value), .slice A3_0 a3.Answer.Pairs.length c3_0] 32 (0, 0)), Blk bo0 (.cells #[.slice A0_0 a0.tasks.length c0_0, .slice A0_1 a0.l.length c0_1] 73 (0, 0)), Row r_event_task 70 (.slice A0_0 a0.tasks.length c0_0) a0.tasks, Row r_api_Pair 43 (.slice A3_0 a3.Answer.Pairs.length c3_0) a3.Answer.Pairs]) (L := 11) mixed ?_
  intro w55 hw56 E'
  replace S := S.heap hw56
  replace E := E.trans E'
  have D3 : ∃ Mx, Hp.le M Mx ∧ St _ Mx F [_, _, _, _] := ⟨_, Hp.le_refl _, S.pick [0, 1, 2, 4] (by decide)⟩
  refine Wa_take (i := 0) rfl (by kernel_rfl) rfl rfl (pt bo0 0) rfl (fun w' h' => x_move rfl) D3 (Wa_take (i := 1) rfl (by kernel_rfl) rfl rfl (pt bo0 0) rfl (fun w' h' => x_move rfl) D3 (Wa_take (i := 2) rfl (by kernel_rfl) rfl rfl (pt bo0 0) rfl (fun w' h' => x_nilptr rfl) D3 (Wa_take (i := 3) rfl (by kernel_rfl) rfl rfl (pt bo0 1) rfl (fun w' h' => x_fieldAddr (o := 0) (off := 1) Try.underlying73 rfl ty22 rfl rfl) D3 (Wa_take (i := 4) rfl (by kernel_rfl) rfl rfl (.slice A0_1 a0.l.length c0_1) rfl (fun w' h' => x_load (cls_blk h' 1 rfl) ty22 rfl rfl) D3 (Wa_take (i := 5) rfl (by kernel_rfl) rfl rfl (.agg #[.int .u8 a3.What, .int .i64 a1, .int .i64 ((rd a0.tasks a1).calls), .int .i64 a3.Answer.Err, .bool a3.Answer.Found, .string (bs a3.Answer.Value), .slice A3_0 a3.Answer.Pairs.length c3_0]) rfl (fun w' h' => x_loadA (cls_blk h' 0 rfl) ty32 rfl (sub_of_extract rfl) rfl rfl) D3 ?_)))))
  refine Wa_solo (i := 6) rfl (by kernel_rfl) ?_
  replace S : St w55 M F [_, _, _, _, _] := S.pick [4, 0, 1, 2, 3] (by decide)
  obtain ⟨t57, ht58, H⟩ := bindS H
  refine W_callN 1 fn47 (fun h9 hs9 hd9 => event_own.con k _ A3_0 c3_0 (⟨a3.What, a1, (rd a0.tasks a1).calls, ⟨a3.Answer.Err, a3.Answer.Found, a3.Answer.Value, a3.Answer.Pairs⟩⟩ : api_Event) t57 (Sats.row hs9 hd9 0 rfl) ht58) S rfl rfl (by rintro _ _ _ ⟨_, _, _, rfl⟩; exact (flat_cons (flat_row (fun _ _ _ _ h => h)) flat_nil)) ?_
  rintro _ w62 _ Γ' E' S ⟨A59, c60, rfl, rfl⟩
  replace E := E.trans E'
  refine Wl_nil (on_n ⟨.inr ⟨M, Hp.le_refl M, (S.pick [2, 3, 4, 1] (by decide))⟩, ?_⟩)
  refine Wa_solo (i := 7) rfl (by kernel_rfl) ?_
  obtain ⟨M63, hM64, hf65, S⟩ := S.row_freeze 0 rfl
  replace HM := Hp.le_trans HM hM64
  replace LE54 := Hp.le_trans LE54 hM64
  refine W_bslice S #[.int .u8 t57.What, .int .i64 t57.Task, .int .i64 t57.Call, .int .i64 t57.Answer.Err, .bool t57.Answer.Found, .string (bs t57.Answer.Value), .slice A59 t57.Answer.Pairs.length c60] Try.underlying22 ty32 rfl rfl #[.int .u8 0, .int .i64 0, .int .i64 0, .int .i64 0, .bool false, .string (bs ([] : Str)), .slice none 0 0] (by as_aux_lemma => kernel_rfl) (by as_aux_lemma => kernel_rfl) rfl ?_
  intro b66 w67 E' S
  replace E := E.trans E'
  replace S := S.blk_row (r := r_api_Event) (l := ([t57] : List api_Event)) 0 rfl 1 (Nat.le_refl 1) rfl (Cells.cons (vs := [.int .u8 t57.What, .int .i64 t57.Task, .int .i64 t57.Call, .int .i64 t57.Answer.Err, .bool t57.Answer.Found, .string (bs t57.Answer.Value), .slice A59 t57.Answer.Pairs.length c60]) (⟨_, hf65, rfl⟩) Cells.nil)
  refine Wl_nil (on_n ⟨.inr ⟨M63, LE54, (S.pick [2, 3, 4, 1] (by decide))⟩, ?_⟩)
  refine Wa_solo (i := 8) rfl (by kernel_rfl) ?_
  obtain ⟨p69, H⟩ := chkS H
  obtain ⟨src70, hs71, hC72⟩ := src_of_read (P := Try.prog) (ρ := r_api_Event) (l := ([t57] : List api_Event)) (S.row_read 0 rfl) (by decide)
  refine W_append S 5 rfl rfl rfl Try.underlying22 (.inl Try.underlying22) ty32 rfl (by decide) (by decide) hs71 hC72 rfl (by omega) rfl ?_
  intro v73 w74 E' S
  replace E := E.trans E'
  obtain ⟨A75, c76, rfl, _⟩ := (S.row_read 5 rfl).form
  refine Wl_nil (on_n ⟨.inr ⟨M63, LE54, (S.pick [2, 3, 4, 1] (by decide))⟩, ?_⟩)
  refine Wa_take (i := 9) rfl (by kernel_rfl) rfl rfl (pt bo0 0) rfl (fun w' h' => x_nilptr rfl) (⟨M63, LE54, (S.pick [2, 3, 4, 1] (by decide))⟩) (Wa_take (i := 10) rfl (by kernel_rfl) rfl rfl (pt bo0 1) rfl (fun w' h' => x_fieldAddr (o := 0) (off := 1) Try.underlying73 rfl ty22 rfl rfl) (⟨M63, LE54, (S.pick [2, 3, 4, 1] (by decide))⟩) ?_)
  refine Wa_solo (i := 11) rfl (by kernel_rfl) ?_
  refine W_store S 3 rfl ty22 rfl rfl [.slice A75 (a0.l ++ ([t57] : List api_Event)).length c76] rfl rfl rfl #[.slice A0_0 a0.tasks.length c0_0, .slice A75 (a0.l ++ ([t57] : List api_Event)).length c76] rfl rfl ?_
  intro w77 E' S
  replace E := E.trans E'
  refine Wl_nil (on_n ⟨.inl (by decide), ?_⟩)
  refine Wa_done (by kernel_rfl) ?_
  refine tn ?_
  as_aux_lemma =>
  refine Wp_seq (Wp_seq (Wp_region_lit (W_v (.pointer (some ⟨b19, o20 + a1.toNat * 2, none⟩)) (x_move rfl) rfl (W_v (.pointer (some ⟨b19, o20 + a1.toNat * 2, none⟩)) (x_nilptr rfl) rfl (W_v (.pointer (some ⟨b19, o20 + a1.toNat * 2, none⟩)) (x_fieldAddr (o := o20 + a1.toNat * 2) (off := 0) Try.underlying70 rfl ty3 rfl rfl) rfl (W_v (.int .i64 ((rd a0.tasks a1).at_)) (x_load_cls ⟨M63, Hp.le_refl _, S⟩ 4 rfl ee26 p17 p18 0 (by rintro _ _ rfl; rfl) ty3 rfl) rfl (W_v (.int .i64 (IntKind.i64.wrap ((rd a0.tasks a1).at_ + (1 : Int)))) (x_ibin rfl rfl rfl rfl) rfl (W_v (.pointer (some ⟨b19, o20 + a1.toNat * 2, none⟩)) (x_nilptr rfl) rfl (W_v (.pointer (some ⟨b19, o20 + a1.toNat * 2, none⟩)) (x_fieldAddr (o := o20 + a1.toNat * 2) (off := 0) Try.underlying70 rfl ty3 rfl rfl) rfl ?_)))))))))
  obtain ⟨x80, he81, H⟩ := bindS H
  replace he81 := Option.some.inj he81
  refine W_rowstore S 4 rfl rfl ee26 (by first | exact p17 | simpa using p17) (by first | exact p18 | simpa using p18) 0 ty3 rfl rfl [.int .i64 (IntKind.i64.wrap ((rd a0.tasks a1).at_ + (1 : Int)))] rfl rfl rfl rfl (⟨(IntKind.i64.wrap ((rd a0.tasks a1).at_ + (1 : Int))), (rd a0.tasks a1).calls⟩ : event_task) (by rintro _ rfl; rfl) he81 ?_
  intro w79 E' S
  replace E := E.trans E'
  have hs82 : Value.slice A0_0 a0.tasks.length c0_0 = Value.slice A0_0 x80.length c0_0 := by rw [← he81, List.length_set]
  try rw [hs82] at S
  try rw [hs82]
  have p83 : a1 < (x80.length : Int) := by rw [← he81, List.length_set]; exact p7
  have p84 : a1 < (x80.length : Int) := by rw [← he81, List.length_set]; exact p18
  refine Wl_nil (tn (Wp_seq (Wp_region_lit (W_v (.pointer (some ⟨b19, o20 + a1.toNat * 2, none⟩)) (x_move rfl) rfl (W_v (.pointer (some ⟨b19, o20 + a1.toNat * 2, none⟩)) (x_nilptr rfl) rfl (W_v (.pointer (some ⟨b19, o20 + a1.toNat * 2, none⟩)) (x_fieldAddr (o := o20 + a1.toNat * 2) (off := 0) Try.underlying70 rfl ty3 rfl rfl) rfl (W_v (.int .i64 ((rd x80 a1).at_)) (x_load_cls ⟨M63, Hp.le_refl _, S⟩ 4 rfl ee26 p17 p84 0 (by rintro _ _ rfl; rfl) ty3 rfl) rfl (W_v (.bool (decide ((rd x80 a1).at_ > (2 : Int)))) (x_ibin rfl rfl rfl rfl) rfl (Wl_nil (tn ?_))))))))))
  obtain ⟨o119, o119h, o119H⟩ := bindS H
  refine Wp_cut (fun ρ w' => ∃ (x115 : List event_task) (A116 : Option Addr) (c117 : Nat), (x115) = o119 ∧ Agree ρ [] ∧ Ext w w' ∧ St w' M63 F [Row r_event_task 70 (.slice A116 x115.length c117) x115, Row r_api_Pair 43 (.slice A3_0 a3.Answer.Pairs.length c3_0) a3.Answer.Pairs, Blk bo0 (.cells #[.slice A116 x115.length c117, .slice A75 (a0.l ++ ([t57] : List api_Event)).length c76] 73 (0, 0)), Row r_api_Event 32 (.slice A75 (a0.l ++ ([t57] : List api_Event)).length c76) (a0.l ++ ([t57] : List api_Event))]) ?_ ?_
  · as_aux_lemma =>
      clear o119H
      have H := o119h
      rcases iteS H with ⟨hb120, H⟩ | ⟨hb120, H⟩
      · refine Wp_cond_true (congrArg Value.bool hb120) ?_
        refine Wp_seq (Wp_region_lit (W_v (.pointer (some ⟨b19, o20 + a1.toNat * 2, none⟩)) (x_move rfl) rfl (W_v (.pointer (some ⟨b19, o20 + a1.toNat * 2, none⟩)) (x_nilptr rfl) rfl (W_v (.pointer (some ⟨b19, o20 + a1.toNat * 2, none⟩)) (x_fieldAddr (o := o20 + a1.toNat * 2) (off := 0) Try.underlying70 rfl ty3 rfl rfl) rfl ?_))))
        obtain ⟨x123, he124, H⟩ := bindS H
        replace he124 := Option.some.inj he124
        refine W_rowstore S 4 rfl rfl ee26 (by first | exact p17 | simpa using p17) (by first | exact p84 | simpa using p84) 0 ty3 rfl rfl [.int .i64 0] rfl rfl rfl rfl (⟨(0 : Int), (rd x80 a1).calls⟩ : event_task) (by rintro _ rfl; rfl) he124 ?_
        intro w122 E' S
        replace E := E.trans E'
        have hs125 : Value.slice A0_0 x80.length c0_0 = Value.slice A0_0 x123.length c0_0 := by rw [← he124, List.length_set]
        try rw [hs125] at S
        try rw [hs125]
        have p126 : a1 < (x123.length : Int) := by rw [← he124, List.length_set]; exact p83
        have p127 : a1 < (x123.length : Int) := by rw [← he124, List.length_set]; exact p84
        refine Wl_nil (tn (Wp_region_lit (W_v (.pointer (some ⟨b19, o20 + a1.toNat * 2, none⟩)) (x_move rfl) rfl (W_v (.pointer (some ⟨b19, o20 + a1.toNat * 2, none⟩)) (x_nilptr rfl) rfl (W_v (.pointer (some ⟨b19, o20 + a1.toNat * 2 + 1, none⟩)) (x_fieldAddr (o := o20 + a1.toNat * 2) (off := 1) Try.underlying70 rfl ty3 rfl rfl) rfl (W_v (.int .i64 ((rd x123 a1).calls)) (x_load_cls ⟨M63, Hp.le_refl _, S⟩ 4 rfl ee26 p17 p127 1 (by rintro _ _ rfl; rfl) ty3 rfl) rfl (W_v (.int .i64 (IntKind.i64.wrap ((rd x123 a1).calls + (1 : Int)))) (x_ibin rfl rfl rfl rfl) rfl (W_v (.pointer (some ⟨b19, o20 + a1.toNat * 2, none⟩)) (x_nilptr rfl) rfl (W_v (.pointer (some ⟨b19, o20 + a1.toNat * 2 + 1, none⟩)) (x_fieldAddr (o := o20 + a1.toNat * 2) (off := 1) Try.underlying70 rfl ty3 rfl rfl) rfl ?_)))))))))
        obtain ⟨x130, he131, H⟩ := bindS H
        replace he131 := Option.some.inj he131
        refine W_rowstore S 4 rfl rfl ee26 (by first | exact p17 | simpa using p17) (by first | exact p127 | simpa using p127) 1 ty3 rfl rfl [.int .i64 (IntKind.i64.wrap ((rd x123 a1).calls + (1 : Int)))] rfl rfl rfl rfl (⟨(rd x123 a1).at_, (IntKind.i64.wrap ((rd x123 a1).calls + (1 : Int)))⟩ : event_task) (by rintro _ rfl; rfl) he131 ?_
        intro w129 E' S
        replace E := E.trans E'
        have hs132 : Value.slice A0_0 x123.length c0_0 = Value.slice A0_0 x130.length c0_0 := by rw [← he131, List.length_set]
        try rw [hs132] at S
        try rw [hs132]
        have p133 : a1 < (x130.length : Int) := by rw [← he131, List.length_set]; exact p126
        have p134 : a1 < (x130.length : Int) := by rw [← he131, List.length_set]; exact p127
        refine Wl_nil (tn ?_)
        exact ⟨x130, A0_0, c0_0, Option.some.inj H, trivial, E, S.pick [4, 1, 3, 5] (by decide)⟩
      refine Wp_cond_false (congrArg Value.bool hb120) (Wp_skip (tn ?_))
      exact ⟨x80, A0_0, c0_0, Option.some.inj H, trivial, E, S.pick [4, 1, 3, 5] (by decide)⟩
  rintro ρ w135 ⟨x115, A116, c117, rfl, hρ, E, S⟩
  rw [agree_eta hρ]
  have H := o119H
  refine tn ?_
  as_aux_lemma =>
  refine Wp_seq (Wp_region_lit (W_v (.int .i64 0) (x_assign rfl) rfl (Wl_nil (tn ?_))))
  refine Wp_ret ?_
  obtain rfl := Option.some.inj H
  exact ⟨_, _, _, fun w1 e1 => run_resR (vs := [.int .i64 0]) (FA.cons (rfl) (FA.nil)), HM, E, S.pick [2, 0, 3, 1] (by decide), ⟨A116, c117, A75, c76, rfl, rfl⟩⟩
def event_Recorder_Return_POO_AO (k : Nat) (a0 : event_Recorder) (a1 : Int) (a2 : api_Answer) : Option (Int × event_Recorder) :=
  (Option.bind (event_Recorder_put_POO_AO k a0 a1 (2 : Int) (⟨(3 : Int), (0 : Int), (0 : Int), ⟨a2.Err, a2.Found, a2.Value, a2.Pairs⟩⟩ : api_Event)) (fun t4 => some (t4.1, t4.2)))
set_option maxHeartbeats 2000000 in
theorem event_Recorder_Return_POO_AO.mono {k : Nat} {a0 : event_Recorder} {a1 : Int} {a2 : api_Answer} : OLe (event_Recorder_Return_POO_AO k a0 a1 a2) (event_Recorder_Return_POO_AO (k + 1) a0 a1 a2) := by
  unfold event_Recorder_Return_POO_AO
  repeat' (first | with_reducible exact OLe.none | with_reducible exact OLe.some | with_reducible refine OLe.ite ?_ ?_ | with_reducible refine OLe.bind ?_ (fun _ => ?_) | with_reducible exact event_Recorder_put_POO_AO.mono | refine OLe.bind ?_ (fun _ => ?_) | refine OLe.ite ?_ ?_ | refine OLe.elim (fun _ => ?_) (fun _ => ?_) | split)
set_option maxHeartbeats 4000000 in
set_option maxRecDepth 100000 in
theorem event_Recorder_Return_POO_AO.con (k : Nat) (M : Hp) (A0_0 : Option Addr) (c0_0 : Nat) (A0_1 : Option Addr) (c0_1 : Nat) (a0 : event_Recorder) (a1 : Int) (A2_0 : Option Addr) (c2_0 : Nat) (a2 : api_Answer) (bo0 : Nat) (r : Int × event_Recorder)  (h : event_Recorder_Return_POO_AO k a0 a1 a2 = some r) : Con Try.prog 32 #[pt bo0 0, .int .i64 a1, .agg #[.int .i64 a2.Err, .bool a2.Found, .string (bs a2.Value), .slice A2_0 a2.Pairs.length c2_0]] M [Blk bo0 (.cells #[.slice A0_0 a0.tasks.length c0_0, .slice A0_1 a0.l.length c0_1] 73 (0, 0)), Row r_event_task 70 (.slice A0_0 a0.tasks.length c0_0) a0.tasks, Row r_api_Event 32 (.slice A0_1 a0.l.length c0_1) a0.l, Row r_api_Pair 43 (.slice A2_0 a2.Pairs.length c2_0) a2.Pairs] (fun v M' Γ' => ∃ (Aq1 : Option Addr) (cq2 : Nat) (Aq4 : Option Addr) (cq5 : Nat), v = .int .i64 r.1 ∧ Γ' = [Blk bo0 (.cells #[.slice Aq1 r.2.tasks.length cq2, .slice Aq4 r.2.l.length cq5] 73 (0, 0)), Row r_event_task 70 (.slice Aq1 r.2.tasks.length cq2) r.2.tasks, Row r_api_Event 32 (.slice Aq4 r.2.l.length cq5) r.2.l, Row r_api_Pair 43 (.slice A2_0 a2.Pairs.length c2_0) a2.Pairs]) := by
  refine con_of_wp Try.func32 rfl Try.ntmps32 Try.results32 rfl ?_
  intro w F rn S hrn
  have E := Ext.refl w
  have HM := Hp.le_refl M
  have H := h
  unfold event_Recorder_Return_POO_AO at H
  refine Wp_seq (Wp_region_lit ?_)
  refine W_box S #[.int .i64 a2.Err, .bool a2.Found, .string (bs a2.Value), .slice A2_0 a2.Pairs.length c2_0] rfl rfl rfl ?_
  intro b1 w2 E' S
  replace E := E.trans E'
  refine W_v (.int .i64 0) (x_assign rfl) rfl (Wl_nil (tn (Wp_seq (Wp_region_lit (W_v (pt bo0 0) (x_move rfl) rfl (W_v (.int .i64 a1) (x_move rfl) rfl (W_v (.agg #[.int .i64 a2.Err, .bool a2.Found, .string (bs a2.Value), .slice A2_0 a2.Pairs.length c2_0]) (x_loadA (S.blk 0 rfl) ty30 rfl (sub_of_extract rfl) rfl rfl) rfl (W_v (.agg #[.int .u8 3, .int .i64 0, .int .i64 0, .int .i64 a2.Err, .bool a2.Found, .string (bs a2.Value), .slice A2_0 a2.Pairs.length c2_0]) (x_build2 (pl := [(0, 1), (1, 1), (2, 1), (3, 4)]) #[.int .u8 3, .int .i64 0, .int .i64 0, .int .i64 a2.Err, .bool a2.Found, .string (bs a2.Value), .slice A2_0 a2.Pairs.length c2_0] Try.underlying32 ty32 (by as_aux_lemma => kernel_rfl) rfl (by as_aux_lemma => kernel_rfl)) rfl ?_))))))))
  obtain ⟨t4, ht5, H⟩ := bindS H
  replace S : St w2 M F [_, _, _, _, _] := S.pick [1, 2, 3, 4, 0] (by decide)
  refine W_call fn34 (event_Recorder_put_POO_AO.con k M A0_0 c0_0 A0_1 c0_1 a0 a1 (2 : Int) A2_0 c2_0 (⟨(3 : Int), (0 : Int), (0 : Int), ⟨a2.Err, a2.Found, a2.Value, a2.Pairs⟩⟩ : api_Event) bo0 t4  ht5) (Γ1 := [_, _, _, _]) (Γ2 := [_]) S rfl rfl ?_
  rintro _ w12 M13 Γ' hM14 E' S ⟨A6, c7, A9, c10, rfl, rfl⟩
  replace HM := Hp.le_trans HM hM14
  replace E := E.trans E'
  replace S : St w12 M13 F [_, _, _, _, _] := S
  refine W_v (.int .i64 t4.1) (x_assign rfl) rfl (Wl_nil (tn ?_))
  refine Wp_ret ?_
  obtain rfl := Option.some.inj H
  exact ⟨_, _, _, fun w1 e1 => run_resR (vs := [.int .i64 t4.1]) (FA.cons (rfl) (FA.nil)), HM, E, S.pick [0, 1, 2, 3] (by decide), ⟨A6, c7, A9, c10, rfl, rfl⟩⟩
def ferrymanlaw06_Step_do_AO_POO (k : Nat) (a0 : ferrymanlaw06_Step) (a1 : event_Recorder) : Option (Int × event_Recorder) :=
  (if (a0.What == (1 : Int)) = true then (Option.bind (event_Recorder_Invoke_POO k a1 a0.Task) (fun t5 => some (t5.1, t5.2))) else (if (a0.What == (2 : Int)) = true then (Option.bind (event_Recorder_Mark_POO k a1 a0.Task) (fun t17 => some (t17.1, t17.2))) else (Option.bind (event_Recorder_Return_POO_AO k a1 a0.Task a0.Answer) (fun t28 => some (t28.1, t28.2)))))
set_option maxHeartbeats 2000000 in
theorem ferrymanlaw06_Step_do_AO_POO.mono {k : Nat} {a0 : ferrymanlaw06_Step} {a1 : event_Recorder} : OLe (ferrymanlaw06_Step_do_AO_POO k a0 a1) (ferrymanlaw06_Step_do_AO_POO (k + 1) a0 a1) := by
  unfold ferrymanlaw06_Step_do_AO_POO
  repeat' (first | with_reducible exact OLe.none | with_reducible exact OLe.some | with_reducible refine OLe.ite ?_ ?_ | with_reducible refine OLe.bind ?_ (fun _ => ?_) | with_reducible exact event_Recorder_Invoke_POO.mono | with_reducible exact event_Recorder_Mark_POO.mono | with_reducible exact event_Recorder_Return_POO_AO.mono | refine OLe.bind ?_ (fun _ => ?_) | refine OLe.ite ?_ ?_ | refine OLe.elim (fun _ => ?_) (fun _ => ?_) | split)
set_option maxHeartbeats 4000000 in
set_option maxRecDepth 100000 in
theorem ferrymanlaw06_Step_do_AO_POO.con (k : Nat) (M : Hp) (A0_0 : Option Addr) (c0_0 : Nat) (a0 : ferrymanlaw06_Step) (A1_0 : Option Addr) (c1_0 : Nat) (A1_1 : Option Addr) (c1_1 : Nat) (a1 : event_Recorder) (bo1 : Nat) (r : Int × event_Recorder)  (h : ferrymanlaw06_Step_do_AO_POO k a0 a1 = some r) : Con Try.prog 16 #[.agg #[.int .u8 a0.What, .int .i64 a0.Task, .int .i64 a0.Answer.Err, .bool a0.Answer.Found, .string (bs a0.Answer.Value), .slice A0_0 a0.Answer.Pairs.length c0_0], pt bo1 0] M [Row r_api_Pair 43 (.slice A0_0 a0.Answer.Pairs.length c0_0) a0.Answer.Pairs, Blk bo1 (.cells #[.slice A1_0 a1.tasks.length c1_0, .slice A1_1 a1.l.length c1_1] 73 (0, 0)), Row r_event_task 70 (.slice A1_0 a1.tasks.length c1_0) a1.tasks, Row r_api_Event 32 (.slice A1_1 a1.l.length c1_1) a1.l] (fun v M' Γ' => ∃ (Aq1 : Option Addr) (cq2 : Nat) (Aq4 : Option Addr) (cq5 : Nat), v = .int .i64 r.1 ∧ Γ' = [Row r_api_Pair 43 (.slice A0_0 a0.Answer.Pairs.length c0_0) a0.Answer.Pairs, Blk bo1 (.cells #[.slice Aq1 r.2.tasks.length cq2, .slice Aq4 r.2.l.length cq5] 73 (0, 0)), Row r_event_task 70 (.slice Aq1 r.2.tasks.length cq2) r.2.tasks, Row r_api_Event 32 (.slice Aq4 r.2.l.length cq5) r.2.l]) := by
  refine con_of_wp Try.func16 rfl Try.ntmps16 Try.results16 rfl ?_
  intro w F rn S hrn
  have E := Ext.refl w
  have HM := Hp.le_refl M
  have H := h
  unfold ferrymanlaw06_Step_do_AO_POO at H
  refine Wp_seq (Wp_region_lit ?_)
  refine W_box S #[.int .u8 a0.What, .int .i64 a0.Task, .int .i64 a0.Answer.Err, .bool a0.Answer.Found, .string (bs a0.Answer.Value), .slice A0_0 a0.Answer.Pairs.length c0_0] rfl rfl rfl ?_
  intro b1 w2 E' S
  replace E := E.trans E'
  refine W_v (.int .i64 0) (x_assign rfl) rfl (Wl_nil (tn (Wp_seq (Wp_seq (Wp_region_lit (W_v (pt b1 0) (x_fieldAddr (o := 0) (off := 0) Try.underlying40 rfl ty5 rfl rfl) rfl (W_v (.int .u8 a0.What) (x_load (S.blk 0 rfl) ty5 rfl rfl) rfl (Wl_nil (tn ?_)))))))))
  refine Wp_block ?_
  refine Wp_seq (Wp_region_lit (W_v (.bool (a0.What == (1 : Int))) (x_ibin rfl rfl rfl rfl) rfl (W_v (.bool (a0.What == (1 : Int))) (x_assign rfl) rfl (Wl_nil (tn ?_)))))
  rcases iteS H with ⟨hb4, H⟩ | ⟨hb4, H⟩
  · refine Wp_cond_true (congrArg Value.bool hb4) ?_
    refine Wp_seq (Wp_region_lit (W_v (pt bo1 0) (x_move rfl) rfl (W_v (pt b1 1) (x_fieldAddr (o := 0) (off := 1) Try.underlying40 rfl ty3 rfl rfl) rfl (W_v (.int .i64 a0.Task) (x_load (S.blk 0 rfl) ty3 rfl rfl) rfl ?_))))
    obtain ⟨t5, ht6, H⟩ := bindS H
    replace S : St w2 M F [_, _, _, _, _] := S.pick [2, 3, 4, 0, 1] (by decide)
    refine W_call fn30 (event_Recorder_Invoke_POO.con k M A1_0 c1_0 A1_1 c1_1 a1 a0.Task bo1 t5  ht6) (Γ1 := [_, _, _]) (Γ2 := [_, _]) S rfl rfl ?_
    rintro _ w13 M14 Γ' hM15 E' S ⟨A7, c8, A10, c11, rfl, rfl⟩
    replace HM := Hp.le_trans HM hM15
    replace E := E.trans E'
    replace S : St w13 M14 F [_, _, _, _, _] := S
    refine W_v (.int .i64 t5.1) (x_assign rfl) rfl (Wl_nil (tn ?_))
    refine Wp_ret ?_
    refine br (tr (?_))
    obtain rfl := Option.some.inj H
    exact ⟨_, _, _, fun w1 e1 => run_resR (vs := [.int .i64 t5.1]) (FA.cons (rfl) (FA.nil)), HM, E, S.pick [4, 0, 1, 2] (by decide), ⟨A7, c8, A10, c11, rfl, rfl⟩⟩
  refine Wp_cond_false (congrArg Value.bool hb4) (Wp_seq (Wp_region_lit (W_v (.bool (a0.What == (2 : Int))) (x_ibin rfl rfl rfl rfl) rfl (W_v (.bool (a0.What == (2 : Int))) (x_assign rfl) rfl (Wl_nil (tn ?_))))))
  rcases iteS H with ⟨hb16, H⟩ | ⟨hb16, H⟩
  · refine Wp_cond_true (congrArg Value.bool hb16) ?_
    refine Wp_seq (Wp_region_lit (W_v (pt bo1 0) (x_move rfl) rfl (W_v (pt b1 1) (x_fieldAddr (o := 0) (off := 1) Try.underlying40 rfl ty3 rfl rfl) rfl (W_v (.int .i64 a0.Task) (x_load (S.blk 0 rfl) ty3 rfl rfl) rfl ?_))))
    obtain ⟨t17, ht18, H⟩ := bindS H
    replace S : St w2 M F [_, _, _, _, _] := S.pick [2, 3, 4, 0, 1] (by decide)
    refine W_call fn31 (event_Recorder_Mark_POO.con k M A1_0 c1_0 A1_1 c1_1 a1 a0.Task bo1 t17  ht18) (Γ1 := [_, _, _]) (Γ2 := [_, _]) S rfl rfl ?_
    rintro _ w25 M26 Γ' hM27 E' S ⟨A19, c20, A22, c23, rfl, rfl⟩
    replace HM := Hp.le_trans HM hM27
    replace E := E.trans E'
    replace S : St w25 M26 F [_, _, _, _, _] := S
    refine W_v (.int .i64 t17.1) (x_assign rfl) rfl (Wl_nil (tn ?_))
    refine Wp_ret ?_
    refine br (tr (?_))
    obtain rfl := Option.some.inj H
    exact ⟨_, _, _, fun w1 e1 => run_resR (vs := [.int .i64 t17.1]) (FA.cons (rfl) (FA.nil)), HM, E, S.pick [4, 0, 1, 2] (by decide), ⟨A19, c20, A22, c23, rfl, rfl⟩⟩
  refine Wp_cond_false (congrArg Value.bool hb16) (Wp_skip (bn (tn ?_)))
  as_aux_lemma =>
  refine Wp_seq (Wp_region_lit (W_v (pt bo1 0) (x_move rfl) rfl (W_v (pt b1 1) (x_fieldAddr (o := 0) (off := 1) Try.underlying40 rfl ty3 rfl rfl) rfl (W_v (.int .i64 a0.Task) (x_load (S.blk 0 rfl) ty3 rfl rfl) rfl (W_v (pt b1 2) (x_fieldAddr (o := 0) (off := 2) Try.underlying40 rfl ty30 rfl rfl) rfl (W_v (.agg #[.int .i64 a0.Answer.Err, .bool a0.Answer.Found, .string (bs a0.Answer.Value), .slice A0_0 a0.Answer.Pairs.length c0_0]) (x_loadA (S.blk 0 rfl) ty30 rfl (sub_of_extract rfl) rfl rfl) rfl ?_))))))
  obtain ⟨t28, ht29, H⟩ := bindS H
  replace S : St w2 M F [_, _, _, _, _] := S.pick [2, 3, 4, 1, 0] (by decide)
  refine W_call fn32 (event_Recorder_Return_POO_AO.con k M A1_0 c1_0 A1_1 c1_1 a1 a0.Task A0_0 c0_0 a0.Answer bo1 t28  ht29) (Γ1 := [_, _, _, _]) (Γ2 := [_]) S rfl rfl ?_
  rintro _ w36 M37 Γ' hM38 E' S ⟨A30, c31, A33, c34, rfl, rfl⟩
  replace HM := Hp.le_trans HM hM38
  replace E := E.trans E'
  replace S : St w36 M37 F [_, _, _, _, _] := S
  refine W_v (.int .i64 t28.1) (x_assign rfl) rfl (Wl_nil (tn ?_))
  refine Wp_ret ?_
  obtain rfl := Option.some.inj H
  exact ⟨_, _, _, fun w1 e1 => run_resR (vs := [.int .i64 t28.1]) (FA.cons (rfl) (FA.nil)), HM, E, S.pick [3, 0, 1, 2] (by decide), ⟨A30, c31, A33, c34, rfl, rfl⟩⟩
def event_Recorder_Under_POO (k : Nat) (a0 : event_Recorder) (a1 : Int) : Option (Int × Bool × Bool) :=
  (Option.bind (α := Bool) (if ((decide (a1 < (0 : Int))) || (decide (a1 ≥ (a0.tasks.length : Int)))) = true then some (true) else (if 0 ≤ a1 ∧ a1 < (a0.tasks.length : Int) then some (((rd a0.tasks a1).at_ == (0 : Int))) else none)) (fun x23 => (if x23 = true then some ((0 : Int), false, false) else (if 0 ≤ a1 ∧ a1 < (a0.tasks.length : Int) then some ((rd a0.tasks a1).calls, ((rd a0.tasks a1).at_ == (2 : Int)), true) else none))))
set_option maxHeartbeats 2000000 in
theorem event_Recorder_Under_POO.mono {k : Nat} {a0 : event_Recorder} {a1 : Int} : OLe (event_Recorder_Under_POO k a0 a1) (event_Recorder_Under_POO (k + 1) a0 a1) := by
  unfold event_Recorder_Under_POO
  repeat' (first | with_reducible exact OLe.none | with_reducible exact OLe.some | with_reducible refine OLe.ite ?_ ?_ | with_reducible refine OLe.bind ?_ (fun _ => ?_) | refine OLe.bind ?_ (fun _ => ?_) | refine OLe.ite ?_ ?_ | refine OLe.elim (fun _ => ?_) (fun _ => ?_) | split)
set_option maxHeartbeats 4000000 in
set_option maxRecDepth 100000 in
theorem event_Recorder_Under_POO.con (k : Nat) (M : Hp) (A0_0 : Option Addr) (c0_0 : Nat) (A0_1 : Option Addr) (c0_1 : Nat) (a0 : event_Recorder) (a1 : Int) (bo0 : Nat) (r : Int × Bool × Bool)  (h : event_Recorder_Under_POO k a0 a1 = some r) : Con Try.prog 20 #[pt bo0 0, .int .i64 a1] M [Blk bo0 (.cells #[.slice A0_0 a0.tasks.length c0_0, .slice A0_1 a0.l.length c0_1] 73 (0, 0)), Row r_event_task 70 (.slice A0_0 a0.tasks.length c0_0) a0.tasks, Row r_api_Event 32 (.slice A0_1 a0.l.length c0_1) a0.l] (fun v M' Γ' => v = .tuple #[.int .i64 r.1, .bool r.2.1, .bool r.2.2] ∧ Γ' = [Blk bo0 (.cells #[.slice A0_0 a0.tasks.length c0_0, .slice A0_1 a0.l.length c0_1] 73 (0, 0)), Row r_event_task 70 (.slice A0_0 a0.tasks.length c0_0) a0.tasks, Row r_api_Event 32 (.slice A0_1 a0.l.length c0_1) a0.l]) := by
  refine con_of_wp Try.func20 rfl Try.ntmps20 Try.results20 rfl ?_
  intro w F rn S hrn
  have E := Ext.refl w
  have HM := Hp.le_refl M
  have H := h
  unfold event_Recorder_Under_POO at H
  refine Wp_seq (Wp_region_lit (W_v (.int .i64 0) (x_assign rfl) rfl (W_v (.bool false) (x_assign rfl) rfl (W_v (.bool false) (x_assign rfl) rfl (Wl_nil (tn (Wp_seq (Wp_seq (Wp_region_lit (W_v (pt bo0 0) (x_move rfl) rfl (W_v (.bool false) (x_eq_of (r := false) rfl rfl (run_eq_ptrsn Try.underlying36)) rfl (W_v (.bool false) (x_move rfl) rfl (W_yes (rfl) (W_v (.int .i64 a1) (x_move rfl) rfl (W_yes (rfl) ?_)))))))))))))))
  refine W_v (.bool (decide (a1 < (0 : Int)))) (x_ibin rfl rfl rfl rfl) rfl (W_v (.bool (decide (a1 < (0 : Int)))) (x_pick (k := false) rfl rfl) rfl (W_v (.bool (decide (a1 < (0 : Int)))) (x_move rfl) rfl ?_))
  refine Wl_cutN 8 (fun ρ w' => Agree ρ [(0, pt bo0 0), (1, .int .i64 a1), (22, .bool ((decide (a1 < (0 : Int))) || (decide (a1 ≥ (a0.tasks.length : Int)))))] ∧ w = w') ?_ ?_
  · rcases boolCases (decide (a1 < (0 : Int))) with hb1 | hb1
    · skip
      refine W_yes (congrArg some hb1) (W_v (.int .i64 a1) (x_move rfl) rfl (W_yes (congrArg some hb1) (W_v (pt bo0 0) (x_move rfl) rfl (W_yes (congrArg some hb1) (W_v (pt bo0 0) (x_nilptr rfl) rfl (W_yes (congrArg some hb1) (W_v (pt bo0 0) (x_fieldAddr (o := 0) (off := 0) Try.underlying73 rfl ty71 rfl rfl) rfl (W_yes (congrArg some hb1) (W_v (.slice A0_0 a0.tasks.length c0_0) (x_load (S.blk 0 rfl) ty71 rfl rfl) rfl (W_yes (congrArg some hb1) (W_v (.int .i64 (a0.tasks.length : Int)) (x_len_slice (n := a0.tasks.length) Try.underlying71 rfl) rfl (W_yes (congrArg some hb1) (W_v (.bool (decide (a1 ≥ (a0.tasks.length : Int)))) (x_ibin rfl rfl rfl rfl) rfl (W_v (.bool (decide (a1 ≥ (a0.tasks.length : Int)))) (x_pick (k := false) (congrArg Value.bool hb1) rfl) rfl (Wl_nil ?_)))))))))))))))
      exact ⟨⟨rfl, rfl, (by first | rfl | (rw [hb1]; rfl) | (simp only [hb1]; rfl)), trivial⟩, rfl⟩
    · skip
      refine W_no (skF hb1) rfl (W_no (skF hb1) rfl (W_no (skF hb1) rfl (W_no (skF hb1) rfl (W_no (skF hb1) rfl (W_no (skF hb1) rfl (W_no (skF hb1) rfl (W_v (.bool true) (x_pick (k := true) (congrArg Value.bool hb1) rfl) rfl (Wl_nil ?_))))))))
      exact ⟨⟨rfl, rfl, (by first | rfl | (rw [hb1]; rfl) | (simp only [hb1]; rfl)), trivial⟩, rfl⟩
  as_aux_lemma =>
  rintro ρ _ ⟨hρ, rfl⟩
  rw [agree_eta hρ]
  refine W_v (.bool ((decide (a1 < (0 : Int))) || (decide (a1 ≥ (a0.tasks.length : Int))))) (x_move rfl) rfl ?_
  obtain ⟨o24, o24h, o24H⟩ := bindS H
  refine Wl_cutN 10 (fun ρ w' => ∃ (x23 : Bool), (x23) = o24 ∧ Agree ρ [(0, pt bo0 0), (1, .int .i64 a1), (33, .bool x23)] ∧ Ext w w' ∧ St w' M F [Blk bo0 (.cells #[.slice A0_0 a0.tasks.length c0_0, .slice A0_1 a0.l.length c0_1] 73 (0, 0)), Row r_event_task 70 (.slice A0_0 a0.tasks.length c0_0) a0.tasks, Row r_api_Event 32 (.slice A0_1 a0.l.length c0_1) a0.l]) ?_ ?_
  · as_aux_lemma =>
      have H := o24h
      rcases iteS H with ⟨hb22, H⟩ | ⟨hb22, H⟩
      · skip
        refine W_no (skF hb22) rfl (W_no (skF hb22) rfl (W_no (skF hb22) rfl (W_no (skF hb22) rfl (W_no (skF hb22) rfl (W_no (skF hb22) rfl (W_no (skF hb22) rfl (W_no (skF hb22) rfl (W_no (skF hb22) rfl (W_v (.bool true) (x_pick (k := true) (congrArg Value.bool hb22) rfl) rfl (Wl_nil ?_))))))))))
        exact ⟨true, Option.some.inj H, ⟨rfl, rfl, rfl, trivial⟩, E, S.pick [0, 1, 2] (by decide)⟩
      · skip
        refine W_yes (congrArg some hb22) (W_v (pt bo0 0) (x_move rfl) rfl (W_yes (congrArg some hb22) (W_v (pt bo0 0) (x_nilptr rfl) rfl (W_yes (congrArg some hb22) (W_v (pt bo0 0) (x_fieldAddr (o := 0) (off := 0) Try.underlying73 rfl ty71 rfl rfl) rfl (W_yes (congrArg some hb22) (W_v (.slice A0_0 a0.tasks.length c0_0) (x_load (S.blk 0 rfl) ty71 rfl rfl) rfl (W_yes (congrArg some hb22) (W_v (.int .i64 a1) (x_move rfl) rfl (W_yes (congrArg some hb22) ?_))))))))))
        obtain ⟨⟨p25, p26⟩, H⟩ := chkS H
        obtain ⟨b27, o28, cs29, _, _, ee34, hb30, vs31, hR32, hc33⟩ := SlW.at' (S.row_read 1 rfl) p25 p26
        obtain rfl : vs31 = _ := hR32
        refine W_v (.pointer (some ⟨b27, o28 + a1.toNat * 2, none⟩)) (x_indexAddr Try.underlying71 ty70 (slA ee34) rfl p25 p26) rfl (W_yes (congrArg some hb22) (W_v (.pointer (some ⟨b27, o28 + a1.toNat * 2, none⟩)) (x_fieldAddr (o := o28 + a1.toNat * 2) (off := 0) Try.underlying70 rfl ty3 rfl rfl) rfl (W_yes (congrArg some hb22) (W_v (.int .i64 ((rd a0.tasks a1).at_)) (x_load (Hp.of_get hb30) ty3 rfl (hc33 0 _ rfl)) rfl (W_yes (congrArg some hb22) (W_v (.bool ((rd a0.tasks a1).at_ == (0 : Int))) (x_ibin rfl rfl rfl rfl) rfl (W_v (.bool ((rd a0.tasks a1).at_ == (0 : Int))) (x_pick (k := false) (congrArg Value.bool hb22) rfl) rfl (Wl_nil ?_))))))))
        exact ⟨((rd a0.tasks a1).at_ == (0 : Int)), Option.some.inj H, ⟨rfl, rfl, rfl, trivial⟩, E, S.pick [0, 1, 2] (by decide)⟩
  as_aux_lemma =>
  rintro ρ w35 ⟨x23, rfl, hρ, E, S⟩
  rw [agree_eta hρ]
  have H := o24H
  refine Wl_nil (tn ?_)
  rcases iteS H with ⟨hb36, H⟩ | ⟨hb36, H⟩
  · refine Wp_cond_true (congrArg Value.bool hb36) ?_
    refine Wp_seq (Wp_region_lit (W_v (.int .i64 0) (x_assign rfl) rfl (W_v (.bool false) (x_assign rfl) rfl (W_v (.bool false) (x_assign rfl) rfl (Wl_nil (tn ?_))))))
    refine Wp_ret ?_
    refine tr (?_)
    obtain rfl := Option.some.inj H
    exact ⟨_, _, _, fun w1 e1 => run_resR (vs := [.int .i64 0, .bool false, .bool false]) (FA.cons (rfl) (FA.cons (rfl) (FA.cons (rfl) (FA.nil)))), HM, E, S.pick [0, 1, 2] (by decide), ⟨rfl, rfl⟩⟩
  refine Wp_cond_false (congrArg Value.bool hb36) (Wp_skip (tn (Wp_seq (Wp_region_lit (W_v (pt bo0 0) (x_move rfl) rfl (W_v (pt bo0 0) (x_nilptr rfl) rfl (W_v (pt bo0 0) (x_fieldAddr (o := 0) (off := 0) Try.underlying73 rfl ty71 rfl rfl) rfl (W_v (.slice A0_0 a0.tasks.length c0_0) (x_load (S.blk 0 rfl) ty71 rfl rfl) rfl (W_v (.int .i64 a1) (x_move rfl) rfl ?_)))))))))
  obtain ⟨⟨p37, p38⟩, H⟩ := chkS H
  obtain ⟨b39, o40, cs41, _, _, ee46, hb42, vs43, hR44, hc45⟩ := SlW.at' (S.row_read 1 rfl) p37 p38
  obtain rfl : vs43 = _ := hR44
  refine W_v (.pointer (some ⟨b39, o40 + a1.toNat * 2, none⟩)) (x_indexAddr Try.underlying71 ty70 (slA ee46) rfl p37 p38) rfl (W_v (.agg #[.int .i64 ((rd a0.tasks a1).at_), .int .i64 ((rd a0.tasks a1).calls)]) (x_loadA (Hp.of_get hb42) ty70 rfl (sub_el hc45 0 rfl) rfl rfl) rfl ?_)
  refine W_alloc S #[.int .i64 0, .int .i64 0] ty70 rfl rfl ?_
  intro b47 w48 E' S
  replace E := E.trans E'
  refine W_store S 0 rfl ty70 rfl rfl [.int .i64 ((rd a0.tasks a1).at_), .int .i64 ((rd a0.tasks a1).calls)] rfl rfl rfl #[.int .i64 ((rd a0.tasks a1).at_), .int .i64 ((rd a0.tasks a1).calls)] rfl rfl ?_
  intro w50 E' S
  replace E := E.trans E'
  refine Wl_nil (tn (Wp_seq ?_))
  refine Wp_region_any (S := fun w' => ∃ Mx, M.le Mx ∧ St w' Mx F [Blk b47 (.cells #[.int .i64 ((rd a0.tasks a1).at_), .int .i64 ((rd a0.tasks a1).calls)] 70 (0, 0)), Blk bo0 (.cells #[.slice A0_0 a0.tasks.length c0_0, .slice A0_1 a0.l.length c0_1] 73 (0, 0)), Row r_event_task 70 (.slice A0_0 a0.tasks.length c0_0) a0.tasks, Row r_api_Event 32 (.slice A0_1 a0.l.length c0_1) a0.l]) (L := 8) mixed ?_
  intro w51 hw52 E'
  replace S := S.heap hw52
  replace E := E.trans E'
  have D1 : ∃ Mx, Hp.le M Mx ∧ St _ Mx F [_, _, _, _] := ⟨_, Hp.le_refl _, S.pick [0, 1, 2, 3] (by decide)⟩
  refine Wa_take (i := 0) rfl (by kernel_rfl) rfl rfl (pt b47 1) rfl (fun w' h' => x_fieldAddr (o := 0) (off := 1) Try.underlying70 rfl ty3 rfl rfl) D1 (Wa_take (i := 1) rfl (by kernel_rfl) rfl rfl (.int .i64 ((rd a0.tasks a1).calls)) rfl (fun w' h' => x_load (cls_blk h' 0 rfl) ty3 rfl rfl) D1 (Wa_take (i := 2) rfl (by kernel_rfl) rfl rfl (pt b47 0) rfl (fun w' h' => x_fieldAddr (o := 0) (off := 0) Try.underlying70 rfl ty3 rfl rfl) D1 (Wa_take (i := 3) rfl (by kernel_rfl) rfl rfl (.int .i64 ((rd a0.tasks a1).at_)) rfl (fun w' h' => x_load (cls_blk h' 0 rfl) ty3 rfl rfl) D1 (Wa_take (i := 4) rfl (by kernel_rfl) rfl rfl (.bool ((rd a0.tasks a1).at_ == (2 : Int))) rfl (fun w' h' => x_ibin rfl rfl rfl rfl) D1 (Wa_take (i := 5) rfl (by kernel_rfl) rfl rfl (.int .i64 ((rd a0.tasks a1).calls)) rfl (fun w' h' => x_assign rfl) D1 (Wa_take (i := 6) rfl (by kernel_rfl) rfl rfl (.bool ((rd a0.tasks a1).at_ == (2 : Int))) rfl (fun w' h' => x_assign rfl) D1 (Wa_take (i := 7) rfl (by kernel_rfl) rfl rfl (.bool true) rfl (fun w' h' => x_assign rfl) D1 ?_)))))))
  refine Wa_done (by kernel_rfl) ?_
  refine tn ?_
  refine Wp_ret ?_
  obtain rfl := Option.some.inj H
  exact ⟨_, _, _, fun w1 e1 => run_resR (vs := [.int .i64 ((rd a0.tasks a1).calls), .bool ((rd a0.tasks a1).at_ == (2 : Int)), .bool true]) (FA.cons (rfl) (FA.cons (rfl) (FA.cons (rfl) (FA.nil)))), HM, E, S.pick [1, 2, 3] (by decide), ⟨rfl, rfl⟩⟩
end Go.Proofs.Ytninegjnkkcepaa
