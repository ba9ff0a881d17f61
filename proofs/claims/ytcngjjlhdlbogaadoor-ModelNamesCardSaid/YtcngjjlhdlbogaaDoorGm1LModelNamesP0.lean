import Derived.Test.YtcngjjlhdlbogaaDoorGm1B
namespace Go.Proofs.YtcngjjlhdlbogaaDoor
open Go
set_option linter.unusedVariables false
set_option linter.unusedSimpArgs false
/-! ### (*ferryman/model.Model).Tx: function 23 -/
def model_Model_Tx_Z (k : Nat) (a1 : Int) (a2 : Int) : Option (Int × Int × Int) :=
  some ((0 : Int), (0 : Int), (0 : Int))
set_option maxHeartbeats 2000000 in
theorem model_Model_Tx_Z.mono {k : Nat} {a1 : Int} {a2 : Int} : OLe (model_Model_Tx_Z k a1 a2) (model_Model_Tx_Z (k + 1) a1 a2) := by
  unfold model_Model_Tx_Z
  repeat' (first | with_reducible exact OLe.none | with_reducible exact OLe.some | with_reducible refine OLe.ite ?_ ?_ | with_reducible refine OLe.bind ?_ (fun _ => ?_) | refine OLe.bind ?_ (fun _ => ?_) | refine OLe.ite ?_ ?_ | refine OLe.elim (fun _ => ?_) (fun _ => ?_) | split)
set_option maxHeartbeats 4000000 in
set_option maxRecDepth 100000 in
theorem model_Model_Tx_Z.con (k : Nat) (M : Hp) (a1 : Int) (a2 : Int) (r : Int × Int × Int)  (h : model_Model_Tx_Z k a1 a2 = some r) : Con Tryd.prog 23 #[.pointer none, .int .i64 a1, .int .i64 a2] M [] (fun v M' Γ' => v = .tuple #[.int .i64 r.1, .int .u8 r.2.1, .int .i64 r.2.2] ∧ Γ' = []) := by
  refine con_of_wp Tryd.func23 rfl Tryd.ntmps23 Tryd.results23 rfl ?_
  intro w F rn S hrn
  have E := Ext.refl w
  have HM := Hp.le_refl M
  have H := h
  unfold model_Model_Tx_Z at H
  refine Wp_seq ?_
  refine Wp_region_lit ?_
  refine W_v (.int .i64 0) (x_assign rfl) rfl ?_
  refine W_v (.int .u8 0) (x_assign rfl) rfl ?_
  refine W_v (.int .i64 0) (x_assign rfl) rfl ?_
  refine Wl_nil ?_
  refine tn ?_
  refine Wp_seq ?_
  refine Wp_seq ?_
  refine Wp_region_lit ?_
  refine W_v (.pointer none) (x_move rfl) rfl ?_
  refine W_v (.bool true) (x_eq_of (r := true) rfl rfl (run_eq_ptrnn Tryd.underlying27)) rfl ?_
  refine Wl_nil ?_
  refine tn ?_
  refine Wp_cond_true rfl ?_
  refine Wp_seq ?_
  refine Wp_region_lit ?_
  refine W_v (.int .i64 0) (x_assign rfl) rfl ?_
  refine W_v (.int .u8 0) (x_assign rfl) rfl ?_
  refine W_v (.int .i64 0) (x_assign rfl) rfl ?_
  refine Wl_nil ?_
  refine tn ?_
  refine Wp_ret ?_
  refine tr (?_)
  obtain rfl := Option.some.inj H
  exact ⟨_, _, _, fun w1 e1 => run_resR (vs := [.int .i64 0, .int .u8 0, .int .i64 0]) (FA.cons (rfl) (FA.cons (rfl) (FA.cons (rfl) (FA.nil)))), HM, E, S.pick [] (by decide), ⟨rfl, rfl⟩⟩
/-! ### (*ferryman/model.Model).Intent: function 24 -/
def model_Model_Intent_Z (k : Nat) (a1 : Str) : Option (api_Version × Bool) :=
  some ((⟨(0 : Int), (0 : Int), false, ([] : Str)⟩ : api_Version), false)
set_option maxHeartbeats 2000000 in
theorem model_Model_Intent_Z.mono {k : Nat} {a1 : Str} : OLe (model_Model_Intent_Z k a1) (model_Model_Intent_Z (k + 1) a1) := by
  unfold model_Model_Intent_Z
  repeat' (first | with_reducible exact OLe.none | with_reducible exact OLe.some | with_reducible refine OLe.ite ?_ ?_ | with_reducible refine OLe.bind ?_ (fun _ => ?_) | refine OLe.bind ?_ (fun _ => ?_) | refine OLe.ite ?_ ?_ | refine OLe.elim (fun _ => ?_) (fun _ => ?_) | split)
set_option maxHeartbeats 4000000 in
set_option maxRecDepth 100000 in
theorem model_Model_Intent_Z.con (k : Nat) (M : Hp) (a1 : Str) (r : api_Version × Bool)  (h : model_Model_Intent_Z k a1 = some r) : Con Tryd.prog 24 #[.pointer none, .string (bs a1)] M [] (fun v M' Γ' => v = .tuple #[.agg #[.int .i64 r.1.Writer, .int .i64 r.1.TS, .bool r.1.Tomb, .string (bs r.1.Value)], .bool r.2] ∧ Γ' = []) := by
  refine con_of_wp Tryd.func24 rfl Tryd.ntmps24 Tryd.results24 rfl ?_
  intro w F rn S hrn
  have E := Ext.refl w
  have HM := Hp.le_refl M
  have H := h
  unfold model_Model_Intent_Z at H
  refine Wp_seq ?_
  refine Wp_region_lit ?_
  refine W_alloc S #[.int .i64 0, .int .i64 0, .bool false, .string (bs ([] : Str))] ty61 rfl rfl ?_
  intro b1 w2 E' S
  replace E := E.trans E'
  clear E'
  refine W_v (.bool false) (x_assign rfl) rfl ?_
  refine Wl_nil ?_
  refine tn ?_
  refine Wp_seq ?_
  refine Wp_seq ?_
  refine Wp_region_lit ?_
  refine W_v (.pointer none) (x_move rfl) rfl ?_
  refine W_v (.bool true) (x_eq_of (r := true) rfl rfl (run_eq_ptrnn Tryd.underlying27)) rfl ?_
  refine Wl_nil ?_
  refine tn ?_
  refine Wp_cond_true rfl ?_
  refine Wp_seq ?_
  refine Wp_region_lit ?_
  refine W_v (.agg #[.int .i64 0, .int .i64 0, .bool false, .string (bs ([] : Str))]) (x_build2 (pl := [(0, 1), (1, 1), (2, 1), (3, 1)]) #[.int .i64 0, .int .i64 0, .bool false, .string (bs ([] : Str))] Tryd.underlying61 ty61 (by as_aux_lemma => kernel_rfl) rfl (by as_aux_lemma => kernel_rfl)) rfl ?_
  refine W_store S 0 rfl ty61 rfl rfl [.int .i64 0, .int .i64 0, .bool false, .string (bs ([] : Str))] rfl rfl rfl #[.int .i64 0, .int .i64 0, .bool false, .string (bs ([] : Str))] rfl rfl ?_
  intro w4 E' S
  replace E := E.trans E'
  clear E'
  refine W_v (.bool false) (x_assign rfl) rfl ?_
  refine Wl_nil ?_
  refine tn ?_
  refine Wp_ret ?_
  refine tr (?_)
  obtain rfl := Option.some.inj H
  exact ⟨_, _, _, fun w1 e1 => run_resR (vs := [.agg #[.int .i64 0, .int .i64 0, .bool false, .string (bs ([] : Str))], .bool false]) (FA.cons (⟨_, rfl, run_loadVar_agg ty61 ((S.of_eq e1).blk 0 rfl) (sub_of_extract rfl) rfl (by decide)⟩) (FA.cons (rfl) (FA.nil))), HM, E, S.pick [] (by decide), ⟨rfl, rfl⟩⟩
/-! ### (*ferryman/model.Model).Refused: function 25 -/
def model_Model_Refused_Z (k : Nat) (a1 : Int) (a2 : api_Call) : Option (Int) :=
  some (2 : Int)
set_option maxHeartbeats 2000000 in
theorem model_Model_Refused_Z.mono {k : Nat} {a1 : Int} {a2 : api_Call} : OLe (model_Model_Refused_Z k a1 a2) (model_Model_Refused_Z (k + 1) a1 a2) := by
  unfold model_Model_Refused_Z
  repeat' (first | with_reducible exact OLe.none | with_reducible exact OLe.some | with_reducible refine OLe.ite ?_ ?_ | with_reducible refine OLe.bind ?_ (fun _ => ?_) | refine OLe.bind ?_ (fun _ => ?_) | refine OLe.ite ?_ ?_ | refine OLe.elim (fun _ => ?_) (fun _ => ?_) | split)
set_option maxHeartbeats 4000000 in
set_option maxRecDepth 100000 in
theorem model_Model_Refused_Z.con (k : Nat) (M : Hp) (a1 : Int) (a2 : api_Call) (r : Int)  (h : model_Model_Refused_Z k a1 a2 = some r) : Con Tryd.prog 25 #[.pointer none, .int .i64 a1, .agg #[.int .u8 a2.Kind, .int .i64 a2.Tx, .string (bs a2.Key), .string (bs a2.End), .string (bs a2.Value), .int .i64 a2.Limit, .int .u8 a2.Engine]] M [] (fun v M' Γ' => v = .int .i64 r ∧ Γ' = []) := by
  refine con_of_wp Tryd.func25 rfl Tryd.ntmps25 Tryd.results25 rfl ?_
  intro w F rn S hrn
  have E := Ext.refl w
  have HM := Hp.le_refl M
  have H := h
  unfold model_Model_Refused_Z at H
  refine Wp_seq ?_
  refine Wp_region_lit ?_
  refine W_box S #[.int .u8 a2.Kind, .int .i64 a2.Tx, .string (bs a2.Key), .string (bs a2.End), .string (bs a2.Value), .int .i64 a2.Limit, .int .u8 a2.Engine] rfl rfl rfl ?_
  intro b1 w2 E' S
  replace E := E.trans E'
  clear E'
  refine W_v (.int .i64 0) (x_assign rfl) rfl ?_
  refine Wl_nil ?_
  refine tn ?_
  refine Wp_seq ?_
  refine Wp_block ?_
  refine Wp_seq ?_
  refine Wp_region_lit ?_
  refine W_v (.pointer none) (x_move rfl) rfl ?_
  refine W_v (.bool true) (x_eq_of (r := true) rfl rfl (run_eq_ptrnn Tryd.underlying27)) rfl ?_
  refine W_v (.bool true) (x_assign rfl) rfl ?_
  refine Wl_nil ?_
  refine tn ?_
  refine Wp_cond_true rfl ?_
  refine Wp_seq ?_
  refine Wp_region_lit ?_
  refine W_v (.int .i64 2) (x_assign rfl) rfl ?_
  refine Wl_nil ?_
  refine tn ?_
  refine Wp_ret ?_
  refine br (tr (?_))
  obtain rfl := Option.some.inj H
  exact ⟨_, _, _, fun w1 e1 => run_resR (vs := [.int .i64 2]) (FA.cons (rfl) (FA.nil)), HM, E, S.pick [] (by decide), ⟨rfl, rfl⟩⟩
/-! ### (*ferryman/model.Model).Keys: function 27 -/
def model_Model_Keys_Z (k : Nat)  : Option ((List Str)) :=
  some ([] : List Str)
set_option maxHeartbeats 2000000 in
theorem model_Model_Keys_Z.mono {k : Nat}  : OLe (model_Model_Keys_Z k ) (model_Model_Keys_Z (k + 1) ) := by
  unfold model_Model_Keys_Z
  repeat' (first | with_reducible exact OLe.none | with_reducible exact OLe.some | with_reducible refine OLe.ite ?_ ?_ | with_reducible refine OLe.bind ?_ (fun _ => ?_) | refine OLe.bind ?_ (fun _ => ?_) | refine OLe.ite ?_ ?_ | refine OLe.elim (fun _ => ?_) (fun _ => ?_) | split)
set_option maxHeartbeats 4000000 in
set_option maxRecDepth 100000 in
theorem model_Model_Keys_Z.con (k : Nat) (M : Hp)  (r : (List Str))  (h : model_Model_Keys_Z k  = some r) : Con Tryd.prog 27 #[.pointer none] M [] (fun v M' Γ' => ∃ (Aq1 : Option Addr) (cq2 : Nat), v = .slice Aq1 r.length cq2 ∧ Γ' = [Row rStr 9 (.slice Aq1 r.length cq2) r]) := by
  refine con_of_wp Tryd.func27 rfl Tryd.ntmps27 Tryd.results27 rfl ?_
  intro w F rn S hrn
  have E := Ext.refl w
  have HM := Hp.le_refl M
  have H := h
  unfold model_Model_Keys_Z at H
  refine Wp_seq ?_
  refine Wp_region_lit ?_
  refine W_v (.slice none 0 0) (x_assign rfl) rfl ?_
  refine Wl_nil ?_
  refine tn ?_
  refine Wp_seq ?_
  refine Wp_seq ?_
  refine Wp_region_lit ?_
  refine W_v (.pointer none) (x_move rfl) rfl ?_
  refine W_v (.bool true) (x_eq_of (r := true) rfl rfl (run_eq_ptrnn Tryd.underlying27)) rfl ?_
  refine Wl_nil ?_
  refine tn ?_
  refine Wp_cond_true rfl ?_
  refine Wp_seq ?_
  refine Wp_region_lit ?_
  refine W_v (.slice none 0 0) (x_assign rfl) rfl ?_
  refine Wl_nil ?_
  refine tn ?_
  refine Wp_ret ?_
  refine tr (?_)
  obtain rfl := Option.some.inj H
  replace S := S.row_nil rStr 9
  exact ⟨_, _, _, fun w1 e1 => run_resR (vs := [.slice none ([] : List Str).length 0]) (FA.cons (rfl) (FA.nil)), HM, E, S.pick [0] (by decide), ⟨none, 0, rfl, rfl⟩⟩
/-! ### (*ferryman/model.Model).scan: function 128 -/
def model_Model_scan_Z_l0 (a3 : api_Call) (t7 : (List Str)) : Nat → Option ((Unit))
  | 0 => none
  | k + 1 => (if (decide ((0 : Int) < (t7.length : Int))) = true then (if 0 ≤ (0 : Int) ∧ (0 : Int) < (t7.length : Int) then (if ((0 : Int) == a3.Limit) = true then some () else none) else none) else some ())
set_option maxHeartbeats 2000000 in
theorem model_Model_scan_Z_l0.mono {a3 : api_Call} {t7 : (List Str)} : ∀ {kl : Nat}, OLe (model_Model_scan_Z_l0 a3 t7 kl ) (model_Model_scan_Z_l0 a3 t7 (kl + 1) ) := by
  intro kl
  induction kl with
  | zero => intros; exact OLe.none
  | succ kl ih =>
    intros
    rw [model_Model_scan_Z_l0.eq_2, model_Model_scan_Z_l0.eq_2]
    repeat' (first | with_reducible exact OLe.none | with_reducible exact OLe.some | with_reducible refine OLe.ite ?_ ?_ | with_reducible refine OLe.bind ?_ (fun _ => ?_) | exact ih | refine OLe.bind ?_ (fun _ => ?_) | refine OLe.ite ?_ ?_ | refine OLe.elim (fun _ => ?_) (fun _ => ?_) | split)
def model_Model_scan_Z (k : Nat) (a1 : Int) (a2 : Int) (a3 : api_Call) : Option (api_Answer) :=
  (Option.bind (model_Model_Keys_Z k ) (fun t7 => (Option.bind (model_Model_scan_Z_l0 a3 t7 k ) (fun _ => some (⟨(0 : Int), false, ([] : Str), ([] : List api_Pair)⟩ : api_Answer)))))
set_option maxHeartbeats 2000000 in
theorem model_Model_scan_Z.mono {k : Nat} {a1 : Int} {a2 : Int} {a3 : api_Call} : OLe (model_Model_scan_Z k a1 a2 a3) (model_Model_scan_Z (k + 1) a1 a2 a3) := by
  unfold model_Model_scan_Z
  repeat' (first | with_reducible exact OLe.none | with_reducible exact OLe.some | with_reducible refine OLe.ite ?_ ?_ | with_reducible refine OLe.bind ?_ (fun _ => ?_) | with_reducible exact model_Model_Keys_Z.mono | with_reducible exact model_Model_scan_Z_l0.mono | refine OLe.bind ?_ (fun _ => ?_) | refine OLe.ite ?_ ?_ | refine OLe.elim (fun _ => ?_) (fun _ => ?_) | split)
set_option maxHeartbeats 4000000 in
set_option maxRecDepth 100000 in
theorem model_Model_scan_Z.con (k : Nat) (M : Hp) (a1 : Int) (a2 : Int) (a3 : api_Call) (r : api_Answer)  (h : model_Model_scan_Z k a1 a2 a3 = some r) : Con Tryd.prog 128 #[.pointer none, .int .i64 a1, .int .i64 a2, .agg #[.int .u8 a3.Kind, .int .i64 a3.Tx, .string (bs a3.Key), .string (bs a3.End), .string (bs a3.Value), .int .i64 a3.Limit, .int .u8 a3.Engine]] M [] (fun v M' Γ' => ∃ (Aq1 : Option Addr) (cq2 : Nat), v = .agg #[.int .i64 r.Err, .bool r.Found, .string (bs r.Value), .slice Aq1 r.Pairs.length cq2] ∧ Γ' = [Row r_api_Pair 87 (.slice Aq1 r.Pairs.length cq2) r.Pairs]) := by
  refine con_of_wp Tryd.func128 rfl Tryd.ntmps128 Tryd.results128 rfl ?_
  intro w F rn S hrn
  have E := Ext.refl w
  have HM := Hp.le_refl M
  have H := h
  unfold model_Model_scan_Z at H
  refine Wp_seq ?_
  refine Wp_region_lit ?_
  refine W_box S #[.int .u8 a3.Kind, .int .i64 a3.Tx, .string (bs a3.Key), .string (bs a3.End), .string (bs a3.Value), .int .i64 a3.Limit, .int .u8 a3.Engine] rfl rfl rfl ?_
  intro b1 w2 E' S
  replace E := E.trans E'
  clear E'
  refine W_alloc S #[.int .i64 0, .bool false, .string (bs ([] : Str)), .slice none 0 0] ty43 rfl rfl ?_
  intro b4 w5 E' S
  replace E := E.trans E'
  clear E'
  refine Wl_nil ?_
  refine tn ?_
  refine Wp_seq ?_
  refine Wp_region_lit ?_
  refine W_v (.slice none 0 0) (x_assign rfl) rfl ?_
  refine Wl_nil ?_
  refine tn ?_
  refine Wp_seq ?_
  refine Wp_seq ?_
  refine Wp_region_lit ?_
  refine W_v (.pointer none) (x_move rfl) rfl ?_
  obtain ⟨t7, ht8, H⟩ := bindS H
  refine W_callF2 fn27 (model_Model_Keys_Z.con k M  t7  ht8) (Γ1 := []) (Γ2 := [_, _]) S rfl rfl (by rintro _ _ _ ⟨_, _, rfl, rfl⟩; exact (flat_cons (flat_row (fun _ _ _ _ h => h)) flat_nil)) ?_
  rintro _ w12 _ Γ' E' S ⟨A9, c10, rfl, rfl⟩
  replace E := E.trans E'
  clear E'
  replace S : St w12 M F [_, _, _] := S
  refine W_v (.int .i64 (t7.length : Int)) (x_len_slice (n := t7.length) Tryd.underlying67 rfl) rfl ?_
  refine W_v (.int .i64 0) (x_move rfl) rfl ?_
  refine Wl_nil ?_
  refine tn ?_
  obtain ⟨o51, o51h, o51H⟩ := bindS H
  clear H
  refine Wp_blockJ (fun ρ w' => () = o51 ∧ Agree ρ [(8, .pointer (some ⟨b4, 0, none⟩)), (9, .slice none 0 0)] ∧ Ext w w' ∧ St w' M F [Blk b4 (.cells #[.int .i64 0, .bool false, .string (bs ([] : Str)), .slice none 0 0] 43 (0, 0))]) ?_ ?_
  · skip
    refine Wp_loop (fun n ρ w' => model_Model_scan_Z_l0 a3 t7 n  = some o51 ∧ Agree ρ [(0, .pointer none), (1, .int .i64 a1), (7, .pointer (some ⟨b1, 0, none⟩)), (8, .pointer (some ⟨b4, 0, none⟩)), (9, .slice none 0 0), (15, .slice A9 t7.length c10), (16, .int .i64 (t7.length : Int)), (17, .int .i64 0)] ∧ Ext w w' ∧ St w' M F [Row rStr 9 (.slice A9 t7.length c10) t7, Blk b4 (.cells #[.int .i64 0, .bool false, .string (bs ([] : Str)), .slice none 0 0] 43 (0, 0)), B37 b1 a3]) k ?_ ?_
    · skip
      exact ⟨o51h, ⟨rfl, rfl, rfl, rfl, rfl, rfl, rfl, rfl, trivial⟩, E, S.pick [0, 1, 2] (by decide)⟩
    · intro n
      rintro ρ w52 ⟨H, hρ, E, S⟩
      rw [agree_eta hρ]
      clear hρ
      cases n with
      | zero => cases H
      | succ k =>
        rw [model_Model_scan_Z_l0.eq_2] at H
        refine Wp_seq ?_
        refine Wp_region_lit ?_
        refine W_v (.bool (decide ((0 : Int) < (t7.length : Int)))) (x_ibin rfl rfl rfl rfl) rfl ?_
        refine Wl_nil ?_
        refine tn ?_
        refine Wp_seq ?_
        rcases iteS H with ⟨hb53, H⟩ | ⟨hb53, H⟩
        · refine Wp_cond_true (congrArg Value.bool hb53) ?_
          refine Wp_skip ?_
          refine tn ?_
          refine Wp_seq ?_
          refine Wp_block ?_
          refine Wp_seq ?_
          refine Wp_region_lit ?_
          obtain ⟨⟨p54, p55⟩, H⟩ := chkS H
          obtain ⟨b56, o57, cs58, _, _, ee63, hb59, vs60, hR61, hc62⟩ := SlW.at' (S.row_read 0 rfl) p54 p55
          obtain rfl : vs60 = _ := hR61
          refine W_v (.pointer (some ⟨b56, o57 + (0 : Int).toNat * 1, none⟩)) (x_indexAddr Tryd.underlying67 ty9 (slA ee63) rfl p54 p55) rfl ?_
          refine W_v (.string (bs (rd t7 (0 : Int)))) (x_load (Hp.of_get hb59) ty9 rfl (hc62 0 _ rfl)) rfl ?_
          refine W_v (.string (bs (rd t7 (0 : Int)))) (x_assign rfl) rfl ?_
          refine Wl_nil ?_
          refine tn ?_
          refine Wp_seq ?_
          refine Wp_seq ?_
          refine Wp_region_lit ?_
          refine W_v (.slice none 0 0) (x_move rfl) rfl ?_
          refine W_v (.int .i64 0) (x_len_slice (n := 0) Tryd.underlying41 rfl) rfl ?_
          refine W_v (.pointer (some ⟨b1, 5, none⟩)) (x_fieldAddr (o := 0) (off := 5) Tryd.underlying37 rfl ty3 rfl rfl) rfl ?_
          refine W_v (.int .i64 a3.Limit) (x_load (S.blk 2 rfl) ty3 rfl rfl) rfl ?_
          refine W_v (.bool ((0 : Int) == a3.Limit)) (x_ibin rfl rfl rfl rfl) rfl ?_
          refine Wl_nil ?_
          refine tn ?_
          rcases iteS H with ⟨hb64, H⟩ | ⟨hb64, H⟩
          · refine Wp_cond_true (congrArg Value.bool hb64) ?_
            refine Wp_exit ?_
            refine tx (bx rfl (tx (tx (bsm (?_)))))
            refine tn ?_
            exact ⟨Option.some.inj H, ⟨rfl, rfl, trivial⟩, E, S.pick [1] (by decide)⟩
          refine Wp_cond_false (congrArg Value.bool hb64) ?_
          refine Wp_skip ?_
          refine tn ?_
          refine Wp_seq ?_
          refine Wp_region_lit ?_
          refine W_v (.pointer none) (x_move rfl) rfl ?_
          refine W_v (.int .i64 a1) (x_move rfl) rfl ?_
          refine W_v (.pointer none) (x_move rfl) rfl ?_
          cases H
        refine Wp_cond_false (congrArg Value.bool hb53) ?_
        refine Wp_exit ?_
        refine tx (tx (bsm (?_)))
        refine tn ?_
        exact ⟨Option.some.inj H, ⟨rfl, rfl, trivial⟩, E, S.pick [1] (by decide)⟩
  clear o51h
  rintro ρ w65 ⟨rfl, hρ, E, S⟩
  rw [agree_eta hρ]
  clear hρ
  have H := o51H
  clear o51H
  refine tn ?_
  as_aux_lemma =>
  refine Wp_seq ?_
  refine Wp_region_lit ?_
  refine W_v (.slice none 0 0) (x_move rfl) rfl ?_
  refine W_v (.agg #[.int .i64 0, .bool false, .string (bs ([] : Str)), .slice none 0 0]) (x_build2 (pl := [(0, 1), (1, 1), (2, 1), (3, 1)]) #[.int .i64 0, .bool false, .string (bs ([] : Str)), .slice none 0 0] Tryd.underlying43 ty43 (by as_aux_lemma => kernel_rfl) rfl (by as_aux_lemma => kernel_rfl)) rfl ?_
  refine W_store S 0 rfl ty43 rfl rfl [.int .i64 0, .bool false, .string (bs ([] : Str)), .slice none 0 0] rfl rfl rfl #[.int .i64 0, .bool false, .string (bs ([] : Str)), .slice none 0 0] rfl rfl ?_
  intro w66 E' S
  replace E := E.trans E'
  clear E'
  refine Wl_nil ?_
  refine tn ?_
  refine Wp_ret ?_
  obtain rfl := Option.some.inj H
  replace S := S.row_nil r_api_Pair 87
  exact ⟨_, _, _, fun w1 e1 => run_resR (vs := [.agg #[.int .i64 0, .bool false, .string (bs ([] : Str)), .slice none ([] : List api_Pair).length 0]]) (FA.cons (⟨_, rfl, run_loadVar_agg ty43 ((S.of_eq e1).blk 1 rfl) (sub_of_extract rfl) rfl (by decide)⟩) (FA.nil)), HM, E, S.pick [0] (by decide), ⟨none, 0, rfl, rfl⟩⟩
/-! ### (*ferryman/model.Model).migrate: function 132 -/
def model_Model_migrate_Z (k : Nat) (a1 : Int) (a2 : Int) (a3 : api_Call) : Option (api_Answer) :=
  some (⟨(0 : Int), false, ([] : Str), ([] : List api_Pair)⟩ : api_Answer)
set_option maxHeartbeats 2000000 in
theorem model_Model_migrate_Z.mono {k : Nat} {a1 : Int} {a2 : Int} {a3 : api_Call} : OLe (model_Model_migrate_Z k a1 a2 a3) (model_Model_migrate_Z (k + 1) a1 a2 a3) := by
  unfold model_Model_migrate_Z
  repeat' (first | with_reducible exact OLe.none | with_reducible exact OLe.some | with_reducible refine OLe.ite ?_ ?_ | with_reducible refine OLe.bind ?_ (fun _ => ?_) | refine OLe.bind ?_ (fun _ => ?_) | refine OLe.ite ?_ ?_ | refine OLe.elim (fun _ => ?_) (fun _ => ?_) | split)
set_option maxHeartbeats 4000000 in
set_option maxRecDepth 100000 in
theorem model_Model_migrate_Z.con (k : Nat) (M : Hp) (a1 : Int) (a2 : Int) (a3 : api_Call) (r : api_Answer)  (h : model_Model_migrate_Z k a1 a2 a3 = some r) : Con Tryd.prog 132 #[.pointer none, .int .i64 a1, .int .i64 a2, .agg #[.int .u8 a3.Kind, .int .i64 a3.Tx, .string (bs a3.Key), .string (bs a3.End), .string (bs a3.Value), .int .i64 a3.Limit, .int .u8 a3.Engine]] M [] (fun v M' Γ' => ∃ (Aq1 : Option Addr) (cq2 : Nat), v = .agg #[.int .i64 r.Err, .bool r.Found, .string (bs r.Value), .slice Aq1 r.Pairs.length cq2] ∧ Γ' = [Row r_api_Pair 87 (.slice Aq1 r.Pairs.length cq2) r.Pairs]) := by
  refine con_of_wp Tryd.func132 rfl Tryd.ntmps132 Tryd.results132 rfl ?_
  intro w F rn S hrn
  have E := Ext.refl w
  have HM := Hp.le_refl M
  have H := h
  unfold model_Model_migrate_Z at H
  refine Wp_seq ?_
  refine Wp_region_lit ?_
  refine W_box S #[.int .u8 a3.Kind, .int .i64 a3.Tx, .string (bs a3.Key), .string (bs a3.End), .string (bs a3.Value), .int .i64 a3.Limit, .int .u8 a3.Engine] rfl rfl rfl ?_
  intro b1 w2 E' S
  replace E := E.trans E'
  clear E'
  refine W_alloc S #[.int .i64 0, .bool false, .string (bs ([] : Str)), .slice none 0 0] ty43 rfl rfl ?_
  intro b4 w5 E' S
  replace E := E.trans E'
  clear E'
  refine Wl_nil ?_
  refine tn ?_
  refine Wp_seq ?_
  refine Wp_region_lit ?_
  refine W_v (.agg #[.int .i64 0, .bool false, .string (bs ([] : Str)), .slice none 0 0]) (x_build2 (pl := [(0, 1), (1, 1), (2, 1), (3, 1)]) #[.int .i64 0, .bool false, .string (bs ([] : Str)), .slice none 0 0] Tryd.underlying43 ty43 (by as_aux_lemma => kernel_rfl) rfl (by as_aux_lemma => kernel_rfl)) rfl ?_
  refine W_store S 0 rfl ty43 rfl rfl [.int .i64 0, .bool false, .string (bs ([] : Str)), .slice none 0 0] rfl rfl rfl #[.int .i64 0, .bool false, .string (bs ([] : Str)), .slice none 0 0] rfl rfl ?_
  intro w7 E' S
  replace E := E.trans E'
  clear E'
  refine Wl_nil ?_
  refine tn ?_
  refine Wp_ret ?_
  obtain rfl := Option.some.inj H
  replace S := S.row_nil r_api_Pair 87
  exact ⟨_, _, _, fun w1 e1 => run_resR (vs := [.agg #[.int .i64 0, .bool false, .string (bs ([] : Str)), .slice none ([] : List api_Pair).length 0]]) (FA.cons (⟨_, rfl, run_loadVar_agg ty43 ((S.of_eq e1).blk 1 rfl) (sub_of_extract rfl) rfl (by decide)⟩) (FA.nil)), HM, E, S.pick [0] (by decide), ⟨none, 0, rfl, rfl⟩⟩
/-! ### (*ferryman/model.Model).Do: function 15 -/
def model_Model_Do_Z (k : Nat) (a1 : Int) (a2 : api_Call) : Option (api_Answer) :=
  (Option.bind (model_Model_Refused_Z k a1 a2) (fun t7 => (if (t7 != (0 : Int)) = true then some (⟨t7, false, ([] : Str), ([] : List api_Pair)⟩ : api_Answer) else (Option.bind (model_Model_Tx_Z k a1 a2.Tx) (fun t15 => (if 0 ≤ a2.Kind ∧ a2.Kind < (10 : Int) then (if (a2.Kind == (1 : Int)) = true then none else (if (a2.Kind == (2 : Int)) = true then none else (if (a2.Kind == (3 : Int)) = true then none else (if (a2.Kind == (4 : Int)) = true then none else (if (a2.Kind == (5 : Int)) = true then (Option.bind (model_Model_scan_Z k t15.1 a1 a2) (fun t62 => some t62)) else (if (a2.Kind == (6 : Int)) = true then none else (if (a2.Kind == (7 : Int)) = true then none else (if (a2.Kind == (8 : Int)) = true then none else (if (a2.Kind == (9 : Int)) = true then (Option.bind (model_Model_migrate_Z k t15.1 a1 a2) (fun t75 => some t75)) else none))))))))) else none))))))
set_option maxHeartbeats 2000000 in
theorem model_Model_Do_Z.mono {k : Nat} {a1 : Int} {a2 : api_Call} : OLe (model_Model_Do_Z k a1 a2) (model_Model_Do_Z (k + 1) a1 a2) := by
  unfold model_Model_Do_Z
  repeat' (first | with_reducible exact OLe.none | with_reducible exact OLe.some | with_reducible refine OLe.ite ?_ ?_ | with_reducible refine OLe.bind ?_ (fun _ => ?_) | with_reducible exact model_Model_Refused_Z.mono | with_reducible exact model_Model_Tx_Z.mono | with_reducible exact model_Model_migrate_Z.mono | with_reducible exact model_Model_scan_Z.mono | refine OLe.bind ?_ (fun _ => ?_) | refine OLe.ite ?_ ?_ | refine OLe.elim (fun _ => ?_) (fun _ => ?_) | split)
set_option maxHeartbeats 4000000 in
set_option maxRecDepth 100000 in
theorem model_Model_Do_Z.con (k : Nat) (M : Hp) (a1 : Int) (a2 : api_Call) (r : api_Answer)  (hg0 : ∃ gt fr, M 0 = some (.cells #[.nilFunc, .func (.func 124) #[] #[], .func (.func 125) #[] #[], .func (.func 126) #[] #[], .func (.func 127) #[] #[], .func (.func 128) #[] #[], .func (.func 129) #[] #[], .func (.func 130) #[] #[], .func (.func 131) #[] #[], .func (.func 132) #[] #[]] gt fr)) (h : model_Model_Do_Z k a1 a2 = some r) : Con Tryd.prog 15 #[.pointer none, .int .i64 a1, .agg #[.int .u8 a2.Kind, .int .i64 a2.Tx, .string (bs a2.Key), .string (bs a2.End), .string (bs a2.Value), .int .i64 a2.Limit, .int .u8 a2.Engine]] M [] (fun v M' Γ' => ∃ (Aq1 : Option Addr) (cq2 : Nat), v = .agg #[.int .i64 r.Err, .bool r.Found, .string (bs r.Value), .slice Aq1 r.Pairs.length cq2] ∧ Γ' = [Row r_api_Pair 87 (.slice Aq1 r.Pairs.length cq2) r.Pairs]) := by
  refine con_of_wp Tryd.func15 rfl Tryd.ntmps15 Tryd.results15 rfl ?_
  intro w F rn S hrn
  have E := Ext.refl w
  have HM := Hp.le_refl M
  have H := h
  unfold model_Model_Do_Z at H
  refine Wp_seq ?_
  refine Wp_region_lit ?_
  refine W_box S #[.int .u8 a2.Kind, .int .i64 a2.Tx, .string (bs a2.Key), .string (bs a2.End), .string (bs a2.Value), .int .i64 a2.Limit, .int .u8 a2.Engine] rfl rfl rfl ?_
  intro b1 w2 E' S
  replace E := E.trans E'
  clear E'
  refine W_alloc S #[.int .i64 0, .bool false, .string (bs ([] : Str)), .slice none 0 0] ty43 rfl rfl ?_
  intro b4 w5 E' S
  replace E := E.trans E'
  clear E'
  refine Wl_nil ?_
  refine tn ?_
  refine Wp_seq ?_
  refine Wp_seq ?_
  refine Wp_region_lit ?_
  refine W_v (.pointer none) (x_move rfl) rfl ?_
  refine W_v (.int .i64 a1) (x_move rfl) rfl ?_
  refine W_v (.agg #[.int .u8 a2.Kind, .int .i64 a2.Tx, .string (bs a2.Key), .string (bs a2.End), .string (bs a2.Value), .int .i64 a2.Limit, .int .u8 a2.Engine]) (x_loadA (S.blk 1 rfl) ty37 rfl (sub_of_extract rfl) rfl rfl) rfl ?_
  obtain ⟨t7, ht8, H⟩ := bindS H
  refine W_callF2 fn25 (model_Model_Refused_Z.con k M a1 a2 t7  ht8) (Γ1 := []) (Γ2 := [_, _]) S rfl rfl (by rintro _ _ _ ⟨rfl, rfl⟩; exact flat_nil) ?_
  rintro _ w9 _ Γ' E' S ⟨rfl, rfl⟩
  replace E := E.trans E'
  clear E'
  replace S : St w9 M F [_, _] := S
  refine W_v (.int .i64 t7) (x_assign rfl) rfl ?_
  refine Wl_nil ?_
  refine tn ?_
  refine Wp_seq ?_
  refine Wp_region_lit ?_
  refine W_v (.int .i64 t7) (x_move rfl) rfl ?_
  refine W_v (.bool (t7 != (0 : Int))) (x_ibin rfl rfl rfl rfl) rfl ?_
  refine Wl_nil ?_
  refine tn ?_
  rcases iteS H with ⟨hb12, H⟩ | ⟨hb12, H⟩
  · refine Wp_cond_true (congrArg Value.bool hb12) ?_
    refine Wp_seq ?_
    refine Wp_region_lit ?_
    refine W_v (.int .i64 t7) (x_move rfl) rfl ?_
    refine W_v (.agg #[.int .i64 t7, .bool false, .string (bs ([] : Str)), .slice none 0 0]) (x_build2 (pl := [(0, 1), (1, 1), (2, 1), (3, 1)]) #[.int .i64 t7, .bool false, .string (bs ([] : Str)), .slice none 0 0] Tryd.underlying43 ty43 (by as_aux_lemma => kernel_rfl) rfl (by as_aux_lemma => kernel_rfl)) rfl ?_
    refine W_store S 0 rfl ty43 rfl rfl [.int .i64 t7, .bool false, .string (bs ([] : Str)), .slice none 0 0] rfl rfl rfl #[.int .i64 t7, .bool false, .string (bs ([] : Str)), .slice none 0 0] rfl rfl ?_
    intro w13 E' S
    replace E := E.trans E'
    clear E'
    refine Wl_nil ?_
    refine tn ?_
    refine Wp_ret ?_
    refine tr (?_)
    obtain rfl := Option.some.inj H
    replace S := S.row_nil r_api_Pair 87
    exact ⟨_, _, _, fun w1 e1 => run_resR (vs := [.agg #[.int .i64 t7, .bool false, .string (bs ([] : Str)), .slice none ([] : List api_Pair).length 0]]) (FA.cons (⟨_, rfl, run_loadVar_agg ty43 ((S.of_eq e1).blk 1 rfl) (sub_of_extract rfl) rfl (by decide)⟩) (FA.nil)), HM, E, S.pick [0] (by decide), ⟨none, 0, rfl, rfl⟩⟩
  refine Wp_cond_false (congrArg Value.bool hb12) ?_
  refine Wp_skip ?_
  refine tn ?_
  as_aux_lemma =>
  refine Wp_seq ?_
  refine Wp_region_lit ?_
  refine W_v (.pointer none) (x_move rfl) rfl ?_
  refine W_v (.int .i64 a1) (x_move rfl) rfl ?_
  refine W_v (.pointer (some ⟨b1, 1, none⟩)) (x_fieldAddr (o := 0) (off := 1) Tryd.underlying37 rfl ty3 rfl rfl) rfl ?_
  refine W_v (.int .i64 a2.Tx) (x_load (S.blk 1 rfl) ty3 rfl rfl) rfl ?_
  obtain ⟨t15, ht16, H⟩ := bindS H
  refine W_callF2 fn23 (model_Model_Tx_Z.con k M a1 a2.Tx t15  ht16) (Γ1 := []) (Γ2 := [_, _]) S rfl rfl (by rintro _ _ _ ⟨rfl, rfl⟩; exact flat_nil) ?_
  rintro _ w17 _ Γ' E' S ⟨rfl, rfl⟩
  replace E := E.trans E'
  clear E'
  replace S : St w17 M F [_, _] := S
  refine W_v (.tuple #[.int .i64 t15.1, .int .u8 t15.2.1, .int .i64 t15.2.2]) (x_move rfl) rfl ?_
  refine W_v (.int .i64 t15.1) (x_extract rfl rfl) rfl ?_
  refine W_v (.int .u8 t15.2.1) (x_extract rfl rfl) rfl ?_
  refine W_v (.int .i64 t15.2.2) (x_extract rfl rfl) rfl ?_
  refine W_v (.int .i64 t15.1) (x_assign rfl) rfl ?_
  refine W_v (.int .u8 t15.2.1) (x_assign rfl) rfl ?_
  refine W_v (.int .i64 t15.2.2) (x_assign rfl) rfl ?_
  refine Wl_nil ?_
  refine tn ?_
  refine Wp_seq ?_
  refine Wp_region_any (S := fun w' => ∃ Mx, M.le Mx ∧ St w' Mx F [Blk b4 (.cells #[.int .i64 0, .bool false, .string (bs ([] : Str)), .slice none 0 0] 43 (0, 0)), B37 b1 a2]) (L := 9) mixed ?_
  intro w51 hw52 E'
  replace S := S.heap hw52
  replace E := E.trans E'
  clear E'
  have D1 : ∃ Mx, Hp.le M Mx ∧ St _ Mx F [_, _] := ⟨_, Hp.le_refl _, S.pick [0, 1] (by decide)⟩
  refine Wa_take (i := 0) rfl (by kernel_rfl) rfl rfl (.pointer (some ⟨b1, 0, none⟩)) rfl (fun w' h' => x_fieldAddr (o := 0) (off := 0) Tryd.underlying37 rfl ty5 rfl rfl) D1 ?_
  refine Wa_take (i := 1) rfl (by kernel_rfl) rfl rfl (.int .u8 a2.Kind) rfl (fun w' h' => x_load (cls_blk h' 1 rfl) ty5 rfl rfl) D1 ?_
  obtain ⟨⟨p53, p54⟩, H⟩ := chkS H
  refine Wa_take (i := 2) rfl (by kernel_rfl) rfl rfl (.pointer (some ⟨0, 0 + a2.Kind.toNat * 1, none⟩)) rfl (fun w' h' => x_indexArr Tryd.underlying96 ty95 rfl rfl p53 p54) D1 ?_
  obtain ⟨gtfr55, fr55, hgx56⟩ := hg0
  have hg0 : ∃ gt fr, _ := ⟨gtfr55, fr55, hgx56⟩
  rcases iteS H with ⟨hb57, H⟩ | ⟨hb57, H⟩
  · skip
    refine Wa_take (i := 3) rfl (by kernel_rfl) rfl rfl (.func (.func 124) #[] #[]) rfl (fun w' h' => x_load (cls_frz h' hgx56) ty95 rfl (by rw [show a2.Kind = (1 : Int) from eq_of_beq hb57]; rfl)) D1 ?_
    refine Wa_take (i := 4) rfl (by kernel_rfl) rfl rfl (.pointer none) rfl (fun w' h' => x_move rfl) D1 ?_
    refine Wa_take (i := 5) rfl (by kernel_rfl) rfl rfl (.int .i64 t15.1) rfl (fun w' h' => x_move rfl) D1 ?_
    refine Wa_take (i := 6) rfl (by kernel_rfl) rfl rfl (.int .i64 a1) rfl (fun w' h' => x_move rfl) D1 ?_
    refine Wa_take (i := 7) rfl (by kernel_rfl) rfl rfl (.agg #[.int .u8 a2.Kind, .int .i64 a2.Tx, .string (bs a2.Key), .string (bs a2.End), .string (bs a2.Value), .int .i64 a2.Limit, .int .u8 a2.Engine]) rfl (fun w' h' => x_loadA (cls_blk h' 1 rfl) ty37 rfl (sub_of_extract rfl) rfl rfl) D1 ?_
    refine Wa_solo (i := 8) rfl (by kernel_rfl) ?_
    cases H
  rcases iteS H with ⟨hb58, H⟩ | ⟨hb58, H⟩
  · skip
    refine Wa_take (i := 3) rfl (by kernel_rfl) rfl rfl (.func (.func 125) #[] #[]) rfl (fun w' h' => x_load (cls_frz h' hgx56) ty95 rfl (by rw [show a2.Kind = (2 : Int) from eq_of_beq hb58]; rfl)) D1 ?_
    refine Wa_take (i := 4) rfl (by kernel_rfl) rfl rfl (.pointer none) rfl (fun w' h' => x_move rfl) D1 ?_
    refine Wa_take (i := 5) rfl (by kernel_rfl) rfl rfl (.int .i64 t15.1) rfl (fun w' h' => x_move rfl) D1 ?_
    refine Wa_take (i := 6) rfl (by kernel_rfl) rfl rfl (.int .i64 a1) rfl (fun w' h' => x_move rfl) D1 ?_
    refine Wa_take (i := 7) rfl (by kernel_rfl) rfl rfl (.agg #[.int .u8 a2.Kind, .int .i64 a2.Tx, .string (bs a2.Key), .string (bs a2.End), .string (bs a2.Value), .int .i64 a2.Limit, .int .u8 a2.Engine]) rfl (fun w' h' => x_loadA (cls_blk h' 1 rfl) ty37 rfl (sub_of_extract rfl) rfl rfl) D1 ?_
    refine Wa_solo (i := 8) rfl (by kernel_rfl) ?_
    cases H
  rcases iteS H with ⟨hb59, H⟩ | ⟨hb59, H⟩
  · skip
    refine Wa_take (i := 3) rfl (by kernel_rfl) rfl rfl (.func (.func 126) #[] #[]) rfl (fun w' h' => x_load (cls_frz h' hgx56) ty95 rfl (by rw [show a2.Kind = (3 : Int) from eq_of_beq hb59]; rfl)) D1 ?_
    refine Wa_take (i := 4) rfl (by kernel_rfl) rfl rfl (.pointer none) rfl (fun w' h' => x_move rfl) D1 ?_
    refine Wa_take (i := 5) rfl (by kernel_rfl) rfl rfl (.int .i64 t15.1) rfl (fun w' h' => x_move rfl) D1 ?_
    refine Wa_take (i := 6) rfl (by kernel_rfl) rfl rfl (.int .i64 a1) rfl (fun w' h' => x_move rfl) D1 ?_
    refine Wa_take (i := 7) rfl (by kernel_rfl) rfl rfl (.agg #[.int .u8 a2.Kind, .int .i64 a2.Tx, .string (bs a2.Key), .string (bs a2.End), .string (bs a2.Value), .int .i64 a2.Limit, .int .u8 a2.Engine]) rfl (fun w' h' => x_loadA (cls_blk h' 1 rfl) ty37 rfl (sub_of_extract rfl) rfl rfl) D1 ?_
    refine Wa_solo (i := 8) rfl (by kernel_rfl) ?_
    cases H
  rcases iteS H with ⟨hb60, H⟩ | ⟨hb60, H⟩
  · skip
    refine Wa_take (i := 3) rfl (by kernel_rfl) rfl rfl (.func (.func 127) #[] #[]) rfl (fun w' h' => x_load (cls_frz h' hgx56) ty95 rfl (by rw [show a2.Kind = (4 : Int) from eq_of_beq hb60]; rfl)) D1 ?_
    refine Wa_take (i := 4) rfl (by kernel_rfl) rfl rfl (.pointer none) rfl (fun w' h' => x_move rfl) D1 ?_
    refine Wa_take (i := 5) rfl (by kernel_rfl) rfl rfl (.int .i64 t15.1) rfl (fun w' h' => x_move rfl) D1 ?_
    refine Wa_take (i := 6) rfl (by kernel_rfl) rfl rfl (.int .i64 a1) rfl (fun w' h' => x_move rfl) D1 ?_
    refine Wa_take (i := 7) rfl (by kernel_rfl) rfl rfl (.agg #[.int .u8 a2.Kind, .int .i64 a2.Tx, .string (bs a2.Key), .string (bs a2.End), .string (bs a2.Value), .int .i64 a2.Limit, .int .u8 a2.Engine]) rfl (fun w' h' => x_loadA (cls_blk h' 1 rfl) ty37 rfl (sub_of_extract rfl) rfl rfl) D1 ?_
    refine Wa_solo (i := 8) rfl (by kernel_rfl) ?_
    cases H
  rcases iteS H with ⟨hb61, H⟩ | ⟨hb61, H⟩
  · skip
    refine Wa_take (i := 3) rfl (by kernel_rfl) rfl rfl (.func (.func 128) #[] #[]) rfl (fun w' h' => x_load (cls_frz h' hgx56) ty95 rfl (by rw [show a2.Kind = (5 : Int) from eq_of_beq hb61]; rfl)) D1 ?_
    refine Wa_take (i := 4) rfl (by kernel_rfl) rfl rfl (.pointer none) rfl (fun w' h' => x_move rfl) D1 ?_
    refine Wa_take (i := 5) rfl (by kernel_rfl) rfl rfl (.int .i64 t15.1) rfl (fun w' h' => x_move rfl) D1 ?_
    refine Wa_take (i := 6) rfl (by kernel_rfl) rfl rfl (.int .i64 a1) rfl (fun w' h' => x_move rfl) D1 ?_
    refine Wa_take (i := 7) rfl (by kernel_rfl) rfl rfl (.agg #[.int .u8 a2.Kind, .int .i64 a2.Tx, .string (bs a2.Key), .string (bs a2.End), .string (bs a2.Value), .int .i64 a2.Limit, .int .u8 a2.Engine]) rfl (fun w' h' => x_loadA (cls_blk h' 1 rfl) ty37 rfl (sub_of_extract rfl) rfl rfl) D1 ?_
    refine Wa_solo (i := 8) rfl (by kernel_rfl) ?_
    obtain ⟨t62, ht63, H⟩ := bindS H
    refine W_callvF2 (fs := []) (cap := []) fn128 rfl (model_Model_scan_Z.con k M t15.1 a1 a2 t62  ht63) (Γ1 := []) (Γ2 := [_, _]) S rfl rfl (by rintro _ _ _ ⟨_, _, rfl, rfl⟩; exact (flat_cons (flat_row (fun _ _ _ _ h => h)) flat_nil)) ?_
    rintro _ w67 _ Γ' E' S ⟨A64, c65, rfl, rfl⟩
    replace E := E.trans E'
    clear E'
    replace S : St w67 M F [_, _, _] := S
    refine Wl_nil (on_n ⟨.inr ⟨M, Hp.le_refl M, (S.pick [1, 2] (by decide))⟩, ?_⟩)
    refine Wa_solo (i := 9) rfl (by kernel_rfl) ?_
    refine W_store S 1 rfl ty43 rfl rfl [.int .i64 t62.Err, .bool t62.Found, .string (bs t62.Value), .slice A64 t62.Pairs.length c65] rfl rfl rfl #[.int .i64 t62.Err, .bool t62.Found, .string (bs t62.Value), .slice A64 t62.Pairs.length c65] rfl rfl ?_
    intro w70 E' S
    replace E := E.trans E'
    clear E'
    refine Wl_nil (on_n ⟨.inl (by decide), ?_⟩)
    refine Wa_done (by kernel_rfl) ?_
    refine tn ?_
    refine Wp_ret ?_
    obtain rfl := Option.some.inj H
    exact ⟨_, _, _, fun w1 e1 => run_resR (vs := [.agg #[.int .i64 t62.Err, .bool t62.Found, .string (bs t62.Value), .slice A64 t62.Pairs.length c65]]) (FA.cons (⟨_, rfl, run_loadVar_agg ty43 ((S.of_eq e1).blk 1 rfl) (sub_of_extract rfl) rfl (by decide)⟩) (FA.nil)), HM, E, S.pick [0] (by decide), ⟨A64, c65, rfl, rfl⟩⟩
  rcases iteS H with ⟨hb71, H⟩ | ⟨hb71, H⟩
  · skip
    have D2 : ∃ Mx, Hp.le M Mx ∧ St _ Mx F [_, _] := ⟨_, Hp.le_refl _, S.pick [0, 1] (by decide)⟩
    refine Wa_take (i := 3) rfl (by kernel_rfl) rfl rfl (.func (.func 129) #[] #[]) rfl (fun w' h' => x_load (cls_frz h' hgx56) ty95 rfl (by rw [show a2.Kind = (6 : Int) from eq_of_beq hb71]; rfl)) D2 ?_
    refine Wa_take (i := 4) rfl (by kernel_rfl) rfl rfl (.pointer none) rfl (fun w' h' => x_move rfl) D2 ?_
    refine Wa_take (i := 5) rfl (by kernel_rfl) rfl rfl (.int .i64 t15.1) rfl (fun w' h' => x_move rfl) D2 ?_
    refine Wa_take (i := 6) rfl (by kernel_rfl) rfl rfl (.int .i64 a1) rfl (fun w' h' => x_move rfl) D2 ?_
    refine Wa_take (i := 7) rfl (by kernel_rfl) rfl rfl (.agg #[.int .u8 a2.Kind, .int .i64 a2.Tx, .string (bs a2.Key), .string (bs a2.End), .string (bs a2.Value), .int .i64 a2.Limit, .int .u8 a2.Engine]) rfl (fun w' h' => x_loadA (cls_blk h' 1 rfl) ty37 rfl (sub_of_extract rfl) rfl rfl) D2 ?_
    refine Wa_solo (i := 8) rfl (by kernel_rfl) ?_
    cases H
  rcases iteS H with ⟨hb72, H⟩ | ⟨hb72, H⟩
  · skip
    have D3 : ∃ Mx, Hp.le M Mx ∧ St _ Mx F [_, _] := ⟨_, Hp.le_refl _, S.pick [0, 1] (by decide)⟩
    refine Wa_take (i := 3) rfl (by kernel_rfl) rfl rfl (.func (.func 130) #[] #[]) rfl (fun w' h' => x_load (cls_frz h' hgx56) ty95 rfl (by rw [show a2.Kind = (7 : Int) from eq_of_beq hb72]; rfl)) D3 ?_
    refine Wa_take (i := 4) rfl (by kernel_rfl) rfl rfl (.pointer none) rfl (fun w' h' => x_move rfl) D3 ?_
    refine Wa_take (i := 5) rfl (by kernel_rfl) rfl rfl (.int .i64 t15.1) rfl (fun w' h' => x_move rfl) D3 ?_
    refine Wa_take (i := 6) rfl (by kernel_rfl) rfl rfl (.int .i64 a1) rfl (fun w' h' => x_move rfl) D3 ?_
    refine Wa_take (i := 7) rfl (by kernel_rfl) rfl rfl (.agg #[.int .u8 a2.Kind, .int .i64 a2.Tx, .string (bs a2.Key), .string (bs a2.End), .string (bs a2.Value), .int .i64 a2.Limit, .int .u8 a2.Engine]) rfl (fun w' h' => x_loadA (cls_blk h' 1 rfl) ty37 rfl (sub_of_extract rfl) rfl rfl) D3 ?_
    refine Wa_solo (i := 8) rfl (by kernel_rfl) ?_
    cases H
  rcases iteS H with ⟨hb73, H⟩ | ⟨hb73, H⟩
  · skip
    have D4 : ∃ Mx, Hp.le M Mx ∧ St _ Mx F [_, _] := ⟨_, Hp.le_refl _, S.pick [0, 1] (by decide)⟩
    refine Wa_take (i := 3) rfl (by kernel_rfl) rfl rfl (.func (.func 131) #[] #[]) rfl (fun w' h' => x_load (cls_frz h' hgx56) ty95 rfl (by rw [show a2.Kind = (8 : Int) from eq_of_beq hb73]; rfl)) D4 ?_
    refine Wa_take (i := 4) rfl (by kernel_rfl) rfl rfl (.pointer none) rfl (fun w' h' => x_move rfl) D4 ?_
    refine Wa_take (i := 5) rfl (by kernel_rfl) rfl rfl (.int .i64 t15.1) rfl (fun w' h' => x_move rfl) D4 ?_
    refine Wa_take (i := 6) rfl (by kernel_rfl) rfl rfl (.int .i64 a1) rfl (fun w' h' => x_move rfl) D4 ?_
    refine Wa_take (i := 7) rfl (by kernel_rfl) rfl rfl (.agg #[.int .u8 a2.Kind, .int .i64 a2.Tx, .string (bs a2.Key), .string (bs a2.End), .string (bs a2.Value), .int .i64 a2.Limit, .int .u8 a2.Engine]) rfl (fun w' h' => x_loadA (cls_blk h' 1 rfl) ty37 rfl (sub_of_extract rfl) rfl rfl) D4 ?_
    refine Wa_solo (i := 8) rfl (by kernel_rfl) ?_
    cases H
  rcases iteS H with ⟨hb74, H⟩ | ⟨hb74, H⟩
  · skip
    have D5 : ∃ Mx, Hp.le M Mx ∧ St _ Mx F [_, _] := ⟨_, Hp.le_refl _, S.pick [0, 1] (by decide)⟩
    refine Wa_take (i := 3) rfl (by kernel_rfl) rfl rfl (.func (.func 132) #[] #[]) rfl (fun w' h' => x_load (cls_frz h' hgx56) ty95 rfl (by rw [show a2.Kind = (9 : Int) from eq_of_beq hb74]; rfl)) D5 ?_
    refine Wa_take (i := 4) rfl (by kernel_rfl) rfl rfl (.pointer none) rfl (fun w' h' => x_move rfl) D5 ?_
    refine Wa_take (i := 5) rfl (by kernel_rfl) rfl rfl (.int .i64 t15.1) rfl (fun w' h' => x_move rfl) D5 ?_
    refine Wa_take (i := 6) rfl (by kernel_rfl) rfl rfl (.int .i64 a1) rfl (fun w' h' => x_move rfl) D5 ?_
    refine Wa_take (i := 7) rfl (by kernel_rfl) rfl rfl (.agg #[.int .u8 a2.Kind, .int .i64 a2.Tx, .string (bs a2.Key), .string (bs a2.End), .string (bs a2.Value), .int .i64 a2.Limit, .int .u8 a2.Engine]) rfl (fun w' h' => x_loadA (cls_blk h' 1 rfl) ty37 rfl (sub_of_extract rfl) rfl rfl) D5 ?_
    refine Wa_solo (i := 8) rfl (by kernel_rfl) ?_
    obtain ⟨t75, ht76, H⟩ := bindS H
    refine W_callvF2 (fs := []) (cap := []) fn132 rfl (model_Model_migrate_Z.con k M t15.1 a1 a2 t75  ht76) (Γ1 := []) (Γ2 := [_, _]) S rfl rfl (by rintro _ _ _ ⟨_, _, rfl, rfl⟩; exact (flat_cons (flat_row (fun _ _ _ _ h => h)) flat_nil)) ?_
    rintro _ w80 _ Γ' E' S ⟨A77, c78, rfl, rfl⟩
    replace E := E.trans E'
    clear E'
    replace S : St w80 M F [_, _, _] := S
    refine Wl_nil (on_n ⟨.inr ⟨M, Hp.le_refl M, (S.pick [1, 2] (by decide))⟩, ?_⟩)
    refine Wa_solo (i := 9) rfl (by kernel_rfl) ?_
    refine W_store S 1 rfl ty43 rfl rfl [.int .i64 t75.Err, .bool t75.Found, .string (bs t75.Value), .slice A77 t75.Pairs.length c78] rfl rfl rfl #[.int .i64 t75.Err, .bool t75.Found, .string (bs t75.Value), .slice A77 t75.Pairs.length c78] rfl rfl ?_
    intro w83 E' S
    replace E := E.trans E'
    clear E'
    refine Wl_nil (on_n ⟨.inl (by decide), ?_⟩)
    refine Wa_done (by kernel_rfl) ?_
    refine tn ?_
    refine Wp_ret ?_
    obtain rfl := Option.some.inj H
    exact ⟨_, _, _, fun w1 e1 => run_resR (vs := [.agg #[.int .i64 t75.Err, .bool t75.Found, .string (bs t75.Value), .slice A77 t75.Pairs.length c78]]) (FA.cons (⟨_, rfl, run_loadVar_agg ty43 ((S.of_eq e1).blk 1 rfl) (sub_of_extract rfl) rfl (by decide)⟩) (FA.nil)), HM, E, S.pick [0] (by decide), ⟨A77, c78, rfl, rfl⟩⟩
  cases H
/-! ### (*ferryman/model.Model).Versions: function 26 -/
def model_Model_Versions_Z (k : Nat) (a1 : Str) : Option ((List api_Version)) :=
  some ([] : List api_Version)
set_option maxHeartbeats 2000000 in
theorem model_Model_Versions_Z.mono {k : Nat} {a1 : Str} : OLe (model_Model_Versions_Z k a1) (model_Model_Versions_Z (k + 1) a1) := by
  unfold model_Model_Versions_Z
  repeat' (first | with_reducible exact OLe.none | with_reducible exact OLe.some | with_reducible refine OLe.ite ?_ ?_ | with_reducible refine OLe.bind ?_ (fun _ => ?_) | refine OLe.bind ?_ (fun _ => ?_) | refine OLe.ite ?_ ?_ | refine OLe.elim (fun _ => ?_) (fun _ => ?_) | split)
set_option maxHeartbeats 4000000 in
set_option maxRecDepth 100000 in
theorem model_Model_Versions_Z.con (k : Nat) (M : Hp) (a1 : Str) (r : (List api_Version))  (h : model_Model_Versions_Z k a1 = some r) : Con Tryd.prog 26 #[.pointer none, .string (bs a1)] M [] (fun v M' Γ' => ∃ (Aq1 : Option Addr) (cq2 : Nat), v = .slice Aq1 r.length cq2 ∧ Γ' = [Row r_api_Version 61 (.slice Aq1 r.length cq2) r]) := by
  refine con_of_wp Tryd.func26 rfl Tryd.ntmps26 Tryd.results26 rfl ?_
  intro w F rn S hrn
  have E := Ext.refl w
  have HM := Hp.le_refl M
  have H := h
  unfold model_Model_Versions_Z at H
  refine Wp_seq ?_
  refine Wp_region_lit ?_
  refine W_v (.slice none 0 0) (x_assign rfl) rfl ?_
  refine Wl_nil ?_
  refine tn ?_
  refine Wp_seq ?_
  refine Wp_seq ?_
  refine Wp_region_lit ?_
  refine W_v (.pointer none) (x_move rfl) rfl ?_
  refine W_v (.bool true) (x_eq_of (r := true) rfl rfl (run_eq_ptrnn Tryd.underlying27)) rfl ?_
  refine Wl_nil ?_
  refine tn ?_
  refine Wp_cond_true rfl ?_
  refine Wp_seq ?_
  refine Wp_region_lit ?_
  refine W_v (.slice none 0 0) (x_assign rfl) rfl ?_
  refine Wl_nil ?_
  refine tn ?_
  refine Wp_ret ?_
  refine tr (?_)
  obtain rfl := Option.some.inj H
  replace S := S.row_nil r_api_Version 61
  exact ⟨_, _, _, fun w1 e1 => run_resR (vs := [.slice none ([] : List api_Version).length 0]) (FA.cons (rfl) (FA.nil)), HM, E, S.pick [0] (by decide), ⟨none, 0, rfl, rfl⟩⟩
/-! ### (*ferryman/model.Model).Retained: function 22 -/
def model_Model_Retained_Z_l0 (t1 : (List Str)) : Nat → Option ((Unit))
  | 0 => none
  | k + 1 => (if (decide ((0 : Int) < (t1.length : Int))) = true then (if 0 ≤ (0 : Int) ∧ (0 : Int) < (t1.length : Int) then none else none) else some ())
set_option maxHeartbeats 2000000 in
theorem model_Model_Retained_Z_l0.mono {t1 : (List Str)} : ∀ {kl : Nat}, OLe (model_Model_Retained_Z_l0 t1 kl ) (model_Model_Retained_Z_l0 t1 (kl + 1) ) := by
  intro kl
  induction kl with
  | zero => intros; exact OLe.none
  | succ kl ih =>
    intros
    rw [model_Model_Retained_Z_l0.eq_2, model_Model_Retained_Z_l0.eq_2]
    repeat' (first | with_reducible exact OLe.none | with_reducible exact OLe.some | with_reducible refine OLe.ite ?_ ?_ | with_reducible refine OLe.bind ?_ (fun _ => ?_) | exact ih | refine OLe.bind ?_ (fun _ => ?_) | refine OLe.ite ?_ ?_ | refine OLe.elim (fun _ => ?_) (fun _ => ?_) | split)
def model_Model_Retained_Z (k : Nat)  : Option (Int) :=
  (Option.bind (model_Model_Keys_Z k ) (fun t1 => (Option.bind (model_Model_Retained_Z_l0 t1 k ) (fun _ => some (0 : Int)))))
set_option maxHeartbeats 2000000 in
theorem model_Model_Retained_Z.mono {k : Nat}  : OLe (model_Model_Retained_Z k ) (model_Model_Retained_Z (k + 1) ) := by
  unfold model_Model_Retained_Z
  repeat' (first | with_reducible exact OLe.none | with_reducible exact OLe.some | with_reducible refine OLe.ite ?_ ?_ | with_reducible refine OLe.bind ?_ (fun _ => ?_) | with_reducible exact model_Model_Keys_Z.mono | with_reducible exact model_Model_Retained_Z_l0.mono | refine OLe.bind ?_ (fun _ => ?_) | refine OLe.ite ?_ ?_ | refine OLe.elim (fun _ => ?_) (fun _ => ?_) | split)
set_option maxHeartbeats 4000000 in
set_option maxRecDepth 100000 in
theorem model_Model_Retained_Z.con (k : Nat) (M : Hp)  (r : Int)  (h : model_Model_Retained_Z k  = some r) : Con Tryd.prog 22 #[.pointer none] M [] (fun v M' Γ' => v = .int .i64 r ∧ Γ' = []) := by
  refine con_of_wp Tryd.func22 rfl Tryd.ntmps22 Tryd.results22 rfl ?_
  intro w F rn S hrn
  have E := Ext.refl w
  have HM := Hp.le_refl M
  have H := h
  unfold model_Model_Retained_Z at H
  refine Wp_seq ?_
  refine Wp_region_lit ?_
  refine W_v (.int .i64 0) (x_assign rfl) rfl ?_
  refine Wl_nil ?_
  refine tn ?_
  refine Wp_seq ?_
  refine Wp_region_lit ?_
  refine W_v (.int .i64 0) (x_assign rfl) rfl ?_
  refine Wl_nil ?_
  refine tn ?_
  refine Wp_seq ?_
  refine Wp_seq ?_
  refine Wp_region_lit ?_
  refine W_v (.pointer none) (x_move rfl) rfl ?_
  obtain ⟨t1, ht2, H⟩ := bindS H
  refine W_callF2 fn27 (model_Model_Keys_Z.con k M  t1  ht2) (Γ1 := []) (Γ2 := []) S rfl rfl (by rintro _ _ _ ⟨_, _, rfl, rfl⟩; exact (flat_cons (flat_row (fun _ _ _ _ h => h)) flat_nil)) ?_
  rintro _ w6 _ Γ' E' S ⟨A3, c4, rfl, rfl⟩
  replace E := E.trans E'
  clear E'
  replace S : St w6 M F [_] := S
  refine W_v (.int .i64 (t1.length : Int)) (x_len_slice (n := t1.length) Tryd.underlying67 rfl) rfl ?_
  refine W_v (.int .i64 0) (x_move rfl) rfl ?_
  refine Wl_nil ?_
  refine tn ?_
  obtain ⟨o48, o48h, o48H⟩ := bindS H
  clear H
  refine Wp_blockJ (fun ρ w' => () = o48 ∧ Agree ρ [(3, .int .i64 0)] ∧ Ext w w' ∧ St w' M F []) ?_ ?_
  · skip
    refine Wp_loop (fun n ρ w' => model_Model_Retained_Z_l0 t1 n  = some o48 ∧ Agree ρ [(0, .pointer none), (3, .int .i64 0), (7, .slice A3 t1.length c4), (8, .int .i64 (t1.length : Int)), (9, .int .i64 0)] ∧ Ext w w' ∧ St w' M F [Row rStr 9 (.slice A3 t1.length c4) t1]) k ?_ ?_
    · skip
      exact ⟨o48h, ⟨rfl, rfl, rfl, rfl, rfl, trivial⟩, E, S.pick [0] (by decide)⟩
    · intro n
      rintro ρ w49 ⟨H, hρ, E, S⟩
      rw [agree_eta hρ]
      clear hρ
      cases n with
      | zero => cases H
      | succ k =>
        rw [model_Model_Retained_Z_l0.eq_2] at H
        refine Wp_seq ?_
        refine Wp_region_lit ?_
        refine W_v (.bool (decide ((0 : Int) < (t1.length : Int)))) (x_ibin rfl rfl rfl rfl) rfl ?_
        refine Wl_nil ?_
        refine tn ?_
        refine Wp_seq ?_
        rcases iteS H with ⟨hb50, H⟩ | ⟨hb50, H⟩
        · refine Wp_cond_true (congrArg Value.bool hb50) ?_
          refine Wp_skip ?_
          refine tn ?_
          refine Wp_seq ?_
          refine Wp_block ?_
          refine Wp_seq ?_
          refine Wp_region_lit ?_
          obtain ⟨⟨p51, p52⟩, H⟩ := chkS H
          obtain ⟨b53, o54, cs55, _, _, ee60, hb56, vs57, hR58, hc59⟩ := SlW.at' (S.row_read 0 rfl) p51 p52
          obtain rfl : vs57 = _ := hR58
          refine W_v (.pointer (some ⟨b53, o54 + (0 : Int).toNat * 1, none⟩)) (x_indexAddr Tryd.underlying67 ty9 (slA ee60) rfl p51 p52) rfl ?_
          refine W_v (.string (bs (rd t1 (0 : Int)))) (x_load (Hp.of_get hb56) ty9 rfl (hc59 0 _ rfl)) rfl ?_
          refine W_v (.string (bs (rd t1 (0 : Int)))) (x_assign rfl) rfl ?_
          refine Wl_nil ?_
          refine tn ?_
          refine Wp_region_any (S := fun w' => ∃ Mx, M.le Mx ∧ St w' Mx F [Row rStr 9 (.slice A3 t1.length c4) t1]) (L := 21) mixed ?_
          intro w61 hw62 E'
          replace S := S.heap hw62
          replace E := E.trans E'
          clear E'
          have D1 : ∃ Mx, Hp.le M Mx ∧ St _ Mx F [_] := ⟨_, Hp.le_refl _, S.pick [0] (by decide)⟩
          refine Wa_take (i := 0) rfl (by kernel_rfl) rfl rfl (.int .i64 0) rfl (fun w' h' => x_move rfl) D1 ?_
          refine Wa_take (i := 1) rfl (by kernel_rfl) rfl rfl (.pointer none) rfl (fun w' h' => x_move rfl) D1 ?_
          cases H
        refine Wp_cond_false (congrArg Value.bool hb50) ?_
        refine Wp_exit ?_
        refine tx (tx (bsm (?_)))
        refine tn ?_
        exact ⟨Option.some.inj H, ⟨rfl, trivial⟩, E, S.pick [] (by decide)⟩
  clear o48h
  rintro ρ w63 ⟨rfl, hρ, E, S⟩
  rw [agree_eta hρ]
  clear hρ
  have H := o48H
  clear o48H
  refine tn ?_
  as_aux_lemma =>
  refine Wp_seq ?_
  refine Wp_region_lit ?_
  refine W_v (.int .i64 0) (x_move rfl) rfl ?_
  refine W_v (.int .i64 0) (x_assign rfl) rfl ?_
  refine Wl_nil ?_
  refine tn ?_
  refine Wp_ret ?_
  obtain rfl := Option.some.inj H
  exact ⟨_, _, _, fun w1 e1 => run_resR (vs := [.int .i64 0]) (FA.cons (rfl) (FA.nil)), HM, E, S.pick [] (by decide), ⟨rfl, rfl⟩⟩
/-! ### (*ferryman/model.Model).Active: function 21 -/
def model_Model_Active_Z (k : Nat)  : Option (Int) :=
  some (0 : Int)
set_option maxHeartbeats 2000000 in
theorem model_Model_Active_Z.mono {k : Nat}  : OLe (model_Model_Active_Z k ) (model_Model_Active_Z (k + 1) ) := by
  unfold model_Model_Active_Z
  repeat' (first | with_reducible exact OLe.none | with_reducible exact OLe.some | with_reducible refine OLe.ite ?_ ?_ | with_reducible refine OLe.bind ?_ (fun _ => ?_) | refine OLe.bind ?_ (fun _ => ?_) | refine OLe.ite ?_ ?_ | refine OLe.elim (fun _ => ?_) (fun _ => ?_) | split)
set_option maxHeartbeats 4000000 in
set_option maxRecDepth 100000 in
theorem model_Model_Active_Z.con (k : Nat) (M : Hp)  (r : Int)  (h : model_Model_Active_Z k  = some r) : Con Tryd.prog 21 #[.pointer none] M [] (fun v M' Γ' => v = .int .i64 r ∧ Γ' = []) := by
  refine con_of_wp Tryd.func21 rfl Tryd.ntmps21 Tryd.results21 rfl ?_
  intro w F rn S hrn
  have E := Ext.refl w
  have HM := Hp.le_refl M
  have H := h
  unfold model_Model_Active_Z at H
  refine Wp_seq ?_
  refine Wp_region_lit ?_
  refine W_v (.int .i64 0) (x_assign rfl) rfl ?_
  refine Wl_nil ?_
  refine tn ?_
  refine Wp_seq ?_
  refine Wp_region_lit ?_
  refine W_v (.int .i64 0) (x_assign rfl) rfl ?_
  refine Wl_nil ?_
  refine tn ?_
  refine Wp_seq ?_
  refine Wp_seq ?_
  refine Wp_region_lit ?_
  refine W_v (.pointer none) (x_move rfl) rfl ?_
  refine W_v (.bool true) (x_eq_of (r := true) rfl rfl (run_eq_ptrnn Tryd.underlying27)) rfl ?_
  refine Wl_nil ?_
  refine tn ?_
  refine Wp_cond_true rfl ?_
  refine Wp_seq ?_
  refine Wp_region_lit ?_
  refine W_v (.int .i64 0) (x_move rfl) rfl ?_
  refine W_v (.int .i64 0) (x_assign rfl) rfl ?_
  refine Wl_nil ?_
  refine tn ?_
  refine Wp_ret ?_
  refine tr (?_)
  obtain rfl := Option.some.inj H
  exact ⟨_, _, _, fun w1 e1 => run_resR (vs := [.int .i64 0]) (FA.cons (rfl) (FA.nil)), HM, E, S.pick [] (by decide), ⟨rfl, rfl⟩⟩
/-! ### (*ferryman/model.Model).Clock: function 19 -/
def model_Model_Clock_Z (k : Nat)  : Option (Int) :=
  some (0 : Int)
set_option maxHeartbeats 2000000 in
theorem model_Model_Clock_Z.mono {k : Nat}  : OLe (model_Model_Clock_Z k ) (model_Model_Clock_Z (k + 1) ) := by
  unfold model_Model_Clock_Z
  repeat' (first | with_reducible exact OLe.none | with_reducible exact OLe.some | with_reducible refine OLe.ite ?_ ?_ | with_reducible refine OLe.bind ?_ (fun _ => ?_) | refine OLe.bind ?_ (fun _ => ?_) | refine OLe.ite ?_ ?_ | refine OLe.elim (fun _ => ?_) (fun _ => ?_) | split)
set_option maxHeartbeats 4000000 in
set_option maxRecDepth 100000 in
theorem model_Model_Clock_Z.con (k : Nat) (M : Hp)  (r : Int)  (h : model_Model_Clock_Z k  = some r) : Con Tryd.prog 19 #[.pointer none] M [] (fun v M' Γ' => v = .int .i64 r ∧ Γ' = []) := by
  refine con_of_wp Tryd.func19 rfl Tryd.ntmps19 Tryd.results19 rfl ?_
  intro w F rn S hrn
  have E := Ext.refl w
  have HM := Hp.le_refl M
  have H := h
  unfold model_Model_Clock_Z at H
  refine Wp_seq ?_
  refine Wp_region_lit ?_
  refine W_v (.int .i64 0) (x_assign rfl) rfl ?_
  refine Wl_nil ?_
  refine tn ?_
  refine Wp_seq ?_
  refine Wp_seq ?_
  refine Wp_region_lit ?_
  refine W_v (.pointer none) (x_move rfl) rfl ?_
  refine W_v (.bool true) (x_eq_of (r := true) rfl rfl (run_eq_ptrnn Tryd.underlying27)) rfl ?_
  refine Wl_nil ?_
  refine tn ?_
  refine Wp_cond_true rfl ?_
  refine Wp_seq ?_
  refine Wp_region_lit ?_
  refine W_v (.int .i64 0) (x_assign rfl) rfl ?_
  refine Wl_nil ?_
  refine tn ?_
  refine Wp_ret ?_
  refine tr (?_)
  obtain rfl := Option.some.inj H
  exact ⟨_, _, _, fun w1 e1 => run_resR (vs := [.int .i64 0]) (FA.cons (rfl) (FA.nil)), HM, E, S.pick [] (by decide), ⟨rfl, rfl⟩⟩
/-! ### (*ferryman/model.Model).Floor: function 28 -/
def model_Model_Floor_Z (k : Nat)  : Option (Int) :=
  some (0 : Int)
set_option maxHeartbeats 2000000 in
theorem model_Model_Floor_Z.mono {k : Nat}  : OLe (model_Model_Floor_Z k ) (model_Model_Floor_Z (k + 1) ) := by
  unfold model_Model_Floor_Z
  repeat' (first | with_reducible exact OLe.none | with_reducible exact OLe.some | with_reducible refine OLe.ite ?_ ?_ | with_reducible refine OLe.bind ?_ (fun _ => ?_) | refine OLe.bind ?_ (fun _ => ?_) | refine OLe.ite ?_ ?_ | refine OLe.elim (fun _ => ?_) (fun _ => ?_) | split)
set_option maxHeartbeats 4000000 in
set_option maxRecDepth 100000 in
theorem model_Model_Floor_Z.con (k : Nat) (M : Hp)  (r : Int)  (h : model_Model_Floor_Z k  = some r) : Con Tryd.prog 28 #[.pointer none] M [] (fun v M' Γ' => v = .int .i64 r ∧ Γ' = []) := by
  refine con_of_wp Tryd.func28 rfl Tryd.ntmps28 Tryd.results28 rfl ?_
  intro w F rn S hrn
  have E := Ext.refl w
  have HM := Hp.le_refl M
  have H := h
  unfold model_Model_Floor_Z at H
  refine Wp_seq ?_
  refine Wp_region_lit ?_
  refine W_v (.int .i64 0) (x_assign rfl) rfl ?_
  refine Wl_nil ?_
  refine tn ?_
  refine Wp_seq ?_
  refine Wp_seq ?_
  refine Wp_region_lit ?_
  refine W_v (.pointer none) (x_move rfl) rfl ?_
  refine W_v (.bool true) (x_eq_of (r := true) rfl rfl (run_eq_ptrnn Tryd.underlying27)) rfl ?_
  refine Wl_nil ?_
  refine tn ?_
  refine Wp_cond_true rfl ?_
  refine Wp_seq ?_
  refine Wp_region_lit ?_
  refine W_v (.int .i64 0) (x_assign rfl) rfl ?_
  refine Wl_nil ?_
  refine tn ?_
  refine Wp_ret ?_
  refine tr (?_)
  obtain rfl := Option.some.inj H
  exact ⟨_, _, _, fun w1 e1 => run_resR (vs := [.int .i64 0]) (FA.cons (rfl) (FA.nil)), HM, E, S.pick [] (by decide), ⟨rfl, rfl⟩⟩
/-! ### (*ferryman/model.Model).Copy: function 29 -/
def model_Model_Copy_Z (k : Nat)  : Option (Unit) :=
  some ()
set_option maxHeartbeats 2000000 in
theorem model_Model_Copy_Z.mono {k : Nat}  : OLe (model_Model_Copy_Z k ) (model_Model_Copy_Z (k + 1) ) := by
  unfold model_Model_Copy_Z
  repeat' (first | with_reducible exact OLe.none | with_reducible exact OLe.some | with_reducible refine OLe.ite ?_ ?_ | with_reducible refine OLe.bind ?_ (fun _ => ?_) | refine OLe.bind ?_ (fun _ => ?_) | refine OLe.ite ?_ ?_ | refine OLe.elim (fun _ => ?_) (fun _ => ?_) | split)
set_option maxHeartbeats 4000000 in
set_option maxRecDepth 100000 in
theorem model_Model_Copy_Z.con (k : Nat) (M : Hp)  (r : Unit)  (h : model_Model_Copy_Z k  = some r) : Con Tryd.prog 29 #[.pointer none] M [] (fun v M' Γ' => v = .pointer none ∧ Γ' = []) := by
  refine con_of_wp Tryd.func29 rfl Tryd.ntmps29 Tryd.results29 rfl ?_
  intro w F rn S hrn
  have E := Ext.refl w
  have HM := Hp.le_refl M
  have H := h
  unfold model_Model_Copy_Z at H
  refine Wp_seq ?_
  refine Wp_region_lit ?_
  refine W_v (.pointer none) (x_assign rfl) rfl ?_
  refine Wl_nil ?_
  refine tn ?_
  refine Wp_seq ?_
  refine Wp_seq ?_
  refine Wp_region_lit ?_
  refine W_v (.pointer none) (x_move rfl) rfl ?_
  refine W_v (.bool true) (x_eq_of (r := true) rfl rfl (run_eq_ptrnn Tryd.underlying27)) rfl ?_
  refine Wl_nil ?_
  refine tn ?_
  refine Wp_cond_true rfl ?_
  refine Wp_seq ?_
  refine Wp_region_lit ?_
  refine W_v (.pointer none) (x_assign rfl) rfl ?_
  refine Wl_nil ?_
  refine tn ?_
  refine Wp_ret ?_
  refine tr (?_)
  obtain rfl := Option.some.inj H
  exact ⟨_, _, _, fun w1 e1 => run_resR (vs := [.pointer none]) (FA.cons (rfl) (FA.nil)), HM, E, S.pick [] (by decide), ⟨rfl, rfl⟩⟩
end Go.Proofs.YtcngjjlhdlbogaaDoor
