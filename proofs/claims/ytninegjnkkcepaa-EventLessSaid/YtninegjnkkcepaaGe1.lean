import Derived.Test.YtninegjnkkcepaaGe1P1
namespace Go.Proofs.Ytninegjnkkcepaa
open Go
set_option linter.unusedVariables false
set_option linter.unusedSimpArgs false
/-! ### ferryman/event.Without: function 24 -/
def event_Without_v_l5 (x2148 : List api_Event) (x2152 : Int) : Nat → List api_Event → List event_Place → Option ((List api_Event))
  | 0, _, _ => none
  | k + 1, x3657, x3661 => (onList x3661 (some (x3657)) (fun y3906 todo3913 => (Option.bind (α := List api_Event) (Option.bind (α := List api_Event) (if (((y3906.Task == (rd x2148 x2152).Task) && (decide (y3906.Call ≥ (0 : Int)))) && (decide (y3906.Call < (rd x2148 x2152).Call))) = true then (if 0 ≤ x2152 ∧ x2152 < (x3657.length : Int) then (if 0 ≤ x2152 ∧ x2152 < (x3657.length : Int) then (Option.bind (α := List api_Event) (some (List.set x3657 x2152.toNat (⟨(rd x3657 x2152).What, (rd x3657 x2152).Task, (IntKind.i64.wrap ((rd x3657 x2152).Call - (1 : Int))), ⟨(rd x3657 x2152).Answer.Err, (rd x3657 x2152).Answer.Found, (rd x3657 x2152).Answer.Value, (rd x3657 x2152).Answer.Pairs⟩⟩ : api_Event))) (fun x4137 => some (x4137))) else none) else none) else some (x3657)) (fun x4102 => some (x4102))) (fun x4025 => event_Without_v_l5 x2148 x2152 k x4025 todo3913))))
set_option maxHeartbeats 2000000 in
theorem event_Without_v_l5.mono {x2148 : List api_Event} {x2152 : Int} : ∀ {k : Nat} {x0 x1}, OLe (event_Without_v_l5 x2148 x2152 k x0 x1) (event_Without_v_l5 x2148 x2152 (k + 1) x0 x1) := by
  intro k
  induction k with
  | zero => intros; exact OLe.none
  | succ k ih =>
    intros
    rw [event_Without_v_l5.eq_2, event_Without_v_l5.eq_2]
    repeat' (first | with_reducible exact OLe.none | with_reducible exact OLe.some | with_reducible refine OLe.ite ?_ ?_ | with_reducible refine OLe.bind ?_ (fun _ => ?_) | exact ih | refine OLe.bind ?_ (fun _ => ?_) | refine OLe.ite ?_ ?_ | refine OLe.elim (fun _ => ?_) (fun _ => ?_) | refine OLe.onList ?_ (fun _ _ => ?_) | split)
theorem event_Without_v_l5.perm {x2148 : List api_Event} {x2152 : Int} {k : Nat} {x3657 : List api_Event} {x3661 : List event_Place} {x3661' : List event_Place} {lq : List (event_Place × Int)} (hp : x3661.Perm x3661') (hn : x3661.Nodup) (hl : (lq.map (·.1)).Nodup) (hs : ∀ y ∈ x3661, y ∈ lq.map (·.1)) : event_Without_v_l5 x2148 x2152 k x3657 x3661 = event_Without_v_l5 x2148 x2152 k x3657 x3661' := by
  refine perm_fold (fun k s t => event_Without_v_l5 x2148 x2152 k s t) _ _ (fun _ _ => rfl) (fun _ _ _ => rfl) (fun y z s => ?_) hp k _
  simp only [Option.bind_some]
  (repeat' split) <;> simp_all
def event_Without_v_l3 (x104 : List (event_Place × Int)) (t146 : (List api_Event)) : Nat → List api_Event → Int → Option ((List api_Event))
  | 0, _, _ => none
  | k + 1, x2148, x2152 => (if (decide (x2152 < (t146.length : Int))) = true then (if 0 ≤ x2152 ∧ x2152 < (x2148.length : Int) then (if (x104.map fun p : event_Place × Int => p.1).Nodup then (Option.bind (event_Without_v_l5 x2148 x2152 k x2148 (x104.map fun p : event_Place × Int => p.1)) (fun x3899 => event_Without_v_l3 x104 t146 k x3899 (IntKind.i64.wrap (x2152 + (1 : Int))))) else none) else none) else some (x2148))
set_option maxHeartbeats 2000000 in
theorem event_Without_v_l3.mono {x104 : List (event_Place × Int)} {t146 : (List api_Event)} : ∀ {k : Nat} {x0 x1}, OLe (event_Without_v_l3 x104 t146 k x0 x1) (event_Without_v_l3 x104 t146 (k + 1) x0 x1) := by
  intro k
  induction k with
  | zero => intros; exact OLe.none
  | succ k ih =>
    intros
    rw [event_Without_v_l3.eq_2, event_Without_v_l3.eq_2]
    repeat' (first | with_reducible exact OLe.none | with_reducible exact OLe.some | with_reducible refine OLe.ite ?_ ?_ | with_reducible refine OLe.bind ?_ (fun _ => ?_) | with_reducible exact event_Without_v_l5.mono | exact ih | refine OLe.bind ?_ (fun _ => ?_) | refine OLe.ite ?_ ?_ | refine OLe.elim (fun _ => ?_) (fun _ => ?_) | split)
def event_Without_v_l0 (a1 : (List event_Place)) : Nat → Int → List (event_Place × Int) → Option (((List (event_Place × Int))))
  | 0, _, _ => none
  | k + 1, x72, x73 => (if (decide (x72 < (a1.length : Int))) = true then (if 0 ≤ x72 ∧ x72 < (a1.length : Int) then (Option.bind (α := List (event_Place × Int)) (some (mput x73 (rd a1 x72) (IntKind.i64.wrap (((mget x73 (rd a1 x72)).getD (0 : Int)) + (1 : Int))))) (fun x135 => event_Without_v_l0 a1 k (IntKind.i64.wrap (x72 + (1 : Int))) x135)) else none) else some (x73))
set_option maxHeartbeats 2000000 in
theorem event_Without_v_l0.mono {a1 : (List event_Place)} : ∀ {k : Nat} {x0 x1}, OLe (event_Without_v_l0 a1 k x0 x1) (event_Without_v_l0 a1 (k + 1) x0 x1) := by
  intro k
  induction k with
  | zero => intros; exact OLe.none
  | succ k ih =>
    intros
    rw [event_Without_v_l0.eq_2, event_Without_v_l0.eq_2]
    repeat' (first | with_reducible exact OLe.none | with_reducible exact OLe.some | with_reducible refine OLe.ite ?_ ?_ | with_reducible refine OLe.bind ?_ (fun _ => ?_) | exact ih | refine OLe.bind ?_ (fun _ => ?_) | refine OLe.ite ?_ ?_ | refine OLe.elim (fun _ => ?_) (fun _ => ?_) | split)
def event_Without_v (k : Nat) (a0 : (List api_Event)) (a1 : (List event_Place)) : Option ((List api_Event)) :=
  (Option.bind (event_Without_v_l0 a1 k (0 : Int) ([] : List (event_Place × Int))) (fun x104 => (Option.bind (event_owned k a0) (fun t138 => (Option.bind (slices_DeleteFunc_api_Event_api_Event_S_Without_1_K k t138 x104) (fun t146 => (Option.bind (event_Without_v_l3 x104 t146 k t146 (0 : Int)) (fun x3145 => some x3145))))))))
set_option maxHeartbeats 2000000 in
theorem event_Without_v.mono {k : Nat} {a0 : (List api_Event)} {a1 : (List event_Place)} : OLe (event_Without_v k a0 a1) (event_Without_v (k + 1) a0 a1) := by
  unfold event_Without_v
  repeat' (first | with_reducible exact OLe.none | with_reducible exact OLe.some | with_reducible refine OLe.ite ?_ ?_ | with_reducible refine OLe.bind ?_ (fun _ => ?_) | with_reducible exact event_Without_v_l0.mono | with_reducible exact event_Without_v_l3.mono | with_reducible exact event_owned.mono | with_reducible exact slices_DeleteFunc_api_Event_api_Event_S_Without_1_K.mono | refine OLe.bind ?_ (fun _ => ?_) | refine OLe.ite ?_ ?_ | refine OLe.elim (fun _ => ?_) (fun _ => ?_) | split)
set_option maxHeartbeats 1000000 in
set_option maxRecDepth 100000 in
theorem event_Without_v.con (k : Nat) (M : Hp) (A0 : Option Addr) (c0 : Nat) (a0 : (List api_Event)) (A1 : Option Addr) (c1 : Nat) (a1 : (List event_Place)) (r : (List api_Event)) (hr0 : SlR r_api_Event M (.slice A0 a0.length c0) a0) (hr1 : SlR r_event_Place M (.slice A1 a1.length c1) a1) (h : event_Without_v k a0 a1 = some r) : Con Try.prog 24 #[.slice A0 a0.length c0, .slice A1 a1.length c1] M [] (fun v M' Γ' => ∃ (Aq1 : Option Addr) (cq2 : Nat), v = .slice Aq1 r.length cq2 ∧ Γ' = [Row r_api_Event 32 (.slice Aq1 r.length cq2) r]) := by
  refine con_of_wp Try.func24 rfl Try.ntmps24 Try.results24 rfl ?_
  intro w F rn S hrn
  have E := Ext.refl w
  have HM := Hp.le_refl M
  have H := h
  unfold event_Without_v at H
  refine Wp_seq ?_
  refine Wp_region_lit ?_
  refine W_v (.slice none 0 0) (x_assign rfl) rfl ?_
  refine Wl_nil ?_
  refine tn ?_
  refine Wp_seq ?_
  refine Wp_region_lit ?_
  refine W_makeMap (κ := event_Place) (ν := Int) enc_event_Place (Value.int .i64) S rfl ?_
  intro b1 w2 E' S
  replace E := E.trans E'
  clear E'
  replace S : St w2 M F [MapC enc_event_Place (Value.int .i64) (some ⟨b1, 0, none⟩) ([] : List (event_Place × Int))] := S
  refine W_alloc S #[.map none] ty80 rfl rfl ?_
  intro b4 w5 E' S
  replace E := E.trans E'
  clear E'
  refine W_store S 0 rfl ty80 rfl rfl [.map (mb (some ⟨b1, 0, none⟩))] rfl rfl rfl #[.map (mb (some ⟨b1, 0, none⟩))] rfl rfl ?_
  intro w7 E' S
  replace E := E.trans E'
  clear E'
  refine Wl_nil ?_
  refine tn ?_
  refine Wp_seq ?_
  refine Wp_seq ?_
  refine Wp_region_lit ?_
  refine W_v (.slice A1 a1.length c1) (x_move rfl) rfl ?_
  refine W_v (.int .i64 (a1.length : Int)) (x_len_slice (n := a1.length) Try.underlying55 rfl) rfl ?_
  refine W_v (.int .i64 0) (x_move rfl) rfl ?_
  refine Wl_nil ?_
  refine tn ?_
  obtain ⟨o108, o108h, o108H⟩ := bindS H
  clear H
  refine Wp_blockJ (fun ρ w' => ∃ (x104 : List (event_Place × Int)) (A105 : Option Addr) (c106 : Nat), (x104) = o108 ∧ Agree ρ [(0, .slice A0 a0.length c0), (5, .pointer (some ⟨b4, 0, none⟩))] ∧ Ext w w' ∧ St w' M F [MapC enc_event_Place (Value.int .i64) A105 x104, Blk b4 (.cells #[.map (mb A105)] 80 (0, 0))]) ?_ ?_
  · skip
    refine Wp_loop (fun n ρ w' => ∃ (x72 : Int) (x73 : List (event_Place × Int)) (A74 : Option Addr) (c75 : Nat), event_Without_v_l0 a1 n x72 x73 = some o108 ∧ Agree ρ [(0, .slice A0 a0.length c0), (5, .pointer (some ⟨b4, 0, none⟩)), (13, .slice A1 a1.length c1), (14, .int .i64 (a1.length : Int)), (15, .int .i64 x72)] ∧ Ext w w' ∧ St w' M F [MapC enc_event_Place (Value.int .i64) A74 x73, Blk b4 (.cells #[.map (mb A74)] 80 (0, 0))]) k ?_ ?_
    · skip
      exact ⟨(0 : Int), ([] : List (event_Place × Int)), (some ⟨b1, 0, none⟩), 0, o108h, ⟨rfl, rfl, rfl, rfl, rfl, trivial⟩, E, S.pick [1, 0] (by decide)⟩
    · intro n
      rintro ρ w109 ⟨x72, x73, A74, c75, H, hρ, E, S⟩
      rw [agree_eta hρ]
      clear hρ
      cases n with
      | zero => cases H
      | succ k =>
        rw [event_Without_v_l0.eq_2] at H
        refine Wp_seq ?_
        refine Wp_region_lit ?_
        refine W_v (.bool (decide (x72 < (a1.length : Int)))) (x_ibin rfl rfl rfl rfl) rfl ?_
        refine Wl_nil ?_
        refine tn ?_
        refine Wp_seq ?_
        rcases iteS H with ⟨hb110, H⟩ | ⟨hb110, H⟩
        · refine Wp_cond_true (congrArg Value.bool hb110) ?_
          refine Wp_skip ?_
          refine tn ?_
          refine Wp_seq ?_
          refine Wp_block ?_
          refine Wp_seq ?_
          refine Wp_region_lit ?_
          obtain ⟨⟨p111, p112⟩, H⟩ := chkS H
          obtain ⟨b113, o114, cs115, _, _, ee120, hb116, vs117, hR118, hc119⟩ := SlW.at' hr1 p111 p112
          obtain rfl : vs117 = _ := hR118
          refine W_v (.pointer (some ⟨b113, o114 + x72.toNat * 2, none⟩)) (x_indexAddr Try.underlying55 ty62 (slA ee120) rfl p111 p112) rfl ?_
          refine W_v (.agg #[.int .i64 ((rd a1 x72).Task), .int .i64 ((rd a1 x72).Call)]) (x_loadA (S.frz hb116) ty62 rfl (sub_el hc119 0 rfl) rfl rfl) rfl ?_
          refine W_alloc S #[.int .i64 0, .int .i64 0] ty62 rfl rfl ?_
          intro b121 w122 E' S
          replace E := E.trans E'
          clear E'
          refine W_store S 0 rfl ty62 rfl rfl [.int .i64 ((rd a1 x72).Task), .int .i64 ((rd a1 x72).Call)] rfl rfl rfl #[.int .i64 ((rd a1 x72).Task), .int .i64 ((rd a1 x72).Call)] rfl rfl ?_
          intro w124 E' S
          replace E := E.trans E'
          clear E'
          refine Wl_nil ?_
          refine tn ?_
          refine Wp_region_any (S := fun w' => ∃ Mx, M.le Mx ∧ St w' Mx F [Blk b121 (.cells #[.int .i64 ((rd a1 x72).Task), .int .i64 ((rd a1 x72).Call)] 62 (0, 0)), MapU enc_event_Place (Value.int .i64) A74 x73 (rd a1 x72) (0 : Int), Blk b4 (.cells #[.map (mb A74)] 80 (0, 0))]) (L := 6) mixed ?_
          intro w130 hw131 E'
          replace S := S.heap hw131
          replace E := E.trans E'
          clear E'
          refine Wa_take (i := 0) rfl (by kernel_rfl) rfl rfl (.map (mb A74)) rfl (fun w' h' => x_load (cls_blk h' 2 rfl) ty80 rfl rfl) (⟨M, Hp.le_refl M, (St.mapUc (S.pick [0, 1, 2] (by decide)) 1 rfl (rd a1 x72) (0 : Int))⟩) ?_
          refine Wa_take (i := 1) rfl (by kernel_rfl) rfl rfl (.agg #[.int .i64 ((rd a1 x72).Task), .int .i64 ((rd a1 x72).Call)]) rfl (fun w' h' => x_loadA (cls_blk h' 0 rfl) ty62 rfl (sub_of_extract rfl) rfl rfl) (⟨M, Hp.le_refl M, (St.mapUc (S.pick [0, 1, 2] (by decide)) 1 rfl (rd a1 x72) (0 : Int))⟩) ?_
          refine Wa_take (i := 2) rfl (by kernel_rfl) rfl rfl (.int .i64 ((mget x73 (rd a1 x72)).getD (0 : Int))) rfl (fun w' h' => Exists.elim h' fun Mx h9 => x_lookupU h9.2 1 rfl Try.underlying80 key62 (fun _ => ty3.zero) rfl rfl) (⟨M, Hp.le_refl M, (St.mapUc (S.pick [0, 1, 2] (by decide)) 1 rfl (rd a1 x72) (0 : Int))⟩) ?_
          refine Wa_take (i := 3) rfl (by kernel_rfl) rfl rfl (.int .i64 (IntKind.i64.wrap (((mget x73 (rd a1 x72)).getD (0 : Int)) + (1 : Int)))) rfl (fun w' h' => x_ibin rfl rfl rfl rfl) (⟨M, Hp.le_refl M, (St.mapUc (S.pick [0, 1, 2] (by decide)) 1 rfl (rd a1 x72) (0 : Int))⟩) ?_
          refine Wa_solo (i := 4) rfl (by kernel_rfl) ?_
          refine W_mapEntry S 1 rfl Try.underlying80 key62 (0 : Int) (fun _ => ty3.zero) (rd a1 x72) rfl rfl rfl ?_
          intro n132 w133 E' S
          replace E := E.trans E'
          clear E'
          replace S : St w133 M F [Blk b121 (.cells #[.int .i64 ((rd a1 x72).Task), .int .i64 ((rd a1 x72).Call)] 62 (0, 0)), MapE enc_event_Place (Value.int .i64) A74 (ment x73 (rd a1 x72) (0 : Int)) (rd a1 x72) n132, Blk b4 (.cells #[.map (mb A74)] 80 (0, 0))] := S
          refine Wl_nil (on_n ⟨.inr ⟨M, Hp.le_refl M, (St.mapUe (S.pick [0, 1, 2] (by decide)) 1 rfl)⟩, ?_⟩)
          refine Wa_take (i := 5) rfl (by kernel_rfl) rfl rfl (.int .i64 (n132 : Int)) rfl (fun w' h' => x_extract rfl rfl) (⟨M, Hp.le_refl M, (St.mapUe (S.pick [0, 1, 2] (by decide)) 1 rfl)⟩) ?_
          refine Wa_solo (i := 6) rfl (by kernel_rfl) ?_
          obtain ⟨x135, he136, H⟩ := bindS H
          replace he136 := Option.some.inj he136
          refine W_entryStore S 1 rfl (IntKind.i64.wrap (((mget x73 (rd a1 x72)).getD (0 : Int)) + (1 : Int))) he136 rfl rfl rfl ?_
          intro w134 E' S
          replace E := E.trans E'
          clear E'
          replace S : St w134 M F [Blk b121 (.cells #[.int .i64 ((rd a1 x72).Task), .int .i64 ((rd a1 x72).Call)] 62 (0, 0)), MapC enc_event_Place (Value.int .i64) A74 x135, Blk b4 (.cells #[.map (mb A74)] 80 (0, 0))] := S
          refine Wl_nil (on_n ⟨.inl (by decide), ?_⟩)
          refine Wa_done (by kernel_rfl) ?_
          refine bn ?_
          refine tn ?_
          refine Wp_region_lit ?_
          refine W_v (.int .i64 (IntKind.i64.wrap (x72 + (1 : Int)))) (x_ibin rfl rfl rfl rfl) rfl ?_
          refine W_v (.int .i64 (IntKind.i64.wrap (x72 + (1 : Int)))) (x_move rfl) rfl ?_
          refine Wl_nil ?_
          refine tn ?_
          exact ⟨k, Nat.lt_succ_self k, ⟨(IntKind.i64.wrap (x72 + (1 : Int))), x135, A74, c75, H, ⟨rfl, rfl, rfl, rfl, rfl, trivial⟩, E, S.pick [1, 2] (by decide)⟩⟩
        refine Wp_cond_false (congrArg Value.bool hb110) ?_
        refine Wp_exit ?_
        refine tx (tx (bsm (?_)))
        refine tn ?_
        exact ⟨x73, A74, c75, Option.some.inj H, ⟨rfl, rfl, trivial⟩, E, S.pick [0, 1] (by decide)⟩
  clear o108h
  rintro ρ w137 ⟨x104, A105, c106, rfl, hρ, E, S⟩
  rw [agree_eta hρ]
  clear hρ
  have H := o108H
  clear o108H
  refine tn ?_
  refine Wp_seq ?_
  refine Wp_region_lit ?_
  refine W_v (.slice A0 a0.length c0) (x_move rfl) rfl ?_
  obtain ⟨t138, ht139, H⟩ := bindS H
  refine W_call fn37 (event_owned.con k M A0 c0 a0 t138 hr0 ht139) (Γ1 := []) (Γ2 := [MapC enc_event_Place (Value.int .i64) A105 x104, Blk b4 (.cells #[.map (mb A105)] 80 (0, 0))]) S rfl rfl ?_
  rintro _ w143 M144 Γ' hM145 E' S ⟨A140, c141, rfl, rfl⟩
  replace HM := Hp.le_trans HM hM145
  replace hr0 := SlR.mono hr0 hM145
  replace hr1 := SlR.mono hr1 hM145
  replace E := E.trans E'
  clear E'
  refine W_v (.func (.func 40) #[] #[.pointer (some ⟨b4, 0, none⟩)]) (x_makeFunc rfl) rfl ?_
  obtain ⟨t146, ht147, H⟩ := bindS H
  replace S : St w143 M144 F [Row r_api_Event 32 (.slice A140 t138.length c141) t138, Blk b4 (.cells #[.map (mb A105)] 80 (0, 0)), MapC enc_event_Place (Value.int .i64) A105 x104] := S.pick [0, 2, 1] (by decide)
  refine W_call fn38 (slices_DeleteFunc_api_Event_api_Event_S_Without_1_K.con k M144 A140 c141 t138 A105 x104 b4 t146  ht147) (Γ1 := [Row r_api_Event 32 (.slice A140 t138.length c141) t138, Blk b4 (.cells #[.map (mb A105)] 80 (0, 0)), MapC enc_event_Place (Value.int .i64) A105 x104]) (Γ2 := []) S rfl rfl ?_
  rintro _ w151 M152 Γ' hM153 E' S ⟨A148, c149, rfl, rfl⟩
  replace HM := Hp.le_trans HM hM153
  replace hr0 := SlR.mono hr0 hM153
  replace hr1 := SlR.mono hr1 hM153
  replace E := E.trans E'
  clear E'
  replace S : St w151 M152 F [Row r_api_Event 32 (.slice A148 t146.length c149) t146, Blk b4 (.cells #[.map (mb A105)] 80 (0, 0)), MapC enc_event_Place (Value.int .i64) A105 x104] := S
  refine W_v (.slice A148 t146.length c149) (x_assign rfl) rfl ?_
  refine Wl_nil ?_
  refine tn ?_
  refine Wp_seq ?_
  refine Wp_seq ?_
  refine Wp_region_lit ?_
  refine W_v (.slice A148 t146.length c149) (x_move rfl) rfl ?_
  refine W_v (.int .i64 (t146.length : Int)) (x_len_slice (n := t146.length) Try.underlying22 rfl) rfl ?_
  refine W_v (.int .i64 0) (x_move rfl) rfl ?_
  refine Wl_nil ?_
  refine tn ?_
  obtain ⟨o3149, o3149h, o3149H⟩ := bindS H
  clear H
  refine Wp_blockJ (fun ρ w' => ∃ (x3145 : List api_Event) (A3146 : Option Addr) (c3147 : Nat), (x3145) = o3149 ∧ Agree ρ [(8, .slice A3146 x3145.length c3147)] ∧ Ext w w' ∧ St w' M152 F [Row r_api_Event 32 (.slice A3146 x3145.length c3147) x3145]) ?_ ?_
  · skip
    refine Wp_loop (fun n ρ w' => ∃ (x2148 : List api_Event) (x2152 : Int) (A2149 : Option Addr) (c2150 : Nat), event_Without_v_l3 x104 t146 n x2148 x2152 = some o3149 ∧ Agree ρ [(5, .pointer (some ⟨b4, 0, none⟩)), (8, .slice A2149 x2148.length c2150), (30, .slice A2149 x2148.length c2150), (31, .int .i64 (t146.length : Int)), (32, .int .i64 x2152)] ∧ Ext w w' ∧ St w' M152 F [Row r_api_Event 32 (.slice A2149 x2148.length c2150) x2148, Blk b4 (.cells #[.map (mb A105)] 80 (0, 0)), MapC enc_event_Place (Value.int .i64) A105 x104]) k ?_ ?_
    · skip
      exact ⟨t146, (0 : Int), A148, c149, o3149h, ⟨rfl, rfl, rfl, rfl, rfl, trivial⟩, E, S.pick [0, 1, 2] (by decide)⟩
    · intro n
      rintro ρ w3150 ⟨x2148, x2152, A2149, c2150, H, hρ, E, S⟩
      rw [agree_eta hρ]
      clear hρ
      cases n with
      | zero => cases H
      | succ k =>
        rw [event_Without_v_l3.eq_2] at H
        refine Wp_seq ?_
        refine Wp_region_lit ?_
        refine W_v (.bool (decide (x2152 < (t146.length : Int)))) (x_ibin rfl rfl rfl rfl) rfl ?_
        refine Wl_nil ?_
        refine tn ?_
        refine Wp_seq ?_
        rcases iteS H with ⟨hb3151, H⟩ | ⟨hb3151, H⟩
        · refine Wp_cond_true (congrArg Value.bool hb3151) ?_
          refine Wp_skip ?_
          refine tn ?_
          refine Wp_seq ?_
          refine Wp_block ?_
          refine Wp_seq ?_
          refine Wp_region_lit ?_
          refine W_v (.int .i64 x2152) (x_move rfl) rfl ?_
          obtain ⟨⟨p3152, p3153⟩, H⟩ := chkS H
          obtain ⟨b3154, o3155, cs3156, _, _, ee3161, hb3157, vs3158, hR3159, hc3160⟩ := SlW.at' (S.row_read 0 rfl) p3152 p3153
          obtain ⟨v3165, hs3164, rfl⟩ := hR3159
          obtain ⟨A3162, c3163, rfl, _⟩ := hs3164.form
          refine W_v (.pointer (some ⟨b3154, o3155 + x2152.toNat * 7, none⟩)) (x_indexAddr Try.underlying22 ty32 (slA ee3161) rfl p3152 p3153) rfl ?_
          refine W_v (.agg #[.int .u8 ((rd x2148 x2152).What), .int .i64 ((rd x2148 x2152).Task), .int .i64 ((rd x2148 x2152).Call), .int .i64 ((rd x2148 x2152).Answer.Err), .bool ((rd x2148 x2152).Answer.Found), .string (bs ((rd x2148 x2152).Answer.Value)), .slice A3162 ((rd x2148 x2152).Answer.Pairs).length c3163]) (x_loadA (Hp.of_get hb3157) ty32 rfl (sub_el hc3160 0 rfl) rfl rfl) rfl ?_
          refine W_alloc S #[.int .u8 0, .int .i64 0, .int .i64 0, .int .i64 0, .bool false, .string (bs ([] : Str)), .slice none 0 0] ty32 rfl rfl ?_
          intro b3166 w3167 E' S
          replace E := E.trans E'
          clear E'
          refine W_v (.int .i64 x2152) (x_assign rfl) rfl ?_
          refine W_store S 0 rfl ty32 rfl rfl [.int .u8 ((rd x2148 x2152).What), .int .i64 ((rd x2148 x2152).Task), .int .i64 ((rd x2148 x2152).Call), .int .i64 ((rd x2148 x2152).Answer.Err), .bool ((rd x2148 x2152).Answer.Found), .string (bs ((rd x2148 x2152).Answer.Value)), .slice A3162 ((rd x2148 x2152).Answer.Pairs).length c3163] rfl rfl rfl #[.int .u8 ((rd x2148 x2152).What), .int .i64 ((rd x2148 x2152).Task), .int .i64 ((rd x2148 x2152).Call), .int .i64 ((rd x2148 x2152).Answer.Err), .bool ((rd x2148 x2152).Answer.Found), .string (bs ((rd x2148 x2152).Answer.Value)), .slice A3162 ((rd x2148 x2152).Answer.Pairs).length c3163] rfl rfl ?_
          intro w3169 E' S
          replace E := E.trans E'
          clear E'
          refine Wl_nil ?_
          refine tn ?_
          refine Wp_seq ?_
          refine Wp_region_lit ?_
          refine W_v (.map (mb A105)) (x_load (S.blk 2 rfl) ty80 rfl rfl) rfl ?_
          obtain ⟨hn3170, H⟩ := chkS H
          refine W_rangeM S 3 rfl Try.underlying80 hn3170 rfl rfl ?_
          intro b3171 w3172 E' S
          replace E := E.trans E'
          clear E'
          replace S : St w3172 M152 F [Blk b3166 (.cells #[.int .u8 ((rd x2148 x2152).What), .int .i64 ((rd x2148 x2152).Task), .int .i64 ((rd x2148 x2152).Call), .int .i64 ((rd x2148 x2152).Answer.Err), .bool ((rd x2148 x2152).Answer.Found), .string (bs ((rd x2148 x2152).Answer.Value)), .slice A3162 ((rd x2148 x2152).Answer.Pairs).length c3163] 32 (0, 0)), Row r_api_Event 32 (.slice A2149 x2148.length c2150) x2148, Blk b4 (.cells #[.map (mb A105)] 80 (0, 0)), RangeM enc_event_Place (Value.int .i64) A105 b3171 x104 (x104.map fun p : event_Place × Int => p.1) none] := S
          refine Wl_nil ?_
          refine tn ?_
          obtain ⟨o3903, o3903h, o3903H⟩ := bindS H
          clear H
          refine Wp_blockJ (fun ρ w' => ∃ (x3899 : List api_Event) (A3900 : Option Addr) (c3901 : Nat), (x3899) = o3903 ∧ Agree ρ [(5, .pointer (some ⟨b4, 0, none⟩)), (8, .slice A3900 x3899.length c3901), (30, .slice A3900 x3899.length c3901), (31, .int .i64 (t146.length : Int)), (32, .int .i64 x2152)] ∧ Ext w w' ∧ St w' M152 F [Row r_api_Event 32 (.slice A3900 x3899.length c3901) x3899, Blk b4 (.cells #[.map (mb A105)] 80 (0, 0)), MapC enc_event_Place (Value.int .i64) A105 x104]) ?_ ?_
          · skip
            refine Wp_loop (fun n ρ w' => ∃ (x3657 : List api_Event) (x3661 : List event_Place) (A3658 : Option Addr) (c3659 : Nat), event_Without_v_l5 x2148 x2152 n x3657 x3661 = some o3903 ∧ Agree ρ [(5, .pointer (some ⟨b4, 0, none⟩)), (8, .slice A3658 x3657.length c3659), (9, .int .i64 x2152), (10, .pointer (some ⟨b3166, 0, none⟩)), (30, .slice A3658 x3657.length c3659), (31, .int .i64 (t146.length : Int)), (32, .int .i64 x2152), (38, .pointer (some ⟨b3171, 0, none⟩))] ∧ Ext w w' ∧ St w' M152 F [Row r_api_Event 32 (.slice A3658 x3657.length c3659) x3657, Blk b3166 (.cells #[.int .u8 ((rd x2148 x2152).What), .int .i64 ((rd x2148 x2152).Task), .int .i64 ((rd x2148 x2152).Call), .int .i64 ((rd x2148 x2152).Answer.Err), .bool ((rd x2148 x2152).Answer.Found), .string (bs ((rd x2148 x2152).Answer.Value)), .slice A3162 ((rd x2148 x2152).Answer.Pairs).length c3163] 32 (0, 0)), Blk b4 (.cells #[.map (mb A105)] 80 (0, 0)), RangeM enc_event_Place (Value.int .i64) A105 b3171 x104 x3661 none]) k ?_ ?_
            · skip
              exact ⟨x2148, (x104.map fun p : event_Place × Int => p.1), A2149, c2150, o3903h, ⟨rfl, rfl, rfl, rfl, rfl, rfl, rfl, rfl, trivial⟩, E, S.pick [1, 0, 2, 3] (by decide)⟩
            · intro n
              rintro ρ w3904 ⟨x3657, x3661, A3658, c3659, H, hρ, E, S⟩
              rw [agree_eta hρ]
              clear hρ
              cases n with
              | zero => cases H
              | succ k =>
                refine Wp_seq ?_
                refine Wp_region_lit ?_
                obtain ⟨hn3905a, hn3905b, hn3905c⟩ := S.rangeM_facts 3 rfl
                refine W_nextM S 3 rfl rfl rfl ?_ ?_
                · intro y3906 v3907 w3908 hy3910 hv3911 E' S
                  replace E := E.trans E'
                  clear E'
                  rw [event_Without_v_l5.perm (List.perm_cons_erase hy3910) hn3905a hn3905b hn3905c, event_Without_v_l5.eq_2, onList_cons] at H
                  obtain rfl : v3907 = ((mget x104 y3906).getD (0 : Int)) := by rw [hv3911]; rfl
                  replace S : St w3908 M152 F [Row r_api_Event 32 (.slice A3658 x3657.length c3659) x3657, Blk b3166 (.cells #[.int .u8 ((rd x2148 x2152).What), .int .i64 ((rd x2148 x2152).Task), .int .i64 ((rd x2148 x2152).Call), .int .i64 ((rd x2148 x2152).Answer.Err), .bool ((rd x2148 x2152).Answer.Found), .string (bs ((rd x2148 x2152).Answer.Value)), .slice A3162 ((rd x2148 x2152).Answer.Pairs).length c3163] 32 (0, 0)), Blk b4 (.cells #[.map (mb A105)] 80 (0, 0)), RangeM enc_event_Place (Value.int .i64) A105 b3171 x104 (x3661.erase y3906) (some y3906)] := S
                  refine W_v (.bool true) (x_extract rfl rfl) rfl ?_
                  refine Wl_nil ?_
                  refine tn ?_
                  refine Wp_seq ?_
                  refine Wp_cond_true rfl ?_
                  refine Wp_skip ?_
                  refine tn ?_
                  obtain ⟨o4029, o4029h, o4029H⟩ := bindS H
                  refine Wp_cut (fun ρ w' => ∃ (x4025 : List api_Event) (A4026 : Option Addr) (c4027 : Nat), (x4025) = o4029 ∧ Agree ρ [(5, .pointer (some ⟨b4, 0, none⟩)), (8, .slice A4026 x4025.length c4027), (9, .int .i64 x2152), (10, .pointer (some ⟨b3166, 0, none⟩)), (30, .slice A4026 x4025.length c4027), (31, .int .i64 (t146.length : Int)), (32, .int .i64 x2152), (38, .pointer (some ⟨b3171, 0, none⟩))] ∧ Ext w w' ∧ St w' M152 F [Row r_api_Event 32 (.slice A4026 x4025.length c4027) x4025, Blk b3166 (.cells #[.int .u8 ((rd x2148 x2152).What), .int .i64 ((rd x2148 x2152).Task), .int .i64 ((rd x2148 x2152).Call), .int .i64 ((rd x2148 x2152).Answer.Err), .bool ((rd x2148 x2152).Answer.Found), .string (bs ((rd x2148 x2152).Answer.Value)), .slice A3162 ((rd x2148 x2152).Answer.Pairs).length c3163] 32 (0, 0)), Blk b4 (.cells #[.map (mb A105)] 80 (0, 0)), RangeM enc_event_Place (Value.int .i64) A105 b3171 x104 (x3661.erase y3906) none]) ?_ ?_
                  · clear o4029H
                    have H := o4029h
                    clear o4029h
                    refine Wp_block ?_
                    refine Wp_seq ?_
                    refine Wp_region_lit ?_
                    refine W_v (.tuple #[enc_event_Place y3906, (Value.int .i64) ((mget x104 y3906).getD (0 : Int))]) (x_entryM S 3 rfl hv3911 rfl) rfl ?_
                    replace S := S.rangeM_seen 3 rfl
                    replace S : St w3908 M152 F [Row r_api_Event 32 (.slice A3658 x3657.length c3659) x3657, Blk b3166 (.cells #[.int .u8 ((rd x2148 x2152).What), .int .i64 ((rd x2148 x2152).Task), .int .i64 ((rd x2148 x2152).Call), .int .i64 ((rd x2148 x2152).Answer.Err), .bool ((rd x2148 x2152).Answer.Found), .string (bs ((rd x2148 x2152).Answer.Value)), .slice A3162 ((rd x2148 x2152).Answer.Pairs).length c3163] 32 (0, 0)), Blk b4 (.cells #[.map (mb A105)] 80 (0, 0)), RangeM enc_event_Place (Value.int .i64) A105 b3171 x104 (x3661.erase y3906) none] := S
                    refine W_v (.agg #[.int .i64 y3906.Task, .int .i64 y3906.Call]) (x_extract rfl rfl) rfl ?_
                    refine W_alloc S #[.int .i64 0, .int .i64 0] ty62 rfl rfl ?_
                    intro b4030 w4031 E' S
                    replace E := E.trans E'
                    clear E'
                    refine W_store S 0 rfl ty62 rfl rfl [.int .i64 y3906.Task, .int .i64 y3906.Call] rfl rfl rfl #[.int .i64 y3906.Task, .int .i64 y3906.Call] rfl rfl ?_
                    intro w4033 E' S
                    replace E := E.trans E'
                    clear E'
                    refine Wl_nil ?_
                    refine tn ?_
                    refine Wp_seq ?_
                    refine Wp_region_lit ?_
                    refine W_v (.pointer (some ⟨b4030, 0, none⟩)) (x_fieldAddr (o := 0) (off := 0) Try.underlying62 rfl ty3 rfl rfl) rfl ?_
                    refine W_v (.int .i64 y3906.Task) (x_load (S.blk 0 rfl) ty3 rfl rfl) rfl ?_
                    refine W_v (.pointer (some ⟨b3166, 1, none⟩)) (x_fieldAddr (o := 0) (off := 1) Try.underlying32 rfl ty3 rfl rfl) rfl ?_
                    refine W_v (.int .i64 ((rd x2148 x2152).Task)) (x_load (S.blk 2 rfl) ty3 rfl rfl) rfl ?_
                    refine W_v (.bool (y3906.Task == (rd x2148 x2152).Task)) (x_ibin rfl rfl rfl rfl) rfl ?_
                    refine W_v (.bool (y3906.Task == (rd x2148 x2152).Task)) (x_move rfl) rfl ?_
                    refine Wl_cutN 4 (fun ρ w' => Agree ρ [(5, .pointer (some ⟨b4, 0, none⟩)), (8, .slice A3658 x3657.length c3659), (9, .int .i64 x2152), (10, .pointer (some ⟨b3166, 0, none⟩)), (11, .pointer (some ⟨b4030, 0, none⟩)), (30, .slice A3658 x3657.length c3659), (31, .int .i64 (t146.length : Int)), (32, .int .i64 x2152), (38, .pointer (some ⟨b3171, 0, none⟩)), (52, .bool ((y3906.Task == (rd x2148 x2152).Task) && (decide (y3906.Call ≥ (0 : Int)))))] ∧ w4033 = w') ?_ ?_
                    · rcases boolCases (y3906.Task == (rd x2148 x2152).Task) with hb4034 | hb4034
                      · skip
                        refine W_no (skT hb4034) rfl ?_
                        refine W_no (skT hb4034) rfl ?_
                        refine W_no (skT hb4034) rfl ?_
                        refine W_v (.bool false) (x_pick (k := false) (congrArg Value.bool hb4034) rfl) rfl ?_
                        refine Wl_nil ?_
                        exact ⟨⟨rfl, rfl, rfl, rfl, rfl, rfl, rfl, rfl, rfl, (by first | rfl | (rw [hb4034]; rfl) | (simp only [hb4034]; rfl)), trivial⟩, rfl⟩
                      · skip
                        refine W_yes (congrArg some hb4034) ?_
                        refine W_v (.pointer (some ⟨b4030, 1, none⟩)) (x_fieldAddr (o := 0) (off := 1) Try.underlying62 rfl ty3 rfl rfl) rfl ?_
                        refine W_yes (congrArg some hb4034) ?_
                        refine W_v (.int .i64 y3906.Call) (x_load (S.blk 0 rfl) ty3 rfl rfl) rfl ?_
                        refine W_yes (congrArg some hb4034) ?_
                        refine W_v (.bool (decide (y3906.Call ≥ (0 : Int)))) (x_ibin rfl rfl rfl rfl) rfl ?_
                        refine W_v (.bool (decide (y3906.Call ≥ (0 : Int)))) (x_pick (k := true) (congrArg Value.bool hb4034) rfl) rfl ?_
                        refine Wl_nil ?_
                        exact ⟨⟨rfl, rfl, rfl, rfl, rfl, rfl, rfl, rfl, rfl, (by first | rfl | (rw [hb4034]; rfl) | (simp only [hb4034]; rfl)), trivial⟩, rfl⟩
                    rintro ρ _ ⟨hρ, rfl⟩
                    rw [agree_eta hρ]
                    clear hρ
                    refine W_v (.bool ((y3906.Task == (rd x2148 x2152).Task) && (decide (y3906.Call ≥ (0 : Int))))) (x_move rfl) rfl ?_
                    refine Wl_cutN 6 (fun ρ w' => Agree ρ [(5, .pointer (some ⟨b4, 0, none⟩)), (8, .slice A3658 x3657.length c3659), (9, .int .i64 x2152), (10, .pointer (some ⟨b3166, 0, none⟩)), (30, .slice A3658 x3657.length c3659), (31, .int .i64 (t146.length : Int)), (32, .int .i64 x2152), (38, .pointer (some ⟨b3171, 0, none⟩)), (59, .bool (((y3906.Task == (rd x2148 x2152).Task) && (decide (y3906.Call ≥ (0 : Int)))) && (decide (y3906.Call < (rd x2148 x2152).Call))))] ∧ w4033 = w') ?_ ?_
                    · rcases boolCases ((y3906.Task == (rd x2148 x2152).Task) && (decide (y3906.Call ≥ (0 : Int)))) with hb4035 | hb4035
                      · skip
                        refine W_no (skT hb4035) rfl ?_
                        refine W_no (skT hb4035) rfl ?_
                        refine W_no (skT hb4035) rfl ?_
                        refine W_no (skT hb4035) rfl ?_
                        refine W_no (skT hb4035) rfl ?_
                        refine W_v (.bool false) (x_pick (k := false) (congrArg Value.bool hb4035) rfl) rfl ?_
                        refine Wl_nil ?_
                        exact ⟨⟨rfl, rfl, rfl, rfl, rfl, rfl, rfl, rfl, (by first | rfl | (rw [hb4035]; rfl) | (simp only [hb4035]; rfl)), trivial⟩, rfl⟩
                      · skip
                        refine W_yes (congrArg some hb4035) ?_
                        refine W_v (.pointer (some ⟨b4030, 1, none⟩)) (x_fieldAddr (o := 0) (off := 1) Try.underlying62 rfl ty3 rfl rfl) rfl ?_
                        refine W_yes (congrArg some hb4035) ?_
                        refine W_v (.int .i64 y3906.Call) (x_load (S.blk 0 rfl) ty3 rfl rfl) rfl ?_
                        refine W_yes (congrArg some hb4035) ?_
                        refine W_v (.pointer (some ⟨b3166, 2, none⟩)) (x_fieldAddr (o := 0) (off := 2) Try.underlying32 rfl ty3 rfl rfl) rfl ?_
                        refine W_yes (congrArg some hb4035) ?_
                        refine W_v (.int .i64 ((rd x2148 x2152).Call)) (x_load (S.blk 2 rfl) ty3 rfl rfl) rfl ?_
                        refine W_yes (congrArg some hb4035) ?_
                        refine W_v (.bool (decide (y3906.Call < (rd x2148 x2152).Call))) (x_ibin rfl rfl rfl rfl) rfl ?_
                        refine W_v (.bool (decide (y3906.Call < (rd x2148 x2152).Call))) (x_pick (k := true) (congrArg Value.bool hb4035) rfl) rfl ?_
                        refine Wl_nil ?_
                        exact ⟨⟨rfl, rfl, rfl, rfl, rfl, rfl, rfl, rfl, (by first | rfl | (rw [hb4035]; rfl) | (simp only [hb4035]; rfl)), trivial⟩, rfl⟩
                    rintro ρ _ ⟨hρ, rfl⟩
                    rw [agree_eta hρ]
                    clear hρ
                    refine Wl_nil ?_
                    refine tn ?_
                    obtain ⟨o4106, o4106h, o4106H⟩ := bindS H
                    refine Wp_cut (fun ρ w' => ∃ (x4102 : List api_Event) (A4103 : Option Addr) (c4104 : Nat), (x4102) = o4106 ∧ Agree ρ [(5, .pointer (some ⟨b4, 0, none⟩)), (8, .slice A4103 x4102.length c4104), (9, .int .i64 x2152), (10, .pointer (some ⟨b3166, 0, none⟩)), (30, .slice A4103 x4102.length c4104), (31, .int .i64 (t146.length : Int)), (32, .int .i64 x2152), (38, .pointer (some ⟨b3171, 0, none⟩))] ∧ Ext w w' ∧ St w' M152 F [Row r_api_Event 32 (.slice A4103 x4102.length c4104) x4102, Blk b3166 (.cells #[.int .u8 ((rd x2148 x2152).What), .int .i64 ((rd x2148 x2152).Task), .int .i64 ((rd x2148 x2152).Call), .int .i64 ((rd x2148 x2152).Answer.Err), .bool ((rd x2148 x2152).Answer.Found), .string (bs ((rd x2148 x2152).Answer.Value)), .slice A3162 ((rd x2148 x2152).Answer.Pairs).length c3163] 32 (0, 0)), Blk b4 (.cells #[.map (mb A105)] 80 (0, 0)), RangeM enc_event_Place (Value.int .i64) A105 b3171 x104 (x3661.erase y3906) none]) ?_ ?_
                    · clear o4106H
                      have H := o4106h
                      clear o4106h
                      rcases iteS H with ⟨hb4107, H⟩ | ⟨hb4107, H⟩
                      · refine Wp_cond_true (congrArg Value.bool hb4107) ?_
                        refine Wp_region_lit ?_
                        refine W_v (.slice A3658 x3657.length c3659) (x_move rfl) rfl ?_
                        refine W_v (.int .i64 x2152) (x_move rfl) rfl ?_
                        obtain ⟨⟨p4108, p4109⟩, H⟩ := chkS H
                        obtain ⟨b4110, o4111, cs4112, _, _, ee4117, hb4113, vs4114, hR4115, hc4116⟩ := SlW.at' (S.row_read 1 rfl) p4108 p4109
                        obtain ⟨v4121, hs4120, rfl⟩ := hR4115
                        obtain ⟨A4118, c4119, rfl, _⟩ := hs4120.form
                        refine W_v (.pointer (some ⟨b4110, o4111 + x2152.toNat * 7, none⟩)) (x_indexAddr Try.underlying22 ty32 (slA ee4117) rfl p4108 p4109) rfl ?_
                        refine W_v (.pointer (some ⟨b4110, o4111 + x2152.toNat * 7 + 2, none⟩)) (x_fieldAddr (o := o4111 + x2152.toNat * 7) (off := 2) Try.underlying32 rfl ty3 rfl rfl) rfl ?_
                        refine W_v (.int .i64 ((rd x3657 x2152).Call)) (x_load (Hp.of_get hb4113) ty3 rfl (hc4116 2 _ rfl)) rfl ?_
                        refine W_v (.int .i64 (IntKind.i64.wrap ((rd x3657 x2152).Call - (1 : Int)))) (x_ibin rfl rfl rfl rfl) rfl ?_
                        obtain ⟨⟨p4122, p4123⟩, H⟩ := chkS H
                        obtain ⟨b4124, o4125, cs4126, _, _, ee4131, hb4127, vs4128, hR4129, hc4130⟩ := SlW.at' (S.row_read 1 rfl) p4122 p4123
                        obtain ⟨v4135, hs4134, rfl⟩ := hR4129
                        obtain ⟨A4132, c4133, rfl, _⟩ := hs4134.form
                        refine W_v (.pointer (some ⟨b4124, o4125 + x2152.toNat * 7, none⟩)) (x_indexAddr Try.underlying22 ty32 (slA ee4131) rfl p4122 p4123) rfl ?_
                        refine W_v (.pointer (some ⟨b4124, o4125 + x2152.toNat * 7 + 2, none⟩)) (x_fieldAddr (o := o4125 + x2152.toNat * 7) (off := 2) Try.underlying32 rfl ty3 rfl rfl) rfl ?_
                        obtain ⟨x4137, he4138, H⟩ := bindS H
                        replace he4138 := Option.some.inj he4138
                        refine W_rowstore S 1 rfl rfl ee4131 (by first | exact p4122 | simpa using p4122) (by first | exact p4123 | simpa using p4123) 2 ty3 rfl rfl [.int .i64 (IntKind.i64.wrap ((rd x3657 x2152).Call - (1 : Int)))] rfl rfl rfl rfl (⟨(rd x3657 x2152).What, (rd x3657 x2152).Task, (IntKind.i64.wrap ((rd x3657 x2152).Call - (1 : Int))), ⟨(rd x3657 x2152).Answer.Err, (rd x3657 x2152).Answer.Found, (rd x3657 x2152).Answer.Value, (rd x3657 x2152).Answer.Pairs⟩⟩ : api_Event) (by rintro _ ⟨_, h6, rfl⟩; exact ⟨_, h6, rfl⟩) he4138 ?_
                        intro w4136 E' S
                        replace E := E.trans E'
                        clear E'
                        have hs4139 : Value.slice A3658 x3657.length c3659 = Value.slice A3658 x4137.length c3659 := by rw [← he4138, List.length_set]
                        try rw [hs4139] at S
                        try rw [hs4139]
                        clear hs4139
                        refine Wl_nil ?_
                        refine tn ?_
                        exact ⟨x4137, A3658, c3659, Option.some.inj H, ⟨rfl, rfl, rfl, rfl, rfl, rfl, rfl, rfl, trivial⟩, E, S.pick [1, 2, 3, 4] (by decide)⟩
                      refine Wp_cond_false (congrArg Value.bool hb4107) ?_
                      refine Wp_skip ?_
                      refine tn ?_
                      exact ⟨x3657, A3658, c3659, Option.some.inj H, ⟨rfl, rfl, rfl, rfl, rfl, rfl, rfl, rfl, trivial⟩, E, S.pick [1, 2, 3, 4] (by decide)⟩
                    clear o4106h
                    rintro ρ w4140 ⟨x4102, A4103, c4104, rfl, hρ, E, S⟩
                    rw [agree_eta hρ]
                    clear hρ
                    have H := o4106H
                    clear o4106H
                    refine bn ?_
                    refine tn ?_
                    exact ⟨x4102, A4103, c4104, Option.some.inj H, ⟨rfl, rfl, rfl, rfl, rfl, rfl, rfl, rfl, trivial⟩, E, S.pick [0, 1, 2, 3] (by decide)⟩
                  clear o4029h
                  rintro ρ w4141 ⟨x4025, A4026, c4027, rfl, hρ, E, S⟩
                  rw [agree_eta hρ]
                  clear hρ
                  have H := o4029H
                  clear o4029H
                  refine tn ?_
                  exact ⟨k, Nat.lt_succ_self k, ⟨x4025, (x3661.erase y3906), A4026, c4027, H, ⟨rfl, rfl, rfl, rfl, rfl, rfl, rfl, rfl, trivial⟩, E, S.pick [0, 1, 2, 3] (by decide)⟩⟩
                · intro w3909 ht3912 E' S
                  replace E := E.trans E'
                  clear E'
                  rw [ht3912, event_Without_v_l5.eq_2, onList_nil] at H
                  replace S := S.rangeM_end 3 rfl
                  replace S : St w3909 M152 F [Row r_api_Event 32 (.slice A3658 x3657.length c3659) x3657, Blk b3166 (.cells #[.int .u8 ((rd x2148 x2152).What), .int .i64 ((rd x2148 x2152).Task), .int .i64 ((rd x2148 x2152).Call), .int .i64 ((rd x2148 x2152).Answer.Err), .bool ((rd x2148 x2152).Answer.Found), .string (bs ((rd x2148 x2152).Answer.Value)), .slice A3162 ((rd x2148 x2152).Answer.Pairs).length c3163] 32 (0, 0)), Blk b4 (.cells #[.map (mb A105)] 80 (0, 0)), MapC enc_event_Place (Value.int .i64) A105 x104] := S
                  refine W_v (.bool false) (x_extract rfl rfl) rfl ?_
                  refine Wl_nil ?_
                  refine tn ?_
                  refine Wp_seq ?_
                  refine Wp_cond_false rfl ?_
                  refine Wp_exit ?_
                  refine tx (tx (bsm (?_)))
                  refine tn ?_
                  exact ⟨x3657, A3658, c3659, Option.some.inj H, ⟨rfl, rfl, rfl, rfl, rfl, trivial⟩, E, S.pick [0, 2, 3] (by decide)⟩
          clear o3903h
          rintro ρ w4142 ⟨x3899, A3900, c3901, rfl, hρ, E, S⟩
          rw [agree_eta hρ]
          clear hρ
          have H := o3903H
          clear o3903H
          refine bn ?_
          refine tn ?_
          refine Wp_region_lit ?_
          refine W_v (.int .i64 (IntKind.i64.wrap (x2152 + (1 : Int)))) (x_ibin rfl rfl rfl rfl) rfl ?_
          refine W_v (.int .i64 (IntKind.i64.wrap (x2152 + (1 : Int)))) (x_move rfl) rfl ?_
          refine Wl_nil ?_
          refine tn ?_
          exact ⟨k, Nat.lt_succ_self k, ⟨x3899, (IntKind.i64.wrap (x2152 + (1 : Int))), A3900, c3901, H, ⟨rfl, rfl, rfl, rfl, rfl, trivial⟩, E, S.pick [0, 1, 2] (by decide)⟩⟩
        refine Wp_cond_false (congrArg Value.bool hb3151) ?_
        refine Wp_exit ?_
        refine tx (tx (bsm (?_)))
        refine tn ?_
        exact ⟨x2148, A2149, c2150, Option.some.inj H, ⟨rfl, trivial⟩, E, S.pick [0] (by decide)⟩
  clear o3149h
  rintro ρ w4143 ⟨x3145, A3146, c3147, rfl, hρ, E, S⟩
  rw [agree_eta hρ]
  clear hρ
  have H := o3149H
  clear o3149H
  refine tn ?_
  refine Wp_seq ?_
  refine Wp_region_lit ?_
  refine W_v (.slice A3146 x3145.length c3147) (x_move rfl) rfl ?_
  refine W_v (.slice A3146 x3145.length c3147) (x_assign rfl) rfl ?_
  refine Wl_nil ?_
  refine tn ?_
  refine Wp_ret ?_
  obtain rfl := Option.some.inj H
  exact ⟨_, _, _, fun w1 e1 => run_resR (vs := [.slice A3146 x3145.length c3147]) (FA.cons (rfl) (FA.nil)), HM, E, S.pick [0] (by decide), ⟨A3146, c3147, rfl, rfl⟩⟩
/-! ### ferryman/event.Without: function 24 -/
def event_Without_AO_l5 (x2148 : List api_Event) (x2152 : Int) : Nat → List api_Event → List event_Place → Option ((List api_Event))
  | 0, _, _ => none
  | k + 1, x3657, x3661 => (onList x3661 (some (x3657)) (fun y3906 todo3913 => (Option.bind (α := List api_Event) (Option.bind (α := List api_Event) (if (((y3906.Task == (rd x2148 x2152).Task) && (decide (y3906.Call ≥ (0 : Int)))) && (decide (y3906.Call < (rd x2148 x2152).Call))) = true then (if 0 ≤ x2152 ∧ x2152 < (x3657.length : Int) then (if 0 ≤ x2152 ∧ x2152 < (x3657.length : Int) then (Option.bind (α := List api_Event) (some (List.set x3657 x2152.toNat (⟨(rd x3657 x2152).What, (rd x3657 x2152).Task, (IntKind.i64.wrap ((rd x3657 x2152).Call - (1 : Int))), ⟨(rd x3657 x2152).Answer.Err, (rd x3657 x2152).Answer.Found, (rd x3657 x2152).Answer.Value, (rd x3657 x2152).Answer.Pairs⟩⟩ : api_Event))) (fun x4137 => some (x4137))) else none) else none) else some (x3657)) (fun x4102 => some (x4102))) (fun x4025 => event_Without_AO_l5 x2148 x2152 k x4025 todo3913))))
set_option maxHeartbeats 2000000 in
theorem event_Without_AO_l5.mono {x2148 : List api_Event} {x2152 : Int} : ∀ {k : Nat} {x0 x1}, OLe (event_Without_AO_l5 x2148 x2152 k x0 x1) (event_Without_AO_l5 x2148 x2152 (k + 1) x0 x1) := by
  intro k
  induction k with
  | zero => intros; exact OLe.none
  | succ k ih =>
    intros
    rw [event_Without_AO_l5.eq_2, event_Without_AO_l5.eq_2]
    repeat' (first | with_reducible exact OLe.none | with_reducible exact OLe.some | with_reducible refine OLe.ite ?_ ?_ | with_reducible refine OLe.bind ?_ (fun _ => ?_) | exact ih | refine OLe.bind ?_ (fun _ => ?_) | refine OLe.ite ?_ ?_ | refine OLe.elim (fun _ => ?_) (fun _ => ?_) | refine OLe.onList ?_ (fun _ _ => ?_) | split)
theorem event_Without_AO_l5.perm {x2148 : List api_Event} {x2152 : Int} {k : Nat} {x3657 : List api_Event} {x3661 : List event_Place} {x3661' : List event_Place} {lq : List (event_Place × Int)} (hp : x3661.Perm x3661') (hn : x3661.Nodup) (hl : (lq.map (·.1)).Nodup) (hs : ∀ y ∈ x3661, y ∈ lq.map (·.1)) : event_Without_AO_l5 x2148 x2152 k x3657 x3661 = event_Without_AO_l5 x2148 x2152 k x3657 x3661' := by
  refine perm_fold (fun k s t => event_Without_AO_l5 x2148 x2152 k s t) _ _ (fun _ _ => rfl) (fun _ _ _ => rfl) (fun y z s => ?_) hp k _
  simp only [Option.bind_some]
  (repeat' split) <;> simp_all
def event_Without_AO_l3 (x104 : List (event_Place × Int)) (t146 : (List api_Event)) : Nat → List api_Event → Int → Option ((List api_Event))
  | 0, _, _ => none
  | k + 1, x2148, x2152 => (if (decide (x2152 < (t146.length : Int))) = true then (if 0 ≤ x2152 ∧ x2152 < (x2148.length : Int) then (if (x104.map fun p : event_Place × Int => p.1).Nodup then (Option.bind (event_Without_AO_l5 x2148 x2152 k x2148 (x104.map fun p : event_Place × Int => p.1)) (fun x3899 => event_Without_AO_l3 x104 t146 k x3899 (IntKind.i64.wrap (x2152 + (1 : Int))))) else none) else none) else some (x2148))
set_option maxHeartbeats 2000000 in
theorem event_Without_AO_l3.mono {x104 : List (event_Place × Int)} {t146 : (List api_Event)} : ∀ {k : Nat} {x0 x1}, OLe (event_Without_AO_l3 x104 t146 k x0 x1) (event_Without_AO_l3 x104 t146 (k + 1) x0 x1) := by
  intro k
  induction k with
  | zero => intros; exact OLe.none
  | succ k ih =>
    intros
    rw [event_Without_AO_l3.eq_2, event_Without_AO_l3.eq_2]
    repeat' (first | with_reducible exact OLe.none | with_reducible exact OLe.some | with_reducible refine OLe.ite ?_ ?_ | with_reducible refine OLe.bind ?_ (fun _ => ?_) | with_reducible exact event_Without_AO_l5.mono | exact ih | refine OLe.bind ?_ (fun _ => ?_) | refine OLe.ite ?_ ?_ | refine OLe.elim (fun _ => ?_) (fun _ => ?_) | split)
def event_Without_AO_l0 (a1 : (List event_Place)) : Nat → Int → List (event_Place × Int) → Option (((List (event_Place × Int))))
  | 0, _, _ => none
  | k + 1, x72, x73 => (if (decide (x72 < (a1.length : Int))) = true then (if 0 ≤ x72 ∧ x72 < (a1.length : Int) then (Option.bind (α := List (event_Place × Int)) (some (mput x73 (rd a1 x72) (IntKind.i64.wrap (((mget x73 (rd a1 x72)).getD (0 : Int)) + (1 : Int))))) (fun x135 => event_Without_AO_l0 a1 k (IntKind.i64.wrap (x72 + (1 : Int))) x135)) else none) else some (x73))
set_option maxHeartbeats 2000000 in
theorem event_Without_AO_l0.mono {a1 : (List event_Place)} : ∀ {k : Nat} {x0 x1}, OLe (event_Without_AO_l0 a1 k x0 x1) (event_Without_AO_l0 a1 (k + 1) x0 x1) := by
  intro k
  induction k with
  | zero => intros; exact OLe.none
  | succ k ih =>
    intros
    rw [event_Without_AO_l0.eq_2, event_Without_AO_l0.eq_2]
    repeat' (first | with_reducible exact OLe.none | with_reducible exact OLe.some | with_reducible refine OLe.ite ?_ ?_ | with_reducible refine OLe.bind ?_ (fun _ => ?_) | exact ih | refine OLe.bind ?_ (fun _ => ?_) | refine OLe.ite ?_ ?_ | refine OLe.elim (fun _ => ?_) (fun _ => ?_) | split)
def event_Without_AO (k : Nat) (a0 : (List api_Event)) (a1 : (List event_Place)) : Option ((List api_Event)) :=
  (Option.bind (event_Without_AO_l0 a1 k (0 : Int) ([] : List (event_Place × Int))) (fun x104 => (Option.bind (event_owned k a0) (fun t138 => (Option.bind (slices_DeleteFunc_api_Event_api_Event_S_Without_1_K k t138 x104) (fun t146 => (Option.bind (event_Without_AO_l3 x104 t146 k t146 (0 : Int)) (fun x3145 => some x3145))))))))
set_option maxHeartbeats 2000000 in
theorem event_Without_AO.mono {k : Nat} {a0 : (List api_Event)} {a1 : (List event_Place)} : OLe (event_Without_AO k a0 a1) (event_Without_AO (k + 1) a0 a1) := by
  unfold event_Without_AO
  repeat' (first | with_reducible exact OLe.none | with_reducible exact OLe.some | with_reducible refine OLe.ite ?_ ?_ | with_reducible refine OLe.bind ?_ (fun _ => ?_) | with_reducible exact event_Without_AO_l0.mono | with_reducible exact event_Without_AO_l3.mono | with_reducible exact event_owned.mono | with_reducible exact slices_DeleteFunc_api_Event_api_Event_S_Without_1_K.mono | refine OLe.bind ?_ (fun _ => ?_) | refine OLe.ite ?_ ?_ | refine OLe.elim (fun _ => ?_) (fun _ => ?_) | split)
set_option maxHeartbeats 1000000 in
set_option maxRecDepth 100000 in
theorem event_Without_AO.con (k : Nat) (M : Hp) (A0 : Option Addr) (c0 : Nat) (a0 : (List api_Event)) (A1 : Option Addr) (c1 : Nat) (a1 : (List event_Place)) (r : (List api_Event)) (hr0 : SlR r_api_Event M (.slice A0 a0.length c0) a0) (h : event_Without_AO k a0 a1 = some r) : Con Try.prog 24 #[.slice A0 a0.length c0, .slice A1 a1.length c1] M [Row r_event_Place 62 (.slice A1 a1.length c1) a1] (fun v M' Γ' => ∃ (Aq1 : Option Addr) (cq2 : Nat), v = .slice Aq1 r.length cq2 ∧ Γ' = [Row r_api_Event 32 (.slice Aq1 r.length cq2) r, Row r_event_Place 62 (.slice A1 a1.length c1) a1]) := by
  refine con_of_wp Try.func24 rfl Try.ntmps24 Try.results24 rfl ?_
  intro w F rn S hrn
  have E := Ext.refl w
  have HM := Hp.le_refl M
  have H := h
  unfold event_Without_AO at H
  refine Wp_seq ?_
  refine Wp_region_lit ?_
  refine W_v (.slice none 0 0) (x_assign rfl) rfl ?_
  refine Wl_nil ?_
  refine tn ?_
  refine Wp_seq ?_
  refine Wp_region_lit ?_
  refine W_makeMap (κ := event_Place) (ν := Int) enc_event_Place (Value.int .i64) S rfl ?_
  intro b1 w2 E' S
  replace E := E.trans E'
  clear E'
  replace S : St w2 M F [MapC enc_event_Place (Value.int .i64) (some ⟨b1, 0, none⟩) ([] : List (event_Place × Int)), Row r_event_Place 62 (.slice A1 a1.length c1) a1] := S
  refine W_alloc S #[.map none] ty80 rfl rfl ?_
  intro b4 w5 E' S
  replace E := E.trans E'
  clear E'
  refine W_store S 0 rfl ty80 rfl rfl [.map (mb (some ⟨b1, 0, none⟩))] rfl rfl rfl #[.map (mb (some ⟨b1, 0, none⟩))] rfl rfl ?_
  intro w7 E' S
  replace E := E.trans E'
  clear E'
  refine Wl_nil ?_
  refine tn ?_
  refine Wp_seq ?_
  refine Wp_seq ?_
  refine Wp_region_lit ?_
  refine W_v (.slice A1 a1.length c1) (x_move rfl) rfl ?_
  refine W_v (.int .i64 (a1.length : Int)) (x_len_slice (n := a1.length) Try.underlying55 rfl) rfl ?_
  refine W_v (.int .i64 0) (x_move rfl) rfl ?_
  refine Wl_nil ?_
  refine tn ?_
  obtain ⟨o108, o108h, o108H⟩ := bindS H
  clear H
  refine Wp_blockJ (fun ρ w' => ∃ (x104 : List (event_Place × Int)) (A105 : Option Addr) (c106 : Nat), (x104) = o108 ∧ Agree ρ [(0, .slice A0 a0.length c0), (5, .pointer (some ⟨b4, 0, none⟩))] ∧ Ext w w' ∧ St w' M F [MapC enc_event_Place (Value.int .i64) A105 x104, Blk b4 (.cells #[.map (mb A105)] 80 (0, 0)), Row r_event_Place 62 (.slice A1 a1.length c1) a1]) ?_ ?_
  · skip
    refine Wp_loop (fun n ρ w' => ∃ (x72 : Int) (x73 : List (event_Place × Int)) (A74 : Option Addr) (c75 : Nat), event_Without_AO_l0 a1 n x72 x73 = some o108 ∧ Agree ρ [(0, .slice A0 a0.length c0), (5, .pointer (some ⟨b4, 0, none⟩)), (13, .slice A1 a1.length c1), (14, .int .i64 (a1.length : Int)), (15, .int .i64 x72)] ∧ Ext w w' ∧ St w' M F [MapC enc_event_Place (Value.int .i64) A74 x73, Blk b4 (.cells #[.map (mb A74)] 80 (0, 0)), Row r_event_Place 62 (.slice A1 a1.length c1) a1]) k ?_ ?_
    · skip
      exact ⟨(0 : Int), ([] : List (event_Place × Int)), (some ⟨b1, 0, none⟩), 0, o108h, ⟨rfl, rfl, rfl, rfl, rfl, trivial⟩, E, S.pick [1, 0, 2] (by decide)⟩
    · intro n
      rintro ρ w109 ⟨x72, x73, A74, c75, H, hρ, E, S⟩
      rw [agree_eta hρ]
      clear hρ
      cases n with
      | zero => cases H
      | succ k =>
        rw [event_Without_AO_l0.eq_2] at H
        refine Wp_seq ?_
        refine Wp_region_lit ?_
        refine W_v (.bool (decide (x72 < (a1.length : Int)))) (x_ibin rfl rfl rfl rfl) rfl ?_
        refine Wl_nil ?_
        refine tn ?_
        refine Wp_seq ?_
        rcases iteS H with ⟨hb110, H⟩ | ⟨hb110, H⟩
        · refine Wp_cond_true (congrArg Value.bool hb110) ?_
          refine Wp_skip ?_
          refine tn ?_
          refine Wp_seq ?_
          refine Wp_block ?_
          refine Wp_seq ?_
          refine Wp_region_lit ?_
          obtain ⟨⟨p111, p112⟩, H⟩ := chkS H
          obtain ⟨b113, o114, cs115, _, _, ee120, hb116, vs117, hR118, hc119⟩ := SlW.at' (S.row_read 2 rfl) p111 p112
          obtain rfl : vs117 = _ := hR118
          refine W_v (.pointer (some ⟨b113, o114 + x72.toNat * 2, none⟩)) (x_indexAddr Try.underlying55 ty62 (slA ee120) rfl p111 p112) rfl ?_
          refine W_v (.agg #[.int .i64 ((rd a1 x72).Task), .int .i64 ((rd a1 x72).Call)]) (x_loadA (Hp.of_get hb116) ty62 rfl (sub_el hc119 0 rfl) rfl rfl) rfl ?_
          refine W_alloc S #[.int .i64 0, .int .i64 0] ty62 rfl rfl ?_
          intro b121 w122 E' S
          replace E := E.trans E'
          clear E'
          refine W_store S 0 rfl ty62 rfl rfl [.int .i64 ((rd a1 x72).Task), .int .i64 ((rd a1 x72).Call)] rfl rfl rfl #[.int .i64 ((rd a1 x72).Task), .int .i64 ((rd a1 x72).Call)] rfl rfl ?_
          intro w124 E' S
          replace E := E.trans E'
          clear E'
          refine Wl_nil ?_
          refine tn ?_
          refine Wp_region_any (S := fun w' => ∃ Mx, M.le Mx ∧ St w' Mx F [Blk b121 (.cells #[.int .i64 ((rd a1 x72).Task), .int .i64 ((rd a1 x72).Call)] 62 (0, 0)), MapU enc_event_Place (Value.int .i64) A74 x73 (rd a1 x72) (0 : Int), Blk b4 (.cells #[.map (mb A74)] 80 (0, 0)), Row r_event_Place 62 (.slice A1 a1.length c1) a1]) (L := 6) mixed ?_
          intro w130 hw131 E'
          replace S := S.heap hw131
          replace E := E.trans E'
          clear E'
          refine Wa_take (i := 0) rfl (by kernel_rfl) rfl rfl (.map (mb A74)) rfl (fun w' h' => x_load (cls_blk h' 2 rfl) ty80 rfl rfl) (⟨M, Hp.le_refl M, (St.mapUc (S.pick [0, 1, 2, 3] (by decide)) 1 rfl (rd a1 x72) (0 : Int))⟩) ?_
          refine Wa_take (i := 1) rfl (by kernel_rfl) rfl rfl (.agg #[.int .i64 ((rd a1 x72).Task), .int .i64 ((rd a1 x72).Call)]) rfl (fun w' h' => x_loadA (cls_blk h' 0 rfl) ty62 rfl (sub_of_extract rfl) rfl rfl) (⟨M, Hp.le_refl M, (St.mapUc (S.pick [0, 1, 2, 3] (by decide)) 1 rfl (rd a1 x72) (0 : Int))⟩) ?_
          refine Wa_take (i := 2) rfl (by kernel_rfl) rfl rfl (.int .i64 ((mget x73 (rd a1 x72)).getD (0 : Int))) rfl (fun w' h' => Exists.elim h' fun Mx h9 => x_lookupU h9.2 1 rfl Try.underlying80 key62 (fun _ => ty3.zero) rfl rfl) (⟨M, Hp.le_refl M, (St.mapUc (S.pick [0, 1, 2, 3] (by decide)) 1 rfl (rd a1 x72) (0 : Int))⟩) ?_
          refine Wa_take (i := 3) rfl (by kernel_rfl) rfl rfl (.int .i64 (IntKind.i64.wrap (((mget x73 (rd a1 x72)).getD (0 : Int)) + (1 : Int)))) rfl (fun w' h' => x_ibin rfl rfl rfl rfl) (⟨M, Hp.le_refl M, (St.mapUc (S.pick [0, 1, 2, 3] (by decide)) 1 rfl (rd a1 x72) (0 : Int))⟩) ?_
          refine Wa_solo (i := 4) rfl (by kernel_rfl) ?_
          refine W_mapEntry S 1 rfl Try.underlying80 key62 (0 : Int) (fun _ => ty3.zero) (rd a1 x72) rfl rfl rfl ?_
          intro n132 w133 E' S
          replace E := E.trans E'
          clear E'
          replace S : St w133 M F [Blk b121 (.cells #[.int .i64 ((rd a1 x72).Task), .int .i64 ((rd a1 x72).Call)] 62 (0, 0)), MapE enc_event_Place (Value.int .i64) A74 (ment x73 (rd a1 x72) (0 : Int)) (rd a1 x72) n132, Blk b4 (.cells #[.map (mb A74)] 80 (0, 0)), Row r_event_Place 62 (.slice A1 a1.length c1) a1] := S
          refine Wl_nil (on_n ⟨.inr ⟨M, Hp.le_refl M, (St.mapUe (S.pick [0, 1, 2, 3] (by decide)) 1 rfl)⟩, ?_⟩)
          refine Wa_take (i := 5) rfl (by kernel_rfl) rfl rfl (.int .i64 (n132 : Int)) rfl (fun w' h' => x_extract rfl rfl) (⟨M, Hp.le_refl M, (St.mapUe (S.pick [0, 1, 2, 3] (by decide)) 1 rfl)⟩) ?_
          refine Wa_solo (i := 6) rfl (by kernel_rfl) ?_
          obtain ⟨x135, he136, H⟩ := bindS H
          replace he136 := Option.some.inj he136
          refine W_entryStore S 1 rfl (IntKind.i64.wrap (((mget x73 (rd a1 x72)).getD (0 : Int)) + (1 : Int))) he136 rfl rfl rfl ?_
          intro w134 E' S
          replace E := E.trans E'
          clear E'
          replace S : St w134 M F [Blk b121 (.cells #[.int .i64 ((rd a1 x72).Task), .int .i64 ((rd a1 x72).Call)] 62 (0, 0)), MapC enc_event_Place (Value.int .i64) A74 x135, Blk b4 (.cells #[.map (mb A74)] 80 (0, 0)), Row r_event_Place 62 (.slice A1 a1.length c1) a1] := S
          refine Wl_nil (on_n ⟨.inl (by decide), ?_⟩)
          refine Wa_done (by kernel_rfl) ?_
          refine bn ?_
          refine tn ?_
          refine Wp_region_lit ?_
          refine W_v (.int .i64 (IntKind.i64.wrap (x72 + (1 : Int)))) (x_ibin rfl rfl rfl rfl) rfl ?_
          refine W_v (.int .i64 (IntKind.i64.wrap (x72 + (1 : Int)))) (x_move rfl) rfl ?_
          refine Wl_nil ?_
          refine tn ?_
          exact ⟨k, Nat.lt_succ_self k, ⟨(IntKind.i64.wrap (x72 + (1 : Int))), x135, A74, c75, H, ⟨rfl, rfl, rfl, rfl, rfl, trivial⟩, E, S.pick [1, 2, 3] (by decide)⟩⟩
        refine Wp_cond_false (congrArg Value.bool hb110) ?_
        refine Wp_exit ?_
        refine tx (tx (bsm (?_)))
        refine tn ?_
        exact ⟨x73, A74, c75, Option.some.inj H, ⟨rfl, rfl, trivial⟩, E, S.pick [0, 1, 2] (by decide)⟩
  clear o108h
  rintro ρ w137 ⟨x104, A105, c106, rfl, hρ, E, S⟩
  rw [agree_eta hρ]
  clear hρ
  have H := o108H
  clear o108H
  refine tn ?_
  refine Wp_seq ?_
  refine Wp_region_lit ?_
  refine W_v (.slice A0 a0.length c0) (x_move rfl) rfl ?_
  obtain ⟨t138, ht139, H⟩ := bindS H
  refine W_call fn37 (event_owned.con k M A0 c0 a0 t138 hr0 ht139) (Γ1 := []) (Γ2 := [MapC enc_event_Place (Value.int .i64) A105 x104, Blk b4 (.cells #[.map (mb A105)] 80 (0, 0)), Row r_event_Place 62 (.slice A1 a1.length c1) a1]) S rfl rfl ?_
  rintro _ w143 M144 Γ' hM145 E' S ⟨A140, c141, rfl, rfl⟩
  replace HM := Hp.le_trans HM hM145
  replace hr0 := SlR.mono hr0 hM145
  replace E := E.trans E'
  clear E'
  refine W_v (.func (.func 40) #[] #[.pointer (some ⟨b4, 0, none⟩)]) (x_makeFunc rfl) rfl ?_
  obtain ⟨t146, ht147, H⟩ := bindS H
  replace S : St w143 M144 F [Row r_api_Event 32 (.slice A140 t138.length c141) t138, Blk b4 (.cells #[.map (mb A105)] 80 (0, 0)), MapC enc_event_Place (Value.int .i64) A105 x104, Row r_event_Place 62 (.slice A1 a1.length c1) a1] := S.pick [0, 2, 1, 3] (by decide)
  refine W_call fn38 (slices_DeleteFunc_api_Event_api_Event_S_Without_1_K.con k M144 A140 c141 t138 A105 x104 b4 t146  ht147) (Γ1 := [Row r_api_Event 32 (.slice A140 t138.length c141) t138, Blk b4 (.cells #[.map (mb A105)] 80 (0, 0)), MapC enc_event_Place (Value.int .i64) A105 x104]) (Γ2 := [Row r_event_Place 62 (.slice A1 a1.length c1) a1]) S rfl rfl ?_
  rintro _ w151 M152 Γ' hM153 E' S ⟨A148, c149, rfl, rfl⟩
  replace HM := Hp.le_trans HM hM153
  replace hr0 := SlR.mono hr0 hM153
  replace E := E.trans E'
  clear E'
  replace S : St w151 M152 F [Row r_api_Event 32 (.slice A148 t146.length c149) t146, Blk b4 (.cells #[.map (mb A105)] 80 (0, 0)), MapC enc_event_Place (Value.int .i64) A105 x104, Row r_event_Place 62 (.slice A1 a1.length c1) a1] := S
  refine W_v (.slice A148 t146.length c149) (x_assign rfl) rfl ?_
  refine Wl_nil ?_
  refine tn ?_
  refine Wp_seq ?_
  refine Wp_seq ?_
  refine Wp_region_lit ?_
  refine W_v (.slice A148 t146.length c149) (x_move rfl) rfl ?_
  refine W_v (.int .i64 (t146.length : Int)) (x_len_slice (n := t146.length) Try.underlying22 rfl) rfl ?_
  refine W_v (.int .i64 0) (x_move rfl) rfl ?_
  refine Wl_nil ?_
  refine tn ?_
  obtain ⟨o3149, o3149h, o3149H⟩ := bindS H
  clear H
  refine Wp_blockJ (fun ρ w' => ∃ (x3145 : List api_Event) (A3146 : Option Addr) (c3147 : Nat), (x3145) = o3149 ∧ Agree ρ [(8, .slice A3146 x3145.length c3147)] ∧ Ext w w' ∧ St w' M152 F [Row r_api_Event 32 (.slice A3146 x3145.length c3147) x3145, Row r_event_Place 62 (.slice A1 a1.length c1) a1]) ?_ ?_
  · skip
    refine Wp_loop (fun n ρ w' => ∃ (x2148 : List api_Event) (x2152 : Int) (A2149 : Option Addr) (c2150 : Nat), event_Without_AO_l3 x104 t146 n x2148 x2152 = some o3149 ∧ Agree ρ [(5, .pointer (some ⟨b4, 0, none⟩)), (8, .slice A2149 x2148.length c2150), (30, .slice A2149 x2148.length c2150), (31, .int .i64 (t146.length : Int)), (32, .int .i64 x2152)] ∧ Ext w w' ∧ St w' M152 F [Row r_api_Event 32 (.slice A2149 x2148.length c2150) x2148, Blk b4 (.cells #[.map (mb A105)] 80 (0, 0)), MapC enc_event_Place (Value.int .i64) A105 x104, Row r_event_Place 62 (.slice A1 a1.length c1) a1]) k ?_ ?_
    · skip
      exact ⟨t146, (0 : Int), A148, c149, o3149h, ⟨rfl, rfl, rfl, rfl, rfl, trivial⟩, E, S.pick [0, 1, 2, 3] (by decide)⟩
    · intro n
      rintro ρ w3150 ⟨x2148, x2152, A2149, c2150, H, hρ, E, S⟩
      rw [agree_eta hρ]
      clear hρ
      cases n with
      | zero => cases H
      | succ k =>
        rw [event_Without_AO_l3.eq_2] at H
        refine Wp_seq ?_
        refine Wp_region_lit ?_
        refine W_v (.bool (decide (x2152 < (t146.length : Int)))) (x_ibin rfl rfl rfl rfl) rfl ?_
        refine Wl_nil ?_
        refine tn ?_
        refine Wp_seq ?_
        rcases iteS H with ⟨hb3151, H⟩ | ⟨hb3151, H⟩
        · refine Wp_cond_true (congrArg Value.bool hb3151) ?_
          refine Wp_skip ?_
          refine tn ?_
          refine Wp_seq ?_
          refine Wp_block ?_
          refine Wp_seq ?_
          refine Wp_region_lit ?_
          refine W_v (.int .i64 x2152) (x_move rfl) rfl ?_
          obtain ⟨⟨p3152, p3153⟩, H⟩ := chkS H
          obtain ⟨b3154, o3155, cs3156, _, _, ee3161, hb3157, vs3158, hR3159, hc3160⟩ := SlW.at' (S.row_read 0 rfl) p3152 p3153
          obtain ⟨v3165, hs3164, rfl⟩ := hR3159
          obtain ⟨A3162, c3163, rfl, _⟩ := hs3164.form
          refine W_v (.pointer (some ⟨b3154, o3155 + x2152.toNat * 7, none⟩)) (x_indexAddr Try.underlying22 ty32 (slA ee3161) rfl p3152 p3153) rfl ?_
          refine W_v (.agg #[.int .u8 ((rd x2148 x2152).What), .int .i64 ((rd x2148 x2152).Task), .int .i64 ((rd x2148 x2152).Call), .int .i64 ((rd x2148 x2152).Answer.Err), .bool ((rd x2148 x2152).Answer.Found), .string (bs ((rd x2148 x2152).Answer.Value)), .slice A3162 ((rd x2148 x2152).Answer.Pairs).length c3163]) (x_loadA (Hp.of_get hb3157) ty32 rfl (sub_el hc3160 0 rfl) rfl rfl) rfl ?_
          refine W_alloc S #[.int .u8 0, .int .i64 0, .int .i64 0, .int .i64 0, .bool false, .string (bs ([] : Str)), .slice none 0 0] ty32 rfl rfl ?_
          intro b3166 w3167 E' S
          replace E := E.trans E'
          clear E'
          refine W_v (.int .i64 x2152) (x_assign rfl) rfl ?_
          refine W_store S 0 rfl ty32 rfl rfl [.int .u8 ((rd x2148 x2152).What), .int .i64 ((rd x2148 x2152).Task), .int .i64 ((rd x2148 x2152).Call), .int .i64 ((rd x2148 x2152).Answer.Err), .bool ((rd x2148 x2152).Answer.Found), .string (bs ((rd x2148 x2152).Answer.Value)), .slice A3162 ((rd x2148 x2152).Answer.Pairs).length c3163] rfl rfl rfl #[.int .u8 ((rd x2148 x2152).What), .int .i64 ((rd x2148 x2152).Task), .int .i64 ((rd x2148 x2152).Call), .int .i64 ((rd x2148 x2152).Answer.Err), .bool ((rd x2148 x2152).Answer.Found), .string (bs ((rd x2148 x2152).Answer.Value)), .slice A3162 ((rd x2148 x2152).Answer.Pairs).length c3163] rfl rfl ?_
          intro w3169 E' S
          replace E := E.trans E'
          clear E'
          refine Wl_nil ?_
          refine tn ?_
          refine Wp_seq ?_
          refine Wp_region_lit ?_
          refine W_v (.map (mb A105)) (x_load (S.blk 2 rfl) ty80 rfl rfl) rfl ?_
          obtain ⟨hn3170, H⟩ := chkS H
          refine W_rangeM S 3 rfl Try.underlying80 hn3170 rfl rfl ?_
          intro b3171 w3172 E' S
          replace E := E.trans E'
          clear E'
          replace S : St w3172 M152 F [Blk b3166 (.cells #[.int .u8 ((rd x2148 x2152).What), .int .i64 ((rd x2148 x2152).Task), .int .i64 ((rd x2148 x2152).Call), .int .i64 ((rd x2148 x2152).Answer.Err), .bool ((rd x2148 x2152).Answer.Found), .string (bs ((rd x2148 x2152).Answer.Value)), .slice A3162 ((rd x2148 x2152).Answer.Pairs).length c3163] 32 (0, 0)), Row r_api_Event 32 (.slice A2149 x2148.length c2150) x2148, Blk b4 (.cells #[.map (mb A105)] 80 (0, 0)), RangeM enc_event_Place (Value.int .i64) A105 b3171 x104 (x104.map fun p : event_Place × Int => p.1) none, Row r_event_Place 62 (.slice A1 a1.length c1) a1] := S
          refine Wl_nil ?_
          refine tn ?_
          obtain ⟨o3903, o3903h, o3903H⟩ := bindS H
          clear H
          refine Wp_blockJ (fun ρ w' => ∃ (x3899 : List api_Event) (A3900 : Option Addr) (c3901 : Nat), (x3899) = o3903 ∧ Agree ρ [(5, .pointer (some ⟨b4, 0, none⟩)), (8, .slice A3900 x3899.length c3901), (30, .slice A3900 x3899.length c3901), (31, .int .i64 (t146.length : Int)), (32, .int .i64 x2152)] ∧ Ext w w' ∧ St w' M152 F [Row r_api_Event 32 (.slice A3900 x3899.length c3901) x3899, Blk b4 (.cells #[.map (mb A105)] 80 (0, 0)), MapC enc_event_Place (Value.int .i64) A105 x104, Row r_event_Place 62 (.slice A1 a1.length c1) a1]) ?_ ?_
          · skip
            refine Wp_loop (fun n ρ w' => ∃ (x3657 : List api_Event) (x3661 : List event_Place) (A3658 : Option Addr) (c3659 : Nat), event_Without_AO_l5 x2148 x2152 n x3657 x3661 = some o3903 ∧ Agree ρ [(5, .pointer (some ⟨b4, 0, none⟩)), (8, .slice A3658 x3657.length c3659), (9, .int .i64 x2152), (10, .pointer (some ⟨b3166, 0, none⟩)), (30, .slice A3658 x3657.length c3659), (31, .int .i64 (t146.length : Int)), (32, .int .i64 x2152), (38, .pointer (some ⟨b3171, 0, none⟩))] ∧ Ext w w' ∧ St w' M152 F [Row r_api_Event 32 (.slice A3658 x3657.length c3659) x3657, Blk b3166 (.cells #[.int .u8 ((rd x2148 x2152).What), .int .i64 ((rd x2148 x2152).Task), .int .i64 ((rd x2148 x2152).Call), .int .i64 ((rd x2148 x2152).Answer.Err), .bool ((rd x2148 x2152).Answer.Found), .string (bs ((rd x2148 x2152).Answer.Value)), .slice A3162 ((rd x2148 x2152).Answer.Pairs).length c3163] 32 (0, 0)), Blk b4 (.cells #[.map (mb A105)] 80 (0, 0)), RangeM enc_event_Place (Value.int .i64) A105 b3171 x104 x3661 none, Row r_event_Place 62 (.slice A1 a1.length c1) a1]) k ?_ ?_
            · skip
              exact ⟨x2148, (x104.map fun p : event_Place × Int => p.1), A2149, c2150, o3903h, ⟨rfl, rfl, rfl, rfl, rfl, rfl, rfl, rfl, trivial⟩, E, S.pick [1, 0, 2, 3, 4] (by decide)⟩
            · intro n
              rintro ρ w3904 ⟨x3657, x3661, A3658, c3659, H, hρ, E, S⟩
              rw [agree_eta hρ]
              clear hρ
              cases n with
              | zero => cases H
              | succ k =>
                refine Wp_seq ?_
                refine Wp_region_lit ?_
                obtain ⟨hn3905a, hn3905b, hn3905c⟩ := S.rangeM_facts 3 rfl
                refine W_nextM S 3 rfl rfl rfl ?_ ?_
                · intro y3906 v3907 w3908 hy3910 hv3911 E' S
                  replace E := E.trans E'
                  clear E'
                  rw [event_Without_AO_l5.perm (List.perm_cons_erase hy3910) hn3905a hn3905b hn3905c, event_Without_AO_l5.eq_2, onList_cons] at H
                  obtain rfl : v3907 = ((mget x104 y3906).getD (0 : Int)) := by rw [hv3911]; rfl
                  replace S : St w3908 M152 F [Row r_api_Event 32 (.slice A3658 x3657.length c3659) x3657, Blk b3166 (.cells #[.int .u8 ((rd x2148 x2152).What), .int .i64 ((rd x2148 x2152).Task), .int .i64 ((rd x2148 x2152).Call), .int .i64 ((rd x2148 x2152).Answer.Err), .bool ((rd x2148 x2152).Answer.Found), .string (bs ((rd x2148 x2152).Answer.Value)), .slice A3162 ((rd x2148 x2152).Answer.Pairs).length c3163] 32 (0, 0)), Blk b4 (.cells #[.map (mb A105)] 80 (0, 0)), RangeM enc_event_Place (Value.int .i64) A105 b3171 x104 (x3661.erase y3906) (some y3906), Row r_event_Place 62 (.slice A1 a1.length c1) a1] := S
                  refine W_v (.bool true) (x_extract rfl rfl) rfl ?_
                  refine Wl_nil ?_
                  refine tn ?_
                  refine Wp_seq ?_
                  refine Wp_cond_true rfl ?_
                  refine Wp_skip ?_
                  refine tn ?_
                  obtain ⟨o4029, o4029h, o4029H⟩ := bindS H
                  refine Wp_cut (fun ρ w' => ∃ (x4025 : List api_Event) (A4026 : Option Addr) (c4027 : Nat), (x4025) = o4029 ∧ Agree ρ [(5, .pointer (some ⟨b4, 0, none⟩)), (8, .slice A4026 x4025.length c4027), (9, .int .i64 x2152), (10, .pointer (some ⟨b3166, 0, none⟩)), (30, .slice A4026 x4025.length c4027), (31, .int .i64 (t146.length : Int)), (32, .int .i64 x2152), (38, .pointer (some ⟨b3171, 0, none⟩))] ∧ Ext w w' ∧ St w' M152 F [Row r_api_Event 32 (.slice A4026 x4025.length c4027) x4025, Blk b3166 (.cells #[.int .u8 ((rd x2148 x2152).What), .int .i64 ((rd x2148 x2152).Task), .int .i64 ((rd x2148 x2152).Call), .int .i64 ((rd x2148 x2152).Answer.Err), .bool ((rd x2148 x2152).Answer.Found), .string (bs ((rd x2148 x2152).Answer.Value)), .slice A3162 ((rd x2148 x2152).Answer.Pairs).length c3163] 32 (0, 0)), Blk b4 (.cells #[.map (mb A105)] 80 (0, 0)), RangeM enc_event_Place (Value.int .i64) A105 b3171 x104 (x3661.erase y3906) none, Row r_event_Place 62 (.slice A1 a1.length c1) a1]) ?_ ?_
                  · clear o4029H
                    have H := o4029h
                    clear o4029h
                    refine Wp_block ?_
                    refine Wp_seq ?_
                    refine Wp_region_lit ?_
                    refine W_v (.tuple #[enc_event_Place y3906, (Value.int .i64) ((mget x104 y3906).getD (0 : Int))]) (x_entryM S 3 rfl hv3911 rfl) rfl ?_
                    replace S := S.rangeM_seen 3 rfl
                    replace S : St w3908 M152 F [Row r_api_Event 32 (.slice A3658 x3657.length c3659) x3657, Blk b3166 (.cells #[.int .u8 ((rd x2148 x2152).What), .int .i64 ((rd x2148 x2152).Task), .int .i64 ((rd x2148 x2152).Call), .int .i64 ((rd x2148 x2152).Answer.Err), .bool ((rd x2148 x2152).Answer.Found), .string (bs ((rd x2148 x2152).Answer.Value)), .slice A3162 ((rd x2148 x2152).Answer.Pairs).length c3163] 32 (0, 0)), Blk b4 (.cells #[.map (mb A105)] 80 (0, 0)), RangeM enc_event_Place (Value.int .i64) A105 b3171 x104 (x3661.erase y3906) none, Row r_event_Place 62 (.slice A1 a1.length c1) a1] := S
                    refine W_v (.agg #[.int .i64 y3906.Task, .int .i64 y3906.Call]) (x_extract rfl rfl) rfl ?_
                    refine W_alloc S #[.int .i64 0, .int .i64 0] ty62 rfl rfl ?_
                    intro b4030 w4031 E' S
                    replace E := E.trans E'
                    clear E'
                    refine W_store S 0 rfl ty62 rfl rfl [.int .i64 y3906.Task, .int .i64 y3906.Call] rfl rfl rfl #[.int .i64 y3906.Task, .int .i64 y3906.Call] rfl rfl ?_
                    intro w4033 E' S
                    replace E := E.trans E'
                    clear E'
                    refine Wl_nil ?_
                    refine tn ?_
                    refine Wp_seq ?_
                    refine Wp_region_lit ?_
                    refine W_v (.pointer (some ⟨b4030, 0, none⟩)) (x_fieldAddr (o := 0) (off := 0) Try.underlying62 rfl ty3 rfl rfl) rfl ?_
                    refine W_v (.int .i64 y3906.Task) (x_load (S.blk 0 rfl) ty3 rfl rfl) rfl ?_
                    refine W_v (.pointer (some ⟨b3166, 1, none⟩)) (x_fieldAddr (o := 0) (off := 1) Try.underlying32 rfl ty3 rfl rfl) rfl ?_
                    refine W_v (.int .i64 ((rd x2148 x2152).Task)) (x_load (S.blk 2 rfl) ty3 rfl rfl) rfl ?_
                    refine W_v (.bool (y3906.Task == (rd x2148 x2152).Task)) (x_ibin rfl rfl rfl rfl) rfl ?_
                    refine W_v (.bool (y3906.Task == (rd x2148 x2152).Task)) (x_move rfl) rfl ?_
                    refine Wl_cutN 4 (fun ρ w' => Agree ρ [(5, .pointer (some ⟨b4, 0, none⟩)), (8, .slice A3658 x3657.length c3659), (9, .int .i64 x2152), (10, .pointer (some ⟨b3166, 0, none⟩)), (11, .pointer (some ⟨b4030, 0, none⟩)), (30, .slice A3658 x3657.length c3659), (31, .int .i64 (t146.length : Int)), (32, .int .i64 x2152), (38, .pointer (some ⟨b3171, 0, none⟩)), (52, .bool ((y3906.Task == (rd x2148 x2152).Task) && (decide (y3906.Call ≥ (0 : Int)))))] ∧ w4033 = w') ?_ ?_
                    · rcases boolCases (y3906.Task == (rd x2148 x2152).Task) with hb4034 | hb4034
                      · skip
                        refine W_no (skT hb4034) rfl ?_
                        refine W_no (skT hb4034) rfl ?_
                        refine W_no (skT hb4034) rfl ?_
                        refine W_v (.bool false) (x_pick (k := false) (congrArg Value.bool hb4034) rfl) rfl ?_
                        refine Wl_nil ?_
                        exact ⟨⟨rfl, rfl, rfl, rfl, rfl, rfl, rfl, rfl, rfl, (by first | rfl | (rw [hb4034]; rfl) | (simp only [hb4034]; rfl)), trivial⟩, rfl⟩
                      · skip
                        refine W_yes (congrArg some hb4034) ?_
                        refine W_v (.pointer (some ⟨b4030, 1, none⟩)) (x_fieldAddr (o := 0) (off := 1) Try.underlying62 rfl ty3 rfl rfl) rfl ?_
                        refine W_yes (congrArg some hb4034) ?_
                        refine W_v (.int .i64 y3906.Call) (x_load (S.blk 0 rfl) ty3 rfl rfl) rfl ?_
                        refine W_yes (congrArg some hb4034) ?_
                        refine W_v (.bool (decide (y3906.Call ≥ (0 : Int)))) (x_ibin rfl rfl rfl rfl) rfl ?_
                        refine W_v (.bool (decide (y3906.Call ≥ (0 : Int)))) (x_pick (k := true) (congrArg Value.bool hb4034) rfl) rfl ?_
                        refine Wl_nil ?_
                        exact ⟨⟨rfl, rfl, rfl, rfl, rfl, rfl, rfl, rfl, rfl, (by first | rfl | (rw [hb4034]; rfl) | (simp only [hb4034]; rfl)), trivial⟩, rfl⟩
                    rintro ρ _ ⟨hρ, rfl⟩
                    rw [agree_eta hρ]
                    clear hρ
                    refine W_v (.bool ((y3906.Task == (rd x2148 x2152).Task) && (decide (y3906.Call ≥ (0 : Int))))) (x_move rfl) rfl ?_
                    refine Wl_cutN 6 (fun ρ w' => Agree ρ [(5, .pointer (some ⟨b4, 0, none⟩)), (8, .slice A3658 x3657.length c3659), (9, .int .i64 x2152), (10, .pointer (some ⟨b3166, 0, none⟩)), (30, .slice A3658 x3657.length c3659), (31, .int .i64 (t146.length : Int)), (32, .int .i64 x2152), (38, .pointer (some ⟨b3171, 0, none⟩)), (59, .bool (((y3906.Task == (rd x2148 x2152).Task) && (decide (y3906.Call ≥ (0 : Int)))) && (decide (y3906.Call < (rd x2148 x2152).Call))))] ∧ w4033 = w') ?_ ?_
                    · rcases boolCases ((y3906.Task == (rd x2148 x2152).Task) && (decide (y3906.Call ≥ (0 : Int)))) with hb4035 | hb4035
                      · skip
                        refine W_no (skT hb4035) rfl ?_
                        refine W_no (skT hb4035) rfl ?_
                        refine W_no (skT hb4035) rfl ?_
                        refine W_no (skT hb4035) rfl ?_
                        refine W_no (skT hb4035) rfl ?_
                        refine W_v (.bool false) (x_pick (k := false) (congrArg Value.bool hb4035) rfl) rfl ?_
                        refine Wl_nil ?_
                        exact ⟨⟨rfl, rfl, rfl, rfl, rfl, rfl, rfl, rfl, (by first | rfl | (rw [hb4035]; rfl) | (simp only [hb4035]; rfl)), trivial⟩, rfl⟩
                      · skip
                        refine W_yes (congrArg some hb4035) ?_
                        refine W_v (.pointer (some ⟨b4030, 1, none⟩)) (x_fieldAddr (o := 0) (off := 1) Try.underlying62 rfl ty3 rfl rfl) rfl ?_
                        refine W_yes (congrArg some hb4035) ?_
                        refine W_v (.int .i64 y3906.Call) (x_load (S.blk 0 rfl) ty3 rfl rfl) rfl ?_
                        refine W_yes (congrArg some hb4035) ?_
                        refine W_v (.pointer (some ⟨b3166, 2, none⟩)) (x_fieldAddr (o := 0) (off := 2) Try.underlying32 rfl ty3 rfl rfl) rfl ?_
                        refine W_yes (congrArg some hb4035) ?_
                        refine W_v (.int .i64 ((rd x2148 x2152).Call)) (x_load (S.blk 2 rfl) ty3 rfl rfl) rfl ?_
                        refine W_yes (congrArg some hb4035) ?_
                        refine W_v (.bool (decide (y3906.Call < (rd x2148 x2152).Call))) (x_ibin rfl rfl rfl rfl) rfl ?_
                        refine W_v (.bool (decide (y3906.Call < (rd x2148 x2152).Call))) (x_pick (k := true) (congrArg Value.bool hb4035) rfl) rfl ?_
                        refine Wl_nil ?_
                        exact ⟨⟨rfl, rfl, rfl, rfl, rfl, rfl, rfl, rfl, (by first | rfl | (rw [hb4035]; rfl) | (simp only [hb4035]; rfl)), trivial⟩, rfl⟩
                    rintro ρ _ ⟨hρ, rfl⟩
                    rw [agree_eta hρ]
                    clear hρ
                    refine Wl_nil ?_
                    refine tn ?_
                    obtain ⟨o4106, o4106h, o4106H⟩ := bindS H
                    refine Wp_cut (fun ρ w' => ∃ (x4102 : List api_Event) (A4103 : Option Addr) (c4104 : Nat), (x4102) = o4106 ∧ Agree ρ [(5, .pointer (some ⟨b4, 0, none⟩)), (8, .slice A4103 x4102.length c4104), (9, .int .i64 x2152), (10, .pointer (some ⟨b3166, 0, none⟩)), (30, .slice A4103 x4102.length c4104), (31, .int .i64 (t146.length : Int)), (32, .int .i64 x2152), (38, .pointer (some ⟨b3171, 0, none⟩))] ∧ Ext w w' ∧ St w' M152 F [Row r_api_Event 32 (.slice A4103 x4102.length c4104) x4102, Blk b3166 (.cells #[.int .u8 ((rd x2148 x2152).What), .int .i64 ((rd x2148 x2152).Task), .int .i64 ((rd x2148 x2152).Call), .int .i64 ((rd x2148 x2152).Answer.Err), .bool ((rd x2148 x2152).Answer.Found), .string (bs ((rd x2148 x2152).Answer.Value)), .slice A3162 ((rd x2148 x2152).Answer.Pairs).length c3163] 32 (0, 0)), Blk b4 (.cells #[.map (mb A105)] 80 (0, 0)), RangeM enc_event_Place (Value.int .i64) A105 b3171 x104 (x3661.erase y3906) none, Row r_event_Place 62 (.slice A1 a1.length c1) a1]) ?_ ?_
                    · clear o4106H
                      have H := o4106h
                      clear o4106h
                      rcases iteS H with ⟨hb4107, H⟩ | ⟨hb4107, H⟩
                      · refine Wp_cond_true (congrArg Value.bool hb4107) ?_
                        refine Wp_region_lit ?_
                        refine W_v (.slice A3658 x3657.length c3659) (x_move rfl) rfl ?_
                        refine W_v (.int .i64 x2152) (x_move rfl) rfl ?_
                        obtain ⟨⟨p4108, p4109⟩, H⟩ := chkS H
                        obtain ⟨b4110, o4111, cs4112, _, _, ee4117, hb4113, vs4114, hR4115, hc4116⟩ := SlW.at' (S.row_read 1 rfl) p4108 p4109
                        obtain ⟨v4121, hs4120, rfl⟩ := hR4115
                        obtain ⟨A4118, c4119, rfl, _⟩ := hs4120.form
                        refine W_v (.pointer (some ⟨b4110, o4111 + x2152.toNat * 7, none⟩)) (x_indexAddr Try.underlying22 ty32 (slA ee4117) rfl p4108 p4109) rfl ?_
                        refine W_v (.pointer (some ⟨b4110, o4111 + x2152.toNat * 7 + 2, none⟩)) (x_fieldAddr (o := o4111 + x2152.toNat * 7) (off := 2) Try.underlying32 rfl ty3 rfl rfl) rfl ?_
                        refine W_v (.int .i64 ((rd x3657 x2152).Call)) (x_load (Hp.of_get hb4113) ty3 rfl (hc4116 2 _ rfl)) rfl ?_
                        refine W_v (.int .i64 (IntKind.i64.wrap ((rd x3657 x2152).Call - (1 : Int)))) (x_ibin rfl rfl rfl rfl) rfl ?_
                        obtain ⟨⟨p4122, p4123⟩, H⟩ := chkS H
                        obtain ⟨b4124, o4125, cs4126, _, _, ee4131, hb4127, vs4128, hR4129, hc4130⟩ := SlW.at' (S.row_read 1 rfl) p4122 p4123
                        obtain ⟨v4135, hs4134, rfl⟩ := hR4129
                        obtain ⟨A4132, c4133, rfl, _⟩ := hs4134.form
                        refine W_v (.pointer (some ⟨b4124, o4125 + x2152.toNat * 7, none⟩)) (x_indexAddr Try.underlying22 ty32 (slA ee4131) rfl p4122 p4123) rfl ?_
                        refine W_v (.pointer (some ⟨b4124, o4125 + x2152.toNat * 7 + 2, none⟩)) (x_fieldAddr (o := o4125 + x2152.toNat * 7) (off := 2) Try.underlying32 rfl ty3 rfl rfl) rfl ?_
                        obtain ⟨x4137, he4138, H⟩ := bindS H
                        replace he4138 := Option.some.inj he4138
                        refine W_rowstore S 1 rfl rfl ee4131 (by first | exact p4122 | simpa using p4122) (by first | exact p4123 | simpa using p4123) 2 ty3 rfl rfl [.int .i64 (IntKind.i64.wrap ((rd x3657 x2152).Call - (1 : Int)))] rfl rfl rfl rfl (⟨(rd x3657 x2152).What, (rd x3657 x2152).Task, (IntKind.i64.wrap ((rd x3657 x2152).Call - (1 : Int))), ⟨(rd x3657 x2152).Answer.Err, (rd x3657 x2152).Answer.Found, (rd x3657 x2152).Answer.Value, (rd x3657 x2152).Answer.Pairs⟩⟩ : api_Event) (by rintro _ ⟨_, h6, rfl⟩; exact ⟨_, h6, rfl⟩) he4138 ?_
                        intro w4136 E' S
                        replace E := E.trans E'
                        clear E'
                        have hs4139 : Value.slice A3658 x3657.length c3659 = Value.slice A3658 x4137.length c3659 := by rw [← he4138, List.length_set]
                        try rw [hs4139] at S
                        try rw [hs4139]
                        clear hs4139
                        refine Wl_nil ?_
                        refine tn ?_
                        exact ⟨x4137, A3658, c3659, Option.some.inj H, ⟨rfl, rfl, rfl, rfl, rfl, rfl, rfl, rfl, trivial⟩, E, S.pick [1, 2, 3, 4, 5] (by decide)⟩
                      refine Wp_cond_false (congrArg Value.bool hb4107) ?_
                      refine Wp_skip ?_
                      refine tn ?_
                      exact ⟨x3657, A3658, c3659, Option.some.inj H, ⟨rfl, rfl, rfl, rfl, rfl, rfl, rfl, rfl, trivial⟩, E, S.pick [1, 2, 3, 4, 5] (by decide)⟩
                    clear o4106h
                    rintro ρ w4140 ⟨x4102, A4103, c4104, rfl, hρ, E, S⟩
                    rw [agree_eta hρ]
                    clear hρ
                    have H := o4106H
                    clear o4106H
                    refine bn ?_
                    refine tn ?_
                    exact ⟨x4102, A4103, c4104, Option.some.inj H, ⟨rfl, rfl, rfl, rfl, rfl, rfl, rfl, rfl, trivial⟩, E, S.pick [0, 1, 2, 3, 4] (by decide)⟩
                  clear o4029h
                  rintro ρ w4141 ⟨x4025, A4026, c4027, rfl, hρ, E, S⟩
                  rw [agree_eta hρ]
                  clear hρ
                  have H := o4029H
                  clear o4029H
                  refine tn ?_
                  exact ⟨k, Nat.lt_succ_self k, ⟨x4025, (x3661.erase y3906), A4026, c4027, H, ⟨rfl, rfl, rfl, rfl, rfl, rfl, rfl, rfl, trivial⟩, E, S.pick [0, 1, 2, 3, 4] (by decide)⟩⟩
                · intro w3909 ht3912 E' S
                  replace E := E.trans E'
                  clear E'
                  rw [ht3912, event_Without_AO_l5.eq_2, onList_nil] at H
                  replace S := S.rangeM_end 3 rfl
                  replace S : St w3909 M152 F [Row r_api_Event 32 (.slice A3658 x3657.length c3659) x3657, Blk b3166 (.cells #[.int .u8 ((rd x2148 x2152).What), .int .i64 ((rd x2148 x2152).Task), .int .i64 ((rd x2148 x2152).Call), .int .i64 ((rd x2148 x2152).Answer.Err), .bool ((rd x2148 x2152).Answer.Found), .string (bs ((rd x2148 x2152).Answer.Value)), .slice A3162 ((rd x2148 x2152).Answer.Pairs).length c3163] 32 (0, 0)), Blk b4 (.cells #[.map (mb A105)] 80 (0, 0)), MapC enc_event_Place (Value.int .i64) A105 x104, Row r_event_Place 62 (.slice A1 a1.length c1) a1] := S
                  refine W_v (.bool false) (x_extract rfl rfl) rfl ?_
                  refine Wl_nil ?_
                  refine tn ?_
                  refine Wp_seq ?_
                  refine Wp_cond_false rfl ?_
                  refine Wp_exit ?_
                  refine tx (tx (bsm (?_)))
                  refine tn ?_
                  exact ⟨x3657, A3658, c3659, Option.some.inj H, ⟨rfl, rfl, rfl, rfl, rfl, trivial⟩, E, S.pick [0, 2, 3, 4] (by decide)⟩
          clear o3903h
          rintro ρ w4142 ⟨x3899, A3900, c3901, rfl, hρ, E, S⟩
          rw [agree_eta hρ]
          clear hρ
          have H := o3903H
          clear o3903H
          refine bn ?_
          refine tn ?_
          refine Wp_region_lit ?_
          refine W_v (.int .i64 (IntKind.i64.wrap (x2152 + (1 : Int)))) (x_ibin rfl rfl rfl rfl) rfl ?_
          refine W_v (.int .i64 (IntKind.i64.wrap (x2152 + (1 : Int)))) (x_move rfl) rfl ?_
          refine Wl_nil ?_
          refine tn ?_
          exact ⟨k, Nat.lt_succ_self k, ⟨x3899, (IntKind.i64.wrap (x2152 + (1 : Int))), A3900, c3901, H, ⟨rfl, rfl, rfl, rfl, rfl, trivial⟩, E, S.pick [0, 1, 2, 3] (by decide)⟩⟩
        refine Wp_cond_false (congrArg Value.bool hb3151) ?_
        refine Wp_exit ?_
        refine tx (tx (bsm (?_)))
        refine tn ?_
        exact ⟨x2148, A2149, c2150, Option.some.inj H, ⟨rfl, trivial⟩, E, S.pick [0, 3] (by decide)⟩
  clear o3149h
  rintro ρ w4143 ⟨x3145, A3146, c3147, rfl, hρ, E, S⟩
  rw [agree_eta hρ]
  clear hρ
  have H := o3149H
  clear o3149H
  refine tn ?_
  refine Wp_seq ?_
  refine Wp_region_lit ?_
  refine W_v (.slice A3146 x3145.length c3147) (x_move rfl) rfl ?_
  refine W_v (.slice A3146 x3145.length c3147) (x_assign rfl) rfl ?_
  refine Wl_nil ?_
  refine tn ?_
  refine Wp_ret ?_
  obtain rfl := Option.some.inj H
  exact ⟨_, _, _, fun w1 e1 => run_resR (vs := [.slice A3146 x3145.length c3147]) (FA.cons (rfl) (FA.nil)), HM, E, S.pick [0, 1] (by decide), ⟨A3146, c3147, rfl, rfl⟩⟩
/-! ### slices.Clone[[]ferryman/event.task,ferryman/event.task]: function 45 -/
def slices_Clone_event_task_event_task (k : Nat) (a0 : List event_task) : Option (List event_task) :=
  if ([] : List event_task).length + a0.length ≤ 8796093022208 then some (([] : List event_task) ++ a0) else none
set_option maxHeartbeats 2000000 in
theorem slices_Clone_event_task_event_task.mono {k : Nat} {a0 : List event_task} : OLe (slices_Clone_event_task_event_task k a0) (slices_Clone_event_task_event_task (k + 1) a0) := by
  unfold slices_Clone_event_task_event_task
  repeat' (first | with_reducible exact OLe.none | with_reducible exact OLe.some | with_reducible refine OLe.ite ?_ ?_ | with_reducible refine OLe.bind ?_ (fun _ => ?_) | refine OLe.bind ?_ (fun _ => ?_) | refine OLe.ite ?_ ?_ | refine OLe.elim (fun _ => ?_) (fun _ => ?_) | split)
set_option maxHeartbeats 1000000 in
set_option maxRecDepth 100000 in
theorem slices_Clone_event_task_event_task.con (k : Nat) (M : Hp) (A0 : Option Addr) (c0 : Nat) (a0 : (List event_task)) (r : (List event_task)) (hr0 : SlR r_event_task M (.slice A0 a0.length c0) a0) (h : slices_Clone_event_task_event_task k a0 = some r) : Con Try.prog 45 #[.slice A0 a0.length c0] M [] (fun v M' Γ' => ∃ (A0 : Option Addr) (c0 : Nat), v = .slice A0 r.length c0 ∧ Γ' = [Row r_event_task 70 (.slice A0 r.length c0) r]) := by
  have H := h
  unfold slices_Clone_event_task_event_task at H
  cases A0 with
  | none =>
    obtain ⟨_, H⟩ := chkS H
    obtain rfl : a0 = [] := SlW.none_nil hr0
    refine con_of_wp Try.func45 rfl Try.ntmps45 Try.results45 rfl ?_
    intro w F rn S hrn
    have E := Ext.refl w
    have HM := Hp.le_refl M
    refine Wp_seq ?_
    refine Wp_region_lit ?_
    refine W_v (.slice none 0 0) (x_assign rfl) rfl ?_
    refine Wl_nil ?_
    refine tn ?_
    refine Wp_seq ?_
    refine Wp_seq ?_
    refine Wp_region_lit ?_
    refine W_v (.slice none ([] : List event_task).length c0) (x_move rfl) rfl ?_
    refine W_v (.bool true) (x_eq_of rfl rfl (run_equal_slice_nil _ _ _ _ _ _ Try.underlying71)) rfl ?_
    refine Wl_nil ?_
    refine tn ?_
    refine Wp_cond_true rfl ?_
    refine Wp_seq ?_
    refine Wp_region_lit ?_
    refine W_v (.slice none 0 0) (x_assign rfl) rfl ?_
    refine Wl_nil ?_
    refine tn ?_
    refine Wp_ret ?_
    refine tr (?_)
    obtain rfl := Option.some.inj H
    replace S := S.row_nil r_event_task 70
    exact ⟨_, _, _, fun w1 e1 => run_resR (vs := [.slice none 0 0]) (FA.cons (rfl) (FA.nil)), HM, E, S.pick [0] (by decide), ⟨none, 0, rfl, rfl⟩⟩
  | some ad =>
    refine con_of_wp Try.func45 rfl Try.ntmps45 Try.results45 rfl ?_
    intro w F rn S hrn
    have E := Ext.refl w
    have HM := Hp.le_refl M
    refine Wp_seq ?_
    refine Wp_region_lit ?_
    refine W_v (.slice none 0 0) (x_assign rfl) rfl ?_
    refine Wl_nil ?_
    refine tn ?_
    refine Wp_seq ?_
    refine Wp_seq ?_
    refine Wp_region_lit ?_
    refine W_v (.slice (some ad) a0.length c0) (x_move rfl) rfl ?_
    refine W_v (.bool false) (x_eq_of rfl rfl (run_equal_slice_nil _ _ _ _ _ _ Try.underlying71)) rfl ?_
    refine Wl_nil ?_
    refine tn ?_
    refine Wp_cond_false rfl ?_
    refine Wp_skip ?_
    refine tn ?_
    refine Wp_seq ?_
    refine Wp_region_lit ?_
    refine W_bslice S #[] Try.underlying71 ty70 rfl rfl #[] (by kernel_rfl) (by kernel_rfl) rfl ?_
    intro b2 w3 E' S
    replace E := E.trans E'
    clear E'
    replace S := S.blk_row (r := r_event_task) (l := ([] : List event_task)) 0 rfl 0 (Nat.le_refl 0) rfl Cells.nil
    refine W_v (.slice (some ad) a0.length c0) (x_move rfl) rfl ?_
    obtain ⟨p5, H⟩ := chkS H
    obtain ⟨src6, hs7, hC8⟩ := src_of_read (P := Try.prog) (ρ := r_event_task) (l := a0) (SlR.world hr0 S) (by decide)
    refine W_append S 0 rfl rfl rfl Try.underlying71 (.inl Try.underlying71) ty70 rfl (by decide) (by decide) hs7 hC8 rfl (by omega) rfl ?_
    intro v9 w10 E' S
    replace E := E.trans E'
    clear E'
    obtain ⟨A11, c12, rfl, _⟩ := (S.row_read 0 rfl).form
    refine W_v (.slice A11 (([] : List event_task) ++ a0).length c12) (x_assign rfl) rfl ?_
    refine Wl_nil ?_
    refine tn ?_
    refine Wp_ret ?_
    obtain rfl := Option.some.inj H
    exact ⟨_, _, _, fun w1 e1 => run_resR (vs := [.slice A11 (([] : List event_task) ++ a0).length c12]) (FA.cons (rfl) (FA.nil)), HM, E, S.pick [0] (by decide), ⟨A11, c12, rfl, rfl⟩⟩
/-! ### slices.Clone[[]ferryman/api.Event,ferryman/api.Event]: function 46 -/
def slices_Clone_api_Event_api_Event (k : Nat) (a0 : List api_Event) : Option (List api_Event) :=
  if ([] : List api_Event).length + a0.length ≤ 1759218604441 then some (([] : List api_Event) ++ a0) else none
set_option maxHeartbeats 2000000 in
theorem slices_Clone_api_Event_api_Event.mono {k : Nat} {a0 : List api_Event} : OLe (slices_Clone_api_Event_api_Event k a0) (slices_Clone_api_Event_api_Event (k + 1) a0) := by
  unfold slices_Clone_api_Event_api_Event
  repeat' (first | with_reducible exact OLe.none | with_reducible exact OLe.some | with_reducible refine OLe.ite ?_ ?_ | with_reducible refine OLe.bind ?_ (fun _ => ?_) | refine OLe.bind ?_ (fun _ => ?_) | refine OLe.ite ?_ ?_ | refine OLe.elim (fun _ => ?_) (fun _ => ?_) | split)
set_option maxHeartbeats 1000000 in
set_option maxRecDepth 100000 in
theorem slices_Clone_api_Event_api_Event.con (k : Nat) (M : Hp) (A0 : Option Addr) (c0 : Nat) (a0 : (List api_Event)) (r : (List api_Event)) (hr0 : SlR r_api_Event M (.slice A0 a0.length c0) a0) (h : slices_Clone_api_Event_api_Event k a0 = some r) : Con Try.prog 46 #[.slice A0 a0.length c0] M [] (fun v M' Γ' => ∃ (A0 : Option Addr) (c0 : Nat), v = .slice A0 r.length c0 ∧ Γ' = [Row r_api_Event 32 (.slice A0 r.length c0) r]) := by
  have H := h
  unfold slices_Clone_api_Event_api_Event at H
  cases A0 with
  | none =>
    obtain ⟨_, H⟩ := chkS H
    obtain rfl : a0 = [] := SlW.none_nil hr0
    refine con_of_wp Try.func46 rfl Try.ntmps46 Try.results46 rfl ?_
    intro w F rn S hrn
    have E := Ext.refl w
    have HM := Hp.le_refl M
    refine Wp_seq ?_
    refine Wp_region_lit ?_
    refine W_v (.slice none 0 0) (x_assign rfl) rfl ?_
    refine Wl_nil ?_
    refine tn ?_
    refine Wp_seq ?_
    refine Wp_seq ?_
    refine Wp_region_lit ?_
    refine W_v (.slice none ([] : List api_Event).length c0) (x_move rfl) rfl ?_
    refine W_v (.bool true) (x_eq_of rfl rfl (run_equal_slice_nil _ _ _ _ _ _ Try.underlying22)) rfl ?_
    refine Wl_nil ?_
    refine tn ?_
    refine Wp_cond_true rfl ?_
    refine Wp_seq ?_
    refine Wp_region_lit ?_
    refine W_v (.slice none 0 0) (x_assign rfl) rfl ?_
    refine Wl_nil ?_
    refine tn ?_
    refine Wp_ret ?_
    refine tr (?_)
    obtain rfl := Option.some.inj H
    replace S := S.row_nil r_api_Event 32
    exact ⟨_, _, _, fun w1 e1 => run_resR (vs := [.slice none 0 0]) (FA.cons (rfl) (FA.nil)), HM, E, S.pick [0] (by decide), ⟨none, 0, rfl, rfl⟩⟩
  | some ad =>
    refine con_of_wp Try.func46 rfl Try.ntmps46 Try.results46 rfl ?_
    intro w F rn S hrn
    have E := Ext.refl w
    have HM := Hp.le_refl M
    refine Wp_seq ?_
    refine Wp_region_lit ?_
    refine W_v (.slice none 0 0) (x_assign rfl) rfl ?_
    refine Wl_nil ?_
    refine tn ?_
    refine Wp_seq ?_
    refine Wp_seq ?_
    refine Wp_region_lit ?_
    refine W_v (.slice (some ad) a0.length c0) (x_move rfl) rfl ?_
    refine W_v (.bool false) (x_eq_of rfl rfl (run_equal_slice_nil _ _ _ _ _ _ Try.underlying22)) rfl ?_
    refine Wl_nil ?_
    refine tn ?_
    refine Wp_cond_false rfl ?_
    refine Wp_skip ?_
    refine tn ?_
    refine Wp_seq ?_
    refine Wp_region_lit ?_
    refine W_bslice S #[] Try.underlying22 ty32 rfl rfl #[] (by kernel_rfl) (by kernel_rfl) rfl ?_
    intro b2 w3 E' S
    replace E := E.trans E'
    clear E'
    replace S := S.blk_row (r := r_api_Event) (l := ([] : List api_Event)) 0 rfl 0 (Nat.le_refl 0) rfl Cells.nil
    refine W_v (.slice (some ad) a0.length c0) (x_move rfl) rfl ?_
    obtain ⟨p5, H⟩ := chkS H
    obtain ⟨src6, hs7, hC8⟩ := src_of_read (P := Try.prog) (ρ := r_api_Event) (l := a0) (SlR.world hr0 S) (by decide)
    refine W_append S 0 rfl rfl rfl Try.underlying22 (.inl Try.underlying22) ty32 rfl (by decide) (by decide) hs7 hC8 rfl (by omega) rfl ?_
    intro v9 w10 E' S
    replace E := E.trans E'
    clear E'
    obtain ⟨A11, c12, rfl, _⟩ := (S.row_read 0 rfl).form
    refine W_v (.slice A11 (([] : List api_Event) ++ a0).length c12) (x_assign rfl) rfl ?_
    refine Wl_nil ?_
    refine tn ?_
    refine Wp_ret ?_
    obtain rfl := Option.some.inj H
    exact ⟨_, _, _, fun w1 e1 => run_resR (vs := [.slice A11 (([] : List api_Event) ++ a0).length c12]) (FA.cons (rfl) (FA.nil)), HM, E, S.pick [0] (by decide), ⟨A11, c12, rfl, rfl⟩⟩
/-! ### slices.Clone[[]ferryman/api.Event,ferryman/api.Event]: function 46 -/
def slices_Clone_api_Event_api_Event_AO (k : Nat) (a0 : List api_Event) : Option (List api_Event) :=
  if ([] : List api_Event).length + a0.length ≤ 1759218604441 then some (([] : List api_Event) ++ a0) else none
set_option maxHeartbeats 2000000 in
theorem slices_Clone_api_Event_api_Event_AO.mono {k : Nat} {a0 : List api_Event} : OLe (slices_Clone_api_Event_api_Event_AO k a0) (slices_Clone_api_Event_api_Event_AO (k + 1) a0) := by
  unfold slices_Clone_api_Event_api_Event_AO
  repeat' (first | with_reducible exact OLe.none | with_reducible exact OLe.some | with_reducible refine OLe.ite ?_ ?_ | with_reducible refine OLe.bind ?_ (fun _ => ?_) | refine OLe.bind ?_ (fun _ => ?_) | refine OLe.ite ?_ ?_ | refine OLe.elim (fun _ => ?_) (fun _ => ?_) | split)
set_option maxHeartbeats 1000000 in
set_option maxRecDepth 100000 in
theorem slices_Clone_api_Event_api_Event_AO.con (k : Nat) (M : Hp) (A0 : Option Addr) (c0 : Nat) (a0 : (List api_Event)) (r : (List api_Event))  (h : slices_Clone_api_Event_api_Event_AO k a0 = some r) : Con Try.prog 46 #[.slice A0 a0.length c0] M [Row r_api_Event 32 (.slice A0 a0.length c0) a0] (fun v M' Γ' => ∃ (Aq1 : Option Addr) (cq2 : Nat), v = .slice Aq1 r.length cq2 ∧ Γ' = [Row r_api_Event 32 (.slice Aq1 r.length cq2) r, Row r_api_Event 32 (.slice A0 a0.length c0) a0]) := by
  have H := h
  unfold slices_Clone_api_Event_api_Event_AO at H
  cases A0 with
  | none =>
    refine con_of_wp Try.func46 rfl Try.ntmps46 Try.results46 rfl ?_
    intro w F rn S hrn
    have E := Ext.refl w
    have HM := Hp.le_refl M
    obtain ⟨_, H⟩ := chkS H
    obtain rfl : a0 = [] := SlW.none_nil (S.row_read 0 rfl)
    refine Wp_seq ?_
    refine Wp_region_lit ?_
    refine W_v (.slice none 0 0) (x_assign rfl) rfl ?_
    refine Wl_nil ?_
    refine tn ?_
    refine Wp_seq ?_
    refine Wp_seq ?_
    refine Wp_region_lit ?_
    refine W_v (.slice none ([] : List api_Event).length c0) (x_move rfl) rfl ?_
    refine W_v (.bool true) (x_eq_of rfl rfl (run_equal_slice_nil _ _ _ _ _ _ Try.underlying22)) rfl ?_
    refine Wl_nil ?_
    refine tn ?_
    refine Wp_cond_true rfl ?_
    refine Wp_seq ?_
    refine Wp_region_lit ?_
    refine W_v (.slice none 0 0) (x_assign rfl) rfl ?_
    refine Wl_nil ?_
    refine tn ?_
    refine Wp_ret ?_
    refine tr (?_)
    obtain rfl := Option.some.inj H
    replace S := S.row_nil r_api_Event 32
    exact ⟨_, _, _, fun w1 e1 => run_resR (vs := [.slice none ([] : List api_Event).length 0]) (FA.cons (rfl) (FA.nil)), HM, E, S.pick [0, 1] (by decide), ⟨none, 0, rfl, rfl⟩⟩
  | some ad =>
    refine con_of_wp Try.func46 rfl Try.ntmps46 Try.results46 rfl ?_
    intro w F rn S hrn
    have E := Ext.refl w
    have HM := Hp.le_refl M
    refine Wp_seq ?_
    refine Wp_region_lit ?_
    refine W_v (.slice none 0 0) (x_assign rfl) rfl ?_
    refine Wl_nil ?_
    refine tn ?_
    refine Wp_seq ?_
    refine Wp_seq ?_
    refine Wp_region_lit ?_
    refine W_v (.slice (some ad) a0.length c0) (x_move rfl) rfl ?_
    refine W_v (.bool false) (x_eq_of rfl rfl (run_equal_slice_nil _ _ _ _ _ _ Try.underlying22)) rfl ?_
    refine Wl_nil ?_
    refine tn ?_
    refine Wp_cond_false rfl ?_
    refine Wp_skip ?_
    refine tn ?_
    refine Wp_seq ?_
    refine Wp_region_lit ?_
    refine W_bslice S #[] Try.underlying22 ty32 rfl rfl #[] (by kernel_rfl) (by kernel_rfl) rfl ?_
    intro b2 w3 E' S
    replace E := E.trans E'
    clear E'
    replace S := S.blk_row (r := r_api_Event) (l := ([] : List api_Event)) 0 rfl 0 (Nat.le_refl 0) rfl Cells.nil
    refine W_v (.slice (some ad) a0.length c0) (x_move rfl) rfl ?_
    obtain ⟨p5, H⟩ := chkS H
    obtain ⟨src6, hs7, hC8⟩ := src_of_read (P := Try.prog) (ρ := r_api_Event) (l := a0) (S.row_read 1 rfl) (by decide)
    refine W_append S 0 rfl rfl rfl Try.underlying22 (.inl Try.underlying22) ty32 rfl (by decide) (by decide) hs7 hC8 rfl (by omega) rfl ?_
    intro v9 w10 E' S
    replace E := E.trans E'
    clear E'
    obtain ⟨A11, c12, rfl, _⟩ := (S.row_read 0 rfl).form
    refine W_v (.slice A11 (([] : List api_Event) ++ a0).length c12) (x_assign rfl) rfl ?_
    refine Wl_nil ?_
    refine tn ?_
    refine Wp_ret ?_
    obtain rfl := Option.some.inj H
    exact ⟨_, _, _, fun w1 e1 => run_resR (vs := [.slice A11 (([] : List api_Event) ++ a0).length c12]) (FA.cons (rfl) (FA.nil)), HM, E, S.pick [0, 1] (by decide), ⟨A11, c12, rfl, rfl⟩⟩
/-! ### (*ferryman/event.Recorder).Copy: function 29 -/
def event_Recorder_Copy_POO (k : Nat) (a0 : event_Recorder) : Option (event_Recorder) :=
  (Option.bind (slices_Clone_event_task_event_task k a0.tasks) (fun t21 => (Option.bind (slices_Clone_api_Event_api_Event_AO k a0.l) (fun t27 => some (⟨t21, t27⟩ : event_Recorder)))))
set_option maxHeartbeats 2000000 in
theorem event_Recorder_Copy_POO.mono {k : Nat} {a0 : event_Recorder} : OLe (event_Recorder_Copy_POO k a0) (event_Recorder_Copy_POO (k + 1) a0) := by
  unfold event_Recorder_Copy_POO
  repeat' (first | with_reducible exact OLe.none | with_reducible exact OLe.some | with_reducible refine OLe.ite ?_ ?_ | with_reducible refine OLe.bind ?_ (fun _ => ?_) | with_reducible exact slices_Clone_api_Event_api_Event_AO.mono | with_reducible exact slices_Clone_event_task_event_task.mono | refine OLe.bind ?_ (fun _ => ?_) | refine OLe.ite ?_ ?_ | refine OLe.elim (fun _ => ?_) (fun _ => ?_) | split)
set_option maxHeartbeats 1000000 in
set_option maxRecDepth 100000 in
theorem event_Recorder_Copy_POO.con (k : Nat) (M : Hp) (A0_0 : Option Addr) (c0_0 : Nat) (A0_1 : Option Addr) (c0_1 : Nat) (a0 : event_Recorder) (bo0 : Nat) (r : event_Recorder)  (h : event_Recorder_Copy_POO k a0 = some r) : Con Try.prog 29 #[.pointer (some ⟨bo0, 0, none⟩)] M [Blk bo0 (.cells #[.slice A0_0 a0.tasks.length c0_0, .slice A0_1 a0.l.length c0_1] 73 (0, 0)), Row r_event_task 70 (.slice A0_0 a0.tasks.length c0_0) a0.tasks, Row r_api_Event 32 (.slice A0_1 a0.l.length c0_1) a0.l] (fun v M' Γ' => ∃ (bq1 : Nat) (Aq3 : Option Addr) (cq4 : Nat) (Aq6 : Option Addr) (cq7 : Nat), v = .pointer (some ⟨bq1, 0, none⟩) ∧ Γ' = [Blk bq1 (.cells #[.slice Aq3 r.tasks.length cq4, .slice Aq6 r.l.length cq7] 73 (0, 0)), Row r_event_task 70 (.slice Aq3 r.tasks.length cq4) r.tasks, Row r_api_Event 32 (.slice Aq6 r.l.length cq7) r.l, Blk bo0 (.cells #[.slice A0_0 a0.tasks.length c0_0, .slice A0_1 a0.l.length c0_1] 73 (0, 0)), Row r_event_task 70 (.slice A0_0 a0.tasks.length c0_0) a0.tasks, Row r_api_Event 32 (.slice A0_1 a0.l.length c0_1) a0.l]) := by
  refine con_of_wp Try.func29 rfl Try.ntmps29 Try.results29 rfl ?_
  intro w F rn S hrn
  have E := Ext.refl w
  have HM := Hp.le_refl M
  have H := h
  unfold event_Recorder_Copy_POO at H
  refine Wp_seq ?_
  refine Wp_region_lit ?_
  refine W_v (.pointer none) (x_assign rfl) rfl ?_
  refine Wl_nil ?_
  refine tn ?_
  refine Wp_seq ?_
  refine Wp_seq ?_
  refine Wp_region_lit ?_
  refine W_v (.pointer (some ⟨bo0, 0, none⟩)) (x_move rfl) rfl ?_
  refine W_v (.bool false) (x_eq_of (r := false) rfl rfl (run_eq_ptrsn Try.underlying36)) rfl ?_
  refine Wl_nil ?_
  refine tn ?_
  refine Wp_cond_false rfl ?_
  refine Wp_skip ?_
  refine tn ?_
  refine Wp_seq ?_
  have LE18 := Hp.le_refl M
  refine Wp_region_any (S := fun w' => ∃ Mx, M.le Mx ∧ St w' Mx F [Blk bo0 (.cells #[.slice A0_0 a0.tasks.length c0_0, .slice A0_1 a0.l.length c0_1] 73 (0, 0)), Row r_event_task 70 (.slice A0_0 a0.tasks.length c0_0) a0.tasks, Row r_api_Event 32 (.slice A0_1 a0.l.length c0_1) a0.l]) (L := 13) mixed ?_
  intro w19 hw20 E'
  replace S := S.heap hw20
  replace E := E.trans E'
  clear E'
  refine Wa_take (i := 0) rfl (by kernel_rfl) rfl rfl (.pointer (some ⟨bo0, 0, none⟩)) rfl (fun w' h' => x_move rfl) (⟨M, Hp.le_refl M, (S.pick [0, 1, 2] (by decide))⟩) ?_
  refine Wa_take (i := 1) rfl (by kernel_rfl) rfl rfl (.pointer (some ⟨bo0, 0, none⟩)) rfl (fun w' h' => x_nilptr rfl) (⟨M, Hp.le_refl M, (S.pick [0, 1, 2] (by decide))⟩) ?_
  refine Wa_take (i := 2) rfl (by kernel_rfl) rfl rfl (.pointer (some ⟨bo0, 0, none⟩)) rfl (fun w' h' => x_fieldAddr (o := 0) (off := 0) Try.underlying73 rfl ty71 rfl rfl) (⟨M, Hp.le_refl M, (S.pick [0, 1, 2] (by decide))⟩) ?_
  refine Wa_take (i := 3) rfl (by kernel_rfl) rfl rfl (.slice A0_0 a0.tasks.length c0_0) rfl (fun w' h' => x_load (cls_blk h' 0 rfl) ty71 rfl rfl) (⟨M, Hp.le_refl M, (S.pick [0, 1, 2] (by decide))⟩) ?_
  refine Wa_take (i := 5) rfl (by kernel_rfl) rfl rfl (.pointer (some ⟨bo0, 0, none⟩)) rfl (fun w' h' => x_move rfl) (⟨M, Hp.le_refl M, (S.pick [0, 1, 2] (by decide))⟩) ?_
  refine Wa_take (i := 6) rfl (by kernel_rfl) rfl rfl (.pointer (some ⟨bo0, 0, none⟩)) rfl (fun w' h' => x_nilptr rfl) (⟨M, Hp.le_refl M, (S.pick [0, 1, 2] (by decide))⟩) ?_
  refine Wa_take (i := 7) rfl (by kernel_rfl) rfl rfl (.pointer (some ⟨bo0, 1, none⟩)) rfl (fun w' h' => x_fieldAddr (o := 0) (off := 1) Try.underlying73 rfl ty22 rfl rfl) (⟨M, Hp.le_refl M, (S.pick [0, 1, 2] (by decide))⟩) ?_
  refine Wa_take (i := 8) rfl (by kernel_rfl) rfl rfl (.slice A0_1 a0.l.length c0_1) rfl (fun w' h' => x_load (cls_blk h' 0 rfl) ty22 rfl rfl) (⟨M, Hp.le_refl M, (S.pick [0, 1, 2] (by decide))⟩) ?_
  refine Wa_solo (i := 4) rfl (by kernel_rfl) ?_
  replace S : St w19 M F [Row r_event_task 70 (.slice A0_0 a0.tasks.length c0_0) a0.tasks, Blk bo0 (.cells #[.slice A0_0 a0.tasks.length c0_0, .slice A0_1 a0.l.length c0_1] 73 (0, 0)), Row r_api_Event 32 (.slice A0_1 a0.l.length c0_1) a0.l] := S.pick [1, 0, 2] (by decide)
  obtain ⟨t21, ht22, H⟩ := bindS H
  refine W_callN 1 fn45 (fun h9 hs9 hd9 => slices_Clone_event_task_event_task.con k _ A0_0 c0_0 a0.tasks t21 (Sats.row hs9 hd9 0 rfl) ht22) S rfl rfl (by rintro _ _ _ ⟨_, _, _, rfl⟩; exact (flat_cons (flat_row (fun _ _ _ _ h => h)) flat_nil)) ?_
  rintro _ w26 _ Γ' E' S ⟨A23, c24, rfl, rfl⟩
  replace E := E.trans E'
  clear E'
  refine Wl_nil (on_n ⟨.inr ⟨M, Hp.le_refl M, (S.pick [2, 1, 3] (by decide))⟩, ?_⟩)
  refine Wa_solo (i := 9) rfl (by kernel_rfl) ?_
  obtain ⟨t27, ht28, H⟩ := bindS H
  replace S : St w26 M F [Row r_api_Event 32 (.slice A0_1 a0.l.length c0_1) a0.l, Row r_event_task 70 (.slice A23 t21.length c24) t21, Row r_event_task 70 (.slice A0_0 a0.tasks.length c0_0) a0.tasks, Blk bo0 (.cells #[.slice A0_0 a0.tasks.length c0_0, .slice A0_1 a0.l.length c0_1] 73 (0, 0))] := S.pick [3, 0, 1, 2] (by decide)
  refine W_call fn46 (slices_Clone_api_Event_api_Event_AO.con k M A0_1 c0_1 a0.l t27  ht28) (Γ1 := [Row r_api_Event 32 (.slice A0_1 a0.l.length c0_1) a0.l]) (Γ2 := [Row r_event_task 70 (.slice A23 t21.length c24) t21, Row r_event_task 70 (.slice A0_0 a0.tasks.length c0_0) a0.tasks, Blk bo0 (.cells #[.slice A0_0 a0.tasks.length c0_0, .slice A0_1 a0.l.length c0_1] 73 (0, 0))]) S rfl rfl ?_
  rintro _ w32 M33 Γ' hM34 E' S ⟨A29, c30, rfl, rfl⟩
  replace HM := Hp.le_trans HM hM34
  replace LE18 := Hp.le_trans LE18 hM34
  replace E := E.trans E'
  clear E'
  replace S : St w32 M33 F [Row r_api_Event 32 (.slice A29 t27.length c30) t27, Row r_api_Event 32 (.slice A0_1 a0.l.length c0_1) a0.l, Row r_event_task 70 (.slice A23 t21.length c24) t21, Row r_event_task 70 (.slice A0_0 a0.tasks.length c0_0) a0.tasks, Blk bo0 (.cells #[.slice A0_0 a0.tasks.length c0_0, .slice A0_1 a0.l.length c0_1] 73 (0, 0))] := S
  refine Wl_nil (on_n ⟨.inr ⟨M33, LE18, (S.pick [4, 3, 1] (by decide))⟩, ?_⟩)
  refine Wa_take (i := 10) rfl (by kernel_rfl) rfl rfl (.agg #[.slice A23 t21.length c24, .slice A29 t27.length c30]) rfl (fun w' h' => x_build2 (pl := [(0, 1), (1, 1)]) #[.slice A23 t21.length c24, .slice A29 t27.length c30] Try.underlying73 ty73 (by kernel_rfl) rfl (by kernel_rfl)) (⟨M33, LE18, (S.pick [4, 3, 1] (by decide))⟩) ?_
  refine Wa_solo (i := 11) rfl (by kernel_rfl) ?_
  refine W_box S #[.slice A23 t21.length c24, .slice A29 t27.length c30] rfl rfl rfl ?_
  intro b35 w36 E' S
  replace E := E.trans E'
  clear E'
  refine Wl_nil (on_n ⟨.inr ⟨M33, LE18, (S.pick [5, 4, 2] (by decide))⟩, ?_⟩)
  refine Wa_take (i := 12) rfl (by kernel_rfl) rfl rfl (.pointer (some ⟨b35, 0, none⟩)) rfl (fun w' h' => x_assign rfl) (⟨M33, LE18, (S.pick [5, 4, 2] (by decide))⟩) ?_
  refine Wa_done (by kernel_rfl) ?_
  refine tn ?_
  refine Wp_ret ?_
  obtain rfl := Option.some.inj H
  exact ⟨_, _, _, fun w1 e1 => run_resR (vs := [.pointer (some ⟨b35, 0, none⟩)]) (FA.cons (rfl) (FA.nil)), HM, E, S.pick [0, 3, 1, 5, 4, 2] (by decide), ⟨b35, A23, c24, A29, c30, rfl, rfl⟩⟩
/-! ### (*ferryman/event.Recorder).Under: function 20 -/
def event_Recorder_Under_Z (k : Nat) (a1 : Int) : Option (Int × Bool × Bool) :=
  some ((0 : Int), false, false)
set_option maxHeartbeats 2000000 in
theorem event_Recorder_Under_Z.mono {k : Nat} {a1 : Int} : OLe (event_Recorder_Under_Z k a1) (event_Recorder_Under_Z (k + 1) a1) := by
  unfold event_Recorder_Under_Z
  repeat' (first | with_reducible exact OLe.none | with_reducible exact OLe.some | with_reducible refine OLe.ite ?_ ?_ | with_reducible refine OLe.bind ?_ (fun _ => ?_) | refine OLe.bind ?_ (fun _ => ?_) | refine OLe.ite ?_ ?_ | refine OLe.elim (fun _ => ?_) (fun _ => ?_) | split)
set_option maxHeartbeats 1000000 in
set_option maxRecDepth 100000 in
theorem event_Recorder_Under_Z.con (k : Nat) (M : Hp) (a1 : Int) (r : Int × Bool × Bool)  (h : event_Recorder_Under_Z k a1 = some r) : Con Try.prog 20 #[.pointer none, .int .i64 a1] M [] (fun v M' Γ' => v = .tuple #[.int .i64 r.1, .bool r.2.1, .bool r.2.2] ∧ Γ' = []) := by
  refine con_of_wp Try.func20 rfl Try.ntmps20 Try.results20 rfl ?_
  intro w F rn S hrn
  have E := Ext.refl w
  have HM := Hp.le_refl M
  have H := h
  unfold event_Recorder_Under_Z at H
  refine Wp_seq ?_
  refine Wp_region_lit ?_
  refine W_v (.int .i64 0) (x_assign rfl) rfl ?_
  refine W_v (.bool false) (x_assign rfl) rfl ?_
  refine W_v (.bool false) (x_assign rfl) rfl ?_
  refine Wl_nil ?_
  refine tn ?_
  refine Wp_seq ?_
  refine Wp_seq ?_
  refine Wp_region_lit ?_
  refine W_v (.pointer none) (x_move rfl) rfl ?_
  refine W_v (.bool true) (x_eq_of (r := true) rfl rfl (run_eq_ptrnn Try.underlying36)) rfl ?_
  refine W_v (.bool true) (x_move rfl) rfl ?_
  refine W_no (rfl) rfl ?_
  refine W_no (rfl) rfl ?_
  refine W_v (.bool true) (x_pick (k := true) rfl rfl) rfl ?_
  refine W_v (.bool true) (x_move rfl) rfl ?_
  refine W_no (rfl) rfl ?_
  refine W_no (rfl) rfl ?_
  refine W_no (rfl) rfl ?_
  refine W_no (rfl) rfl ?_
  refine W_no (rfl) rfl ?_
  refine W_no (rfl) rfl ?_
  refine W_no (rfl) rfl ?_
  refine W_v (.bool true) (x_pick (k := true) rfl rfl) rfl ?_
  refine W_v (.bool true) (x_move rfl) rfl ?_
  refine W_no (rfl) rfl ?_
  refine W_no (rfl) rfl ?_
  refine W_no (rfl) rfl ?_
  refine W_no (rfl) rfl ?_
  refine W_no (rfl) rfl ?_
  refine W_no (rfl) rfl ?_
  refine W_no (rfl) rfl ?_
  refine W_no (rfl) rfl ?_
  refine W_no (rfl) rfl ?_
  refine W_v (.bool true) (x_pick (k := true) rfl rfl) rfl ?_
  refine Wl_nil ?_
  refine tn ?_
  refine Wp_cond_true rfl ?_
  refine Wp_seq ?_
  refine Wp_region_lit ?_
  refine W_v (.int .i64 0) (x_assign rfl) rfl ?_
  refine W_v (.bool false) (x_assign rfl) rfl ?_
  refine W_v (.bool false) (x_assign rfl) rfl ?_
  refine Wl_nil ?_
  refine tn ?_
  refine Wp_ret ?_
  refine tr (?_)
  obtain rfl := Option.some.inj H
  exact ⟨_, _, _, fun w1 e1 => run_resR (vs := [.int .i64 0, .bool false, .bool false]) (FA.cons (rfl) (FA.cons (rfl) (FA.cons (rfl) (FA.nil)))), HM, E, S.pick [] (by decide), ⟨rfl, rfl⟩⟩
/-! ### (*ferryman/event.Recorder).put: function 34 -/
def event_Recorder_put_Z (k : Nat) (a1 : Int) (a2 : Int) (a3 : api_Event) : Option (Int) :=
  some (2 : Int)
set_option maxHeartbeats 2000000 in
theorem event_Recorder_put_Z.mono {k : Nat} {a1 : Int} {a2 : Int} {a3 : api_Event} : OLe (event_Recorder_put_Z k a1 a2 a3) (event_Recorder_put_Z (k + 1) a1 a2 a3) := by
  unfold event_Recorder_put_Z
  repeat' (first | with_reducible exact OLe.none | with_reducible exact OLe.some | with_reducible refine OLe.ite ?_ ?_ | with_reducible refine OLe.bind ?_ (fun _ => ?_) | refine OLe.bind ?_ (fun _ => ?_) | refine OLe.ite ?_ ?_ | refine OLe.elim (fun _ => ?_) (fun _ => ?_) | split)
set_option maxHeartbeats 1000000 in
set_option maxRecDepth 100000 in
theorem event_Recorder_put_Z.con (k : Nat) (M : Hp) (a1 : Int) (a2 : Int) (A3_0 : Option Addr) (c3_0 : Nat) (a3 : api_Event) (r : Int) (hr3_0 : SlR r_api_Pair M (.slice A3_0 a3.Answer.Pairs.length c3_0) a3.Answer.Pairs) (h : event_Recorder_put_Z k a1 a2 a3 = some r) : Con Try.prog 34 #[.pointer none, .int .i64 a1, .int .i64 a2, .agg #[.int .u8 a3.What, .int .i64 a3.Task, .int .i64 a3.Call, .int .i64 a3.Answer.Err, .bool a3.Answer.Found, .string (bs a3.Answer.Value), .slice A3_0 a3.Answer.Pairs.length c3_0]] M [] (fun v M' Γ' => v = .int .i64 r ∧ Γ' = []) := by
  refine con_of_wp Try.func34 rfl Try.ntmps34 Try.results34 rfl ?_
  intro w F rn S hrn
  have E := Ext.refl w
  have HM := Hp.le_refl M
  have H := h
  unfold event_Recorder_put_Z at H
  refine Wp_seq ?_
  refine Wp_region_lit ?_
  refine W_box S #[.int .u8 a3.What, .int .i64 a3.Task, .int .i64 a3.Call, .int .i64 a3.Answer.Err, .bool a3.Answer.Found, .string (bs a3.Answer.Value), .slice A3_0 a3.Answer.Pairs.length c3_0] rfl rfl rfl ?_
  intro b1 w2 E' S
  replace E := E.trans E'
  clear E'
  refine W_v (.int .i64 0) (x_assign rfl) rfl ?_
  refine Wl_nil ?_
  refine tn ?_
  refine Wp_seq ?_
  refine Wp_block ?_
  refine Wp_seq ?_
  refine Wp_region_lit ?_
  refine W_v (.pointer none) (x_move rfl) rfl ?_
  refine W_v (.bool true) (x_eq_of (r := true) rfl rfl (run_eq_ptrnn Try.underlying36)) rfl ?_
  refine W_v (.bool true) (x_assign rfl) rfl ?_
  refine Wl_nil ?_
  refine tn ?_
  refine Wp_cond_true rfl ?_
  refine Wp_seq ?_
  refine Wp_region_lit ?_
  refine W_v (.int .i64 2) (x_assign rfl) rfl ?_
  refine Wl_nil ?_
  refine tn ?_
  refine Wp_ret ?_
  refine br (tr (?_))
  obtain rfl := Option.some.inj H
  exact ⟨_, _, _, fun w1 e1 => run_resR (vs := [.int .i64 2]) (FA.cons (rfl) (FA.nil)), HM, E, S.pick [] (by decide), ⟨rfl, rfl⟩⟩
/-! ### (*ferryman/event.Recorder).Invoke: function 30 -/
def event_Recorder_Invoke_Z (k : Nat) (a1 : Int) : Option (Int) :=
  (Option.bind (event_Recorder_put_Z k a1 (0 : Int) (⟨(1 : Int), (0 : Int), (0 : Int), ⟨(0 : Int), false, ([] : Str), ([] : (List api_Pair))⟩⟩ : api_Event)) (fun t1 => some t1))
set_option maxHeartbeats 2000000 in
theorem event_Recorder_Invoke_Z.mono {k : Nat} {a1 : Int} : OLe (event_Recorder_Invoke_Z k a1) (event_Recorder_Invoke_Z (k + 1) a1) := by
  unfold event_Recorder_Invoke_Z
  repeat' (first | with_reducible exact OLe.none | with_reducible exact OLe.some | with_reducible refine OLe.ite ?_ ?_ | with_reducible refine OLe.bind ?_ (fun _ => ?_) | with_reducible exact event_Recorder_put_Z.mono | refine OLe.bind ?_ (fun _ => ?_) | refine OLe.ite ?_ ?_ | refine OLe.elim (fun _ => ?_) (fun _ => ?_) | split)
set_option maxHeartbeats 1000000 in
set_option maxRecDepth 100000 in
theorem event_Recorder_Invoke_Z.con (k : Nat) (M : Hp) (a1 : Int) (r : Int)  (h : event_Recorder_Invoke_Z k a1 = some r) : Con Try.prog 30 #[.pointer none, .int .i64 a1] M [] (fun v M' Γ' => v = .int .i64 r ∧ Γ' = []) := by
  refine con_of_wp Try.func30 rfl Try.ntmps30 Try.results30 rfl ?_
  intro w F rn S hrn
  have E := Ext.refl w
  have HM := Hp.le_refl M
  have H := h
  unfold event_Recorder_Invoke_Z at H
  refine Wp_seq ?_
  refine Wp_region_lit ?_
  refine W_v (.int .i64 0) (x_assign rfl) rfl ?_
  refine Wl_nil ?_
  refine tn ?_
  refine Wp_seq ?_
  refine Wp_region_lit ?_
  refine W_v (.pointer none) (x_move rfl) rfl ?_
  refine W_v (.int .i64 a1) (x_move rfl) rfl ?_
  refine W_v (.agg #[.int .u8 1, .int .i64 0, .int .i64 0, .int .i64 0, .bool false, .string (bs ([] : Str)), .slice none 0 0]) (x_build2 (pl := [(0, 1), (1, 1), (2, 1), (3, 4)]) #[.int .u8 1, .int .i64 0, .int .i64 0, .int .i64 0, .bool false, .string (bs ([] : Str)), .slice none 0 0] Try.underlying32 ty32 (by kernel_rfl) rfl (by kernel_rfl)) rfl ?_
  obtain ⟨t1, ht2, H⟩ := bindS H
  refine W_callF2 fn34 (event_Recorder_put_Z.con k M a1 (0 : Int) none 0 (⟨(1 : Int), (0 : Int), (0 : Int), ⟨(0 : Int), false, ([] : Str), ([] : (List api_Pair))⟩⟩ : api_Event) t1 (SlW.nil _ _) ht2) (Γ1 := []) (Γ2 := []) S rfl rfl (by rintro _ _ _ ⟨rfl, rfl⟩; exact flat_nil) ?_
  rintro _ w3 _ Γ' E' S ⟨rfl, rfl⟩
  replace E := E.trans E'
  clear E'
  replace S : St w3 M F [] := S
  refine W_v (.int .i64 t1) (x_assign rfl) rfl ?_
  refine Wl_nil ?_
  refine tn ?_
  refine Wp_ret ?_
  obtain rfl := Option.some.inj H
  exact ⟨_, _, _, fun w1 e1 => run_resR (vs := [.int .i64 t1]) (FA.cons (rfl) (FA.nil)), HM, E, S.pick [] (by decide), ⟨rfl, rfl⟩⟩
/-! ### (*ferryman/event.Recorder).Mark: function 31 -/
def event_Recorder_Mark_Z (k : Nat) (a1 : Int) : Option (Int) :=
  (Option.bind (event_Recorder_put_Z k a1 (1 : Int) (⟨(2 : Int), (0 : Int), (0 : Int), ⟨(0 : Int), false, ([] : Str), ([] : (List api_Pair))⟩⟩ : api_Event)) (fun t1 => some t1))
set_option maxHeartbeats 2000000 in
theorem event_Recorder_Mark_Z.mono {k : Nat} {a1 : Int} : OLe (event_Recorder_Mark_Z k a1) (event_Recorder_Mark_Z (k + 1) a1) := by
  unfold event_Recorder_Mark_Z
  repeat' (first | with_reducible exact OLe.none | with_reducible exact OLe.some | with_reducible refine OLe.ite ?_ ?_ | with_reducible refine OLe.bind ?_ (fun _ => ?_) | with_reducible exact event_Recorder_put_Z.mono | refine OLe.bind ?_ (fun _ => ?_) | refine OLe.ite ?_ ?_ | refine OLe.elim (fun _ => ?_) (fun _ => ?_) | split)
set_option maxHeartbeats 1000000 in
set_option maxRecDepth 100000 in
theorem event_Recorder_Mark_Z.con (k : Nat) (M : Hp) (a1 : Int) (r : Int)  (h : event_Recorder_Mark_Z k a1 = some r) : Con Try.prog 31 #[.pointer none, .int .i64 a1] M [] (fun v M' Γ' => v = .int .i64 r ∧ Γ' = []) := by
  refine con_of_wp Try.func31 rfl Try.ntmps31 Try.results31 rfl ?_
  intro w F rn S hrn
  have E := Ext.refl w
  have HM := Hp.le_refl M
  have H := h
  unfold event_Recorder_Mark_Z at H
  refine Wp_seq ?_
  refine Wp_region_lit ?_
  refine W_v (.int .i64 0) (x_assign rfl) rfl ?_
  refine Wl_nil ?_
  refine tn ?_
  refine Wp_seq ?_
  refine Wp_region_lit ?_
  refine W_v (.pointer none) (x_move rfl) rfl ?_
  refine W_v (.int .i64 a1) (x_move rfl) rfl ?_
  refine W_v (.agg #[.int .u8 2, .int .i64 0, .int .i64 0, .int .i64 0, .bool false, .string (bs ([] : Str)), .slice none 0 0]) (x_build2 (pl := [(0, 1), (1, 1), (2, 1), (3, 4)]) #[.int .u8 2, .int .i64 0, .int .i64 0, .int .i64 0, .bool false, .string (bs ([] : Str)), .slice none 0 0] Try.underlying32 ty32 (by kernel_rfl) rfl (by kernel_rfl)) rfl ?_
  obtain ⟨t1, ht2, H⟩ := bindS H
  refine W_callF2 fn34 (event_Recorder_put_Z.con k M a1 (1 : Int) none 0 (⟨(2 : Int), (0 : Int), (0 : Int), ⟨(0 : Int), false, ([] : Str), ([] : (List api_Pair))⟩⟩ : api_Event) t1 (SlW.nil _ _) ht2) (Γ1 := []) (Γ2 := []) S rfl rfl (by rintro _ _ _ ⟨rfl, rfl⟩; exact flat_nil) ?_
  rintro _ w3 _ Γ' E' S ⟨rfl, rfl⟩
  replace E := E.trans E'
  clear E'
  replace S : St w3 M F [] := S
  refine W_v (.int .i64 t1) (x_assign rfl) rfl ?_
  refine Wl_nil ?_
  refine tn ?_
  refine Wp_ret ?_
  obtain rfl := Option.some.inj H
  exact ⟨_, _, _, fun w1 e1 => run_resR (vs := [.int .i64 t1]) (FA.cons (rfl) (FA.nil)), HM, E, S.pick [] (by decide), ⟨rfl, rfl⟩⟩
/-! ### (*ferryman/event.Recorder).Return: function 32 -/
def event_Recorder_Return_Z (k : Nat) (a1 : Int) (a2 : api_Answer) : Option (Int) :=
  (Option.bind (event_Recorder_put_Z k a1 (2 : Int) (⟨(3 : Int), (0 : Int), (0 : Int), ⟨a2.Err, a2.Found, a2.Value, a2.Pairs⟩⟩ : api_Event)) (fun t4 => some t4))
set_option maxHeartbeats 2000000 in
theorem event_Recorder_Return_Z.mono {k : Nat} {a1 : Int} {a2 : api_Answer} : OLe (event_Recorder_Return_Z k a1 a2) (event_Recorder_Return_Z (k + 1) a1 a2) := by
  unfold event_Recorder_Return_Z
  repeat' (first | with_reducible exact OLe.none | with_reducible exact OLe.some | with_reducible refine OLe.ite ?_ ?_ | with_reducible refine OLe.bind ?_ (fun _ => ?_) | with_reducible exact event_Recorder_put_Z.mono | refine OLe.bind ?_ (fun _ => ?_) | refine OLe.ite ?_ ?_ | refine OLe.elim (fun _ => ?_) (fun _ => ?_) | split)
set_option maxHeartbeats 1000000 in
set_option maxRecDepth 100000 in
theorem event_Recorder_Return_Z.con (k : Nat) (M : Hp) (a1 : Int) (A2_0 : Option Addr) (c2_0 : Nat) (a2 : api_Answer) (r : Int) (hr2_0 : SlR r_api_Pair M (.slice A2_0 a2.Pairs.length c2_0) a2.Pairs) (h : event_Recorder_Return_Z k a1 a2 = some r) : Con Try.prog 32 #[.pointer none, .int .i64 a1, .agg #[.int .i64 a2.Err, .bool a2.Found, .string (bs a2.Value), .slice A2_0 a2.Pairs.length c2_0]] M [] (fun v M' Γ' => v = .int .i64 r ∧ Γ' = []) := by
  refine con_of_wp Try.func32 rfl Try.ntmps32 Try.results32 rfl ?_
  intro w F rn S hrn
  have E := Ext.refl w
  have HM := Hp.le_refl M
  have H := h
  unfold event_Recorder_Return_Z at H
  refine Wp_seq ?_
  refine Wp_region_lit ?_
  refine W_box S #[.int .i64 a2.Err, .bool a2.Found, .string (bs a2.Value), .slice A2_0 a2.Pairs.length c2_0] rfl rfl rfl ?_
  intro b1 w2 E' S
  replace E := E.trans E'
  clear E'
  refine W_v (.int .i64 0) (x_assign rfl) rfl ?_
  refine Wl_nil ?_
  refine tn ?_
  refine Wp_seq ?_
  refine Wp_region_lit ?_
  refine W_v (.pointer none) (x_move rfl) rfl ?_
  refine W_v (.int .i64 a1) (x_move rfl) rfl ?_
  refine W_v (.agg #[.int .i64 a2.Err, .bool a2.Found, .string (bs a2.Value), .slice A2_0 a2.Pairs.length c2_0]) (x_loadA (S.blk 0 rfl) ty30 rfl (sub_of_extract rfl) rfl rfl) rfl ?_
  refine W_v (.agg #[.int .u8 3, .int .i64 0, .int .i64 0, .int .i64 a2.Err, .bool a2.Found, .string (bs a2.Value), .slice A2_0 a2.Pairs.length c2_0]) (x_build2 (pl := [(0, 1), (1, 1), (2, 1), (3, 4)]) #[.int .u8 3, .int .i64 0, .int .i64 0, .int .i64 a2.Err, .bool a2.Found, .string (bs a2.Value), .slice A2_0 a2.Pairs.length c2_0] Try.underlying32 ty32 (by kernel_rfl) rfl (by kernel_rfl)) rfl ?_
  obtain ⟨t4, ht5, H⟩ := bindS H
  refine W_callF2 fn34 (event_Recorder_put_Z.con k M a1 (2 : Int) A2_0 c2_0 (⟨(3 : Int), (0 : Int), (0 : Int), ⟨a2.Err, a2.Found, a2.Value, a2.Pairs⟩⟩ : api_Event) t4 hr2_0 ht5) (Γ1 := []) (Γ2 := [Blk b1 (.cells #[.int .i64 a2.Err, .bool a2.Found, .string (bs a2.Value), .slice A2_0 a2.Pairs.length c2_0] 30 (0, 0))]) S rfl rfl (by rintro _ _ _ ⟨rfl, rfl⟩; exact flat_nil) ?_
  rintro _ w6 _ Γ' E' S ⟨rfl, rfl⟩
  replace E := E.trans E'
  clear E'
  replace S : St w6 M F [Blk b1 (.cells #[.int .i64 a2.Err, .bool a2.Found, .string (bs a2.Value), .slice A2_0 a2.Pairs.length c2_0] 30 (0, 0))] := S
  refine W_v (.int .i64 t4) (x_assign rfl) rfl ?_
  refine Wl_nil ?_
  refine tn ?_
  refine Wp_ret ?_
  obtain rfl := Option.some.inj H
  exact ⟨_, _, _, fun w1 e1 => run_resR (vs := [.int .i64 t4]) (FA.cons (rfl) (FA.nil)), HM, E, S.pick [] (by decide), ⟨rfl, rfl⟩⟩
/-! ### (*ferryman/event.Recorder).Events: function 19 -/
def event_Recorder_Events_Z (k : Nat)  : Option ((List api_Event)) :=
  some ([] : List api_Event)
set_option maxHeartbeats 2000000 in
theorem event_Recorder_Events_Z.mono {k : Nat}  : OLe (event_Recorder_Events_Z k ) (event_Recorder_Events_Z (k + 1) ) := by
  unfold event_Recorder_Events_Z
  repeat' (first | with_reducible exact OLe.none | with_reducible exact OLe.some | with_reducible refine OLe.ite ?_ ?_ | with_reducible refine OLe.bind ?_ (fun _ => ?_) | refine OLe.bind ?_ (fun _ => ?_) | refine OLe.ite ?_ ?_ | refine OLe.elim (fun _ => ?_) (fun _ => ?_) | split)
set_option maxHeartbeats 1000000 in
set_option maxRecDepth 100000 in
theorem event_Recorder_Events_Z.con (k : Nat) (M : Hp)  (r : (List api_Event))  (h : event_Recorder_Events_Z k  = some r) : Con Try.prog 19 #[.pointer none] M [] (fun v M' Γ' => ∃ (Aq1 : Option Addr) (cq2 : Nat), v = .slice Aq1 r.length cq2 ∧ Γ' = [Row r_api_Event 32 (.slice Aq1 r.length cq2) r]) := by
  refine con_of_wp Try.func19 rfl Try.ntmps19 Try.results19 rfl ?_
  intro w F rn S hrn
  have E := Ext.refl w
  have HM := Hp.le_refl M
  have H := h
  unfold event_Recorder_Events_Z at H
  refine Wp_seq ?_
  refine Wp_region_lit ?_
  refine W_v (.slice none 0 0) (x_assign rfl) rfl ?_
  refine Wl_nil ?_
  refine tn ?_
  refine Wp_seq ?_
  refine Wp_seq ?_
  refine Wp_region_lit ?_
  refine W_v (.pointer none) (x_move rfl) rfl ?_
  refine W_v (.bool true) (x_eq_of (r := true) rfl rfl (run_eq_ptrnn Try.underlying36)) rfl ?_
  refine Wl_nil ?_
  refine tn ?_
  refine Wp_cond_true rfl ?_
  refine Wp_seq ?_
  refine Wp_region_lit ?_
  refine W_v (.slice none 0 0) (x_assign rfl) rfl ?_
  refine Wl_nil ?_
  refine tn ?_
  refine Wp_ret ?_
  refine tr (?_)
  obtain rfl := Option.some.inj H
  replace S := S.row_nil r_api_Event 32
  exact ⟨_, _, _, fun w1 e1 => run_resR (vs := [.slice none ([] : List api_Event).length 0]) (FA.cons (rfl) (FA.nil)), HM, E, S.pick [0] (by decide), ⟨none, 0, rfl, rfl⟩⟩
/-! ### (*ferryman/event.Recorder).Copy: function 29 -/
def event_Recorder_Copy_Z (k : Nat)  : Option (Unit) :=
  some ()
set_option maxHeartbeats 2000000 in
theorem event_Recorder_Copy_Z.mono {k : Nat}  : OLe (event_Recorder_Copy_Z k ) (event_Recorder_Copy_Z (k + 1) ) := by
  unfold event_Recorder_Copy_Z
  repeat' (first | with_reducible exact OLe.none | with_reducible exact OLe.some | with_reducible refine OLe.ite ?_ ?_ | with_reducible refine OLe.bind ?_ (fun _ => ?_) | refine OLe.bind ?_ (fun _ => ?_) | refine OLe.ite ?_ ?_ | refine OLe.elim (fun _ => ?_) (fun _ => ?_) | split)
set_option maxHeartbeats 1000000 in
set_option maxRecDepth 100000 in
theorem event_Recorder_Copy_Z.con (k : Nat) (M : Hp)  (r : Unit)  (h : event_Recorder_Copy_Z k  = some r) : Con Try.prog 29 #[.pointer none] M [] (fun v M' Γ' => v = .pointer none ∧ Γ' = []) := by
  refine con_of_wp Try.func29 rfl Try.ntmps29 Try.results29 rfl ?_
  intro w F rn S hrn
  have E := Ext.refl w
  have HM := Hp.le_refl M
  have H := h
  unfold event_Recorder_Copy_Z at H
  refine Wp_seq ?_
  refine Wp_region_lit ?_
  refine W_v (.pointer none) (x_assign rfl) rfl ?_
  refine Wl_nil ?_
  refine tn ?_
  refine Wp_seq ?_
  refine Wp_seq ?_
  refine Wp_region_lit ?_
  refine W_v (.pointer none) (x_move rfl) rfl ?_
  refine W_v (.bool true) (x_eq_of (r := true) rfl rfl (run_eq_ptrnn Try.underlying36)) rfl ?_
  refine Wl_nil ?_
  refine tn ?_
  refine Wp_cond_true rfl ?_
  refine Wp_seq ?_
  refine Wp_region_lit ?_
  refine W_v (.pointer none) (x_assign rfl) rfl ?_
  refine Wl_nil ?_
  refine tn ?_
  refine Wp_ret ?_
  refine tr (?_)
  obtain rfl := Option.some.inj H
  exact ⟨_, _, _, fun w1 e1 => run_resR (vs := [.pointer none]) (FA.cons (rfl) (FA.nil)), HM, E, S.pick [] (by decide), ⟨rfl, rfl⟩⟩
/-! ### (*ferryman/event.Recorder).Under: function 20 -/
def event_Recorder_Under_POO (k : Nat) (a0 : event_Recorder) (a1 : Int) : Option (Int × Bool × Bool) :=
  (Option.bind (α := Bool) (if ((decide (a1 < (0 : Int))) || (decide (a1 ≥ (a0.tasks.length : Int)))) = true then some (true) else (if 0 ≤ a1 ∧ a1 < (a0.tasks.length : Int) then some (((rd a0.tasks a1).at_ == (0 : Int))) else none)) (fun x23 => (if x23 = true then some ((0 : Int), false, false) else (if 0 ≤ a1 ∧ a1 < (a0.tasks.length : Int) then some ((rd a0.tasks a1).calls, ((rd a0.tasks a1).at_ == (2 : Int)), true) else none))))
set_option maxHeartbeats 2000000 in
theorem event_Recorder_Under_POO.mono {k : Nat} {a0 : event_Recorder} {a1 : Int} : OLe (event_Recorder_Under_POO k a0 a1) (event_Recorder_Under_POO (k + 1) a0 a1) := by
  unfold event_Recorder_Under_POO
  repeat' (first | with_reducible exact OLe.none | with_reducible exact OLe.some | with_reducible refine OLe.ite ?_ ?_ | with_reducible refine OLe.bind ?_ (fun _ => ?_) | refine OLe.bind ?_ (fun _ => ?_) | refine OLe.ite ?_ ?_ | refine OLe.elim (fun _ => ?_) (fun _ => ?_) | split)
set_option maxHeartbeats 1000000 in
set_option maxRecDepth 100000 in
theorem event_Recorder_Under_POO.con (k : Nat) (M : Hp) (A0_0 : Option Addr) (c0_0 : Nat) (A0_1 : Option Addr) (c0_1 : Nat) (a0 : event_Recorder) (a1 : Int) (bo0 : Nat) (r : Int × Bool × Bool)  (h : event_Recorder_Under_POO k a0 a1 = some r) : Con Try.prog 20 #[.pointer (some ⟨bo0, 0, none⟩), .int .i64 a1] M [Blk bo0 (.cells #[.slice A0_0 a0.tasks.length c0_0, .slice A0_1 a0.l.length c0_1] 73 (0, 0)), Row r_event_task 70 (.slice A0_0 a0.tasks.length c0_0) a0.tasks, Row r_api_Event 32 (.slice A0_1 a0.l.length c0_1) a0.l] (fun v M' Γ' => v = .tuple #[.int .i64 r.1, .bool r.2.1, .bool r.2.2] ∧ Γ' = [Blk bo0 (.cells #[.slice A0_0 a0.tasks.length c0_0, .slice A0_1 a0.l.length c0_1] 73 (0, 0)), Row r_event_task 70 (.slice A0_0 a0.tasks.length c0_0) a0.tasks, Row r_api_Event 32 (.slice A0_1 a0.l.length c0_1) a0.l]) := by
  refine con_of_wp Try.func20 rfl Try.ntmps20 Try.results20 rfl ?_
  intro w F rn S hrn
  have E := Ext.refl w
  have HM := Hp.le_refl M
  have H := h
  unfold event_Recorder_Under_POO at H
  refine Wp_seq ?_
  refine Wp_region_lit ?_
  refine W_v (.int .i64 0) (x_assign rfl) rfl ?_
  refine W_v (.bool false) (x_assign rfl) rfl ?_
  refine W_v (.bool false) (x_assign rfl) rfl ?_
  refine Wl_nil ?_
  refine tn ?_
  refine Wp_seq ?_
  refine Wp_seq ?_
  refine Wp_region_lit ?_
  refine W_v (.pointer (some ⟨bo0, 0, none⟩)) (x_move rfl) rfl ?_
  refine W_v (.bool false) (x_eq_of (r := false) rfl rfl (run_eq_ptrsn Try.underlying36)) rfl ?_
  refine W_v (.bool false) (x_move rfl) rfl ?_
  refine W_yes (rfl) ?_
  refine W_v (.int .i64 a1) (x_move rfl) rfl ?_
  refine W_yes (rfl) ?_
  refine W_v (.bool (decide (a1 < (0 : Int)))) (x_ibin rfl rfl rfl rfl) rfl ?_
  refine W_v (.bool (decide (a1 < (0 : Int)))) (x_pick (k := false) rfl rfl) rfl ?_
  refine W_v (.bool (decide (a1 < (0 : Int)))) (x_move rfl) rfl ?_
  refine Wl_cutN 8 (fun ρ w' => Agree ρ [(0, .pointer (some ⟨bo0, 0, none⟩)), (1, .int .i64 a1), (22, .bool ((decide (a1 < (0 : Int))) || (decide (a1 ≥ (a0.tasks.length : Int)))))] ∧ w = w') ?_ ?_
  · rcases boolCases (decide (a1 < (0 : Int))) with hb1 | hb1
    · skip
      refine W_yes (congrArg some hb1) ?_
      refine W_v (.int .i64 a1) (x_move rfl) rfl ?_
      refine W_yes (congrArg some hb1) ?_
      refine W_v (.pointer (some ⟨bo0, 0, none⟩)) (x_move rfl) rfl ?_
      refine W_yes (congrArg some hb1) ?_
      refine W_v (.pointer (some ⟨bo0, 0, none⟩)) (x_nilptr rfl) rfl ?_
      refine W_yes (congrArg some hb1) ?_
      refine W_v (.pointer (some ⟨bo0, 0, none⟩)) (x_fieldAddr (o := 0) (off := 0) Try.underlying73 rfl ty71 rfl rfl) rfl ?_
      refine W_yes (congrArg some hb1) ?_
      refine W_v (.slice A0_0 a0.tasks.length c0_0) (x_load (S.blk 0 rfl) ty71 rfl rfl) rfl ?_
      refine W_yes (congrArg some hb1) ?_
      refine W_v (.int .i64 (a0.tasks.length : Int)) (x_len_slice (n := a0.tasks.length) Try.underlying71 rfl) rfl ?_
      refine W_yes (congrArg some hb1) ?_
      refine W_v (.bool (decide (a1 ≥ (a0.tasks.length : Int)))) (x_ibin rfl rfl rfl rfl) rfl ?_
      refine W_v (.bool (decide (a1 ≥ (a0.tasks.length : Int)))) (x_pick (k := false) (congrArg Value.bool hb1) rfl) rfl ?_
      refine Wl_nil ?_
      exact ⟨⟨rfl, rfl, (by first | rfl | (rw [hb1]; rfl) | (simp only [hb1]; rfl)), trivial⟩, rfl⟩
    · skip
      refine W_no (skF hb1) rfl ?_
      refine W_no (skF hb1) rfl ?_
      refine W_no (skF hb1) rfl ?_
      refine W_no (skF hb1) rfl ?_
      refine W_no (skF hb1) rfl ?_
      refine W_no (skF hb1) rfl ?_
      refine W_no (skF hb1) rfl ?_
      refine W_v (.bool true) (x_pick (k := true) (congrArg Value.bool hb1) rfl) rfl ?_
      refine Wl_nil ?_
      exact ⟨⟨rfl, rfl, (by first | rfl | (rw [hb1]; rfl) | (simp only [hb1]; rfl)), trivial⟩, rfl⟩
  rintro ρ _ ⟨hρ, rfl⟩
  rw [agree_eta hρ]
  clear hρ
  refine W_v (.bool ((decide (a1 < (0 : Int))) || (decide (a1 ≥ (a0.tasks.length : Int))))) (x_move rfl) rfl ?_
  obtain ⟨o24, o24h, o24H⟩ := bindS H
  clear H
  refine Wl_cutN 10 (fun ρ w' => ∃ (x23 : Bool), (x23) = o24 ∧ Agree ρ [(0, .pointer (some ⟨bo0, 0, none⟩)), (1, .int .i64 a1), (33, .bool x23)] ∧ Ext w w' ∧ St w' M F [Blk bo0 (.cells #[.slice A0_0 a0.tasks.length c0_0, .slice A0_1 a0.l.length c0_1] 73 (0, 0)), Row r_event_task 70 (.slice A0_0 a0.tasks.length c0_0) a0.tasks, Row r_api_Event 32 (.slice A0_1 a0.l.length c0_1) a0.l]) ?_ ?_
  · have H := o24h
    rcases iteS H with ⟨hb22, H⟩ | ⟨hb22, H⟩
    · skip
      refine W_no (skF hb22) rfl ?_
      refine W_no (skF hb22) rfl ?_
      refine W_no (skF hb22) rfl ?_
      refine W_no (skF hb22) rfl ?_
      refine W_no (skF hb22) rfl ?_
      refine W_no (skF hb22) rfl ?_
      refine W_no (skF hb22) rfl ?_
      refine W_no (skF hb22) rfl ?_
      refine W_no (skF hb22) rfl ?_
      refine W_v (.bool true) (x_pick (k := true) (congrArg Value.bool hb22) rfl) rfl ?_
      refine Wl_nil ?_
      exact ⟨true, Option.some.inj H, ⟨rfl, rfl, rfl, trivial⟩, E, S.pick [0, 1, 2] (by decide)⟩
    · skip
      refine W_yes (congrArg some hb22) ?_
      refine W_v (.pointer (some ⟨bo0, 0, none⟩)) (x_move rfl) rfl ?_
      refine W_yes (congrArg some hb22) ?_
      refine W_v (.pointer (some ⟨bo0, 0, none⟩)) (x_nilptr rfl) rfl ?_
      refine W_yes (congrArg some hb22) ?_
      refine W_v (.pointer (some ⟨bo0, 0, none⟩)) (x_fieldAddr (o := 0) (off := 0) Try.underlying73 rfl ty71 rfl rfl) rfl ?_
      refine W_yes (congrArg some hb22) ?_
      refine W_v (.slice A0_0 a0.tasks.length c0_0) (x_load (S.blk 0 rfl) ty71 rfl rfl) rfl ?_
      refine W_yes (congrArg some hb22) ?_
      refine W_v (.int .i64 a1) (x_move rfl) rfl ?_
      refine W_yes (congrArg some hb22) ?_
      obtain ⟨⟨p25, p26⟩, H⟩ := chkS H
      obtain ⟨b27, o28, cs29, _, _, ee34, hb30, vs31, hR32, hc33⟩ := SlW.at' (S.row_read 1 rfl) p25 p26
      obtain rfl : vs31 = _ := hR32
      refine W_v (.pointer (some ⟨b27, o28 + a1.toNat * 2, none⟩)) (x_indexAddr Try.underlying71 ty70 (slA ee34) rfl p25 p26) rfl ?_
      refine W_yes (congrArg some hb22) ?_
      refine W_v (.pointer (some ⟨b27, o28 + a1.toNat * 2, none⟩)) (x_fieldAddr (o := o28 + a1.toNat * 2) (off := 0) Try.underlying70 rfl ty3 rfl rfl) rfl ?_
      refine W_yes (congrArg some hb22) ?_
      refine W_v (.int .i64 ((rd a0.tasks a1).at_)) (x_load (Hp.of_get hb30) ty3 rfl (hc33 0 _ rfl)) rfl ?_
      refine W_yes (congrArg some hb22) ?_
      refine W_v (.bool ((rd a0.tasks a1).at_ == (0 : Int))) (x_ibin rfl rfl rfl rfl) rfl ?_
      refine W_v (.bool ((rd a0.tasks a1).at_ == (0 : Int))) (x_pick (k := false) (congrArg Value.bool hb22) rfl) rfl ?_
      refine Wl_nil ?_
      exact ⟨((rd a0.tasks a1).at_ == (0 : Int)), Option.some.inj H, ⟨rfl, rfl, rfl, trivial⟩, E, S.pick [0, 1, 2] (by decide)⟩
  clear o24h
  rintro ρ w35 ⟨x23, rfl, hρ, E, S⟩
  rw [agree_eta hρ]
  clear hρ
  have H := o24H
  clear o24H
  refine Wl_nil ?_
  refine tn ?_
  rcases iteS H with ⟨hb36, H⟩ | ⟨hb36, H⟩
  · refine Wp_cond_true (congrArg Value.bool hb36) ?_
    refine Wp_seq ?_
    refine Wp_region_lit ?_
    refine W_v (.int .i64 0) (x_assign rfl) rfl ?_
    refine W_v (.bool false) (x_assign rfl) rfl ?_
    refine W_v (.bool false) (x_assign rfl) rfl ?_
    refine Wl_nil ?_
    refine tn ?_
    refine Wp_ret ?_
    refine tr (?_)
    obtain rfl := Option.some.inj H
    exact ⟨_, _, _, fun w1 e1 => run_resR (vs := [.int .i64 0, .bool false, .bool false]) (FA.cons (rfl) (FA.cons (rfl) (FA.cons (rfl) (FA.nil)))), HM, E, S.pick [0, 1, 2] (by decide), ⟨rfl, rfl⟩⟩
  refine Wp_cond_false (congrArg Value.bool hb36) ?_
  refine Wp_skip ?_
  refine tn ?_
  refine Wp_seq ?_
  refine Wp_region_lit ?_
  refine W_v (.pointer (some ⟨bo0, 0, none⟩)) (x_move rfl) rfl ?_
  refine W_v (.pointer (some ⟨bo0, 0, none⟩)) (x_nilptr rfl) rfl ?_
  refine W_v (.pointer (some ⟨bo0, 0, none⟩)) (x_fieldAddr (o := 0) (off := 0) Try.underlying73 rfl ty71 rfl rfl) rfl ?_
  refine W_v (.slice A0_0 a0.tasks.length c0_0) (x_load (S.blk 0 rfl) ty71 rfl rfl) rfl ?_
  refine W_v (.int .i64 a1) (x_move rfl) rfl ?_
  obtain ⟨⟨p37, p38⟩, H⟩ := chkS H
  obtain ⟨b39, o40, cs41, _, _, ee46, hb42, vs43, hR44, hc45⟩ := SlW.at' (S.row_read 1 rfl) p37 p38
  obtain rfl : vs43 = _ := hR44
  refine W_v (.pointer (some ⟨b39, o40 + a1.toNat * 2, none⟩)) (x_indexAddr Try.underlying71 ty70 (slA ee46) rfl p37 p38) rfl ?_
  refine W_v (.agg #[.int .i64 ((rd a0.tasks a1).at_), .int .i64 ((rd a0.tasks a1).calls)]) (x_loadA (Hp.of_get hb42) ty70 rfl (sub_el hc45 0 rfl) rfl rfl) rfl ?_
  refine W_alloc S #[.int .i64 0, .int .i64 0] ty70 rfl rfl ?_
  intro b47 w48 E' S
  replace E := E.trans E'
  clear E'
  refine W_store S 0 rfl ty70 rfl rfl [.int .i64 ((rd a0.tasks a1).at_), .int .i64 ((rd a0.tasks a1).calls)] rfl rfl rfl #[.int .i64 ((rd a0.tasks a1).at_), .int .i64 ((rd a0.tasks a1).calls)] rfl rfl ?_
  intro w50 E' S
  replace E := E.trans E'
  clear E'
  refine Wl_nil ?_
  refine tn ?_
  refine Wp_seq ?_
  refine Wp_region_any (S := fun w' => ∃ Mx, M.le Mx ∧ St w' Mx F [Blk b47 (.cells #[.int .i64 ((rd a0.tasks a1).at_), .int .i64 ((rd a0.tasks a1).calls)] 70 (0, 0)), Blk bo0 (.cells #[.slice A0_0 a0.tasks.length c0_0, .slice A0_1 a0.l.length c0_1] 73 (0, 0)), Row r_event_task 70 (.slice A0_0 a0.tasks.length c0_0) a0.tasks, Row r_api_Event 32 (.slice A0_1 a0.l.length c0_1) a0.l]) (L := 8) mixed ?_
  intro w51 hw52 E'
  replace S := S.heap hw52
  replace E := E.trans E'
  clear E'
  refine Wa_take (i := 0) rfl (by kernel_rfl) rfl rfl (.pointer (some ⟨b47, 1, none⟩)) rfl (fun w' h' => x_fieldAddr (o := 0) (off := 1) Try.underlying70 rfl ty3 rfl rfl) (⟨M, Hp.le_refl M, (S.pick [0, 1, 2, 3] (by decide))⟩) ?_
  refine Wa_take (i := 1) rfl (by kernel_rfl) rfl rfl (.int .i64 ((rd a0.tasks a1).calls)) rfl (fun w' h' => x_load (cls_blk h' 0 rfl) ty3 rfl rfl) (⟨M, Hp.le_refl M, (S.pick [0, 1, 2, 3] (by decide))⟩) ?_
  refine Wa_take (i := 2) rfl (by kernel_rfl) rfl rfl (.pointer (some ⟨b47, 0, none⟩)) rfl (fun w' h' => x_fieldAddr (o := 0) (off := 0) Try.underlying70 rfl ty3 rfl rfl) (⟨M, Hp.le_refl M, (S.pick [0, 1, 2, 3] (by decide))⟩) ?_
  refine Wa_take (i := 3) rfl (by kernel_rfl) rfl rfl (.int .i64 ((rd a0.tasks a1).at_)) rfl (fun w' h' => x_load (cls_blk h' 0 rfl) ty3 rfl rfl) (⟨M, Hp.le_refl M, (S.pick [0, 1, 2, 3] (by decide))⟩) ?_
  refine Wa_take (i := 4) rfl (by kernel_rfl) rfl rfl (.bool ((rd a0.tasks a1).at_ == (2 : Int))) rfl (fun w' h' => x_ibin rfl rfl rfl rfl) (⟨M, Hp.le_refl M, (S.pick [0, 1, 2, 3] (by decide))⟩) ?_
  refine Wa_take (i := 5) rfl (by kernel_rfl) rfl rfl (.int .i64 ((rd a0.tasks a1).calls)) rfl (fun w' h' => x_assign rfl) (⟨M, Hp.le_refl M, (S.pick [0, 1, 2, 3] (by decide))⟩) ?_
  refine Wa_take (i := 6) rfl (by kernel_rfl) rfl rfl (.bool ((rd a0.tasks a1).at_ == (2 : Int))) rfl (fun w' h' => x_assign rfl) (⟨M, Hp.le_refl M, (S.pick [0, 1, 2, 3] (by decide))⟩) ?_
  refine Wa_take (i := 7) rfl (by kernel_rfl) rfl rfl (.bool true) rfl (fun w' h' => x_assign rfl) (⟨M, Hp.le_refl M, (S.pick [0, 1, 2, 3] (by decide))⟩) ?_
  refine Wa_done (by kernel_rfl) ?_
  refine tn ?_
  refine Wp_ret ?_
  obtain rfl := Option.some.inj H
  exact ⟨_, _, _, fun w1 e1 => run_resR (vs := [.int .i64 ((rd a0.tasks a1).calls), .bool ((rd a0.tasks a1).at_ == (2 : Int)), .bool true]) (FA.cons (rfl) (FA.cons (rfl) (FA.cons (rfl) (FA.nil)))), HM, E, S.pick [1, 2, 3] (by decide), ⟨rfl, rfl⟩⟩
end Go.Proofs.Ytninegjnkkcepaa
