import Derived.Test.YtbdelepfpnneoaaDoorGs1
namespace Go.Proofs.YtbdelepfpnneoaaDoor
open Go
set_option linter.unusedVariables false
set_option linter.unusedSimpArgs false
/-! ### ferryman/ferrymanlaw08.StatusBusy: function 3 -/
def ferrymanlaw08_StatusBusy_l7 (x1879 : Int) (t2827 : Int × Int × status_Writers) : Nat → List Int → Int → Int → Option ((List Int × Int))
  | 0, _, _, _ => none
  | k + 1, x3046, x3050, x3051 => (if (decide (x3051 ≤ (IntKind.i64.wrap (x1879 + (1 : Int))))) = true then (Option.bind (α := List Int × Int) (Option.bind (status_Writers_Of_PO k t2827.2.2 x3051) (fun t3198 => (Option.bind (α := Int) (if (t3198.1 == (1 : Int)) = true then some ((IntKind.i64.wrap (x3050 + (1 : Int)))) else some (x3050)) (fun x3204 => (Option.bind (α := List Int) (if ((t3198.1 == (1 : Int)) || (t3198.1 == (2 : Int))) = true then (if x3046.length + ([x3051] : List Int).length ≤ 17592186044416 then some ((x3046 ++ ([x3051] : List Int))) else none) else some (x3046)) (fun x3221 => some (x3221, x3204))))))) (fun ⟨x3192, x3196⟩ => ferrymanlaw08_StatusBusy_l7 x1879 t2827 k x3192 x3196 (IntKind.i64.wrap (x3051 + (1 : Int))))) else some (x3046, x3050))
set_option maxHeartbeats 2000000 in
theorem ferrymanlaw08_StatusBusy_l7.mono {x1879 : Int} {t2827 : Int × Int × status_Writers} : ∀ {k : Nat} {x0 x1 x2}, OLe (ferrymanlaw08_StatusBusy_l7 x1879 t2827 k x0 x1 x2) (ferrymanlaw08_StatusBusy_l7 x1879 t2827 (k + 1) x0 x1 x2) := by
  intro k
  induction k with
  | zero => intros; exact OLe.none
  | succ k ih =>
    intros
    rw [ferrymanlaw08_StatusBusy_l7.eq_2, ferrymanlaw08_StatusBusy_l7.eq_2]
    repeat' (first | with_reducible exact OLe.none | with_reducible exact OLe.some | with_reducible refine OLe.ite ?_ ?_ | with_reducible refine OLe.bind ?_ (fun _ => ?_) | with_reducible exact status_Writers_Of_PO.mono | exact ih | refine OLe.bind ?_ (fun _ => ?_) | refine OLe.ite ?_ ?_ | refine OLe.elim (fun _ => ?_) (fun _ => ?_) | split)
def ferrymanlaw08_StatusBusy_l8 (x1879 : Int) (t2827 : Int × Int × status_Writers) : Nat → List Int → Int → Int → Option ((List Int × Int))
  | 0, _, _, _ => none
  | k + 1, x3489, x3493, x3494 => (if (decide (x3494 ≤ x1879)) = true then (Option.bind (α := List Int × Int) (Option.bind (status_Writers_Of_PO k t2827.2.2 x3494) (fun t3641 => (Option.bind (α := Int) (if (t3641.1 == (1 : Int)) = true then some ((IntKind.i64.wrap (x3493 + (1 : Int)))) else some (x3493)) (fun x3647 => (Option.bind (α := List Int) (if ((t3641.1 == (1 : Int)) || (t3641.1 == (2 : Int))) = true then (if x3489.length + ([x3494] : List Int).length ≤ 17592186044416 then some ((x3489 ++ ([x3494] : List Int))) else none) else some (x3489)) (fun x3664 => some (x3664, x3647))))))) (fun ⟨x3635, x3639⟩ => ferrymanlaw08_StatusBusy_l8 x1879 t2827 k x3635 x3639 (IntKind.i64.wrap (x3494 + (1 : Int))))) else some (x3489, x3493))
set_option maxHeartbeats 2000000 in
theorem ferrymanlaw08_StatusBusy_l8.mono {x1879 : Int} {t2827 : Int × Int × status_Writers} : ∀ {k : Nat} {x0 x1 x2}, OLe (ferrymanlaw08_StatusBusy_l8 x1879 t2827 k x0 x1 x2) (ferrymanlaw08_StatusBusy_l8 x1879 t2827 (k + 1) x0 x1 x2) := by
  intro k
  induction k with
  | zero => intros; exact OLe.none
  | succ k ih =>
    intros
    rw [ferrymanlaw08_StatusBusy_l8.eq_2, ferrymanlaw08_StatusBusy_l8.eq_2]
    repeat' (first | with_reducible exact OLe.none | with_reducible exact OLe.some | with_reducible refine OLe.ite ?_ ?_ | with_reducible refine OLe.bind ?_ (fun _ => ?_) | with_reducible exact status_Writers_Of_PO.mono | exact ih | refine OLe.bind ?_ (fun _ => ?_) | refine OLe.ite ?_ ?_ | refine OLe.elim (fun _ => ?_) (fun _ => ?_) | split)
def ferrymanlaw08_StatusBusy_l4 (a0 : (List ferrymanlaw08_Step)) : Nat → Int → Int → List status_writer → Int → Option ((Bool) ⊕ (Unit))
  | 0, _, _, _, _ => none
  | k + 1, x1879, x1880, x1881, x1885 => (if (decide (x1880 < (a0.length : Int))) = true then (Option.bind (status_Writers_High_PO k (⟨x1881, x1885⟩ : status_Writers)) (fun t2812 => (if 0 ≤ x1880 ∧ x1880 < (a0.length : Int) then (Option.bind (ferrymanlaw08_Step_do_PO k (rd a0 x1880) (⟨x1881, x1885⟩ : status_Writers)) (fun t2827 => (if 0 ≤ x1880 ∧ x1880 < (a0.length : Int) then (if ((rd a0 x1880).What == (0 : Int)) = true then (if ((t2827.1 != (IntKind.i64.wrap (x1879 + (1 : Int)))) || (t2827.1 != t2812)) = true then some (.inl false) else (Option.bind (ferrymanlaw08_StatusBusy_l7 x1879 t2827 k ([] : List Int) (0 : Int) (1 : Int)) (fun ⟨x3142, x3146⟩ => (Option.bind (status_Writers_Busy_PO k t2827.2.2) (fun t3241 => (Option.bind (ferrymanref08_Ints k t3241 x3142) (fun t3249 => (Option.bind (α := Bool) (if (!t3249) = true then some (true) else (Option.bind (status_Writers_Active_PO k t2827.2.2) (fun t3265 => some ((t3265 != x3146))))) (fun x3263 => (Option.bind (α := Bool) (if x3263 = true then some (true) else (Option.bind (status_Writers_High_PO k t2827.2.2) (fun t3284 => some ((t3284 != (IntKind.i64.wrap ((IntKind.i64.wrap (x1879 + (1 : Int))) + (1 : Int)))))))) (fun x3282 => (if x3282 = true then some (.inl false) else ferrymanlaw08_StatusBusy_l4 a0 k (IntKind.i64.wrap (x1879 + (1 : Int))) (IntKind.i64.wrap (x1880 + (1 : Int))) t2827.2.2.l t2827.2.2.last)))))))))))) else (Option.bind (ferrymanlaw08_StatusBusy_l8 x1879 t2827 k ([] : List Int) (0 : Int) (1 : Int)) (fun ⟨x3585, x3589⟩ => (Option.bind (status_Writers_Busy_PO k t2827.2.2) (fun t3684 => (Option.bind (ferrymanref08_Ints k t3684 x3585) (fun t3692 => (Option.bind (α := Bool) (if (!t3692) = true then some (true) else (Option.bind (status_Writers_Active_PO k t2827.2.2) (fun t3708 => some ((t3708 != x3589))))) (fun x3706 => (Option.bind (α := Bool) (if x3706 = true then some (true) else (Option.bind (status_Writers_High_PO k t2827.2.2) (fun t3727 => some ((t3727 != (IntKind.i64.wrap (x1879 + (1 : Int)))))))) (fun x3725 => (if x3725 = true then some (.inl false) else ferrymanlaw08_StatusBusy_l4 a0 k x1879 (IntKind.i64.wrap (x1880 + (1 : Int))) t2827.2.2.l t2827.2.2.last)))))))))))) else none))) else none))) else some (.inr ()))
set_option maxHeartbeats 2000000 in
theorem ferrymanlaw08_StatusBusy_l4.mono {a0 : (List ferrymanlaw08_Step)} : ∀ {k : Nat} {x0 x1 x2 x3}, OLe (ferrymanlaw08_StatusBusy_l4 a0 k x0 x1 x2 x3) (ferrymanlaw08_StatusBusy_l4 a0 (k + 1) x0 x1 x2 x3) := by
  intro k
  induction k with
  | zero => intros; exact OLe.none
  | succ k ih =>
    intros
    rw [ferrymanlaw08_StatusBusy_l4.eq_2, ferrymanlaw08_StatusBusy_l4.eq_2]
    repeat' (first | with_reducible exact OLe.none | with_reducible exact OLe.some | with_reducible refine OLe.ite ?_ ?_ | with_reducible refine OLe.bind ?_ (fun _ => ?_) | with_reducible exact ferrymanlaw08_StatusBusy_l7.mono | with_reducible exact ferrymanlaw08_StatusBusy_l8.mono | with_reducible exact ferrymanlaw08_Step_do_PO.mono | with_reducible exact ferrymanref08_Ints.mono | with_reducible exact status_Writers_Active_PO.mono | with_reducible exact status_Writers_Busy_PO.mono | with_reducible exact status_Writers_High_PO.mono | exact ih | refine OLe.bind ?_ (fun _ => ?_) | refine OLe.ite ?_ ?_ | refine OLe.elim (fun _ => ?_) (fun _ => ?_) | split)
def ferrymanlaw08_StatusBusy (k : Nat) (a0 : (List ferrymanlaw08_Step)) : Option (Bool) :=
  (Option.bind (ferrymanlaw08_works k ) (fun t1 => (if ((!t1) || (decide ((a0.length : Int) > (120 : Int)))) = true then (Option.bind (ferrymanlaw08_works k ) (fun t6 => some t6)) else (Option.bind (status_New k ) (fun t9 => (Option.bind (ferrymanlaw08_StatusBusy_l4 a0 k (0 : Int) (0 : Int) t9.l t9.last) (fun o2809o => Sum.elim (fun r' => some r') (fun _ => some true) o2809o)))))))
set_option maxHeartbeats 2000000 in
theorem ferrymanlaw08_StatusBusy.mono {k : Nat} {a0 : (List ferrymanlaw08_Step)} : OLe (ferrymanlaw08_StatusBusy k a0) (ferrymanlaw08_StatusBusy (k + 1) a0) := by
  unfold ferrymanlaw08_StatusBusy
  repeat' (first | with_reducible exact OLe.none | with_reducible exact OLe.some | with_reducible refine OLe.ite ?_ ?_ | with_reducible refine OLe.bind ?_ (fun _ => ?_) | with_reducible exact ferrymanlaw08_StatusBusy_l4.mono | with_reducible exact ferrymanlaw08_works.mono | with_reducible exact status_New.mono | refine OLe.bind ?_ (fun _ => ?_) | refine OLe.ite ?_ ?_ | refine OLe.elim (fun _ => ?_) (fun _ => ?_) | split)
set_option maxHeartbeats 8000000 in
set_option maxRecDepth 100000 in
theorem ferrymanlaw08_StatusBusy.con (k : Nat) (M : Hp) (A0 : Option Addr) (c0 : Nat) (a0 : (List ferrymanlaw08_Step)) (r : Bool) (hr0 : SlR r_ferrymanlaw08_Step M (.slice A0 a0.length c0) a0) (hg0 : ∃ gt fr, M 0 = some (.cells #[.int .u8 0, .int .u8 0, .int .u8 1, .int .u8 1, .int .u8 2] gt fr)) (h : ferrymanlaw08_StatusBusy k a0 = some r) : Con Tryd.prog 3 #[.slice A0 a0.length c0] M [] (fun v M' Γ' => v = .bool r ∧ Γ' = []) := by
  refine con_of_wp Tryd.func3 rfl Tryd.ntmps3 Tryd.results3 rfl ?_
  intro w F rn S hrn
  have E := Ext.refl w
  have HM := Hp.le_refl M
  have H := h
  unfold ferrymanlaw08_StatusBusy at H
  refine Wp_seq ?_
  refine Wp_region_lit ?_
  refine W_v (.bool false) (x_assign rfl) rfl ?_
  refine Wl_nil ?_
  refine tn ?_
  refine Wp_seq ?_
  refine Wp_seq ?_
  refine Wp_region_lit ?_
  obtain ⟨t1, ht2, H⟩ := bindS H
  refine W_callF fn8 (ferrymanlaw08_works.con k M  t1 hg0 ht2) S rfl rfl (by rintro _ _ _ ⟨_, rfl⟩; exact flat_nil) ?_
  rintro _ w3 _ Γ' E' S ⟨rfl, rfl⟩
  replace E := E.trans E'
  clear E'
  refine W_v (.bool (!t1)) (x_not rfl) rfl ?_
  refine W_v (.bool (!t1)) (x_move rfl) rfl ?_
  refine Wl_cutN 4 (fun ρ w' => Agree ρ [(0, .slice A0 a0.length c0), (20, .bool ((!t1) || (decide ((a0.length : Int) > (120 : Int)))))] ∧ w3 = w') ?_ ?_
  · rcases boolCases (!t1) with hb4 | hb4
    · skip
      refine W_yes (congrArg some hb4) ?_
      refine W_v (.slice A0 a0.length c0) (x_move rfl) rfl ?_
      refine W_yes (congrArg some hb4) ?_
      refine W_v (.int .i64 (a0.length : Int)) (x_len_slice (n := a0.length) Tryd.underlying22 rfl) rfl ?_
      refine W_yes (congrArg some hb4) ?_
      refine W_v (.bool (decide ((a0.length : Int) > (120 : Int)))) (x_ibin rfl rfl rfl rfl) rfl ?_
      refine W_v (.bool (decide ((a0.length : Int) > (120 : Int)))) (x_pick (k := false) (congrArg Value.bool hb4) rfl) rfl ?_
      refine Wl_nil ?_
      exact ⟨⟨rfl, (by first | rfl | (rw [hb4]; rfl) | (simp only [hb4]; rfl)), trivial⟩, rfl⟩
    · skip
      refine W_no (skF hb4) rfl ?_
      refine W_no (skF hb4) rfl ?_
      refine W_no (skF hb4) rfl ?_
      refine W_v (.bool true) (x_pick (k := true) (congrArg Value.bool hb4) rfl) rfl ?_
      refine Wl_nil ?_
      exact ⟨⟨rfl, (by first | rfl | (rw [hb4]; rfl) | (simp only [hb4]; rfl)), trivial⟩, rfl⟩
  rintro ρ _ ⟨hρ, rfl⟩
  rw [agree_eta hρ]
  clear hρ
  refine Wl_nil ?_
  refine tn ?_
  rcases iteS H with ⟨hb5, H⟩ | ⟨hb5, H⟩
  · refine Wp_cond_true (congrArg Value.bool hb5) ?_
    refine Wp_seq ?_
    refine Wp_region_lit ?_
    obtain ⟨t6, ht7, H⟩ := bindS H
    refine W_callF fn8 (ferrymanlaw08_works.con k M  t6 hg0 ht7) S rfl rfl (by rintro _ _ _ ⟨_, rfl⟩; exact flat_nil) ?_
    rintro _ w8 _ Γ' E' S ⟨rfl, rfl⟩
    replace E := E.trans E'
    clear E'
    refine W_v (.bool t6) (x_assign rfl) rfl ?_
    refine Wl_nil ?_
    refine tn ?_
    refine Wp_ret ?_
    refine tr (?_)
    obtain rfl := Option.some.inj H
    exact ⟨_, _, _, fun w1 e1 => run_resR (vs := [.bool t6]) (FA.cons (rfl) (FA.nil)), HM, E, S.pick [] (by decide), ⟨rfl, rfl⟩⟩
  refine Wp_cond_false (congrArg Value.bool hb5) ?_
  refine Wp_skip ?_
  refine tn ?_
  refine Wp_seq ?_
  refine Wp_region_lit ?_
  obtain ⟨t9, ht10, H⟩ := bindS H
  refine W_callF2 fn9 (status_New.con k M  t9 hg0 ht10) (Γ1 := []) (Γ2 := []) S rfl rfl (by rintro _ _ _ ⟨_, _, _, rfl, rfl⟩; exact (flat_cons flat_blk (flat_cons (flat_row (fun _ _ _ _ h => h)) flat_nil))) ?_
  rintro _ w16 _ Γ' E' S ⟨b11, A13, c14, rfl, rfl⟩
  replace E := E.trans E'
  clear E'
  replace S : St w16 M F [Blk b11 (.cells #[.slice A13 t9.l.length c14, .int .i64 t9.last] 47 (0, 0)), Row r_status_writer 49 (.slice A13 t9.l.length c14) t9.l] := S
  refine W_v (.pointer (some ⟨b11, 0, none⟩)) (x_assign rfl) rfl ?_
  refine Wl_nil ?_
  refine tn ?_
  refine Wp_seq ?_
  refine Wp_region_lit ?_
  refine W_v (.int .i64 0) (x_assign rfl) rfl ?_
  refine Wl_nil ?_
  refine tn ?_
  refine Wp_seq ?_
  refine Wp_seq ?_
  refine Wp_region_lit ?_
  refine W_v (.int .i64 0) (x_assign rfl) rfl ?_
  refine Wl_nil ?_
  refine tn ?_
  obtain ⟨o2809, o2809h, o2809H⟩ := bindS H
  clear H
  refine Wp_blockJ (fun ρ w' => .inr () = o2809 ∧ Agree ρ [] ∧ Ext w w' ∧ St w' M F []) ?_ ?_
  · skip
    refine Wp_loop (fun n ρ w' => ∃ (x1879 : Int) (x1880 : Int) (x1881 : List status_writer) (x1885 : Int) (A1882 : Option Addr) (c1883 : Nat), ferrymanlaw08_StatusBusy_l4 a0 n x1879 x1880 x1881 x1885 = some o2809 ∧ Agree ρ [(0, .slice A0 a0.length c0), (3, .pointer (some ⟨b11, 0, none⟩)), (4, .int .i64 x1879), (5, .int .i64 x1880)] ∧ Ext w w' ∧ St w' M F [Row r_status_writer 49 (.slice A1882 x1881.length c1883) x1881, Blk b11 (.cells #[.slice A1882 x1881.length c1883, .int .i64 x1885] 47 (0, 0))]) k ?_ ?_
    · skip
      exact ⟨(0 : Int), (0 : Int), t9.l, t9.last, A13, c14, o2809h, ⟨rfl, rfl, rfl, rfl, trivial⟩, E, S.pick [1, 0] (by decide)⟩
    · intro n
      rintro ρ w2810 ⟨x1879, x1880, x1881, x1885, A1882, c1883, H, hρ, E, S⟩
      rw [agree_eta hρ]
      clear hρ
      cases n with
      | zero => cases H
      | succ k =>
        rw [ferrymanlaw08_StatusBusy_l4.eq_2] at H
        refine Wp_seq ?_
        refine Wp_seq ?_
        refine Wp_region_lit ?_
        refine W_v (.int .i64 x1880) (x_move rfl) rfl ?_
        refine W_v (.slice A0 a0.length c0) (x_move rfl) rfl ?_
        refine W_v (.int .i64 (a0.length : Int)) (x_len_slice (n := a0.length) Tryd.underlying22 rfl) rfl ?_
        refine W_v (.bool (decide (x1880 < (a0.length : Int)))) (x_ibin rfl rfl rfl rfl) rfl ?_
        refine Wl_nil ?_
        refine tn ?_
        rcases iteS H with ⟨hb2811, H⟩ | ⟨hb2811, H⟩
        · refine Wp_cond_true (congrArg Value.bool hb2811) ?_
          refine Wp_skip ?_
          refine tn ?_
          refine Wp_seq ?_
          refine Wp_block ?_
          refine Wp_seq ?_
          refine Wp_region_lit ?_
          refine W_v (.pointer (some ⟨b11, 0, none⟩)) (x_move rfl) rfl ?_
          obtain ⟨t2812, ht2813, H⟩ := bindS H
          replace S : St w2810 M F [Blk b11 (.cells #[.slice A1882 x1881.length c1883, .int .i64 x1885] 47 (0, 0)), Row r_status_writer 49 (.slice A1882 x1881.length c1883) x1881] := S.pick [1, 0] (by decide)
          refine W_callF2 fn10 (status_Writers_High_PO.con k M A1882 c1883 (⟨x1881, x1885⟩ : status_Writers) b11 t2812 hg0 ht2813) (Γ1 := [Blk b11 (.cells #[.slice A1882 x1881.length c1883, .int .i64 x1885] 47 (0, 0)), Row r_status_writer 49 (.slice A1882 x1881.length c1883) x1881]) (Γ2 := []) S rfl rfl (by rintro _ _ _ ⟨rfl, rfl⟩; exact (flat_cons flat_blk (flat_cons (flat_row (fun _ _ _ _ h => h)) flat_nil))) ?_
          rintro _ w2814 _ Γ' E' S ⟨rfl, rfl⟩
          replace E := E.trans E'
          clear E'
          replace S : St w2814 M F [Blk b11 (.cells #[.slice A1882 x1881.length c1883, .int .i64 x1885] 47 (0, 0)), Row r_status_writer 49 (.slice A1882 x1881.length c1883) x1881] := S
          refine W_v (.int .i64 t2812) (x_assign rfl) rfl ?_
          refine Wl_nil ?_
          refine tn ?_
          refine Wp_seq ?_
          refine Wp_region_lit ?_
          refine W_v (.slice A0 a0.length c0) (x_move rfl) rfl ?_
          refine W_v (.int .i64 x1880) (x_move rfl) rfl ?_
          obtain ⟨⟨p2817, p2818⟩, H⟩ := chkS H
          obtain ⟨b2819, o2820, cs2821, _, _, ee2826, hb2822, vs2823, hR2824, hc2825⟩ := SlW.at' hr0 p2817 p2818
          obtain rfl : vs2823 = _ := hR2824
          refine W_v (.pointer (some ⟨b2819, o2820 + x1880.toNat * 3, none⟩)) (x_indexAddr Tryd.underlying22 ty30 (slA ee2826) rfl p2817 p2818) rfl ?_
          refine W_v (.agg #[.int .u8 ((rd a0 x1880).What), .int .i64 ((rd a0 x1880).W), .int .i64 ((rd a0 x1880).TS)]) (x_loadA (S.frz hb2822) ty30 rfl (sub_el hc2825 0 rfl) rfl rfl) rfl ?_
          refine W_v (.pointer (some ⟨b11, 0, none⟩)) (x_move rfl) rfl ?_
          obtain ⟨t2827, ht2828, H⟩ := bindS H
          refine W_callF2 fn11 (ferrymanlaw08_Step_do_PO.con k M (rd a0 x1880) A1882 c1883 (⟨x1881, x1885⟩ : status_Writers) b11 t2827 hg0 ht2828) (Γ1 := [Blk b11 (.cells #[.slice A1882 x1881.length c1883, .int .i64 x1885] 47 (0, 0)), Row r_status_writer 49 (.slice A1882 x1881.length c1883) x1881]) (Γ2 := []) S rfl rfl (by rintro _ _ _ ⟨_, _, rfl, rfl⟩; exact (flat_cons flat_blk (flat_cons (flat_row (fun _ _ _ _ h => h)) flat_nil))) ?_
          rintro _ w2832 _ Γ' E' S ⟨A2829, c2830, rfl, rfl⟩
          replace E := E.trans E'
          clear E'
          replace S : St w2832 M F [Blk b11 (.cells #[.slice A2829 t2827.2.2.l.length c2830, .int .i64 t2827.2.2.last] 47 (0, 0)), Row r_status_writer 49 (.slice A2829 t2827.2.2.l.length c2830) t2827.2.2.l] := S
          refine W_v (.tuple #[.int .i64 t2827.1, .int .i64 t2827.2.1]) (x_move rfl) rfl ?_
          refine W_v (.int .i64 t2827.1) (x_extract rfl rfl) rfl ?_
          refine W_v (.int .i64 t2827.2.1) (x_extract rfl rfl) rfl ?_
          refine W_v (.int .i64 t2827.1) (x_assign rfl) rfl ?_
          refine W_v (.int .i64 t2827.2.1) (x_assign rfl) rfl ?_
          refine Wl_nil ?_
          refine tn ?_
          refine Wp_seq ?_
          refine Wp_seq ?_
          refine Wp_region_lit ?_
          refine W_v (.slice A0 a0.length c0) (x_move rfl) rfl ?_
          refine W_v (.int .i64 x1880) (x_move rfl) rfl ?_
          obtain ⟨⟨p2835, p2836⟩, H⟩ := chkS H
          obtain ⟨b2837, o2838, cs2839, _, _, ee2844, hb2840, vs2841, hR2842, hc2843⟩ := SlW.at' hr0 p2835 p2836
          obtain rfl : vs2841 = _ := hR2842
          refine W_v (.pointer (some ⟨b2837, o2838 + x1880.toNat * 3, none⟩)) (x_indexAddr Tryd.underlying22 ty30 (slA ee2844) rfl p2835 p2836) rfl ?_
          refine W_v (.pointer (some ⟨b2837, o2838 + x1880.toNat * 3, none⟩)) (x_fieldAddr (o := o2838 + x1880.toNat * 3) (off := 0) Tryd.underlying30 rfl ty5 rfl rfl) rfl ?_
          refine W_v (.int .u8 ((rd a0 x1880).What)) (x_load (S.frz hb2840) ty5 rfl (hc2843 0 _ rfl)) rfl ?_
          refine W_v (.bool ((rd a0 x1880).What == (0 : Int))) (x_ibin rfl rfl rfl rfl) rfl ?_
          refine Wl_nil ?_
          refine tn ?_
          rcases iteS H with ⟨hb2845, H⟩ | ⟨hb2845, H⟩
          · refine Wp_cond_true (congrArg Value.bool hb2845) ?_
            refine Wp_seq ?_
            refine Wp_region_lit ?_
            refine W_v (.int .i64 x1879) (x_move rfl) rfl ?_
            refine W_v (.int .i64 (IntKind.i64.wrap (x1879 + (1 : Int)))) (x_ibin rfl rfl rfl rfl) rfl ?_
            refine W_v (.int .i64 (IntKind.i64.wrap (x1879 + (1 : Int)))) (x_assign rfl) rfl ?_
            refine Wl_nil ?_
            refine tn ?_
            refine Wp_seq ?_
            refine Wp_region_lit ?_
            refine W_v (.int .i64 t2827.1) (x_move rfl) rfl ?_
            refine W_v (.int .i64 (IntKind.i64.wrap (x1879 + (1 : Int)))) (x_move rfl) rfl ?_
            refine W_v (.bool (t2827.1 != (IntKind.i64.wrap (x1879 + (1 : Int))))) (x_ibin rfl rfl rfl rfl) rfl ?_
            refine W_v (.bool (t2827.1 != (IntKind.i64.wrap (x1879 + (1 : Int))))) (x_move rfl) rfl ?_
            refine Wl_cutN 4 (fun ρ w' => Agree ρ [(0, .slice A0 a0.length c0), (3, .pointer (some ⟨b11, 0, none⟩)), (4, .int .i64 (IntKind.i64.wrap (x1879 + (1 : Int)))), (5, .int .i64 x1880), (55, .bool ((t2827.1 != (IntKind.i64.wrap (x1879 + (1 : Int)))) || (t2827.1 != t2812)))] ∧ w2832 = w') ?_ ?_
            · rcases boolCases (t2827.1 != (IntKind.i64.wrap (x1879 + (1 : Int)))) with hb2846 | hb2846
              · skip
                refine W_yes (congrArg some hb2846) ?_
                refine W_v (.int .i64 t2827.1) (x_move rfl) rfl ?_
                refine W_yes (congrArg some hb2846) ?_
                refine W_v (.int .i64 t2812) (x_move rfl) rfl ?_
                refine W_yes (congrArg some hb2846) ?_
                refine W_v (.bool (t2827.1 != t2812)) (x_ibin rfl rfl rfl rfl) rfl ?_
                refine W_v (.bool (t2827.1 != t2812)) (x_pick (k := false) (congrArg Value.bool hb2846) rfl) rfl ?_
                refine Wl_nil ?_
                exact ⟨⟨rfl, rfl, rfl, rfl, (by first | rfl | (rw [hb2846]; rfl) | (simp only [hb2846]; rfl)), trivial⟩, rfl⟩
              · skip
                refine W_no (skF hb2846) rfl ?_
                refine W_no (skF hb2846) rfl ?_
                refine W_no (skF hb2846) rfl ?_
                refine W_v (.bool true) (x_pick (k := true) (congrArg Value.bool hb2846) rfl) rfl ?_
                refine Wl_nil ?_
                exact ⟨⟨rfl, rfl, rfl, rfl, (by first | rfl | (rw [hb2846]; rfl) | (simp only [hb2846]; rfl)), trivial⟩, rfl⟩
            rintro ρ _ ⟨hρ, rfl⟩
            rw [agree_eta hρ]
            clear hρ
            refine Wl_nil ?_
            refine tn ?_
            rcases iteS H with ⟨hb2847, H⟩ | ⟨hb2847, H⟩
            · refine Wp_cond_true (congrArg Value.bool hb2847) ?_
              refine Wp_seq ?_
              refine Wp_region_lit ?_
              refine W_v (.bool false) (x_assign rfl) rfl ?_
              refine Wl_nil ?_
              refine tn ?_
              refine Wp_ret ?_
              refine tr (br (tr (tr (br (tr (tr (?_)))))))
              obtain rfl := Option.some.inj H
              have H := o2809H
              replace H := elimL H
              obtain rfl := Option.some.inj H
              exact ⟨_, _, _, fun w1 e1 => run_resR (vs := [.bool false]) (FA.cons (rfl) (FA.nil)), HM, E, S.pick [] (by decide), ⟨rfl, rfl⟩⟩
            refine Wp_cond_false (congrArg Value.bool hb2847) ?_
            refine Wp_skip ?_
            refine tn ?_
            refine Wp_seq ?_
            refine Wp_region_lit ?_
            refine W_v (.slice none 0 0) (x_assign rfl) rfl ?_
            refine Wl_nil ?_
            refine tn ?_
            refine Wp_seq ?_
            refine Wp_region_lit ?_
            refine W_v (.int .i64 0) (x_assign rfl) rfl ?_
            refine Wl_nil ?_
            refine tn ?_
            refine Wp_seq ?_
            refine Wp_seq ?_
            refine Wp_region_lit ?_
            refine W_v (.int .i64 1) (x_assign rfl) rfl ?_
            refine Wl_nil ?_
            refine tn ?_
            obtain ⟨o3147, o3147h, o3147H⟩ := bindS H
            clear H
            refine Wp_blockJ (fun ρ w' => ∃ (x3142 : List Int) (x3146 : Int) (A3143 : Option Addr) (c3144 : Nat), (x3142, x3146) = o3147 ∧ Agree ρ [(0, .slice A0 a0.length c0), (3, .pointer (some ⟨b11, 0, none⟩)), (4, .int .i64 (IntKind.i64.wrap (x1879 + (1 : Int)))), (5, .int .i64 x1880), (9, .slice A3143 x3142.length c3144), (10, .int .i64 x3146)] ∧ Ext w w' ∧ St w' M F [Row (rInt .i64) 3 (.slice A3143 x3142.length c3144) x3142, Blk b11 (.cells #[.slice A2829 t2827.2.2.l.length c2830, .int .i64 t2827.2.2.last] 47 (0, 0)), Row r_status_writer 49 (.slice A2829 t2827.2.2.l.length c2830) t2827.2.2.l]) ?_ ?_
            · skip
              refine Wp_loop (fun n ρ w' => ∃ (x3046 : List Int) (x3050 : Int) (x3051 : Int) (A3047 : Option Addr) (c3048 : Nat), ferrymanlaw08_StatusBusy_l7 x1879 t2827 n x3046 x3050 x3051 = some o3147 ∧ Agree ρ [(0, .slice A0 a0.length c0), (3, .pointer (some ⟨b11, 0, none⟩)), (4, .int .i64 (IntKind.i64.wrap (x1879 + (1 : Int)))), (5, .int .i64 x1880), (9, .slice A3047 x3046.length c3048), (10, .int .i64 x3050), (11, .int .i64 x3051)] ∧ Ext w w' ∧ St w' M F [Row (rInt .i64) 3 (.slice A3047 x3046.length c3048) x3046, Blk b11 (.cells #[.slice A2829 t2827.2.2.l.length c2830, .int .i64 t2827.2.2.last] 47 (0, 0)), Row r_status_writer 49 (.slice A2829 t2827.2.2.l.length c2830) t2827.2.2.l]) k ?_ ?_
              · skip
                replace S := S.row_nil (rInt .i64) 3
                exact ⟨([] : List Int), (0 : Int), (1 : Int), none, 0, o3147h, ⟨rfl, rfl, rfl, rfl, rfl, rfl, rfl, trivial⟩, E, S.pick [0, 1, 2] (by decide)⟩
              · intro n
                rintro ρ w3149 ⟨x3046, x3050, x3051, A3047, c3048, H, hρ, E, S⟩
                rw [agree_eta hρ]
                clear hρ
                cases n with
                | zero => cases H
                | succ k =>
                  rw [ferrymanlaw08_StatusBusy_l7.eq_2] at H
                  refine Wp_seq ?_
                  refine Wp_seq ?_
                  refine Wp_region_lit ?_
                  refine W_v (.int .i64 x3051) (x_move rfl) rfl ?_
                  refine W_v (.int .i64 (IntKind.i64.wrap (x1879 + (1 : Int)))) (x_move rfl) rfl ?_
                  refine W_v (.bool (decide (x3051 ≤ (IntKind.i64.wrap (x1879 + (1 : Int)))))) (x_ibin rfl rfl rfl rfl) rfl ?_
                  refine Wl_nil ?_
                  refine tn ?_
                  rcases iteS H with ⟨hb3150, H⟩ | ⟨hb3150, H⟩
                  · refine Wp_cond_true (congrArg Value.bool hb3150) ?_
                    refine Wp_skip ?_
                    refine tn ?_
                    refine Wp_seq ?_
                    obtain ⟨o3197, o3197h, o3197H⟩ := bindS H
                    refine Wp_cut (fun ρ w' => ∃ (x3192 : List Int) (x3196 : Int) (A3193 : Option Addr) (c3194 : Nat), (x3192, x3196) = o3197 ∧ Agree ρ [(0, .slice A0 a0.length c0), (3, .pointer (some ⟨b11, 0, none⟩)), (4, .int .i64 (IntKind.i64.wrap (x1879 + (1 : Int)))), (5, .int .i64 x1880), (9, .slice A3193 x3192.length c3194), (10, .int .i64 x3196), (11, .int .i64 x3051)] ∧ Ext w w' ∧ St w' M F [Row (rInt .i64) 3 (.slice A3193 x3192.length c3194) x3192, Blk b11 (.cells #[.slice A2829 t2827.2.2.l.length c2830, .int .i64 t2827.2.2.last] 47 (0, 0)), Row r_status_writer 49 (.slice A2829 t2827.2.2.l.length c2830) t2827.2.2.l]) ?_ ?_
                    · clear o3197H
                      have H := o3197h
                      clear o3197h
                      refine Wp_block ?_
                      refine Wp_seq ?_
                      refine Wp_region_lit ?_
                      refine W_v (.pointer (some ⟨b11, 0, none⟩)) (x_move rfl) rfl ?_
                      refine W_v (.int .i64 x3051) (x_move rfl) rfl ?_
                      obtain ⟨t3198, ht3199, H⟩ := bindS H
                      replace S : St w3149 M F [Blk b11 (.cells #[.slice A2829 t2827.2.2.l.length c2830, .int .i64 t2827.2.2.last] 47 (0, 0)), Row r_status_writer 49 (.slice A2829 t2827.2.2.l.length c2830) t2827.2.2.l, Row (rInt .i64) 3 (.slice A3047 x3046.length c3048) x3046] := S.pick [1, 2, 0] (by decide)
                      refine W_callF2 fn12 (status_Writers_Of_PO.con k M A2829 c2830 t2827.2.2 x3051 b11 t3198 hg0 ht3199) (Γ1 := [Blk b11 (.cells #[.slice A2829 t2827.2.2.l.length c2830, .int .i64 t2827.2.2.last] 47 (0, 0)), Row r_status_writer 49 (.slice A2829 t2827.2.2.l.length c2830) t2827.2.2.l]) (Γ2 := [Row (rInt .i64) 3 (.slice A3047 x3046.length c3048) x3046]) S rfl rfl (by rintro _ _ _ ⟨rfl, rfl⟩; exact (flat_cons flat_blk (flat_cons (flat_row (fun _ _ _ _ h => h)) flat_nil))) ?_
                      rintro _ w3200 _ Γ' E' S ⟨rfl, rfl⟩
                      replace E := E.trans E'
                      clear E'
                      replace S : St w3200 M F [Blk b11 (.cells #[.slice A2829 t2827.2.2.l.length c2830, .int .i64 t2827.2.2.last] 47 (0, 0)), Row r_status_writer 49 (.slice A2829 t2827.2.2.l.length c2830) t2827.2.2.l, Row (rInt .i64) 3 (.slice A3047 x3046.length c3048) x3046] := S
                      refine W_v (.tuple #[.int .u8 t3198.1, .int .i64 t3198.2]) (x_move rfl) rfl ?_
                      refine W_v (.int .u8 t3198.1) (x_extract rfl rfl) rfl ?_
                      refine W_v (.int .i64 t3198.2) (x_extract rfl rfl) rfl ?_
                      refine W_v (.int .u8 t3198.1) (x_assign rfl) rfl ?_
                      refine W_v (.int .i64 t3198.2) (x_assign rfl) rfl ?_
                      refine Wl_nil ?_
                      refine tn ?_
                      refine Wp_seq ?_
                      refine Wp_seq ?_
                      refine Wp_region_lit ?_
                      refine W_v (.int .u8 t3198.1) (x_move rfl) rfl ?_
                      refine W_v (.bool (t3198.1 == (1 : Int))) (x_ibin rfl rfl rfl rfl) rfl ?_
                      refine Wl_nil ?_
                      refine tn ?_
                      obtain ⟨o3205, o3205h, o3205H⟩ := bindS H
                      refine Wp_cut (fun ρ w' => ∃ (x3204 : Int), (x3204) = o3205 ∧ Agree ρ [(0, .slice A0 a0.length c0), (3, .pointer (some ⟨b11, 0, none⟩)), (4, .int .i64 (IntKind.i64.wrap (x1879 + (1 : Int)))), (5, .int .i64 x1880), (9, .slice A3047 x3046.length c3048), (10, .int .i64 x3204), (11, .int .i64 x3051), (12, .int .u8 t3198.1)] ∧ Ext w w' ∧ St w' M F [Blk b11 (.cells #[.slice A2829 t2827.2.2.l.length c2830, .int .i64 t2827.2.2.last] 47 (0, 0)), Row r_status_writer 49 (.slice A2829 t2827.2.2.l.length c2830) t2827.2.2.l, Row (rInt .i64) 3 (.slice A3047 x3046.length c3048) x3046]) ?_ ?_
                      · clear o3205H
                        have H := o3205h
                        clear o3205h
                        rcases iteS H with ⟨hb3206, H⟩ | ⟨hb3206, H⟩
                        · refine Wp_cond_true (congrArg Value.bool hb3206) ?_
                          refine Wp_region_lit ?_
                          refine W_v (.int .i64 x3050) (x_move rfl) rfl ?_
                          refine W_v (.int .i64 (IntKind.i64.wrap (x3050 + (1 : Int)))) (x_ibin rfl rfl rfl rfl) rfl ?_
                          refine W_v (.int .i64 (IntKind.i64.wrap (x3050 + (1 : Int)))) (x_assign rfl) rfl ?_
                          refine Wl_nil ?_
                          refine tn ?_
                          exact ⟨(IntKind.i64.wrap (x3050 + (1 : Int))), Option.some.inj H, ⟨rfl, rfl, rfl, rfl, rfl, rfl, rfl, rfl, trivial⟩, E, S.pick [0, 1, 2] (by decide)⟩
                        refine Wp_cond_false (congrArg Value.bool hb3206) ?_
                        refine Wp_skip ?_
                        refine tn ?_
                        exact ⟨x3050, Option.some.inj H, ⟨rfl, rfl, rfl, rfl, rfl, rfl, rfl, rfl, trivial⟩, E, S.pick [0, 1, 2] (by decide)⟩
                      clear o3205h
                      rintro ρ w3207 ⟨x3204, rfl, hρ, E, S⟩
                      rw [agree_eta hρ]
                      clear hρ
                      have H := o3205H
                      clear o3205H
                      refine tn ?_
                      refine Wp_seq ?_
                      refine Wp_region_lit ?_
                      refine W_v (.int .u8 t3198.1) (x_move rfl) rfl ?_
                      refine W_v (.bool (t3198.1 == (1 : Int))) (x_ibin rfl rfl rfl rfl) rfl ?_
                      refine W_v (.bool (t3198.1 == (1 : Int))) (x_move rfl) rfl ?_
                      refine Wl_cutN 3 (fun ρ w' => Agree ρ [(0, .slice A0 a0.length c0), (3, .pointer (some ⟨b11, 0, none⟩)), (4, .int .i64 (IntKind.i64.wrap (x1879 + (1 : Int)))), (5, .int .i64 x1880), (9, .slice A3047 x3046.length c3048), (10, .int .i64 x3204), (11, .int .i64 x3051), (76, .bool ((t3198.1 == (1 : Int)) || (t3198.1 == (2 : Int))))] ∧ w3207 = w') ?_ ?_
                      · rcases boolCases (t3198.1 == (1 : Int)) with hb3208 | hb3208
                        · skip
                          refine W_yes (congrArg some hb3208) ?_
                          refine W_v (.int .u8 t3198.1) (x_move rfl) rfl ?_
                          refine W_yes (congrArg some hb3208) ?_
                          refine W_v (.bool (t3198.1 == (2 : Int))) (x_ibin rfl rfl rfl rfl) rfl ?_
                          refine W_v (.bool (t3198.1 == (2 : Int))) (x_pick (k := false) (congrArg Value.bool hb3208) rfl) rfl ?_
                          refine Wl_nil ?_
                          exact ⟨⟨rfl, rfl, rfl, rfl, rfl, rfl, rfl, (by first | rfl | (rw [hb3208]; rfl) | (simp only [hb3208]; rfl)), trivial⟩, rfl⟩
                        · skip
                          refine W_no (skF hb3208) rfl ?_
                          refine W_no (skF hb3208) rfl ?_
                          refine W_v (.bool true) (x_pick (k := true) (congrArg Value.bool hb3208) rfl) rfl ?_
                          refine Wl_nil ?_
                          exact ⟨⟨rfl, rfl, rfl, rfl, rfl, rfl, rfl, (by first | rfl | (rw [hb3208]; rfl) | (simp only [hb3208]; rfl)), trivial⟩, rfl⟩
                      rintro ρ _ ⟨hρ, rfl⟩
                      rw [agree_eta hρ]
                      clear hρ
                      refine Wl_nil ?_
                      refine tn ?_
                      obtain ⟨o3225, o3225h, o3225H⟩ := bindS H
                      refine Wp_cut (fun ρ w' => ∃ (x3221 : List Int) (A3222 : Option Addr) (c3223 : Nat), (x3221) = o3225 ∧ Agree ρ [(0, .slice A0 a0.length c0), (3, .pointer (some ⟨b11, 0, none⟩)), (4, .int .i64 (IntKind.i64.wrap (x1879 + (1 : Int)))), (5, .int .i64 x1880), (9, .slice A3222 x3221.length c3223), (10, .int .i64 x3204), (11, .int .i64 x3051)] ∧ Ext w w' ∧ St w' M F [Row (rInt .i64) 3 (.slice A3222 x3221.length c3223) x3221, Blk b11 (.cells #[.slice A2829 t2827.2.2.l.length c2830, .int .i64 t2827.2.2.last] 47 (0, 0)), Row r_status_writer 49 (.slice A2829 t2827.2.2.l.length c2830) t2827.2.2.l]) ?_ ?_
                      · clear o3225H
                        have H := o3225h
                        clear o3225h
                        rcases iteS H with ⟨hb3226, H⟩ | ⟨hb3226, H⟩
                        · refine Wp_cond_true (congrArg Value.bool hb3226) ?_
                          refine Wp_region_lit ?_
                          refine W_v (.slice A3047 x3046.length c3048) (x_move rfl) rfl ?_
                          refine W_v (.int .i64 x3051) (x_move rfl) rfl ?_
                          refine W_bslice S #[.int .i64 x3051] Tryd.underlying32 ty3 rfl rfl #[.int .i64 0] (by kernel_rfl) (by kernel_rfl) rfl ?_
                          intro b3227 w3228 E' S
                          replace E := E.trans E'
                          clear E'
                          replace S := S.blk_row (r := (rInt .i64)) (l := ([x3051] : List Int)) 0 rfl 1 (Nat.le_refl 1) rfl (Cells.cons (vs := [.int .i64 x3051]) (rfl) Cells.nil)
                          obtain ⟨p3230, H⟩ := chkS H
                          obtain ⟨src3231, hs3232, hC3233⟩ := src_of_read (P := Tryd.prog) (ρ := (rInt .i64)) (l := ([x3051] : List Int)) (S.row_read 0 rfl) (by decide)
                          refine W_append S 3 rfl rfl rfl Tryd.underlying32 (.inl Tryd.underlying32) ty3 rfl (by decide) (by decide) hs3232 hC3233 rfl (by omega) rfl ?_
                          intro v3234 w3235 E' S
                          replace E := E.trans E'
                          clear E'
                          obtain ⟨A3236, c3237, rfl, _⟩ := (S.row_read 3 rfl).form
                          refine W_v (.slice A3236 (x3046 ++ ([x3051] : List Int)).length c3237) (x_assign rfl) rfl ?_
                          refine Wl_nil ?_
                          refine tn ?_
                          exact ⟨(x3046 ++ ([x3051] : List Int)), A3236, c3237, Option.some.inj H, ⟨rfl, rfl, rfl, rfl, rfl, rfl, rfl, trivial⟩, E, S.pick [3, 1, 2] (by decide)⟩
                        refine Wp_cond_false (congrArg Value.bool hb3226) ?_
                        refine Wp_skip ?_
                        refine tn ?_
                        exact ⟨x3046, A3047, c3048, Option.some.inj H, ⟨rfl, rfl, rfl, rfl, rfl, rfl, rfl, trivial⟩, E, S.pick [2, 0, 1] (by decide)⟩
                      clear o3225h
                      rintro ρ w3238 ⟨x3221, A3222, c3223, rfl, hρ, E, S⟩
                      rw [agree_eta hρ]
                      clear hρ
                      have H := o3225H
                      clear o3225H
                      refine bn ?_
                      refine tn ?_
                      exact ⟨x3221, x3204, A3222, c3223, Option.some.inj H, ⟨rfl, rfl, rfl, rfl, rfl, rfl, rfl, trivial⟩, E, S.pick [0, 1, 2] (by decide)⟩
                    clear o3197h
                    rintro ρ w3239 ⟨x3192, x3196, A3193, c3194, rfl, hρ, E, S⟩
                    rw [agree_eta hρ]
                    clear hρ
                    have H := o3197H
                    clear o3197H
                    refine tn ?_
                    refine Wp_region_lit ?_
                    refine W_v (.int .i64 x3051) (x_move rfl) rfl ?_
                    refine W_v (.int .i64 (IntKind.i64.wrap (x3051 + (1 : Int)))) (x_ibin rfl rfl rfl rfl) rfl ?_
                    refine W_v (.int .i64 (IntKind.i64.wrap (x3051 + (1 : Int)))) (x_assign rfl) rfl ?_
                    refine Wl_nil ?_
                    refine tn ?_
                    exact ⟨k, Nat.lt_succ_self k, ⟨x3192, x3196, (IntKind.i64.wrap (x3051 + (1 : Int))), A3193, c3194, H, ⟨rfl, rfl, rfl, rfl, rfl, rfl, rfl, trivial⟩, E, S.pick [0, 1, 2] (by decide)⟩⟩
                  refine Wp_cond_false (congrArg Value.bool hb3150) ?_
                  refine Wp_exit ?_
                  refine tx (tx (bsm (?_)))
                  refine tn ?_
                  exact ⟨x3046, x3050, A3047, c3048, Option.some.inj H, ⟨rfl, rfl, rfl, rfl, rfl, rfl, trivial⟩, E, S.pick [0, 1, 2] (by decide)⟩
            clear o3147h
            rintro ρ w3240 ⟨x3142, x3146, A3143, c3144, rfl, hρ, E, S⟩
            rw [agree_eta hρ]
            clear hρ
            have H := o3147H
            clear o3147H
            refine tn ?_
            refine Wp_seq ?_
            refine Wp_region_lit ?_
            refine W_v (.pointer (some ⟨b11, 0, none⟩)) (x_move rfl) rfl ?_
            obtain ⟨t3241, ht3242, H⟩ := bindS H
            replace S : St w3240 M F [Blk b11 (.cells #[.slice A2829 t2827.2.2.l.length c2830, .int .i64 t2827.2.2.last] 47 (0, 0)), Row r_status_writer 49 (.slice A2829 t2827.2.2.l.length c2830) t2827.2.2.l, Row (rInt .i64) 3 (.slice A3143 x3142.length c3144) x3142] := S.pick [1, 2, 0] (by decide)
            refine W_callF2 fn14 (status_Writers_Busy_PO.con k M A2829 c2830 t2827.2.2 b11 t3241 hg0 ht3242) (Γ1 := [Blk b11 (.cells #[.slice A2829 t2827.2.2.l.length c2830, .int .i64 t2827.2.2.last] 47 (0, 0)), Row r_status_writer 49 (.slice A2829 t2827.2.2.l.length c2830) t2827.2.2.l]) (Γ2 := [Row (rInt .i64) 3 (.slice A3143 x3142.length c3144) x3142]) S rfl rfl (by rintro _ _ _ ⟨_, _, rfl, rfl⟩; exact (flat_cons (flat_row (fun _ _ _ _ h => h)) (flat_cons flat_blk (flat_cons (flat_row (fun _ _ _ _ h => h)) flat_nil)))) ?_
            rintro _ w3246 _ Γ' E' S ⟨A3243, c3244, rfl, rfl⟩
            replace E := E.trans E'
            clear E'
            replace S : St w3246 M F [Row (rInt .i64) 3 (.slice A3243 t3241.length c3244) t3241, Blk b11 (.cells #[.slice A2829 t2827.2.2.l.length c2830, .int .i64 t2827.2.2.last] 47 (0, 0)), Row r_status_writer 49 (.slice A2829 t2827.2.2.l.length c2830) t2827.2.2.l, Row (rInt .i64) 3 (.slice A3143 x3142.length c3144) x3142] := S
            refine W_v (.slice A3143 x3142.length c3144) (x_move rfl) rfl ?_
            replace S : St w3246 M F [Row (rInt .i64) 3 (.slice A3243 t3241.length c3244) t3241, Row (rInt .i64) 3 (.slice A3143 x3142.length c3144) x3142, Blk b11 (.cells #[.slice A2829 t2827.2.2.l.length c2830, .int .i64 t2827.2.2.last] 47 (0, 0)), Row r_status_writer 49 (.slice A2829 t2827.2.2.l.length c2830) t2827.2.2.l] := S.pick [0, 3, 1, 2] (by decide)
            obtain ⟨t3249, ht3250, H⟩ := bindS H
            refine W_callN 2 fn13 (fun h9 hs9 hd9 => ferrymanref08_Ints.con k _ A3243 c3244 t3241 A3143 c3144 x3142 t3249 (Sats.row hs9 hd9 0 rfl) (Sats.row hs9 hd9 1 rfl) (let ⟨gt, fr, h8⟩ := hg0; ⟨gt, fr, Hp.le_union_left _ _ _ _ h8⟩) ht3250) S rfl rfl (by rintro _ _ _ ⟨_, rfl⟩; exact flat_nil) ?_
            rintro _ w3251 _ Γ' E' S ⟨rfl, rfl⟩
            replace E := E.trans E'
            clear E'
            refine W_v (.bool (!t3249)) (x_not rfl) rfl ?_
            refine W_v (.bool (!t3249)) (x_move rfl) rfl ?_
            obtain ⟨o3264, o3264h, o3264H⟩ := bindS H
            clear H
            refine Wl_cutN 5 (fun ρ w' => ∃ (x3263 : Bool), (x3263) = o3264 ∧ Agree ρ [(0, .slice A0 a0.length c0), (3, .pointer (some ⟨b11, 0, none⟩)), (4, .int .i64 (IntKind.i64.wrap (x1879 + (1 : Int)))), (5, .int .i64 x1880), (91, .bool x3263)] ∧ Ext w w' ∧ St w' M F [Blk b11 (.cells #[.slice A2829 t2827.2.2.l.length c2830, .int .i64 t2827.2.2.last] 47 (0, 0)), Row r_status_writer 49 (.slice A2829 t2827.2.2.l.length c2830) t2827.2.2.l]) ?_ ?_
            · have H := o3264h
              rcases iteS H with ⟨hb3262, H⟩ | ⟨hb3262, H⟩
              · skip
                refine W_no (skF hb3262) rfl ?_
                refine W_no (skF hb3262) rfl ?_
                refine W_no (skF hb3262) rfl ?_
                refine W_no (skF hb3262) rfl ?_
                refine W_v (.bool true) (x_pick (k := true) (congrArg Value.bool hb3262) rfl) rfl ?_
                refine Wl_nil ?_
                exact ⟨true, Option.some.inj H, ⟨rfl, rfl, rfl, rfl, rfl, trivial⟩, E, S.pick [2, 3] (by decide)⟩
              · skip
                refine W_yes (congrArg some hb3262) ?_
                refine W_v (.pointer (some ⟨b11, 0, none⟩)) (x_move rfl) rfl ?_
                refine W_yes (congrArg some hb3262) ?_
                obtain ⟨t3265, ht3266, H⟩ := bindS H
                replace S : St w3251 M F [Blk b11 (.cells #[.slice A2829 t2827.2.2.l.length c2830, .int .i64 t2827.2.2.last] 47 (0, 0)), Row r_status_writer 49 (.slice A2829 t2827.2.2.l.length c2830) t2827.2.2.l, Row (rInt .i64) 3 (.slice A3243 t3241.length c3244) t3241, Row (rInt .i64) 3 (.slice A3143 x3142.length c3144) x3142] := S.pick [2, 3, 0, 1] (by decide)
                refine W_callF2 fn15 (status_Writers_Active_PO.con k M A2829 c2830 t2827.2.2 b11 t3265 hg0 ht3266) (Γ1 := [Blk b11 (.cells #[.slice A2829 t2827.2.2.l.length c2830, .int .i64 t2827.2.2.last] 47 (0, 0)), Row r_status_writer 49 (.slice A2829 t2827.2.2.l.length c2830) t2827.2.2.l]) (Γ2 := [Row (rInt .i64) 3 (.slice A3243 t3241.length c3244) t3241, Row (rInt .i64) 3 (.slice A3143 x3142.length c3144) x3142]) S rfl rfl (by rintro _ _ _ ⟨rfl, rfl⟩; exact (flat_cons flat_blk (flat_cons (flat_row (fun _ _ _ _ h => h)) flat_nil))) ?_
                rintro _ w3267 _ Γ' E' S ⟨rfl, rfl⟩
                replace E := E.trans E'
                clear E'
                replace S : St w3267 M F [Blk b11 (.cells #[.slice A2829 t2827.2.2.l.length c2830, .int .i64 t2827.2.2.last] 47 (0, 0)), Row r_status_writer 49 (.slice A2829 t2827.2.2.l.length c2830) t2827.2.2.l, Row (rInt .i64) 3 (.slice A3243 t3241.length c3244) t3241, Row (rInt .i64) 3 (.slice A3143 x3142.length c3144) x3142] := S
                refine W_yes (congrArg some hb3262) ?_
                refine W_v (.int .i64 x3146) (x_move rfl) rfl ?_
                refine W_yes (congrArg some hb3262) ?_
                refine W_v (.bool (t3265 != x3146)) (x_ibin rfl rfl rfl rfl) rfl ?_
                refine W_v (.bool (t3265 != x3146)) (x_pick (k := false) (congrArg Value.bool hb3262) rfl) rfl ?_
                refine Wl_nil ?_
                exact ⟨(t3265 != x3146), Option.some.inj H, ⟨rfl, rfl, rfl, rfl, rfl, trivial⟩, E, S.pick [0, 1] (by decide)⟩
            clear o3264h
            rintro ρ w3270 ⟨x3263, rfl, hρ, E, S⟩
            rw [agree_eta hρ]
            clear hρ
            have H := o3264H
            clear o3264H
            refine W_v (.bool x3263) (x_move rfl) rfl ?_
            obtain ⟨o3283, o3283h, o3283H⟩ := bindS H
            clear H
            refine Wl_cutN 6 (fun ρ w' => ∃ (x3282 : Bool), (x3282) = o3283 ∧ Agree ρ [(0, .slice A0 a0.length c0), (3, .pointer (some ⟨b11, 0, none⟩)), (4, .int .i64 (IntKind.i64.wrap (x1879 + (1 : Int)))), (5, .int .i64 x1880), (98, .bool x3282)] ∧ Ext w w' ∧ St w' M F [Blk b11 (.cells #[.slice A2829 t2827.2.2.l.length c2830, .int .i64 t2827.2.2.last] 47 (0, 0)), Row r_status_writer 49 (.slice A2829 t2827.2.2.l.length c2830) t2827.2.2.l]) ?_ ?_
            · have H := o3283h
              rcases iteS H with ⟨hb3281, H⟩ | ⟨hb3281, H⟩
              · skip
                refine W_no (skF hb3281) rfl ?_
                refine W_no (skF hb3281) rfl ?_
                refine W_no (skF hb3281) rfl ?_
                refine W_no (skF hb3281) rfl ?_
                refine W_no (skF hb3281) rfl ?_
                refine W_v (.bool true) (x_pick (k := true) (congrArg Value.bool hb3281) rfl) rfl ?_
                refine Wl_nil ?_
                exact ⟨true, Option.some.inj H, ⟨rfl, rfl, rfl, rfl, rfl, trivial⟩, E, S.pick [0, 1] (by decide)⟩
              · skip
                refine W_yes (congrArg some hb3281) ?_
                refine W_v (.pointer (some ⟨b11, 0, none⟩)) (x_move rfl) rfl ?_
                refine W_yes (congrArg some hb3281) ?_
                obtain ⟨t3284, ht3285, H⟩ := bindS H
                refine W_callF2 fn10 (status_Writers_High_PO.con k M A2829 c2830 t2827.2.2 b11 t3284 hg0 ht3285) (Γ1 := [Blk b11 (.cells #[.slice A2829 t2827.2.2.l.length c2830, .int .i64 t2827.2.2.last] 47 (0, 0)), Row r_status_writer 49 (.slice A2829 t2827.2.2.l.length c2830) t2827.2.2.l]) (Γ2 := []) S rfl rfl (by rintro _ _ _ ⟨rfl, rfl⟩; exact (flat_cons flat_blk (flat_cons (flat_row (fun _ _ _ _ h => h)) flat_nil))) ?_
                rintro _ w3286 _ Γ' E' S ⟨rfl, rfl⟩
                replace E := E.trans E'
                clear E'
                replace S : St w3286 M F [Blk b11 (.cells #[.slice A2829 t2827.2.2.l.length c2830, .int .i64 t2827.2.2.last] 47 (0, 0)), Row r_status_writer 49 (.slice A2829 t2827.2.2.l.length c2830) t2827.2.2.l] := S
                refine W_yes (congrArg some hb3281) ?_
                refine W_v (.int .i64 (IntKind.i64.wrap (x1879 + (1 : Int)))) (x_move rfl) rfl ?_
                refine W_yes (congrArg some hb3281) ?_
                refine W_v (.int .i64 (IntKind.i64.wrap ((IntKind.i64.wrap (x1879 + (1 : Int))) + (1 : Int)))) (x_ibin rfl rfl rfl rfl) rfl ?_
                refine W_yes (congrArg some hb3281) ?_
                refine W_v (.bool (t3284 != (IntKind.i64.wrap ((IntKind.i64.wrap (x1879 + (1 : Int))) + (1 : Int))))) (x_ibin rfl rfl rfl rfl) rfl ?_
                refine W_v (.bool (t3284 != (IntKind.i64.wrap ((IntKind.i64.wrap (x1879 + (1 : Int))) + (1 : Int))))) (x_pick (k := false) (congrArg Value.bool hb3281) rfl) rfl ?_
                refine Wl_nil ?_
                exact ⟨(t3284 != (IntKind.i64.wrap ((IntKind.i64.wrap (x1879 + (1 : Int))) + (1 : Int)))), Option.some.inj H, ⟨rfl, rfl, rfl, rfl, rfl, trivial⟩, E, S.pick [0, 1] (by decide)⟩
            clear o3283h
            rintro ρ w3289 ⟨x3282, rfl, hρ, E, S⟩
            rw [agree_eta hρ]
            clear hρ
            have H := o3283H
            clear o3283H
            refine Wl_nil ?_
            refine tn ?_
            rcases iteS H with ⟨hb3290, H⟩ | ⟨hb3290, H⟩
            · refine Wp_cond_true (congrArg Value.bool hb3290) ?_
              refine Wp_seq ?_
              refine Wp_region_lit ?_
              refine W_v (.bool false) (x_assign rfl) rfl ?_
              refine Wl_nil ?_
              refine tn ?_
              refine Wp_ret ?_
              refine br (tr (tr (br (tr (tr (?_))))))
              obtain rfl := Option.some.inj H
              have H := o2809H
              replace H := elimL H
              obtain rfl := Option.some.inj H
              exact ⟨_, _, _, fun w1 e1 => run_resR (vs := [.bool false]) (FA.cons (rfl) (FA.nil)), HM, E, S.pick [] (by decide), ⟨rfl, rfl⟩⟩
            refine Wp_cond_false (congrArg Value.bool hb3290) ?_
            refine Wp_skip ?_
            refine bn ?_
            refine tn ?_
            refine Wp_region_lit ?_
            refine W_v (.int .i64 x1880) (x_move rfl) rfl ?_
            refine W_v (.int .i64 (IntKind.i64.wrap (x1880 + (1 : Int)))) (x_ibin rfl rfl rfl rfl) rfl ?_
            refine W_v (.int .i64 (IntKind.i64.wrap (x1880 + (1 : Int)))) (x_assign rfl) rfl ?_
            refine Wl_nil ?_
            refine tn ?_
            exact ⟨k, Nat.lt_succ_self k, ⟨(IntKind.i64.wrap (x1879 + (1 : Int))), (IntKind.i64.wrap (x1880 + (1 : Int))), t2827.2.2.l, t2827.2.2.last, A2829, c2830, H, ⟨rfl, rfl, rfl, rfl, trivial⟩, E, S.pick [1, 0] (by decide)⟩⟩
          refine Wp_cond_false (congrArg Value.bool hb2845) ?_
          refine Wp_skip ?_
          refine tn ?_
          refine Wp_seq ?_
          refine Wp_region_lit ?_
          refine W_v (.slice none 0 0) (x_assign rfl) rfl ?_
          refine Wl_nil ?_
          refine tn ?_
          refine Wp_seq ?_
          refine Wp_region_lit ?_
          refine W_v (.int .i64 0) (x_assign rfl) rfl ?_
          refine Wl_nil ?_
          refine tn ?_
          refine Wp_seq ?_
          refine Wp_seq ?_
          refine Wp_region_lit ?_
          refine W_v (.int .i64 1) (x_assign rfl) rfl ?_
          refine Wl_nil ?_
          refine tn ?_
          obtain ⟨o3590, o3590h, o3590H⟩ := bindS H
          clear H
          refine Wp_blockJ (fun ρ w' => ∃ (x3585 : List Int) (x3589 : Int) (A3586 : Option Addr) (c3587 : Nat), (x3585, x3589) = o3590 ∧ Agree ρ [(0, .slice A0 a0.length c0), (3, .pointer (some ⟨b11, 0, none⟩)), (4, .int .i64 x1879), (5, .int .i64 x1880), (9, .slice A3586 x3585.length c3587), (10, .int .i64 x3589)] ∧ Ext w w' ∧ St w' M F [Row (rInt .i64) 3 (.slice A3586 x3585.length c3587) x3585, Blk b11 (.cells #[.slice A2829 t2827.2.2.l.length c2830, .int .i64 t2827.2.2.last] 47 (0, 0)), Row r_status_writer 49 (.slice A2829 t2827.2.2.l.length c2830) t2827.2.2.l]) ?_ ?_
          · skip
            refine Wp_loop (fun n ρ w' => ∃ (x3489 : List Int) (x3493 : Int) (x3494 : Int) (A3490 : Option Addr) (c3491 : Nat), ferrymanlaw08_StatusBusy_l8 x1879 t2827 n x3489 x3493 x3494 = some o3590 ∧ Agree ρ [(0, .slice A0 a0.length c0), (3, .pointer (some ⟨b11, 0, none⟩)), (4, .int .i64 x1879), (5, .int .i64 x1880), (9, .slice A3490 x3489.length c3491), (10, .int .i64 x3493), (11, .int .i64 x3494)] ∧ Ext w w' ∧ St w' M F [Row (rInt .i64) 3 (.slice A3490 x3489.length c3491) x3489, Blk b11 (.cells #[.slice A2829 t2827.2.2.l.length c2830, .int .i64 t2827.2.2.last] 47 (0, 0)), Row r_status_writer 49 (.slice A2829 t2827.2.2.l.length c2830) t2827.2.2.l]) k ?_ ?_
            · skip
              replace S := S.row_nil (rInt .i64) 3
              exact ⟨([] : List Int), (0 : Int), (1 : Int), none, 0, o3590h, ⟨rfl, rfl, rfl, rfl, rfl, rfl, rfl, trivial⟩, E, S.pick [0, 1, 2] (by decide)⟩
            · intro n
              rintro ρ w3592 ⟨x3489, x3493, x3494, A3490, c3491, H, hρ, E, S⟩
              rw [agree_eta hρ]
              clear hρ
              cases n with
              | zero => cases H
              | succ k =>
                rw [ferrymanlaw08_StatusBusy_l8.eq_2] at H
                refine Wp_seq ?_
                refine Wp_seq ?_
                refine Wp_region_lit ?_
                refine W_v (.int .i64 x3494) (x_move rfl) rfl ?_
                refine W_v (.int .i64 x1879) (x_move rfl) rfl ?_
                refine W_v (.bool (decide (x3494 ≤ x1879))) (x_ibin rfl rfl rfl rfl) rfl ?_
                refine Wl_nil ?_
                refine tn ?_
                rcases iteS H with ⟨hb3593, H⟩ | ⟨hb3593, H⟩
                · refine Wp_cond_true (congrArg Value.bool hb3593) ?_
                  refine Wp_skip ?_
                  refine tn ?_
                  refine Wp_seq ?_
                  obtain ⟨o3640, o3640h, o3640H⟩ := bindS H
                  refine Wp_cut (fun ρ w' => ∃ (x3635 : List Int) (x3639 : Int) (A3636 : Option Addr) (c3637 : Nat), (x3635, x3639) = o3640 ∧ Agree ρ [(0, .slice A0 a0.length c0), (3, .pointer (some ⟨b11, 0, none⟩)), (4, .int .i64 x1879), (5, .int .i64 x1880), (9, .slice A3636 x3635.length c3637), (10, .int .i64 x3639), (11, .int .i64 x3494)] ∧ Ext w w' ∧ St w' M F [Row (rInt .i64) 3 (.slice A3636 x3635.length c3637) x3635, Blk b11 (.cells #[.slice A2829 t2827.2.2.l.length c2830, .int .i64 t2827.2.2.last] 47 (0, 0)), Row r_status_writer 49 (.slice A2829 t2827.2.2.l.length c2830) t2827.2.2.l]) ?_ ?_
                  · clear o3640H
                    have H := o3640h
                    clear o3640h
                    refine Wp_block ?_
                    refine Wp_seq ?_
                    refine Wp_region_lit ?_
                    refine W_v (.pointer (some ⟨b11, 0, none⟩)) (x_move rfl) rfl ?_
                    refine W_v (.int .i64 x3494) (x_move rfl) rfl ?_
                    obtain ⟨t3641, ht3642, H⟩ := bindS H
                    replace S : St w3592 M F [Blk b11 (.cells #[.slice A2829 t2827.2.2.l.length c2830, .int .i64 t2827.2.2.last] 47 (0, 0)), Row r_status_writer 49 (.slice A2829 t2827.2.2.l.length c2830) t2827.2.2.l, Row (rInt .i64) 3 (.slice A3490 x3489.length c3491) x3489] := S.pick [1, 2, 0] (by decide)
                    refine W_callF2 fn12 (status_Writers_Of_PO.con k M A2829 c2830 t2827.2.2 x3494 b11 t3641 hg0 ht3642) (Γ1 := [Blk b11 (.cells #[.slice A2829 t2827.2.2.l.length c2830, .int .i64 t2827.2.2.last] 47 (0, 0)), Row r_status_writer 49 (.slice A2829 t2827.2.2.l.length c2830) t2827.2.2.l]) (Γ2 := [Row (rInt .i64) 3 (.slice A3490 x3489.length c3491) x3489]) S rfl rfl (by rintro _ _ _ ⟨rfl, rfl⟩; exact (flat_cons flat_blk (flat_cons (flat_row (fun _ _ _ _ h => h)) flat_nil))) ?_
                    rintro _ w3643 _ Γ' E' S ⟨rfl, rfl⟩
                    replace E := E.trans E'
                    clear E'
                    replace S : St w3643 M F [Blk b11 (.cells #[.slice A2829 t2827.2.2.l.length c2830, .int .i64 t2827.2.2.last] 47 (0, 0)), Row r_status_writer 49 (.slice A2829 t2827.2.2.l.length c2830) t2827.2.2.l, Row (rInt .i64) 3 (.slice A3490 x3489.length c3491) x3489] := S
                    refine W_v (.tuple #[.int .u8 t3641.1, .int .i64 t3641.2]) (x_move rfl) rfl ?_
                    refine W_v (.int .u8 t3641.1) (x_extract rfl rfl) rfl ?_
                    refine W_v (.int .i64 t3641.2) (x_extract rfl rfl) rfl ?_
                    refine W_v (.int .u8 t3641.1) (x_assign rfl) rfl ?_
                    refine W_v (.int .i64 t3641.2) (x_assign rfl) rfl ?_
                    refine Wl_nil ?_
                    refine tn ?_
                    refine Wp_seq ?_
                    refine Wp_seq ?_
                    refine Wp_region_lit ?_
                    refine W_v (.int .u8 t3641.1) (x_move rfl) rfl ?_
                    refine W_v (.bool (t3641.1 == (1 : Int))) (x_ibin rfl rfl rfl rfl) rfl ?_
                    refine Wl_nil ?_
                    refine tn ?_
                    obtain ⟨o3648, o3648h, o3648H⟩ := bindS H
                    refine Wp_cut (fun ρ w' => ∃ (x3647 : Int), (x3647) = o3648 ∧ Agree ρ [(0, .slice A0 a0.length c0), (3, .pointer (some ⟨b11, 0, none⟩)), (4, .int .i64 x1879), (5, .int .i64 x1880), (9, .slice A3490 x3489.length c3491), (10, .int .i64 x3647), (11, .int .i64 x3494), (12, .int .u8 t3641.1)] ∧ Ext w w' ∧ St w' M F [Blk b11 (.cells #[.slice A2829 t2827.2.2.l.length c2830, .int .i64 t2827.2.2.last] 47 (0, 0)), Row r_status_writer 49 (.slice A2829 t2827.2.2.l.length c2830) t2827.2.2.l, Row (rInt .i64) 3 (.slice A3490 x3489.length c3491) x3489]) ?_ ?_
                    · clear o3648H
                      have H := o3648h
                      clear o3648h
                      rcases iteS H with ⟨hb3649, H⟩ | ⟨hb3649, H⟩
                      · refine Wp_cond_true (congrArg Value.bool hb3649) ?_
                        refine Wp_region_lit ?_
                        refine W_v (.int .i64 x3493) (x_move rfl) rfl ?_
                        refine W_v (.int .i64 (IntKind.i64.wrap (x3493 + (1 : Int)))) (x_ibin rfl rfl rfl rfl) rfl ?_
                        refine W_v (.int .i64 (IntKind.i64.wrap (x3493 + (1 : Int)))) (x_assign rfl) rfl ?_
                        refine Wl_nil ?_
                        refine tn ?_
                        exact ⟨(IntKind.i64.wrap (x3493 + (1 : Int))), Option.some.inj H, ⟨rfl, rfl, rfl, rfl, rfl, rfl, rfl, rfl, trivial⟩, E, S.pick [0, 1, 2] (by decide)⟩
                      refine Wp_cond_false (congrArg Value.bool hb3649) ?_
                      refine Wp_skip ?_
                      refine tn ?_
                      exact ⟨x3493, Option.some.inj H, ⟨rfl, rfl, rfl, rfl, rfl, rfl, rfl, rfl, trivial⟩, E, S.pick [0, 1, 2] (by decide)⟩
                    clear o3648h
                    rintro ρ w3650 ⟨x3647, rfl, hρ, E, S⟩
                    rw [agree_eta hρ]
                    clear hρ
                    have H := o3648H
                    clear o3648H
                    refine tn ?_
                    refine Wp_seq ?_
                    refine Wp_region_lit ?_
                    refine W_v (.int .u8 t3641.1) (x_move rfl) rfl ?_
                    refine W_v (.bool (t3641.1 == (1 : Int))) (x_ibin rfl rfl rfl rfl) rfl ?_
                    refine W_v (.bool (t3641.1 == (1 : Int))) (x_move rfl) rfl ?_
                    refine Wl_cutN 3 (fun ρ w' => Agree ρ [(0, .slice A0 a0.length c0), (3, .pointer (some ⟨b11, 0, none⟩)), (4, .int .i64 x1879), (5, .int .i64 x1880), (9, .slice A3490 x3489.length c3491), (10, .int .i64 x3647), (11, .int .i64 x3494), (76, .bool ((t3641.1 == (1 : Int)) || (t3641.1 == (2 : Int))))] ∧ w3650 = w') ?_ ?_
                    · rcases boolCases (t3641.1 == (1 : Int)) with hb3651 | hb3651
                      · skip
                        refine W_yes (congrArg some hb3651) ?_
                        refine W_v (.int .u8 t3641.1) (x_move rfl) rfl ?_
                        refine W_yes (congrArg some hb3651) ?_
                        refine W_v (.bool (t3641.1 == (2 : Int))) (x_ibin rfl rfl rfl rfl) rfl ?_
                        refine W_v (.bool (t3641.1 == (2 : Int))) (x_pick (k := false) (congrArg Value.bool hb3651) rfl) rfl ?_
                        refine Wl_nil ?_
                        exact ⟨⟨rfl, rfl, rfl, rfl, rfl, rfl, rfl, (by first | rfl | (rw [hb3651]; rfl) | (simp only [hb3651]; rfl)), trivial⟩, rfl⟩
                      · skip
                        refine W_no (skF hb3651) rfl ?_
                        refine W_no (skF hb3651) rfl ?_
                        refine W_v (.bool true) (x_pick (k := true) (congrArg Value.bool hb3651) rfl) rfl ?_
                        refine Wl_nil ?_
                        exact ⟨⟨rfl, rfl, rfl, rfl, rfl, rfl, rfl, (by first | rfl | (rw [hb3651]; rfl) | (simp only [hb3651]; rfl)), trivial⟩, rfl⟩
                    rintro ρ _ ⟨hρ, rfl⟩
                    rw [agree_eta hρ]
                    clear hρ
                    refine Wl_nil ?_
                    refine tn ?_
                    obtain ⟨o3668, o3668h, o3668H⟩ := bindS H
                    refine Wp_cut (fun ρ w' => ∃ (x3664 : List Int) (A3665 : Option Addr) (c3666 : Nat), (x3664) = o3668 ∧ Agree ρ [(0, .slice A0 a0.length c0), (3, .pointer (some ⟨b11, 0, none⟩)), (4, .int .i64 x1879), (5, .int .i64 x1880), (9, .slice A3665 x3664.length c3666), (10, .int .i64 x3647), (11, .int .i64 x3494)] ∧ Ext w w' ∧ St w' M F [Row (rInt .i64) 3 (.slice A3665 x3664.length c3666) x3664, Blk b11 (.cells #[.slice A2829 t2827.2.2.l.length c2830, .int .i64 t2827.2.2.last] 47 (0, 0)), Row r_status_writer 49 (.slice A2829 t2827.2.2.l.length c2830) t2827.2.2.l]) ?_ ?_
                    · clear o3668H
                      have H := o3668h
                      clear o3668h
                      rcases iteS H with ⟨hb3669, H⟩ | ⟨hb3669, H⟩
                      · refine Wp_cond_true (congrArg Value.bool hb3669) ?_
                        refine Wp_region_lit ?_
                        refine W_v (.slice A3490 x3489.length c3491) (x_move rfl) rfl ?_
                        refine W_v (.int .i64 x3494) (x_move rfl) rfl ?_
                        refine W_bslice S #[.int .i64 x3494] Tryd.underlying32 ty3 rfl rfl #[.int .i64 0] (by kernel_rfl) (by kernel_rfl) rfl ?_
                        intro b3670 w3671 E' S
                        replace E := E.trans E'
                        clear E'
                        replace S := S.blk_row (r := (rInt .i64)) (l := ([x3494] : List Int)) 0 rfl 1 (Nat.le_refl 1) rfl (Cells.cons (vs := [.int .i64 x3494]) (rfl) Cells.nil)
                        obtain ⟨p3673, H⟩ := chkS H
                        obtain ⟨src3674, hs3675, hC3676⟩ := src_of_read (P := Tryd.prog) (ρ := (rInt .i64)) (l := ([x3494] : List Int)) (S.row_read 0 rfl) (by decide)
                        refine W_append S 3 rfl rfl rfl Tryd.underlying32 (.inl Tryd.underlying32) ty3 rfl (by decide) (by decide) hs3675 hC3676 rfl (by omega) rfl ?_
                        intro v3677 w3678 E' S
                        replace E := E.trans E'
                        clear E'
                        obtain ⟨A3679, c3680, rfl, _⟩ := (S.row_read 3 rfl).form
                        refine W_v (.slice A3679 (x3489 ++ ([x3494] : List Int)).length c3680) (x_assign rfl) rfl ?_
                        refine Wl_nil ?_
                        refine tn ?_
                        exact ⟨(x3489 ++ ([x3494] : List Int)), A3679, c3680, Option.some.inj H, ⟨rfl, rfl, rfl, rfl, rfl, rfl, rfl, trivial⟩, E, S.pick [3, 1, 2] (by decide)⟩
                      refine Wp_cond_false (congrArg Value.bool hb3669) ?_
                      refine Wp_skip ?_
                      refine tn ?_
                      exact ⟨x3489, A3490, c3491, Option.some.inj H, ⟨rfl, rfl, rfl, rfl, rfl, rfl, rfl, trivial⟩, E, S.pick [2, 0, 1] (by decide)⟩
                    clear o3668h
                    rintro ρ w3681 ⟨x3664, A3665, c3666, rfl, hρ, E, S⟩
                    rw [agree_eta hρ]
                    clear hρ
                    have H := o3668H
                    clear o3668H
                    refine bn ?_
                    refine tn ?_
                    exact ⟨x3664, x3647, A3665, c3666, Option.some.inj H, ⟨rfl, rfl, rfl, rfl, rfl, rfl, rfl, trivial⟩, E, S.pick [0, 1, 2] (by decide)⟩
                  clear o3640h
                  rintro ρ w3682 ⟨x3635, x3639, A3636, c3637, rfl, hρ, E, S⟩
                  rw [agree_eta hρ]
                  clear hρ
                  have H := o3640H
                  clear o3640H
                  refine tn ?_
                  refine Wp_region_lit ?_
                  refine W_v (.int .i64 x3494) (x_move rfl) rfl ?_
                  refine W_v (.int .i64 (IntKind.i64.wrap (x3494 + (1 : Int)))) (x_ibin rfl rfl rfl rfl) rfl ?_
                  refine W_v (.int .i64 (IntKind.i64.wrap (x3494 + (1 : Int)))) (x_assign rfl) rfl ?_
                  refine Wl_nil ?_
                  refine tn ?_
                  exact ⟨k, Nat.lt_succ_self k, ⟨x3635, x3639, (IntKind.i64.wrap (x3494 + (1 : Int))), A3636, c3637, H, ⟨rfl, rfl, rfl, rfl, rfl, rfl, rfl, trivial⟩, E, S.pick [0, 1, 2] (by decide)⟩⟩
                refine Wp_cond_false (congrArg Value.bool hb3593) ?_
                refine Wp_exit ?_
                refine tx (tx (bsm (?_)))
                refine tn ?_
                exact ⟨x3489, x3493, A3490, c3491, Option.some.inj H, ⟨rfl, rfl, rfl, rfl, rfl, rfl, trivial⟩, E, S.pick [0, 1, 2] (by decide)⟩
          clear o3590h
          rintro ρ w3683 ⟨x3585, x3589, A3586, c3587, rfl, hρ, E, S⟩
          rw [agree_eta hρ]
          clear hρ
          have H := o3590H
          clear o3590H
          refine tn ?_
          refine Wp_seq ?_
          refine Wp_region_lit ?_
          refine W_v (.pointer (some ⟨b11, 0, none⟩)) (x_move rfl) rfl ?_
          obtain ⟨t3684, ht3685, H⟩ := bindS H
          replace S : St w3683 M F [Blk b11 (.cells #[.slice A2829 t2827.2.2.l.length c2830, .int .i64 t2827.2.2.last] 47 (0, 0)), Row r_status_writer 49 (.slice A2829 t2827.2.2.l.length c2830) t2827.2.2.l, Row (rInt .i64) 3 (.slice A3586 x3585.length c3587) x3585] := S.pick [1, 2, 0] (by decide)
          refine W_callF2 fn14 (status_Writers_Busy_PO.con k M A2829 c2830 t2827.2.2 b11 t3684 hg0 ht3685) (Γ1 := [Blk b11 (.cells #[.slice A2829 t2827.2.2.l.length c2830, .int .i64 t2827.2.2.last] 47 (0, 0)), Row r_status_writer 49 (.slice A2829 t2827.2.2.l.length c2830) t2827.2.2.l]) (Γ2 := [Row (rInt .i64) 3 (.slice A3586 x3585.length c3587) x3585]) S rfl rfl (by rintro _ _ _ ⟨_, _, rfl, rfl⟩; exact (flat_cons (flat_row (fun _ _ _ _ h => h)) (flat_cons flat_blk (flat_cons (flat_row (fun _ _ _ _ h => h)) flat_nil)))) ?_
          rintro _ w3689 _ Γ' E' S ⟨A3686, c3687, rfl, rfl⟩
          replace E := E.trans E'
          clear E'
          replace S : St w3689 M F [Row (rInt .i64) 3 (.slice A3686 t3684.length c3687) t3684, Blk b11 (.cells #[.slice A2829 t2827.2.2.l.length c2830, .int .i64 t2827.2.2.last] 47 (0, 0)), Row r_status_writer 49 (.slice A2829 t2827.2.2.l.length c2830) t2827.2.2.l, Row (rInt .i64) 3 (.slice A3586 x3585.length c3587) x3585] := S
          refine W_v (.slice A3586 x3585.length c3587) (x_move rfl) rfl ?_
          replace S : St w3689 M F [Row (rInt .i64) 3 (.slice A3686 t3684.length c3687) t3684, Row (rInt .i64) 3 (.slice A3586 x3585.length c3587) x3585, Blk b11 (.cells #[.slice A2829 t2827.2.2.l.length c2830, .int .i64 t2827.2.2.last] 47 (0, 0)), Row r_status_writer 49 (.slice A2829 t2827.2.2.l.length c2830) t2827.2.2.l] := S.pick [0, 3, 1, 2] (by decide)
          obtain ⟨t3692, ht3693, H⟩ := bindS H
          refine W_callN 2 fn13 (fun h9 hs9 hd9 => ferrymanref08_Ints.con k _ A3686 c3687 t3684 A3586 c3587 x3585 t3692 (Sats.row hs9 hd9 0 rfl) (Sats.row hs9 hd9 1 rfl) (let ⟨gt, fr, h8⟩ := hg0; ⟨gt, fr, Hp.le_union_left _ _ _ _ h8⟩) ht3693) S rfl rfl (by rintro _ _ _ ⟨_, rfl⟩; exact flat_nil) ?_
          rintro _ w3694 _ Γ' E' S ⟨rfl, rfl⟩
          replace E := E.trans E'
          clear E'
          refine W_v (.bool (!t3692)) (x_not rfl) rfl ?_
          refine W_v (.bool (!t3692)) (x_move rfl) rfl ?_
          obtain ⟨o3707, o3707h, o3707H⟩ := bindS H
          clear H
          refine Wl_cutN 5 (fun ρ w' => ∃ (x3706 : Bool), (x3706) = o3707 ∧ Agree ρ [(0, .slice A0 a0.length c0), (3, .pointer (some ⟨b11, 0, none⟩)), (4, .int .i64 x1879), (5, .int .i64 x1880), (91, .bool x3706)] ∧ Ext w w' ∧ St w' M F [Blk b11 (.cells #[.slice A2829 t2827.2.2.l.length c2830, .int .i64 t2827.2.2.last] 47 (0, 0)), Row r_status_writer 49 (.slice A2829 t2827.2.2.l.length c2830) t2827.2.2.l]) ?_ ?_
          · have H := o3707h
            rcases iteS H with ⟨hb3705, H⟩ | ⟨hb3705, H⟩
            · skip
              refine W_no (skF hb3705) rfl ?_
              refine W_no (skF hb3705) rfl ?_
              refine W_no (skF hb3705) rfl ?_
              refine W_no (skF hb3705) rfl ?_
              refine W_v (.bool true) (x_pick (k := true) (congrArg Value.bool hb3705) rfl) rfl ?_
              refine Wl_nil ?_
              exact ⟨true, Option.some.inj H, ⟨rfl, rfl, rfl, rfl, rfl, trivial⟩, E, S.pick [2, 3] (by decide)⟩
            · skip
              refine W_yes (congrArg some hb3705) ?_
              refine W_v (.pointer (some ⟨b11, 0, none⟩)) (x_move rfl) rfl ?_
              refine W_yes (congrArg some hb3705) ?_
              obtain ⟨t3708, ht3709, H⟩ := bindS H
              replace S : St w3694 M F [Blk b11 (.cells #[.slice A2829 t2827.2.2.l.length c2830, .int .i64 t2827.2.2.last] 47 (0, 0)), Row r_status_writer 49 (.slice A2829 t2827.2.2.l.length c2830) t2827.2.2.l, Row (rInt .i64) 3 (.slice A3686 t3684.length c3687) t3684, Row (rInt .i64) 3 (.slice A3586 x3585.length c3587) x3585] := S.pick [2, 3, 0, 1] (by decide)
              refine W_callF2 fn15 (status_Writers_Active_PO.con k M A2829 c2830 t2827.2.2 b11 t3708 hg0 ht3709) (Γ1 := [Blk b11 (.cells #[.slice A2829 t2827.2.2.l.length c2830, .int .i64 t2827.2.2.last] 47 (0, 0)), Row r_status_writer 49 (.slice A2829 t2827.2.2.l.length c2830) t2827.2.2.l]) (Γ2 := [Row (rInt .i64) 3 (.slice A3686 t3684.length c3687) t3684, Row (rInt .i64) 3 (.slice A3586 x3585.length c3587) x3585]) S rfl rfl (by rintro _ _ _ ⟨rfl, rfl⟩; exact (flat_cons flat_blk (flat_cons (flat_row (fun _ _ _ _ h => h)) flat_nil))) ?_
              rintro _ w3710 _ Γ' E' S ⟨rfl, rfl⟩
              replace E := E.trans E'
              clear E'
              replace S : St w3710 M F [Blk b11 (.cells #[.slice A2829 t2827.2.2.l.length c2830, .int .i64 t2827.2.2.last] 47 (0, 0)), Row r_status_writer 49 (.slice A2829 t2827.2.2.l.length c2830) t2827.2.2.l, Row (rInt .i64) 3 (.slice A3686 t3684.length c3687) t3684, Row (rInt .i64) 3 (.slice A3586 x3585.length c3587) x3585] := S
              refine W_yes (congrArg some hb3705) ?_
              refine W_v (.int .i64 x3589) (x_move rfl) rfl ?_
              refine W_yes (congrArg some hb3705) ?_
              refine W_v (.bool (t3708 != x3589)) (x_ibin rfl rfl rfl rfl) rfl ?_
              refine W_v (.bool (t3708 != x3589)) (x_pick (k := false) (congrArg Value.bool hb3705) rfl) rfl ?_
              refine Wl_nil ?_
              exact ⟨(t3708 != x3589), Option.some.inj H, ⟨rfl, rfl, rfl, rfl, rfl, trivial⟩, E, S.pick [0, 1] (by decide)⟩
          clear o3707h
          rintro ρ w3713 ⟨x3706, rfl, hρ, E, S⟩
          rw [agree_eta hρ]
          clear hρ
          have H := o3707H
          clear o3707H
          refine W_v (.bool x3706) (x_move rfl) rfl ?_
          obtain ⟨o3726, o3726h, o3726H⟩ := bindS H
          clear H
          refine Wl_cutN 6 (fun ρ w' => ∃ (x3725 : Bool), (x3725) = o3726 ∧ Agree ρ [(0, .slice A0 a0.length c0), (3, .pointer (some ⟨b11, 0, none⟩)), (4, .int .i64 x1879), (5, .int .i64 x1880), (98, .bool x3725)] ∧ Ext w w' ∧ St w' M F [Blk b11 (.cells #[.slice A2829 t2827.2.2.l.length c2830, .int .i64 t2827.2.2.last] 47 (0, 0)), Row r_status_writer 49 (.slice A2829 t2827.2.2.l.length c2830) t2827.2.2.l]) ?_ ?_
          · have H := o3726h
            rcases iteS H with ⟨hb3724, H⟩ | ⟨hb3724, H⟩
            · skip
              refine W_no (skF hb3724) rfl ?_
              refine W_no (skF hb3724) rfl ?_
              refine W_no (skF hb3724) rfl ?_
              refine W_no (skF hb3724) rfl ?_
              refine W_no (skF hb3724) rfl ?_
              refine W_v (.bool true) (x_pick (k := true) (congrArg Value.bool hb3724) rfl) rfl ?_
              refine Wl_nil ?_
              exact ⟨true, Option.some.inj H, ⟨rfl, rfl, rfl, rfl, rfl, trivial⟩, E, S.pick [0, 1] (by decide)⟩
            · skip
              refine W_yes (congrArg some hb3724) ?_
              refine W_v (.pointer (some ⟨b11, 0, none⟩)) (x_move rfl) rfl ?_
              refine W_yes (congrArg some hb3724) ?_
              obtain ⟨t3727, ht3728, H⟩ := bindS H
              refine W_callF2 fn10 (status_Writers_High_PO.con k M A2829 c2830 t2827.2.2 b11 t3727 hg0 ht3728) (Γ1 := [Blk b11 (.cells #[.slice A2829 t2827.2.2.l.length c2830, .int .i64 t2827.2.2.last] 47 (0, 0)), Row r_status_writer 49 (.slice A2829 t2827.2.2.l.length c2830) t2827.2.2.l]) (Γ2 := []) S rfl rfl (by rintro _ _ _ ⟨rfl, rfl⟩; exact (flat_cons flat_blk (flat_cons (flat_row (fun _ _ _ _ h => h)) flat_nil))) ?_
              rintro _ w3729 _ Γ' E' S ⟨rfl, rfl⟩
              replace E := E.trans E'
              clear E'
              replace S : St w3729 M F [Blk b11 (.cells #[.slice A2829 t2827.2.2.l.length c2830, .int .i64 t2827.2.2.last] 47 (0, 0)), Row r_status_writer 49 (.slice A2829 t2827.2.2.l.length c2830) t2827.2.2.l] := S
              refine W_yes (congrArg some hb3724) ?_
              refine W_v (.int .i64 x1879) (x_move rfl) rfl ?_
              refine W_yes (congrArg some hb3724) ?_
              refine W_v (.int .i64 (IntKind.i64.wrap (x1879 + (1 : Int)))) (x_ibin rfl rfl rfl rfl) rfl ?_
              refine W_yes (congrArg some hb3724) ?_
              refine W_v (.bool (t3727 != (IntKind.i64.wrap (x1879 + (1 : Int))))) (x_ibin rfl rfl rfl rfl) rfl ?_
              refine W_v (.bool (t3727 != (IntKind.i64.wrap (x1879 + (1 : Int))))) (x_pick (k := false) (congrArg Value.bool hb3724) rfl) rfl ?_
              refine Wl_nil ?_
              exact ⟨(t3727 != (IntKind.i64.wrap (x1879 + (1 : Int)))), Option.some.inj H, ⟨rfl, rfl, rfl, rfl, rfl, trivial⟩, E, S.pick [0, 1] (by decide)⟩
          clear o3726h
          rintro ρ w3732 ⟨x3725, rfl, hρ, E, S⟩
          rw [agree_eta hρ]
          clear hρ
          have H := o3726H
          clear o3726H
          refine Wl_nil ?_
          refine tn ?_
          rcases iteS H with ⟨hb3733, H⟩ | ⟨hb3733, H⟩
          · refine Wp_cond_true (congrArg Value.bool hb3733) ?_
            refine Wp_seq ?_
            refine Wp_region_lit ?_
            refine W_v (.bool false) (x_assign rfl) rfl ?_
            refine Wl_nil ?_
            refine tn ?_
            refine Wp_ret ?_
            refine br (tr (tr (br (tr (tr (?_))))))
            obtain rfl := Option.some.inj H
            have H := o2809H
            replace H := elimL H
            obtain rfl := Option.some.inj H
            exact ⟨_, _, _, fun w1 e1 => run_resR (vs := [.bool false]) (FA.cons (rfl) (FA.nil)), HM, E, S.pick [] (by decide), ⟨rfl, rfl⟩⟩
          refine Wp_cond_false (congrArg Value.bool hb3733) ?_
          refine Wp_skip ?_
          refine bn ?_
          refine tn ?_
          refine Wp_region_lit ?_
          refine W_v (.int .i64 x1880) (x_move rfl) rfl ?_
          refine W_v (.int .i64 (IntKind.i64.wrap (x1880 + (1 : Int)))) (x_ibin rfl rfl rfl rfl) rfl ?_
          refine W_v (.int .i64 (IntKind.i64.wrap (x1880 + (1 : Int)))) (x_assign rfl) rfl ?_
          refine Wl_nil ?_
          refine tn ?_
          exact ⟨k, Nat.lt_succ_self k, ⟨x1879, (IntKind.i64.wrap (x1880 + (1 : Int))), t2827.2.2.l, t2827.2.2.last, A2829, c2830, H, ⟨rfl, rfl, rfl, rfl, trivial⟩, E, S.pick [1, 0] (by decide)⟩⟩
        refine Wp_cond_false (congrArg Value.bool hb2811) ?_
        refine Wp_exit ?_
        refine tx (tx (bsm (?_)))
        refine tn ?_
        exact ⟨Option.some.inj H, trivial, E, S.pick [] (by decide)⟩
  clear o2809h
  rintro ρ w3734 ⟨rfl, hρ, E, S⟩
  rw [agree_eta hρ]
  clear hρ
  have H := o2809H
  clear o2809H
  replace H := elimR H
  refine tn ?_
  refine Wp_seq ?_
  refine Wp_region_lit ?_
  refine W_v (.bool true) (x_assign rfl) rfl ?_
  refine Wl_nil ?_
  refine tn ?_
  refine Wp_ret ?_
  obtain rfl := Option.some.inj H
  exact ⟨_, _, _, fun w1 e1 => run_resR (vs := [.bool true]) (FA.cons (rfl) (FA.nil)), HM, E, S.pick [] (by decide), ⟨rfl, rfl⟩⟩
end Go.Proofs.YtbdelepfpnneoaaDoor
