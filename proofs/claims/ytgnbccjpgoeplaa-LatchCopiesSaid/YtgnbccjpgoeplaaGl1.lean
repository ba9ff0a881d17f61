import Derived.Test.YtgnbccjpgoeplaaGl1P0
namespace Go.Proofs.Ytgnbccjpgoeplaa
open Go
set_option linter.unusedVariables false
set_option linter.unusedSimpArgs false
/-! ### (*ferryman/ferrymanref05.Latches).Held: function 24 -/
def ferrymanref05_Latches_Held_PO_l0 (a0 : ferrymanref05_Latches) (a1 : Int) : Nat → List ferrymanref05_Name → Int → Option ((List ferrymanref05_Name))
  | 0, _, _ => none
  | k + 1, x361, x365 => (if (decide (x365 < (a0.L.length : Int))) = true then (Option.bind (α := List ferrymanref05_Name) (if 0 ≤ x365 ∧ x365 < (a0.L.length : Int) then (Option.bind (α := List ferrymanref05_Name) (if ((rd a0.L x365).Task == a1) = true then (if 0 ≤ x365 ∧ x365 < (a0.L.length : Int) then (if x361.length + ([(rd a0.L x365).N] : List ferrymanref05_Name).length ≤ 8796093022208 then some ((x361 ++ ([(rd a0.L x365).N] : List ferrymanref05_Name))) else none) else none) else some (x361)) (fun x686 => some (x686))) else none) (fun x627 => ferrymanref05_Latches_Held_PO_l0 a0 a1 k x627 (IntKind.i64.wrap (x365 + (1 : Int))))) else some (x361))
set_option maxHeartbeats 2000000 in
theorem ferrymanref05_Latches_Held_PO_l0.mono {a0 : ferrymanref05_Latches} {a1 : Int} : ∀ {k : Nat} {x0 x1}, OLe (ferrymanref05_Latches_Held_PO_l0 a0 a1 k x0 x1) (ferrymanref05_Latches_Held_PO_l0 a0 a1 (k + 1) x0 x1) := by
  intro k
  induction k with
  | zero => intros; exact OLe.none
  | succ k ih =>
    intros
    rw [ferrymanref05_Latches_Held_PO_l0.eq_2, ferrymanref05_Latches_Held_PO_l0.eq_2]
    repeat' (first | with_reducible exact OLe.none | with_reducible exact OLe.some | with_reducible refine OLe.ite ?_ ?_ | with_reducible refine OLe.bind ?_ (fun _ => ?_) | exact ih | refine OLe.bind ?_ (fun _ => ?_) | refine OLe.ite ?_ ?_ | refine OLe.elim (fun _ => ?_) (fun _ => ?_) | split)
def ferrymanref05_Latches_Held_PO (k : Nat) (a0 : ferrymanref05_Latches) (a1 : Int) : Option ((List ferrymanref05_Name)) :=
  (Option.bind (ferrymanref05_Latches_Held_PO_l0 a0 a1 k ([] : List ferrymanref05_Name) (0 : Int)) (fun x537 => some x537))
set_option maxHeartbeats 2000000 in
theorem ferrymanref05_Latches_Held_PO.mono {k : Nat} {a0 : ferrymanref05_Latches} {a1 : Int} : OLe (ferrymanref05_Latches_Held_PO k a0 a1) (ferrymanref05_Latches_Held_PO (k + 1) a0 a1) := by
  unfold ferrymanref05_Latches_Held_PO
  repeat' (first | with_reducible exact OLe.none | with_reducible exact OLe.some | with_reducible refine OLe.ite ?_ ?_ | with_reducible refine OLe.bind ?_ (fun _ => ?_) | with_reducible exact ferrymanref05_Latches_Held_PO_l0.mono | refine OLe.bind ?_ (fun _ => ?_) | refine OLe.ite ?_ ?_ | refine OLe.elim (fun _ => ?_) (fun _ => ?_) | split)
set_option maxHeartbeats 1000000 in
set_option maxRecDepth 100000 in
theorem ferrymanref05_Latches_Held_PO.con (k : Nat) (M : Hp) (A0_0 : Option Addr) (c0_0 : Nat) (a0 : ferrymanref05_Latches) (a1 : Int) (bo0 : Nat) (r : (List ferrymanref05_Name))  (h : ferrymanref05_Latches_Held_PO k a0 a1 = some r) : Con Try.prog 24 #[.pointer (some ⟨bo0, 0, none⟩), .int .i64 a1] M [Blk bo0 (.cells #[.slice A0_0 a0.L.length c0_0] 48 (0, 0)), Row r_ferrymanref05_Hold 64 (.slice A0_0 a0.L.length c0_0) a0.L] (fun v M' Γ' => ∃ (Aq1 : Option Addr) (cq2 : Nat), v = .slice Aq1 r.length cq2 ∧ Γ' = [Row r_ferrymanref05_Name 44 (.slice Aq1 r.length cq2) r, Blk bo0 (.cells #[.slice A0_0 a0.L.length c0_0] 48 (0, 0)), Row r_ferrymanref05_Hold 64 (.slice A0_0 a0.L.length c0_0) a0.L]) := by
  refine con_of_wp Try.func24 rfl Try.ntmps24 Try.results24 rfl ?_
  intro w F rn S hrn
  have E := Ext.refl w
  have HM := Hp.le_refl M
  have H := h
  unfold ferrymanref05_Latches_Held_PO at H
  refine Wp_seq ?_
  refine Wp_region_lit ?_
  refine W_v (.slice none 0 0) (x_assign rfl) rfl ?_
  refine Wl_nil ?_
  refine tn ?_
  refine Wp_seq ?_
  refine Wp_region_lit ?_
  refine W_v (.slice none 0 0) (x_assign rfl) rfl ?_
  refine Wl_nil ?_
  refine tn ?_
  refine Wp_seq ?_
  refine Wp_seq ?_
  refine Wp_region_lit ?_
  refine W_v (.int .i64 0) (x_assign rfl) rfl ?_
  refine Wl_nil ?_
  refine tn ?_
  obtain ⟨o541, o541h, o541H⟩ := bindS H
  clear H
  refine Wp_blockJ (fun ρ w' => ∃ (x537 : List ferrymanref05_Name) (A538 : Option Addr) (c539 : Nat), (x537) = o541 ∧ Agree ρ [(5, .slice A538 x537.length c539)] ∧ Ext w w' ∧ St w' M F [Row r_ferrymanref05_Name 44 (.slice A538 x537.length c539) x537, Blk bo0 (.cells #[.slice A0_0 a0.L.length c0_0] 48 (0, 0)), Row r_ferrymanref05_Hold 64 (.slice A0_0 a0.L.length c0_0) a0.L]) ?_ ?_
  · skip
    refine Wp_loop (fun n ρ w' => ∃ (x361 : List ferrymanref05_Name) (x365 : Int) (A362 : Option Addr) (c363 : Nat), ferrymanref05_Latches_Held_PO_l0 a0 a1 n x361 x365 = some o541 ∧ Agree ρ [(0, .pointer (some ⟨bo0, 0, none⟩)), (1, .int .i64 a1), (5, .slice A362 x361.length c363), (6, .int .i64 x365)] ∧ Ext w w' ∧ St w' M F [Row r_ferrymanref05_Name 44 (.slice A362 x361.length c363) x361, Blk bo0 (.cells #[.slice A0_0 a0.L.length c0_0] 48 (0, 0)), Row r_ferrymanref05_Hold 64 (.slice A0_0 a0.L.length c0_0) a0.L]) k ?_ ?_
    · skip
      replace S := S.row_nil r_ferrymanref05_Name 44
      exact ⟨([] : List ferrymanref05_Name), (0 : Int), none, 0, o541h, ⟨rfl, rfl, rfl, rfl, trivial⟩, E, S.pick [0, 1, 2] (by decide)⟩
    · intro n
      rintro ρ w543 ⟨x361, x365, A362, c363, H, hρ, E, S⟩
      rw [agree_eta hρ]
      clear hρ
      cases n with
      | zero => cases H
      | succ k =>
        rw [ferrymanref05_Latches_Held_PO_l0.eq_2] at H
        refine Wp_seq ?_
        refine Wp_seq ?_
        refine Wp_region_lit ?_
        refine W_v (.int .i64 x365) (x_move rfl) rfl ?_
        refine W_v (.pointer (some ⟨bo0, 0, none⟩)) (x_move rfl) rfl ?_
        refine W_v (.pointer (some ⟨bo0, 0, none⟩)) (x_nilptr rfl) rfl ?_
        refine W_v (.pointer (some ⟨bo0, 0, none⟩)) (x_fieldAddr (o := 0) (off := 0) Try.underlying48 rfl ty46 rfl rfl) rfl ?_
        refine W_v (.slice A0_0 a0.L.length c0_0) (x_load (S.blk 1 rfl) ty46 rfl rfl) rfl ?_
        refine W_v (.int .i64 (a0.L.length : Int)) (x_len_slice (n := a0.L.length) Try.underlying46 rfl) rfl ?_
        refine W_v (.bool (decide (x365 < (a0.L.length : Int)))) (x_ibin rfl rfl rfl rfl) rfl ?_
        refine Wl_nil ?_
        refine tn ?_
        rcases iteS H with ⟨hb544, H⟩ | ⟨hb544, H⟩
        · refine Wp_cond_true (congrArg Value.bool hb544) ?_
          refine Wp_skip ?_
          refine tn ?_
          refine Wp_seq ?_
          obtain ⟨o631, o631h, o631H⟩ := bindS H
          refine Wp_cut (fun ρ w' => ∃ (x627 : List ferrymanref05_Name) (A628 : Option Addr) (c629 : Nat), (x627) = o631 ∧ Agree ρ [(0, .pointer (some ⟨bo0, 0, none⟩)), (1, .int .i64 a1), (5, .slice A628 x627.length c629), (6, .int .i64 x365)] ∧ Ext w w' ∧ St w' M F [Row r_ferrymanref05_Name 44 (.slice A628 x627.length c629) x627, Blk bo0 (.cells #[.slice A0_0 a0.L.length c0_0] 48 (0, 0)), Row r_ferrymanref05_Hold 64 (.slice A0_0 a0.L.length c0_0) a0.L]) ?_ ?_
          · clear o631H
            have H := o631h
            clear o631h
            refine Wp_block ?_
            refine Wp_seq ?_
            refine Wp_region_lit ?_
            refine W_v (.pointer (some ⟨bo0, 0, none⟩)) (x_move rfl) rfl ?_
            refine W_v (.pointer (some ⟨bo0, 0, none⟩)) (x_nilptr rfl) rfl ?_
            refine W_v (.pointer (some ⟨bo0, 0, none⟩)) (x_fieldAddr (o := 0) (off := 0) Try.underlying48 rfl ty46 rfl rfl) rfl ?_
            refine W_v (.slice A0_0 a0.L.length c0_0) (x_load (S.blk 1 rfl) ty46 rfl rfl) rfl ?_
            refine W_v (.int .i64 x365) (x_move rfl) rfl ?_
            obtain ⟨⟨p632, p633⟩, H⟩ := chkS H
            obtain ⟨b634, o635, cs636, _, _, ee641, hb637, vs638, hR639, hc640⟩ := SlW.at' (S.row_read 2 rfl) p632 p633
            obtain rfl : vs638 = _ := hR639
            refine W_v (.pointer (some ⟨b634, o635 + x365.toNat * 3, none⟩)) (x_indexAddr Try.underlying46 ty64 (slA ee641) rfl p632 p633) rfl ?_
            refine W_v (.pointer (some ⟨b634, o635 + x365.toNat * 3 + 2, none⟩)) (x_fieldAddr (o := o635 + x365.toNat * 3) (off := 2) Try.underlying64 rfl ty3 rfl rfl) rfl ?_
            refine W_v (.int .i64 ((rd a0.L x365).Task)) (x_load (Hp.of_get hb637) ty3 rfl (hc640 2 _ rfl)) rfl ?_
            refine W_v (.int .i64 a1) (x_move rfl) rfl ?_
            refine W_v (.bool ((rd a0.L x365).Task == a1)) (x_ibin rfl rfl rfl rfl) rfl ?_
            refine Wl_nil ?_
            refine tn ?_
            obtain ⟨o690, o690h, o690H⟩ := bindS H
            refine Wp_cut (fun ρ w' => ∃ (x686 : List ferrymanref05_Name) (A687 : Option Addr) (c688 : Nat), (x686) = o690 ∧ Agree ρ [(0, .pointer (some ⟨bo0, 0, none⟩)), (1, .int .i64 a1), (5, .slice A687 x686.length c688), (6, .int .i64 x365)] ∧ Ext w w' ∧ St w' M F [Row r_ferrymanref05_Name 44 (.slice A687 x686.length c688) x686, Blk bo0 (.cells #[.slice A0_0 a0.L.length c0_0] 48 (0, 0)), Row r_ferrymanref05_Hold 64 (.slice A0_0 a0.L.length c0_0) a0.L]) ?_ ?_
            · clear o690H
              have H := o690h
              clear o690h
              rcases iteS H with ⟨hb691, H⟩ | ⟨hb691, H⟩
              · refine Wp_cond_true (congrArg Value.bool hb691) ?_
                refine Wp_region_lit ?_
                refine W_v (.slice A362 x361.length c363) (x_move rfl) rfl ?_
                refine W_v (.pointer (some ⟨bo0, 0, none⟩)) (x_move rfl) rfl ?_
                refine W_v (.pointer (some ⟨bo0, 0, none⟩)) (x_nilptr rfl) rfl ?_
                refine W_v (.pointer (some ⟨bo0, 0, none⟩)) (x_fieldAddr (o := 0) (off := 0) Try.underlying48 rfl ty46 rfl rfl) rfl ?_
                refine W_v (.slice A0_0 a0.L.length c0_0) (x_load (S.blk 1 rfl) ty46 rfl rfl) rfl ?_
                refine W_v (.int .i64 x365) (x_move rfl) rfl ?_
                obtain ⟨⟨p692, p693⟩, H⟩ := chkS H
                obtain ⟨b694, o695, cs696, _, _, ee701, hb697, vs698, hR699, hc700⟩ := SlW.at' (S.row_read 2 rfl) p692 p693
                obtain rfl : vs698 = _ := hR699
                refine W_v (.pointer (some ⟨b694, o695 + x365.toNat * 3, none⟩)) (x_indexAddr Try.underlying46 ty64 (slA ee701) rfl p692 p693) rfl ?_
                refine W_v (.pointer (some ⟨b694, o695 + x365.toNat * 3, none⟩)) (x_fieldAddr (o := o695 + x365.toNat * 3) (off := 0) Try.underlying64 rfl ty44 rfl rfl) rfl ?_
                refine W_v (.agg #[.int .u8 ((rd a0.L x365).N.Kind), .int .u64 ((rd a0.L x365).N.ID)]) (x_loadA (Hp.of_get hb697) ty44 rfl (sub_el hc700 0 rfl) rfl rfl) rfl ?_
                refine W_bslice S #[.int .u8 ((rd a0.L x365).N.Kind), .int .u64 ((rd a0.L x365).N.ID)] Try.underlying42 ty44 rfl rfl #[.int .u8 0, .int .u64 0] (by kernel_rfl) (by kernel_rfl) rfl ?_
                intro b702 w703 E' S
                replace E := E.trans E'
                clear E'
                replace S := S.blk_row (r := r_ferrymanref05_Name) (l := ([(rd a0.L x365).N] : List ferrymanref05_Name)) 0 rfl 1 (Nat.le_refl 1) rfl (Cells.cons (vs := [.int .u8 ((rd a0.L x365).N.Kind), .int .u64 ((rd a0.L x365).N.ID)]) (rfl) Cells.nil)
                obtain ⟨p705, H⟩ := chkS H
                obtain ⟨src706, hs707, hC708⟩ := src_of_read (P := Try.prog) (ρ := r_ferrymanref05_Name) (l := ([(rd a0.L x365).N] : List ferrymanref05_Name)) (S.row_read 0 rfl) (by decide)
                refine W_append S 1 rfl rfl rfl Try.underlying42 (.inl Try.underlying42) ty44 rfl (by decide) (by decide) hs707 hC708 rfl (by omega) rfl ?_
                intro v709 w710 E' S
                replace E := E.trans E'
                clear E'
                obtain ⟨A711, c712, rfl, _⟩ := (S.row_read 1 rfl).form
                refine W_v (.slice A711 (x361 ++ ([(rd a0.L x365).N] : List ferrymanref05_Name)).length c712) (x_assign rfl) rfl ?_
                refine Wl_nil ?_
                refine tn ?_
                exact ⟨(x361 ++ ([(rd a0.L x365).N] : List ferrymanref05_Name)), A711, c712, Option.some.inj H, ⟨rfl, rfl, rfl, rfl, trivial⟩, E, S.pick [1, 2, 3] (by decide)⟩
              refine Wp_cond_false (congrArg Value.bool hb691) ?_
              refine Wp_skip ?_
              refine tn ?_
              exact ⟨x361, A362, c363, Option.some.inj H, ⟨rfl, rfl, rfl, rfl, trivial⟩, E, S.pick [0, 1, 2] (by decide)⟩
            clear o690h
            rintro ρ w713 ⟨x686, A687, c688, rfl, hρ, E, S⟩
            rw [agree_eta hρ]
            clear hρ
            have H := o690H
            clear o690H
            refine bn ?_
            refine tn ?_
            exact ⟨x686, A687, c688, Option.some.inj H, ⟨rfl, rfl, rfl, rfl, trivial⟩, E, S.pick [0, 1, 2] (by decide)⟩
          clear o631h
          rintro ρ w714 ⟨x627, A628, c629, rfl, hρ, E, S⟩
          rw [agree_eta hρ]
          clear hρ
          have H := o631H
          clear o631H
          refine tn ?_
          refine Wp_region_lit ?_
          refine W_v (.int .i64 x365) (x_move rfl) rfl ?_
          refine W_v (.int .i64 (IntKind.i64.wrap (x365 + (1 : Int)))) (x_ibin rfl rfl rfl rfl) rfl ?_
          refine W_v (.int .i64 (IntKind.i64.wrap (x365 + (1 : Int)))) (x_assign rfl) rfl ?_
          refine Wl_nil ?_
          refine tn ?_
          exact ⟨k, Nat.lt_succ_self k, ⟨x627, (IntKind.i64.wrap (x365 + (1 : Int))), A628, c629, H, ⟨rfl, rfl, rfl, rfl, trivial⟩, E, S.pick [0, 1, 2] (by decide)⟩⟩
        refine Wp_cond_false (congrArg Value.bool hb544) ?_
        refine Wp_exit ?_
        refine tx (tx (bsm (?_)))
        refine tn ?_
        exact ⟨x361, A362, c363, Option.some.inj H, ⟨rfl, trivial⟩, E, S.pick [0, 1, 2] (by decide)⟩
  clear o541h
  rintro ρ w715 ⟨x537, A538, c539, rfl, hρ, E, S⟩
  rw [agree_eta hρ]
  clear hρ
  have H := o541H
  clear o541H
  refine tn ?_
  refine Wp_seq ?_
  refine Wp_region_lit ?_
  refine W_v (.slice A538 x537.length c539) (x_move rfl) rfl ?_
  refine W_v (.slice A538 x537.length c539) (x_assign rfl) rfl ?_
  refine Wl_nil ?_
  refine tn ?_
  refine Wp_ret ?_
  obtain rfl := Option.some.inj H
  exact ⟨_, _, _, fun w1 e1 => run_resR (vs := [.slice A538 x537.length c539]) (FA.cons (rfl) (FA.nil)), HM, E, S.pick [0, 1, 2] (by decide), ⟨A538, c539, rfl, rfl⟩⟩
end Go.Proofs.Ytgnbccjpgoeplaa
