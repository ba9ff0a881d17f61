import Derived.Test.YtmoackfjfklfaaaTym1
namespace Go.Proofs.Ytmoackfjfklfaaa
open Go
set_option linter.unusedVariables false
set_option linter.unusedSimpArgs false
structure api_Version where
  Writer : Int
  TS : Int
  Tomb : Bool
  Value : Str
instance : Inhabited api_Version := ⟨⟨0, 0, false, []⟩⟩
def r_api_Version : Rep api_Version where
  sz := 4
  R := fun _ x cs => cs = [.int .i64 x.Writer, .int .i64 x.TS, .bool x.Tomb, .string (bs x.Value)]
  len := fun h => by subst h; rfl
  one := by
    intro M x cs h
    subst h
    exact fun v hv => List.all_eq_true.1 (show (List.all [.int .i64 x.Writer, .int .i64 x.TS, .bool x.Tomb, .string (bs x.Value)] (·.oneCell')) = true from rfl) v hv
  mono := fun _ h => h
/-! ### ferryman/ferrymanref11.Legal: function 9 -/
def ferrymanref11_Legal_l0 (a0 : (List api_Version)) : Nat → Int → Option ((Bool) ⊕ (Unit))
  | 0, _ => none
  | k + 1, x419 => (if (decide (x419 < (a0.length : Int))) = true then (if 0 ≤ x419 ∧ x419 < (a0.length : Int) then (Option.bind (α := Bool) (if (decide ((rd a0 x419).TS < (1 : Int))) = true then some (true) else (Option.bind (α := Bool) (if (decide (x419 > (0 : Int))) = true then (if 0 ≤ x419 ∧ x419 < (a0.length : Int) then (if 0 ≤ (IntKind.i64.wrap (x419 - (1 : Int))) ∧ (IntKind.i64.wrap (x419 - (1 : Int))) < (a0.length : Int) then some ((decide ((rd a0 x419).TS ≥ (rd a0 (IntKind.i64.wrap (x419 - (1 : Int)))).TS))) else none) else none) else some (false)) (fun x813 => some (x813)))) (fun x790 => (if x790 = true then some (.inl false) else ferrymanref11_Legal_l0 a0 k (IntKind.i64.wrap (x419 + (1 : Int)))))) else none) else some (.inr ()))
set_option maxHeartbeats 2000000 in
theorem ferrymanref11_Legal_l0.mono {a0 : (List api_Version)} : ∀ {k : Nat} {x0}, OLe (ferrymanref11_Legal_l0 a0 k x0) (ferrymanref11_Legal_l0 a0 (k + 1) x0) := by
  intro k
  induction k with
  | zero => intros; exact OLe.none
  | succ k ih =>
    intros
    rw [ferrymanref11_Legal_l0.eq_2, ferrymanref11_Legal_l0.eq_2]
    repeat' (first | with_reducible exact OLe.none | with_reducible exact OLe.some | with_reducible refine OLe.ite ?_ ?_ | with_reducible refine OLe.bind ?_ (fun _ => ?_) | exact ih | refine OLe.bind ?_ (fun _ => ?_) | refine OLe.ite ?_ ?_ | refine OLe.elim (fun _ => ?_) (fun _ => ?_) | split)
def ferrymanref11_Legal (k : Nat) (a0 : (List api_Version)) : Option (Bool) :=
  (Option.bind (ferrymanref11_Legal_l0 a0 k (0 : Int)) (fun o628o => Sum.elim (fun r' => some r') (fun _ => some true) o628o))
set_option maxHeartbeats 2000000 in
theorem ferrymanref11_Legal.mono {k : Nat} {a0 : (List api_Version)} : OLe (ferrymanref11_Legal k a0) (ferrymanref11_Legal (k + 1) a0) := by
  unfold ferrymanref11_Legal
  repeat' (first | with_reducible exact OLe.none | with_reducible exact OLe.some | with_reducible refine OLe.ite ?_ ?_ | with_reducible refine OLe.bind ?_ (fun _ => ?_) | with_reducible exact ferrymanref11_Legal_l0.mono | refine OLe.bind ?_ (fun _ => ?_) | refine OLe.ite ?_ ?_ | refine OLe.elim (fun _ => ?_) (fun _ => ?_) | split)
set_option maxHeartbeats 1000000 in
set_option maxRecDepth 100000 in
theorem ferrymanref11_Legal.con (k : Nat) (M : Hp) (A0 : Option Addr) (c0 : Nat) (a0 : (List api_Version)) (r : Bool) (hr0 : SlR r_api_Version M (.slice A0 a0.length c0) a0) (h : ferrymanref11_Legal k a0 = some r) : Con Try.prog 9 #[.slice A0 a0.length c0] M [] (fun v M' Γ' => v = .bool r ∧ Γ' = []) := by
  refine con_of_wp Try.func9 rfl Try.ntmps9 Try.results9 rfl ?_
  intro w F rn S hrn
  have E := Ext.refl w
  have HM := Hp.le_refl M
  have H := h
  unfold ferrymanref11_Legal at H
  refine Wp_seq ?_
  refine Wp_region_lit ?_
  refine W_v (.bool false) (x_assign rfl) rfl ?_
  refine Wl_nil ?_
  refine tn ?_
  refine Wp_seq ?_
  refine Wp_seq ?_
  refine Wp_region_lit ?_
  refine W_v (.int .i64 0) (x_assign rfl) rfl ?_
  refine Wl_nil ?_
  refine tn ?_
  obtain ⟨o628, o628h, o628H⟩ := bindS H
  clear H
  refine Wp_blockJ (fun ρ w' => .inr () = o628 ∧ Agree ρ [] ∧ Ext w w' ∧ St w' M F []) ?_ ?_
  · skip
    refine Wp_loop (fun n ρ w' => ∃ (x419 : Int), ferrymanref11_Legal_l0 a0 n x419 = some o628 ∧ Agree ρ [(0, .slice A0 a0.length c0), (3, .int .i64 x419)] ∧ Ext w w' ∧ St w' M F []) k ?_ ?_
    · skip
      exact ⟨(0 : Int), o628h, ⟨rfl, rfl, trivial⟩, E, S.pick [] (by decide)⟩
    · intro n
      rintro ρ w629 ⟨x419, H, hρ, E, S⟩
      rw [agree_eta hρ]
      clear hρ
      cases n with
      | zero => cases H
      | succ k =>
        rw [ferrymanref11_Legal_l0.eq_2] at H
        refine Wp_seq ?_
        refine Wp_seq ?_
        refine Wp_region_lit ?_
        refine W_v (.int .i64 x419) (x_move rfl) rfl ?_
        refine W_v (.slice A0 a0.length c0) (x_move rfl) rfl ?_
        refine W_v (.int .i64 (a0.length : Int)) (x_len_slice (n := a0.length) Try.underlying22 rfl) rfl ?_
        refine W_v (.bool (decide (x419 < (a0.length : Int)))) (x_ibin rfl rfl rfl rfl) rfl ?_
        refine Wl_nil ?_
        refine tn ?_
        rcases iteS H with ⟨hb630, H⟩ | ⟨hb630, H⟩
        · refine Wp_cond_true (congrArg Value.bool hb630) ?_
          refine Wp_skip ?_
          refine tn ?_
          refine Wp_seq ?_
          refine Wp_block ?_
          refine Wp_seq ?_
          refine Wp_region_any (S := fun w' => ∃ Mx, M.le Mx ∧ St w' Mx F []) mixed ?_
          intro w733 hw734 E'
          replace S := S.heap hw734
          replace E := E.trans E'
          clear E'
          refine Wa_take (i := 0) rfl (by kernel_rfl) rfl rfl (.slice A0 a0.length c0) rfl (fun w' h' => x_move rfl) (⟨M, Hp.le_refl M, S.pick [] (by decide)⟩) ?_
          refine Wa_take (i := 1) rfl (by kernel_rfl) rfl rfl (.int .i64 x419) rfl (fun w' h' => x_move rfl) (⟨M, Hp.le_refl M, S.pick [] (by decide)⟩) ?_
          obtain ⟨⟨p735, p736⟩, H⟩ := chkS H
          obtain ⟨b737, o738, cs739, _, _, ee744, hb740, vs741, hR742, hc743⟩ := SlW.at' hr0 p735 p736
          obtain rfl : vs741 = _ := hR742
          refine Wa_take (i := 2) rfl (by kernel_rfl) rfl rfl (.pointer (some ⟨b737, o738 + x419.toNat * 4, none⟩)) rfl (fun w' h' => x_indexAddr Try.underlying22 ty27 (slA ee744) rfl p735 p736) (⟨M, Hp.le_refl M, S.pick [] (by decide)⟩) ?_
          refine Wa_take (i := 3) rfl (by kernel_rfl) rfl rfl (.pointer (some ⟨b737, o738 + x419.toNat * 4 + 1, none⟩)) rfl (fun w' h' => x_fieldAddr (o := o738 + x419.toNat * 4) (off := 1) Try.underlying27 rfl ty3 rfl rfl) (⟨M, Hp.le_refl M, S.pick [] (by decide)⟩) ?_
          refine Wa_take (i := 4) rfl (by kernel_rfl) rfl rfl (.int .i64 ((rd a0 x419).TS)) rfl (fun w' h' => x_load (cls_frz h' hb740) ty3 rfl (hc743 1 _ rfl)) (⟨M, Hp.le_refl M, S.pick [] (by decide)⟩) ?_
          refine Wa_take (i := 5) rfl (by kernel_rfl) rfl rfl (.bool (decide ((rd a0 x419).TS < (1 : Int)))) rfl (fun w' h' => x_ibin rfl rfl rfl rfl) (⟨M, Hp.le_refl M, S.pick [] (by decide)⟩) ?_
          refine Wa_take (i := 6) rfl (by kernel_rfl) rfl rfl (.bool (decide ((rd a0 x419).TS < (1 : Int)))) rfl (fun w' h' => x_move rfl) (⟨M, Hp.le_refl M, S.pick [] (by decide)⟩) ?_
          obtain ⟨o791, o791h, o791H⟩ := bindS H
          clear H
          refine Wa_join (fun ρ w' => ∃ (x790 : Bool), (x790) = o791 ∧ Agree ρ [(0, .slice A0 a0.length c0), (3, .int .i64 x419), (33, .bool x790)] ∧ Ext w w' ∧ St w' M F []) 0 (Ls 24 [0, 1, 2, 3, 4, 5, 6, 7, 8, 9, 10, 11, 12, 13, 14, 15, 16, 17, 18, 19, 20, 21, 22, 23]) ?_ ?_
          rotate_left
          · intro hrest
            have H := o791h
            clear o791h o791H
            rcases iteS H with ⟨hb789, H⟩ | ⟨hb789, H⟩
            · skip
              refine Wa_takeN (i := 7) rfl (by kernel_rfl) rfl rfl rfl (skF hb789) (⟨M, Hp.le_refl M, S.pick [] (by decide)⟩) ?_
              refine Wa_takeN (i := 8) rfl (by kernel_rfl) rfl rfl rfl (skF hb789) (⟨M, Hp.le_refl M, S.pick [] (by decide)⟩) ?_
              refine Wa_takeN (i := 9) rfl (by kernel_rfl) rfl rfl rfl (skF hb789) (⟨M, Hp.le_refl M, S.pick [] (by decide)⟩) ?_
              refine Wa_takeN (i := 10) rfl (by kernel_rfl) rfl rfl rfl (rfl) (⟨M, Hp.le_refl M, S.pick [] (by decide)⟩) ?_
              refine Wa_takeN (i := 11) rfl (by kernel_rfl) rfl rfl rfl (rfl) (⟨M, Hp.le_refl M, S.pick [] (by decide)⟩) ?_
              refine Wa_takeN (i := 12) rfl (by kernel_rfl) rfl rfl rfl (rfl) (⟨M, Hp.le_refl M, S.pick [] (by decide)⟩) ?_
              refine Wa_takeN (i := 13) rfl (by kernel_rfl) rfl rfl rfl (rfl) (⟨M, Hp.le_refl M, S.pick [] (by decide)⟩) ?_
              refine Wa_takeN (i := 14) rfl (by kernel_rfl) rfl rfl rfl (rfl) (⟨M, Hp.le_refl M, S.pick [] (by decide)⟩) ?_
              refine Wa_takeN (i := 15) rfl (by kernel_rfl) rfl rfl rfl (rfl) (⟨M, Hp.le_refl M, S.pick [] (by decide)⟩) ?_
              refine Wa_takeN (i := 16) rfl (by kernel_rfl) rfl rfl rfl (rfl) (⟨M, Hp.le_refl M, S.pick [] (by decide)⟩) ?_
              refine Wa_takeN (i := 17) rfl (by kernel_rfl) rfl rfl rfl (rfl) (⟨M, Hp.le_refl M, S.pick [] (by decide)⟩) ?_
              refine Wa_takeN (i := 18) rfl (by kernel_rfl) rfl rfl rfl (rfl) (⟨M, Hp.le_refl M, S.pick [] (by decide)⟩) ?_
              refine Wa_takeN (i := 19) rfl (by kernel_rfl) rfl rfl rfl (rfl) (⟨M, Hp.le_refl M, S.pick [] (by decide)⟩) ?_
              refine Wa_takeN (i := 20) rfl (by kernel_rfl) rfl rfl rfl (rfl) (⟨M, Hp.le_refl M, S.pick [] (by decide)⟩) ?_
              refine Wa_takeN (i := 21) rfl (by kernel_rfl) rfl rfl rfl (rfl) (⟨M, Hp.le_refl M, S.pick [] (by decide)⟩) ?_
              refine Wa_takeN (i := 22) rfl (by kernel_rfl) rfl rfl rfl (skF hb789) (⟨M, Hp.le_refl M, S.pick [] (by decide)⟩) ?_
              refine Wa_take (i := 23) rfl (by kernel_rfl) rfl rfl (.bool true) rfl (fun w' h' => x_pick (k := true) (congrArg Value.bool hb789) rfl) (⟨M, Hp.le_refl M, S.pick [] (by decide)⟩) ?_
              exact hrest _ _ ⟨true, Option.some.inj H, ⟨rfl, rfl, rfl, trivial⟩, E, S.pick [] (by decide)⟩
            · skip
              refine Wa_takeY (i := 7) rfl (by kernel_rfl) rfl rfl (.int .i64 x419) rfl (congrArg some hb789) (fun w' h' => x_move rfl) (⟨M, Hp.le_refl M, S.pick [] (by decide)⟩) ?_
              refine Wa_takeY (i := 8) rfl (by kernel_rfl) rfl rfl (.bool (decide (x419 > (0 : Int)))) rfl (congrArg some hb789) (fun w' h' => x_ibin rfl rfl rfl rfl) (⟨M, Hp.le_refl M, S.pick [] (by decide)⟩) ?_
              refine Wa_takeY (i := 9) rfl (by kernel_rfl) rfl rfl (.bool (decide (x419 > (0 : Int)))) rfl (congrArg some hb789) (fun w' h' => x_move rfl) (⟨M, Hp.le_refl M, S.pick [] (by decide)⟩) ?_
              obtain ⟨o814, o814h, o814H⟩ := bindS H
              clear H
              refine Wa_join (fun ρ w' => ∃ (x813 : Bool), (x813) = o814 ∧ Agree ρ [(0, .slice A0 a0.length c0), (3, .int .i64 x419), (16, .bool (decide ((rd a0 x419).TS < (1 : Int)))), (17, .int .i64 x419), (18, .bool (decide (x419 > (0 : Int)))), (19, .bool (decide (x419 > (0 : Int)))), (32, .bool x813)] ∧ Ext w w' ∧ St w' M F []) 1 (Ls 24 [0, 1, 2, 3, 4, 5, 6, 7, 8, 9, 10, 11, 12, 13, 14, 15, 16, 17, 18, 19, 20, 21, 22]) ?_ ?_
              rotate_left
              · intro hrest
                have H := o814h
                clear o814h o814H
                rcases iteS H with ⟨hb812, H⟩ | ⟨hb812, H⟩
                · skip
                  refine Wa_takeY (i := 10) rfl (by kernel_rfl) rfl rfl (.slice A0 a0.length c0) rfl (congrArg some hb812) (fun w' h' => x_move rfl) (⟨M, Hp.le_refl M, S.pick [] (by decide)⟩) ?_
                  refine Wa_takeY (i := 11) rfl (by kernel_rfl) rfl rfl (.int .i64 x419) rfl (congrArg some hb812) (fun w' h' => x_move rfl) (⟨M, Hp.le_refl M, S.pick [] (by decide)⟩) ?_
                  obtain ⟨⟨p815, p816⟩, H⟩ := chkS H
                  obtain ⟨b817, o818, cs819, _, _, ee824, hb820, vs821, hR822, hc823⟩ := SlW.at' hr0 p815 p816
                  obtain rfl : vs821 = _ := hR822
                  refine Wa_takeY (i := 12) rfl (by kernel_rfl) rfl rfl (.pointer (some ⟨b817, o818 + x419.toNat * 4, none⟩)) rfl (congrArg some hb812) (fun w' h' => x_indexAddr Try.underlying22 ty27 (slA ee824) rfl p815 p816) (⟨M, Hp.le_refl M, S.pick [] (by decide)⟩) ?_
                  refine Wa_takeY (i := 13) rfl (by kernel_rfl) rfl rfl (.pointer (some ⟨b817, o818 + x419.toNat * 4 + 1, none⟩)) rfl (congrArg some hb812) (fun w' h' => x_fieldAddr (o := o818 + x419.toNat * 4) (off := 1) Try.underlying27 rfl ty3 rfl rfl) (⟨M, Hp.le_refl M, S.pick [] (by decide)⟩) ?_
                  refine Wa_takeY (i := 14) rfl (by kernel_rfl) rfl rfl (.int .i64 ((rd a0 x419).TS)) rfl (congrArg some hb812) (fun w' h' => x_load (cls_frz h' hb820) ty3 rfl (hc823 1 _ rfl)) (⟨M, Hp.le_refl M, S.pick [] (by decide)⟩) ?_
                  refine Wa_takeY (i := 15) rfl (by kernel_rfl) rfl rfl (.slice A0 a0.length c0) rfl (congrArg some hb812) (fun w' h' => x_move rfl) (⟨M, Hp.le_refl M, S.pick [] (by decide)⟩) ?_
                  refine Wa_takeY (i := 16) rfl (by kernel_rfl) rfl rfl (.int .i64 x419) rfl (congrArg some hb812) (fun w' h' => x_move rfl) (⟨M, Hp.le_refl M, S.pick [] (by decide)⟩) ?_
                  refine Wa_takeY (i := 17) rfl (by kernel_rfl) rfl rfl (.int .i64 (IntKind.i64.wrap (x419 - (1 : Int)))) rfl (congrArg some hb812) (fun w' h' => x_ibin rfl rfl rfl rfl) (⟨M, Hp.le_refl M, S.pick [] (by decide)⟩) ?_
                  obtain ⟨⟨p825, p826⟩, H⟩ := chkS H
                  obtain ⟨b827, o828, cs829, _, _, ee834, hb830, vs831, hR832, hc833⟩ := SlW.at' hr0 p825 p826
                  obtain rfl : vs831 = _ := hR832
                  refine Wa_takeY (i := 18) rfl (by kernel_rfl) rfl rfl (.pointer (some ⟨b827, o828 + (IntKind.i64.wrap (x419 - (1 : Int))).toNat * 4, none⟩)) rfl (congrArg some hb812) (fun w' h' => x_indexAddr Try.underlying22 ty27 (slA ee834) rfl p825 p826) (⟨M, Hp.le_refl M, S.pick [] (by decide)⟩) ?_
                  refine Wa_takeY (i := 19) rfl (by kernel_rfl) rfl rfl (.pointer (some ⟨b827, o828 + (IntKind.i64.wrap (x419 - (1 : Int))).toNat * 4 + 1, none⟩)) rfl (congrArg some hb812) (fun w' h' => x_fieldAddr (o := o828 + (IntKind.i64.wrap (x419 - (1 : Int))).toNat * 4) (off := 1) Try.underlying27 rfl ty3 rfl rfl) (⟨M, Hp.le_refl M, S.pick [] (by decide)⟩) ?_
                  refine Wa_takeY (i := 20) rfl (by kernel_rfl) rfl rfl (.int .i64 ((rd a0 (IntKind.i64.wrap (x419 - (1 : Int)))).TS)) rfl (congrArg some hb812) (fun w' h' => x_load (cls_frz h' hb830) ty3 rfl (hc833 1 _ rfl)) (⟨M, Hp.le_refl M, S.pick [] (by decide)⟩) ?_
                  refine Wa_takeY (i := 21) rfl (by kernel_rfl) rfl rfl (.bool (decide ((rd a0 x419).TS ≥ (rd a0 (IntKind.i64.wrap (x419 - (1 : Int)))).TS))) rfl (congrArg some hb812) (fun w' h' => x_ibin rfl rfl rfl rfl) (⟨M, Hp.le_refl M, S.pick [] (by decide)⟩) ?_
                  refine Wa_takeY (i := 22) rfl (by kernel_rfl) rfl rfl (.bool (decide ((rd a0 x419).TS ≥ (rd a0 (IntKind.i64.wrap (x419 - (1 : Int)))).TS))) rfl (congrArg some hb789) (fun w' h' => x_pick (k := true) (congrArg Value.bool hb812) rfl) (⟨M, Hp.le_refl M, S.pick [] (by decide)⟩) ?_
                  exact hrest _ _ ⟨(decide ((rd a0 x419).TS ≥ (rd a0 (IntKind.i64.wrap (x419 - (1 : Int)))).TS)), Option.some.inj H, ⟨rfl, rfl, rfl, rfl, rfl, rfl, rfl, trivial⟩, E, S.pick [] (by decide)⟩
                · skip
                  refine Wa_takeN (i := 10) rfl (by kernel_rfl) rfl rfl rfl (skT hb812) (⟨M, Hp.le_refl M, S.pick [] (by decide)⟩) ?_
                  refine Wa_takeN (i := 11) rfl (by kernel_rfl) rfl rfl rfl (skT hb812) (⟨M, Hp.le_refl M, S.pick [] (by decide)⟩) ?_
                  refine Wa_takeN (i := 12) rfl (by kernel_rfl) rfl rfl rfl (skT hb812) (⟨M, Hp.le_refl M, S.pick [] (by decide)⟩) ?_
                  refine Wa_takeN (i := 13) rfl (by kernel_rfl) rfl rfl rfl (skT hb812) (⟨M, Hp.le_refl M, S.pick [] (by decide)⟩) ?_
                  refine Wa_takeN (i := 14) rfl (by kernel_rfl) rfl rfl rfl (skT hb812) (⟨M, Hp.le_refl M, S.pick [] (by decide)⟩) ?_
                  refine Wa_takeN (i := 15) rfl (by kernel_rfl) rfl rfl rfl (skT hb812) (⟨M, Hp.le_refl M, S.pick [] (by decide)⟩) ?_
                  refine Wa_takeN (i := 16) rfl (by kernel_rfl) rfl rfl rfl (skT hb812) (⟨M, Hp.le_refl M, S.pick [] (by decide)⟩) ?_
                  refine Wa_takeN (i := 17) rfl (by kernel_rfl) rfl rfl rfl (skT hb812) (⟨M, Hp.le_refl M, S.pick [] (by decide)⟩) ?_
                  refine Wa_takeN (i := 18) rfl (by kernel_rfl) rfl rfl rfl (skT hb812) (⟨M, Hp.le_refl M, S.pick [] (by decide)⟩) ?_
                  refine Wa_takeN (i := 19) rfl (by kernel_rfl) rfl rfl rfl (skT hb812) (⟨M, Hp.le_refl M, S.pick [] (by decide)⟩) ?_
                  refine Wa_takeN (i := 20) rfl (by kernel_rfl) rfl rfl rfl (skT hb812) (⟨M, Hp.le_refl M, S.pick [] (by decide)⟩) ?_
                  refine Wa_takeN (i := 21) rfl (by kernel_rfl) rfl rfl rfl (skT hb812) (⟨M, Hp.le_refl M, S.pick [] (by decide)⟩) ?_
                  refine Wa_takeY (i := 22) rfl (by kernel_rfl) rfl rfl (.bool false) rfl (congrArg some hb789) (fun w' h' => x_pick (k := false) (congrArg Value.bool hb812) rfl) (⟨M, Hp.le_refl M, S.pick [] (by decide)⟩) ?_
                  exact hrest _ _ ⟨false, Option.some.inj H, ⟨rfl, rfl, rfl, rfl, rfl, rfl, rfl, trivial⟩, E, S.pick [] (by decide)⟩
              clear o814h
              rintro ρ w835 ⟨x813, rfl, hρ, E, S⟩
              rw [agree_eta hρ]
              clear hρ
              have H := o814H
              clear o814H
              refine Wa_take (i := 23) rfl (by kernel_rfl) rfl rfl (.bool x813) rfl (fun w' h' => x_pick (k := false) (congrArg Value.bool hb789) rfl) (⟨M, Hp.le_refl M, S.pick [] (by decide)⟩) ?_
              exact hrest _ _ ⟨x813, Option.some.inj H, ⟨rfl, rfl, rfl, trivial⟩, E, S.pick [] (by decide)⟩
          clear o791h
          rintro ρ w836 ⟨x790, rfl, hρ, E, S⟩
          rw [agree_eta hρ]
          clear hρ
          have H := o791H
          clear o791H
          refine Wa_done (by kernel_rfl) ?_
          refine tn ?_
          rcases iteS H with ⟨hb837, H⟩ | ⟨hb837, H⟩
          · refine Wp_cond_true (congrArg Value.bool hb837) ?_
            refine Wp_seq ?_
            refine Wp_region_lit ?_
            refine W_v (.bool false) (x_assign rfl) rfl ?_
            refine Wl_nil ?_
            refine tn ?_
            refine Wp_ret ?_
            refine br (tr (tr (br (tr (tr (?_))))))
            obtain rfl := Option.some.inj H
            have H := o628H
            replace H := elimL H
            obtain rfl := Option.some.inj H
            exact ⟨_, _, _, fun w1 e1 => run_resR (vs := [.bool false]) (FA.cons (rfl) (FA.nil)), HM, E, S.pick [] (by decide), ⟨rfl, rfl⟩⟩
          refine Wp_cond_false (congrArg Value.bool hb837) ?_
          refine Wp_skip ?_
          refine bn ?_
          refine tn ?_
          refine Wp_region_lit ?_
          refine W_v (.int .i64 x419) (x_move rfl) rfl ?_
          refine W_v (.int .i64 (IntKind.i64.wrap (x419 + (1 : Int)))) (x_ibin rfl rfl rfl rfl) rfl ?_
          refine W_v (.int .i64 (IntKind.i64.wrap (x419 + (1 : Int)))) (x_assign rfl) rfl ?_
          refine Wl_nil ?_
          refine tn ?_
          exact ⟨k, Nat.lt_succ_self k, ⟨(IntKind.i64.wrap (x419 + (1 : Int))), H, ⟨rfl, rfl, trivial⟩, E, S.pick [] (by decide)⟩⟩
        refine Wp_cond_false (congrArg Value.bool hb630) ?_
        refine Wp_exit ?_
        refine tx (tx (bsm (?_)))
        refine tn ?_
        exact ⟨Option.some.inj H, trivial, E, S.pick [] (by decide)⟩
  clear o628h
  rintro ρ w838 ⟨rfl, hρ, E, S⟩
  rw [agree_eta hρ]
  clear hρ
  have H := o628H
  clear o628H
  replace H := elimR H
  refine tn ?_
  refine Wp_seq ?_
  refine Wp_region_lit ?_
  refine W_v (.bool true) (x_assign rfl) rfl ?_
  refine Wl_nil ?_
  refine tn ?_
  refine Wp_ret ?_
  obtain rfl := Option.some.inj H
  exact ⟨_, _, _, fun w1 e1 => run_resR (vs := [.bool true]) (FA.cons (rfl) (FA.nil)), HM, E, S.pick [] (by decide), ⟨rfl, rfl⟩⟩
/-! ### slices.Clone[[]ferryman/api.Version,ferryman/api.Version]: function 23 -/
def slices_Clone_api_Version_api_Version (k : Nat) (a0 : List api_Version) : Option (List api_Version) :=
  if ([] : List api_Version).length + a0.length ≤ 3518437208883 then some (([] : List api_Version) ++ a0) else none
set_option maxHeartbeats 2000000 in
theorem slices_Clone_api_Version_api_Version.mono {k : Nat} {a0 : List api_Version} : OLe (slices_Clone_api_Version_api_Version k a0) (slices_Clone_api_Version_api_Version (k + 1) a0) := by
  unfold slices_Clone_api_Version_api_Version
  repeat' (first | with_reducible exact OLe.none | with_reducible exact OLe.some | with_reducible refine OLe.ite ?_ ?_ | with_reducible refine OLe.bind ?_ (fun _ => ?_) | refine OLe.bind ?_ (fun _ => ?_) | refine OLe.ite ?_ ?_ | refine OLe.elim (fun _ => ?_) (fun _ => ?_) | split)
set_option maxHeartbeats 1000000 in
set_option maxRecDepth 100000 in
theorem slices_Clone_api_Version_api_Version.con (k : Nat) (M : Hp) (A0 : Option Addr) (c0 : Nat) (a0 : (List api_Version)) (r : (List api_Version)) (hr0 : SlR r_api_Version M (.slice A0 a0.length c0) a0) (h : slices_Clone_api_Version_api_Version k a0 = some r) : Con Try.prog 23 #[.slice A0 a0.length c0] M [] (fun v M' Γ' => ∃ (A0 : Option Addr) (c0 : Nat), v = .slice A0 r.length c0 ∧ Γ' = [Row r_api_Version 27 (.slice A0 r.length c0) r]) := by
  have H := h
  unfold slices_Clone_api_Version_api_Version at H
  cases A0 with
  | none =>
    obtain ⟨_, H⟩ := chkS H
    obtain rfl : a0 = [] := SlW.none_nil hr0
    refine con_of_wp Try.func23 rfl Try.ntmps23 Try.results23 rfl ?_
    intro w F rn S hrn
    have E := Ext.refl w
    have HM := Hp.le_refl M
    refine Wp_seq ?_
    refine Wp_region_lit ?_
    refine W_v (.slice none 0 0) (x_assign rfl) rfl ?_
    refine Wl_nil ?_
    refine tn ?_
    refine Wp_seq ?_
    refine Wp_seq ?_
    refine Wp_region_lit ?_
    refine W_v (.slice none ([] : List api_Version).length c0) (x_move rfl) rfl ?_
    refine W_v (.bool true) (x_eq_of rfl rfl (run_equal_slice_nil _ _ _ _ _ _ Try.underlying22)) rfl ?_
    refine Wl_nil ?_
    refine tn ?_
    refine Wp_cond_true rfl ?_
    refine Wp_seq ?_
    refine Wp_region_lit ?_
    refine W_v (.slice none 0 0) (x_assign rfl) rfl ?_
    refine Wl_nil ?_
    refine tn ?_
    refine Wp_ret ?_
    refine tr (?_)
    obtain rfl := Option.some.inj H
    replace S := S.row_nil r_api_Version 27
    exact ⟨_, _, _, fun w1 e1 => run_resR (vs := [.slice none 0 0]) (FA.cons (rfl) (FA.nil)), HM, E, S.pick [0] (by decide), ⟨none, 0, rfl, rfl⟩⟩
  | some ad =>
    refine con_of_wp Try.func23 rfl Try.ntmps23 Try.results23 rfl ?_
    intro w F rn S hrn
    have E := Ext.refl w
    have HM := Hp.le_refl M
    refine Wp_seq ?_
    refine Wp_region_lit ?_
    refine W_v (.slice none 0 0) (x_assign rfl) rfl ?_
    refine Wl_nil ?_
    refine tn ?_
    refine Wp_seq ?_
    refine Wp_seq ?_
    refine Wp_region_lit ?_
    refine W_v (.slice (some ad) a0.length c0) (x_move rfl) rfl ?_
    refine W_v (.bool false) (x_eq_of rfl rfl (run_equal_slice_nil _ _ _ _ _ _ Try.underlying22)) rfl ?_
    refine Wl_nil ?_
    refine tn ?_
    refine Wp_cond_false rfl ?_
    refine Wp_skip ?_
    refine tn ?_
    refine Wp_seq ?_
    refine Wp_region_lit ?_
    refine W_bslice S #[] Try.underlying22 ty27 rfl rfl #[] (by kernel_rfl) (by kernel_rfl) rfl ?_
    intro b2 w3 E' S
    replace E := E.trans E'
    clear E'
    replace S := S.blk_row (r := r_api_Version) (l := ([] : List api_Version)) 0 rfl 0 (Nat.le_refl 0) rfl Cells.nil
    refine W_v (.slice (some ad) a0.length c0) (x_move rfl) rfl ?_
    obtain ⟨p5, H⟩ := chkS H
    obtain ⟨src6, hs7, hC8⟩ := src_of_read (P := Try.prog) (ρ := r_api_Version) (l := a0) (SlR.world hr0 S) (by decide)
    refine W_append S 0 rfl rfl rfl Try.underlying22 (.inl Try.underlying22) ty27 rfl (by decide) (by decide) hs7 hC8 rfl (by omega) rfl ?_
    intro v9 w10 E' S
    replace E := E.trans E'
    clear E'
    obtain ⟨A11, c12, rfl, _⟩ := (S.row_read 0 rfl).form
    refine W_v (.slice A11 (([] : List api_Version) ++ a0).length c12) (x_assign rfl) rfl ?_
    refine Wl_nil ?_
    refine tn ?_
    refine Wp_ret ?_
    obtain rfl := Option.some.inj H
    exact ⟨_, _, _, fun w1 e1 => run_resR (vs := [.slice A11 (([] : List api_Version) ++ a0).length c12]) (FA.cons (rfl) (FA.nil)), HM, E, S.pick [0] (by decide), ⟨A11, c12, rfl, rfl⟩⟩
/-! ### ferryman/keep.till: function 22 -/
def keep_till (k : Nat) (a0 : (List api_Version)) (a1 : Int) : Option (Unit) :=
  some ()
set_option maxHeartbeats 2000000 in
theorem keep_till.mono {k : Nat} {a0 : (List api_Version)} {a1 : Int} : OLe (keep_till k a0 a1) (keep_till (k + 1) a0 a1) := by
  unfold keep_till
  repeat' (first | with_reducible exact OLe.none | with_reducible exact OLe.some | with_reducible refine OLe.ite ?_ ?_ | with_reducible refine OLe.bind ?_ (fun _ => ?_) | refine OLe.bind ?_ (fun _ => ?_) | refine OLe.ite ?_ ?_ | refine OLe.elim (fun _ => ?_) (fun _ => ?_) | split)
set_option maxHeartbeats 1000000 in
set_option maxRecDepth 100000 in
theorem keep_till.con (k : Nat) (M : Hp) (A0 : Option Addr) (c0 : Nat) (a0 : (List api_Version)) (a1 : Int) (r : Unit) (hr0 : SlR r_api_Version M (.slice A0 a0.length c0) a0) (h : keep_till k a0 a1 = some r) : Con Try.prog 22 #[.slice A0 a0.length c0, .int .i64 a1] M [] (fun v M' Γ' => ∃ (bq1 : Nat) (bq3 : Nat), v = .func (.func 27) #[] #[.pointer (some ⟨bq1, 0, none⟩), .pointer (some ⟨bq3, 0, none⟩)] ∧ Γ' = [Blk bq1 (.cells #[.slice A0 a0.length c0] 22 (0, 0)), Blk bq3 (.cells #[.int .i64 a1] 3 (0, 0))]) := by
  refine con_of_wp Try.func22 rfl Try.ntmps22 Try.results22 rfl ?_
  intro w F rn S hrn
  have E := Ext.refl w
  have HM := Hp.le_refl M
  have H := h
  unfold keep_till at H
  refine Wp_seq ?_
  refine Wp_region_lit ?_
  refine W_box S #[.slice A0 a0.length c0] rfl rfl rfl ?_
  intro b1 w2 E' S
  replace E := E.trans E'
  clear E'
  refine W_box S #[.int .i64 a1] rfl rfl rfl ?_
  intro b4 w5 E' S
  replace E := E.trans E'
  clear E'
  refine W_v (.nilFunc) (x_assign rfl) rfl ?_
  refine Wl_nil ?_
  refine tn ?_
  refine Wp_seq ?_
  refine Wp_region_lit ?_
  refine W_v (.func (.func 27) #[] #[.pointer (some ⟨b1, 0, none⟩), .pointer (some ⟨b4, 0, none⟩)]) (x_makeFunc rfl) rfl ?_
  refine W_v (.func (.func 27) #[] #[.pointer (some ⟨b1, 0, none⟩), .pointer (some ⟨b4, 0, none⟩)]) (x_assign rfl) rfl ?_
  refine Wl_nil ?_
  refine tn ?_
  refine Wp_ret ?_
  obtain rfl := Option.some.inj H
  exact ⟨_, _, _, fun w1 e1 => run_resR (vs := [.func (.func 27) #[] #[.pointer (some ⟨b1, 0, none⟩), .pointer (some ⟨b4, 0, none⟩)]]) (FA.cons (rfl) (FA.nil)), HM, E, S.pick [1, 0] (by decide), ⟨b1, b4, rfl, rfl⟩⟩
/-! ### ferryman/keep.till$1: function 27 -/
def keep_till_1_l0 {σ ε : Type} (a_0 : (List api_Version)) (a_1 : Int) (bd : Int × Bool → σ → Option (σ ⊕ ε)) : Nat → Int → σ ⊕ ε → Option ((σ ⊕ ε) ⊕ ((σ ⊕ ε)))
  | 0, _, _ => none
  | k + 1, x53, x54 => (if (decide (x53 < (a_0.length : Int))) = true then (if 0 ≤ x53 ∧ x53 < (a_0.length : Int) then (Option.bind (toL x54) (fun s99 => Option.bind (bd (x53, (decide ((rd a_0 x53).TS ≤ a_1))) s99) (fun t101 => (if ((!(isNorm t101)) || (decide ((rd a_0 x53).TS ≤ a_1))) = true then some (.inl t101) else keep_till_1_l0 a_0 a_1 bd k (IntKind.i64.wrap (x53 + (1 : Int))) t101)))) else none) else some (.inr (x54)))
set_option maxHeartbeats 2000000 in
theorem keep_till_1_l0.mono {σ ε : Type} {a_0 : (List api_Version)} {a_1 : Int} {bd bd' : Int × Bool → σ → Option (σ ⊕ ε)} (hbd : ∀ x s, OLe (bd x s) (bd' x s)) : ∀ {k : Nat} {x0 x1}, OLe (keep_till_1_l0 a_0 a_1 bd k x0 x1) (keep_till_1_l0 a_0 a_1 bd' (k + 1) x0 x1) := by
  intro k
  induction k with
  | zero => intros; exact OLe.none
  | succ k ih =>
    intros
    rw [keep_till_1_l0.eq_2, keep_till_1_l0.eq_2]
    repeat' (first | with_reducible exact OLe.none | with_reducible exact OLe.some | with_reducible refine OLe.ite ?_ ?_ | with_reducible refine OLe.bind ?_ (fun _ => ?_) | exact OLe.toL | exact hbd _ _ | exact ih | refine OLe.bind ?_ (fun _ => ?_) | refine OLe.ite ?_ ?_ | refine OLe.elim (fun _ => ?_) (fun _ => ?_) | split)
def keep_till_1 {σ ε : Type} (k : Nat) (a_0 : (List api_Version)) (a_1 : Int) (bd : Int × Bool → σ → Option (σ ⊕ ε)) (s0 : σ) : Option (σ ⊕ ε) :=
  (Option.bind (keep_till_1_l0 a_0 a_1 bd k (0 : Int) (.inl s0)) (fun o80o => Sum.elim (fun r' => some r') (fun x79 => some x79) o80o))
set_option maxHeartbeats 2000000 in
theorem keep_till_1.mono {σ ε : Type} {k : Nat} {a_0 : (List api_Version)} {a_1 : Int} {bd bd' : Int × Bool → σ → Option (σ ⊕ ε)} (hbd : ∀ x s, OLe (bd x s) (bd' x s)) {s0 : σ} : OLe (keep_till_1 k a_0 a_1 bd s0) (keep_till_1 (k + 1) a_0 a_1 bd' s0) := by
  unfold keep_till_1
  repeat' (first | with_reducible exact OLe.none | with_reducible exact OLe.some | with_reducible refine OLe.ite ?_ ?_ | with_reducible refine OLe.bind ?_ (fun _ => ?_) | with_reducible exact keep_till_1_l0.mono hbd | exact OLe.toL | exact hbd _ _ | refine OLe.bind ?_ (fun _ => ?_) | refine OLe.ite ?_ ?_ | refine OLe.elim (fun _ => ?_) (fun _ => ?_) | split)
set_option maxHeartbeats 2000000 in
set_option maxRecDepth 100000 in
theorem keep_till_1.con {σ ε : Type} (k : Nat) (M : Hp) (A_0 : Option Addr) (c_0 : Nat) (a_0 : (List api_Version)) (a_1 : Int) (b_0 : Nat) (b_1 : Nat) (bd : Int × Bool → σ → Option (σ ⊕ ε)) (s0 : σ) (r : σ ⊕ ε) (hr_0 : SlR r_api_Version M (.slice A_0 a_0.length c_0) a_0) (h : keep_till_1 k a_0 a_1 bd s0 = some r) : Iter Try.prog 27 [.pointer (some ⟨b_0, 0, none⟩), .pointer (some ⟨b_1, 0, none⟩)] M (fun (M : Hp) (x : Int × Bool) (vs : List Value) => vs = [.int .i64 x.1, .bool x.2]) bd s0 r [Blk b_0 (.cells #[.slice A_0 a_0.length c_0] 22 (0, 0)), Blk b_1 (.cells #[.int .i64 a_1] 3 (0, 0))] (fun M' Γ' => Γ' = [Blk b_0 (.cells #[.slice A_0 a_0.length c_0] 22 (0, 0)), Blk b_1 (.cells #[.int .i64 a_1] 3 (0, 0))]) := by
  intro lp B hY
  refine con_of_wp Try.func27 rfl Try.ntmps27 Try.results27 rfl ?_
  intro w F rn S hrn
  have E := Ext.refl w
  have HM := Hp.le_refl M
  have H := h
  unfold keep_till_1 at H
  refine Wp_seq ?_
  refine Wp_region_lit ?_
  refine W_v (.slice A_0 a_0.length c_0) (x_load (S.blk 1 rfl) ty22 rfl rfl) rfl ?_
  refine W_v (.int .i64 (a_0.length : Int)) (x_len_slice (n := a_0.length) Try.underlying22 rfl) rfl ?_
  refine W_v (.int .i64 0) (x_move rfl) rfl ?_
  refine Wl_nil ?_
  refine tn ?_
  obtain ⟨o80, o80h, o80H⟩ := bindS H
  clear H
  refine Wp_blockJ (fun ρ w' => ∃ (x79 : σ ⊕ ε) (Mj : Hp), .inr (x79) = o80 ∧ Agree ρ [] ∧ M.le Mj ∧ Ext w w' ∧ St w' Mj F [Blk b_0 (.cells #[.slice A_0 a_0.length c_0] 22 (0, 0)), Blk b_1 (.cells #[.int .i64 a_1] 3 (0, 0)), B x79]) ?_ ?_
  · skip
    refine Wp_loop (fun n ρ w' => ∃ (x53 : Int) (x54 : σ ⊕ ε) (Mj : Hp), keep_till_1_l0 a_0 a_1 bd n x53 x54 = some o80 ∧ Agree ρ [(0, .func (.yield lp) #[] #[]), (2, .pointer (some ⟨b_1, 0, none⟩)), (6, .slice A_0 a_0.length c_0), (7, .int .i64 (a_0.length : Int)), (8, .int .i64 x53)] ∧ M.le Mj ∧ Ext w w' ∧ St w' Mj F [Blk b_0 (.cells #[.slice A_0 a_0.length c_0] 22 (0, 0)), Blk b_1 (.cells #[.int .i64 a_1] 3 (0, 0)), B x54]) k ?_ ?_
    · skip
      exact ⟨(0 : Int), (.inl s0), M, o80h, ⟨rfl, rfl, rfl, rfl, rfl, trivial⟩, (Hp.le_refl M), E, S.pick [1, 2, 0] (by decide)⟩
    · intro n
      rintro ρ w81 ⟨x53, x54, M82, H, hρ, hM83, E, S⟩
      rw [agree_eta hρ]
      clear hρ
      replace HM := Hp.le_trans HM hM83
      replace hr_0 := SlR.mono hr_0 hM83
      cases n with
      | zero => cases H
      | succ k =>
        rw [keep_till_1_l0.eq_2] at H
        refine Wp_seq ?_
        refine Wp_region_lit ?_
        refine W_v (.bool (decide (x53 < (a_0.length : Int)))) (x_ibin rfl rfl rfl rfl) rfl ?_
        refine Wl_nil ?_
        refine tn ?_
        refine Wp_seq ?_
        rcases iteS H with ⟨hb84, H⟩ | ⟨hb84, H⟩
        · refine Wp_cond_true (congrArg Value.bool hb84) ?_
          refine Wp_skip ?_
          refine tn ?_
          refine Wp_seq ?_
          refine Wp_block ?_
          refine Wp_seq ?_
          refine Wp_region_lit ?_
          refine W_v (.int .i64 x53) (x_move rfl) rfl ?_
          obtain ⟨⟨p85, p86⟩, H⟩ := chkS H
          obtain ⟨b87, o88, cs89, _, _, ee94, hb90, vs91, hR92, hc93⟩ := SlW.at' hr_0 p85 p86
          obtain rfl : vs91 = _ := hR92
          refine W_v (.pointer (some ⟨b87, o88 + x53.toNat * 4, none⟩)) (x_indexAddr Try.underlying22 ty27 (slA ee94) rfl p85 p86) rfl ?_
          refine W_v (.agg #[.int .i64 ((rd a_0 x53).Writer), .int .i64 ((rd a_0 x53).TS), .bool ((rd a_0 x53).Tomb), .string (bs ((rd a_0 x53).Value))]) (x_loadA (S.frz hb90) ty27 rfl (sub_el hc93 0 rfl) rfl rfl) rfl ?_
          refine W_alloc S #[.int .i64 0, .int .i64 0, .bool false, .string (bs ([] : Str))] ty27 rfl rfl ?_
          intro b95 w96 E' S
          replace E := E.trans E'
          clear E'
          refine W_v (.int .i64 x53) (x_assign rfl) rfl ?_
          refine W_store S 0 rfl ty27 rfl rfl [.int .i64 ((rd a_0 x53).Writer), .int .i64 ((rd a_0 x53).TS), .bool ((rd a_0 x53).Tomb), .string (bs ((rd a_0 x53).Value))] rfl rfl rfl #[.int .i64 ((rd a_0 x53).Writer), .int .i64 ((rd a_0 x53).TS), .bool ((rd a_0 x53).Tomb), .string (bs ((rd a_0 x53).Value))] rfl rfl ?_
          intro w98 E' S
          replace E := E.trans E'
          clear E'
          refine Wl_nil ?_
          refine tn ?_
          refine Wp_seq ?_
          refine Wp_region_lit ?_
          refine W_v (.func (.yield lp) #[] #[]) (x_move rfl) rfl ?_
          refine W_v (.int .i64 x53) (x_move rfl) rfl ?_
          refine W_v (.pointer (some ⟨b95, 1, none⟩)) (x_fieldAddr (o := 0) (off := 1) Try.underlying27 rfl ty3 rfl rfl) rfl ?_
          refine W_v (.int .i64 ((rd a_0 x53).TS)) (x_load (S.blk 0 rfl) ty3 rfl rfl) rfl ?_
          refine W_v (.int .i64 a_1) (x_load (S.blk 2 rfl) ty3 rfl rfl) rfl ?_
          refine W_v (.bool (decide ((rd a_0 x53).TS ≤ a_1))) (x_ibin rfl rfl rfl rfl) rfl ?_
          obtain ⟨s99, hs100, H⟩ := bindS H
          obtain ⟨t101, ht102, H⟩ := bindS H
          rw [toL_eq hs100] at S
          replace S : St w98 M82 F [B (.inl s99), Blk b95 (.cells #[.int .i64 ((rd a_0 x53).Writer), .int .i64 ((rd a_0 x53).TS), .bool ((rd a_0 x53).Tomb), .string (bs ((rd a_0 x53).Value))] 27 (0, 0)), Blk b_0 (.cells #[.slice A_0 a_0.length c_0] 22 (0, 0)), Blk b_1 (.cells #[.int .i64 a_1] 3 (0, 0))] := S.pick [3, 0, 1, 2] (by decide)
          refine W_yield rfl (hY _ (x53, (decide ((rd a_0 x53).TS ≤ a_1))) _ s99 t101 HM (rfl) ht102) S rfl rfl ?_
          rintro _ w103 M104 _ hM105 E' S ⟨rfl, rfl⟩
          replace HM := Hp.le_trans HM hM105
          replace hM83 := Hp.le_trans hM83 hM105
          replace hr_0 := SlR.mono hr_0 hM105
          replace hb90 := hM105 _ _ hb90
          replace E := E.trans E'
          clear E'
          refine W_v (.bool (!(isNorm t101))) (x_not rfl) rfl ?_
          refine W_v (.bool (!(isNorm t101))) (x_move rfl) rfl ?_
          refine Wl_cutN 5 (fun ρ w' => Agree ρ [(0, .func (.yield lp) #[] #[]), (2, .pointer (some ⟨b_1, 0, none⟩)), (6, .slice A_0 a_0.length c_0), (7, .int .i64 (a_0.length : Int)), (8, .int .i64 x53), (26, .bool ((!(isNorm t101)) || (decide ((rd a_0 x53).TS ≤ a_1))))] ∧ w103 = w') ?_ ?_
          · rcases boolCases (!(isNorm t101)) with hb106 | hb106
            · skip
              refine W_yes (congrArg some hb106) ?_
              refine W_v (.pointer (some ⟨b95, 1, none⟩)) (x_fieldAddr (o := 0) (off := 1) Try.underlying27 rfl ty3 rfl rfl) rfl ?_
              refine W_yes (congrArg some hb106) ?_
              refine W_v (.int .i64 ((rd a_0 x53).TS)) (x_load (S.blk 1 rfl) ty3 rfl rfl) rfl ?_
              refine W_yes (congrArg some hb106) ?_
              refine W_v (.int .i64 a_1) (x_load (S.blk 3 rfl) ty3 rfl rfl) rfl ?_
              refine W_yes (congrArg some hb106) ?_
              refine W_v (.bool (decide ((rd a_0 x53).TS ≤ a_1))) (x_ibin rfl rfl rfl rfl) rfl ?_
              refine W_v (.bool (decide ((rd a_0 x53).TS ≤ a_1))) (x_pick (k := false) (congrArg Value.bool hb106) rfl) rfl ?_
              refine Wl_nil ?_
              exact ⟨⟨rfl, rfl, rfl, rfl, rfl, (by first | rfl | (rw [hb106]; rfl) | (simp only [hb106]; rfl)), trivial⟩, rfl⟩
            · skip
              refine W_no (skF hb106) rfl ?_
              refine W_no (skF hb106) rfl ?_
              refine W_no (skF hb106) rfl ?_
              refine W_no (skF hb106) rfl ?_
              refine W_v (.bool true) (x_pick (k := true) (congrArg Value.bool hb106) rfl) rfl ?_
              refine Wl_nil ?_
              exact ⟨⟨rfl, rfl, rfl, rfl, rfl, (by first | rfl | (rw [hb106]; rfl) | (simp only [hb106]; rfl)), trivial⟩, rfl⟩
          rintro ρ _ ⟨hρ, rfl⟩
          rw [agree_eta hρ]
          clear hρ
          refine Wl_nil ?_
          refine tn ?_
          rcases iteS H with ⟨hb107, H⟩ | ⟨hb107, H⟩
          · refine Wp_cond_true (congrArg Value.bool hb107) ?_
            refine Wp_ret ?_
            refine br (tr (tr (br (tr (?_)))))
            obtain rfl := Option.some.inj H
            have H := o80H
            replace H := elimL H
            obtain rfl := Option.some.inj H
            exact ⟨_, _, _, fun w1 e1 => run_resR (vs := []) FA.nil, HM, E, S.pick [0, 2, 3] (by decide), ⟨_, rfl, rfl⟩⟩
          refine Wp_cond_false (congrArg Value.bool hb107) ?_
          refine Wp_skip ?_
          refine bn ?_
          refine tn ?_
          refine Wp_region_lit ?_
          refine W_v (.int .i64 (IntKind.i64.wrap (x53 + (1 : Int)))) (x_ibin rfl rfl rfl rfl) rfl ?_
          refine W_v (.int .i64 (IntKind.i64.wrap (x53 + (1 : Int)))) (x_move rfl) rfl ?_
          refine Wl_nil ?_
          refine tn ?_
          exact ⟨k, Nat.lt_succ_self k, ⟨(IntKind.i64.wrap (x53 + (1 : Int))), t101, M104, H, ⟨rfl, rfl, rfl, rfl, rfl, trivial⟩, hM83, E, S.pick [2, 3, 0] (by decide)⟩⟩
        refine Wp_cond_false (congrArg Value.bool hb84) ?_
        refine Wp_exit ?_
        refine tx (tx (bsm (?_)))
        refine tn ?_
        exact ⟨x54, M82, Option.some.inj H, trivial, hM83, E, S.pick [0, 1, 2] (by decide)⟩
  clear o80h
  rintro ρ w108 ⟨x79, M109, rfl, hρ, hM110, E, S⟩
  rw [agree_eta hρ]
  clear hρ
  replace HM := Hp.le_trans HM hM110
  replace hr_0 := SlR.mono hr_0 hM110
  have H := o80H
  clear o80H
  replace H := elimR H
  obtain rfl := Option.some.inj H
  exact ⟨_, _, _, fun w1 e1 => run_resR (vs := []) FA.nil, HM, E, S.pick [2, 0, 1] (by decide), ⟨_, rfl, rfl⟩⟩
/-! ### ferryman/keep.Kept: function 11 -/
def keep_Kept_b0 (a0 : (List api_Version)) (k : Nat) : (Int × Bool) → Int → Option ((Int) ⊕ (Unit))
  | (y152, y153), x105 => (Option.bind (α := Int) (if (!y153) = true then some (x105) else (if 0 ≤ y152 ∧ y152 < (a0.length : Int) then (Option.bind (α := Int) (if (!((rd a0 y152).Tomb)) = true then some ((IntKind.i64.wrap (y152 + (1 : Int)))) else some (y152)) (fun x191 => some (x191))) else none)) (fun x175 => some (.inl x175)))
set_option maxHeartbeats 2000000 in
theorem keep_Kept_b0.mono {a0 : (List api_Version)} {k : Nat} : ∀ x s, OLe (keep_Kept_b0 a0 k x s) (keep_Kept_b0 a0 (k + 1) x s) := by
  intro x s
  unfold keep_Kept_b0
  repeat' (first | with_reducible exact OLe.none | with_reducible exact OLe.some | with_reducible refine OLe.ite ?_ ?_ | with_reducible refine OLe.bind ?_ (fun _ => ?_) | refine OLe.bind ?_ (fun _ => ?_) | refine OLe.ite ?_ ?_ | refine OLe.elim (fun _ => ?_) (fun _ => ?_) | split)
def keep_Kept (k : Nat) (a0 : (List api_Version)) (a1 : Int) : Option ((List api_Version)) :=
  (Option.bind (keep_till k a0 a1) (fun t8 => (Option.bind (keep_till_1 k a0 a1 (keep_Kept_b0 a0 k) (a0.length : Int)) (fun o149o => Sum.elim (fun x105 => (if 0 ≤ x105 ∧ x105 ≤ x105 ∧ x105 ≤ (a0.length : Int) then (Option.bind (slices_Clone_api_Version_api_Version k (List.take x105.toNat a0)) (fun t205 => some t205)) else none)) (fun _ => none) o149o))))
set_option maxHeartbeats 2000000 in
theorem keep_Kept.mono {k : Nat} {a0 : (List api_Version)} {a1 : Int} : OLe (keep_Kept k a0 a1) (keep_Kept (k + 1) a0 a1) := by
  unfold keep_Kept
  repeat' (first | with_reducible exact OLe.none | with_reducible exact OLe.some | with_reducible refine OLe.ite ?_ ?_ | with_reducible refine OLe.bind ?_ (fun _ => ?_) | with_reducible exact keep_Kept_b0.mono | with_reducible exact keep_till.mono | exact keep_till_1.mono (fun _ _ => by first | exact keep_Kept_b0.mono _ _) | with_reducible exact slices_Clone_api_Version_api_Version.mono | refine OLe.bind ?_ (fun _ => ?_) | refine OLe.ite ?_ ?_ | refine OLe.elim (fun _ => ?_) (fun _ => ?_) | split)
set_option maxHeartbeats 1000000 in
set_option maxRecDepth 100000 in
theorem keep_Kept.con (k : Nat) (M : Hp) (A0 : Option Addr) (c0 : Nat) (a0 : (List api_Version)) (a1 : Int) (r : (List api_Version)) (hr0 : SlR r_api_Version M (.slice A0 a0.length c0) a0) (h : keep_Kept k a0 a1 = some r) : Con Try.prog 11 #[.slice A0 a0.length c0, .int .i64 a1] M [] (fun v M' Γ' => ∃ (A0 : Option Addr) (c0 : Nat), v = .slice A0 r.length c0 ∧ Γ' = [Row r_api_Version 27 (.slice A0 r.length c0) r]) := by
  refine con_of_wp Try.func11 rfl Try.ntmps11 Try.results11 rfl ?_
  intro w F rn S hrn
  have E := Ext.refl w
  have HM := Hp.le_refl M
  have H := h
  unfold keep_Kept at H
  refine Wp_seq ?_
  refine Wp_region_lit ?_
  refine W_box S #[.slice A0 a0.length c0] rfl rfl rfl ?_
  intro b1 w2 E' S
  replace E := E.trans E'
  clear E'
  refine W_v (.slice none 0 0) (x_assign rfl) rfl ?_
  refine Wl_nil ?_
  refine tn ?_
  refine Wp_seq ?_
  refine Wp_region_lit ?_
  refine W_v (.slice A0 a0.length c0) (x_load (S.blk 0 rfl) ty22 rfl rfl) rfl ?_
  refine W_v (.int .i64 (a0.length : Int)) (x_len_slice (n := a0.length) Try.underlying22 rfl) rfl ?_
  refine W_alloc S #[.int .i64 0] ty3 rfl rfl ?_
  intro b4 w5 E' S
  replace E := E.trans E'
  clear E'
  refine W_store S 0 rfl ty3 rfl rfl [.int .i64 (a0.length : Int)] rfl rfl rfl #[.int .i64 (a0.length : Int)] rfl rfl ?_
  intro w7 E' S
  replace E := E.trans E'
  clear E'
  refine Wl_nil ?_
  refine tn ?_
  refine Wp_seq ?_
  refine Wp_seq ?_
  refine Wp_region_lit ?_
  refine W_v (.slice A0 a0.length c0) (x_load (S.blk 1 rfl) ty22 rfl rfl) rfl ?_
  refine W_v (.int .i64 a1) (x_move rfl) rfl ?_
  obtain ⟨t8, ht9, H⟩ := bindS H
  refine W_callF2 fn22 (keep_till.con k M A0 c0 a0 a1 t8 hr0 ht9) (Γ1 := []) (Γ2 := [Blk b4 (.cells #[.int .i64 (a0.length : Int)] 3 (0, 0)), Blk b1 (.cells #[.slice A0 a0.length c0] 22 (0, 0))]) S rfl rfl (by rintro _ _ _ ⟨_, _, rfl, rfl⟩; exact (flat_cons flat_blk (flat_cons flat_blk flat_nil))) ?_
  rintro _ w14 _ Γ' E' S ⟨b10, b12, rfl, rfl⟩
  replace E := E.trans E'
  clear E'
  replace S : St w14 M F [Blk b10 (.cells #[.slice A0 a0.length c0] 22 (0, 0)), Blk b12 (.cells #[.int .i64 a1] 3 (0, 0)), Blk b4 (.cells #[.int .i64 (a0.length : Int)] 3 (0, 0)), Blk b1 (.cells #[.slice A0 a0.length c0] 22 (0, 0))] := S
  refine Wl_nil ?_
  refine tn ?_
  refine Wp_block ?_
  obtain ⟨o149, o149h, o149H⟩ := bindS H
  clear H
  refine Wp_rangeFunc (σ := Int) (ε := Unit) (Γi := [Blk b10 (.cells #[.slice A0 a0.length c0] 22 (0, 0)), Blk b12 (.cells #[.int .i64 a1] 3 (0, 0))]) (Γr := []) (Sum.elim (fun x105 => AE (ι := Unit) (fun (i : Unit) => [Blk b4 (.cells #[.int .i64 x105] 3 (0, 0)), Blk b1 (.cells #[.slice A0 a0.length c0] 22 (0, 0))]) (fun _ _ => True) (fun _ _ _ _ _ => trivial)) (fun _ => Star [])) (fun _ => Code.ret) fn27 rfl (St.close_ex (φ := (fun _ _ => True)) (hφ := (fun _ _ _ _ _ => trivial)) () trivial (S.pick [2, 3, 0, 1] (by decide))) (by rintro _ _ _ rfl; rfl) (by decide) (keep_till_1.con k M A0 c0 a0 a1 b10 b12 (keep_Kept_b0 a0 k) (a0.length : Int) o149 hr0 o149h) ?_ ?_
  · intro nn lp M150 F yy vs x105 tt w hM151 henc hbd S
    obtain ⟨y152, y153⟩ := yy
    obtain rfl := henc
    replace HM := Hp.le_trans HM hM151
    replace hr0 := SlR.mono hr0 hM151
    replace S : St w M150 F (AE (ι := Unit) (fun (i : Unit) => [Blk b4 (.cells #[.int .i64 x105] 3 (0, 0)), Blk b1 (.cells #[.slice A0 a0.length c0] 22 (0, 0))]) (fun _ _ => True) (fun _ _ _ _ _ => trivial) :: []) := S
    obtain ⟨_, _, S⟩ := S.open_ex
    replace S : St w M150 F [Blk b4 (.cells #[.int .i64 x105] 3 (0, 0)), Blk b1 (.cells #[.slice A0 a0.length c0] 22 (0, 0))] := S
    have E := Ext.refl w
    have LE154 := Hp.le_refl M150
    have H := hbd
    rw [keep_Kept_b0.eq_1] at H
    refine Wp_seq ?_
    refine Wp_region_lit ?_
    refine W_v (.int .i64 y152) (x_assign rfl) rfl ?_
    refine Wl_nil ?_
    refine tn ?_
    refine Wp_region_lit ?_
    refine W_v (.bool y153) (x_assign rfl) rfl ?_
    refine Wl_nil ?_
    refine on_n ⟨_, _, LE154, E, S, ?_⟩
    intro w F E3 S
    have E := Ext.refl w
    have LE155 := Hp.le_refl M150
    obtain ⟨o176, o176h, o176H⟩ := bindS H
    refine Wp_cut (fun ρ w' => ∃ (x175 : Int), (x175) = o176 ∧ Agree ρ [(2, .pointer (some ⟨b1, 0, none⟩)), (4, .slice none 0 0), (5, .pointer (some ⟨b4, 0, none⟩))] ∧ Ext w w' ∧ St w' M150 F [Blk b4 (.cells #[.int .i64 x175] 3 (0, 0)), Blk b1 (.cells #[.slice A0 a0.length c0] 22 (0, 0))]) ?_ ?_
    · clear o176H
      have H := o176h
      clear o176h
      refine Wp_block ?_
      refine Wp_seq ?_
      refine Wp_seq ?_
      refine Wp_region_lit ?_
      refine W_v (.bool y153) (x_move rfl) rfl ?_
      refine W_v (.bool (!y153)) (x_not rfl) rfl ?_
      refine Wl_nil ?_
      refine tn ?_
      rcases iteS H with ⟨hb177, H⟩ | ⟨hb177, H⟩
      · refine Wp_cond_true (congrArg Value.bool hb177) ?_
        refine Wp_exit ?_
        refine tx (bsm (?_))
        refine tn ?_
        exact ⟨x105, Option.some.inj H, ⟨rfl, rfl, rfl, trivial⟩, E, S.pick [0, 1] (by decide)⟩
      refine Wp_cond_false (congrArg Value.bool hb177) ?_
      refine Wp_skip ?_
      refine tn ?_
      refine Wp_seq ?_
      refine Wp_region_lit ?_
      refine W_v (.int .i64 y152) (x_move rfl) rfl ?_
      refine W_store S 0 rfl ty3 rfl rfl [.int .i64 y152] rfl rfl rfl #[.int .i64 y152] rfl rfl ?_
      intro w178 E' S
      replace E := E.trans E'
      clear E'
      refine Wl_nil ?_
      refine tn ?_
      refine Wp_seq ?_
      refine Wp_region_lit ?_
      refine W_v (.slice A0 a0.length c0) (x_load (S.blk 1 rfl) ty22 rfl rfl) rfl ?_
      refine W_v (.int .i64 y152) (x_move rfl) rfl ?_
      obtain ⟨⟨p179, p180⟩, H⟩ := chkS H
      obtain ⟨b181, o182, cs183, _, _, ee188, hb184, vs185, hR186, hc187⟩ := SlW.at' hr0 p179 p180
      obtain rfl : vs185 = _ := hR186
      refine W_v (.pointer (some ⟨b181, o182 + y152.toNat * 4, none⟩)) (x_indexAddr Try.underlying22 ty27 (slA ee188) rfl p179 p180) rfl ?_
      refine W_v (.pointer (some ⟨b181, o182 + y152.toNat * 4 + 2, none⟩)) (x_fieldAddr (o := o182 + y152.toNat * 4) (off := 2) Try.underlying27 rfl ty4 rfl rfl) rfl ?_
      refine W_v (.bool ((rd a0 y152).Tomb)) (x_load (S.frz hb184) ty4 rfl (hc187 2 _ rfl)) rfl ?_
      refine W_v (.bool (!((rd a0 y152).Tomb))) (x_not rfl) rfl ?_
      refine Wl_nil ?_
      refine tn ?_
      obtain ⟨o192, o192h, o192H⟩ := bindS H
      refine Wp_cut (fun ρ w' => ∃ (x191 : Int), (x191) = o192 ∧ Agree ρ [(2, .pointer (some ⟨b1, 0, none⟩)), (4, .slice none 0 0), (5, .pointer (some ⟨b4, 0, none⟩))] ∧ Ext w w' ∧ St w' M150 F [Blk b4 (.cells #[.int .i64 x191] 3 (0, 0)), Blk b1 (.cells #[.slice A0 a0.length c0] 22 (0, 0))]) ?_ ?_
      · clear o192H
        have H := o192h
        clear o192h
        rcases iteS H with ⟨hb193, H⟩ | ⟨hb193, H⟩
        · refine Wp_cond_true (congrArg Value.bool hb193) ?_
          refine Wp_region_lit ?_
          refine W_v (.int .i64 y152) (x_move rfl) rfl ?_
          refine W_v (.int .i64 (IntKind.i64.wrap (y152 + (1 : Int)))) (x_ibin rfl rfl rfl rfl) rfl ?_
          refine W_store S 0 rfl ty3 rfl rfl [.int .i64 (IntKind.i64.wrap (y152 + (1 : Int)))] rfl rfl rfl #[.int .i64 (IntKind.i64.wrap (y152 + (1 : Int)))] rfl rfl ?_
          intro w194 E' S
          replace E := E.trans E'
          clear E'
          refine Wl_nil ?_
          refine tn ?_
          exact ⟨(IntKind.i64.wrap (y152 + (1 : Int))), Option.some.inj H, ⟨rfl, rfl, rfl, trivial⟩, E, S.pick [0, 1] (by decide)⟩
        refine Wp_cond_false (congrArg Value.bool hb193) ?_
        refine Wp_skip ?_
        refine tn ?_
        exact ⟨y152, Option.some.inj H, ⟨rfl, rfl, rfl, trivial⟩, E, S.pick [0, 1] (by decide)⟩
      clear o192h
      rintro ρ w195 ⟨x191, rfl, hρ, E, S⟩
      rw [agree_eta hρ]
      clear hρ
      have H := o192H
      clear o192H
      refine bn ?_
      refine tn ?_
      exact ⟨x191, Option.some.inj H, ⟨rfl, rfl, rfl, trivial⟩, E, S.pick [0, 1] (by decide)⟩
    clear o176h
    rintro ρ w196 ⟨x175, rfl, hρ, E, S⟩
    rw [agree_eta hρ]
    clear hρ
    have H := o176H
    clear o176H
    obtain rfl := Option.some.inj H
    exact endB_mk trivial LE155 E (St.close_ex (φ := (fun _ _ => True)) (hφ := (fun _ _ _ _ _ => trivial)) () trivial (S.pick [0, 1] (by decide)))
  intro w197 M198 Γ' hM199 E' hΨ S
  obtain rfl : Γ' = _ := hΨ
  replace E := E.trans E'
  clear E'
  replace HM := Hp.le_trans HM hM199
  replace hr0 := SlR.mono hr0 hM199
  have H := o149H
  clear o149H
  rcases o149 with x105 | _
  · replace H := elimL H
    refine afterR_l ?_
    replace S : St w197 M198 F (AE (ι := Unit) (fun (i : Unit) => [Blk b4 (.cells #[.int .i64 x105] 3 (0, 0)), Blk b1 (.cells #[.slice A0 a0.length c0] 22 (0, 0))]) (fun _ _ => True) (fun _ _ _ _ _ => trivial) :: [Blk b10 (.cells #[.slice A0 a0.length c0] 22 (0, 0)), Blk b12 (.cells #[.int .i64 a1] 3 (0, 0))]) := S
    obtain ⟨_, _, S⟩ := S.open_ex
    replace S : St w197 M198 F [Blk b4 (.cells #[.int .i64 x105] 3 (0, 0)), Blk b1 (.cells #[.slice A0 a0.length c0] 22 (0, 0)), Blk b10 (.cells #[.slice A0 a0.length c0] 22 (0, 0)), Blk b12 (.cells #[.int .i64 a1] 3 (0, 0))] := S
    refine bn ?_
    refine tn ?_
    refine Wp_seq ?_
    refine Wp_region_lit ?_
    refine W_v (.slice A0 a0.length c0) (x_load (S.blk 1 rfl) ty22 rfl rfl) rfl ?_
    refine W_v (.int .i64 x105) (x_load (S.blk 0 rfl) ty3 rfl rfl) rfl ?_
    refine W_v (.int .i64 x105) (x_load (S.blk 0 rfl) ty3 rfl rfl) rfl ?_
    obtain ⟨⟨p200, p201, p202⟩, H⟩ := chkS H
    obtain ⟨hs203, hx204⟩ := sl_hm hr0 p200 p201 p202
    refine W_v (.slice A0 (List.take x105.toNat a0).length x105.toNat) (hx204 Try.underlying22 ty27 rfl rfl rfl) rfl ?_
    obtain ⟨t205, ht206, H⟩ := bindS H
    refine W_callF fn23 (slices_Clone_api_Version_api_Version.con k M198 A0 x105.toNat (List.take x105.toNat a0) t205 hs203 ht206) S rfl rfl (by rintro _ _ _ ⟨_, _, _, rfl⟩; exact (flat_cons (flat_row (fun _ _ _ _ h => h)) flat_nil)) ?_
    rintro _ w210 _ Γ' E' S ⟨A207, c208, rfl, rfl⟩
    replace E := E.trans E'
    clear E'
    refine W_v (.slice A207 t205.length c208) (x_assign rfl) rfl ?_
    refine Wl_nil ?_
    refine tn ?_
    refine Wp_ret ?_
    obtain rfl := Option.some.inj H
    exact ⟨_, _, _, fun w1 e1 => run_resR (vs := [.slice A207 t205.length c208]) (FA.cons (rfl) (FA.nil)), HM, E, S.pick [0] (by decide), ⟨A207, c208, rfl, rfl⟩⟩
  · cases H
/-! ### ferryman/keep.Seen: function 12 -/
def keep_Seen_b0 (a0 : (List api_Version)) (k : Nat) : (Int × Bool) → Unit → Option ((Unit) ⊕ (Int × Int × Bool × Str))
  | (y173, y174), _ => (Option.bind (α := Bool) (if y174 = true then (if 0 ≤ y173 ∧ y173 < (a0.length : Int) then some ((!((rd a0 y173).Tomb))) else none) else some (false)) (fun x198 => (if x198 = true then (if 0 ≤ y173 ∧ y173 < (a0.length : Int) then some (.inr ((rd a0 y173).Writer, (rd a0 y173).TS, (rd a0 y173).Tomb, (rd a0 y173).Value)) else none) else some (.inl ()))))
set_option maxHeartbeats 2000000 in
theorem keep_Seen_b0.mono {a0 : (List api_Version)} {k : Nat} : ∀ x s, OLe (keep_Seen_b0 a0 k x s) (keep_Seen_b0 a0 (k + 1) x s) := by
  intro x s
  unfold keep_Seen_b0
  repeat' (first | with_reducible exact OLe.none | with_reducible exact OLe.some | with_reducible refine OLe.ite ?_ ?_ | with_reducible refine OLe.bind ?_ (fun _ => ?_) | refine OLe.bind ?_ (fun _ => ?_) | refine OLe.ite ?_ ?_ | refine OLe.elim (fun _ => ?_) (fun _ => ?_) | split)
def keep_Seen (k : Nat) (a0 : (List api_Version)) (a1 : Int) : Option (api_Version × Bool) :=
  (Option.bind (keep_till k a0 a1) (fun t10 => (Option.bind (keep_till_1 k a0 a1 (keep_Seen_b0 a0 k) ()) (fun o170o => Sum.elim (fun _ => some ((⟨(0 : Int), (0 : Int), false, ([] : Str)⟩ : api_Version), false)) (fun ⟨x166, x167, x168, x169⟩ => some ((⟨x166, x167, x168, x169⟩ : api_Version), true)) o170o))))
set_option maxHeartbeats 2000000 in
theorem keep_Seen.mono {k : Nat} {a0 : (List api_Version)} {a1 : Int} : OLe (keep_Seen k a0 a1) (keep_Seen (k + 1) a0 a1) := by
  unfold keep_Seen
  repeat' (first | with_reducible exact OLe.none | with_reducible exact OLe.some | with_reducible refine OLe.ite ?_ ?_ | with_reducible refine OLe.bind ?_ (fun _ => ?_) | with_reducible exact keep_Seen_b0.mono | with_reducible exact keep_till.mono | exact keep_till_1.mono (fun _ _ => by first | exact keep_Seen_b0.mono _ _) | refine OLe.bind ?_ (fun _ => ?_) | refine OLe.ite ?_ ?_ | refine OLe.elim (fun _ => ?_) (fun _ => ?_) | split)
set_option maxHeartbeats 1000000 in
set_option maxRecDepth 100000 in
theorem keep_Seen.con (k : Nat) (M : Hp) (A0 : Option Addr) (c0 : Nat) (a0 : (List api_Version)) (a1 : Int) (r : api_Version × Bool) (hr0 : SlR r_api_Version M (.slice A0 a0.length c0) a0) (h : keep_Seen k a0 a1 = some r) : Con Try.prog 12 #[.slice A0 a0.length c0, .int .i64 a1] M [] (fun v M' Γ' => v = .tuple #[.agg #[.int .i64 r.1.Writer, .int .i64 r.1.TS, .bool r.1.Tomb, .string (bs r.1.Value)], .bool r.2] ∧ Γ' = []) := by
  refine con_of_wp Try.func12 rfl Try.ntmps12 Try.results12 rfl ?_
  intro w F rn S hrn
  have E := Ext.refl w
  have HM := Hp.le_refl M
  have H := h
  unfold keep_Seen at H
  refine Wp_seq ?_
  refine Wp_region_lit ?_
  refine W_box S #[.slice A0 a0.length c0] rfl rfl rfl ?_
  intro b1 w2 E' S
  replace E := E.trans E'
  clear E'
  refine W_alloc S #[.int .i64 0, .int .i64 0, .bool false, .string (bs ([] : Str))] ty27 rfl rfl ?_
  intro b4 w5 E' S
  replace E := E.trans E'
  clear E'
  refine W_alloc S #[.bool false] ty4 rfl rfl ?_
  intro b7 w8 E' S
  replace E := E.trans E'
  clear E'
  refine Wl_nil ?_
  refine tn ?_
  refine Wp_seq ?_
  refine Wp_seq ?_
  refine Wp_region_lit ?_
  refine W_v (.slice A0 a0.length c0) (x_load (S.blk 2 rfl) ty22 rfl rfl) rfl ?_
  refine W_v (.int .i64 a1) (x_move rfl) rfl ?_
  obtain ⟨t10, ht11, H⟩ := bindS H
  refine W_callF2 fn22 (keep_till.con k M A0 c0 a0 a1 t10 hr0 ht11) (Γ1 := []) (Γ2 := [Blk b7 (.cells #[.bool false] 4 (0, 0)), Blk b4 (.cells #[.int .i64 0, .int .i64 0, .bool false, .string (bs ([] : Str))] 27 (0, 0)), Blk b1 (.cells #[.slice A0 a0.length c0] 22 (0, 0))]) S rfl rfl (by rintro _ _ _ ⟨_, _, rfl, rfl⟩; exact (flat_cons flat_blk (flat_cons flat_blk flat_nil))) ?_
  rintro _ w16 _ Γ' E' S ⟨b12, b14, rfl, rfl⟩
  replace E := E.trans E'
  clear E'
  replace S : St w16 M F [Blk b12 (.cells #[.slice A0 a0.length c0] 22 (0, 0)), Blk b14 (.cells #[.int .i64 a1] 3 (0, 0)), Blk b7 (.cells #[.bool false] 4 (0, 0)), Blk b4 (.cells #[.int .i64 0, .int .i64 0, .bool false, .string (bs ([] : Str))] 27 (0, 0)), Blk b1 (.cells #[.slice A0 a0.length c0] 22 (0, 0))] := S
  refine Wl_nil ?_
  refine tn ?_
  refine Wp_block ?_
  obtain ⟨o170, o170h, o170H⟩ := bindS H
  clear H
  refine Wp_rangeFunc (σ := Unit) (ε := Int × Int × Bool × Str) (Γi := [Blk b12 (.cells #[.slice A0 a0.length c0] 22 (0, 0)), Blk b14 (.cells #[.int .i64 a1] 3 (0, 0))]) (Γr := []) (Sum.elim (fun _ => AE (ι := Unit) (fun (i : Unit) => [Blk b7 (.cells #[.bool false] 4 (0, 0)), Blk b4 (.cells #[.int .i64 0, .int .i64 0, .bool false, .string (bs ([] : Str))] 27 (0, 0)), Blk b1 (.cells #[.slice A0 a0.length c0] 22 (0, 0))]) (fun _ _ => True) (fun _ _ _ _ _ => trivial)) (fun ⟨x166, x167, x168, x169⟩ => AE (ι := Unit) (fun (i : Unit) => [Blk b7 (.cells #[.bool true] 4 (0, 0)), Blk b4 (.cells #[.int .i64 x166, .int .i64 x167, .bool x168, .string (bs x169)] 27 (0, 0))]) (fun _ _ => True) (fun _ _ _ _ _ => trivial))) (fun _ => Code.ret) fn27 rfl (St.close_ex (φ := (fun _ _ => True)) (hφ := (fun _ _ _ _ _ => trivial)) () trivial (S.pick [2, 3, 4, 0, 1] (by decide))) (by rintro _ _ _ rfl; rfl) (by decide) (keep_till_1.con k M A0 c0 a0 a1 b12 b14 (keep_Seen_b0 a0 k) () o170 hr0 o170h) ?_ ?_
  · intro nn lp M171 F yy vs ss tt w hM172 henc hbd S
    obtain ⟨y173, y174⟩ := yy
    obtain rfl := henc
    replace HM := Hp.le_trans HM hM172
    replace hr0 := SlR.mono hr0 hM172
    replace S : St w M171 F (AE (ι := Unit) (fun (i : Unit) => [Blk b7 (.cells #[.bool false] 4 (0, 0)), Blk b4 (.cells #[.int .i64 0, .int .i64 0, .bool false, .string (bs ([] : Str))] 27 (0, 0)), Blk b1 (.cells #[.slice A0 a0.length c0] 22 (0, 0))]) (fun _ _ => True) (fun _ _ _ _ _ => trivial) :: []) := S
    obtain ⟨_, _, S⟩ := S.open_ex
    replace S : St w M171 F [Blk b7 (.cells #[.bool false] 4 (0, 0)), Blk b4 (.cells #[.int .i64 0, .int .i64 0, .bool false, .string (bs ([] : Str))] 27 (0, 0)), Blk b1 (.cells #[.slice A0 a0.length c0] 22 (0, 0))] := S
    have E := Ext.refl w
    have LE175 := Hp.le_refl M171
    have H := hbd
    rw [keep_Seen_b0.eq_1] at H
    refine Wp_seq ?_
    refine Wp_region_lit ?_
    refine W_v (.int .i64 y173) (x_assign rfl) rfl ?_
    refine Wl_nil ?_
    refine tn ?_
    refine Wp_region_lit ?_
    refine W_v (.bool y174) (x_assign rfl) rfl ?_
    refine Wl_nil ?_
    refine on_n ⟨_, _, LE175, E, S, ?_⟩
    intro w F E3 S
    have E := Ext.refl w
    have LE176 := Hp.le_refl M171
    refine Wp_block ?_
    refine Wp_seq ?_
    refine Wp_region_lit ?_
    refine W_v (.bool y174) (x_move rfl) rfl ?_
    refine W_v (.bool y174) (x_move rfl) rfl ?_
    obtain ⟨o199, o199h, o199H⟩ := bindS H
    clear H
    refine Wl_cutN 7 (fun ρ w' => ∃ (x198 : Bool), (x198) = o199 ∧ Agree ρ [(2, .pointer (some ⟨b1, 0, none⟩)), (4, .pointer (some ⟨b4, 0, none⟩)), (5, .pointer (some ⟨b7, 0, none⟩)), (6, .int .i64 y173), (21, .bool x198)] ∧ Ext w w' ∧ St w' M171 F [Blk b7 (.cells #[.bool false] 4 (0, 0)), Blk b4 (.cells #[.int .i64 0, .int .i64 0, .bool false, .string (bs ([] : Str))] 27 (0, 0)), Blk b1 (.cells #[.slice A0 a0.length c0] 22 (0, 0))]) ?_ ?_
    · have H := o199h
      rcases iteS H with ⟨hb197, H⟩ | ⟨hb197, H⟩
      · skip
        refine W_yes (congrArg some hb197) ?_
        refine W_v (.slice A0 a0.length c0) (x_load (S.blk 2 rfl) ty22 rfl rfl) rfl ?_
        refine W_yes (congrArg some hb197) ?_
        refine W_v (.int .i64 y173) (x_move rfl) rfl ?_
        refine W_yes (congrArg some hb197) ?_
        obtain ⟨⟨p200, p201⟩, H⟩ := chkS H
        obtain ⟨b202, o203, cs204, _, _, ee209, hb205, vs206, hR207, hc208⟩ := SlW.at' hr0 p200 p201
        obtain rfl : vs206 = _ := hR207
        refine W_v (.pointer (some ⟨b202, o203 + y173.toNat * 4, none⟩)) (x_indexAddr Try.underlying22 ty27 (slA ee209) rfl p200 p201) rfl ?_
        refine W_yes (congrArg some hb197) ?_
        refine W_v (.pointer (some ⟨b202, o203 + y173.toNat * 4 + 2, none⟩)) (x_fieldAddr (o := o203 + y173.toNat * 4) (off := 2) Try.underlying27 rfl ty4 rfl rfl) rfl ?_
        refine W_yes (congrArg some hb197) ?_
        refine W_v (.bool ((rd a0 y173).Tomb)) (x_load (S.frz hb205) ty4 rfl (hc208 2 _ rfl)) rfl ?_
        refine W_yes (congrArg some hb197) ?_
        refine W_v (.bool (!((rd a0 y173).Tomb))) (x_not rfl) rfl ?_
        refine W_v (.bool (!((rd a0 y173).Tomb))) (x_pick (k := true) (congrArg Value.bool hb197) rfl) rfl ?_
        refine Wl_nil ?_
        exact ⟨(!((rd a0 y173).Tomb)), Option.some.inj H, ⟨rfl, rfl, rfl, rfl, rfl, trivial⟩, E, S.pick [0, 1, 2] (by decide)⟩
      · skip
        refine W_no (skT hb197) rfl ?_
        refine W_no (skT hb197) rfl ?_
        refine W_no (skT hb197) rfl ?_
        refine W_no (skT hb197) rfl ?_
        refine W_no (skT hb197) rfl ?_
        refine W_no (skT hb197) rfl ?_
        refine W_v (.bool false) (x_pick (k := false) (congrArg Value.bool hb197) rfl) rfl ?_
        refine Wl_nil ?_
        exact ⟨false, Option.some.inj H, ⟨rfl, rfl, rfl, rfl, rfl, trivial⟩, E, S.pick [0, 1, 2] (by decide)⟩
    clear o199h
    rintro ρ w210 ⟨x198, rfl, hρ, E, S⟩
    rw [agree_eta hρ]
    clear hρ
    have H := o199H
    clear o199H
    refine Wl_nil ?_
    refine tn ?_
    rcases iteS H with ⟨hb211, H⟩ | ⟨hb211, H⟩
    · refine Wp_cond_true (congrArg Value.bool hb211) ?_
      refine Wp_seq ?_
      refine Wp_region_lit ?_
      refine W_v (.slice A0 a0.length c0) (x_load (S.blk 2 rfl) ty22 rfl rfl) rfl ?_
      refine W_v (.int .i64 y173) (x_move rfl) rfl ?_
      obtain ⟨⟨p212, p213⟩, H⟩ := chkS H
      obtain ⟨b214, o215, cs216, _, _, ee221, hb217, vs218, hR219, hc220⟩ := SlW.at' hr0 p212 p213
      obtain rfl : vs218 = _ := hR219
      refine W_v (.pointer (some ⟨b214, o215 + y173.toNat * 4, none⟩)) (x_indexAddr Try.underlying22 ty27 (slA ee221) rfl p212 p213) rfl ?_
      refine W_v (.agg #[.int .i64 ((rd a0 y173).Writer), .int .i64 ((rd a0 y173).TS), .bool ((rd a0 y173).Tomb), .string (bs ((rd a0 y173).Value))]) (x_loadA (S.frz hb217) ty27 rfl (sub_el hc220 0 rfl) rfl rfl) rfl ?_
      refine W_store S 1 rfl ty27 rfl rfl [.int .i64 ((rd a0 y173).Writer), .int .i64 ((rd a0 y173).TS), .bool ((rd a0 y173).Tomb), .string (bs ((rd a0 y173).Value))] rfl rfl rfl #[.int .i64 ((rd a0 y173).Writer), .int .i64 ((rd a0 y173).TS), .bool ((rd a0 y173).Tomb), .string (bs ((rd a0 y173).Value))] rfl rfl ?_
      intro w222 E' S
      replace E := E.trans E'
      clear E'
      refine W_store S 0 rfl ty4 rfl rfl [.bool true] rfl rfl rfl #[.bool true] rfl rfl ?_
      intro w223 E' S
      replace E := E.trans E'
      clear E'
      refine Wl_nil ?_
      refine tn ?_
      refine Wp_ret ?_
      refine br (?_)
      obtain rfl := Option.some.inj H
      exact endB_mk rfl LE176 E (St.close_ex (φ := (fun _ _ => True)) (hφ := (fun _ _ _ _ _ => trivial)) () trivial (S.pick [0, 1] (by decide)))
    refine Wp_cond_false (congrArg Value.bool hb211) ?_
    refine Wp_skip ?_
    refine bn ?_
    obtain rfl := Option.some.inj H
    exact endB_mk trivial LE176 E (St.close_ex (φ := (fun _ _ => True)) (hφ := (fun _ _ _ _ _ => trivial)) () trivial (S.pick [0, 1, 2] (by decide)))
  intro w224 M225 Γ' hM226 E' hΨ S
  obtain rfl : Γ' = _ := hΨ
  replace E := E.trans E'
  clear E'
  replace HM := Hp.le_trans HM hM226
  replace hr0 := SlR.mono hr0 hM226
  have H := o170H
  clear o170H
  rcases o170 with _ | ⟨x166, x167, x168, x169⟩
  · replace H := elimL H
    refine afterR_l ?_
    replace S : St w224 M225 F (AE (ι := Unit) (fun (i : Unit) => [Blk b7 (.cells #[.bool false] 4 (0, 0)), Blk b4 (.cells #[.int .i64 0, .int .i64 0, .bool false, .string (bs ([] : Str))] 27 (0, 0)), Blk b1 (.cells #[.slice A0 a0.length c0] 22 (0, 0))]) (fun _ _ => True) (fun _ _ _ _ _ => trivial) :: [Blk b12 (.cells #[.slice A0 a0.length c0] 22 (0, 0)), Blk b14 (.cells #[.int .i64 a1] 3 (0, 0))]) := S
    obtain ⟨_, _, S⟩ := S.open_ex
    replace S : St w224 M225 F [Blk b7 (.cells #[.bool false] 4 (0, 0)), Blk b4 (.cells #[.int .i64 0, .int .i64 0, .bool false, .string (bs ([] : Str))] 27 (0, 0)), Blk b1 (.cells #[.slice A0 a0.length c0] 22 (0, 0)), Blk b12 (.cells #[.slice A0 a0.length c0] 22 (0, 0)), Blk b14 (.cells #[.int .i64 a1] 3 (0, 0))] := S
    refine bn ?_
    refine tn ?_
    refine Wp_seq ?_
    refine Wp_region_lit ?_
    refine W_v (.agg #[.int .i64 0, .int .i64 0, .bool false, .string (bs ([] : Str))]) (x_build2 (pl := [(0, 1), (1, 1), (2, 1), (3, 1)]) #[.int .i64 0, .int .i64 0, .bool false, .string (bs ([] : Str))] Try.underlying27 ty27 (by kernel_rfl) rfl (by kernel_rfl)) rfl ?_
    refine W_store S 1 rfl ty27 rfl rfl [.int .i64 0, .int .i64 0, .bool false, .string (bs ([] : Str))] rfl rfl rfl #[.int .i64 0, .int .i64 0, .bool false, .string (bs ([] : Str))] rfl rfl ?_
    intro w227 E' S
    replace E := E.trans E'
    clear E'
    refine W_store S 0 rfl ty4 rfl rfl [.bool false] rfl rfl rfl #[.bool false] rfl rfl ?_
    intro w228 E' S
    replace E := E.trans E'
    clear E'
    refine Wl_nil ?_
    refine tn ?_
    refine Wp_ret ?_
    obtain rfl := Option.some.inj H
    exact ⟨_, _, _, fun w1 e1 => run_resR (vs := [.agg #[.int .i64 0, .int .i64 0, .bool false, .string (bs ([] : Str))], .bool false]) (FA.cons (⟨_, rfl, run_loadVar_agg ty27 ((S.of_eq e1).blk 1 rfl) (sub_of_extract rfl) rfl (by decide)⟩) (FA.cons (⟨_, rfl, run_loadVar_one ty4 ((S.of_eq e1).blk 0 rfl) rfl⟩) (FA.nil))), HM, E, S.pick [] (by decide), ⟨rfl, rfl⟩⟩
  · replace H := elimR H
    refine afterR_r ?_
    replace S : St w224 M225 F (AE (ι := Unit) (fun (i : Unit) => [Blk b7 (.cells #[.bool true] 4 (0, 0)), Blk b4 (.cells #[.int .i64 x166, .int .i64 x167, .bool x168, .string (bs x169)] 27 (0, 0))]) (fun _ _ => True) (fun _ _ _ _ _ => trivial) :: [Blk b12 (.cells #[.slice A0 a0.length c0] 22 (0, 0)), Blk b14 (.cells #[.int .i64 a1] 3 (0, 0))]) := S
    obtain ⟨_, _, S⟩ := S.open_ex
    replace S : St w224 M225 F [Blk b7 (.cells #[.bool true] 4 (0, 0)), Blk b4 (.cells #[.int .i64 x166, .int .i64 x167, .bool x168, .string (bs x169)] 27 (0, 0)), Blk b12 (.cells #[.slice A0 a0.length c0] 22 (0, 0)), Blk b14 (.cells #[.int .i64 a1] 3 (0, 0))] := S
    refine Wp_ret ?_
    refine br (tr (?_))
    obtain rfl := Option.some.inj H
    exact ⟨_, _, _, fun w1 e1 => run_resR (vs := [.agg #[.int .i64 x166, .int .i64 x167, .bool x168, .string (bs x169)], .bool true]) (FA.cons (⟨_, rfl, run_loadVar_agg ty27 ((S.of_eq e1).blk 1 rfl) (sub_of_extract rfl) rfl (by decide)⟩) (FA.cons (⟨_, rfl, run_loadVar_one ty4 ((S.of_eq e1).blk 0 rfl) rfl⟩) (FA.nil))), HM, E, S.pick [] (by decide), ⟨rfl, rfl⟩⟩
/-! ### ferryman/keep.Clash: function 13 -/
def keep_Clash (k : Nat) (a0 : (List api_Version)) (a1 : Int) : Option (Bool) :=
  (Option.bind (α := Bool) (if (decide ((a0.length : Int) > (0 : Int))) = true then (if 0 ≤ (0 : Int) ∧ (0 : Int) < (a0.length : Int) then some ((decide ((rd a0 (0 : Int)).TS > a1))) else none) else some (false)) (fun x22 => some x22))
set_option maxHeartbeats 2000000 in
theorem keep_Clash.mono {k : Nat} {a0 : (List api_Version)} {a1 : Int} : OLe (keep_Clash k a0 a1) (keep_Clash (k + 1) a0 a1) := by
  unfold keep_Clash
  repeat' (first | with_reducible exact OLe.none | with_reducible exact OLe.some | with_reducible refine OLe.ite ?_ ?_ | with_reducible refine OLe.bind ?_ (fun _ => ?_) | refine OLe.bind ?_ (fun _ => ?_) | refine OLe.ite ?_ ?_ | refine OLe.elim (fun _ => ?_) (fun _ => ?_) | split)
set_option maxHeartbeats 1000000 in
set_option maxRecDepth 100000 in
theorem keep_Clash.con (k : Nat) (M : Hp) (A0 : Option Addr) (c0 : Nat) (a0 : (List api_Version)) (a1 : Int) (r : Bool) (hr0 : SlR r_api_Version M (.slice A0 a0.length c0) a0) (h : keep_Clash k a0 a1 = some r) : Con Try.prog 13 #[.slice A0 a0.length c0, .int .i64 a1] M [] (fun v M' Γ' => v = .bool r ∧ Γ' = []) := by
  refine con_of_wp Try.func13 rfl Try.ntmps13 Try.results13 rfl ?_
  intro w F rn S hrn
  have E := Ext.refl w
  have HM := Hp.le_refl M
  have H := h
  unfold keep_Clash at H
  refine Wp_seq ?_
  refine Wp_region_lit ?_
  refine W_v (.bool false) (x_assign rfl) rfl ?_
  refine Wl_nil ?_
  refine tn ?_
  refine Wp_seq ?_
  refine Wp_region_lit ?_
  refine W_v (.slice A0 a0.length c0) (x_move rfl) rfl ?_
  refine W_v (.int .i64 (a0.length : Int)) (x_len_slice (n := a0.length) Try.underlying22 rfl) rfl ?_
  refine W_v (.bool (decide ((a0.length : Int) > (0 : Int)))) (x_ibin rfl rfl rfl rfl) rfl ?_
  refine W_v (.bool (decide ((a0.length : Int) > (0 : Int)))) (x_move rfl) rfl ?_
  obtain ⟨o23, o23h, o23H⟩ := bindS H
  clear H
  refine Wl_cutN 7 (fun ρ w' => ∃ (x22 : Bool), (x22) = o23 ∧ Agree ρ [(15, .bool x22)] ∧ Ext w w' ∧ St w' M F []) ?_ ?_
  · have H := o23h
    rcases iteS H with ⟨hb21, H⟩ | ⟨hb21, H⟩
    · skip
      refine W_yes (congrArg some hb21) ?_
      refine W_v (.slice A0 a0.length c0) (x_move rfl) rfl ?_
      refine W_yes (congrArg some hb21) ?_
      obtain ⟨⟨p24, p25⟩, H⟩ := chkS H
      obtain ⟨b26, o27, cs28, _, _, ee33, hb29, vs30, hR31, hc32⟩ := SlW.at' hr0 p24 p25
      obtain rfl : vs30 = _ := hR31
      refine W_v (.pointer (some ⟨b26, o27 + (0 : Int).toNat * 4, none⟩)) (x_indexAddr Try.underlying22 ty27 (slA ee33) rfl p24 p25) rfl ?_
      refine W_yes (congrArg some hb21) ?_
      refine W_v (.pointer (some ⟨b26, o27 + (0 : Int).toNat * 4 + 1, none⟩)) (x_fieldAddr (o := o27 + (0 : Int).toNat * 4) (off := 1) Try.underlying27 rfl ty3 rfl rfl) rfl ?_
      refine W_yes (congrArg some hb21) ?_
      refine W_v (.int .i64 ((rd a0 (0 : Int)).TS)) (x_load (S.frz hb29) ty3 rfl (hc32 1 _ rfl)) rfl ?_
      refine W_yes (congrArg some hb21) ?_
      refine W_v (.int .i64 a1) (x_move rfl) rfl ?_
      refine W_yes (congrArg some hb21) ?_
      refine W_v (.bool (decide ((rd a0 (0 : Int)).TS > a1))) (x_ibin rfl rfl rfl rfl) rfl ?_
      refine W_v (.bool (decide ((rd a0 (0 : Int)).TS > a1))) (x_pick (k := true) (congrArg Value.bool hb21) rfl) rfl ?_
      refine Wl_nil ?_
      exact ⟨(decide ((rd a0 (0 : Int)).TS > a1)), Option.some.inj H, ⟨rfl, trivial⟩, E, S.pick [] (by decide)⟩
    · skip
      refine W_no (skT hb21) rfl ?_
      refine W_no (skT hb21) rfl ?_
      refine W_no (skT hb21) rfl ?_
      refine W_no (skT hb21) rfl ?_
      refine W_no (skT hb21) rfl ?_
      refine W_no (skT hb21) rfl ?_
      refine W_v (.bool false) (x_pick (k := false) (congrArg Value.bool hb21) rfl) rfl ?_
      refine Wl_nil ?_
      exact ⟨false, Option.some.inj H, ⟨rfl, trivial⟩, E, S.pick [] (by decide)⟩
  clear o23h
  rintro ρ w34 ⟨x22, rfl, hρ, E, S⟩
  rw [agree_eta hρ]
  clear hρ
  have H := o23H
  clear o23H
  refine W_v (.bool x22) (x_assign rfl) rfl ?_
  refine Wl_nil ?_
  refine tn ?_
  refine Wp_ret ?_
  obtain rfl := Option.some.inj H
  exact ⟨_, _, _, fun w1 e1 => run_resR (vs := [.bool x22]) (FA.cons (rfl) (FA.nil)), HM, E, S.pick [] (by decide), ⟨rfl, rfl⟩⟩
/-! ### ferryman/ferrymanref11.Same: function 15 -/
def ferrymanref11_Same_l0 (a0 : (List api_Version)) (a1 : (List api_Version)) : Nat → Int → Option ((Bool) ⊕ (Unit))
  | 0, _ => none
  | k + 1, x92 => (if (decide (x92 < (a0.length : Int))) = true then (if 0 ≤ x92 ∧ x92 < (a0.length : Int) then (if 0 ≤ x92 ∧ x92 < (a1.length : Int) then (if (!(((rd a0 x92).Writer == (rd a1 x92).Writer) && (((rd a0 x92).TS == (rd a1 x92).TS) && (((rd a0 x92).Tomb == (rd a1 x92).Tomb) && ((rd a0 x92).Value == (rd a1 x92).Value))))) = true then some (.inl false) else ferrymanref11_Same_l0 a0 a1 k (IntKind.i64.wrap (x92 + (1 : Int)))) else none) else none) else some (.inr ()))
set_option maxHeartbeats 2000000 in
theorem ferrymanref11_Same_l0.mono {a0 : (List api_Version)} {a1 : (List api_Version)} : ∀ {k : Nat} {x0}, OLe (ferrymanref11_Same_l0 a0 a1 k x0) (ferrymanref11_Same_l0 a0 a1 (k + 1) x0) := by
  intro k
  induction k with
  | zero => intros; exact OLe.none
  | succ k ih =>
    intros
    rw [ferrymanref11_Same_l0.eq_2, ferrymanref11_Same_l0.eq_2]
    repeat' (first | with_reducible exact OLe.none | with_reducible exact OLe.some | with_reducible refine OLe.ite ?_ ?_ | with_reducible refine OLe.bind ?_ (fun _ => ?_) | exact ih | refine OLe.bind ?_ (fun _ => ?_) | refine OLe.ite ?_ ?_ | refine OLe.elim (fun _ => ?_) (fun _ => ?_) | split)
def ferrymanref11_Same (k : Nat) (a0 : (List api_Version)) (a1 : (List api_Version)) : Option (Bool) :=
  (if ((a0.length : Int) != (a1.length : Int)) = true then some false else (Option.bind (ferrymanref11_Same_l0 a0 a1 k (0 : Int)) (fun o137o => Sum.elim (fun r' => some r') (fun _ => some true) o137o)))
set_option maxHeartbeats 2000000 in
theorem ferrymanref11_Same.mono {k : Nat} {a0 : (List api_Version)} {a1 : (List api_Version)} : OLe (ferrymanref11_Same k a0 a1) (ferrymanref11_Same (k + 1) a0 a1) := by
  unfold ferrymanref11_Same
  repeat' (first | with_reducible exact OLe.none | with_reducible exact OLe.some | with_reducible refine OLe.ite ?_ ?_ | with_reducible refine OLe.bind ?_ (fun _ => ?_) | with_reducible exact ferrymanref11_Same_l0.mono | refine OLe.bind ?_ (fun _ => ?_) | refine OLe.ite ?_ ?_ | refine OLe.elim (fun _ => ?_) (fun _ => ?_) | split)
set_option maxHeartbeats 1000000 in
set_option maxRecDepth 100000 in
theorem ferrymanref11_Same.con (k : Nat) (M : Hp) (A0 : Option Addr) (c0 : Nat) (a0 : (List api_Version)) (A1 : Option Addr) (c1 : Nat) (a1 : (List api_Version)) (r : Bool) (hr0 : SlR r_api_Version M (.slice A0 a0.length c0) a0) (hr1 : SlR r_api_Version M (.slice A1 a1.length c1) a1) (h : ferrymanref11_Same k a0 a1 = some r) : Con Try.prog 15 #[.slice A0 a0.length c0, .slice A1 a1.length c1] M [] (fun v M' Γ' => v = .bool r ∧ Γ' = []) := by
  refine con_of_wp Try.func15 rfl Try.ntmps15 Try.results15 rfl ?_
  intro w F rn S hrn
  have E := Ext.refl w
  have HM := Hp.le_refl M
  have H := h
  unfold ferrymanref11_Same at H
  refine Wp_seq ?_
  refine Wp_region_lit ?_
  refine W_v (.bool false) (x_assign rfl) rfl ?_
  refine Wl_nil ?_
  refine tn ?_
  refine Wp_seq ?_
  refine Wp_seq ?_
  refine Wp_region_lit ?_
  refine W_v (.slice A0 a0.length c0) (x_move rfl) rfl ?_
  refine W_v (.int .i64 (a0.length : Int)) (x_len_slice (n := a0.length) Try.underlying22 rfl) rfl ?_
  refine W_v (.slice A1 a1.length c1) (x_move rfl) rfl ?_
  refine W_v (.int .i64 (a1.length : Int)) (x_len_slice (n := a1.length) Try.underlying22 rfl) rfl ?_
  refine W_v (.bool ((a0.length : Int) != (a1.length : Int))) (x_ibin rfl rfl rfl rfl) rfl ?_
  refine Wl_nil ?_
  refine tn ?_
  rcases iteS H with ⟨hb1, H⟩ | ⟨hb1, H⟩
  · refine Wp_cond_true (congrArg Value.bool hb1) ?_
    refine Wp_seq ?_
    refine Wp_region_lit ?_
    refine W_v (.bool false) (x_assign rfl) rfl ?_
    refine Wl_nil ?_
    refine tn ?_
    refine Wp_ret ?_
    refine tr (?_)
    obtain rfl := Option.some.inj H
    exact ⟨_, _, _, fun w1 e1 => run_resR (vs := [.bool false]) (FA.cons (rfl) (FA.nil)), HM, E, S.pick [] (by decide), ⟨rfl, rfl⟩⟩
  refine Wp_cond_false (congrArg Value.bool hb1) ?_
  refine Wp_skip ?_
  refine tn ?_
  refine Wp_seq ?_
  refine Wp_seq ?_
  refine Wp_region_lit ?_
  refine W_v (.int .i64 0) (x_assign rfl) rfl ?_
  refine Wl_nil ?_
  refine tn ?_
  obtain ⟨o137, o137h, o137H⟩ := bindS H
  clear H
  refine Wp_blockJ (fun ρ w' => .inr () = o137 ∧ Agree ρ [] ∧ Ext w w' ∧ St w' M F []) ?_ ?_
  · skip
    refine Wp_loop (fun n ρ w' => ∃ (x92 : Int), ferrymanref11_Same_l0 a0 a1 n x92 = some o137 ∧ Agree ρ [(0, .slice A0 a0.length c0), (1, .slice A1 a1.length c1), (5, .int .i64 x92)] ∧ Ext w w' ∧ St w' M F []) k ?_ ?_
    · skip
      exact ⟨(0 : Int), o137h, ⟨rfl, rfl, rfl, trivial⟩, E, S.pick [] (by decide)⟩
    · intro n
      rintro ρ w138 ⟨x92, H, hρ, E, S⟩
      rw [agree_eta hρ]
      clear hρ
      cases n with
      | zero => cases H
      | succ k =>
        rw [ferrymanref11_Same_l0.eq_2] at H
        refine Wp_seq ?_
        refine Wp_seq ?_
        refine Wp_region_lit ?_
        refine W_v (.int .i64 x92) (x_move rfl) rfl ?_
        refine W_v (.slice A0 a0.length c0) (x_move rfl) rfl ?_
        refine W_v (.int .i64 (a0.length : Int)) (x_len_slice (n := a0.length) Try.underlying22 rfl) rfl ?_
        refine W_v (.bool (decide (x92 < (a0.length : Int)))) (x_ibin rfl rfl rfl rfl) rfl ?_
        refine Wl_nil ?_
        refine tn ?_
        rcases iteS H with ⟨hb139, H⟩ | ⟨hb139, H⟩
        · refine Wp_cond_true (congrArg Value.bool hb139) ?_
          refine Wp_skip ?_
          refine tn ?_
          refine Wp_seq ?_
          refine Wp_block ?_
          refine Wp_seq ?_
          refine Wp_region_any (S := fun w' => ∃ Mx, M.le Mx ∧ St w' Mx F []) mixed ?_
          intro w160 hw161 E'
          replace S := S.heap hw161
          replace E := E.trans E'
          clear E'
          refine Wa_take (i := 0) rfl (by kernel_rfl) rfl rfl (.slice A0 a0.length c0) rfl (fun w' h' => x_move rfl) (⟨M, Hp.le_refl M, S.pick [] (by decide)⟩) ?_
          refine Wa_take (i := 1) rfl (by kernel_rfl) rfl rfl (.int .i64 x92) rfl (fun w' h' => x_move rfl) (⟨M, Hp.le_refl M, S.pick [] (by decide)⟩) ?_
          obtain ⟨⟨p162, p163⟩, H⟩ := chkS H
          obtain ⟨b164, o165, cs166, _, _, ee171, hb167, vs168, hR169, hc170⟩ := SlW.at' hr0 p162 p163
          obtain rfl : vs168 = _ := hR169
          refine Wa_take (i := 2) rfl (by kernel_rfl) rfl rfl (.pointer (some ⟨b164, o165 + x92.toNat * 4, none⟩)) rfl (fun w' h' => x_indexAddr Try.underlying22 ty27 (slA ee171) rfl p162 p163) (⟨M, Hp.le_refl M, S.pick [] (by decide)⟩) ?_
          refine Wa_take (i := 3) rfl (by kernel_rfl) rfl rfl (.agg #[.int .i64 ((rd a0 x92).Writer), .int .i64 ((rd a0 x92).TS), .bool ((rd a0 x92).Tomb), .string (bs ((rd a0 x92).Value))]) rfl (fun w' h' => x_loadA (cls_frz h' hb167) ty27 rfl (sub_el hc170 0 rfl) rfl rfl) (⟨M, Hp.le_refl M, S.pick [] (by decide)⟩) ?_
          refine Wa_take (i := 4) rfl (by kernel_rfl) rfl rfl (.slice A1 a1.length c1) rfl (fun w' h' => x_move rfl) (⟨M, Hp.le_refl M, S.pick [] (by decide)⟩) ?_
          refine Wa_take (i := 5) rfl (by kernel_rfl) rfl rfl (.int .i64 x92) rfl (fun w' h' => x_move rfl) (⟨M, Hp.le_refl M, S.pick [] (by decide)⟩) ?_
          obtain ⟨⟨p172, p173⟩, H⟩ := chkS H
          obtain ⟨b174, o175, cs176, _, _, ee181, hb177, vs178, hR179, hc180⟩ := SlW.at' hr1 p172 p173
          obtain rfl : vs178 = _ := hR179
          refine Wa_take (i := 6) rfl (by kernel_rfl) rfl rfl (.pointer (some ⟨b174, o175 + x92.toNat * 4, none⟩)) rfl (fun w' h' => x_indexAddr Try.underlying22 ty27 (slA ee181) rfl p172 p173) (⟨M, Hp.le_refl M, S.pick [] (by decide)⟩) ?_
          refine Wa_take (i := 7) rfl (by kernel_rfl) rfl rfl (.agg #[.int .i64 ((rd a1 x92).Writer), .int .i64 ((rd a1 x92).TS), .bool ((rd a1 x92).Tomb), .string (bs ((rd a1 x92).Value))]) rfl (fun w' h' => x_loadA (cls_frz h' hb177) ty27 rfl (sub_el hc180 0 rfl) rfl rfl) (⟨M, Hp.le_refl M, S.pick [] (by decide)⟩) ?_
          refine Wa_take (i := 8) rfl (by kernel_rfl) rfl rfl (.bool (!(((rd a0 x92).Writer == (rd a1 x92).Writer) && (((rd a0 x92).TS == (rd a1 x92).TS) && (((rd a0 x92).Tomb == (rd a1 x92).Tomb) && ((rd a0 x92).Value == (rd a1 x92).Value)))))) rfl (fun w' h' => x_ne_of (en27 _ _ _ _) rfl (eq27 _ ((rd a0 x92).Writer) ((rd a0 x92).TS) ((rd a0 x92).Tomb) ((rd a0 x92).Value) ((rd a1 x92).Writer) ((rd a1 x92).TS) ((rd a1 x92).Tomb) ((rd a1 x92).Value))) (⟨M, Hp.le_refl M, S.pick [] (by decide)⟩) ?_
          refine Wa_done (by kernel_rfl) ?_
          refine tn ?_
          rcases iteS H with ⟨hb182, H⟩ | ⟨hb182, H⟩
          · refine Wp_cond_true (congrArg Value.bool hb182) ?_
            refine Wp_seq ?_
            refine Wp_region_lit ?_
            refine W_v (.bool false) (x_assign rfl) rfl ?_
            refine Wl_nil ?_
            refine tn ?_
            refine Wp_ret ?_
            refine br (tr (tr (br (tr (tr (?_))))))
            obtain rfl := Option.some.inj H
            have H := o137H
            replace H := elimL H
            obtain rfl := Option.some.inj H
            exact ⟨_, _, _, fun w1 e1 => run_resR (vs := [.bool false]) (FA.cons (rfl) (FA.nil)), HM, E, S.pick [] (by decide), ⟨rfl, rfl⟩⟩
          refine Wp_cond_false (congrArg Value.bool hb182) ?_
          refine Wp_skip ?_
          refine bn ?_
          refine tn ?_
          refine Wp_region_lit ?_
          refine W_v (.int .i64 x92) (x_move rfl) rfl ?_
          refine W_v (.int .i64 (IntKind.i64.wrap (x92 + (1 : Int)))) (x_ibin rfl rfl rfl rfl) rfl ?_
          refine W_v (.int .i64 (IntKind.i64.wrap (x92 + (1 : Int)))) (x_assign rfl) rfl ?_
          refine Wl_nil ?_
          refine tn ?_
          exact ⟨k, Nat.lt_succ_self k, ⟨(IntKind.i64.wrap (x92 + (1 : Int))), H, ⟨rfl, rfl, rfl, trivial⟩, E, S.pick [] (by decide)⟩⟩
        refine Wp_cond_false (congrArg Value.bool hb139) ?_
        refine Wp_exit ?_
        refine tx (tx (bsm (?_)))
        refine tn ?_
        exact ⟨Option.some.inj H, trivial, E, S.pick [] (by decide)⟩
  clear o137h
  rintro ρ w183 ⟨rfl, hρ, E, S⟩
  rw [agree_eta hρ]
  clear hρ
  have H := o137H
  clear o137H
  replace H := elimR H
  refine tn ?_
  refine Wp_seq ?_
  refine Wp_region_lit ?_
  refine W_v (.bool true) (x_assign rfl) rfl ?_
  refine Wl_nil ?_
  refine tn ?_
  refine Wp_ret ?_
  obtain rfl := Option.some.inj H
  exact ⟨_, _, _, fun w1 e1 => run_resR (vs := [.bool true]) (FA.cons (rfl) (FA.nil)), HM, E, S.pick [] (by decide), ⟨rfl, rfl⟩⟩
/-! ### ferryman/ferrymanlaw11.some: function 16 -/
def ferrymanlaw11_some (k : Nat)  : Option ((List api_Version)) :=
  (Option.bind (α := List api_Version) (some ([(⟨(4 : Int), (9 : Int), false, ([98] : Str)⟩ : api_Version), (⟨(3 : Int), (6 : Int), true, ([] : Str)⟩ : api_Version), (⟨(2 : Int), (4 : Int), false, ([97] : Str)⟩ : api_Version), (⟨(1 : Int), (2 : Int), false, ([99] : Str)⟩ : api_Version)] : List api_Version)) (fun x4 => some x4))
set_option maxHeartbeats 2000000 in
theorem ferrymanlaw11_some.mono {k : Nat}  : OLe (ferrymanlaw11_some k ) (ferrymanlaw11_some (k + 1) ) := by
  unfold ferrymanlaw11_some
  repeat' (first | with_reducible exact OLe.none | with_reducible exact OLe.some | with_reducible refine OLe.ite ?_ ?_ | with_reducible refine OLe.bind ?_ (fun _ => ?_) | refine OLe.bind ?_ (fun _ => ?_) | refine OLe.ite ?_ ?_ | refine OLe.elim (fun _ => ?_) (fun _ => ?_) | split)
set_option maxHeartbeats 1000000 in
set_option maxRecDepth 100000 in
theorem ferrymanlaw11_some.con (k : Nat) (M : Hp)  (r : (List api_Version))  (h : ferrymanlaw11_some k  = some r) : Con Try.prog 16 #[] M [] (fun v M' Γ' => ∃ (A0 : Option Addr) (c0 : Nat), v = .slice A0 r.length c0 ∧ Γ' = [Row r_api_Version 27 (.slice A0 r.length c0) r]) := by
  refine con_of_wp Try.func16 rfl Try.ntmps16 Try.results16 rfl ?_
  intro w F rn S hrn
  have E := Ext.refl w
  have HM := Hp.le_refl M
  have H := h
  unfold ferrymanlaw11_some at H
  refine Wp_seq ?_
  refine Wp_region_lit ?_
  refine W_v (.slice none 0 0) (x_assign rfl) rfl ?_
  refine Wl_nil ?_
  refine tn ?_
  refine Wp_seq ?_
  refine Wp_region_lit ?_
  refine W_v (.agg #[.int .i64 4, .int .i64 9, .bool false, .string (bs ([98] : Str))]) (x_build2 (pl := [(0, 1), (1, 1), (2, 1), (3, 1)]) #[.int .i64 4, .int .i64 9, .bool false, .string (bs ([98] : Str))] Try.underlying27 ty27 (by kernel_rfl) rfl (by kernel_rfl)) rfl ?_
  refine W_v (.agg #[.int .i64 3, .int .i64 6, .bool true, .string (bs ([] : Str))]) (x_build2 (pl := [(0, 1), (1, 1), (2, 1), (3, 1)]) #[.int .i64 3, .int .i64 6, .bool true, .string (bs ([] : Str))] Try.underlying27 ty27 (by kernel_rfl) rfl (by kernel_rfl)) rfl ?_
  refine W_v (.agg #[.int .i64 2, .int .i64 4, .bool false, .string (bs ([97] : Str))]) (x_build2 (pl := [(0, 1), (1, 1), (2, 1), (3, 1)]) #[.int .i64 2, .int .i64 4, .bool false, .string (bs ([97] : Str))] Try.underlying27 ty27 (by kernel_rfl) rfl (by kernel_rfl)) rfl ?_
  refine W_v (.agg #[.int .i64 1, .int .i64 2, .bool false, .string (bs ([99] : Str))]) (x_build2 (pl := [(0, 1), (1, 1), (2, 1), (3, 1)]) #[.int .i64 1, .int .i64 2, .bool false, .string (bs ([99] : Str))] Try.underlying27 ty27 (by kernel_rfl) rfl (by kernel_rfl)) rfl ?_
  refine W_bslice S #[.int .i64 4, .int .i64 9, .bool false, .string (bs ([98] : Str)), .int .i64 3, .int .i64 6, .bool true, .string (bs ([] : Str)), .int .i64 2, .int .i64 4, .bool false, .string (bs ([97] : Str)), .int .i64 1, .int .i64 2, .bool false, .string (bs ([99] : Str))] Try.underlying22 ty27 rfl rfl #[.int .i64 0, .int .i64 0, .bool false, .string (bs ([] : Str)), .int .i64 0, .int .i64 0, .bool false, .string (bs ([] : Str)), .int .i64 0, .int .i64 0, .bool false, .string (bs ([] : Str)), .int .i64 0, .int .i64 0, .bool false, .string (bs ([] : Str))] (by kernel_rfl) (by kernel_rfl) rfl ?_
  intro b1 w2 E' S
  replace E := E.trans E'
  clear E'
  replace S := S.blk_row (r := r_api_Version) (l := ([(⟨(4 : Int), (9 : Int), false, ([98] : Str)⟩ : api_Version), (⟨(3 : Int), (6 : Int), true, ([] : Str)⟩ : api_Version), (⟨(2 : Int), (4 : Int), false, ([97] : Str)⟩ : api_Version), (⟨(1 : Int), (2 : Int), false, ([99] : Str)⟩ : api_Version)] : List api_Version)) 0 rfl 4 (Nat.le_refl 4) rfl (Cells.cons (vs := [.int .i64 4, .int .i64 9, .bool false, .string (bs ([98] : Str))]) (rfl) (Cells.cons (vs := [.int .i64 3, .int .i64 6, .bool true, .string (bs ([] : Str))]) (rfl) (Cells.cons (vs := [.int .i64 2, .int .i64 4, .bool false, .string (bs ([97] : Str))]) (rfl) (Cells.cons (vs := [.int .i64 1, .int .i64 2, .bool false, .string (bs ([99] : Str))]) (rfl) Cells.nil))))
  obtain ⟨x4, he5, H⟩ := bindS H
  replace he5 := Option.some.inj he5
  rw [he5] at S
  rw [show Value.slice (some ⟨b1, 0, none⟩) 4 4 = Value.slice (some ⟨b1, 0, none⟩) x4.length 4 from (by rw [← he5]; rfl)]
  clear he5
  refine W_v (.slice (some ⟨b1, 0, none⟩) x4.length 4) (x_assign rfl) rfl ?_
  refine Wl_nil ?_
  refine tn ?_
  refine Wp_ret ?_
  obtain rfl := Option.some.inj H
  exact ⟨_, _, _, fun w1 e1 => run_resR (vs := [.slice (some ⟨b1, 0, none⟩) x4.length 4]) (FA.cons (rfl) (FA.nil)), HM, E, S.pick [0] (by decide), ⟨(some ⟨b1, 0, none⟩), 4, rfl, rfl⟩⟩
/-! ### ferryman/ferrymanlaw11.awake: function 10 -/
def ferrymanlaw11_awake (k : Nat)  : Option (Bool) :=
  (Option.bind (ferrymanlaw11_some k ) (fun t1 => (Option.bind (keep_Seen k t1 (8 : Int)) (fun t7 => (Option.bind (keep_Seen k t1 (5 : Int)) (fun t14 => (Option.bind (keep_Seen k t1 (1 : Int)) (fun t21 => (if 0 ≤ (1 : Int) ∧ (1 : Int) ≤ (t1.length : Int) then (Option.bind (keep_Kept k t1 (7 : Int)) (fun t395 => (Option.bind (ferrymanref11_Same k t395 (List.take (1 : Int).toNat t1)) (fun t401 => (Option.bind (α := Bool) (if t401 = true then (if 0 ≤ (3 : Int) ∧ (3 : Int) ≤ (t1.length : Int) then (Option.bind (keep_Kept k t1 (5 : Int)) (fun t426 => (Option.bind (ferrymanref11_Same k t426 (List.take (3 : Int).toNat t1)) (fun t432 => some (t432))))) else none) else some (false)) (fun x419 => (Option.bind (α := Bool) (if x419 = true then (Option.bind (keep_Kept k t1 (1 : Int)) (fun t448 => (Option.bind (ferrymanref11_Same k t448 t1) (fun t454 => some (t454))))) else some (false)) (fun x446 => (Option.bind (α := Bool) (if x446 = true then (if 0 ≤ (1 : Int) ∧ (1 : Int) ≤ (t1.length : Int) then (Option.bind (keep_Kept k t1 (9 : Int)) (fun t480 => (Option.bind (ferrymanref11_Same k t480 (List.take (1 : Int).toNat t1)) (fun t486 => some (t486))))) else none) else some (false)) (fun x473 => (Option.bind (α := Bool) (if ((x473 && (!t7.2)) && t14.2) = true then (if 0 ≤ (2 : Int) ∧ (2 : Int) < (t1.length : Int) then some (((t14.1.Writer == (rd t1 (2 : Int)).Writer) && ((t14.1.TS == (rd t1 (2 : Int)).TS) && ((t14.1.Tomb == (rd t1 (2 : Int)).Tomb) && (t14.1.Value == (rd t1 (2 : Int)).Value))))) else none) else some (false)) (fun x503 => (Option.bind (α := Bool) (if (x503 && (!t21.2)) = true then (Option.bind (keep_Clash k t1 (8 : Int)) (fun t523 => some (t523))) else some (false)) (fun x521 => (Option.bind (α := Bool) (if x521 = true then (Option.bind (keep_Clash k t1 (9 : Int)) (fun t533 => some ((!t533)))) else some (false)) (fun x531 => (Option.bind (α := Bool) (if x531 = true then (if 0 ≤ (1 : Int) ∧ (1 : Int) ≤ (2 : Int) ∧ (2 : Int) ≤ (t1.length : Int) then (Option.bind (keep_Kept k (List.take ((2 : Int) - (1 : Int)).toNat (List.drop (1 : Int).toNat t1)) (6 : Int)) (fun t560 => some (((t560.length : Int) == (0 : Int))))) else none) else some (false)) (fun x551 => some x551)))))))))))))))))) else none)))))))))
set_option maxHeartbeats 2000000 in
theorem ferrymanlaw11_awake.mono {k : Nat}  : OLe (ferrymanlaw11_awake k ) (ferrymanlaw11_awake (k + 1) ) := by
  unfold ferrymanlaw11_awake
  repeat' (first | with_reducible exact OLe.none | with_reducible exact OLe.some | with_reducible refine OLe.ite ?_ ?_ | with_reducible refine OLe.bind ?_ (fun _ => ?_) | with_reducible exact ferrymanlaw11_some.mono | with_reducible exact ferrymanref11_Same.mono | with_reducible exact keep_Clash.mono | with_reducible exact keep_Kept.mono | with_reducible exact keep_Seen.mono | refine OLe.bind ?_ (fun _ => ?_) | refine OLe.ite ?_ ?_ | refine OLe.elim (fun _ => ?_) (fun _ => ?_) | split)
set_option maxHeartbeats 1000000 in
set_option maxRecDepth 100000 in
theorem ferrymanlaw11_awake.con (k : Nat) (M : Hp)  (r : Bool)  (h : ferrymanlaw11_awake k  = some r) : Con Try.prog 10 #[] M [] (fun v M' Γ' => v = .bool r ∧ Γ' = []) := by
  refine con_of_wp Try.func10 rfl Try.ntmps10 Try.results10 rfl ?_
  intro w F rn S hrn
  have E := Ext.refl w
  have HM := Hp.le_refl M
  have H := h
  unfold ferrymanlaw11_awake at H
  refine Wp_seq ?_
  refine Wp_region_lit ?_
  refine W_v (.bool false) (x_assign rfl) rfl ?_
  refine Wl_nil ?_
  refine tn ?_
  refine Wp_seq ?_
  refine Wp_region_lit ?_
  obtain ⟨t1, ht2, H⟩ := bindS H
  refine W_callF fn16 (ferrymanlaw11_some.con k M  t1  ht2) S rfl rfl (by rintro _ _ _ ⟨_, _, _, rfl⟩; exact (flat_cons (flat_row (fun _ _ _ _ h => h)) flat_nil)) ?_
  rintro _ w6 _ Γ' E' S ⟨A3, c4, rfl, rfl⟩
  replace E := E.trans E'
  clear E'
  refine W_v (.slice A3 t1.length c4) (x_assign rfl) rfl ?_
  refine Wl_nil ?_
  refine tn ?_
  refine Wp_seq ?_
  refine Wp_region_lit ?_
  refine W_v (.slice A3 t1.length c4) (x_move rfl) rfl ?_
  obtain ⟨t7, ht8, H⟩ := bindS H
  refine W_callN 1 fn12 (fun h9 hs9 hd9 => keep_Seen.con k _ A3 c4 t1 (8 : Int) t7 (Sats.row hs9 hd9 0 rfl) ht8) S rfl rfl (by rintro _ _ _ ⟨_, rfl⟩; exact flat_nil) ?_
  rintro _ w9 _ Γ' E' S ⟨rfl, rfl⟩
  replace E := E.trans E'
  clear E'
  refine W_v (.tuple #[.agg #[.int .i64 t7.1.Writer, .int .i64 t7.1.TS, .bool t7.1.Tomb, .string (bs t7.1.Value)], .bool t7.2]) (x_move rfl) rfl ?_
  refine W_v (.agg #[.int .i64 t7.1.Writer, .int .i64 t7.1.TS, .bool t7.1.Tomb, .string (bs t7.1.Value)]) (x_extract rfl rfl) rfl ?_
  refine W_v (.bool t7.2) (x_extract rfl rfl) rfl ?_
  refine W_alloc S #[.int .i64 0, .int .i64 0, .bool false, .string (bs ([] : Str))] ty27 rfl rfl ?_
  intro b10 w11 E' S
  replace E := E.trans E'
  clear E'
  refine W_store S 0 rfl ty27 rfl rfl [.int .i64 t7.1.Writer, .int .i64 t7.1.TS, .bool t7.1.Tomb, .string (bs t7.1.Value)] rfl rfl rfl #[.int .i64 t7.1.Writer, .int .i64 t7.1.TS, .bool t7.1.Tomb, .string (bs t7.1.Value)] rfl rfl ?_
  intro w13 E' S
  replace E := E.trans E'
  clear E'
  refine W_v (.bool t7.2) (x_assign rfl) rfl ?_
  refine Wl_nil ?_
  refine tn ?_
  refine Wp_seq ?_
  refine Wp_region_lit ?_
  refine W_v (.slice A3 t1.length c4) (x_move rfl) rfl ?_
  replace S : St w13 M F [Row r_api_Version 27 (.slice A3 t1.length c4) t1, Blk b10 (.cells #[.int .i64 t7.1.Writer, .int .i64 t7.1.TS, .bool t7.1.Tomb, .string (bs t7.1.Value)] 27 (0, 0))] := S.pick [1, 0] (by decide)
  obtain ⟨t14, ht15, H⟩ := bindS H
  refine W_callN 1 fn12 (fun h9 hs9 hd9 => keep_Seen.con k _ A3 c4 t1 (5 : Int) t14 (Sats.row hs9 hd9 0 rfl) ht15) S rfl rfl (by rintro _ _ _ ⟨_, rfl⟩; exact flat_nil) ?_
  rintro _ w16 _ Γ' E' S ⟨rfl, rfl⟩
  replace E := E.trans E'
  clear E'
  refine W_v (.tuple #[.agg #[.int .i64 t14.1.Writer, .int .i64 t14.1.TS, .bool t14.1.Tomb, .string (bs t14.1.Value)], .bool t14.2]) (x_move rfl) rfl ?_
  refine W_v (.agg #[.int .i64 t14.1.Writer, .int .i64 t14.1.TS, .bool t14.1.Tomb, .string (bs t14.1.Value)]) (x_extract rfl rfl) rfl ?_
  refine W_v (.bool t14.2) (x_extract rfl rfl) rfl ?_
  refine W_alloc S #[.int .i64 0, .int .i64 0, .bool false, .string (bs ([] : Str))] ty27 rfl rfl ?_
  intro b17 w18 E' S
  replace E := E.trans E'
  clear E'
  refine W_store S 0 rfl ty27 rfl rfl [.int .i64 t14.1.Writer, .int .i64 t14.1.TS, .bool t14.1.Tomb, .string (bs t14.1.Value)] rfl rfl rfl #[.int .i64 t14.1.Writer, .int .i64 t14.1.TS, .bool t14.1.Tomb, .string (bs t14.1.Value)] rfl rfl ?_
  intro w20 E' S
  replace E := E.trans E'
  clear E'
  refine W_v (.bool t14.2) (x_assign rfl) rfl ?_
  refine Wl_nil ?_
  refine tn ?_
  refine Wp_seq ?_
  refine Wp_region_lit ?_
  refine W_v (.slice A3 t1.length c4) (x_move rfl) rfl ?_
  replace S : St w20 M F [Row r_api_Version 27 (.slice A3 t1.length c4) t1, Blk b17 (.cells #[.int .i64 t14.1.Writer, .int .i64 t14.1.TS, .bool t14.1.Tomb, .string (bs t14.1.Value)] 27 (0, 0)), Blk b10 (.cells #[.int .i64 t7.1.Writer, .int .i64 t7.1.TS, .bool t7.1.Tomb, .string (bs t7.1.Value)] 27 (0, 0))] := S.pick [1, 0, 2] (by decide)
  obtain ⟨t21, ht22, H⟩ := bindS H
  refine W_callN 1 fn12 (fun h9 hs9 hd9 => keep_Seen.con k _ A3 c4 t1 (1 : Int) t21 (Sats.row hs9 hd9 0 rfl) ht22) S rfl rfl (by rintro _ _ _ ⟨_, rfl⟩; exact flat_nil) ?_
  rintro _ w23 _ Γ' E' S ⟨rfl, rfl⟩
  replace E := E.trans E'
  clear E'
  refine W_v (.tuple #[.agg #[.int .i64 t21.1.Writer, .int .i64 t21.1.TS, .bool t21.1.Tomb, .string (bs t21.1.Value)], .bool t21.2]) (x_move rfl) rfl ?_
  refine W_v (.agg #[.int .i64 t21.1.Writer, .int .i64 t21.1.TS, .bool t21.1.Tomb, .string (bs t21.1.Value)]) (x_extract rfl rfl) rfl ?_
  refine W_v (.bool t21.2) (x_extract rfl rfl) rfl ?_
  refine W_alloc S #[.int .i64 0, .int .i64 0, .bool false, .string (bs ([] : Str))] ty27 rfl rfl ?_
  intro b24 w25 E' S
  replace E := E.trans E'
  clear E'
  refine W_store S 0 rfl ty27 rfl rfl [.int .i64 t21.1.Writer, .int .i64 t21.1.TS, .bool t21.1.Tomb, .string (bs t21.1.Value)] rfl rfl rfl #[.int .i64 t21.1.Writer, .int .i64 t21.1.TS, .bool t21.1.Tomb, .string (bs t21.1.Value)] rfl rfl ?_
  intro w27 E' S
  replace E := E.trans E'
  clear E'
  refine W_v (.bool t21.2) (x_assign rfl) rfl ?_
  refine Wl_nil ?_
  refine tn ?_
  refine Wp_seq ?_
  obtain ⟨M208, hM209, hf210, S⟩ := S.row_freeze 1 rfl
  replace HM := Hp.le_trans HM hM209
  refine Wp_region_any (S := fun w' => ∃ Mx, M208.le Mx ∧ St w' Mx F [Blk b24 (.cells #[.int .i64 t21.1.Writer, .int .i64 t21.1.TS, .bool t21.1.Tomb, .string (bs t21.1.Value)] 27 (0, 0)), Blk b17 (.cells #[.int .i64 t14.1.Writer, .int .i64 t14.1.TS, .bool t14.1.Tomb, .string (bs t14.1.Value)] 27 (0, 0)), Blk b10 (.cells #[.int .i64 t7.1.Writer, .int .i64 t7.1.TS, .bool t7.1.Tomb, .string (bs t7.1.Value)] 27 (0, 0))]) mixed ?_
  intro w388 hw389 E'
  replace S := S.heap hw389
  replace E := E.trans E'
  clear E'
  refine Wa_take (i := 0) rfl (by kernel_rfl) rfl rfl (.slice A3 t1.length c4) rfl (fun w' h' => x_move rfl) (⟨M208, Hp.le_refl M208, S.pick [0, 1, 2] (by decide)⟩) ?_
  refine Wa_take (i := 2) rfl (by kernel_rfl) rfl rfl (.slice A3 t1.length c4) rfl (fun w' h' => x_move rfl) (⟨M208, Hp.le_refl M208, S.pick [0, 1, 2] (by decide)⟩) ?_
  obtain ⟨⟨p390, p391⟩, H⟩ := chkS H
  obtain ⟨hs393, hx394⟩ := sl_hi hf210 p390 p391
  have hs393z := hs393
  refine Wa_take (i := 3) rfl (by kernel_rfl) rfl rfl (.slice A3 (List.take (1 : Int).toNat t1).length c4) rfl (fun w' h' => hx394 Try.underlying22 ty27 rfl rfl) (⟨M208, Hp.le_refl M208, S.pick [0, 1, 2] (by decide)⟩) ?_
  refine Wa_solo (i := 1) rfl (by kernel_rfl) ?_
  obtain ⟨t395, ht396, H⟩ := bindS H
  refine W_callF fn11 (keep_Kept.con k M208 A3 c4 t1 (7 : Int) t395 hf210 ht396) S rfl rfl (by rintro _ _ _ ⟨_, _, _, rfl⟩; exact (flat_cons (flat_row (fun _ _ _ _ h => h)) flat_nil)) ?_
  rintro _ w400 _ Γ' E' S ⟨A397, c398, rfl, rfl⟩
  replace E := E.trans E'
  clear E'
  refine Wl_nil (on_n ⟨⟨M208, Hp.le_refl M208, S.pick [1, 2, 3] (by decide)⟩, ?_⟩)
  refine Wa_solo (i := 4) rfl (by kernel_rfl) ?_
  obtain ⟨t401, ht402, H⟩ := bindS H
  refine W_callN 1 fn15 (fun h9 hs9 hd9 => ferrymanref11_Same.con k _ A397 c398 t395 A3 c4 (List.take (1 : Int).toNat t1) t401 (Sats.row hs9 hd9 0 rfl) (SlR.mono hs393 (Hp.le_union_left _ _)) ht402) S rfl rfl (by rintro _ _ _ ⟨_, rfl⟩; exact flat_nil) ?_
  rintro _ w403 _ Γ' E' S ⟨rfl, rfl⟩
  replace E := E.trans E'
  clear E'
  refine Wl_nil (on_n ⟨⟨M208, Hp.le_refl M208, S.pick [1, 2, 3] (by decide)⟩, ?_⟩)
  refine Wa_take (i := 5) rfl (by kernel_rfl) rfl rfl (.bool t401) rfl (fun w' h' => x_move rfl) (⟨M208, Hp.le_refl M208, S.pick [1, 2, 3] (by decide)⟩) ?_
  obtain ⟨o420, o420h, o420H⟩ := bindS H
  clear H
  refine Wa_join (fun ρ w' => ∃ (x419 : Bool), (x419) = o420 ∧ Agree ρ [(0, .bool false), (1, .slice A3 t1.length c4), (3, .bool t7.2), (4, .pointer (some ⟨b17, 0, none⟩)), (5, .bool t14.2), (7, .bool t21.2), (35, .bool x419)] ∧ Ext w w' ∧ St w' M208 F [Blk b24 (.cells #[.int .i64 t21.1.Writer, .int .i64 t21.1.TS, .bool t21.1.Tomb, .string (bs t21.1.Value)] 27 (0, 0)), Blk b17 (.cells #[.int .i64 t14.1.Writer, .int .i64 t14.1.TS, .bool t14.1.Tomb, .string (bs t14.1.Value)] 27 (0, 0)), Blk b10 (.cells #[.int .i64 t7.1.Writer, .int .i64 t7.1.TS, .bool t7.1.Tomb, .string (bs t7.1.Value)] 27 (0, 0))]) 48 (Ls 60 [0, 2, 3, 1, 4, 5, 6, 8, 9, 7, 10, 11]) ?_ ?_
  rotate_left
  · intro hrest
    have H := o420h
    clear o420h o420H
    rcases iteS H with ⟨hb418, H⟩ | ⟨hb418, H⟩
    · skip
      refine Wa_takeY (i := 6) rfl (by kernel_rfl) rfl rfl (.slice A3 t1.length c4) rfl (congrArg some hb418) (fun w' h' => x_move rfl) (⟨M208, Hp.le_refl M208, S.pick [1, 2, 3] (by decide)⟩) ?_
      refine Wa_takeY (i := 8) rfl (by kernel_rfl) rfl rfl (.slice A3 t1.length c4) rfl (congrArg some hb418) (fun w' h' => x_move rfl) (⟨M208, Hp.le_refl M208, S.pick [1, 2, 3] (by decide)⟩) ?_
      obtain ⟨⟨p421, p422⟩, H⟩ := chkS H
      obtain ⟨hs424, hx425⟩ := sl_hi hf210 p421 p422
      have hs424z := hs424
      refine Wa_takeY (i := 9) rfl (by kernel_rfl) rfl rfl (.slice A3 (List.take (3 : Int).toNat t1).length c4) rfl (congrArg some hb418) (fun w' h' => hx425 Try.underlying22 ty27 rfl rfl) (⟨M208, Hp.le_refl M208, S.pick [1, 2, 3] (by decide)⟩) ?_
      refine Wa_solo (i := 7) rfl (by kernel_rfl) ?_
      refine W_yes (congrArg some hb418) ?_
      obtain ⟨t426, ht427, H⟩ := bindS H
      refine W_callF fn11 (keep_Kept.con k M208 A3 c4 t1 (5 : Int) t426 hf210 ht427) S rfl rfl (by rintro _ _ _ ⟨_, _, _, rfl⟩; exact (flat_cons (flat_row (fun _ _ _ _ h => h)) flat_nil)) ?_
      rintro _ w431 _ Γ' E' S ⟨A428, c429, rfl, rfl⟩
      replace E := E.trans E'
      clear E'
      refine Wl_nil (on_n ⟨⟨M208, Hp.le_refl M208, S.pick [2, 3, 4] (by decide)⟩, ?_⟩)
      refine Wa_solo (i := 10) rfl (by kernel_rfl) ?_
      refine W_yes (congrArg some hb418) ?_
      obtain ⟨t432, ht433, H⟩ := bindS H
      refine W_callN 1 fn15 (fun h9 hs9 hd9 => ferrymanref11_Same.con k _ A428 c429 t426 A3 c4 (List.take (3 : Int).toNat t1) t432 (Sats.row hs9 hd9 0 rfl) (SlR.mono hs424 (Hp.le_union_left _ _)) ht433) S rfl rfl (by rintro _ _ _ ⟨_, rfl⟩; exact flat_nil) ?_
      rintro _ w434 _ Γ' E' S ⟨rfl, rfl⟩
      replace E := E.trans E'
      clear E'
      refine Wl_nil (on_n ⟨⟨M208, Hp.le_refl M208, S.pick [2, 3, 4] (by decide)⟩, ?_⟩)
      refine Wa_take (i := 11) rfl (by kernel_rfl) rfl rfl (.bool t432) rfl (fun w' h' => x_pick (k := true) (congrArg Value.bool hb418) rfl) (⟨M208, Hp.le_refl M208, S.pick [2, 3, 4] (by decide)⟩) ?_
      exact hrest _ _ ⟨t432, Option.some.inj H, ⟨rfl, rfl, rfl, rfl, rfl, rfl, rfl, trivial⟩, E, S.pick [2, 3, 4] (by decide)⟩
    · skip
      refine Wa_takeN (i := 6) rfl (by kernel_rfl) rfl rfl rfl (skT hb418) (⟨M208, Hp.le_refl M208, S.pick [1, 2, 3] (by decide)⟩) ?_
      refine Wa_takeN (i := 7) rfl (by kernel_rfl) rfl rfl rfl (skT hb418) (⟨M208, Hp.le_refl M208, S.pick [1, 2, 3] (by decide)⟩) ?_
      refine Wa_takeN (i := 8) rfl (by kernel_rfl) rfl rfl rfl (skT hb418) (⟨M208, Hp.le_refl M208, S.pick [1, 2, 3] (by decide)⟩) ?_
      refine Wa_takeN (i := 9) rfl (by kernel_rfl) rfl rfl rfl (skT hb418) (⟨M208, Hp.le_refl M208, S.pick [1, 2, 3] (by decide)⟩) ?_
      refine Wa_takeN (i := 10) rfl (by kernel_rfl) rfl rfl rfl (skT hb418) (⟨M208, Hp.le_refl M208, S.pick [1, 2, 3] (by decide)⟩) ?_
      refine Wa_take (i := 11) rfl (by kernel_rfl) rfl rfl (.bool false) rfl (fun w' h' => x_pick (k := false) (congrArg Value.bool hb418) rfl) (⟨M208, Hp.le_refl M208, S.pick [1, 2, 3] (by decide)⟩) ?_
      exact hrest _ _ ⟨false, Option.some.inj H, ⟨rfl, rfl, rfl, rfl, rfl, rfl, rfl, trivial⟩, E, S.pick [1, 2, 3] (by decide)⟩
  clear o420h
  rintro ρ w435 ⟨x419, rfl, hρ, E, S⟩
  rw [agree_eta hρ]
  clear hρ
  have H := o420H
  clear o420H
  refine Wa_take (i := 12) rfl (by kernel_rfl) rfl rfl (.bool x419) rfl (fun w' h' => x_move rfl) (⟨M208, Hp.le_refl M208, S.pick [0, 1, 2] (by decide)⟩) ?_
  obtain ⟨o447, o447h, o447H⟩ := bindS H
  clear H
  refine Wa_join (fun ρ w' => ∃ (x446 : Bool), (x446) = o447 ∧ Agree ρ [(0, .bool false), (1, .slice A3 t1.length c4), (3, .bool t7.2), (4, .pointer (some ⟨b17, 0, none⟩)), (5, .bool t14.2), (7, .bool t21.2), (41, .bool x446)] ∧ Ext w w' ∧ St w' M208 F [Blk b24 (.cells #[.int .i64 t21.1.Writer, .int .i64 t21.1.TS, .bool t21.1.Tomb, .string (bs t21.1.Value)] 27 (0, 0)), Blk b17 (.cells #[.int .i64 t14.1.Writer, .int .i64 t14.1.TS, .bool t14.1.Tomb, .string (bs t14.1.Value)] 27 (0, 0)), Blk b10 (.cells #[.int .i64 t7.1.Writer, .int .i64 t7.1.TS, .bool t7.1.Tomb, .string (bs t7.1.Value)] 27 (0, 0))]) 42 (Ls 60 [0, 2, 3, 1, 4, 5, 6, 8, 9, 7, 10, 11, 12, 13, 15, 14, 16, 17]) ?_ ?_
  rotate_left
  · intro hrest
    have H := o447h
    clear o447h o447H
    rcases iteS H with ⟨hb445, H⟩ | ⟨hb445, H⟩
    · skip
      refine Wa_takeY (i := 13) rfl (by kernel_rfl) rfl rfl (.slice A3 t1.length c4) rfl (congrArg some hb445) (fun w' h' => x_move rfl) (⟨M208, Hp.le_refl M208, S.pick [0, 1, 2] (by decide)⟩) ?_
      refine Wa_takeY (i := 15) rfl (by kernel_rfl) rfl rfl (.slice A3 t1.length c4) rfl (congrArg some hb445) (fun w' h' => x_move rfl) (⟨M208, Hp.le_refl M208, S.pick [0, 1, 2] (by decide)⟩) ?_
      refine Wa_solo (i := 14) rfl (by kernel_rfl) ?_
      refine W_yes (congrArg some hb445) ?_
      obtain ⟨t448, ht449, H⟩ := bindS H
      refine W_callF fn11 (keep_Kept.con k M208 A3 c4 t1 (1 : Int) t448 hf210 ht449) S rfl rfl (by rintro _ _ _ ⟨_, _, _, rfl⟩; exact (flat_cons (flat_row (fun _ _ _ _ h => h)) flat_nil)) ?_
      rintro _ w453 _ Γ' E' S ⟨A450, c451, rfl, rfl⟩
      replace E := E.trans E'
      clear E'
      refine Wl_nil (on_n ⟨⟨M208, Hp.le_refl M208, S.pick [1, 2, 3] (by decide)⟩, ?_⟩)
      refine Wa_solo (i := 16) rfl (by kernel_rfl) ?_
      refine W_yes (congrArg some hb445) ?_
      obtain ⟨t454, ht455, H⟩ := bindS H
      refine W_callN 1 fn15 (fun h9 hs9 hd9 => ferrymanref11_Same.con k _ A450 c451 t448 A3 c4 t1 t454 (Sats.row hs9 hd9 0 rfl) (SlR.mono hf210 (Hp.le_union_left _ _)) ht455) S rfl rfl (by rintro _ _ _ ⟨_, rfl⟩; exact flat_nil) ?_
      rintro _ w456 _ Γ' E' S ⟨rfl, rfl⟩
      replace E := E.trans E'
      clear E'
      refine Wl_nil (on_n ⟨⟨M208, Hp.le_refl M208, S.pick [1, 2, 3] (by decide)⟩, ?_⟩)
      refine Wa_take (i := 17) rfl (by kernel_rfl) rfl rfl (.bool t454) rfl (fun w' h' => x_pick (k := true) (congrArg Value.bool hb445) rfl) (⟨M208, Hp.le_refl M208, S.pick [1, 2, 3] (by decide)⟩) ?_
      exact hrest _ _ ⟨t454, Option.some.inj H, ⟨rfl, rfl, rfl, rfl, rfl, rfl, rfl, trivial⟩, E, S.pick [1, 2, 3] (by decide)⟩
    · skip
      refine Wa_takeN (i := 13) rfl (by kernel_rfl) rfl rfl rfl (skT hb445) (⟨M208, Hp.le_refl M208, S.pick [0, 1, 2] (by decide)⟩) ?_
      refine Wa_takeN (i := 14) rfl (by kernel_rfl) rfl rfl rfl (skT hb445) (⟨M208, Hp.le_refl M208, S.pick [0, 1, 2] (by decide)⟩) ?_
      refine Wa_takeN (i := 15) rfl (by kernel_rfl) rfl rfl rfl (skT hb445) (⟨M208, Hp.le_refl M208, S.pick [0, 1, 2] (by decide)⟩) ?_
      refine Wa_takeN (i := 16) rfl (by kernel_rfl) rfl rfl rfl (skT hb445) (⟨M208, Hp.le_refl M208, S.pick [0, 1, 2] (by decide)⟩) ?_
      refine Wa_take (i := 17) rfl (by kernel_rfl) rfl rfl (.bool false) rfl (fun w' h' => x_pick (k := false) (congrArg Value.bool hb445) rfl) (⟨M208, Hp.le_refl M208, S.pick [0, 1, 2] (by decide)⟩) ?_
      exact hrest _ _ ⟨false, Option.some.inj H, ⟨rfl, rfl, rfl, rfl, rfl, rfl, rfl, trivial⟩, E, S.pick [0, 1, 2] (by decide)⟩
  clear o447h
  rintro ρ w457 ⟨x446, rfl, hρ, E, S⟩
  rw [agree_eta hρ]
  clear hρ
  have H := o447H
  clear o447H
  refine Wa_take (i := 18) rfl (by kernel_rfl) rfl rfl (.bool x446) rfl (fun w' h' => x_move rfl) (⟨M208, Hp.le_refl M208, S.pick [0, 1, 2] (by decide)⟩) ?_
  obtain ⟨o474, o474h, o474H⟩ := bindS H
  clear H
  refine Wa_join (fun ρ w' => ∃ (x473 : Bool), (x473) = o474 ∧ Agree ρ [(0, .bool false), (1, .slice A3 t1.length c4), (3, .bool t7.2), (4, .pointer (some ⟨b17, 0, none⟩)), (5, .bool t14.2), (7, .bool t21.2), (48, .bool x473)] ∧ Ext w w' ∧ St w' M208 F [Blk b24 (.cells #[.int .i64 t21.1.Writer, .int .i64 t21.1.TS, .bool t21.1.Tomb, .string (bs t21.1.Value)] 27 (0, 0)), Blk b17 (.cells #[.int .i64 t14.1.Writer, .int .i64 t14.1.TS, .bool t14.1.Tomb, .string (bs t14.1.Value)] 27 (0, 0)), Blk b10 (.cells #[.int .i64 t7.1.Writer, .int .i64 t7.1.TS, .bool t7.1.Tomb, .string (bs t7.1.Value)] 27 (0, 0))]) 35 (Ls 60 [0, 2, 3, 1, 4, 5, 6, 8, 9, 7, 10, 11, 12, 13, 15, 14, 16, 17, 18, 19, 21, 22, 20, 23, 24]) ?_ ?_
  rotate_left
  · intro hrest
    have H := o474h
    clear o474h o474H
    rcases iteS H with ⟨hb472, H⟩ | ⟨hb472, H⟩
    · skip
      refine Wa_takeY (i := 19) rfl (by kernel_rfl) rfl rfl (.slice A3 t1.length c4) rfl (congrArg some hb472) (fun w' h' => x_move rfl) (⟨M208, Hp.le_refl M208, S.pick [0, 1, 2] (by decide)⟩) ?_
      refine Wa_takeY (i := 21) rfl (by kernel_rfl) rfl rfl (.slice A3 t1.length c4) rfl (congrArg some hb472) (fun w' h' => x_move rfl) (⟨M208, Hp.le_refl M208, S.pick [0, 1, 2] (by decide)⟩) ?_
      obtain ⟨⟨p475, p476⟩, H⟩ := chkS H
      obtain ⟨hs478, hx479⟩ := sl_hi hf210 p475 p476
      have hs478z := hs478
      refine Wa_takeY (i := 22) rfl (by kernel_rfl) rfl rfl (.slice A3 (List.take (1 : Int).toNat t1).length c4) rfl (congrArg some hb472) (fun w' h' => hx479 Try.underlying22 ty27 rfl rfl) (⟨M208, Hp.le_refl M208, S.pick [0, 1, 2] (by decide)⟩) ?_
      refine Wa_solo (i := 20) rfl (by kernel_rfl) ?_
      refine W_yes (congrArg some hb472) ?_
      obtain ⟨t480, ht481, H⟩ := bindS H
      refine W_callF fn11 (keep_Kept.con k M208 A3 c4 t1 (9 : Int) t480 hf210 ht481) S rfl rfl (by rintro _ _ _ ⟨_, _, _, rfl⟩; exact (flat_cons (flat_row (fun _ _ _ _ h => h)) flat_nil)) ?_
      rintro _ w485 _ Γ' E' S ⟨A482, c483, rfl, rfl⟩
      replace E := E.trans E'
      clear E'
      refine Wl_nil (on_n ⟨⟨M208, Hp.le_refl M208, S.pick [1, 2, 3] (by decide)⟩, ?_⟩)
      refine Wa_solo (i := 23) rfl (by kernel_rfl) ?_
      refine W_yes (congrArg some hb472) ?_
      obtain ⟨t486, ht487, H⟩ := bindS H
      refine W_callN 1 fn15 (fun h9 hs9 hd9 => ferrymanref11_Same.con k _ A482 c483 t480 A3 c4 (List.take (1 : Int).toNat t1) t486 (Sats.row hs9 hd9 0 rfl) (SlR.mono hs478 (Hp.le_union_left _ _)) ht487) S rfl rfl (by rintro _ _ _ ⟨_, rfl⟩; exact flat_nil) ?_
      rintro _ w488 _ Γ' E' S ⟨rfl, rfl⟩
      replace E := E.trans E'
      clear E'
      refine Wl_nil (on_n ⟨⟨M208, Hp.le_refl M208, S.pick [1, 2, 3] (by decide)⟩, ?_⟩)
      refine Wa_take (i := 24) rfl (by kernel_rfl) rfl rfl (.bool t486) rfl (fun w' h' => x_pick (k := true) (congrArg Value.bool hb472) rfl) (⟨M208, Hp.le_refl M208, S.pick [1, 2, 3] (by decide)⟩) ?_
      exact hrest _ _ ⟨t486, Option.some.inj H, ⟨rfl, rfl, rfl, rfl, rfl, rfl, rfl, trivial⟩, E, S.pick [1, 2, 3] (by decide)⟩
    · skip
      refine Wa_takeN (i := 19) rfl (by kernel_rfl) rfl rfl rfl (skT hb472) (⟨M208, Hp.le_refl M208, S.pick [0, 1, 2] (by decide)⟩) ?_
      refine Wa_takeN (i := 20) rfl (by kernel_rfl) rfl rfl rfl (skT hb472) (⟨M208, Hp.le_refl M208, S.pick [0, 1, 2] (by decide)⟩) ?_
      refine Wa_takeN (i := 21) rfl (by kernel_rfl) rfl rfl rfl (skT hb472) (⟨M208, Hp.le_refl M208, S.pick [0, 1, 2] (by decide)⟩) ?_
      refine Wa_takeN (i := 22) rfl (by kernel_rfl) rfl rfl rfl (skT hb472) (⟨M208, Hp.le_refl M208, S.pick [0, 1, 2] (by decide)⟩) ?_
      refine Wa_takeN (i := 23) rfl (by kernel_rfl) rfl rfl rfl (skT hb472) (⟨M208, Hp.le_refl M208, S.pick [0, 1, 2] (by decide)⟩) ?_
      refine Wa_take (i := 24) rfl (by kernel_rfl) rfl rfl (.bool false) rfl (fun w' h' => x_pick (k := false) (congrArg Value.bool hb472) rfl) (⟨M208, Hp.le_refl M208, S.pick [0, 1, 2] (by decide)⟩) ?_
      exact hrest _ _ ⟨false, Option.some.inj H, ⟨rfl, rfl, rfl, rfl, rfl, rfl, rfl, trivial⟩, E, S.pick [0, 1, 2] (by decide)⟩
  clear o474h
  rintro ρ w489 ⟨x473, rfl, hρ, E, S⟩
  rw [agree_eta hρ]
  clear hρ
  have H := o474H
  clear o474H
  refine Wa_take (i := 25) rfl (by kernel_rfl) rfl rfl (.bool x473) rfl (fun w' h' => x_move rfl) (⟨M208, Hp.le_refl M208, S.pick [0, 1, 2] (by decide)⟩) ?_
  refine Wa_join (fun ρ w' => Agree ρ [(0, .bool false), (1, .slice A3 t1.length c4), (4, .pointer (some ⟨b17, 0, none⟩)), (5, .bool t14.2), (7, .bool t21.2), (52, .bool (x473 && (!t7.2)))] ∧ w489 = w') 31 (Ls 60 [0, 2, 3, 1, 4, 5, 6, 8, 9, 7, 10, 11, 12, 13, 15, 14, 16, 17, 18, 19, 21, 22, 20, 23, 24, 25, 26, 27, 28]) ?_ ?_
  rotate_left
  · intro hrest
    rcases boolCases x473 with hb490 | hb490
    · skip
      refine Wa_takeN (i := 26) rfl (by kernel_rfl) rfl rfl rfl (skT hb490) (⟨M208, Hp.le_refl M208, S.pick [0, 1, 2] (by decide)⟩) ?_
      refine Wa_takeN (i := 27) rfl (by kernel_rfl) rfl rfl rfl (skT hb490) (⟨M208, Hp.le_refl M208, S.pick [0, 1, 2] (by decide)⟩) ?_
      refine Wa_take (i := 28) rfl (by kernel_rfl) rfl rfl (.bool false) rfl (fun w' h' => x_pick (k := false) (congrArg Value.bool hb490) rfl) (⟨M208, Hp.le_refl M208, S.pick [0, 1, 2] (by decide)⟩) ?_
      exact hrest _ _ ⟨⟨rfl, rfl, rfl, rfl, rfl, (by first | rfl | (rw [hb490]; rfl) | (simp only [hb490]; rfl)), trivial⟩, rfl⟩
    · skip
      refine Wa_takeY (i := 26) rfl (by kernel_rfl) rfl rfl (.bool t7.2) rfl (congrArg some hb490) (fun w' h' => x_move rfl) (⟨M208, Hp.le_refl M208, S.pick [0, 1, 2] (by decide)⟩) ?_
      refine Wa_takeY (i := 27) rfl (by kernel_rfl) rfl rfl (.bool (!t7.2)) rfl (congrArg some hb490) (fun w' h' => x_not rfl) (⟨M208, Hp.le_refl M208, S.pick [0, 1, 2] (by decide)⟩) ?_
      refine Wa_take (i := 28) rfl (by kernel_rfl) rfl rfl (.bool (!t7.2)) rfl (fun w' h' => x_pick (k := true) (congrArg Value.bool hb490) rfl) (⟨M208, Hp.le_refl M208, S.pick [0, 1, 2] (by decide)⟩) ?_
      exact hrest _ _ ⟨⟨rfl, rfl, rfl, rfl, rfl, (by first | rfl | (rw [hb490]; rfl) | (simp only [hb490]; rfl)), trivial⟩, rfl⟩
  rintro ρ _ ⟨hρ, rfl⟩
  rw [agree_eta hρ]
  clear hρ
  refine Wa_take (i := 29) rfl (by kernel_rfl) rfl rfl (.bool (x473 && (!t7.2))) rfl (fun w' h' => x_move rfl) (⟨M208, Hp.le_refl M208, S.pick [0, 1, 2] (by decide)⟩) ?_
  refine Wa_join (fun ρ w' => Agree ρ [(0, .bool false), (1, .slice A3 t1.length c4), (4, .pointer (some ⟨b17, 0, none⟩)), (7, .bool t21.2), (55, .bool ((x473 && (!t7.2)) && t14.2))] ∧ w489 = w') 28 (Ls 60 [0, 2, 3, 1, 4, 5, 6, 8, 9, 7, 10, 11, 12, 13, 15, 14, 16, 17, 18, 19, 21, 22, 20, 23, 24, 25, 26, 27, 28, 29, 30, 31]) ?_ ?_
  rotate_left
  · intro hrest
    rcases boolCases (x473 && (!t7.2)) with hb491 | hb491
    · skip
      refine Wa_takeN (i := 30) rfl (by kernel_rfl) rfl rfl rfl (skT hb491) (⟨M208, Hp.le_refl M208, S.pick [0, 1, 2] (by decide)⟩) ?_
      refine Wa_take (i := 31) rfl (by kernel_rfl) rfl rfl (.bool false) rfl (fun w' h' => x_pick (k := false) (congrArg Value.bool hb491) rfl) (⟨M208, Hp.le_refl M208, S.pick [0, 1, 2] (by decide)⟩) ?_
      exact hrest _ _ ⟨⟨rfl, rfl, rfl, rfl, (by first | rfl | (rw [hb491]; rfl) | (simp only [hb491]; rfl)), trivial⟩, rfl⟩
    · skip
      refine Wa_takeY (i := 30) rfl (by kernel_rfl) rfl rfl (.bool t14.2) rfl (congrArg some hb491) (fun w' h' => x_move rfl) (⟨M208, Hp.le_refl M208, S.pick [0, 1, 2] (by decide)⟩) ?_
      refine Wa_take (i := 31) rfl (by kernel_rfl) rfl rfl (.bool t14.2) rfl (fun w' h' => x_pick (k := true) (congrArg Value.bool hb491) rfl) (⟨M208, Hp.le_refl M208, S.pick [0, 1, 2] (by decide)⟩) ?_
      exact hrest _ _ ⟨⟨rfl, rfl, rfl, rfl, (by first | rfl | (rw [hb491]; rfl) | (simp only [hb491]; rfl)), trivial⟩, rfl⟩
  rintro ρ _ ⟨hρ, rfl⟩
  rw [agree_eta hρ]
  clear hρ
  refine Wa_take (i := 32) rfl (by kernel_rfl) rfl rfl (.bool ((x473 && (!t7.2)) && t14.2)) rfl (fun w' h' => x_move rfl) (⟨M208, Hp.le_refl M208, S.pick [0, 1, 2] (by decide)⟩) ?_
  obtain ⟨o504, o504h, o504H⟩ := bindS H
  clear H
  refine Wa_join (fun ρ w' => ∃ (x503 : Bool), (x503) = o504 ∧ Agree ρ [(0, .bool false), (1, .slice A3 t1.length c4), (7, .bool t21.2), (62, .bool x503)] ∧ Ext w w' ∧ St w' M208 F [Blk b24 (.cells #[.int .i64 t21.1.Writer, .int .i64 t21.1.TS, .bool t21.1.Tomb, .string (bs t21.1.Value)] 27 (0, 0)), Blk b17 (.cells #[.int .i64 t14.1.Writer, .int .i64 t14.1.TS, .bool t14.1.Tomb, .string (bs t14.1.Value)] 27 (0, 0)), Blk b10 (.cells #[.int .i64 t7.1.Writer, .int .i64 t7.1.TS, .bool t7.1.Tomb, .string (bs t7.1.Value)] 27 (0, 0))]) 21 (Ls 60 [0, 2, 3, 1, 4, 5, 6, 8, 9, 7, 10, 11, 12, 13, 15, 14, 16, 17, 18, 19, 21, 22, 20, 23, 24, 25, 26, 27, 28, 29, 30, 31, 32, 33, 34, 35, 36, 37, 38]) ?_ ?_
  rotate_left
  · intro hrest
    have H := o504h
    clear o504h o504H
    rcases iteS H with ⟨hb502, H⟩ | ⟨hb502, H⟩
    · skip
      refine Wa_takeY (i := 33) rfl (by kernel_rfl) rfl rfl (.agg #[.int .i64 t14.1.Writer, .int .i64 t14.1.TS, .bool t14.1.Tomb, .string (bs t14.1.Value)]) rfl (congrArg some hb502) (fun w' h' => x_loadA (cls_blk h' 1 rfl) ty27 rfl (sub_of_extract rfl) rfl rfl) (⟨M208, Hp.le_refl M208, S.pick [0, 1, 2] (by decide)⟩) ?_
      refine Wa_takeY (i := 34) rfl (by kernel_rfl) rfl rfl (.slice A3 t1.length c4) rfl (congrArg some hb502) (fun w' h' => x_move rfl) (⟨M208, Hp.le_refl M208, S.pick [0, 1, 2] (by decide)⟩) ?_
      obtain ⟨⟨p505, p506⟩, H⟩ := chkS H
      obtain ⟨b507, o508, cs509, _, _, ee514, hb510, vs511, hR512, hc513⟩ := SlW.at' hf210 p505 p506
      obtain rfl : vs511 = _ := hR512
      refine Wa_takeY (i := 35) rfl (by kernel_rfl) rfl rfl (.pointer (some ⟨b507, o508 + (2 : Int).toNat * 4, none⟩)) rfl (congrArg some hb502) (fun w' h' => x_indexAddr Try.underlying22 ty27 (slA ee514) rfl p505 p506) (⟨M208, Hp.le_refl M208, S.pick [0, 1, 2] (by decide)⟩) ?_
      refine Wa_takeY (i := 36) rfl (by kernel_rfl) rfl rfl (.agg #[.int .i64 ((rd t1 (2 : Int)).Writer), .int .i64 ((rd t1 (2 : Int)).TS), .bool ((rd t1 (2 : Int)).Tomb), .string (bs ((rd t1 (2 : Int)).Value))]) rfl (congrArg some hb502) (fun w' h' => x_loadA (cls_frz h' hb510) ty27 rfl (sub_el hc513 0 rfl) rfl rfl) (⟨M208, Hp.le_refl M208, S.pick [0, 1, 2] (by decide)⟩) ?_
      refine Wa_takeY (i := 37) rfl (by kernel_rfl) rfl rfl (.bool ((t14.1.Writer == (rd t1 (2 : Int)).Writer) && ((t14.1.TS == (rd t1 (2 : Int)).TS) && ((t14.1.Tomb == (rd t1 (2 : Int)).Tomb) && (t14.1.Value == (rd t1 (2 : Int)).Value))))) rfl (congrArg some hb502) (fun w' h' => x_eq_of (eg27 _ _ _ _) rfl (eq27 _ t14.1.Writer t14.1.TS t14.1.Tomb t14.1.Value ((rd t1 (2 : Int)).Writer) ((rd t1 (2 : Int)).TS) ((rd t1 (2 : Int)).Tomb) ((rd t1 (2 : Int)).Value))) (⟨M208, Hp.le_refl M208, S.pick [0, 1, 2] (by decide)⟩) ?_
      refine Wa_take (i := 38) rfl (by kernel_rfl) rfl rfl (.bool ((t14.1.Writer == (rd t1 (2 : Int)).Writer) && ((t14.1.TS == (rd t1 (2 : Int)).TS) && ((t14.1.Tomb == (rd t1 (2 : Int)).Tomb) && (t14.1.Value == (rd t1 (2 : Int)).Value))))) rfl (fun w' h' => x_pick (k := true) (congrArg Value.bool hb502) rfl) (⟨M208, Hp.le_refl M208, S.pick [0, 1, 2] (by decide)⟩) ?_
      exact hrest _ _ ⟨((t14.1.Writer == (rd t1 (2 : Int)).Writer) && ((t14.1.TS == (rd t1 (2 : Int)).TS) && ((t14.1.Tomb == (rd t1 (2 : Int)).Tomb) && (t14.1.Value == (rd t1 (2 : Int)).Value)))), Option.some.inj H, ⟨rfl, rfl, rfl, rfl, trivial⟩, E, S.pick [0, 1, 2] (by decide)⟩
    · skip
      refine Wa_takeN (i := 33) rfl (by kernel_rfl) rfl rfl rfl (skT hb502) (⟨M208, Hp.le_refl M208, S.pick [0, 1, 2] (by decide)⟩) ?_
      refine Wa_takeN (i := 34) rfl (by kernel_rfl) rfl rfl rfl (skT hb502) (⟨M208, Hp.le_refl M208, S.pick [0, 1, 2] (by decide)⟩) ?_
      refine Wa_takeN (i := 35) rfl (by kernel_rfl) rfl rfl rfl (skT hb502) (⟨M208, Hp.le_refl M208, S.pick [0, 1, 2] (by decide)⟩) ?_
      refine Wa_takeN (i := 36) rfl (by kernel_rfl) rfl rfl rfl (skT hb502) (⟨M208, Hp.le_refl M208, S.pick [0, 1, 2] (by decide)⟩) ?_
      refine Wa_takeN (i := 37) rfl (by kernel_rfl) rfl rfl rfl (skT hb502) (⟨M208, Hp.le_refl M208, S.pick [0, 1, 2] (by decide)⟩) ?_
      refine Wa_take (i := 38) rfl (by kernel_rfl) rfl rfl (.bool false) rfl (fun w' h' => x_pick (k := false) (congrArg Value.bool hb502) rfl) (⟨M208, Hp.le_refl M208, S.pick [0, 1, 2] (by decide)⟩) ?_
      exact hrest _ _ ⟨false, Option.some.inj H, ⟨rfl, rfl, rfl, rfl, trivial⟩, E, S.pick [0, 1, 2] (by decide)⟩
  clear o504h
  rintro ρ w515 ⟨x503, rfl, hρ, E, S⟩
  rw [agree_eta hρ]
  clear hρ
  have H := o504H
  clear o504H
  refine Wa_take (i := 39) rfl (by kernel_rfl) rfl rfl (.bool x503) rfl (fun w' h' => x_move rfl) (⟨M208, Hp.le_refl M208, S.pick [0, 1, 2] (by decide)⟩) ?_
  refine Wa_join (fun ρ w' => Agree ρ [(0, .bool false), (1, .slice A3 t1.length c4), (66, .bool (x503 && (!t21.2)))] ∧ w515 = w') 17 (Ls 60 [0, 2, 3, 1, 4, 5, 6, 8, 9, 7, 10, 11, 12, 13, 15, 14, 16, 17, 18, 19, 21, 22, 20, 23, 24, 25, 26, 27, 28, 29, 30, 31, 32, 33, 34, 35, 36, 37, 38, 39, 40, 41, 42]) ?_ ?_
  rotate_left
  · intro hrest
    rcases boolCases x503 with hb516 | hb516
    · skip
      refine Wa_takeN (i := 40) rfl (by kernel_rfl) rfl rfl rfl (skT hb516) (⟨M208, Hp.le_refl M208, S.pick [0, 1, 2] (by decide)⟩) ?_
      refine Wa_takeN (i := 41) rfl (by kernel_rfl) rfl rfl rfl (skT hb516) (⟨M208, Hp.le_refl M208, S.pick [0, 1, 2] (by decide)⟩) ?_
      refine Wa_take (i := 42) rfl (by kernel_rfl) rfl rfl (.bool false) rfl (fun w' h' => x_pick (k := false) (congrArg Value.bool hb516) rfl) (⟨M208, Hp.le_refl M208, S.pick [0, 1, 2] (by decide)⟩) ?_
      exact hrest _ _ ⟨⟨rfl, rfl, (by first | rfl | (rw [hb516]; rfl) | (simp only [hb516]; rfl)), trivial⟩, rfl⟩
    · skip
      refine Wa_takeY (i := 40) rfl (by kernel_rfl) rfl rfl (.bool t21.2) rfl (congrArg some hb516) (fun w' h' => x_move rfl) (⟨M208, Hp.le_refl M208, S.pick [0, 1, 2] (by decide)⟩) ?_
      refine Wa_takeY (i := 41) rfl (by kernel_rfl) rfl rfl (.bool (!t21.2)) rfl (congrArg some hb516) (fun w' h' => x_not rfl) (⟨M208, Hp.le_refl M208, S.pick [0, 1, 2] (by decide)⟩) ?_
      refine Wa_take (i := 42) rfl (by kernel_rfl) rfl rfl (.bool (!t21.2)) rfl (fun w' h' => x_pick (k := true) (congrArg Value.bool hb516) rfl) (⟨M208, Hp.le_refl M208, S.pick [0, 1, 2] (by decide)⟩) ?_
      exact hrest _ _ ⟨⟨rfl, rfl, (by first | rfl | (rw [hb516]; rfl) | (simp only [hb516]; rfl)), trivial⟩, rfl⟩
  rintro ρ _ ⟨hρ, rfl⟩
  rw [agree_eta hρ]
  clear hρ
  refine Wa_take (i := 43) rfl (by kernel_rfl) rfl rfl (.bool (x503 && (!t21.2))) rfl (fun w' h' => x_move rfl) (⟨M208, Hp.le_refl M208, S.pick [0, 1, 2] (by decide)⟩) ?_
  obtain ⟨o522, o522h, o522H⟩ := bindS H
  clear H
  refine Wa_join (fun ρ w' => ∃ (x521 : Bool), (x521) = o522 ∧ Agree ρ [(0, .bool false), (1, .slice A3 t1.length c4), (70, .bool x521)] ∧ Ext w w' ∧ St w' M208 F [Blk b24 (.cells #[.int .i64 t21.1.Writer, .int .i64 t21.1.TS, .bool t21.1.Tomb, .string (bs t21.1.Value)] 27 (0, 0)), Blk b17 (.cells #[.int .i64 t14.1.Writer, .int .i64 t14.1.TS, .bool t14.1.Tomb, .string (bs t14.1.Value)] 27 (0, 0)), Blk b10 (.cells #[.int .i64 t7.1.Writer, .int .i64 t7.1.TS, .bool t7.1.Tomb, .string (bs t7.1.Value)] 27 (0, 0))]) 13 (Ls 60 [0, 2, 3, 1, 4, 5, 6, 8, 9, 7, 10, 11, 12, 13, 15, 14, 16, 17, 18, 19, 21, 22, 20, 23, 24, 25, 26, 27, 28, 29, 30, 31, 32, 33, 34, 35, 36, 37, 38, 39, 40, 41, 42, 43, 44, 45, 46]) ?_ ?_
  rotate_left
  · intro hrest
    have H := o522h
    clear o522h o522H
    rcases iteS H with ⟨hb520, H⟩ | ⟨hb520, H⟩
    · skip
      refine Wa_takeY (i := 44) rfl (by kernel_rfl) rfl rfl (.slice A3 t1.length c4) rfl (congrArg some hb520) (fun w' h' => x_move rfl) (⟨M208, Hp.le_refl M208, S.pick [0, 1, 2] (by decide)⟩) ?_
      refine Wa_solo (i := 45) rfl (by kernel_rfl) ?_
      refine W_yes (congrArg some hb520) ?_
      obtain ⟨t523, ht524, H⟩ := bindS H
      refine W_callF fn13 (keep_Clash.con k M208 A3 c4 t1 (8 : Int) t523 hf210 ht524) S rfl rfl (by rintro _ _ _ ⟨_, rfl⟩; exact flat_nil) ?_
      rintro _ w525 _ Γ' E' S ⟨rfl, rfl⟩
      replace E := E.trans E'
      clear E'
      refine Wl_nil (on_n ⟨⟨M208, Hp.le_refl M208, S.pick [0, 1, 2] (by decide)⟩, ?_⟩)
      refine Wa_take (i := 46) rfl (by kernel_rfl) rfl rfl (.bool t523) rfl (fun w' h' => x_pick (k := true) (congrArg Value.bool hb520) rfl) (⟨M208, Hp.le_refl M208, S.pick [0, 1, 2] (by decide)⟩) ?_
      exact hrest _ _ ⟨t523, Option.some.inj H, ⟨rfl, rfl, rfl, trivial⟩, E, S.pick [0, 1, 2] (by decide)⟩
    · skip
      refine Wa_takeN (i := 44) rfl (by kernel_rfl) rfl rfl rfl (skT hb520) (⟨M208, Hp.le_refl M208, S.pick [0, 1, 2] (by decide)⟩) ?_
      refine Wa_takeN (i := 45) rfl (by kernel_rfl) rfl rfl rfl (skT hb520) (⟨M208, Hp.le_refl M208, S.pick [0, 1, 2] (by decide)⟩) ?_
      refine Wa_take (i := 46) rfl (by kernel_rfl) rfl rfl (.bool false) rfl (fun w' h' => x_pick (k := false) (congrArg Value.bool hb520) rfl) (⟨M208, Hp.le_refl M208, S.pick [0, 1, 2] (by decide)⟩) ?_
      exact hrest _ _ ⟨false, Option.some.inj H, ⟨rfl, rfl, rfl, trivial⟩, E, S.pick [0, 1, 2] (by decide)⟩
  clear o522h
  rintro ρ w526 ⟨x521, rfl, hρ, E, S⟩
  rw [agree_eta hρ]
  clear hρ
  have H := o522H
  clear o522H
  refine Wa_take (i := 47) rfl (by kernel_rfl) rfl rfl (.bool x521) rfl (fun w' h' => x_move rfl) (⟨M208, Hp.le_refl M208, S.pick [0, 1, 2] (by decide)⟩) ?_
  obtain ⟨o532, o532h, o532H⟩ := bindS H
  clear H
  refine Wa_join (fun ρ w' => ∃ (x531 : Bool), (x531) = o532 ∧ Agree ρ [(0, .bool false), (1, .slice A3 t1.length c4), (75, .bool x531)] ∧ Ext w w' ∧ St w' M208 F [Blk b24 (.cells #[.int .i64 t21.1.Writer, .int .i64 t21.1.TS, .bool t21.1.Tomb, .string (bs t21.1.Value)] 27 (0, 0)), Blk b17 (.cells #[.int .i64 t14.1.Writer, .int .i64 t14.1.TS, .bool t14.1.Tomb, .string (bs t14.1.Value)] 27 (0, 0)), Blk b10 (.cells #[.int .i64 t7.1.Writer, .int .i64 t7.1.TS, .bool t7.1.Tomb, .string (bs t7.1.Value)] 27 (0, 0))]) 8 (Ls 60 [0, 2, 3, 1, 4, 5, 6, 8, 9, 7, 10, 11, 12, 13, 15, 14, 16, 17, 18, 19, 21, 22, 20, 23, 24, 25, 26, 27, 28, 29, 30, 31, 32, 33, 34, 35, 36, 37, 38, 39, 40, 41, 42, 43, 44, 45, 46, 47, 48, 49, 50, 51]) ?_ ?_
  rotate_left
  · intro hrest
    have H := o532h
    clear o532h o532H
    rcases iteS H with ⟨hb530, H⟩ | ⟨hb530, H⟩
    · skip
      refine Wa_takeY (i := 48) rfl (by kernel_rfl) rfl rfl (.slice A3 t1.length c4) rfl (congrArg some hb530) (fun w' h' => x_move rfl) (⟨M208, Hp.le_refl M208, S.pick [0, 1, 2] (by decide)⟩) ?_
      refine Wa_solo (i := 49) rfl (by kernel_rfl) ?_
      refine W_yes (congrArg some hb530) ?_
      obtain ⟨t533, ht534, H⟩ := bindS H
      refine W_callF fn13 (keep_Clash.con k M208 A3 c4 t1 (9 : Int) t533 hf210 ht534) S rfl rfl (by rintro _ _ _ ⟨_, rfl⟩; exact flat_nil) ?_
      rintro _ w535 _ Γ' E' S ⟨rfl, rfl⟩
      replace E := E.trans E'
      clear E'
      refine Wl_nil (on_n ⟨⟨M208, Hp.le_refl M208, S.pick [0, 1, 2] (by decide)⟩, ?_⟩)
      refine Wa_takeY (i := 50) rfl (by kernel_rfl) rfl rfl (.bool (!t533)) rfl (congrArg some hb530) (fun w' h' => x_not rfl) (⟨M208, Hp.le_refl M208, S.pick [0, 1, 2] (by decide)⟩) ?_
      refine Wa_take (i := 51) rfl (by kernel_rfl) rfl rfl (.bool (!t533)) rfl (fun w' h' => x_pick (k := true) (congrArg Value.bool hb530) rfl) (⟨M208, Hp.le_refl M208, S.pick [0, 1, 2] (by decide)⟩) ?_
      exact hrest _ _ ⟨(!t533), Option.some.inj H, ⟨rfl, rfl, rfl, trivial⟩, E, S.pick [0, 1, 2] (by decide)⟩
    · skip
      refine Wa_takeN (i := 48) rfl (by kernel_rfl) rfl rfl rfl (skT hb530) (⟨M208, Hp.le_refl M208, S.pick [0, 1, 2] (by decide)⟩) ?_
      refine Wa_takeN (i := 49) rfl (by kernel_rfl) rfl rfl rfl (skT hb530) (⟨M208, Hp.le_refl M208, S.pick [0, 1, 2] (by decide)⟩) ?_
      refine Wa_takeN (i := 50) rfl (by kernel_rfl) rfl rfl rfl (skT hb530) (⟨M208, Hp.le_refl M208, S.pick [0, 1, 2] (by decide)⟩) ?_
      refine Wa_take (i := 51) rfl (by kernel_rfl) rfl rfl (.bool false) rfl (fun w' h' => x_pick (k := false) (congrArg Value.bool hb530) rfl) (⟨M208, Hp.le_refl M208, S.pick [0, 1, 2] (by decide)⟩) ?_
      exact hrest _ _ ⟨false, Option.some.inj H, ⟨rfl, rfl, rfl, trivial⟩, E, S.pick [0, 1, 2] (by decide)⟩
  clear o532h
  rintro ρ w536 ⟨x531, rfl, hρ, E, S⟩
  rw [agree_eta hρ]
  clear hρ
  have H := o532H
  clear o532H
  refine Wa_take (i := 52) rfl (by kernel_rfl) rfl rfl (.bool x531) rfl (fun w' h' => x_move rfl) (⟨M208, Hp.le_refl M208, S.pick [0, 1, 2] (by decide)⟩) ?_
  obtain ⟨o552, o552h, o552H⟩ := bindS H
  clear H
  refine Wa_join (fun ρ w' => ∃ (x551 : Bool), (x551) = o552 ∧ Agree ρ [(0, .bool false), (82, .bool x551)] ∧ Ext w w' ∧ St w' M208 F [Blk b24 (.cells #[.int .i64 t21.1.Writer, .int .i64 t21.1.TS, .bool t21.1.Tomb, .string (bs t21.1.Value)] 27 (0, 0)), Blk b17 (.cells #[.int .i64 t14.1.Writer, .int .i64 t14.1.TS, .bool t14.1.Tomb, .string (bs t14.1.Value)] 27 (0, 0)), Blk b10 (.cells #[.int .i64 t7.1.Writer, .int .i64 t7.1.TS, .bool t7.1.Tomb, .string (bs t7.1.Value)] 27 (0, 0))]) 1 (Ls 60 [0, 2, 3, 1, 4, 5, 6, 8, 9, 7, 10, 11, 12, 13, 15, 14, 16, 17, 18, 19, 21, 22, 20, 23, 24, 25, 26, 27, 28, 29, 30, 31, 32, 33, 34, 35, 36, 37, 38, 39, 40, 41, 42, 43, 44, 45, 46, 47, 48, 49, 50, 51, 52, 53, 54, 55, 56, 57, 58]) ?_ ?_
  rotate_left
  · intro hrest
    have H := o552h
    clear o552h o552H
    rcases iteS H with ⟨hb550, H⟩ | ⟨hb550, H⟩
    · skip
      refine Wa_takeY (i := 53) rfl (by kernel_rfl) rfl rfl (.slice A3 t1.length c4) rfl (congrArg some hb550) (fun w' h' => x_move rfl) (⟨M208, Hp.le_refl M208, S.pick [0, 1, 2] (by decide)⟩) ?_
      obtain ⟨⟨p553, p554, p555⟩, H⟩ := chkS H
      obtain ⟨A556, c557, hs558, hx559⟩ := sl_lh hf210 p553 p554 p555
      have hs558z := hs558
      refine Wa_takeY (i := 54) rfl (by kernel_rfl) rfl rfl (.slice A556 (List.take ((2 : Int) - (1 : Int)).toNat (List.drop (1 : Int).toNat t1)).length c557) rfl (congrArg some hb550) (fun w' h' => hx559 Try.underlying22 ty27 rfl rfl rfl) (⟨M208, Hp.le_refl M208, S.pick [0, 1, 2] (by decide)⟩) ?_
      refine Wa_solo (i := 55) rfl (by kernel_rfl) ?_
      refine W_yes (congrArg some hb550) ?_
      obtain ⟨t560, ht561, H⟩ := bindS H
      refine W_callF fn11 (keep_Kept.con k M208 A556 c557 (List.take ((2 : Int) - (1 : Int)).toNat (List.drop (1 : Int).toNat t1)) (6 : Int) t560 hs558 ht561) S rfl rfl (by rintro _ _ _ ⟨_, _, _, rfl⟩; exact (flat_cons (flat_row (fun _ _ _ _ h => h)) flat_nil)) ?_
      rintro _ w565 _ Γ' E' S ⟨A562, c563, rfl, rfl⟩
      replace E := E.trans E'
      clear E'
      refine Wl_nil (on_n ⟨⟨M208, Hp.le_refl M208, S.pick [1, 2, 3] (by decide)⟩, ?_⟩)
      refine Wa_takeY (i := 56) rfl (by kernel_rfl) rfl rfl (.int .i64 (t560.length : Int)) rfl (congrArg some hb550) (fun w' h' => x_len_slice (n := t560.length) Try.underlying22 rfl) (⟨M208, Hp.le_refl M208, S.pick [1, 2, 3] (by decide)⟩) ?_
      refine Wa_takeY (i := 57) rfl (by kernel_rfl) rfl rfl (.bool ((t560.length : Int) == (0 : Int))) rfl (congrArg some hb550) (fun w' h' => x_ibin rfl rfl rfl rfl) (⟨M208, Hp.le_refl M208, S.pick [1, 2, 3] (by decide)⟩) ?_
      refine Wa_take (i := 58) rfl (by kernel_rfl) rfl rfl (.bool ((t560.length : Int) == (0 : Int))) rfl (fun w' h' => x_pick (k := true) (congrArg Value.bool hb550) rfl) (⟨M208, Hp.le_refl M208, S.pick [1, 2, 3] (by decide)⟩) ?_
      exact hrest _ _ ⟨((t560.length : Int) == (0 : Int)), Option.some.inj H, ⟨rfl, rfl, trivial⟩, E, S.pick [1, 2, 3] (by decide)⟩
    · skip
      refine Wa_takeN (i := 53) rfl (by kernel_rfl) rfl rfl rfl (skT hb550) (⟨M208, Hp.le_refl M208, S.pick [0, 1, 2] (by decide)⟩) ?_
      refine Wa_takeN (i := 54) rfl (by kernel_rfl) rfl rfl rfl (skT hb550) (⟨M208, Hp.le_refl M208, S.pick [0, 1, 2] (by decide)⟩) ?_
      refine Wa_takeN (i := 55) rfl (by kernel_rfl) rfl rfl rfl (skT hb550) (⟨M208, Hp.le_refl M208, S.pick [0, 1, 2] (by decide)⟩) ?_
      refine Wa_takeN (i := 56) rfl (by kernel_rfl) rfl rfl rfl (skT hb550) (⟨M208, Hp.le_refl M208, S.pick [0, 1, 2] (by decide)⟩) ?_
      refine Wa_takeN (i := 57) rfl (by kernel_rfl) rfl rfl rfl (skT hb550) (⟨M208, Hp.le_refl M208, S.pick [0, 1, 2] (by decide)⟩) ?_
      refine Wa_take (i := 58) rfl (by kernel_rfl) rfl rfl (.bool false) rfl (fun w' h' => x_pick (k := false) (congrArg Value.bool hb550) rfl) (⟨M208, Hp.le_refl M208, S.pick [0, 1, 2] (by decide)⟩) ?_
      exact hrest _ _ ⟨false, Option.some.inj H, ⟨rfl, rfl, trivial⟩, E, S.pick [0, 1, 2] (by decide)⟩
  clear o552h
  rintro ρ w566 ⟨x551, rfl, hρ, E, S⟩
  rw [agree_eta hρ]
  clear hρ
  have H := o552H
  clear o552H
  refine Wa_take (i := 59) rfl (by kernel_rfl) rfl rfl (.bool x551) rfl (fun w' h' => x_assign rfl) (⟨M208, Hp.le_refl M208, S.pick [0, 1, 2] (by decide)⟩) ?_
  refine Wa_done (by kernel_rfl) ?_
  refine tn ?_
  refine Wp_ret ?_
  obtain rfl := Option.some.inj H
  exact ⟨_, _, _, fun w1 e1 => run_resR (vs := [.bool x551]) (FA.cons (rfl) (FA.nil)), HM, E, S.pick [] (by decide), ⟨rfl, rfl⟩⟩
end Go.Proofs.Ytmoackfjfklfaaa
