import Derived.Test.YtmoackfjfklfaaaTyt9
namespace Go.Proofs.Ytmoackfjfklfaaa
open Go
set_option linter.unusedVariables false
set_option linter.unusedSimpArgs false
structure api_Version where
  Writer : Int
  TS : Int
  Tomb : Bool
  Value : Str
instance : Inhabited api_Version := ⟨⟨0, 0, false, []⟩⟩
def r_api_Version : Rep api_Version where
  sz := 4
  R := fun _ x cs => cs = [.int .i64 x.Writer, .int .i64 x.TS, .bool x.Tomb, .string (bs x.Value)]
  len := fun h => by subst h; rfl
  one := by
    intro M x cs h
    subst h
    exact fun v hv => List.all_eq_true.1 (show (List.all [.int .i64 x.Writer, .int .i64 x.TS, .bool x.Tomb, .string (bs x.Value)] (·.oneCell')) = true from rfl) v hv
  mono := fun _ h => h
/-! ### ferryman/ferrymanref11.Legal: function 9 -/
def ferrymanref11_Legal_l0 (a0 : (List api_Version)) : Nat → Int → Option ((Bool) ⊕ (Unit))
  | 0, _ => none
  | k + 1, x419 => (if (decide (x419 < (a0.length : Int))) = true then (if 0 ≤ x419 ∧ x419 < (a0.length : Int) then (Option.bind (α := Bool) (if (decide ((rd a0 x419).TS < (1 : Int))) = true then some (true) else (Option.bind (α := Bool) (if (decide (x419 > (0 : Int))) = true then (if 0 ≤ x419 ∧ x419 < (a0.length : Int) then (if 0 ≤ (IntKind.i64.wrap (x419 - (1 : Int))) ∧ (IntKind.i64.wrap (x419 - (1 : Int))) < (a0.length : Int) then some ((decide ((rd a0 x419).TS ≥ (rd a0 (IntKind.i64.wrap (x419 - (1 : Int)))).TS))) else none) else none) else some (false)) (fun x815 => some (x815)))) (fun x790 => (if x790 = true then some (.inl false) else ferrymanref11_Legal_l0 a0 k (IntKind.i64.wrap (x419 + (1 : Int)))))) else none) else some (.inr ()))
set_option maxHeartbeats 2000000 in
theorem ferrymanref11_Legal_l0.mono {a0 : (List api_Version)} : ∀ {k : Nat} {x0}, OLe (ferrymanref11_Legal_l0 a0 k x0) (ferrymanref11_Legal_l0 a0 (k + 1) x0) := by
  intro k
  induction k with
  | zero => intros; exact OLe.none
  | succ k ih =>
    intros
    rw [ferrymanref11_Legal_l0.eq_2, ferrymanref11_Legal_l0.eq_2]
    repeat' (first | with_reducible exact OLe.none | with_reducible exact OLe.some | with_reducible refine OLe.ite ?_ ?_ | with_reducible refine OLe.bind ?_ (fun _ => ?_) | exact ih | refine OLe.bind ?_ (fun _ => ?_) | refine OLe.ite ?_ ?_ | refine OLe.elim (fun _ => ?_) (fun _ => ?_) | split)
def ferrymanref11_Legal (k : Nat) (a0 : (List api_Version)) : Option (Bool) :=
  (Option.bind (ferrymanref11_Legal_l0 a0 k (0 : Int)) (fun o628o => Sum.elim (fun r' => some r') (fun _ => some true) o628o))
set_option maxHeartbeats 2000000 in
theorem ferrymanref11_Legal.mono {k : Nat} {a0 : (List api_Version)} : OLe (ferrymanref11_Legal k a0) (ferrymanref11_Legal (k + 1) a0) := by
  unfold ferrymanref11_Legal
  repeat' (first | with_reducible exact OLe.none | with_reducible exact OLe.some | with_reducible refine OLe.ite ?_ ?_ | with_reducible refine OLe.bind ?_ (fun _ => ?_) | with_reducible exact ferrymanref11_Legal_l0.mono | refine OLe.bind ?_ (fun _ => ?_) | refine OLe.ite ?_ ?_ | refine OLe.elim (fun _ => ?_) (fun _ => ?_) | split)
set_option maxHeartbeats 1000000 in
set_option maxRecDepth 100000 in
theorem ferrymanref11_Legal.con (k : Nat) (M : Hp) (A0 : Option Addr) (c0 : Nat) (a0 : (List api_Version)) (r : Bool) (hr0 : SlR r_api_Version M (.slice A0 a0.length c0) a0) (h : ferrymanref11_Legal k a0 = some r) : Con Try.prog 9 #[.slice A0 a0.length c0] M [] (fun v M' Γ' => v = .bool r ∧ Γ' = []) := by
  refine con_of_wp Try.func9 rfl Try.ntmps9 Try.results9 rfl ?_
  intro w F rn S hrn
  have E := Ext.refl w
  have HM := Hp.le_refl M
  have H := h
  unfold ferrymanref11_Legal at H
  refine Wp_seq ?_
  refine Wp_region_lit ?_
  refine W_v (.bool false) (x_assign rfl) rfl ?_
  refine Wl_nil ?_
  refine tn ?_
  refine Wp_seq ?_
  refine Wp_seq ?_
  refine Wp_region_lit ?_
  refine W_v (.int .i64 0) (x_assign rfl) rfl ?_
  refine Wl_nil ?_
  refine tn ?_
  obtain ⟨o628, o628h, o628H⟩ := bindS H
  clear H
  refine Wp_blockJ (fun ρ w' => .inr () = o628 ∧ Agree ρ [] ∧ Ext w w' ∧ St w' M F []) ?_ ?_
  · skip
    refine Wp_loop (fun n ρ w' => ∃ (x419 : Int), ferrymanref11_Legal_l0 a0 n x419 = some o628 ∧ Agree ρ [(0, .slice A0 a0.length c0), (3, .int .i64 x419)] ∧ Ext w w' ∧ St w' M F []) k ?_ ?_
    · skip
      exact ⟨(0 : Int), o628h, ⟨rfl, rfl, trivial⟩, E, S.pick [] (by decide)⟩
    · intro n
      rintro ρ w629 ⟨x419, H, hρ, E, S⟩
      rw [agree_eta hρ]
      clear hρ
      cases n with
      | zero => cases H
      | succ k =>
        rw [ferrymanref11_Legal_l0.eq_2] at H
        refine Wp_seq ?_
        refine Wp_seq ?_
        refine Wp_region_lit ?_
        refine W_v (.int .i64 x419) (x_move rfl) rfl ?_
        refine W_v (.slice A0 a0.length c0) (x_move rfl) rfl ?_
        refine W_v (.int .i64 (a0.length : Int)) (x_len_slice (n := a0.length) Try.underlying22 rfl) rfl ?_
        refine W_v (.bool (decide (x419 < (a0.length : Int)))) (x_ibin rfl rfl rfl rfl) rfl ?_
        refine Wl_nil ?_
        refine tn ?_
        rcases iteS H with ⟨hb630, H⟩ | ⟨hb630, H⟩
        · refine Wp_cond_true (congrArg Value.bool hb630) ?_
          refine Wp_skip ?_
          refine tn ?_
          refine Wp_seq ?_
          refine Wp_block ?_
          refine Wp_seq ?_
          refine Wp_region_any (S := fun w' => ∃ Mx, M.le Mx ∧ St w' Mx F []) mixed ?_
          intro w733 hw734 E'
          replace S := S.heap hw734
          replace E := E.trans E'
          clear E'
          refine Wa_take (i := 0) rfl (by kernel_rfl) rfl rfl (.slice A0 a0.length c0) rfl (fun w' h' => x_move rfl) (⟨M, Hp.le_refl M, S.pick [] (by decide)⟩) ?_
          refine Wa_take (i := 1) rfl (by kernel_rfl) rfl rfl (.int .i64 x419) rfl (fun w' h' => x_move rfl) (⟨M, Hp.le_refl M, S.pick [] (by decide)⟩) ?_
          obtain ⟨⟨p735, p736⟩, H⟩ := chkS H
          obtain ⟨b737, o738, cs739, _, _, ee744, hb740, vs741, hR742, hc743⟩ := SlW.at' hr0 p735 p736
          obtain rfl : vs741 = _ := hR742
          refine Wa_take (i := 2) rfl (by kernel_rfl) rfl rfl (.pointer (some ⟨b737, o738 + x419.toNat * 4, none⟩)) rfl (fun w' h' => x_indexAddr Try.underlying22 ty27 (slA ee744) rfl p735 p736) (⟨M, Hp.le_refl M, S.pick [] (by decide)⟩) ?_
          refine Wa_take (i := 3) rfl (by kernel_rfl) rfl rfl (.pointer (some ⟨b737, o738 + x419.toNat * 4 + 1, none⟩)) rfl (fun w' h' => x_fieldAddr (o := o738 + x419.toNat * 4) (off := 1) Try.underlying27 rfl ty3 rfl rfl) (⟨M, Hp.le_refl M, S.pick [] (by decide)⟩) ?_
          refine Wa_take (i := 4) rfl (by kernel_rfl) rfl rfl (.int .i64 ((rd a0 x419).TS)) rfl (fun w' h' => x_load (cls_frz h' hb740) ty3 rfl (hc743 1 _ rfl)) (⟨M, Hp.le_refl M, S.pick [] (by decide)⟩) ?_
          refine Wa_take (i := 5) rfl (by kernel_rfl) rfl rfl (.bool (decide ((rd a0 x419).TS < (1 : Int)))) rfl (fun w' h' => x_ibin rfl rfl rfl rfl) (⟨M, Hp.le_refl M, S.pick [] (by decide)⟩) ?_
          refine Wa_take (i := 6) rfl (by kernel_rfl) rfl rfl (.bool (decide ((rd a0 x419).TS < (1 : Int)))) rfl (fun w' h' => x_move rfl) (⟨M, Hp.le_refl M, S.pick [] (by decide)⟩) ?_
          obtain ⟨o791, o791h, o791H⟩ := bindS H
          clear H
          refine Wa_join (fun ρ w' => ∃ (x790 : Bool), (x790) = o791 ∧ Agree ρ [(0, .slice A0 a0.length c0), (3, .int .i64 x419), (33, .bool x790)] ∧ Ext w w' ∧ St w' M F []) 0 (Ls 24 [0, 1, 2, 3, 4, 5, 6, 7, 8, 9, 10, 11, 12, 13, 14, 15, 16, 17, 18, 19, 20, 21, 22, 23]) ?_ ?_
          · clear o791h
            rintro ρ w792 ⟨x790, rfl, hρ, E, S⟩
            rw [agree_eta hρ]
            clear hρ
            have H := o791H
            clear o791H
            refine Wa_done (by kernel_rfl) ?_
            refine tn ?_
            rcases iteS H with ⟨hb793, H⟩ | ⟨hb793, H⟩
            · refine Wp_cond_true (congrArg Value.bool hb793) ?_
              refine Wp_seq ?_
              refine Wp_region_lit ?_
              refine W_v (.bool false) (x_assign rfl) rfl ?_
              refine Wl_nil ?_
              refine tn ?_
              refine Wp_ret ?_
              refine br (tr (tr (br (tr (tr (?_))))))
              obtain rfl := Option.some.inj H
              have H := o628H
              replace H := elimL H
              obtain rfl := Option.some.inj H
              exact ⟨_, _, _, fun w1 e1 => run_resR (vs := [.bool false]) (FA.cons (rfl) (FA.nil)), HM, E, S.pick [] (by decide), ⟨rfl, rfl⟩⟩
            · refine Wp_cond_false (congrArg Value.bool hb793) ?_
              refine Wp_skip ?_
              refine bn ?_
              refine tn ?_
              refine Wp_region_lit ?_
              refine W_v (.int .i64 x419) (x_move rfl) rfl ?_
              refine W_v (.int .i64 (IntKind.i64.wrap (x419 + (1 : Int)))) (x_ibin rfl rfl rfl rfl) rfl ?_
              refine W_v (.int .i64 (IntKind.i64.wrap (x419 + (1 : Int)))) (x_assign rfl) rfl ?_
              refine Wl_nil ?_
              refine tn ?_
              exact ⟨k, Nat.lt_succ_self k, ⟨(IntKind.i64.wrap (x419 + (1 : Int))), H, ⟨rfl, rfl, trivial⟩, E, S.pick [] (by decide)⟩⟩
          · intro hrest
            have H := o791h
            clear o791h o791H
            rcases iteS H with ⟨hb789, H⟩ | ⟨hb789, H⟩
            · skip
              refine Wa_takeN (i := 7) rfl (by kernel_rfl) rfl rfl rfl (skF hb789) (⟨M, Hp.le_refl M, S.pick [] (by decide)⟩) ?_
              refine Wa_takeN (i := 8) rfl (by kernel_rfl) rfl rfl rfl (skF hb789) (⟨M, Hp.le_refl M, S.pick [] (by decide)⟩) ?_
              refine Wa_takeN (i := 9) rfl (by kernel_rfl) rfl rfl rfl (skF hb789) (⟨M, Hp.le_refl M, S.pick [] (by decide)⟩) ?_
              refine Wa_takeN (i := 10) rfl (by kernel_rfl) rfl rfl rfl (rfl) (⟨M, Hp.le_refl M, S.pick [] (by decide)⟩) ?_
              refine Wa_takeN (i := 11) rfl (by kernel_rfl) rfl rfl rfl (rfl) (⟨M, Hp.le_refl M, S.pick [] (by decide)⟩) ?_
              refine Wa_takeN (i := 12) rfl (by kernel_rfl) rfl rfl rfl (rfl) (⟨M, Hp.le_refl M, S.pick [] (by decide)⟩) ?_
              refine Wa_takeN (i := 13) rfl (by kernel_rfl) rfl rfl rfl (rfl) (⟨M, Hp.le_refl M, S.pick [] (by decide)⟩) ?_
              refine Wa_takeN (i := 14) rfl (by kernel_rfl) rfl rfl rfl (rfl) (⟨M, Hp.le_refl M, S.pick [] (by decide)⟩) ?_
              refine Wa_takeN (i := 15) rfl (by kernel_rfl) rfl rfl rfl (rfl) (⟨M, Hp.le_refl M, S.pick [] (by decide)⟩) ?_
              refine Wa_takeN (i := 16) rfl (by kernel_rfl) rfl rfl rfl (rfl) (⟨M, Hp.le_refl M, S.pick [] (by decide)⟩) ?_
              refine Wa_takeN (i := 17) rfl (by kernel_rfl) rfl rfl rfl (rfl) (⟨M, Hp.le_refl M, S.pick [] (by decide)⟩) ?_
              refine Wa_takeN (i := 18) rfl (by kernel_rfl) rfl rfl rfl (rfl) (⟨M, Hp.le_refl M, S.pick [] (by decide)⟩) ?_
              refine Wa_takeN (i := 19) rfl (by kernel_rfl) rfl rfl rfl (rfl) (⟨M, Hp.le_refl M, S.pick [] (by decide)⟩) ?_
              refine Wa_takeN (i := 20) rfl (by kernel_rfl) rfl rfl rfl (rfl) (⟨M, Hp.le_refl M, S.pick [] (by decide)⟩) ?_
              refine Wa_takeN (i := 21) rfl (by kernel_rfl) rfl rfl rfl (rfl) (⟨M, Hp.le_refl M, S.pick [] (by decide)⟩) ?_
              refine Wa_takeN (i := 22) rfl (by kernel_rfl) rfl rfl rfl (skF hb789) (⟨M, Hp.le_refl M, S.pick [] (by decide)⟩) ?_
              refine Wa_take (i := 23) rfl (by kernel_rfl) rfl rfl (.bool true) rfl (fun w' h' => x_pick (k := true) (congrArg Value.bool hb789) rfl) (⟨M, Hp.le_refl M, S.pick [] (by decide)⟩) ?_
              exact hrest _ _ ⟨true, Option.some.inj H, ⟨rfl, rfl, rfl, trivial⟩, E, S.pick [] (by decide)⟩
            · skip
              refine Wa_takeY (i := 7) rfl (by kernel_rfl) rfl rfl (.int .i64 x419) rfl (congrArg some hb789) (fun w' h' => x_move rfl) (⟨M, Hp.le_refl M, S.pick [] (by decide)⟩) ?_
              refine Wa_takeY (i := 8) rfl (by kernel_rfl) rfl rfl (.bool (decide (x419 > (0 : Int)))) rfl (congrArg some hb789) (fun w' h' => x_ibin rfl rfl rfl rfl) (⟨M, Hp.le_refl M, S.pick [] (by decide)⟩) ?_
              refine Wa_takeY (i := 9) rfl (by kernel_rfl) rfl rfl (.bool (decide (x419 > (0 : Int)))) rfl (congrArg some hb789) (fun w' h' => x_move rfl) (⟨M, Hp.le_refl M, S.pick [] (by decide)⟩) ?_
              obtain ⟨o816, o816h, o816H⟩ := bindS H
              clear H
              refine Wa_join (fun ρ w' => ∃ (x815 : Bool), (x815) = o816 ∧ Agree ρ [(0, .slice A0 a0.length c0), (3, .int .i64 x419), (16, .bool (decide ((rd a0 x419).TS < (1 : Int)))), (17, .int .i64 x419), (18, .bool (decide (x419 > (0 : Int)))), (19, .bool (decide (x419 > (0 : Int)))), (32, .bool x815)] ∧ Ext w w' ∧ St w' M F []) 1 (Ls 24 [0, 1, 2, 3, 4, 5, 6, 7, 8, 9, 10, 11, 12, 13, 14, 15, 16, 17, 18, 19, 20, 21, 22]) ?_ ?_
              · clear o816h
                rintro ρ w817 ⟨x815, rfl, hρ, E, S⟩
                rw [agree_eta hρ]
                clear hρ
                have H := o816H
                clear o816H
                refine Wa_take (i := 23) rfl (by kernel_rfl) rfl rfl (.bool x815) rfl (fun w' h' => x_pick (k := false) (congrArg Value.bool hb789) rfl) (⟨M, Hp.le_refl M, S.pick [] (by decide)⟩) ?_
                exact hrest _ _ ⟨x815, Option.some.inj H, ⟨rfl, rfl, rfl, trivial⟩, E, S.pick [] (by decide)⟩
              · intro hrest
                have H := o816h
                clear o816h o816H
                rcases iteS H with ⟨hb814, H⟩ | ⟨hb814, H⟩
                · skip
                  refine Wa_takeY (i := 10) rfl (by kernel_rfl) rfl rfl (.slice A0 a0.length c0) rfl (congrArg some hb814) (fun w' h' => x_move rfl) (⟨M, Hp.le_refl M, S.pick [] (by decide)⟩) ?_
                  refine Wa_takeY (i := 11) rfl (by kernel_rfl) rfl rfl (.int .i64 x419) rfl (congrArg some hb814) (fun w' h' => x_move rfl) (⟨M, Hp.le_refl M, S.pick [] (by decide)⟩) ?_
                  obtain ⟨⟨p818, p819⟩, H⟩ := chkS H
                  obtain ⟨b820, o821, cs822, _, _, ee827, hb823, vs824, hR825, hc826⟩ := SlW.at' hr0 p818 p819
                  obtain rfl : vs824 = _ := hR825
                  refine Wa_takeY (i := 12) rfl (by kernel_rfl) rfl rfl (.pointer (some ⟨b820, o821 + x419.toNat * 4, none⟩)) rfl (congrArg some hb814) (fun w' h' => x_indexAddr Try.underlying22 ty27 (slA ee827) rfl p818 p819) (⟨M, Hp.le_refl M, S.pick [] (by decide)⟩) ?_
                  refine Wa_takeY (i := 13) rfl (by kernel_rfl) rfl rfl (.pointer (some ⟨b820, o821 + x419.toNat * 4 + 1, none⟩)) rfl (congrArg some hb814) (fun w' h' => x_fieldAddr (o := o821 + x419.toNat * 4) (off := 1) Try.underlying27 rfl ty3 rfl rfl) (⟨M, Hp.le_refl M, S.pick [] (by decide)⟩) ?_
                  refine Wa_takeY (i := 14) rfl (by kernel_rfl) rfl rfl (.int .i64 ((rd a0 x419).TS)) rfl (congrArg some hb814) (fun w' h' => x_load (cls_frz h' hb823) ty3 rfl (hc826 1 _ rfl)) (⟨M, Hp.le_refl M, S.pick [] (by decide)⟩) ?_
                  refine Wa_takeY (i := 15) rfl (by kernel_rfl) rfl rfl (.slice A0 a0.length c0) rfl (congrArg some hb814) (fun w' h' => x_move rfl) (⟨M, Hp.le_refl M, S.pick [] (by decide)⟩) ?_
                  refine Wa_takeY (i := 16) rfl (by kernel_rfl) rfl rfl (.int .i64 x419) rfl (congrArg some hb814) (fun w' h' => x_move rfl) (⟨M, Hp.le_refl M, S.pick [] (by decide)⟩) ?_
                  refine Wa_takeY (i := 17) rfl (by kernel_rfl) rfl rfl (.int .i64 (IntKind.i64.wrap (x419 - (1 : Int)))) rfl (congrArg some hb814) (fun w' h' => x_ibin rfl rfl rfl rfl) (⟨M, Hp.le_refl M, S.pick [] (by decide)⟩) ?_
                  obtain ⟨⟨p828, p829⟩, H⟩ := chkS H
                  obtain ⟨b830, o831, cs832, _, _, ee837, hb833, vs834, hR835, hc836⟩ := SlW.at' hr0 p828 p829
                  obtain rfl : vs834 = _ := hR835
                  refine Wa_takeY (i := 18) rfl (by kernel_rfl) rfl rfl (.pointer (some ⟨b830, o831 + (IntKind.i64.wrap (x419 - (1 : Int))).toNat * 4, none⟩)) rfl (congrArg some hb814) (fun w' h' => x_indexAddr Try.underlying22 ty27 (slA ee837) rfl p828 p829) (⟨M, Hp.le_refl M, S.pick [] (by decide)⟩) ?_
                  refine Wa_takeY (i := 19) rfl (by kernel_rfl) rfl rfl (.pointer (some ⟨b830, o831 + (IntKind.i64.wrap (x419 - (1 : Int))).toNat * 4 + 1, none⟩)) rfl (congrArg some hb814) (fun w' h' => x_fieldAddr (o := o831 + (IntKind.i64.wrap (x419 - (1 : Int))).toNat * 4) (off := 1) Try.underlying27 rfl ty3 rfl rfl) (⟨M, Hp.le_refl M, S.pick [] (by decide)⟩) ?_
                  refine Wa_takeY (i := 20) rfl (by kernel_rfl) rfl rfl (.int .i64 ((rd a0 (IntKind.i64.wrap (x419 - (1 : Int)))).TS)) rfl (congrArg some hb814) (fun w' h' => x_load (cls_frz h' hb833) ty3 rfl (hc836 1 _ rfl)) (⟨M, Hp.le_refl M, S.pick [] (by decide)⟩) ?_
                  refine Wa_takeY (i := 21) rfl (by kernel_rfl) rfl rfl (.bool (decide ((rd a0 x419).TS ≥ (rd a0 (IntKind.i64.wrap (x419 - (1 : Int)))).TS))) rfl (congrArg some hb814) (fun w' h' => x_ibin rfl rfl rfl rfl) (⟨M, Hp.le_refl M, S.pick [] (by decide)⟩) ?_
                  refine Wa_takeY (i := 22) rfl (by kernel_rfl) rfl rfl (.bool (decide ((rd a0 x419).TS ≥ (rd a0 (IntKind.i64.wrap (x419 - (1 : Int)))).TS))) rfl (congrArg some hb789) (fun w' h' => x_pick (k := true) (congrArg Value.bool hb814) rfl) (⟨M, Hp.le_refl M, S.pick [] (by decide)⟩) ?_
                  exact hrest _ _ ⟨(decide ((rd a0 x419).TS ≥ (rd a0 (IntKind.i64.wrap (x419 - (1 : Int)))).TS)), Option.some.inj H, ⟨rfl, rfl, rfl, rfl, rfl, rfl, rfl, trivial⟩, E, S.pick [] (by decide)⟩
                · skip
                  refine Wa_takeN (i := 10) rfl (by kernel_rfl) rfl rfl rfl (skT hb814) (⟨M, Hp.le_refl M, S.pick [] (by decide)⟩) ?_
                  refine Wa_takeN (i := 11) rfl (by kernel_rfl) rfl rfl rfl (skT hb814) (⟨M, Hp.le_refl M, S.pick [] (by decide)⟩) ?_
                  refine Wa_takeN (i := 12) rfl (by kernel_rfl) rfl rfl rfl (skT hb814) (⟨M, Hp.le_refl M, S.pick [] (by decide)⟩) ?_
                  refine Wa_takeN (i := 13) rfl (by kernel_rfl) rfl rfl rfl (skT hb814) (⟨M, Hp.le_refl M, S.pick [] (by decide)⟩) ?_
                  refine Wa_takeN (i := 14) rfl (by kernel_rfl) rfl rfl rfl (skT hb814) (⟨M, Hp.le_refl M, S.pick [] (by decide)⟩) ?_
                  refine Wa_takeN (i := 15) rfl (by kernel_rfl) rfl rfl rfl (skT hb814) (⟨M, Hp.le_refl M, S.pick [] (by decide)⟩) ?_
                  refine Wa_takeN (i := 16) rfl (by kernel_rfl) rfl rfl rfl (skT hb814) (⟨M, Hp.le_refl M, S.pick [] (by decide)⟩) ?_
                  refine Wa_takeN (i := 17) rfl (by kernel_rfl) rfl rfl rfl (skT hb814) (⟨M, Hp.le_refl M, S.pick [] (by decide)⟩) ?_
                  refine Wa_takeN (i := 18) rfl (by kernel_rfl) rfl rfl rfl (skT hb814) (⟨M, Hp.le_refl M, S.pick [] (by decide)⟩) ?_
                  refine Wa_takeN (i := 19) rfl (by kernel_rfl) rfl rfl rfl (skT hb814) (⟨M, Hp.le_refl M, S.pick [] (by decide)⟩) ?_
                  refine Wa_takeN (i := 20) rfl (by kernel_rfl) rfl rfl rfl (skT hb814) (⟨M, Hp.le_refl M, S.pick [] (by decide)⟩) ?_
                  refine Wa_takeN (i := 21) rfl (by kernel_rfl) rfl rfl rfl (skT hb814) (⟨M, Hp.le_refl M, S.pick [] (by decide)⟩) ?_
                  refine Wa_takeY (i := 22) rfl (by kernel_rfl) rfl rfl (.bool false) rfl (congrArg some hb789) (fun w' h' => x_pick (k := false) (congrArg Value.bool hb814) rfl) (⟨M, Hp.le_refl M, S.pick [] (by decide)⟩) ?_
                  exact hrest _ _ ⟨false, Option.some.inj H, ⟨rfl, rfl, rfl, rfl, rfl, rfl, rfl, trivial⟩, E, S.pick [] (by decide)⟩
        · refine Wp_cond_false (congrArg Value.bool hb630) ?_
          refine Wp_exit ?_
          refine tx (tx (bsm (?_)))
          refine tn ?_
          exact ⟨Option.some.inj H, trivial, E, S.pick [] (by decide)⟩
  · clear o628h
    rintro ρ w838 ⟨rfl, hρ, E, S⟩
    rw [agree_eta hρ]
    clear hρ
    have H := o628H
    clear o628H
    replace H := elimR H
    refine tn ?_
    refine Wp_seq ?_
    refine Wp_region_lit ?_
    refine W_v (.bool true) (x_assign rfl) rfl ?_
    refine Wl_nil ?_
    refine tn ?_
    refine Wp_ret ?_
    obtain rfl := Option.some.inj H
    exact ⟨_, _, _, fun w1 e1 => run_resR (vs := [.bool true]) (FA.cons (rfl) (FA.nil)), HM, E, S.pick [] (by decide), ⟨rfl, rfl⟩⟩
/-! ### ferryman/keep.till$1: function 27 -/
def keep_till_1_l0 {σ ε : Type} (a0 : (List api_Version)) (a1 : Int) (bd : Int × Bool → σ → Option (σ ⊕ ε)) : Nat → Int → σ ⊕ ε → Option ((σ ⊕ ε) ⊕ (σ ⊕ ε))
  | 0, _, _ => none
  | k + 1, x53, x54 => (if (decide (x53 < (a0.length : Int))) = true then (if 0 ≤ x53 ∧ x53 < (a0.length : Int) then (Option.bind (toL x54) (fun s99 => Option.bind (bd (x53, (decide ((rd a0 x53).TS ≤ a1))) s99) (fun t101 => (if ((!(isNorm t101)) || (decide ((rd a0 x53).TS ≤ a1))) = true then some (.inl t101) else keep_till_1_l0 a0 a1 bd k (IntKind.i64.wrap (x53 + (1 : Int))) t101)))) else none) else some (.inr (x54)))
set_option maxHeartbeats 2000000 in
theorem keep_till_1_l0.mono {σ ε : Type} {a0 : (List api_Version)} {a1 : Int} {bd bd' : Int × Bool → σ → Option (σ ⊕ ε)} (hbd : ∀ x s, OLe (bd x s) (bd' x s)) : ∀ {k : Nat} {x0 x1}, OLe (keep_till_1_l0 a0 a1 bd k x0 x1) (keep_till_1_l0 a0 a1 bd' (k + 1) x0 x1) := by
  intro k
  induction k with
  | zero => intros; exact OLe.none
  | succ k ih =>
    intros
    rw [keep_till_1_l0.eq_2, keep_till_1_l0.eq_2]
    repeat' (first | with_reducible exact OLe.none | with_reducible exact OLe.some | with_reducible refine OLe.ite ?_ ?_ | with_reducible refine OLe.bind ?_ (fun _ => ?_) | exact OLe.toL | exact hbd _ _ | exact ih | refine OLe.bind ?_ (fun _ => ?_) | refine OLe.ite ?_ ?_ | refine OLe.elim (fun _ => ?_) (fun _ => ?_) | split)
def keep_till_1 {σ ε : Type} (k : Nat) (a0 : (List api_Version)) (a1 : Int) (bd : Int × Bool → σ → Option (σ ⊕ ε)) (s0 : σ) : Option (σ ⊕ ε) :=
  (Option.bind (keep_till_1_l0 a0 a1 bd k (0 : Int) (.inl s0)) (fun o80o => Sum.elim (fun r' => some r') (fun x79 => some x79) o80o))
set_option maxHeartbeats 2000000 in
theorem keep_till_1.mono {σ ε : Type} {k : Nat} {a0 : (List api_Version)} {a1 : Int} {bd bd' : Int × Bool → σ → Option (σ ⊕ ε)} (hbd : ∀ x s, OLe (bd x s) (bd' x s)) {s0 : σ} : OLe (keep_till_1 k a0 a1 bd s0) (keep_till_1 (k + 1) a0 a1 bd' s0) := by
  unfold keep_till_1
  repeat' (first | with_reducible exact OLe.none | with_reducible exact OLe.some | with_reducible refine OLe.ite ?_ ?_ | with_reducible refine OLe.bind ?_ (fun _ => ?_) | with_reducible exact keep_till_1_l0.mono hbd | exact OLe.toL | exact hbd _ _ | refine OLe.bind ?_ (fun _ => ?_) | refine OLe.ite ?_ ?_ | refine OLe.elim (fun _ => ?_) (fun _ => ?_) | split)
set_option maxHeartbeats 1000000 in
set_option maxRecDepth 100000 in
theorem keep_till_1.con {σ ε : Type} (k : Nat) (M : Hp) (A0 : Option Addr) (c0 : Nat) (a0 : (List api_Version)) (a1 : Int) (b0 : Nat) (b1 : Nat) (bd : Int × Bool → σ → Option (σ ⊕ ε)) (s0 : σ) (r : σ ⊕ ε) (hr0 : SlR r_api_Version M (.slice A0 a0.length c0) a0) (h : keep_till_1 k a0 a1 bd s0 = some r) : Iter Try.prog 27 [.pointer (some ⟨b0, 0, none⟩), .pointer (some ⟨b1, 0, none⟩)] M (fun (M : Hp) (x : Int × Bool) (vs : List Value) => vs = [.int .i64 x.1, .bool x.2]) bd s0 r [Blk b0 (.cells #[.slice A0 a0.length c0] 22 (0, 0)), Blk b1 (.cells #[.int .i64 a1] 3 (0, 0))] (fun M' Γ' => Γ' = [Blk b0 (.cells #[.slice A0 a0.length c0] 22 (0, 0)), Blk b1 (.cells #[.int .i64 a1] 3 (0, 0))]) := by
  intro lp B hY
  refine con_of_wp Try.func27 rfl Try.ntmps27 Try.results27 rfl ?_
  intro w F rn S hrn
  have E := Ext.refl w
  have HM := Hp.le_refl M
  have H := h
  unfold keep_till_1 at H
  refine Wp_seq ?_
  refine Wp_region_lit ?_
  refine W_v (.slice A0 a0.length c0) (x_load (S.blk 1 rfl) ty22 rfl rfl) rfl ?_
  refine W_v (.int .i64 (a0.length : Int)) (x_len_slice (n := a0.length) Try.underlying22 rfl) rfl ?_
  refine W_v (.int .i64 0) (x_move rfl) rfl ?_
  refine Wl_nil ?_
  refine tn ?_
  obtain ⟨o80, o80h, o80H⟩ := bindS H
  clear H
  refine Wp_blockJ (fun ρ w' => ∃ (x79 : σ ⊕ ε) (Mj : Hp), .inr (x79) = o80 ∧ Agree ρ [] ∧ M.le Mj ∧ Ext w w' ∧ St w' Mj F [Blk b0 (.cells #[.slice A0 a0.length c0] 22 (0, 0)), Blk b1 (.cells #[.int .i64 a1] 3 (0, 0)), B x79]) ?_ ?_
  · skip
    refine Wp_loop (fun n ρ w' => ∃ (x53 : Int) (x54 : σ ⊕ ε) (Mj : Hp), keep_till_1_l0 a0 a1 bd n x53 x54 = some o80 ∧ Agree ρ [(0, .func (.yield lp) #[] #[]), (2, .pointer (some ⟨b1, 0, none⟩)), (6, .slice A0 a0.length c0), (7, .int .i64 (a0.length : Int)), (8, .int .i64 x53)] ∧ M.le Mj ∧ Ext w w' ∧ St w' Mj F [Blk b0 (.cells #[.slice A0 a0.length c0] 22 (0, 0)), Blk b1 (.cells #[.int .i64 a1] 3 (0, 0)), B x54]) k ?_ ?_
    · skip
      exact ⟨(0 : Int), (.inl s0), M, o80h, ⟨rfl, rfl, rfl, rfl, rfl, trivial⟩, (Hp.le_refl M), E, S.pick [1, 2, 0] (by decide)⟩
    · intro n
      rintro ρ w81 ⟨x53, x54, M82, H, hρ, hM83, E, S⟩
      rw [agree_eta hρ]
      clear hρ
      replace HM := Hp.le_trans HM hM83
      replace hr0 := SlR.mono hr0 hM83
      cases n with
      | zero => cases H
      | succ k =>
        rw [keep_till_1_l0.eq_2] at H
        refine Wp_seq ?_
        refine Wp_region_lit ?_
        refine W_v (.bool (decide (x53 < (a0.length : Int)))) (x_ibin rfl rfl rfl rfl) rfl ?_
        refine Wl_nil ?_
        refine tn ?_
        refine Wp_seq ?_
        rcases iteS H with ⟨hb84, H⟩ | ⟨hb84, H⟩
        · refine Wp_cond_true (congrArg Value.bool hb84) ?_
          refine Wp_skip ?_
          refine tn ?_
          refine Wp_seq ?_
          refine Wp_block ?_
          refine Wp_seq ?_
          refine Wp_region_lit ?_
          refine W_v (.int .i64 x53) (x_move rfl) rfl ?_
          obtain ⟨⟨p85, p86⟩, H⟩ := chkS H
          obtain ⟨b87, o88, cs89, _, _, ee94, hb90, vs91, hR92, hc93⟩ := SlW.at' hr0 p85 p86
          obtain rfl : vs91 = _ := hR92
          refine W_v (.pointer (some ⟨b87, o88 + x53.toNat * 4, none⟩)) (x_indexAddr Try.underlying22 ty27 (slA ee94) rfl p85 p86) rfl ?_
          refine W_v (.agg #[.int .i64 ((rd a0 x53).Writer), .int .i64 ((rd a0 x53).TS), .bool ((rd a0 x53).Tomb), .string (bs ((rd a0 x53).Value))]) (x_loadA (S.frz hb90) ty27 rfl (sub_el hc93 0 rfl) rfl rfl) rfl ?_
          refine W_alloc S #[.int .i64 0, .int .i64 0, .bool false, .string (bs ([] : Str))] ty27 rfl rfl ?_
          intro b95 w96 E' S
          replace E := E.trans E'
          clear E'
          refine W_v (.int .i64 x53) (x_assign rfl) rfl ?_
          refine W_store S 0 rfl ty27 rfl rfl [.int .i64 ((rd a0 x53).Writer), .int .i64 ((rd a0 x53).TS), .bool ((rd a0 x53).Tomb), .string (bs ((rd a0 x53).Value))] rfl rfl rfl #[.int .i64 ((rd a0 x53).Writer), .int .i64 ((rd a0 x53).TS), .bool ((rd a0 x53).Tomb), .string (bs ((rd a0 x53).Value))] rfl rfl ?_
          intro w98 E' S
          replace E := E.trans E'
          clear E'
          refine Wl_nil ?_
          refine tn ?_
          refine Wp_seq ?_
          refine Wp_region_lit ?_
          refine W_v (.func (.yield lp) #[] #[]) (x_move rfl) rfl ?_
          refine W_v (.int .i64 x53) (x_move rfl) rfl ?_
          refine W_v (.pointer (some ⟨b95, 1, none⟩)) (x_fieldAddr (o := 0) (off := 1) Try.underlying27 rfl ty3 rfl rfl) rfl ?_
          refine W_v (.int .i64 ((rd a0 x53).TS)) (x_load (S.blk 0 rfl) ty3 rfl rfl) rfl ?_
          refine W_v (.int .i64 a1) (x_load (S.blk 2 rfl) ty3 rfl rfl) rfl ?_
          refine W_v (.bool (decide ((rd a0 x53).TS ≤ a1))) (x_ibin rfl rfl rfl rfl) rfl ?_
          obtain ⟨s99, hs100, H⟩ := bindS H
          obtain ⟨t101, ht102, H⟩ := bindS H
          rw [toL_eq hs100] at S
          replace S : St w98 M82 F [B (.inl s99), Blk b95 (.cells #[.int .i64 ((rd a0 x53).Writer), .int .i64 ((rd a0 x53).TS), .bool ((rd a0 x53).Tomb), .string (bs ((rd a0 x53).Value))] 27 (0, 0)), Blk b0 (.cells #[.slice A0 a0.length c0] 22 (0, 0)), Blk b1 (.cells #[.int .i64 a1] 3 (0, 0))] := S.pick [3, 0, 1, 2] (by decide)
          refine W_yield rfl (hY _ (x53, (decide ((rd a0 x53).TS ≤ a1))) _ s99 t101 HM (rfl) ht102) S rfl rfl ?_
          rintro _ w103 M104 _ hM105 E' S ⟨rfl, rfl⟩
          replace HM := Hp.le_trans HM hM105
          replace hM83 := Hp.le_trans hM83 hM105
          replace hr0 := SlR.mono hr0 hM105
          replace hb90 := hM105 _ _ hb90
          replace E := E.trans E'
          clear E'
          refine W_v (.bool (!(isNorm t101))) (x_not rfl) rfl ?_
          refine W_v (.bool (!(isNorm t101))) (x_move rfl) rfl ?_
          refine Wl_cutN 5 (fun ρ w' => Agree ρ [(0, .func (.yield lp) #[] #[]), (2, .pointer (some ⟨b1, 0, none⟩)), (6, .slice A0 a0.length c0), (7, .int .i64 (a0.length : Int)), (8, .int .i64 x53), (26, .bool ((!(isNorm t101)) || (decide ((rd a0 x53).TS ≤ a1))))] ∧ w103 = w') ?_ ?_
          · rcases boolCases (!(isNorm t101)) with hb106 | hb106
            · skip
              refine W_yes (congrArg some hb106) ?_
              refine W_v (.pointer (some ⟨b95, 1, none⟩)) (x_fieldAddr (o := 0) (off := 1) Try.underlying27 rfl ty3 rfl rfl) rfl ?_
              refine W_yes (congrArg some hb106) ?_
              refine W_v (.int .i64 ((rd a0 x53).TS)) (x_load (S.blk 1 rfl) ty3 rfl rfl) rfl ?_
              refine W_yes (congrArg some hb106) ?_
              refine W_v (.int .i64 a1) (x_load (S.blk 3 rfl) ty3 rfl rfl) rfl ?_
              refine W_yes (congrArg some hb106) ?_
              refine W_v (.bool (decide ((rd a0 x53).TS ≤ a1))) (x_ibin rfl rfl rfl rfl) rfl ?_
              refine W_v (.bool (decide ((rd a0 x53).TS ≤ a1))) (x_pick (k := false) (congrArg Value.bool hb106) rfl) rfl ?_
              refine Wl_nil ?_
              exact ⟨⟨rfl, rfl, rfl, rfl, rfl, (by first | rfl | (rw [hb106]; rfl) | (simp only [hb106]; rfl)), trivial⟩, rfl⟩
            · skip
              refine W_no (skF hb106) rfl ?_
              refine W_no (skF hb106) rfl ?_
              refine W_no (skF hb106) rfl ?_
              refine W_no (skF hb106) rfl ?_
              refine W_v (.bool true) (x_pick (k := true) (congrArg Value.bool hb106) rfl) rfl ?_
              refine Wl_nil ?_
              exact ⟨⟨rfl, rfl, rfl, rfl, rfl, (by first | rfl | (rw [hb106]; rfl) | (simp only [hb106]; rfl)), trivial⟩, rfl⟩
          · rintro ρ _ ⟨hρ, rfl⟩
            rw [agree_eta hρ]
            clear hρ
            skip
            refine Wl_nil ?_
            refine tn ?_
            rcases iteS H with ⟨hb107, H⟩ | ⟨hb107, H⟩
            · refine Wp_cond_true (congrArg Value.bool hb107) ?_
              refine Wp_ret ?_
              refine br (tr (tr (br (tr (?_)))))
              obtain rfl := Option.some.inj H
              have H := o80H
              replace H := elimL H
              obtain rfl := Option.some.inj H
              exact ⟨_, _, _, fun w1 e1 => run_resR (vs := []) FA.nil, HM, E, S.pick [0, 2, 3] (by decide), ⟨_, rfl, rfl⟩⟩
            · refine Wp_cond_false (congrArg Value.bool hb107) ?_
              refine Wp_skip ?_
              refine bn ?_
              refine tn ?_
              refine Wp_region_lit ?_
              refine W_v (.int .i64 (IntKind.i64.wrap (x53 + (1 : Int)))) (x_ibin rfl rfl rfl rfl) rfl ?_
              refine W_v (.int .i64 (IntKind.i64.wrap (x53 + (1 : Int)))) (x_move rfl) rfl ?_
              refine Wl_nil ?_
              refine tn ?_
              exact ⟨k, Nat.lt_succ_self k, ⟨(IntKind.i64.wrap (x53 + (1 : Int))), t101, M104, H, ⟨rfl, rfl, rfl, rfl, rfl, trivial⟩, hM83, E, S.pick [2, 3, 0] (by decide)⟩⟩
        · refine Wp_cond_false (congrArg Value.bool hb84) ?_
          refine Wp_exit ?_
          refine tx (tx (bsm (?_)))
          refine tn ?_
          exact ⟨x54, M82, Option.some.inj H, trivial, hM83, E, S.pick [0, 1, 2] (by decide)⟩
  · clear o80h
    rintro ρ w108 ⟨x79, M109, rfl, hρ, hM110, E, S⟩
    rw [agree_eta hρ]
    clear hρ
    replace HM := Hp.le_trans HM hM110
    replace hr0 := SlR.mono hr0 hM110
    have H := o80H
    clear o80H
    replace H := elimR H
    obtain rfl := Option.some.inj H
    exact ⟨_, _, _, fun w1 e1 => run_resR (vs := []) FA.nil, HM, E, S.pick [2, 0, 1] (by decide), ⟨_, rfl, rfl⟩⟩
/-! ### ferryman/keep.till: function 22 -/
def keep_till (k : Nat) (a0 : (List api_Version)) (a1 : Int) : Option (Unit) :=
  some ()
set_option maxHeartbeats 2000000 in
theorem keep_till.mono {k : Nat} {a0 : (List api_Version)} {a1 : Int} : OLe (keep_till k a0 a1) (keep_till (k + 1) a0 a1) := by
  unfold keep_till
  repeat' (first | with_reducible exact OLe.none | with_reducible exact OLe.some | with_reducible refine OLe.ite ?_ ?_ | with_reducible refine OLe.bind ?_ (fun _ => ?_) | refine OLe.bind ?_ (fun _ => ?_) | refine OLe.ite ?_ ?_ | refine OLe.elim (fun _ => ?_) (fun _ => ?_) | split)
set_option maxHeartbeats 1000000 in
set_option maxRecDepth 100000 in
theorem keep_till.con (k : Nat) (M : Hp) (A0 : Option Addr) (c0 : Nat) (a0 : (List api_Version)) (a1 : Int) (r : Unit) (hr0 : SlR r_api_Version M (.slice A0 a0.length c0) a0) (h : keep_till k a0 a1 = some r) : Con Try.prog 22 #[.slice A0 a0.length c0, .int .i64 a1] M [] (fun v M' Γ' => ∃ (b1 : Nat) (b4 : Nat), v = .func (.func 27) #[] #[.pointer (some ⟨b1, 0, none⟩), .pointer (some ⟨b4, 0, none⟩)] ∧ Γ' = [Blk b1 (.cells #[.slice A0 a0.length c0] 22 (0, 0)), Blk b4 (.cells #[.int .i64 a1] 3 (0, 0))]) := by
  refine con_of_wp Try.func22 rfl Try.ntmps22 Try.results22 rfl ?_
  intro w F rn S hrn
  have E := Ext.refl w
  have HM := Hp.le_refl M
  have H := h
  unfold keep_till at H
  refine Wp_seq ?_
  refine Wp_region_lit ?_
  refine W_box S #[.slice A0 a0.length c0] rfl rfl rfl ?_
  intro b1 w2 E' S
  replace E := E.trans E'
  clear E'
  refine W_box S #[.int .i64 a1] rfl rfl rfl ?_
  intro b4 w5 E' S
  replace E := E.trans E'
  clear E'
  refine W_v (.nilFunc) (x_assign rfl) rfl ?_
  refine Wl_nil ?_
  refine tn ?_
  refine Wp_seq ?_
  refine Wp_region_lit ?_
  refine W_v (.func (.func 27) #[] #[.pointer (some ⟨b1, 0, none⟩), .pointer (some ⟨b4, 0, none⟩)]) (x_makeFunc rfl) rfl ?_
  refine W_v (.func (.func 27) #[] #[.pointer (some ⟨b1, 0, none⟩), .pointer (some ⟨b4, 0, none⟩)]) (x_assign rfl) rfl ?_
  refine Wl_nil ?_
  refine tn ?_
  refine Wp_ret ?_
  obtain rfl := Option.some.inj H
  exact ⟨_, _, _, fun w1 e1 => run_resR (vs := [.func (.func 27) #[] #[.pointer (some ⟨b1, 0, none⟩), .pointer (some ⟨b4, 0, none⟩)]]) (FA.cons rfl FA.nil), HM, E, S.pick [1, 0] (by decide), ⟨b1, b4, rfl, rfl⟩⟩
/-! ### slices.Clone[[]ferryman/api.Version,ferryman/api.Version]: function 23 -/
def slices_Clone_api_Version_api_Version (k : Nat) (a0 : List api_Version) : Option (List api_Version) :=
  if ([] : List api_Version).length + a0.length ≤ 3518437208883 then some (([] : List api_Version) ++ a0) else none
set_option maxHeartbeats 2000000 in
theorem slices_Clone_api_Version_api_Version.mono {k : Nat} {a0 : List api_Version} : OLe (slices_Clone_api_Version_api_Version k a0) (slices_Clone_api_Version_api_Version (k + 1) a0) := by
  unfold slices_Clone_api_Version_api_Version
  repeat' (first | with_reducible exact OLe.none | with_reducible exact OLe.some | with_reducible refine OLe.ite ?_ ?_ | with_reducible refine OLe.bind ?_ (fun _ => ?_) | refine OLe.bind ?_ (fun _ => ?_) | refine OLe.ite ?_ ?_ | refine OLe.elim (fun _ => ?_) (fun _ => ?_) | split)
set_option maxHeartbeats 1000000 in
set_option maxRecDepth 100000 in
theorem slices_Clone_api_Version_api_Version.con (k : Nat) (M : Hp) (A0 : Option Addr) (c0 : Nat) (a0 : (List api_Version)) (r : (List api_Version)) (hr0 : SlR r_api_Version M (.slice A0 a0.length c0) a0) (h : slices_Clone_api_Version_api_Version k a0 = some r) : Con Try.prog 23 #[.slice A0 a0.length c0] M [] (fun v M' Γ' => ∃ (A0 : Option Addr) (c0 : Nat), v = .slice A0 r.length c0 ∧ Γ' = [Row r_api_Version 27 (.slice A0 r.length c0) r]) := by
  have H := h
  unfold slices_Clone_api_Version_api_Version at H
  cases A0 with
  | none =>
    obtain ⟨_, H⟩ := chkS H
    obtain rfl : a0 = [] := SlW.none_nil hr0
    refine con_of_wp Try.func23 rfl Try.ntmps23 Try.results23 rfl ?_
    intro w F rn S hrn
    have E := Ext.refl w
    have HM := Hp.le_refl M
    refine Wp_seq ?_
    refine Wp_region_lit ?_
    refine W_v (.slice none 0 0) (x_assign rfl) rfl ?_
    refine Wl_nil ?_
    refine tn ?_
    refine Wp_seq ?_
    refine Wp_seq ?_
    refine Wp_region_lit ?_
    refine W_v (.slice none ([] : List api_Version).length c0) (x_move rfl) rfl ?_
    refine W_v (.bool true) (x_eq_of rfl rfl (run_equal_slice_nil _ _ _ _ _ _ Try.underlying22)) rfl ?_
    refine Wl_nil ?_
    refine tn ?_
    refine Wp_cond_true rfl ?_
    refine Wp_seq ?_
    refine Wp_region_lit ?_
    refine W_v (.slice none 0 0) (x_assign rfl) rfl ?_
    refine Wl_nil ?_
    refine tn ?_
    refine Wp_ret ?_
    refine tr (?_)
    obtain rfl := Option.some.inj H
    replace S := S.row_nil r_api_Version 27
    exact ⟨_, _, _, fun w1 e1 => run_resR (vs := [.slice none 0 0]) (FA.cons (rfl) (FA.nil)), HM, E, S.pick [0] (by decide), ⟨none, 0, rfl, rfl⟩⟩
  | some ad =>
    refine con_of_wp Try.func23 rfl Try.ntmps23 Try.results23 rfl ?_
    intro w F rn S hrn
    have E := Ext.refl w
    have HM := Hp.le_refl M
    refine Wp_seq ?_
    refine Wp_region_lit ?_
    refine W_v (.slice none 0 0) (x_assign rfl) rfl ?_
    refine Wl_nil ?_
    refine tn ?_
    refine Wp_seq ?_
    refine Wp_seq ?_
    refine Wp_region_lit ?_
    refine W_v (.slice (some ad) a0.length c0) (x_move rfl) rfl ?_
    refine W_v (.bool false) (x_eq_of rfl rfl (run_equal_slice_nil _ _ _ _ _ _ Try.underlying22)) rfl ?_
    refine Wl_nil ?_
    refine tn ?_
    refine Wp_cond_false rfl ?_
    refine Wp_skip ?_
    refine tn ?_
    refine Wp_seq ?_
    refine Wp_region_lit ?_
    refine W_bslice S #[] Try.underlying22 ty27 rfl rfl #[] (by kernel_rfl) (by kernel_rfl) rfl ?_
    intro b2 w3 E' S
    replace E := E.trans E'
    clear E'
    replace S := S.blk_row (r := r_api_Version) (l := ([] : List api_Version)) 0 rfl 0 (Nat.le_refl 0) rfl Cells.nil
    refine W_v (.slice (some ad) a0.length c0) (x_move rfl) rfl ?_
    obtain ⟨p5, H⟩ := chkS H
    obtain ⟨src6, hs7, hC8⟩ := src_of_read (P := Try.prog) (ρ := r_api_Version) (l := a0) (SlR.world hr0 S) (by decide)
    refine W_append S 0 rfl rfl rfl Try.underlying22 (.inl Try.underlying22) ty27 rfl (by decide) (by decide) hs7 hC8 rfl (by omega) rfl ?_
    intro v9 w10 E' S
    replace E := E.trans E'
    clear E'
    obtain ⟨A11, c12, rfl, _⟩ := (S.row_read 0 rfl).form
    refine W_v (.slice A11 (([] : List api_Version) ++ a0).length c12) (x_assign rfl) rfl ?_
    refine Wl_nil ?_
    refine tn ?_
    refine Wp_ret ?_
    obtain rfl := Option.some.inj H
    exact ⟨_, _, _, fun w1 e1 => run_resR (vs := [.slice A11 (([] : List api_Version) ++ a0).length c12]) (FA.cons (rfl) (FA.nil)), HM, E, S.pick [0] (by decide), ⟨A11, c12, rfl, rfl⟩⟩
/-! ### ferryman/keep.Kept: function 11 -/
def keep_Kept_b0 (a0 : (List api_Version)) (k : Nat) : (Int × Bool) → Int → Option ((Int) ⊕ (Unit))
  | (y150, y151), x103 => (Option.bind (α := Int) (if (!y151) = true then some (x103) else (if 0 ≤ y150 ∧ y150 < (a0.length : Int) then (Option.bind (α := Int) (if (!((rd a0 y150).Tomb)) = true then some ((IntKind.i64.wrap (y150 + (1 : Int)))) else some (y150)) (fun x189 => some (x189))) else none)) (fun x173 => some (.inl x173)))
set_option maxHeartbeats 2000000 in
theorem keep_Kept_b0.mono {a0 : (List api_Version)} {k : Nat} : ∀ x s, OLe (keep_Kept_b0 a0 k x s) (keep_Kept_b0 a0 (k + 1) x s) := by
  intro x s
  unfold keep_Kept_b0
  repeat' (first | with_reducible exact OLe.none | with_reducible exact OLe.some | with_reducible refine OLe.ite ?_ ?_ | with_reducible refine OLe.bind ?_ (fun _ => ?_) | refine OLe.bind ?_ (fun _ => ?_) | refine OLe.ite ?_ ?_ | refine OLe.elim (fun _ => ?_) (fun _ => ?_) | split)
def keep_Kept (k : Nat) (a0 : (List api_Version)) (a1 : Int) : Option ((List api_Version)) :=
  (Option.bind (keep_till k a0 a1) (fun t8 => (Option.bind (keep_till_1 k a0 a1 (keep_Kept_b0 a0 k) (a0.length : Int)) (fun o147o => Sum.elim (fun x103 => (if 0 ≤ x103 ∧ x103 ≤ x103 ∧ x103 ≤ (a0.length : Int) then (Option.bind (slices_Clone_api_Version_api_Version k (List.take x103.toNat a0)) (fun t203 => some t203)) else none)) (fun _ => none) o147o))))
set_option maxHeartbeats 2000000 in
theorem keep_Kept.mono {k : Nat} {a0 : (List api_Version)} {a1 : Int} : OLe (keep_Kept k a0 a1) (keep_Kept (k + 1) a0 a1) := by
  unfold keep_Kept
  repeat' (first | with_reducible exact OLe.none | with_reducible exact OLe.some | with_reducible refine OLe.ite ?_ ?_ | with_reducible refine OLe.bind ?_ (fun _ => ?_) | with_reducible exact keep_Kept_b0.mono | with_reducible exact keep_till.mono | exact keep_till_1.mono (fun _ _ => by first | exact keep_Kept_b0.mono _ _) | with_reducible exact slices_Clone_api_Version_api_Version.mono | refine OLe.bind ?_ (fun _ => ?_) | refine OLe.ite ?_ ?_ | refine OLe.elim (fun _ => ?_) (fun _ => ?_) | split)
set_option maxHeartbeats 1000000 in
set_option maxRecDepth 100000 in
theorem keep_Kept.con (k : Nat) (M : Hp) (A0 : Option Addr) (c0 : Nat) (a0 : (List api_Version)) (a1 : Int) (r : (List api_Version)) (hr0 : SlR r_api_Version M (.slice A0 a0.length c0) a0) (h : keep_Kept k a0 a1 = some r) : Con Try.prog 11 #[.slice A0 a0.length c0, .int .i64 a1] M [] (fun v M' Γ' => ∃ (A0 : Option Addr) (c0 : Nat), v = .slice A0 r.length c0 ∧ Γ' = [Row r_api_Version 27 (.slice A0 r.length c0) r]) := by
  refine con_of_wp Try.func11 rfl Try.ntmps11 Try.results11 rfl ?_
  intro w F rn S hrn
  have E := Ext.refl w
  have HM := Hp.le_refl M
  have H := h
  unfold keep_Kept at H
  refine Wp_seq ?_
  refine Wp_region_lit ?_
  refine W_box S #[.slice A0 a0.length c0] rfl rfl rfl ?_
  intro b1 w2 E' S
  replace E := E.trans E'
  clear E'
  refine W_v (.slice none 0 0) (x_assign rfl) rfl ?_
  refine Wl_nil ?_
  refine tn ?_
  refine Wp_seq ?_
  refine Wp_region_lit ?_
  refine W_v (.slice A0 a0.length c0) (x_load (S.blk 0 rfl) ty22 rfl rfl) rfl ?_
  refine W_v (.int .i64 (a0.length : Int)) (x_len_slice (n := a0.length) Try.underlying22 rfl) rfl ?_
  refine W_alloc S #[.int .i64 0] ty3 rfl rfl ?_
  intro b4 w5 E' S
  replace E := E.trans E'
  clear E'
  refine W_store S 0 rfl ty3 rfl rfl [.int .i64 (a0.length : Int)] rfl rfl rfl #[.int .i64 (a0.length : Int)] rfl rfl ?_
  intro w7 E' S
  replace E := E.trans E'
  clear E'
  refine Wl_nil ?_
  refine tn ?_
  refine Wp_seq ?_
  refine Wp_seq ?_
  refine Wp_region_lit ?_
  refine W_v (.slice A0 a0.length c0) (x_load (S.blk 1 rfl) ty22 rfl rfl) rfl ?_
  refine W_v (.int .i64 a1) (x_move rfl) rfl ?_
  obtain ⟨t8, ht9, H⟩ := bindS H
  refine W_callF fn22 (keep_till.con k M A0 c0 a0 a1 t8 hr0 ht9) S rfl rfl (by rintro _ _ _ ⟨_, _, rfl, rfl⟩; exact (flat_cons flat_blk (flat_cons flat_blk flat_nil))) ?_
  rintro _ w14 _ Γ' E' S ⟨b10, b12, rfl, rfl⟩
  replace E := E.trans E'
  clear E'
  replace S : St w14 M F [Blk b10 (.cells #[.slice A0 a0.length c0] 22 (0, 0)), Blk b12 (.cells #[.int .i64 a1] 3 (0, 0)), Blk b4 (.cells #[.int .i64 (a0.length : Int)] 3 (0, 0)), Blk b1 (.cells #[.slice A0 a0.length c0] 22 (0, 0))] := S
  refine Wl_nil ?_
  refine tn ?_
  refine Wp_block ?_
  obtain ⟨o147, o147h, o147H⟩ := bindS H
  clear H
  refine Wp_rangeFunc (σ := Int) (ε := Unit) (Γi := [Blk b10 (.cells #[.slice A0 a0.length c0] 22 (0, 0)), Blk b12 (.cells #[.int .i64 a1] 3 (0, 0))]) (Γr := []) (Sum.elim (fun x103 => AE (ι := Unit) (fun (i : Unit) => [Blk b4 (.cells #[.int .i64 x103] 3 (0, 0)), Blk b1 (.cells #[.slice A0 a0.length c0] 22 (0, 0))]) (fun _ _ => True) (fun _ _ _ _ _ => trivial)) (fun _ => Star [])) (fun _ => Code.ret) fn27 rfl (St.close_ex (φ := (fun _ _ => True)) (hφ := (fun _ _ _ _ _ => trivial)) () trivial (S.pick [2, 3, 0, 1] (by decide))) (by rintro _ _ _ rfl; rfl) (by decide) (keep_till_1.con k M A0 c0 a0 a1 b10 b12 (keep_Kept_b0 a0 k) (a0.length : Int) o147 hr0 o147h) ?_ ?_
  · intro nn lp M148 F yy vs x103 tt w hM149 henc hbd S
    obtain ⟨y150, y151⟩ := yy
    obtain rfl := henc
    replace HM := Hp.le_trans HM hM149
    replace hr0 := SlR.mono hr0 hM149
    replace S : St w M148 F (AE (ι := Unit) (fun (i : Unit) => [Blk b4 (.cells #[.int .i64 x103] 3 (0, 0)), Blk b1 (.cells #[.slice A0 a0.length c0] 22 (0, 0))]) (fun _ _ => True) (fun _ _ _ _ _ => trivial) :: []) := S
    obtain ⟨_, _, S⟩ := S.open_ex
    replace S : St w M148 F [Blk b4 (.cells #[.int .i64 x103] 3 (0, 0)), Blk b1 (.cells #[.slice A0 a0.length c0] 22 (0, 0))] := S
    have E := Ext.refl w
    have LE152 := Hp.le_refl M148
    have H := hbd
    rw [keep_Kept_b0.eq_1] at H
    refine Wp_seq ?_
    refine Wp_region_lit ?_
    refine W_v (.int .i64 y150) (x_assign rfl) rfl ?_
    refine Wl_nil ?_
    refine tn ?_
    refine Wp_region_lit ?_
    refine W_v (.bool y151) (x_assign rfl) rfl ?_
    refine Wl_nil ?_
    refine on_n ⟨_, _, LE152, E, S, ?_⟩
    intro w F E3 S
    have E := Ext.refl w
    have LE153 := Hp.le_refl M148
    obtain ⟨o174, o174h, o174H⟩ := bindS H
    refine Wp_cut (fun ρ w' => ∃ (x173 : Int), (x173) = o174 ∧ Agree ρ [(2, .pointer (some ⟨b1, 0, none⟩)), (4, .slice none 0 0), (5, .pointer (some ⟨b4, 0, none⟩))] ∧ Ext w w' ∧ St w' M148 F [Blk b4 (.cells #[.int .i64 x173] 3 (0, 0)), Blk b1 (.cells #[.slice A0 a0.length c0] 22 (0, 0))]) ?_ ?_
    · clear o174H
      have H := o174h
      clear o174h
      refine Wp_block ?_
      refine Wp_seq ?_
      refine Wp_seq ?_
      refine Wp_region_lit ?_
      refine W_v (.bool y151) (x_move rfl) rfl ?_
      refine W_v (.bool (!y151)) (x_not rfl) rfl ?_
      refine Wl_nil ?_
      refine tn ?_
      rcases iteS H with ⟨hb175, H⟩ | ⟨hb175, H⟩
      · refine Wp_cond_true (congrArg Value.bool hb175) ?_
        refine Wp_exit ?_
        refine tx (bsm (?_))
        refine tn ?_
        exact ⟨x103, Option.some.inj H, ⟨rfl, rfl, rfl, trivial⟩, E, S.pick [0, 1] (by decide)⟩
      · refine Wp_cond_false (congrArg Value.bool hb175) ?_
        refine Wp_skip ?_
        refine tn ?_
        refine Wp_seq ?_
        refine Wp_region_lit ?_
        refine W_v (.int .i64 y150) (x_move rfl) rfl ?_
        refine W_store S 0 rfl ty3 rfl rfl [.int .i64 y150] rfl rfl rfl #[.int .i64 y150] rfl rfl ?_
        intro w176 E' S
        replace E := E.trans E'
        clear E'
        refine Wl_nil ?_
        refine tn ?_
        refine Wp_seq ?_
        refine Wp_region_lit ?_
        refine W_v (.slice A0 a0.length c0) (x_load (S.blk 1 rfl) ty22 rfl rfl) rfl ?_
        refine W_v (.int .i64 y150) (x_move rfl) rfl ?_
        obtain ⟨⟨p177, p178⟩, H⟩ := chkS H
        obtain ⟨b179, o180, cs181, _, _, ee186, hb182, vs183, hR184, hc185⟩ := SlW.at' hr0 p177 p178
        obtain rfl : vs183 = _ := hR184
        refine W_v (.pointer (some ⟨b179, o180 + y150.toNat * 4, none⟩)) (x_indexAddr Try.underlying22 ty27 (slA ee186) rfl p177 p178) rfl ?_
        refine W_v (.pointer (some ⟨b179, o180 + y150.toNat * 4 + 2, none⟩)) (x_fieldAddr (o := o180 + y150.toNat * 4) (off := 2) Try.underlying27 rfl ty4 rfl rfl) rfl ?_
        refine W_v (.bool ((rd a0 y150).Tomb)) (x_load (S.frz hb182) ty4 rfl (hc185 2 _ rfl)) rfl ?_
        refine W_v (.bool (!((rd a0 y150).Tomb))) (x_not rfl) rfl ?_
        refine Wl_nil ?_
        refine tn ?_
        obtain ⟨o190, o190h, o190H⟩ := bindS H
        refine Wp_cut (fun ρ w' => ∃ (x189 : Int), (x189) = o190 ∧ Agree ρ [(2, .pointer (some ⟨b1, 0, none⟩)), (4, .slice none 0 0), (5, .pointer (some ⟨b4, 0, none⟩))] ∧ Ext w w' ∧ St w' M148 F [Blk b4 (.cells #[.int .i64 x189] 3 (0, 0)), Blk b1 (.cells #[.slice A0 a0.length c0] 22 (0, 0))]) ?_ ?_
        · clear o190H
          have H := o190h
          clear o190h
          rcases iteS H with ⟨hb191, H⟩ | ⟨hb191, H⟩
          · refine Wp_cond_true (congrArg Value.bool hb191) ?_
            refine Wp_region_lit ?_
            refine W_v (.int .i64 y150) (x_move rfl) rfl ?_
            refine W_v (.int .i64 (IntKind.i64.wrap (y150 + (1 : Int)))) (x_ibin rfl rfl rfl rfl) rfl ?_
            refine W_store S 0 rfl ty3 rfl rfl [.int .i64 (IntKind.i64.wrap (y150 + (1 : Int)))] rfl rfl rfl #[.int .i64 (IntKind.i64.wrap (y150 + (1 : Int)))] rfl rfl ?_
            intro w192 E' S
            replace E := E.trans E'
            clear E'
            refine Wl_nil ?_
            refine tn ?_
            exact ⟨(IntKind.i64.wrap (y150 + (1 : Int))), Option.some.inj H, ⟨rfl, rfl, rfl, trivial⟩, E, S.pick [0, 1] (by decide)⟩
          · refine Wp_cond_false (congrArg Value.bool hb191) ?_
            refine Wp_skip ?_
            refine tn ?_
            exact ⟨y150, Option.some.inj H, ⟨rfl, rfl, rfl, trivial⟩, E, S.pick [0, 1] (by decide)⟩
        · clear o190h
          rintro ρ w193 ⟨x189, rfl, hρ, E, S⟩
          rw [agree_eta hρ]
          clear hρ
          have H := o190H
          clear o190H
          refine bn ?_
          refine tn ?_
          exact ⟨x189, Option.some.inj H, ⟨rfl, rfl, rfl, trivial⟩, E, S.pick [0, 1] (by decide)⟩
    · clear o174h
      rintro ρ w194 ⟨x173, rfl, hρ, E, S⟩
      rw [agree_eta hρ]
      clear hρ
      have H := o174H
      clear o174H
      obtain rfl := Option.some.inj H
      exact endB_mk trivial LE153 E (St.close_ex (φ := (fun _ _ => True)) (hφ := (fun _ _ _ _ _ => trivial)) () trivial (S.pick [0, 1] (by decide)))
  · intro w195 M196 Γ' hM197 E' hΨ S
    obtain rfl : Γ' = _ := hΨ
    replace E := E.trans E'
    clear E'
    replace HM := Hp.le_trans HM hM197
    replace hr0 := SlR.mono hr0 hM197
    have H := o147H
    clear o147H
    rcases o147 with x103 | _
    · replace H := elimL H
      refine afterR_l ?_
      replace S : St w195 M196 F (AE (ι := Unit) (fun (i : Unit) => [Blk b4 (.cells #[.int .i64 x103] 3 (0, 0)), Blk b1 (.cells #[.slice A0 a0.length c0] 22 (0, 0))]) (fun _ _ => True) (fun _ _ _ _ _ => trivial) :: [Blk b10 (.cells #[.slice A0 a0.length c0] 22 (0, 0)), Blk b12 (.cells #[.int .i64 a1] 3 (0, 0))]) := S
      obtain ⟨_, _, S⟩ := S.open_ex
      replace S : St w195 M196 F [Blk b4 (.cells #[.int .i64 x103] 3 (0, 0)), Blk b1 (.cells #[.slice A0 a0.length c0] 22 (0, 0)), Blk b10 (.cells #[.slice A0 a0.length c0] 22 (0, 0)), Blk b12 (.cells #[.int .i64 a1] 3 (0, 0))] := S
      refine bn ?_
      refine tn ?_
      refine Wp_seq ?_
      refine Wp_region_lit ?_
      refine W_v (.slice A0 a0.length c0) (x_load (S.blk 1 rfl) ty22 rfl rfl) rfl ?_
      refine W_v (.int .i64 x103) (x_load (S.blk 0 rfl) ty3 rfl rfl) rfl ?_
      refine W_v (.int .i64 x103) (x_load (S.blk 0 rfl) ty3 rfl rfl) rfl ?_
      obtain ⟨⟨p198, p199, p200⟩, H⟩ := chkS H
      obtain ⟨hs201, hx202⟩ := sl_hm hr0 p198 p199 p200
      refine W_v (.slice A0 (List.take x103.toNat a0).length x103.toNat) (hx202 Try.underlying22 ty27 rfl rfl rfl) rfl ?_
      obtain ⟨t203, ht204, H⟩ := bindS H
      refine W_callF fn23 (slices_Clone_api_Version_api_Version.con k M196 A0 x103.toNat (List.take x103.toNat a0) t203 hs201 ht204) S rfl rfl (by rintro _ _ _ ⟨_, _, _, rfl⟩; exact (flat_cons (flat_row (fun _ _ _ _ h => h)) flat_nil)) ?_
      rintro _ w208 _ Γ' E' S ⟨A205, c206, rfl, rfl⟩
      replace E := E.trans E'
      clear E'
      refine W_v (.slice A205 t203.length c206) (x_assign rfl) rfl ?_
      refine Wl_nil ?_
      refine tn ?_
      refine Wp_ret ?_
      obtain rfl := Option.some.inj H
      exact ⟨_, _, _, fun w1 e1 => run_resR (vs := [.slice A205 t203.length c206]) (FA.cons (rfl) (FA.nil)), HM, E, S.pick [0] (by decide), ⟨A205, c206, rfl, rfl⟩⟩
    · cases H
/-! ### ferryman/keep.Seen: function 12 -/
def keep_Seen_b0 (a0 : (List api_Version)) (k : Nat) : (Int × Bool) → Unit → Option ((Unit) ⊕ (Int × Int × Bool × Str))
  | (y171, y172), _ => (Option.bind (α := Bool) (if y172 = true then (if 0 ≤ y171 ∧ y171 < (a0.length : Int) then some ((!((rd a0 y171).Tomb))) else none) else some (false)) (fun x196 => (if x196 = true then (if 0 ≤ y171 ∧ y171 < (a0.length : Int) then some (.inr ((rd a0 y171).Writer, (rd a0 y171).TS, (rd a0 y171).Tomb, (rd a0 y171).Value)) else none) else some (.inl ()))))
set_option maxHeartbeats 2000000 in
theorem keep_Seen_b0.mono {a0 : (List api_Version)} {k : Nat} : ∀ x s, OLe (keep_Seen_b0 a0 k x s) (keep_Seen_b0 a0 (k + 1) x s) := by
  intro x s
  unfold keep_Seen_b0
  repeat' (first | with_reducible exact OLe.none | with_reducible exact OLe.some | with_reducible refine OLe.ite ?_ ?_ | with_reducible refine OLe.bind ?_ (fun _ => ?_) | refine OLe.bind ?_ (fun _ => ?_) | refine OLe.ite ?_ ?_ | refine OLe.elim (fun _ => ?_) (fun _ => ?_) | split)
def keep_Seen (k : Nat) (a0 : (List api_Version)) (a1 : Int) : Option (api_Version × Bool) :=
  (Option.bind (keep_till k a0 a1) (fun t10 => (Option.bind (keep_till_1 k a0 a1 (keep_Seen_b0 a0 k) ()) (fun o168o => Sum.elim (fun _ => some ((⟨(0 : Int), (0 : Int), false, ([] : Str)⟩ : api_Version), false)) (fun ⟨x164, x165, x166, x167⟩ => some ((⟨x164, x165, x166, x167⟩ : api_Version), true)) o168o))))
set_option maxHeartbeats 2000000 in
theorem keep_Seen.mono {k : Nat} {a0 : (List api_Version)} {a1 : Int} : OLe (keep_Seen k a0 a1) (keep_Seen (k + 1) a0 a1) := by
  unfold keep_Seen
  repeat' (first | with_reducible exact OLe.none | with_reducible exact OLe.some | with_reducible refine OLe.ite ?_ ?_ | with_reducible refine OLe.bind ?_ (fun _ => ?_) | with_reducible exact keep_Seen_b0.mono | with_reducible exact keep_till.mono | exact keep_till_1.mono (fun _ _ => by first | exact keep_Seen_b0.mono _ _) | refine OLe.bind ?_ (fun _ => ?_) | refine OLe.ite ?_ ?_ | refine OLe.elim (fun _ => ?_) (fun _ => ?_) | split)
set_option maxHeartbeats 1000000 in
set_option maxRecDepth 100000 in
theorem keep_Seen.con (k : Nat) (M : Hp) (A0 : Option Addr) (c0 : Nat) (a0 : (List api_Version)) (a1 : Int) (r : api_Version × Bool) (hr0 : SlR r_api_Version M (.slice A0 a0.length c0) a0) (h : keep_Seen k a0 a1 = some r) : Con Try.prog 12 #[.slice A0 a0.length c0, .int .i64 a1] M [] (fun v M' Γ' => v = .tuple #[.agg #[.int .i64 r.1.Writer, .int .i64 r.1.TS, .bool r.1.Tomb, .string (bs r.1.Value)], .bool r.2] ∧ Γ' = []) := by
  refine con_of_wp Try.func12 rfl Try.ntmps12 Try.results12 rfl ?_
  intro w F rn S hrn
  have E := Ext.refl w
  have HM := Hp.le_refl M
  have H := h
  unfold keep_Seen at H
  refine Wp_seq ?_
  refine Wp_region_lit ?_
  refine W_box S #[.slice A0 a0.length c0] rfl rfl rfl ?_
  intro b1 w2 E' S
  replace E := E.trans E'
  clear E'
  refine W_alloc S #[.int .i64 0, .int .i64 0, .bool false, .string (bs ([] : Str))] ty27 rfl rfl ?_
  intro b4 w5 E' S
  replace E := E.trans E'
  clear E'
  refine W_alloc S #[.bool false] ty4 rfl rfl ?_
  intro b7 w8 E' S
  replace E := E.trans E'
  clear E'
  refine Wl_nil ?_
  refine tn ?_
  refine Wp_seq ?_
  refine Wp_seq ?_
  refine Wp_region_lit ?_
  refine W_v (.slice A0 a0.length c0) (x_load (S.blk 2 rfl) ty22 rfl rfl) rfl ?_
  refine W_v (.int .i64 a1) (x_move rfl) rfl ?_
  obtain ⟨t10, ht11, H⟩ := bindS H
  refine W_callF fn22 (keep_till.con k M A0 c0 a0 a1 t10 hr0 ht11) S rfl rfl (by rintro _ _ _ ⟨_, _, rfl, rfl⟩; exact (flat_cons flat_blk (flat_cons flat_blk flat_nil))) ?_
  rintro _ w16 _ Γ' E' S ⟨b12, b14, rfl, rfl⟩
  replace E := E.trans E'
  clear E'
  replace S : St w16 M F [Blk b12 (.cells #[.slice A0 a0.length c0] 22 (0, 0)), Blk b14 (.cells #[.int .i64 a1] 3 (0, 0)), Blk b7 (.cells #[.bool false] 4 (0, 0)), Blk b4 (.cells #[.int .i64 0, .int .i64 0, .bool false, .string (bs ([] : Str))] 27 (0, 0)), Blk b1 (.cells #[.slice A0 a0.length c0] 22 (0, 0))] := S
  refine Wl_nil ?_
  refine tn ?_
  refine Wp_block ?_
  obtain ⟨o168, o168h, o168H⟩ := bindS H
  clear H
  refine Wp_rangeFunc (σ := Unit) (ε := Int × Int × Bool × Str) (Γi := [Blk b12 (.cells #[.slice A0 a0.length c0] 22 (0, 0)), Blk b14 (.cells #[.int .i64 a1] 3 (0, 0))]) (Γr := []) (Sum.elim (fun _ => AE (ι := Unit) (fun (i : Unit) => [Blk b7 (.cells #[.bool false] 4 (0, 0)), Blk b4 (.cells #[.int .i64 0, .int .i64 0, .bool false, .string (bs ([] : Str))] 27 (0, 0)), Blk b1 (.cells #[.slice A0 a0.length c0] 22 (0, 0))]) (fun _ _ => True) (fun _ _ _ _ _ => trivial)) (fun ⟨x164, x165, x166, x167⟩ => AE (ι := Unit) (fun (i : Unit) => [Blk b7 (.cells #[.bool true] 4 (0, 0)), Blk b4 (.cells #[.int .i64 x164, .int .i64 x165, .bool x166, .string (bs x167)] 27 (0, 0))]) (fun _ _ => True) (fun _ _ _ _ _ => trivial))) (fun _ => Code.ret) fn27 rfl (St.close_ex (φ := (fun _ _ => True)) (hφ := (fun _ _ _ _ _ => trivial)) () trivial (S.pick [2, 3, 4, 0, 1] (by decide))) (by rintro _ _ _ rfl; rfl) (by decide) (keep_till_1.con k M A0 c0 a0 a1 b12 b14 (keep_Seen_b0 a0 k) () o168 hr0 o168h) ?_ ?_
  · intro nn lp M169 F yy vs ss tt w hM170 henc hbd S
    obtain ⟨y171, y172⟩ := yy
    obtain rfl := henc
    replace HM := Hp.le_trans HM hM170
    replace hr0 := SlR.mono hr0 hM170
    replace S : St w M169 F (AE (ι := Unit) (fun (i : Unit) => [Blk b7 (.cells #[.bool false] 4 (0, 0)), Blk b4 (.cells #[.int .i64 0, .int .i64 0, .bool false, .string (bs ([] : Str))] 27 (0, 0)), Blk b1 (.cells #[.slice A0 a0.length c0] 22 (0, 0))]) (fun _ _ => True) (fun _ _ _ _ _ => trivial) :: []) := S
    obtain ⟨_, _, S⟩ := S.open_ex
    replace S : St w M169 F [Blk b7 (.cells #[.bool false] 4 (0, 0)), Blk b4 (.cells #[.int .i64 0, .int .i64 0, .bool false, .string (bs ([] : Str))] 27 (0, 0)), Blk b1 (.cells #[.slice A0 a0.length c0] 22 (0, 0))] := S
    have E := Ext.refl w
    have LE173 := Hp.le_refl M169
    have H := hbd
    rw [keep_Seen_b0.eq_1] at H
    refine Wp_seq ?_
    refine Wp_region_lit ?_
    refine W_v (.int .i64 y171) (x_assign rfl) rfl ?_
    refine Wl_nil ?_
    refine tn ?_
    refine Wp_region_lit ?_
    refine W_v (.bool y172) (x_assign rfl) rfl ?_
    refine Wl_nil ?_
    refine on_n ⟨_, _, LE173, E, S, ?_⟩
    intro w F E3 S
    have E := Ext.refl w
    have LE174 := Hp.le_refl M169
    refine Wp_block ?_
    refine Wp_seq ?_
    refine Wp_region_lit ?_
    refine W_v (.bool y172) (x_move rfl) rfl ?_
    refine W_v (.bool y172) (x_move rfl) rfl ?_
    obtain ⟨o197, o197h, o197H⟩ := bindS H
    clear H
    refine Wl_cutN 7 (fun ρ w' => ∃ (x196 : Bool), (x196) = o197 ∧ Agree ρ [(2, .pointer (some ⟨b1, 0, none⟩)), (4, .pointer (some ⟨b4, 0, none⟩)), (5, .pointer (some ⟨b7, 0, none⟩)), (6, .int .i64 y171), (21, .bool x196)] ∧ Ext w w' ∧ St w' M169 F [Blk b7 (.cells #[.bool false] 4 (0, 0)), Blk b4 (.cells #[.int .i64 0, .int .i64 0, .bool false, .string (bs ([] : Str))] 27 (0, 0)), Blk b1 (.cells #[.slice A0 a0.length c0] 22 (0, 0))]) ?_ ?_
    · have H := o197h
      rcases iteS H with ⟨hb195, H⟩ | ⟨hb195, H⟩
      · skip
        refine W_yes (congrArg some hb195) ?_
        refine W_v (.slice A0 a0.length c0) (x_load (S.blk 2 rfl) ty22 rfl rfl) rfl ?_
        refine W_yes (congrArg some hb195) ?_
        refine W_v (.int .i64 y171) (x_move rfl) rfl ?_
        refine W_yes (congrArg some hb195) ?_
        obtain ⟨⟨p198, p199⟩, H⟩ := chkS H
        obtain ⟨b200, o201, cs202, _, _, ee207, hb203, vs204, hR205, hc206⟩ := SlW.at' hr0 p198 p199
        obtain rfl : vs204 = _ := hR205
        refine W_v (.pointer (some ⟨b200, o201 + y171.toNat * 4, none⟩)) (x_indexAddr Try.underlying22 ty27 (slA ee207) rfl p198 p199) rfl ?_
        refine W_yes (congrArg some hb195) ?_
        refine W_v (.pointer (some ⟨b200, o201 + y171.toNat * 4 + 2, none⟩)) (x_fieldAddr (o := o201 + y171.toNat * 4) (off := 2) Try.underlying27 rfl ty4 rfl rfl) rfl ?_
        refine W_yes (congrArg some hb195) ?_
        refine W_v (.bool ((rd a0 y171).Tomb)) (x_load (S.frz hb203) ty4 rfl (hc206 2 _ rfl)) rfl ?_
        refine W_yes (congrArg some hb195) ?_
        refine W_v (.bool (!((rd a0 y171).Tomb))) (x_not rfl) rfl ?_
        refine W_v (.bool (!((rd a0 y171).Tomb))) (x_pick (k := true) (congrArg Value.bool hb195) rfl) rfl ?_
        refine Wl_nil ?_
        exact ⟨(!((rd a0 y171).Tomb)), Option.some.inj H, ⟨rfl, rfl, rfl, rfl, rfl, trivial⟩, E, S.pick [0, 1, 2] (by decide)⟩
      · skip
        refine W_no (skT hb195) rfl ?_
        refine W_no (skT hb195) rfl ?_
        refine W_no (skT hb195) rfl ?_
        refine W_no (skT hb195) rfl ?_
        refine W_no (skT hb195) rfl ?_
        refine W_no (skT hb195) rfl ?_
        refine W_v (.bool false) (x_pick (k := false) (congrArg Value.bool hb195) rfl) rfl ?_
        refine Wl_nil ?_
        exact ⟨false, Option.some.inj H, ⟨rfl, rfl, rfl, rfl, rfl, trivial⟩, E, S.pick [0, 1, 2] (by decide)⟩
    · clear o197h
      rintro ρ w208 ⟨x196, rfl, hρ, E, S⟩
      rw [agree_eta hρ]
      clear hρ
      have H := o197H
      clear o197H
      refine Wl_nil ?_
      refine tn ?_
      rcases iteS H with ⟨hb209, H⟩ | ⟨hb209, H⟩
      · refine Wp_cond_true (congrArg Value.bool hb209) ?_
        refine Wp_seq ?_
        refine Wp_region_lit ?_
        refine W_v (.slice A0 a0.length c0) (x_load (S.blk 2 rfl) ty22 rfl rfl) rfl ?_
        refine W_v (.int .i64 y171) (x_move rfl) rfl ?_
        obtain ⟨⟨p210, p211⟩, H⟩ := chkS H
        obtain ⟨b212, o213, cs214, _, _, ee219, hb215, vs216, hR217, hc218⟩ := SlW.at' hr0 p210 p211
        obtain rfl : vs216 = _ := hR217
        refine W_v (.pointer (some ⟨b212, o213 + y171.toNat * 4, none⟩)) (x_indexAddr Try.underlying22 ty27 (slA ee219) rfl p210 p211) rfl ?_
        refine W_v (.agg #[.int .i64 ((rd a0 y171).Writer), .int .i64 ((rd a0 y171).TS), .bool ((rd a0 y171).Tomb), .string (bs ((rd a0 y171).Value))]) (x_loadA (S.frz hb215) ty27 rfl (sub_el hc218 0 rfl) rfl rfl) rfl ?_
        refine W_store S 1 rfl ty27 rfl rfl [.int .i64 ((rd a0 y171).Writer), .int .i64 ((rd a0 y171).TS), .bool ((rd a0 y171).Tomb), .string (bs ((rd a0 y171).Value))] rfl rfl rfl #[.int .i64 ((rd a0 y171).Writer), .int .i64 ((rd a0 y171).TS), .bool ((rd a0 y171).Tomb), .string (bs ((rd a0 y171).Value))] rfl rfl ?_
        intro w220 E' S
        replace E := E.trans E'
        clear E'
        refine W_store S 0 rfl ty4 rfl rfl [.bool true] rfl rfl rfl #[.bool true] rfl rfl ?_
        intro w221 E' S
        replace E := E.trans E'
        clear E'
        refine Wl_nil ?_
        refine tn ?_
        refine Wp_ret ?_
        refine br (?_)
        obtain rfl := Option.some.inj H
        exact endB_mk rfl LE174 E (St.close_ex (φ := (fun _ _ => True)) (hφ := (fun _ _ _ _ _ => trivial)) () trivial (S.pick [0, 1] (by decide)))
      · refine Wp_cond_false (congrArg Value.bool hb209) ?_
        refine Wp_skip ?_
        refine bn ?_
        obtain rfl := Option.some.inj H
        exact endB_mk trivial LE174 E (St.close_ex (φ := (fun _ _ => True)) (hφ := (fun _ _ _ _ _ => trivial)) () trivial (S.pick [0, 1, 2] (by decide)))
  · intro w222 M223 Γ' hM224 E' hΨ S
    obtain rfl : Γ' = _ := hΨ
    replace E := E.trans E'
    clear E'
    replace HM := Hp.le_trans HM hM224
    replace hr0 := SlR.mono hr0 hM224
    have H := o168H
    clear o168H
    rcases o168 with _ | ⟨x164, x165, x166, x167⟩
    · replace H := elimL H
      refine afterR_l ?_
      replace S : St w222 M223 F (AE (ι := Unit) (fun (i : Unit) => [Blk b7 (.cells #[.bool false] 4 (0, 0)), Blk b4 (.cells #[.int .i64 0, .int .i64 0, .bool false, .string (bs ([] : Str))] 27 (0, 0)), Blk b1 (.cells #[.slice A0 a0.length c0] 22 (0, 0))]) (fun _ _ => True) (fun _ _ _ _ _ => trivial) :: [Blk b12 (.cells #[.slice A0 a0.length c0] 22 (0, 0)), Blk b14 (.cells #[.int .i64 a1] 3 (0, 0))]) := S
      obtain ⟨_, _, S⟩ := S.open_ex
      replace S : St w222 M223 F [Blk b7 (.cells #[.bool false] 4 (0, 0)), Blk b4 (.cells #[.int .i64 0, .int .i64 0, .bool false, .string (bs ([] : Str))] 27 (0, 0)), Blk b1 (.cells #[.slice A0 a0.length c0] 22 (0, 0)), Blk b12 (.cells #[.slice A0 a0.length c0] 22 (0, 0)), Blk b14 (.cells #[.int .i64 a1] 3 (0, 0))] := S
      refine bn ?_
      refine tn ?_
      refine Wp_seq ?_
      refine Wp_region_lit ?_
      refine W_v (.agg #[.int .i64 0, .int .i64 0, .bool false, .string (bs ([] : Str))]) (x_build2 (pl := [(0, 1), (1, 1), (2, 1), (3, 1)]) #[.int .i64 0, .int .i64 0, .bool false, .string (bs ([] : Str))] Try.underlying27 ty27 (by kernel_rfl) rfl (by kernel_rfl)) rfl ?_
      refine W_store S 1 rfl ty27 rfl rfl [.int .i64 0, .int .i64 0, .bool false, .string (bs ([] : Str))] rfl rfl rfl #[.int .i64 0, .int .i64 0, .bool false, .string (bs ([] : Str))] rfl rfl ?_
      intro w225 E' S
      replace E := E.trans E'
      clear E'
      refine W_store S 0 rfl ty4 rfl rfl [.bool false] rfl rfl rfl #[.bool false] rfl rfl ?_
      intro w226 E' S
      replace E := E.trans E'
      clear E'
      refine Wl_nil ?_
      refine tn ?_
      refine Wp_ret ?_
      obtain rfl := Option.some.inj H
      exact ⟨_, _, _, fun w1 e1 => run_resR (vs := [.agg #[.int .i64 0, .int .i64 0, .bool false, .string (bs ([] : Str))], .bool false]) (FA.cons (⟨_, rfl, run_loadVar_agg ty27 ((S.of_eq e1).blk 1 rfl) (sub_of_extract rfl) rfl (by decide)⟩) (FA.cons (⟨_, rfl, run_loadVar_one ty4 ((S.of_eq e1).blk 0 rfl) rfl⟩) (FA.nil))), HM, E, S.pick [] (by decide), ⟨rfl, rfl⟩⟩
    · replace H := elimR H
      refine afterR_r ?_
      replace S : St w222 M223 F (AE (ι := Unit) (fun (i : Unit) => [Blk b7 (.cells #[.bool true] 4 (0, 0)), Blk b4 (.cells #[.int .i64 x164, .int .i64 x165, .bool x166, .string (bs x167)] 27 (0, 0))]) (fun _ _ => True) (fun _ _ _ _ _ => trivial) :: [Blk b12 (.cells #[.slice A0 a0.length c0] 22 (0, 0)), Blk b14 (.cells #[.int .i64 a1] 3 (0, 0))]) := S
      obtain ⟨_, _, S⟩ := S.open_ex
      replace S : St w222 M223 F [Blk b7 (.cells #[.bool true] 4 (0, 0)), Blk b4 (.cells #[.int .i64 x164, .int .i64 x165, .bool x166, .string (bs x167)] 27 (0, 0)), Blk b12 (.cells #[.slice A0 a0.length c0] 22 (0, 0)), Blk b14 (.cells #[.int .i64 a1] 3 (0, 0))] := S
      refine Wp_ret ?_
      refine br (tr (?_))
      obtain rfl := Option.some.inj H
      exact ⟨_, _, _, fun w1 e1 => run_resR (vs := [.agg #[.int .i64 x164, .int .i64 x165, .bool x166, .string (bs x167)], .bool true]) (FA.cons (⟨_, rfl, run_loadVar_agg ty27 ((S.of_eq e1).blk 1 rfl) (sub_of_extract rfl) rfl (by decide)⟩) (FA.cons (⟨_, rfl, run_loadVar_one ty4 ((S.of_eq e1).blk 0 rfl) rfl⟩) (FA.nil))), HM, E, S.pick [] (by decide), ⟨rfl, rfl⟩⟩
/-! ### ferryman/keep.Clash: function 13 -/
def keep_Clash (k : Nat) (a0 : (List api_Version)) (a1 : Int) : Option (Bool) :=
  (Option.bind (α := Bool) (if (decide ((a0.length : Int) > (0 : Int))) = true then (if 0 ≤ (0 : Int) ∧ (0 : Int) < (a0.length : Int) then some ((decide ((rd a0 (0 : Int)).TS > a1))) else none) else some (false)) (fun x22 => some x22))
set_option maxHeartbeats 2000000 in
theorem keep_Clash.mono {k : Nat} {a0 : (List api_Version)} {a1 : Int} : OLe (keep_Clash k a0 a1) (keep_Clash (k + 1) a0 a1) := by
  unfold keep_Clash
  repeat' (first | with_reducible exact OLe.none | with_reducible exact OLe.some | with_reducible refine OLe.ite ?_ ?_ | with_reducible refine OLe.bind ?_ (fun _ => ?_) | refine OLe.bind ?_ (fun _ => ?_) | refine OLe.ite ?_ ?_ | refine OLe.elim (fun _ => ?_) (fun _ => ?_) | split)
set_option maxHeartbeats 1000000 in
set_option maxRecDepth 100000 in
theorem keep_Clash.con (k : Nat) (M : Hp) (A0 : Option Addr) (c0 : Nat) (a0 : (List api_Version)) (a1 : Int) (r : Bool) (hr0 : SlR r_api_Version M (.slice A0 a0.length c0) a0) (h : keep_Clash k a0 a1 = some r) : Con Try.prog 13 #[.slice A0 a0.length c0, .int .i64 a1] M [] (fun v M' Γ' => v = .bool r ∧ Γ' = []) := by
  refine con_of_wp Try.func13 rfl Try.ntmps13 Try.results13 rfl ?_
  intro w F rn S hrn
  have E := Ext.refl w
  have HM := Hp.le_refl M
  have H := h
  unfold keep_Clash at H
  refine Wp_seq ?_
  refine Wp_region_lit ?_
  refine W_v (.bool false) (x_assign rfl) rfl ?_
  refine Wl_nil ?_
  refine tn ?_
  refine Wp_seq ?_
  refine Wp_region_lit ?_
  refine W_v (.slice A0 a0.length c0) (x_move rfl) rfl ?_
  refine W_v (.int .i64 (a0.length : Int)) (x_len_slice (n := a0.length) Try.underlying22 rfl) rfl ?_
  refine W_v (.bool (decide ((a0.length : Int) > (0 : Int)))) (x_ibin rfl rfl rfl rfl) rfl ?_
  refine W_v (.bool (decide ((a0.length : Int) > (0 : Int)))) (x_move rfl) rfl ?_
  obtain ⟨o23, o23h, o23H⟩ := bindS H
  clear H
  refine Wl_cutN 7 (fun ρ w' => ∃ (x22 : Bool), (x22) = o23 ∧ Agree ρ [(15, .bool x22)] ∧ Ext w w' ∧ St w' M F []) ?_ ?_
  · have H := o23h
    rcases iteS H with ⟨hb21, H⟩ | ⟨hb21, H⟩
    · skip
      refine W_yes (congrArg some hb21) ?_
      refine W_v (.slice A0 a0.length c0) (x_move rfl) rfl ?_
      refine W_yes (congrArg some hb21) ?_
      obtain ⟨⟨p24, p25⟩, H⟩ := chkS H
      obtain ⟨b26, o27, cs28, _, _, ee33, hb29, vs30, hR31, hc32⟩ := SlW.at' hr0 p24 p25
      obtain rfl : vs30 = _ := hR31
      refine W_v (.pointer (some ⟨b26, o27 + (0 : Int).toNat * 4, none⟩)) (x_indexAddr Try.underlying22 ty27 (slA ee33) rfl p24 p25) rfl ?_
      refine W_yes (congrArg some hb21) ?_
      refine W_v (.pointer (some ⟨b26, o27 + (0 : Int).toNat * 4 + 1, none⟩)) (x_fieldAddr (o := o27 + (0 : Int).toNat * 4) (off := 1) Try.underlying27 rfl ty3 rfl rfl) rfl ?_
      refine W_yes (congrArg some hb21) ?_
      refine W_v (.int .i64 ((rd a0 (0 : Int)).TS)) (x_load (S.frz hb29) ty3 rfl (hc32 1 _ rfl)) rfl ?_
      refine W_yes (congrArg some hb21) ?_
      refine W_v (.int .i64 a1) (x_move rfl) rfl ?_
      refine W_yes (congrArg some hb21) ?_
      refine W_v (.bool (decide ((rd a0 (0 : Int)).TS > a1))) (x_ibin rfl rfl rfl rfl) rfl ?_
      refine W_v (.bool (decide ((rd a0 (0 : Int)).TS > a1))) (x_pick (k := true) (congrArg Value.bool hb21) rfl) rfl ?_
      refine Wl_nil ?_
      exact ⟨(decide ((rd a0 (0 : Int)).TS > a1)), Option.some.inj H, ⟨rfl, trivial⟩, E, S.pick [] (by decide)⟩
    · skip
      refine W_no (skT hb21) rfl ?_
      refine W_no (skT hb21) rfl ?_
      refine W_no (skT hb21) rfl ?_
      refine W_no (skT hb21) rfl ?_
      refine W_no (skT hb21) rfl ?_
      refine W_no (skT hb21) rfl ?_
      refine W_v (.bool false) (x_pick (k := false) (congrArg Value.bool hb21) rfl) rfl ?_
      refine Wl_nil ?_
      exact ⟨false, Option.some.inj H, ⟨rfl, trivial⟩, E, S.pick [] (by decide)⟩
  · clear o23h
    rintro ρ w34 ⟨x22, rfl, hρ, E, S⟩
    rw [agree_eta hρ]
    clear hρ
    have H := o23H
    clear o23H
    refine W_v (.bool x22) (x_assign rfl) rfl ?_
    refine Wl_nil ?_
    refine tn ?_
    refine Wp_ret ?_
    obtain rfl := Option.some.inj H
    exact ⟨_, _, _, fun w1 e1 => run_resR (vs := [.bool x22]) (FA.cons (rfl) (FA.nil)), HM, E, S.pick [] (by decide), ⟨rfl, rfl⟩⟩
/-! ### ferryman/ferrymanref11.Same: function 15 -/
def ferrymanref11_Same_l0 (a0 : (List api_Version)) (a1 : (List api_Version)) : Nat → Int → Option ((Bool) ⊕ (Unit))
  | 0, _ => none
  | k + 1, x92 => (if (decide (x92 < (a0.length : Int))) = true then (if 0 ≤ x92 ∧ x92 < (a0.length : Int) then (if 0 ≤ x92 ∧ x92 < (a1.length : Int) then (if (!(((rd a0 x92).Writer == (rd a1 x92).Writer) && (((rd a0 x92).TS == (rd a1 x92).TS) && (((rd a0 x92).Tomb == (rd a1 x92).Tomb) && ((rd a0 x92).Value == (rd a1 x92).Value))))) = true then some (.inl false) else ferrymanref11_Same_l0 a0 a1 k (IntKind.i64.wrap (x92 + (1 : Int)))) else none) else none) else some (.inr ()))
set_option maxHeartbeats 2000000 in
theorem ferrymanref11_Same_l0.mono {a0 : (List api_Version)} {a1 : (List api_Version)} : ∀ {k : Nat} {x0}, OLe (ferrymanref11_Same_l0 a0 a1 k x0) (ferrymanref11_Same_l0 a0 a1 (k + 1) x0) := by
  intro k
  induction k with
  | zero => intros; exact OLe.none
  | succ k ih =>
    intros
    rw [ferrymanref11_Same_l0.eq_2, ferrymanref11_Same_l0.eq_2]
    repeat' (first | with_reducible exact OLe.none | with_reducible exact OLe.some | with_reducible refine OLe.ite ?_ ?_ | with_reducible refine OLe.bind ?_ (fun _ => ?_) | exact ih | refine OLe.bind ?_ (fun _ => ?_) | refine OLe.ite ?_ ?_ | refine OLe.elim (fun _ => ?_) (fun _ => ?_) | split)
def ferrymanref11_Same (k : Nat) (a0 : (List api_Version)) (a1 : (List api_Version)) : Option (Bool) :=
  (if ((a0.length : Int) != (a1.length : Int)) = true then some false else (Option.bind (ferrymanref11_Same_l0 a0 a1 k (0 : Int)) (fun o137o => Sum.elim (fun r' => some r') (fun _ => some true) o137o)))
set_option maxHeartbeats 2000000 in
theorem ferrymanref11_Same.mono {k : Nat} {a0 : (List api_Version)} {a1 : (List api_Version)} : OLe (ferrymanref11_Same k a0 a1) (ferrymanref11_Same (k + 1) a0 a1) := by
  unfold ferrymanref11_Same
  repeat' (first | with_reducible exact OLe.none | with_reducible exact OLe.some | with_reducible refine OLe.ite ?_ ?_ | with_reducible refine OLe.bind ?_ (fun _ => ?_) | with_reducible exact ferrymanref11_Same_l0.mono | refine OLe.bind ?_ (fun _ => ?_) | refine OLe.ite ?_ ?_ | refine OLe.elim (fun _ => ?_) (fun _ => ?_) | split)
set_option maxHeartbeats 1000000 in
set_option maxRecDepth 100000 in
theorem ferrymanref11_Same.con (k : Nat) (M : Hp) (A0 : Option Addr) (c0 : Nat) (a0 : (List api_Version)) (A1 : Option Addr) (c1 : Nat) (a1 : (List api_Version)) (r : Bool) (hr0 : SlR r_api_Version M (.slice A0 a0.length c0) a0) (hr1 : SlR r_api_Version M (.slice A1 a1.length c1) a1) (h : ferrymanref11_Same k a0 a1 = some r) : Con Try.prog 15 #[.slice A0 a0.length c0, .slice A1 a1.length c1] M [] (fun v M' Γ' => v = .bool r ∧ Γ' = []) := by
  refine con_of_wp Try.func15 rfl Try.ntmps15 Try.results15 rfl ?_
  intro w F rn S hrn
  have E := Ext.refl w
  have HM := Hp.le_refl M
  have H := h
  unfold ferrymanref11_Same at H
  refine Wp_seq ?_
  refine Wp_region_lit ?_
  refine W_v (.bool false) (x_assign rfl) rfl ?_
  refine Wl_nil ?_
  refine tn ?_
  refine Wp_seq ?_
  refine Wp_seq ?_
  refine Wp_region_lit ?_
  refine W_v (.slice A0 a0.length c0) (x_move rfl) rfl ?_
  refine W_v (.int .i64 (a0.length : Int)) (x_len_slice (n := a0.length) Try.underlying22 rfl) rfl ?_
  refine W_v (.slice A1 a1.length c1) (x_move rfl) rfl ?_
  refine W_v (.int .i64 (a1.length : Int)) (x_len_slice (n := a1.length) Try.underlying22 rfl) rfl ?_
  refine W_v (.bool ((a0.length : Int) != (a1.length : Int))) (x_ibin rfl rfl rfl rfl) rfl ?_
  refine Wl_nil ?_
  refine tn ?_
  rcases iteS H with ⟨hb1, H⟩ | ⟨hb1, H⟩
  · refine Wp_cond_true (congrArg Value.bool hb1) ?_
    refine Wp_seq ?_
    refine Wp_region_lit ?_
    refine W_v (.bool false) (x_assign rfl) rfl ?_
    refine Wl_nil ?_
    refine tn ?_
    refine Wp_ret ?_
    refine tr (?_)
    obtain rfl := Option.some.inj H
    exact ⟨_, _, _, fun w1 e1 => run_resR (vs := [.bool false]) (FA.cons (rfl) (FA.nil)), HM, E, S.pick [] (by decide), ⟨rfl, rfl⟩⟩
  · refine Wp_cond_false (congrArg Value.bool hb1) ?_
    refine Wp_skip ?_
    refine tn ?_
    refine Wp_seq ?_
    refine Wp_seq ?_
    refine Wp_region_lit ?_
    refine W_v (.int .i64 0) (x_assign rfl) rfl ?_
    refine Wl_nil ?_
    refine tn ?_
    obtain ⟨o137, o137h, o137H⟩ := bindS H
    clear H
    refine Wp_blockJ (fun ρ w' => .inr () = o137 ∧ Agree ρ [] ∧ Ext w w' ∧ St w' M F []) ?_ ?_
    · skip
      refine Wp_loop (fun n ρ w' => ∃ (x92 : Int), ferrymanref11_Same_l0 a0 a1 n x92 = some o137 ∧ Agree ρ [(0, .slice A0 a0.length c0), (1, .slice A1 a1.length c1), (5, .int .i64 x92)] ∧ Ext w w' ∧ St w' M F []) k ?_ ?_
      · skip
        exact ⟨(0 : Int), o137h, ⟨rfl, rfl, rfl, trivial⟩, E, S.pick [] (by decide)⟩
      · intro n
        rintro ρ w138 ⟨x92, H, hρ, E, S⟩
        rw [agree_eta hρ]
        clear hρ
        cases n with
        | zero => cases H
        | succ k =>
          rw [ferrymanref11_Same_l0.eq_2] at H
          refine Wp_seq ?_
          refine Wp_seq ?_
          refine Wp_region_lit ?_
          refine W_v (.int .i64 x92) (x_move rfl) rfl ?_
          refine W_v (.slice A0 a0.length c0) (x_move rfl) rfl ?_
          refine W_v (.int .i64 (a0.length : Int)) (x_len_slice (n := a0.length) Try.underlying22 rfl) rfl ?_
          refine W_v (.bool (decide (x92 < (a0.length : Int)))) (x_ibin rfl rfl rfl rfl) rfl ?_
          refine Wl_nil ?_
          refine tn ?_
          rcases iteS H with ⟨hb139, H⟩ | ⟨hb139, H⟩
          · refine Wp_cond_true (congrArg Value.bool hb139) ?_
            refine Wp_skip ?_
            refine tn ?_
            refine Wp_seq ?_
            refine Wp_block ?_
            refine Wp_seq ?_
            refine Wp_region_any (S := fun w' => ∃ Mx, M.le Mx ∧ St w' Mx F []) mixed ?_
            intro w160 hw161 E'
            replace S := S.heap hw161
            replace E := E.trans E'
            clear E'
            refine Wa_take (i := 0) rfl (by kernel_rfl) rfl rfl (.slice A0 a0.length c0) rfl (fun w' h' => x_move rfl) (⟨M, Hp.le_refl M, S.pick [] (by decide)⟩) ?_
            refine Wa_take (i := 1) rfl (by kernel_rfl) rfl rfl (.int .i64 x92) rfl (fun w' h' => x_move rfl) (⟨M, Hp.le_refl M, S.pick [] (by decide)⟩) ?_
            obtain ⟨⟨p162, p163⟩, H⟩ := chkS H
            obtain ⟨b164, o165, cs166, _, _, ee171, hb167, vs168, hR169, hc170⟩ := SlW.at' hr0 p162 p163
            obtain rfl : vs168 = _ := hR169
            refine Wa_take (i := 2) rfl (by kernel_rfl) rfl rfl (.pointer (some ⟨b164, o165 + x92.toNat * 4, none⟩)) rfl (fun w' h' => x_indexAddr Try.underlying22 ty27 (slA ee171) rfl p162 p163) (⟨M, Hp.le_refl M, S.pick [] (by decide)⟩) ?_
            refine Wa_take (i := 3) rfl (by kernel_rfl) rfl rfl (.agg #[.int .i64 ((rd a0 x92).Writer), .int .i64 ((rd a0 x92).TS), .bool ((rd a0 x92).Tomb), .string (bs ((rd a0 x92).Value))]) rfl (fun w' h' => x_loadA (cls_frz h' hb167) ty27 rfl (sub_el hc170 0 rfl) rfl rfl) (⟨M, Hp.le_refl M, S.pick [] (by decide)⟩) ?_
            refine Wa_take (i := 4) rfl (by kernel_rfl) rfl rfl (.slice A1 a1.length c1) rfl (fun w' h' => x_move rfl) (⟨M, Hp.le_refl M, S.pick [] (by decide)⟩) ?_
            refine Wa_take (i := 5) rfl (by kernel_rfl) rfl rfl (.int .i64 x92) rfl (fun w' h' => x_move rfl) (⟨M, Hp.le_refl M, S.pick [] (by decide)⟩) ?_
            obtain ⟨⟨p172, p173⟩, H⟩ := chkS H
            obtain ⟨b174, o175, cs176, _, _, ee181, hb177, vs178, hR179, hc180⟩ := SlW.at' hr1 p172 p173
            obtain rfl : vs178 = _ := hR179
            refine Wa_take (i := 6) rfl (by kernel_rfl) rfl rfl (.pointer (some ⟨b174, o175 + x92.toNat * 4, none⟩)) rfl (fun w' h' => x_indexAddr Try.underlying22 ty27 (slA ee181) rfl p172 p173) (⟨M, Hp.le_refl M, S.pick [] (by decide)⟩) ?_
            refine Wa_take (i := 7) rfl (by kernel_rfl) rfl rfl (.agg #[.int .i64 ((rd a1 x92).Writer), .int .i64 ((rd a1 x92).TS), .bool ((rd a1 x92).Tomb), .string (bs ((rd a1 x92).Value))]) rfl (fun w' h' => x_loadA (cls_frz h' hb177) ty27 rfl (sub_el hc180 0 rfl) rfl rfl) (⟨M, Hp.le_refl M, S.pick [] (by decide)⟩) ?_
            refine Wa_take (i := 8) rfl (by kernel_rfl) rfl rfl (.bool (!(((rd a0 x92).Writer == (rd a1 x92).Writer) && (((rd a0 x92).TS == (rd a1 x92).TS) && (((rd a0 x92).Tomb == (rd a1 x92).Tomb) && ((rd a0 x92).Value == (rd a1 x92).Value)))))) rfl (fun w' h' => x_ne_of (en27 _ _ _ _) rfl (eq27 _ ((rd a0 x92).Writer) ((rd a0 x92).TS) ((rd a0 x92).Tomb) ((rd a0 x92).Value) ((rd a1 x92).Writer) ((rd a1 x92).TS) ((rd a1 x92).Tomb) ((rd a1 x92).Value))) (⟨M, Hp.le_refl M, S.pick [] (by decide)⟩) ?_
            refine Wa_done (by kernel_rfl) ?_
            refine tn ?_
            rcases iteS H with ⟨hb182, H⟩ | ⟨hb182, H⟩
            · refine Wp_cond_true (congrArg Value.bool hb182) ?_
              refine Wp_seq ?_
              refine Wp_region_lit ?_
              refine W_v (.bool false) (x_assign rfl) rfl ?_
              refine Wl_nil ?_
              refine tn ?_
              refine Wp_ret ?_
              refine br (tr (tr (br (tr (tr (?_))))))
              obtain rfl := Option.some.inj H
              have H := o137H
              replace H := elimL H
              obtain rfl := Option.some.inj H
              exact ⟨_, _, _, fun w1 e1 => run_resR (vs := [.bool false]) (FA.cons (rfl) (FA.nil)), HM, E, S.pick [] (by decide), ⟨rfl, rfl⟩⟩
            · refine Wp_cond_false (congrArg Value.bool hb182) ?_
              refine Wp_skip ?_
              refine bn ?_
              refine tn ?_
              refine Wp_region_lit ?_
              refine W_v (.int .i64 x92) (x_move rfl) rfl ?_
              refine W_v (.int .i64 (IntKind.i64.wrap (x92 + (1 : Int)))) (x_ibin rfl rfl rfl rfl) rfl ?_
              refine W_v (.int .i64 (IntKind.i64.wrap (x92 + (1 : Int)))) (x_assign rfl) rfl ?_
              refine Wl_nil ?_
              refine tn ?_
              exact ⟨k, Nat.lt_succ_self k, ⟨(IntKind.i64.wrap (x92 + (1 : Int))), H, ⟨rfl, rfl, rfl, trivial⟩, E, S.pick [] (by decide)⟩⟩
          · refine Wp_cond_false (congrArg Value.bool hb139) ?_
            refine Wp_exit ?_
            refine tx (tx (bsm (?_)))
            refine tn ?_
            exact ⟨Option.some.inj H, trivial, E, S.pick [] (by decide)⟩
    · clear o137h
      rintro ρ w183 ⟨rfl, hρ, E, S⟩
      rw [agree_eta hρ]
      clear hρ
      have H := o137H
      clear o137H
      replace H := elimR H
      refine tn ?_
      refine Wp_seq ?_
      refine Wp_region_lit ?_
      refine W_v (.bool true) (x_assign rfl) rfl ?_
      refine Wl_nil ?_
      refine tn ?_
      refine Wp_ret ?_
      obtain rfl := Option.some.inj H
      exact ⟨_, _, _, fun w1 e1 => run_resR (vs := [.bool true]) (FA.cons (rfl) (FA.nil)), HM, E, S.pick [] (by decide), ⟨rfl, rfl⟩⟩
/-! ### ferryman/ferrymanlaw11.some: function 16 -/
def ferrymanlaw11_some (k : Nat)  : Option ((List api_Version)) :=
  some ([(⟨(4 : Int), (9 : Int), false, ([98] : Str)⟩ : api_Version), (⟨(3 : Int), (6 : Int), true, ([] : Str)⟩ : api_Version), (⟨(2 : Int), (4 : Int), false, ([97] : Str)⟩ : api_Version), (⟨(1 : Int), (2 : Int), false, ([99] : Str)⟩ : api_Version)] : List api_Version)
set_option maxHeartbeats 2000000 in
theorem ferrymanlaw11_some.mono {k : Nat}  : OLe (ferrymanlaw11_some k ) (ferrymanlaw11_some (k + 1) ) := by
  unfold ferrymanlaw11_some
  repeat' (first | with_reducible exact OLe.none | with_reducible exact OLe.some | with_reducible refine OLe.ite ?_ ?_ | with_reducible refine OLe.bind ?_ (fun _ => ?_) | refine OLe.bind ?_ (fun _ => ?_) | refine OLe.ite ?_ ?_ | refine OLe.elim (fun _ => ?_) (fun _ => ?_) | split)
set_option maxHeartbeats 1000000 in
set_option maxRecDepth 100000 in
theorem ferrymanlaw11_some.con (k : Nat) (M : Hp)  (r : (List api_Version))  (h : ferrymanlaw11_some k  = some r) : Con Try.prog 16 #[] M [] (fun v M' Γ' => ∃ (A0 : Option Addr) (c0 : Nat), v = .slice A0 r.length c0 ∧ Γ' = [Row r_api_Version 27 (.slice A0 r.length c0) r]) := by
  refine con_of_wp Try.func16 rfl Try.ntmps16 Try.results16 rfl ?_
  intro w F rn S hrn
  have E := Ext.refl w
  have HM := Hp.le_refl M
  have H := h
  unfold ferrymanlaw11_some at H
  refine Wp_seq ?_
  refine Wp_region_lit ?_
  refine W_v (.slice none 0 0) (x_assign rfl) rfl ?_
  refine Wl_nil ?_
  refine tn ?_
  refine Wp_seq ?_
  refine Wp_region_lit ?_
  refine W_v (.agg #[.int .i64 4, .int .i64 9, .bool false, .string (bs ([98] : Str))]) (x_build2 (pl := [(0, 1), (1, 1), (2, 1), (3, 1)]) #[.int .i64 4, .int .i64 9, .bool false, .string (bs ([98] : Str))] Try.underlying27 ty27 (by kernel_rfl) rfl (by kernel_rfl)) rfl ?_
  refine W_v (.agg #[.int .i64 3, .int .i64 6, .bool true, .string (bs ([] : Str))]) (x_build2 (pl := [(0, 1), (1, 1), (2, 1), (3, 1)]) #[.int .i64 3, .int .i64 6, .bool true, .string (bs ([] : Str))] Try.underlying27 ty27 (by kernel_rfl) rfl (by kernel_rfl)) rfl ?_
  refine W_v (.agg #[.int .i64 2, .int .i64 4, .bool false, .string (bs ([97] : Str))]) (x_build2 (pl := [(0, 1), (1, 1), (2, 1), (3, 1)]) #[.int .i64 2, .int .i64 4, .bool false, .string (bs ([97] : Str))] Try.underlying27 ty27 (by kernel_rfl) rfl (by kernel_rfl)) rfl ?_
  refine W_v (.agg #[.int .i64 1, .int .i64 2, .bool false, .string (bs ([99] : Str))]) (x_build2 (pl := [(0, 1), (1, 1), (2, 1), (3, 1)]) #[.int .i64 1, .int .i64 2, .bool false, .string (bs ([99] : Str))] Try.underlying27 ty27 (by kernel_rfl) rfl (by kernel_rfl)) rfl ?_
  refine W_bslice S #[.int .i64 4, .int .i64 9, .bool false, .string (bs ([98] : Str)), .int .i64 3, .int .i64 6, .bool true, .string (bs ([] : Str)), .int .i64 2, .int .i64 4, .bool false, .string (bs ([97] : Str)), .int .i64 1, .int .i64 2, .bool false, .string (bs ([99] : Str))] Try.underlying22 ty27 rfl rfl #[.int .i64 0, .int .i64 0, .bool false, .string (bs ([] : Str)), .int .i64 0, .int .i64 0, .bool false, .string (bs ([] : Str)), .int .i64 0, .int .i64 0, .bool false, .string (bs ([] : Str)), .int .i64 0, .int .i64 0, .bool false, .string (bs ([] : Str))] (by kernel_rfl) (by kernel_rfl) rfl ?_
  intro b1 w2 E' S
  replace E := E.trans E'
  clear E'
  replace S := S.blk_row (r := r_api_Version) (l := ([(⟨(4 : Int), (9 : Int), false, ([98] : Str)⟩ : api_Version), (⟨(3 : Int), (6 : Int), true, ([] : Str)⟩ : api_Version), (⟨(2 : Int), (4 : Int), false, ([97] : Str)⟩ : api_Version), (⟨(1 : Int), (2 : Int), false, ([99] : Str)⟩ : api_Version)] : List api_Version)) 0 rfl 4 (Nat.le_refl 4) rfl (Cells.cons (vs := [.int .i64 4, .int .i64 9, .bool false, .string (bs ([98] : Str))]) (rfl) (Cells.cons (vs := [.int .i64 3, .int .i64 6, .bool true, .string (bs ([] : Str))]) (rfl) (Cells.cons (vs := [.int .i64 2, .int .i64 4, .bool false, .string (bs ([97] : Str))]) (rfl) (Cells.cons (vs := [.int .i64 1, .int .i64 2, .bool false, .string (bs ([99] : Str))]) (rfl) Cells.nil))))
  refine W_v (.slice (some ⟨b1, 0, none⟩) ([(⟨(4 : Int), (9 : Int), false, ([98] : Str)⟩ : api_Version), (⟨(3 : Int), (6 : Int), true, ([] : Str)⟩ : api_Version), (⟨(2 : Int), (4 : Int), false, ([97] : Str)⟩ : api_Version), (⟨(1 : Int), (2 : Int), false, ([99] : Str)⟩ : api_Version)] : List api_Version).length 4) (x_assign rfl) rfl ?_
  refine Wl_nil ?_
  refine tn ?_
  refine Wp_ret ?_
  obtain rfl := Option.some.inj H
  exact ⟨_, _, _, fun w1 e1 => run_resR (vs := [.slice (some ⟨b1, 0, none⟩) ([(⟨(4 : Int), (9 : Int), false, ([98] : Str)⟩ : api_Version), (⟨(3 : Int), (6 : Int), true, ([] : Str)⟩ : api_Version), (⟨(2 : Int), (4 : Int), false, ([97] : Str)⟩ : api_Version), (⟨(1 : Int), (2 : Int), false, ([99] : Str)⟩ : api_Version)] : List api_Version).length 4]) (FA.cons (rfl) (FA.nil)), HM, E, S.pick [0] (by decide), ⟨(some ⟨b1, 0, none⟩), 4, rfl, rfl⟩⟩
/-! ### ferryman/ferrymanlaw11.awake: function 10 -/
def ferrymanlaw11_awake (k : Nat)  : Option (Bool) :=
  (Option.bind (ferrymanlaw11_some k ) (fun t1 => (Option.bind (keep_Seen k t1 (8 : Int)) (fun t7 => (Option.bind (keep_Seen k t1 (5 : Int)) (fun t14 => (Option.bind (keep_Seen k t1 (1 : Int)) (fun t21 => (if 0 ≤ (1 : Int) ∧ (1 : Int) ≤ (t1.length : Int) then (Option.bind (keep_Kept k t1 (7 : Int)) (fun t395 => (Option.bind (ferrymanref11_Same k t395 (List.take (1 : Int).toNat t1)) (fun t401 => (Option.bind (α := Bool) (if t401 = true then (if 0 ≤ (3 : Int) ∧ (3 : Int) ≤ (t1.length : Int) then (Option.bind (keep_Kept k t1 (5 : Int)) (fun t558 => (Option.bind (ferrymanref11_Same k t558 (List.take (3 : Int).toNat t1)) (fun t564 => some (t564))))) else none) else some (false)) (fun x419 => (Option.bind (α := Bool) (if x419 = true then (Option.bind (keep_Kept k t1 (1 : Int)) (fun t544 => (Option.bind (ferrymanref11_Same k t544 t1) (fun t550 => some (t550))))) else some (false)) (fun x432 => (Option.bind (α := Bool) (if x432 = true then (if 0 ≤ (1 : Int) ∧ (1 : Int) ≤ (t1.length : Int) then (Option.bind (keep_Kept k t1 (9 : Int)) (fun t535 => (Option.bind (ferrymanref11_Same k t535 (List.take (1 : Int).toNat t1)) (fun t541 => some (t541))))) else none) else some (false)) (fun x450 => (Option.bind (α := Bool) (if ((x450 && (!t7.2)) && t14.2) = true then (if 0 ≤ (2 : Int) ∧ (2 : Int) < (t1.length : Int) then some (((t14.1.Writer == (rd t1 (2 : Int)).Writer) && ((t14.1.TS == (rd t1 (2 : Int)).TS) && ((t14.1.Tomb == (rd t1 (2 : Int)).Tomb) && (t14.1.Value == (rd t1 (2 : Int)).Value))))) else none) else some (false)) (fun x466 => (Option.bind (α := Bool) (if (x466 && (!t21.2)) = true then (Option.bind (keep_Clash k t1 (8 : Int)) (fun t517 => some (t517))) else some (false)) (fun x474 => (Option.bind (α := Bool) (if x474 = true then (Option.bind (keep_Clash k t1 (9 : Int)) (fun t514 => some ((!t514)))) else some (false)) (fun x481 => (Option.bind (α := Bool) (if x481 = true then (if 0 ≤ (1 : Int) ∧ (1 : Int) ≤ (2 : Int) ∧ (2 : Int) ≤ (t1.length : Int) then (Option.bind (keep_Kept k (List.take ((2 : Int) - (1 : Int)).toNat (List.drop (1 : Int).toNat t1)) (6 : Int)) (fun t508 => some (((t508.length : Int) == (0 : Int))))) else none) else some (false)) (fun x498 => some x498)))))))))))))))))) else none)))))))))
set_option maxHeartbeats 2000000 in
theorem ferrymanlaw11_awake.mono {k : Nat}  : OLe (ferrymanlaw11_awake k ) (ferrymanlaw11_awake (k + 1) ) := by
  unfold ferrymanlaw11_awake
  repeat' (first | with_reducible exact OLe.none | with_reducible exact OLe.some | with_reducible refine OLe.ite ?_ ?_ | with_reducible refine OLe.bind ?_ (fun _ => ?_) | with_reducible exact ferrymanlaw11_some.mono | with_reducible exact ferrymanref11_Same.mono | with_reducible exact keep_Clash.mono | with_reducible exact keep_Kept.mono | with_reducible exact keep_Seen.mono | refine OLe.bind ?_ (fun _ => ?_) | refine OLe.ite ?_ ?_ | refine OLe.elim (fun _ => ?_) (fun _ => ?_) | split)
set_option maxHeartbeats 1000000 in
set_option maxRecDepth 100000 in
theorem ferrymanlaw11_awake.con (k : Nat) (M : Hp)  (r : Bool)  (h : ferrymanlaw11_awake k  = some r) : Con Try.prog 10 #[] M [] (fun v M' Γ' => v = .bool r ∧ Γ' = []) := by
  refine con_of_wp Try.func10 rfl Try.ntmps10 Try.results10 rfl ?_
  intro w F rn S hrn
  have E := Ext.refl w
  have HM := Hp.le_refl M
  have H := h
  unfold ferrymanlaw11_awake at H
  refine Wp_seq ?_
  refine Wp_region_lit ?_
  refine W_v (.bool false) (x_assign rfl) rfl ?_
  refine Wl_nil ?_
  refine tn ?_
  refine Wp_seq ?_
  refine Wp_region_lit ?_
  obtain ⟨t1, ht2, H⟩ := bindS H
  refine W_callF fn16 (ferrymanlaw11_some.con k M  t1  ht2) S rfl rfl (by rintro _ _ _ ⟨_, _, _, rfl⟩; exact (flat_cons (flat_row (fun _ _ _ _ h => h)) flat_nil)) ?_
  rintro _ w6 _ Γ' E' S ⟨A3, c4, rfl, rfl⟩
  replace E := E.trans E'
  clear E'
  refine W_v (.slice A3 t1.length c4) (x_assign rfl) rfl ?_
  refine Wl_nil ?_
  refine tn ?_
  refine Wp_seq ?_
  refine Wp_region_lit ?_
  refine W_v (.slice A3 t1.length c4) (x_move rfl) rfl ?_
  replace S : St w6 M F [Row r_api_Version 27 (.slice A3 t1.length c4) t1] := S.pick [0] (by decide)
  obtain ⟨t7, ht8, H⟩ := bindS H
  refine W_callL (Δ := [Row r_api_Version 27 (.slice A3 t1.length c4) t1]) (Γ2 := []) fn12 (fun h9 hs9 hd9 => keep_Seen.con k _ A3 c4 t1 (8 : Int) t7 (Sats.row hs9 hd9 0 rfl) ht8) S rfl rfl (by rintro _ _ _ ⟨_, rfl⟩; exact flat_nil) ?_
  rintro _ w9 _ Γ' E' S ⟨rfl, rfl⟩
  replace E := E.trans E'
  clear E'
  replace S : St w9 M F [Row r_api_Version 27 (.slice A3 t1.length c4) t1] := S
  refine W_v (.tuple #[.agg #[.int .i64 t7.1.Writer, .int .i64 t7.1.TS, .bool t7.1.Tomb, .string (bs t7.1.Value)], .bool t7.2]) (x_move rfl) rfl ?_
  refine W_v (.agg #[.int .i64 t7.1.Writer, .int .i64 t7.1.TS, .bool t7.1.Tomb, .string (bs t7.1.Value)]) (x_extract rfl rfl) rfl ?_
  refine W_v (.bool t7.2) (x_extract rfl rfl) rfl ?_
  refine W_alloc S #[.int .i64 0, .int .i64 0, .bool false, .string (bs ([] : Str))] ty27 rfl rfl ?_
  intro b10 w11 E' S
  replace E := E.trans E'
  clear E'
  refine W_store S 0 rfl ty27 rfl rfl [.int .i64 t7.1.Writer, .int .i64 t7.1.TS, .bool t7.1.Tomb, .string (bs t7.1.Value)] rfl rfl rfl #[.int .i64 t7.1.Writer, .int .i64 t7.1.TS, .bool t7.1.Tomb, .string (bs t7.1.Value)] rfl rfl ?_
  intro w13 E' S
  replace E := E.trans E'
  clear E'
  refine W_v (.bool t7.2) (x_assign rfl) rfl ?_
  refine Wl_nil ?_
  refine tn ?_
  refine Wp_seq ?_
  refine Wp_region_lit ?_
  refine W_v (.slice A3 t1.length c4) (x_move rfl) rfl ?_
  replace S : St w13 M F [Row r_api_Version 27 (.slice A3 t1.length c4) t1, Blk b10 (.cells #[.int .i64 t7.1.Writer, .int .i64 t7.1.TS, .bool t7.1.Tomb, .string (bs t7.1.Value)] 27 (0, 0))] := S.pick [1, 0] (by decide)
  obtain ⟨t14, ht15, H⟩ := bindS H
  refine W_callL (Δ := [Row r_api_Version 27 (.slice A3 t1.length c4) t1]) (Γ2 := [Blk b10 (.cells #[.int .i64 t7.1.Writer, .int .i64 t7.1.TS, .bool t7.1.Tomb, .string (bs t7.1.Value)] 27 (0, 0))]) fn12 (fun h9 hs9 hd9 => keep_Seen.con k _ A3 c4 t1 (5 : Int) t14 (Sats.row hs9 hd9 0 rfl) ht15) S rfl rfl (by rintro _ _ _ ⟨_, rfl⟩; exact flat_nil) ?_
  rintro _ w16 _ Γ' E' S ⟨rfl, rfl⟩
  replace E := E.trans E'
  clear E'
  replace S : St w16 M F [Row r_api_Version 27 (.slice A3 t1.length c4) t1, Blk b10 (.cells #[.int .i64 t7.1.Writer, .int .i64 t7.1.TS, .bool t7.1.Tomb, .string (bs t7.1.Value)] 27 (0, 0))] := S
  refine W_v (.tuple #[.agg #[.int .i64 t14.1.Writer, .int .i64 t14.1.TS, .bool t14.1.Tomb, .string (bs t14.1.Value)], .bool t14.2]) (x_move rfl) rfl ?_
  refine W_v (.agg #[.int .i64 t14.1.Writer, .int .i64 t14.1.TS, .bool t14.1.Tomb, .string (bs t14.1.Value)]) (x_extract rfl rfl) rfl ?_
  refine W_v (.bool t14.2) (x_extract rfl rfl) rfl ?_
  refine W_alloc S #[.int .i64 0, .int .i64 0, .bool false, .string (bs ([] : Str))] ty27 rfl rfl ?_
  intro b17 w18 E' S
  replace E := E.trans E'
  clear E'
  refine W_store S 0 rfl ty27 rfl rfl [.int .i64 t14.1.Writer, .int .i64 t14.1.TS, .bool t14.1.Tomb, .string (bs t14.1.Value)] rfl rfl rfl #[.int .i64 t14.1.Writer, .int .i64 t14.1.TS, .bool t14.1.Tomb, .string (bs t14.1.Value)] rfl rfl ?_
  intro w20 E' S
  replace E := E.trans E'
  clear E'
  refine W_v (.bool t14.2) (x_assign rfl) rfl ?_
  refine Wl_nil ?_
  refine tn ?_
  refine Wp_seq ?_
  refine Wp_region_lit ?_
  refine W_v (.slice A3 t1.length c4) (x_move rfl) rfl ?_
  replace S : St w20 M F [Row r_api_Version 27 (.slice A3 t1.length c4) t1, Blk b17 (.cells #[.int .i64 t14.1.Writer, .int .i64 t14.1.TS, .bool t14.1.Tomb, .string (bs t14.1.Value)] 27 (0, 0)), Blk b10 (.cells #[.int .i64 t7.1.Writer, .int .i64 t7.1.TS, .bool t7.1.Tomb, .string (bs t7.1.Value)] 27 (0, 0))] := S.pick [1, 0, 2] (by decide)
  obtain ⟨t21, ht22, H⟩ := bindS H
  refine W_callL (Δ := [Row r_api_Version 27 (.slice A3 t1.length c4) t1]) (Γ2 := [Blk b17 (.cells #[.int .i64 t14.1.Writer, .int .i64 t14.1.TS, .bool t14.1.Tomb, .string (bs t14.1.Value)] 27 (0, 0)), Blk b10 (.cells #[.int .i64 t7.1.Writer, .int .i64 t7.1.TS, .bool t7.1.Tomb, .string (bs t7.1.Value)] 27 (0, 0))]) fn12 (fun h9 hs9 hd9 => keep_Seen.con k _ A3 c4 t1 (1 : Int) t21 (Sats.row hs9 hd9 0 rfl) ht22) S rfl rfl (by rintro _ _ _ ⟨_, rfl⟩; exact flat_nil) ?_
  rintro _ w23 _ Γ' E' S ⟨rfl, rfl⟩
  replace E := E.trans E'
  clear E'
  replace S : St w23 M F [Row r_api_Version 27 (.slice A3 t1.length c4) t1, Blk b17 (.cells #[.int .i64 t14.1.Writer, .int .i64 t14.1.TS, .bool t14.1.Tomb, .string (bs t14.1.Value)] 27 (0, 0)), Blk b10 (.cells #[.int .i64 t7.1.Writer, .int .i64 t7.1.TS, .bool t7.1.Tomb, .string (bs t7.1.Value)] 27 (0, 0))] := S
  refine W_v (.tuple #[.agg #[.int .i64 t21.1.Writer, .int .i64 t21.1.TS, .bool t21.1.Tomb, .string (bs t21.1.Value)], .bool t21.2]) (x_move rfl) rfl ?_
  refine W_v (.agg #[.int .i64 t21.1.Writer, .int .i64 t21.1.TS, .bool t21.1.Tomb, .string (bs t21.1.Value)]) (x_extract rfl rfl) rfl ?_
  refine W_v (.bool t21.2) (x_extract rfl rfl) rfl ?_
  refine W_alloc S #[.int .i64 0, .int .i64 0, .bool false, .string (bs ([] : Str))] ty27 rfl rfl ?_
  intro b24 w25 E' S
  replace E := E.trans E'
  clear E'
  refine W_store S 0 rfl ty27 rfl rfl [.int .i64 t21.1.Writer, .int .i64 t21.1.TS, .bool t21.1.Tomb, .string (bs t21.1.Value)] rfl rfl rfl #[.int .i64 t21.1.Writer, .int .i64 t21.1.TS, .bool t21.1.Tomb, .string (bs t21.1.Value)] rfl rfl ?_
  intro w27 E' S
  replace E := E.trans E'
  clear E'
  refine W_v (.bool t21.2) (x_assign rfl) rfl ?_
  refine Wl_nil ?_
  refine tn ?_
  refine Wp_seq ?_
  obtain ⟨M208, hM209, hf210, S⟩ := S.row_freeze 1 rfl
  replace HM := Hp.le_trans HM hM209
  refine Wp_region_any (S := fun w' => ∃ Mx, M208.le Mx ∧ St w' Mx F [Blk b24 (.cells #[.int .i64 t21.1.Writer, .int .i64 t21.1.TS, .bool t21.1.Tomb, .string (bs t21.1.Value)] 27 (0, 0)), Blk b17 (.cells #[.int .i64 t14.1.Writer, .int .i64 t14.1.TS, .bool t14.1.Tomb, .string (bs t14.1.Value)] 27 (0, 0)), Blk b10 (.cells #[.int .i64 t7.1.Writer, .int .i64 t7.1.TS, .bool t7.1.Tomb, .string (bs t7.1.Value)] 27 (0, 0))]) mixed ?_
  intro w388 hw389 E'
  replace S := S.heap hw389
  replace E := E.trans E'
  clear E'
  refine Wa_take (i := 0) rfl (by kernel_rfl) rfl rfl (.slice A3 t1.length c4) rfl (fun w' h' => x_move rfl) (⟨M208, Hp.le_refl M208, S.pick [0, 1, 2] (by decide)⟩) ?_
  refine Wa_take (i := 2) rfl (by kernel_rfl) rfl rfl (.slice A3 t1.length c4) rfl (fun w' h' => x_move rfl) (⟨M208, Hp.le_refl M208, S.pick [0, 1, 2] (by decide)⟩) ?_
  obtain ⟨⟨p390, p391⟩, H⟩ := chkS H
  obtain ⟨hs393, hx394⟩ := sl_hi hf210 p390 p391
  have hs393z := hs393
  refine Wa_take (i := 3) rfl (by kernel_rfl) rfl rfl (.slice A3 (List.take (1 : Int).toNat t1).length c4) rfl (fun w' h' => hx394 Try.underlying22 ty27 rfl rfl) (⟨M208, Hp.le_refl M208, S.pick [0, 1, 2] (by decide)⟩) ?_
  refine Wa_solo (i := 1) rfl (by kernel_rfl) ?_
  obtain ⟨t395, ht396, H⟩ := bindS H
  refine W_callF fn11 (keep_Kept.con k M208 A3 c4 t1 (7 : Int) t395 hf210 ht396) S rfl rfl (by rintro _ _ _ ⟨_, _, _, rfl⟩; exact (flat_cons (flat_row (fun _ _ _ _ h => h)) flat_nil)) ?_
  rintro _ w400 _ Γ' E' S ⟨A397, c398, rfl, rfl⟩
  replace E := E.trans E'
  clear E'
  refine Wl_nil (on_n ⟨⟨M208, Hp.le_refl M208, S.pick [1, 2, 3] (by decide)⟩, ?_⟩)
  refine Wa_solo (i := 4) rfl (by kernel_rfl) ?_
  replace S : St w400 M208 F [Row r_api_Version 27 (.slice A397 t395.length c398) t395, Blk b24 (.cells #[.int .i64 t21.1.Writer, .int .i64 t21.1.TS, .bool t21.1.Tomb, .string (bs t21.1.Value)] 27 (0, 0)), Blk b17 (.cells #[.int .i64 t14.1.Writer, .int .i64 t14.1.TS, .bool t14.1.Tomb, .string (bs t14.1.Value)] 27 (0, 0)), Blk b10 (.cells #[.int .i64 t7.1.Writer, .int .i64 t7.1.TS, .bool t7.1.Tomb, .string (bs t7.1.Value)] 27 (0, 0))] := S.pick [0, 1, 2, 3] (by decide)
  obtain ⟨t401, ht402, H⟩ := bindS H
  refine W_callL (Δ := [Row r_api_Version 27 (.slice A397 t395.length c398) t395]) (Γ2 := [Blk b24 (.cells #[.int .i64 t21.1.Writer, .int .i64 t21.1.TS, .bool t21.1.Tomb, .string (bs t21.1.Value)] 27 (0, 0)), Blk b17 (.cells #[.int .i64 t14.1.Writer, .int .i64 t14.1.TS, .bool t14.1.Tomb, .string (bs t14.1.Value)] 27 (0, 0)), Blk b10 (.cells #[.int .i64 t7.1.Writer, .int .i64 t7.1.TS, .bool t7.1.Tomb, .string (bs t7.1.Value)] 27 (0, 0))]) fn15 (fun h9 hs9 hd9 => ferrymanref11_Same.con k _ A397 c398 t395 A3 c4 (List.take (1 : Int).toNat t1) t401 (Sats.row hs9 hd9 0 rfl) (SlR.mono hs393 (Hp.le_union_left _ _)) ht402) S rfl rfl (by rintro _ _ _ ⟨_, rfl⟩; exact flat_nil) ?_
  rintro _ w403 _ Γ' E' S ⟨rfl, rfl⟩
  replace E := E.trans E'
  clear E'
  replace S : St w403 M208 F [Row r_api_Version 27 (.slice A397 t395.length c398) t395, Blk b24 (.cells #[.int .i64 t21.1.Writer, .int .i64 t21.1.TS, .bool t21.1.Tomb, .string (bs t21.1.Value)] 27 (0, 0)), Blk b17 (.cells #[.int .i64 t14.1.Writer, .int .i64 t14.1.TS, .bool t14.1.Tomb, .string (bs t14.1.Value)] 27 (0, 0)), Blk b10 (.cells #[.int .i64 t7.1.Writer, .int .i64 t7.1.TS, .bool t7.1.Tomb, .string (bs t7.1.Value)] 27 (0, 0))] := S
  refine Wl_nil (on_n ⟨⟨M208, Hp.le_refl M208, S.pick [1, 2, 3] (by decide)⟩, ?_⟩)
  refine Wa_take (i := 5) rfl (by kernel_rfl) rfl rfl (.bool t401) rfl (fun w' h' => x_move rfl) (⟨M208, Hp.le_refl M208, S.pick [1, 2, 3] (by decide)⟩) ?_
  obtain ⟨o420, o420h, o420H⟩ := bindS H
  clear H
  refine Wa_join (fun ρ w' => ∃ (x419 : Bool), (x419) = o420 ∧ Agree ρ [(0, .bool false), (1, .slice A3 t1.length c4), (3, .bool t7.2), (4, .pointer (some ⟨b17, 0, none⟩)), (5, .bool t14.2), (7, .bool t21.2), (35, .bool x419)] ∧ Ext w w' ∧ St w' M208 F [Blk b24 (.cells #[.int .i64 t21.1.Writer, .int .i64 t21.1.TS, .bool t21.1.Tomb, .string (bs t21.1.Value)] 27 (0, 0)), Blk b17 (.cells #[.int .i64 t14.1.Writer, .int .i64 t14.1.TS, .bool t14.1.Tomb, .string (bs t14.1.Value)] 27 (0, 0)), Blk b10 (.cells #[.int .i64 t7.1.Writer, .int .i64 t7.1.TS, .bool t7.1.Tomb, .string (bs t7.1.Value)] 27 (0, 0))]) 48 (Ls 60 [0, 2, 3, 1, 4, 5, 6, 8, 9, 7, 10, 11]) ?_ ?_
  · clear o420h
    rintro ρ w421 ⟨x419, rfl, hρ, E, S⟩
    rw [agree_eta hρ]
    clear hρ
    have H := o420H
    clear o420H
    refine Wa_take (i := 12) rfl (by kernel_rfl) rfl rfl (.bool x419) rfl (fun w' h' => x_move rfl) (⟨M208, Hp.le_refl M208, S.pick [0, 1, 2] (by decide)⟩) ?_
    obtain ⟨o433, o433h, o433H⟩ := bindS H
    clear H
    refine Wa_join (fun ρ w' => ∃ (x432 : Bool), (x432) = o433 ∧ Agree ρ [(0, .bool false), (1, .slice A3 t1.length c4), (3, .bool t7.2), (4, .pointer (some ⟨b17, 0, none⟩)), (5, .bool t14.2), (7, .bool t21.2), (41, .bool x432)] ∧ Ext w w' ∧ St w' M208 F [Blk b24 (.cells #[.int .i64 t21.1.Writer, .int .i64 t21.1.TS, .bool t21.1.Tomb, .string (bs t21.1.Value)] 27 (0, 0)), Blk b17 (.cells #[.int .i64 t14.1.Writer, .int .i64 t14.1.TS, .bool t14.1.Tomb, .string (bs t14.1.Value)] 27 (0, 0)), Blk b10 (.cells #[.int .i64 t7.1.Writer, .int .i64 t7.1.TS, .bool t7.1.Tomb, .string (bs t7.1.Value)] 27 (0, 0))]) 42 (Ls 60 [0, 2, 3, 1, 4, 5, 6, 8, 9, 7, 10, 11, 12, 13, 15, 14, 16, 17]) ?_ ?_
    · clear o433h
      rintro ρ w434 ⟨x432, rfl, hρ, E, S⟩
      rw [agree_eta hρ]
      clear hρ
      have H := o433H
      clear o433H
      refine Wa_take (i := 18) rfl (by kernel_rfl) rfl rfl (.bool x432) rfl (fun w' h' => x_move rfl) (⟨M208, Hp.le_refl M208, S.pick [0, 1, 2] (by decide)⟩) ?_
      obtain ⟨o451, o451h, o451H⟩ := bindS H
      clear H
      refine Wa_join (fun ρ w' => ∃ (x450 : Bool), (x450) = o451 ∧ Agree ρ [(0, .bool false), (1, .slice A3 t1.length c4), (3, .bool t7.2), (4, .pointer (some ⟨b17, 0, none⟩)), (5, .bool t14.2), (7, .bool t21.2), (48, .bool x450)] ∧ Ext w w' ∧ St w' M208 F [Blk b24 (.cells #[.int .i64 t21.1.Writer, .int .i64 t21.1.TS, .bool t21.1.Tomb, .string (bs t21.1.Value)] 27 (0, 0)), Blk b17 (.cells #[.int .i64 t14.1.Writer, .int .i64 t14.1.TS, .bool t14.1.Tomb, .string (bs t14.1.Value)] 27 (0, 0)), Blk b10 (.cells #[.int .i64 t7.1.Writer, .int .i64 t7.1.TS, .bool t7.1.Tomb, .string (bs t7.1.Value)] 27 (0, 0))]) 35 (Ls 60 [0, 2, 3, 1, 4, 5, 6, 8, 9, 7, 10, 11, 12, 13, 15, 14, 16, 17, 18, 19, 21, 22, 20, 23, 24]) ?_ ?_
      · clear o451h
        rintro ρ w452 ⟨x450, rfl, hρ, E, S⟩
        rw [agree_eta hρ]
        clear hρ
        have H := o451H
        clear o451H
        refine Wa_take (i := 25) rfl (by kernel_rfl) rfl rfl (.bool x450) rfl (fun w' h' => x_move rfl) (⟨M208, Hp.le_refl M208, S.pick [0, 1, 2] (by decide)⟩) ?_
        refine Wa_join (fun ρ w' => Agree ρ [(0, .bool false), (1, .slice A3 t1.length c4), (4, .pointer (some ⟨b17, 0, none⟩)), (5, .bool t14.2), (7, .bool t21.2), (52, .bool (x450 && (!t7.2)))] ∧ w452 = w') 31 (Ls 60 [0, 2, 3, 1, 4, 5, 6, 8, 9, 7, 10, 11, 12, 13, 15, 14, 16, 17, 18, 19, 21, 22, 20, 23, 24, 25, 26, 27, 28]) ?_ ?_
        · rintro ρ _ ⟨hρ, rfl⟩
          rw [agree_eta hρ]
          clear hρ
          refine Wa_take (i := 29) rfl (by kernel_rfl) rfl rfl (.bool (x450 && (!t7.2))) rfl (fun w' h' => x_move rfl) (⟨M208, Hp.le_refl M208, S.pick [0, 1, 2] (by decide)⟩) ?_
          refine Wa_join (fun ρ w' => Agree ρ [(0, .bool false), (1, .slice A3 t1.length c4), (4, .pointer (some ⟨b17, 0, none⟩)), (7, .bool t21.2), (55, .bool ((x450 && (!t7.2)) && t14.2))] ∧ w452 = w') 28 (Ls 60 [0, 2, 3, 1, 4, 5, 6, 8, 9, 7, 10, 11, 12, 13, 15, 14, 16, 17, 18, 19, 21, 22, 20, 23, 24, 25, 26, 27, 28, 29, 30, 31]) ?_ ?_
          · rintro ρ _ ⟨hρ, rfl⟩
            rw [agree_eta hρ]
            clear hρ
            refine Wa_take (i := 32) rfl (by kernel_rfl) rfl rfl (.bool ((x450 && (!t7.2)) && t14.2)) rfl (fun w' h' => x_move rfl) (⟨M208, Hp.le_refl M208, S.pick [0, 1, 2] (by decide)⟩) ?_
            obtain ⟨o467, o467h, o467H⟩ := bindS H
            clear H
            refine Wa_join (fun ρ w' => ∃ (x466 : Bool), (x466) = o467 ∧ Agree ρ [(0, .bool false), (1, .slice A3 t1.length c4), (7, .bool t21.2), (62, .bool x466)] ∧ Ext w w' ∧ St w' M208 F [Blk b24 (.cells #[.int .i64 t21.1.Writer, .int .i64 t21.1.TS, .bool t21.1.Tomb, .string (bs t21.1.Value)] 27 (0, 0)), Blk b17 (.cells #[.int .i64 t14.1.Writer, .int .i64 t14.1.TS, .bool t14.1.Tomb, .string (bs t14.1.Value)] 27 (0, 0)), Blk b10 (.cells #[.int .i64 t7.1.Writer, .int .i64 t7.1.TS, .bool t7.1.Tomb, .string (bs t7.1.Value)] 27 (0, 0))]) 21 (Ls 60 [0, 2, 3, 1, 4, 5, 6, 8, 9, 7, 10, 11, 12, 13, 15, 14, 16, 17, 18, 19, 21, 22, 20, 23, 24, 25, 26, 27, 28, 29, 30, 31, 32, 33, 34, 35, 36, 37, 38]) ?_ ?_
            · clear o467h
              rintro ρ w468 ⟨x466, rfl, hρ, E, S⟩
              rw [agree_eta hρ]
              clear hρ
              have H := o467H
              clear o467H
              refine Wa_take (i := 39) rfl (by kernel_rfl) rfl rfl (.bool x466) rfl (fun w' h' => x_move rfl) (⟨M208, Hp.le_refl M208, S.pick [0, 1, 2] (by decide)⟩) ?_
              refine Wa_join (fun ρ w' => Agree ρ [(0, .bool false), (1, .slice A3 t1.length c4), (66, .bool (x466 && (!t21.2)))] ∧ w468 = w') 17 (Ls 60 [0, 2, 3, 1, 4, 5, 6, 8, 9, 7, 10, 11, 12, 13, 15, 14, 16, 17, 18, 19, 21, 22, 20, 23, 24, 25, 26, 27, 28, 29, 30, 31, 32, 33, 34, 35, 36, 37, 38, 39, 40, 41, 42]) ?_ ?_
              · rintro ρ _ ⟨hρ, rfl⟩
                rw [agree_eta hρ]
                clear hρ
                refine Wa_take (i := 43) rfl (by kernel_rfl) rfl rfl (.bool (x466 && (!t21.2))) rfl (fun w' h' => x_move rfl) (⟨M208, Hp.le_refl M208, S.pick [0, 1, 2] (by decide)⟩) ?_
                obtain ⟨o475, o475h, o475H⟩ := bindS H
                clear H
                refine Wa_join (fun ρ w' => ∃ (x474 : Bool), (x474) = o475 ∧ Agree ρ [(0, .bool false), (1, .slice A3 t1.length c4), (70, .bool x474)] ∧ Ext w w' ∧ St w' M208 F [Blk b24 (.cells #[.int .i64 t21.1.Writer, .int .i64 t21.1.TS, .bool t21.1.Tomb, .string (bs t21.1.Value)] 27 (0, 0)), Blk b17 (.cells #[.int .i64 t14.1.Writer, .int .i64 t14.1.TS, .bool t14.1.Tomb, .string (bs t14.1.Value)] 27 (0, 0)), Blk b10 (.cells #[.int .i64 t7.1.Writer, .int .i64 t7.1.TS, .bool t7.1.Tomb, .string (bs t7.1.Value)] 27 (0, 0))]) 13 (Ls 60 [0, 2, 3, 1, 4, 5, 6, 8, 9, 7, 10, 11, 12, 13, 15, 14, 16, 17, 18, 19, 21, 22, 20, 23, 24, 25, 26, 27, 28, 29, 30, 31, 32, 33, 34, 35, 36, 37, 38, 39, 40, 41, 42, 43, 44, 45, 46]) ?_ ?_
                · clear o475h
                  rintro ρ w476 ⟨x474, rfl, hρ, E, S⟩
                  rw [agree_eta hρ]
                  clear hρ
                  have H := o475H
                  clear o475H
                  refine Wa_take (i := 47) rfl (by kernel_rfl) rfl rfl (.bool x474) rfl (fun w' h' => x_move rfl) (⟨M208, Hp.le_refl M208, S.pick [0, 1, 2] (by decide)⟩) ?_
                  obtain ⟨o482, o482h, o482H⟩ := bindS H
                  clear H
                  refine Wa_join (fun ρ w' => ∃ (x481 : Bool), (x481) = o482 ∧ Agree ρ [(0, .bool false), (1, .slice A3 t1.length c4), (75, .bool x481)] ∧ Ext w w' ∧ St w' M208 F [Blk b24 (.cells #[.int .i64 t21.1.Writer, .int .i64 t21.1.TS, .bool t21.1.Tomb, .string (bs t21.1.Value)] 27 (0, 0)), Blk b17 (.cells #[.int .i64 t14.1.Writer, .int .i64 t14.1.TS, .bool t14.1.Tomb, .string (bs t14.1.Value)] 27 (0, 0)), Blk b10 (.cells #[.int .i64 t7.1.Writer, .int .i64 t7.1.TS, .bool t7.1.Tomb, .string (bs t7.1.Value)] 27 (0, 0))]) 8 (Ls 60 [0, 2, 3, 1, 4, 5, 6, 8, 9, 7, 10, 11, 12, 13, 15, 14, 16, 17, 18, 19, 21, 22, 20, 23, 24, 25, 26, 27, 28, 29, 30, 31, 32, 33, 34, 35, 36, 37, 38, 39, 40, 41, 42, 43, 44, 45, 46, 47, 48, 49, 50, 51]) ?_ ?_
                  · clear o482h
                    rintro ρ w483 ⟨x481, rfl, hρ, E, S⟩
                    rw [agree_eta hρ]
                    clear hρ
                    have H := o482H
                    clear o482H
                    refine Wa_take (i := 52) rfl (by kernel_rfl) rfl rfl (.bool x481) rfl (fun w' h' => x_move rfl) (⟨M208, Hp.le_refl M208, S.pick [0, 1, 2] (by decide)⟩) ?_
                    obtain ⟨o499, o499h, o499H⟩ := bindS H
                    clear H
                    refine Wa_join (fun ρ w' => ∃ (x498 : Bool), (x498) = o499 ∧ Agree ρ [(0, .bool false), (82, .bool x498)] ∧ Ext w w' ∧ St w' M208 F [Blk b24 (.cells #[.int .i64 t21.1.Writer, .int .i64 t21.1.TS, .bool t21.1.Tomb, .string (bs t21.1.Value)] 27 (0, 0)), Blk b17 (.cells #[.int .i64 t14.1.Writer, .int .i64 t14.1.TS, .bool t14.1.Tomb, .string (bs t14.1.Value)] 27 (0, 0)), Blk b10 (.cells #[.int .i64 t7.1.Writer, .int .i64 t7.1.TS, .bool t7.1.Tomb, .string (bs t7.1.Value)] 27 (0, 0))]) 1 (Ls 60 [0, 2, 3, 1, 4, 5, 6, 8, 9, 7, 10, 11, 12, 13, 15, 14, 16, 17, 18, 19, 21, 22, 20, 23, 24, 25, 26, 27, 28, 29, 30, 31, 32, 33, 34, 35, 36, 37, 38, 39, 40, 41, 42, 43, 44, 45, 46, 47, 48, 49, 50, 51, 52, 53, 54, 55, 56, 57, 58]) ?_ ?_
                    · clear o499h
                      rintro ρ w500 ⟨x498, rfl, hρ, E, S⟩
                      rw [agree_eta hρ]
                      clear hρ
                      have H := o499H
                      clear o499H
                      refine Wa_take (i := 59) rfl (by kernel_rfl) rfl rfl (.bool x498) rfl (fun w' h' => x_assign rfl) (⟨M208, Hp.le_refl M208, S.pick [0, 1, 2] (by decide)⟩) ?_
                      refine Wa_done (by kernel_rfl) ?_
                      refine tn ?_
                      refine Wp_ret ?_
                      obtain rfl := Option.some.inj H
                      exact ⟨_, _, _, fun w1 e1 => run_resR (vs := [.bool x498]) (FA.cons (rfl) (FA.nil)), HM, E, S.pick [] (by decide), ⟨rfl, rfl⟩⟩
                    · intro hrest
                      have H := o499h
                      clear o499h o499H
                      rcases iteS H with ⟨hb497, H⟩ | ⟨hb497, H⟩
                      · skip
                        refine Wa_takeY (i := 53) rfl (by kernel_rfl) rfl rfl (.slice A3 t1.length c4) rfl (congrArg some hb497) (fun w' h' => x_move rfl) (⟨M208, Hp.le_refl M208, S.pick [0, 1, 2] (by decide)⟩) ?_
                        obtain ⟨⟨p501, p502, p503⟩, H⟩ := chkS H
                        obtain ⟨A504, c505, hs506, hx507⟩ := sl_lh hf210 p501 p502 p503
                        have hs506z := hs506
                        refine Wa_takeY (i := 54) rfl (by kernel_rfl) rfl rfl (.slice A504 (List.take ((2 : Int) - (1 : Int)).toNat (List.drop (1 : Int).toNat t1)).length c505) rfl (congrArg some hb497) (fun w' h' => hx507 Try.underlying22 ty27 rfl rfl rfl) (⟨M208, Hp.le_refl M208, S.pick [0, 1, 2] (by decide)⟩) ?_
                        refine Wa_solo (i := 55) rfl (by kernel_rfl) ?_
                        refine W_yes (congrArg some hb497) ?_
                        obtain ⟨t508, ht509, H⟩ := bindS H
                        refine W_callF fn11 (keep_Kept.con k M208 A504 c505 (List.take ((2 : Int) - (1 : Int)).toNat (List.drop (1 : Int).toNat t1)) (6 : Int) t508 hs506 ht509) S rfl rfl (by rintro _ _ _ ⟨_, _, _, rfl⟩; exact (flat_cons (flat_row (fun _ _ _ _ h => h)) flat_nil)) ?_
                        rintro _ w513 _ Γ' E' S ⟨A510, c511, rfl, rfl⟩
                        replace E := E.trans E'
                        clear E'
                        refine Wl_nil (on_n ⟨⟨M208, Hp.le_refl M208, S.pick [1, 2, 3] (by decide)⟩, ?_⟩)
                        refine Wa_takeY (i := 56) rfl (by kernel_rfl) rfl rfl (.int .i64 (t508.length : Int)) rfl (congrArg some hb497) (fun w' h' => x_len_slice (n := t508.length) Try.underlying22 rfl) (⟨M208, Hp.le_refl M208, S.pick [1, 2, 3] (by decide)⟩) ?_
                        refine Wa_takeY (i := 57) rfl (by kernel_rfl) rfl rfl (.bool ((t508.length : Int) == (0 : Int))) rfl (congrArg some hb497) (fun w' h' => x_ibin rfl rfl rfl rfl) (⟨M208, Hp.le_refl M208, S.pick [1, 2, 3] (by decide)⟩) ?_
                        refine Wa_take (i := 58) rfl (by kernel_rfl) rfl rfl (.bool ((t508.length : Int) == (0 : Int))) rfl (fun w' h' => x_pick (k := true) (congrArg Value.bool hb497) rfl) (⟨M208, Hp.le_refl M208, S.pick [1, 2, 3] (by decide)⟩) ?_
                        exact hrest _ _ ⟨((t508.length : Int) == (0 : Int)), Option.some.inj H, ⟨rfl, rfl, trivial⟩, E, S.pick [1, 2, 3] (by decide)⟩
                      · skip
                        refine Wa_takeN (i := 53) rfl (by kernel_rfl) rfl rfl rfl (skT hb497) (⟨M208, Hp.le_refl M208, S.pick [0, 1, 2] (by decide)⟩) ?_
                        refine Wa_takeN (i := 54) rfl (by kernel_rfl) rfl rfl rfl (skT hb497) (⟨M208, Hp.le_refl M208, S.pick [0, 1, 2] (by decide)⟩) ?_
                        refine Wa_takeN (i := 55) rfl (by kernel_rfl) rfl rfl rfl (skT hb497) (⟨M208, Hp.le_refl M208, S.pick [0, 1, 2] (by decide)⟩) ?_
                        refine Wa_takeN (i := 56) rfl (by kernel_rfl) rfl rfl rfl (skT hb497) (⟨M208, Hp.le_refl M208, S.pick [0, 1, 2] (by decide)⟩) ?_
                        refine Wa_takeN (i := 57) rfl (by kernel_rfl) rfl rfl rfl (skT hb497) (⟨M208, Hp.le_refl M208, S.pick [0, 1, 2] (by decide)⟩) ?_
                        refine Wa_take (i := 58) rfl (by kernel_rfl) rfl rfl (.bool false) rfl (fun w' h' => x_pick (k := false) (congrArg Value.bool hb497) rfl) (⟨M208, Hp.le_refl M208, S.pick [0, 1, 2] (by decide)⟩) ?_
                        exact hrest _ _ ⟨false, Option.some.inj H, ⟨rfl, rfl, trivial⟩, E, S.pick [0, 1, 2] (by decide)⟩
                  · intro hrest
                    have H := o482h
                    clear o482h o482H
                    rcases iteS H with ⟨hb480, H⟩ | ⟨hb480, H⟩
                    · skip
                      refine Wa_takeY (i := 48) rfl (by kernel_rfl) rfl rfl (.slice A3 t1.length c4) rfl (congrArg some hb480) (fun w' h' => x_move rfl) (⟨M208, Hp.le_refl M208, S.pick [0, 1, 2] (by decide)⟩) ?_
                      refine Wa_solo (i := 49) rfl (by kernel_rfl) ?_
                      refine W_yes (congrArg some hb480) ?_
                      obtain ⟨t514, ht515, H⟩ := bindS H
                      refine W_callF fn13 (keep_Clash.con k M208 A3 c4 t1 (9 : Int) t514 hf210 ht515) S rfl rfl (by rintro _ _ _ ⟨_, rfl⟩; exact flat_nil) ?_
                      rintro _ w516 _ Γ' E' S ⟨rfl, rfl⟩
                      replace E := E.trans E'
                      clear E'
                      refine Wl_nil (on_n ⟨⟨M208, Hp.le_refl M208, S.pick [0, 1, 2] (by decide)⟩, ?_⟩)
                      refine Wa_takeY (i := 50) rfl (by kernel_rfl) rfl rfl (.bool (!t514)) rfl (congrArg some hb480) (fun w' h' => x_not rfl) (⟨M208, Hp.le_refl M208, S.pick [0, 1, 2] (by decide)⟩) ?_
                      refine Wa_take (i := 51) rfl (by kernel_rfl) rfl rfl (.bool (!t514)) rfl (fun w' h' => x_pick (k := true) (congrArg Value.bool hb480) rfl) (⟨M208, Hp.le_refl M208, S.pick [0, 1, 2] (by decide)⟩) ?_
                      exact hrest _ _ ⟨(!t514), Option.some.inj H, ⟨rfl, rfl, rfl, trivial⟩, E, S.pick [0, 1, 2] (by decide)⟩
                    · skip
                      refine Wa_takeN (i := 48) rfl (by kernel_rfl) rfl rfl rfl (skT hb480) (⟨M208, Hp.le_refl M208, S.pick [0, 1, 2] (by decide)⟩) ?_
                      refine Wa_takeN (i := 49) rfl (by kernel_rfl) rfl rfl rfl (skT hb480) (⟨M208, Hp.le_refl M208, S.pick [0, 1, 2] (by decide)⟩) ?_
                      refine Wa_takeN (i := 50) rfl (by kernel_rfl) rfl rfl rfl (skT hb480) (⟨M208, Hp.le_refl M208, S.pick [0, 1, 2] (by decide)⟩) ?_
                      refine Wa_take (i := 51) rfl (by kernel_rfl) rfl rfl (.bool false) rfl (fun w' h' => x_pick (k := false) (congrArg Value.bool hb480) rfl) (⟨M208, Hp.le_refl M208, S.pick [0, 1, 2] (by decide)⟩) ?_
                      exact hrest _ _ ⟨false, Option.some.inj H, ⟨rfl, rfl, rfl, trivial⟩, E, S.pick [0, 1, 2] (by decide)⟩
                · intro hrest
                  have H := o475h
                  clear o475h o475H
                  rcases iteS H with ⟨hb473, H⟩ | ⟨hb473, H⟩
                  · skip
                    refine Wa_takeY (i := 44) rfl (by kernel_rfl) rfl rfl (.slice A3 t1.length c4) rfl (congrArg some hb473) (fun w' h' => x_move rfl) (⟨M208, Hp.le_refl M208, S.pick [0, 1, 2] (by decide)⟩) ?_
                    refine Wa_solo (i := 45) rfl (by kernel_rfl) ?_
                    refine W_yes (congrArg some hb473) ?_
                    obtain ⟨t517, ht518, H⟩ := bindS H
                    refine W_callF fn13 (keep_Clash.con k M208 A3 c4 t1 (8 : Int) t517 hf210 ht518) S rfl rfl (by rintro _ _ _ ⟨_, rfl⟩; exact flat_nil) ?_
                    rintro _ w519 _ Γ' E' S ⟨rfl, rfl⟩
                    replace E := E.trans E'
                    clear E'
                    refine Wl_nil (on_n ⟨⟨M208, Hp.le_refl M208, S.pick [0, 1, 2] (by decide)⟩, ?_⟩)
                    refine Wa_take (i := 46) rfl (by kernel_rfl) rfl rfl (.bool t517) rfl (fun w' h' => x_pick (k := true) (congrArg Value.bool hb473) rfl) (⟨M208, Hp.le_refl M208, S.pick [0, 1, 2] (by decide)⟩) ?_
                    exact hrest _ _ ⟨t517, Option.some.inj H, ⟨rfl, rfl, rfl, trivial⟩, E, S.pick [0, 1, 2] (by decide)⟩
                  · skip
                    refine Wa_takeN (i := 44) rfl (by kernel_rfl) rfl rfl rfl (skT hb473) (⟨M208, Hp.le_refl M208, S.pick [0, 1, 2] (by decide)⟩) ?_
                    refine Wa_takeN (i := 45) rfl (by kernel_rfl) rfl rfl rfl (skT hb473) (⟨M208, Hp.le_refl M208, S.pick [0, 1, 2] (by decide)⟩) ?_
                    refine Wa_take (i := 46) rfl (by kernel_rfl) rfl rfl (.bool false) rfl (fun w' h' => x_pick (k := false) (congrArg Value.bool hb473) rfl) (⟨M208, Hp.le_refl M208, S.pick [0, 1, 2] (by decide)⟩) ?_
                    exact hrest _ _ ⟨false, Option.some.inj H, ⟨rfl, rfl, rfl, trivial⟩, E, S.pick [0, 1, 2] (by decide)⟩
              · intro hrest
                rcases boolCases x466 with hb469 | hb469
                · skip
                  refine Wa_takeN (i := 40) rfl (by kernel_rfl) rfl rfl rfl (skT hb469) (⟨M208, Hp.le_refl M208, S.pick [0, 1, 2] (by decide)⟩) ?_
                  refine Wa_takeN (i := 41) rfl (by kernel_rfl) rfl rfl rfl (skT hb469) (⟨M208, Hp.le_refl M208, S.pick [0, 1, 2] (by decide)⟩) ?_
                  refine Wa_take (i := 42) rfl (by kernel_rfl) rfl rfl (.bool false) rfl (fun w' h' => x_pick (k := false) (congrArg Value.bool hb469) rfl) (⟨M208, Hp.le_refl M208, S.pick [0, 1, 2] (by decide)⟩) ?_
                  exact hrest _ _ ⟨⟨rfl, rfl, (by first | rfl | (rw [hb469]; rfl) | (simp only [hb469]; rfl)), trivial⟩, rfl⟩
                · skip
                  refine Wa_takeY (i := 40) rfl (by kernel_rfl) rfl rfl (.bool t21.2) rfl (congrArg some hb469) (fun w' h' => x_move rfl) (⟨M208, Hp.le_refl M208, S.pick [0, 1, 2] (by decide)⟩) ?_
                  refine Wa_takeY (i := 41) rfl (by kernel_rfl) rfl rfl (.bool (!t21.2)) rfl (congrArg some hb469) (fun w' h' => x_not rfl) (⟨M208, Hp.le_refl M208, S.pick [0, 1, 2] (by decide)⟩) ?_
                  refine Wa_take (i := 42) rfl (by kernel_rfl) rfl rfl (.bool (!t21.2)) rfl (fun w' h' => x_pick (k := true) (congrArg Value.bool hb469) rfl) (⟨M208, Hp.le_refl M208, S.pick [0, 1, 2] (by decide)⟩) ?_
                  exact hrest _ _ ⟨⟨rfl, rfl, (by first | rfl | (rw [hb469]; rfl) | (simp only [hb469]; rfl)), trivial⟩, rfl⟩
            · intro hrest
              have H := o467h
              clear o467h o467H
              rcases iteS H with ⟨hb465, H⟩ | ⟨hb465, H⟩
              · skip
                refine Wa_takeY (i := 33) rfl (by kernel_rfl) rfl rfl (.agg #[.int .i64 t14.1.Writer, .int .i64 t14.1.TS, .bool t14.1.Tomb, .string (bs t14.1.Value)]) rfl (congrArg some hb465) (fun w' h' => x_loadA (cls_blk h' 1 rfl) ty27 rfl (sub_of_extract rfl) rfl rfl) (⟨M208, Hp.le_refl M208, S.pick [0, 1, 2] (by decide)⟩) ?_
                refine Wa_takeY (i := 34) rfl (by kernel_rfl) rfl rfl (.slice A3 t1.length c4) rfl (congrArg some hb465) (fun w' h' => x_move rfl) (⟨M208, Hp.le_refl M208, S.pick [0, 1, 2] (by decide)⟩) ?_
                obtain ⟨⟨p520, p521⟩, H⟩ := chkS H
                obtain ⟨b522, o523, cs524, _, _, ee529, hb525, vs526, hR527, hc528⟩ := SlW.at' hf210 p520 p521
                obtain rfl : vs526 = _ := hR527
                refine Wa_takeY (i := 35) rfl (by kernel_rfl) rfl rfl (.pointer (some ⟨b522, o523 + (2 : Int).toNat * 4, none⟩)) rfl (congrArg some hb465) (fun w' h' => x_indexAddr Try.underlying22 ty27 (slA ee529) rfl p520 p521) (⟨M208, Hp.le_refl M208, S.pick [0, 1, 2] (by decide)⟩) ?_
                refine Wa_takeY (i := 36) rfl (by kernel_rfl) rfl rfl (.agg #[.int .i64 ((rd t1 (2 : Int)).Writer), .int .i64 ((rd t1 (2 : Int)).TS), .bool ((rd t1 (2 : Int)).Tomb), .string (bs ((rd t1 (2 : Int)).Value))]) rfl (congrArg some hb465) (fun w' h' => x_loadA (cls_frz h' hb525) ty27 rfl (sub_el hc528 0 rfl) rfl rfl) (⟨M208, Hp.le_refl M208, S.pick [0, 1, 2] (by decide)⟩) ?_
                refine Wa_takeY (i := 37) rfl (by kernel_rfl) rfl rfl (.bool ((t14.1.Writer == (rd t1 (2 : Int)).Writer) && ((t14.1.TS == (rd t1 (2 : Int)).TS) && ((t14.1.Tomb == (rd t1 (2 : Int)).Tomb) && (t14.1.Value == (rd t1 (2 : Int)).Value))))) rfl (congrArg some hb465) (fun w' h' => x_eq_of (eg27 _ _ _ _) rfl (eq27 _ t14.1.Writer t14.1.TS t14.1.Tomb t14.1.Value ((rd t1 (2 : Int)).Writer) ((rd t1 (2 : Int)).TS) ((rd t1 (2 : Int)).Tomb) ((rd t1 (2 : Int)).Value))) (⟨M208, Hp.le_refl M208, S.pick [0, 1, 2] (by decide)⟩) ?_
                refine Wa_take (i := 38) rfl (by kernel_rfl) rfl rfl (.bool ((t14.1.Writer == (rd t1 (2 : Int)).Writer) && ((t14.1.TS == (rd t1 (2 : Int)).TS) && ((t14.1.Tomb == (rd t1 (2 : Int)).Tomb) && (t14.1.Value == (rd t1 (2 : Int)).Value))))) rfl (fun w' h' => x_pick (k := true) (congrArg Value.bool hb465) rfl) (⟨M208, Hp.le_refl M208, S.pick [0, 1, 2] (by decide)⟩) ?_
                exact hrest _ _ ⟨((t14.1.Writer == (rd t1 (2 : Int)).Writer) && ((t14.1.TS == (rd t1 (2 : Int)).TS) && ((t14.1.Tomb == (rd t1 (2 : Int)).Tomb) && (t14.1.Value == (rd t1 (2 : Int)).Value)))), Option.some.inj H, ⟨rfl, rfl, rfl, rfl, trivial⟩, E, S.pick [0, 1, 2] (by decide)⟩
              · skip
                refine Wa_takeN (i := 33) rfl (by kernel_rfl) rfl rfl rfl (skT hb465) (⟨M208, Hp.le_refl M208, S.pick [0, 1, 2] (by decide)⟩) ?_
                refine Wa_takeN (i := 34) rfl (by kernel_rfl) rfl rfl rfl (skT hb465) (⟨M208, Hp.le_refl M208, S.pick [0, 1, 2] (by decide)⟩) ?_
                refine Wa_takeN (i := 35) rfl (by kernel_rfl) rfl rfl rfl (skT hb465) (⟨M208, Hp.le_refl M208, S.pick [0, 1, 2] (by decide)⟩) ?_
                refine Wa_takeN (i := 36) rfl (by kernel_rfl) rfl rfl rfl (skT hb465) (⟨M208, Hp.le_refl M208, S.pick [0, 1, 2] (by decide)⟩) ?_
                refine Wa_takeN (i := 37) rfl (by kernel_rfl) rfl rfl rfl (skT hb465) (⟨M208, Hp.le_refl M208, S.pick [0, 1, 2] (by decide)⟩) ?_
                refine Wa_take (i := 38) rfl (by kernel_rfl) rfl rfl (.bool false) rfl (fun w' h' => x_pick (k := false) (congrArg Value.bool hb465) rfl) (⟨M208, Hp.le_refl M208, S.pick [0, 1, 2] (by decide)⟩) ?_
                exact hrest _ _ ⟨false, Option.some.inj H, ⟨rfl, rfl, rfl, rfl, trivial⟩, E, S.pick [0, 1, 2] (by decide)⟩
          · intro hrest
            rcases boolCases (x450 && (!t7.2)) with hb454 | hb454
            · skip
              refine Wa_takeN (i := 30) rfl (by kernel_rfl) rfl rfl rfl (skT hb454) (⟨M208, Hp.le_refl M208, S.pick [0, 1, 2] (by decide)⟩) ?_
              refine Wa_take (i := 31) rfl (by kernel_rfl) rfl rfl (.bool false) rfl (fun w' h' => x_pick (k := false) (congrArg Value.bool hb454) rfl) (⟨M208, Hp.le_refl M208, S.pick [0, 1, 2] (by decide)⟩) ?_
              exact hrest _ _ ⟨⟨rfl, rfl, rfl, rfl, (by first | rfl | (rw [hb454]; rfl) | (simp only [hb454]; rfl)), trivial⟩, rfl⟩
            · skip
              refine Wa_takeY (i := 30) rfl (by kernel_rfl) rfl rfl (.bool t14.2) rfl (congrArg some hb454) (fun w' h' => x_move rfl) (⟨M208, Hp.le_refl M208, S.pick [0, 1, 2] (by decide)⟩) ?_
              refine Wa_take (i := 31) rfl (by kernel_rfl) rfl rfl (.bool t14.2) rfl (fun w' h' => x_pick (k := true) (congrArg Value.bool hb454) rfl) (⟨M208, Hp.le_refl M208, S.pick [0, 1, 2] (by decide)⟩) ?_
              exact hrest _ _ ⟨⟨rfl, rfl, rfl, rfl, (by first | rfl | (rw [hb454]; rfl) | (simp only [hb454]; rfl)), trivial⟩, rfl⟩
        · intro hrest
          rcases boolCases x450 with hb453 | hb453
          · skip
            refine Wa_takeN (i := 26) rfl (by kernel_rfl) rfl rfl rfl (skT hb453) (⟨M208, Hp.le_refl M208, S.pick [0, 1, 2] (by decide)⟩) ?_
            refine Wa_takeN (i := 27) rfl (by kernel_rfl) rfl rfl rfl (skT hb453) (⟨M208, Hp.le_refl M208, S.pick [0, 1, 2] (by decide)⟩) ?_
            refine Wa_take (i := 28) rfl (by kernel_rfl) rfl rfl (.bool false) rfl (fun w' h' => x_pick (k := false) (congrArg Value.bool hb453) rfl) (⟨M208, Hp.le_refl M208, S.pick [0, 1, 2] (by decide)⟩) ?_
            exact hrest _ _ ⟨⟨rfl, rfl, rfl, rfl, rfl, (by first | rfl | (rw [hb453]; rfl) | (simp only [hb453]; rfl)), trivial⟩, rfl⟩
          · skip
            refine Wa_takeY (i := 26) rfl (by kernel_rfl) rfl rfl (.bool t7.2) rfl (congrArg some hb453) (fun w' h' => x_move rfl) (⟨M208, Hp.le_refl M208, S.pick [0, 1, 2] (by decide)⟩) ?_
            refine Wa_takeY (i := 27) rfl (by kernel_rfl) rfl rfl (.bool (!t7.2)) rfl (congrArg some hb453) (fun w' h' => x_not rfl) (⟨M208, Hp.le_refl M208, S.pick [0, 1, 2] (by decide)⟩) ?_
            refine Wa_take (i := 28) rfl (by kernel_rfl) rfl rfl (.bool (!t7.2)) rfl (fun w' h' => x_pick (k := true) (congrArg Value.bool hb453) rfl) (⟨M208, Hp.le_refl M208, S.pick [0, 1, 2] (by decide)⟩) ?_
            exact hrest _ _ ⟨⟨rfl, rfl, rfl, rfl, rfl, (by first | rfl | (rw [hb453]; rfl) | (simp only [hb453]; rfl)), trivial⟩, rfl⟩
      · intro hrest
        have H := o451h
        clear o451h o451H
        rcases iteS H with ⟨hb449, H⟩ | ⟨hb449, H⟩
        · skip
          refine Wa_takeY (i := 19) rfl (by kernel_rfl) rfl rfl (.slice A3 t1.length c4) rfl (congrArg some hb449) (fun w' h' => x_move rfl) (⟨M208, Hp.le_refl M208, S.pick [0, 1, 2] (by decide)⟩) ?_
          refine Wa_takeY (i := 21) rfl (by kernel_rfl) rfl rfl (.slice A3 t1.length c4) rfl (congrArg some hb449) (fun w' h' => x_move rfl) (⟨M208, Hp.le_refl M208, S.pick [0, 1, 2] (by decide)⟩) ?_
          obtain ⟨⟨p530, p531⟩, H⟩ := chkS H
          obtain ⟨hs533, hx534⟩ := sl_hi hf210 p530 p531
          have hs533z := hs533
          refine Wa_takeY (i := 22) rfl (by kernel_rfl) rfl rfl (.slice A3 (List.take (1 : Int).toNat t1).length c4) rfl (congrArg some hb449) (fun w' h' => hx534 Try.underlying22 ty27 rfl rfl) (⟨M208, Hp.le_refl M208, S.pick [0, 1, 2] (by decide)⟩) ?_
          refine Wa_solo (i := 20) rfl (by kernel_rfl) ?_
          refine W_yes (congrArg some hb449) ?_
          obtain ⟨t535, ht536, H⟩ := bindS H
          refine W_callF fn11 (keep_Kept.con k M208 A3 c4 t1 (9 : Int) t535 hf210 ht536) S rfl rfl (by rintro _ _ _ ⟨_, _, _, rfl⟩; exact (flat_cons (flat_row (fun _ _ _ _ h => h)) flat_nil)) ?_
          rintro _ w540 _ Γ' E' S ⟨A537, c538, rfl, rfl⟩
          replace E := E.trans E'
          clear E'
          refine Wl_nil (on_n ⟨⟨M208, Hp.le_refl M208, S.pick [1, 2, 3] (by decide)⟩, ?_⟩)
          refine Wa_solo (i := 23) rfl (by kernel_rfl) ?_
          refine W_yes (congrArg some hb449) ?_
          replace S : St w540 M208 F [Row r_api_Version 27 (.slice A537 t535.length c538) t535, Blk b24 (.cells #[.int .i64 t21.1.Writer, .int .i64 t21.1.TS, .bool t21.1.Tomb, .string (bs t21.1.Value)] 27 (0, 0)), Blk b17 (.cells #[.int .i64 t14.1.Writer, .int .i64 t14.1.TS, .bool t14.1.Tomb, .string (bs t14.1.Value)] 27 (0, 0)), Blk b10 (.cells #[.int .i64 t7.1.Writer, .int .i64 t7.1.TS, .bool t7.1.Tomb, .string (bs t7.1.Value)] 27 (0, 0))] := S.pick [0, 1, 2, 3] (by decide)
          obtain ⟨t541, ht542, H⟩ := bindS H
          refine W_callL (Δ := [Row r_api_Version 27 (.slice A537 t535.length c538) t535]) (Γ2 := [Blk b24 (.cells #[.int .i64 t21.1.Writer, .int .i64 t21.1.TS, .bool t21.1.Tomb, .string (bs t21.1.Value)] 27 (0, 0)), Blk b17 (.cells #[.int .i64 t14.1.Writer, .int .i64 t14.1.TS, .bool t14.1.Tomb, .string (bs t14.1.Value)] 27 (0, 0)), Blk b10 (.cells #[.int .i64 t7.1.Writer, .int .i64 t7.1.TS, .bool t7.1.Tomb, .string (bs t7.1.Value)] 27 (0, 0))]) fn15 (fun h9 hs9 hd9 => ferrymanref11_Same.con k _ A537 c538 t535 A3 c4 (List.take (1 : Int).toNat t1) t541 (Sats.row hs9 hd9 0 rfl) (SlR.mono hs533 (Hp.le_union_left _ _)) ht542) S rfl rfl (by rintro _ _ _ ⟨_, rfl⟩; exact flat_nil) ?_
          rintro _ w543 _ Γ' E' S ⟨rfl, rfl⟩
          replace E := E.trans E'
          clear E'
          replace S : St w543 M208 F [Row r_api_Version 27 (.slice A537 t535.length c538) t535, Blk b24 (.cells #[.int .i64 t21.1.Writer, .int .i64 t21.1.TS, .bool t21.1.Tomb, .string (bs t21.1.Value)] 27 (0, 0)), Blk b17 (.cells #[.int .i64 t14.1.Writer, .int .i64 t14.1.TS, .bool t14.1.Tomb, .string (bs t14.1.Value)] 27 (0, 0)), Blk b10 (.cells #[.int .i64 t7.1.Writer, .int .i64 t7.1.TS, .bool t7.1.Tomb, .string (bs t7.1.Value)] 27 (0, 0))] := S
          refine Wl_nil (on_n ⟨⟨M208, Hp.le_refl M208, S.pick [1, 2, 3] (by decide)⟩, ?_⟩)
          refine Wa_take (i := 24) rfl (by kernel_rfl) rfl rfl (.bool t541) rfl (fun w' h' => x_pick (k := true) (congrArg Value.bool hb449) rfl) (⟨M208, Hp.le_refl M208, S.pick [1, 2, 3] (by decide)⟩) ?_
          exact hrest _ _ ⟨t541, Option.some.inj H, ⟨rfl, rfl, rfl, rfl, rfl, rfl, rfl, trivial⟩, E, S.pick [1, 2, 3] (by decide)⟩
        · skip
          refine Wa_takeN (i := 19) rfl (by kernel_rfl) rfl rfl rfl (skT hb449) (⟨M208, Hp.le_refl M208, S.pick [0, 1, 2] (by decide)⟩) ?_
          refine Wa_takeN (i := 20) rfl (by kernel_rfl) rfl rfl rfl (skT hb449) (⟨M208, Hp.le_refl M208, S.pick [0, 1, 2] (by decide)⟩) ?_
          refine Wa_takeN (i := 21) rfl (by kernel_rfl) rfl rfl rfl (skT hb449) (⟨M208, Hp.le_refl M208, S.pick [0, 1, 2] (by decide)⟩) ?_
          refine Wa_takeN (i := 22) rfl (by kernel_rfl) rfl rfl rfl (skT hb449) (⟨M208, Hp.le_refl M208, S.pick [0, 1, 2] (by decide)⟩) ?_
          refine Wa_takeN (i := 23) rfl (by kernel_rfl) rfl rfl rfl (skT hb449) (⟨M208, Hp.le_refl M208, S.pick [0, 1, 2] (by decide)⟩) ?_
          refine Wa_take (i := 24) rfl (by kernel_rfl) rfl rfl (.bool false) rfl (fun w' h' => x_pick (k := false) (congrArg Value.bool hb449) rfl) (⟨M208, Hp.le_refl M208, S.pick [0, 1, 2] (by decide)⟩) ?_
          exact hrest _ _ ⟨false, Option.some.inj H, ⟨rfl, rfl, rfl, rfl, rfl, rfl, rfl, trivial⟩, E, S.pick [0, 1, 2] (by decide)⟩
    · intro hrest
      have H := o433h
      clear o433h o433H
      rcases iteS H with ⟨hb431, H⟩ | ⟨hb431, H⟩
      · skip
        refine Wa_takeY (i := 13) rfl (by kernel_rfl) rfl rfl (.slice A3 t1.length c4) rfl (congrArg some hb431) (fun w' h' => x_move rfl) (⟨M208, Hp.le_refl M208, S.pick [0, 1, 2] (by decide)⟩) ?_
        refine Wa_takeY (i := 15) rfl (by kernel_rfl) rfl rfl (.slice A3 t1.length c4) rfl (congrArg some hb431) (fun w' h' => x_move rfl) (⟨M208, Hp.le_refl M208, S.pick [0, 1, 2] (by decide)⟩) ?_
        refine Wa_solo (i := 14) rfl (by kernel_rfl) ?_
        refine W_yes (congrArg some hb431) ?_
        obtain ⟨t544, ht545, H⟩ := bindS H
        refine W_callF fn11 (keep_Kept.con k M208 A3 c4 t1 (1 : Int) t544 hf210 ht545) S rfl rfl (by rintro _ _ _ ⟨_, _, _, rfl⟩; exact (flat_cons (flat_row (fun _ _ _ _ h => h)) flat_nil)) ?_
        rintro _ w549 _ Γ' E' S ⟨A546, c547, rfl, rfl⟩
        replace E := E.trans E'
        clear E'
        refine Wl_nil (on_n ⟨⟨M208, Hp.le_refl M208, S.pick [1, 2, 3] (by decide)⟩, ?_⟩)
        refine Wa_solo (i := 16) rfl (by kernel_rfl) ?_
        refine W_yes (congrArg some hb431) ?_
        replace S : St w549 M208 F [Row r_api_Version 27 (.slice A546 t544.length c547) t544, Blk b24 (.cells #[.int .i64 t21.1.Writer, .int .i64 t21.1.TS, .bool t21.1.Tomb, .string (bs t21.1.Value)] 27 (0, 0)), Blk b17 (.cells #[.int .i64 t14.1.Writer, .int .i64 t14.1.TS, .bool t14.1.Tomb, .string (bs t14.1.Value)] 27 (0, 0)), Blk b10 (.cells #[.int .i64 t7.1.Writer, .int .i64 t7.1.TS, .bool t7.1.Tomb, .string (bs t7.1.Value)] 27 (0, 0))] := S.pick [0, 1, 2, 3] (by decide)
        obtain ⟨t550, ht551, H⟩ := bindS H
        refine W_callL (Δ := [Row r_api_Version 27 (.slice A546 t544.length c547) t544]) (Γ2 := [Blk b24 (.cells #[.int .i64 t21.1.Writer, .int .i64 t21.1.TS, .bool t21.1.Tomb, .string (bs t21.1.Value)] 27 (0, 0)), Blk b17 (.cells #[.int .i64 t14.1.Writer, .int .i64 t14.1.TS, .bool t14.1.Tomb, .string (bs t14.1.Value)] 27 (0, 0)), Blk b10 (.cells #[.int .i64 t7.1.Writer, .int .i64 t7.1.TS, .bool t7.1.Tomb, .string (bs t7.1.Value)] 27 (0, 0))]) fn15 (fun h9 hs9 hd9 => ferrymanref11_Same.con k _ A546 c547 t544 A3 c4 t1 t550 (Sats.row hs9 hd9 0 rfl) (SlR.mono hf210 (Hp.le_union_left _ _)) ht551) S rfl rfl (by rintro _ _ _ ⟨_, rfl⟩; exact flat_nil) ?_
        rintro _ w552 _ Γ' E' S ⟨rfl, rfl⟩
        replace E := E.trans E'
        clear E'
        replace S : St w552 M208 F [Row r_api_Version 27 (.slice A546 t544.length c547) t544, Blk b24 (.cells #[.int .i64 t21.1.Writer, .int .i64 t21.1.TS, .bool t21.1.Tomb, .string (bs t21.1.Value)] 27 (0, 0)), Blk b17 (.cells #[.int .i64 t14.1.Writer, .int .i64 t14.1.TS, .bool t14.1.Tomb, .string (bs t14.1.Value)] 27 (0, 0)), Blk b10 (.cells #[.int .i64 t7.1.Writer, .int .i64 t7.1.TS, .bool t7.1.Tomb, .string (bs t7.1.Value)] 27 (0, 0))] := S
        refine Wl_nil (on_n ⟨⟨M208, Hp.le_refl M208, S.pick [1, 2, 3] (by decide)⟩, ?_⟩)
        refine Wa_take (i := 17) rfl (by kernel_rfl) rfl rfl (.bool t550) rfl (fun w' h' => x_pick (k := true) (congrArg Value.bool hb431) rfl) (⟨M208, Hp.le_refl M208, S.pick [1, 2, 3] (by decide)⟩) ?_
        exact hrest _ _ ⟨t550, Option.some.inj H, ⟨rfl, rfl, rfl, rfl, rfl, rfl, rfl, trivial⟩, E, S.pick [1, 2, 3] (by decide)⟩
      · skip
        refine Wa_takeN (i := 13) rfl (by kernel_rfl) rfl rfl rfl (skT hb431) (⟨M208, Hp.le_refl M208, S.pick [0, 1, 2] (by decide)⟩) ?_
        refine Wa_takeN (i := 14) rfl (by kernel_rfl) rfl rfl rfl (skT hb431) (⟨M208, Hp.le_refl M208, S.pick [0, 1, 2] (by decide)⟩) ?_
        refine Wa_takeN (i := 15) rfl (by kernel_rfl) rfl rfl rfl (skT hb431) (⟨M208, Hp.le_refl M208, S.pick [0, 1, 2] (by decide)⟩) ?_
        refine Wa_takeN (i := 16) rfl (by kernel_rfl) rfl rfl rfl (skT hb431) (⟨M208, Hp.le_refl M208, S.pick [0, 1, 2] (by decide)⟩) ?_
        refine Wa_take (i := 17) rfl (by kernel_rfl) rfl rfl (.bool false) rfl (fun w' h' => x_pick (k := false) (congrArg Value.bool hb431) rfl) (⟨M208, Hp.le_refl M208, S.pick [0, 1, 2] (by decide)⟩) ?_
        exact hrest _ _ ⟨false, Option.some.inj H, ⟨rfl, rfl, rfl, rfl, rfl, rfl, rfl, trivial⟩, E, S.pick [0, 1, 2] (by decide)⟩
  · intro hrest
    have H := o420h
    clear o420h o420H
    rcases iteS H with ⟨hb418, H⟩ | ⟨hb418, H⟩
    · skip
      refine Wa_takeY (i := 6) rfl (by kernel_rfl) rfl rfl (.slice A3 t1.length c4) rfl (congrArg some hb418) (fun w' h' => x_move rfl) (⟨M208, Hp.le_refl M208, S.pick [1, 2, 3] (by decide)⟩) ?_
      refine Wa_takeY (i := 8) rfl (by kernel_rfl) rfl rfl (.slice A3 t1.length c4) rfl (congrArg some hb418) (fun w' h' => x_move rfl) (⟨M208, Hp.le_refl M208, S.pick [1, 2, 3] (by decide)⟩) ?_
      obtain ⟨⟨p553, p554⟩, H⟩ := chkS H
      obtain ⟨hs556, hx557⟩ := sl_hi hf210 p553 p554
      have hs556z := hs556
      refine Wa_takeY (i := 9) rfl (by kernel_rfl) rfl rfl (.slice A3 (List.take (3 : Int).toNat t1).length c4) rfl (congrArg some hb418) (fun w' h' => hx557 Try.underlying22 ty27 rfl rfl) (⟨M208, Hp.le_refl M208, S.pick [1, 2, 3] (by decide)⟩) ?_
      refine Wa_solo (i := 7) rfl (by kernel_rfl) ?_
      refine W_yes (congrArg some hb418) ?_
      obtain ⟨t558, ht559, H⟩ := bindS H
      refine W_callF fn11 (keep_Kept.con k M208 A3 c4 t1 (5 : Int) t558 hf210 ht559) S rfl rfl (by rintro _ _ _ ⟨_, _, _, rfl⟩; exact (flat_cons (flat_row (fun _ _ _ _ h => h)) flat_nil)) ?_
      rintro _ w563 _ Γ' E' S ⟨A560, c561, rfl, rfl⟩
      replace E := E.trans E'
      clear E'
      refine Wl_nil (on_n ⟨⟨M208, Hp.le_refl M208, S.pick [2, 3, 4] (by decide)⟩, ?_⟩)
      refine Wa_solo (i := 10) rfl (by kernel_rfl) ?_
      refine W_yes (congrArg some hb418) ?_
      replace S : St w563 M208 F [Row r_api_Version 27 (.slice A560 t558.length c561) t558, Row r_api_Version 27 (.slice A397 t395.length c398) t395, Blk b24 (.cells #[.int .i64 t21.1.Writer, .int .i64 t21.1.TS, .bool t21.1.Tomb, .string (bs t21.1.Value)] 27 (0, 0)), Blk b17 (.cells #[.int .i64 t14.1.Writer, .int .i64 t14.1.TS, .bool t14.1.Tomb, .string (bs t14.1.Value)] 27 (0, 0)), Blk b10 (.cells #[.int .i64 t7.1.Writer, .int .i64 t7.1.TS, .bool t7.1.Tomb, .string (bs t7.1.Value)] 27 (0, 0))] := S.pick [0, 1, 2, 3, 4] (by decide)
      obtain ⟨t564, ht565, H⟩ := bindS H
      refine W_callL (Δ := [Row r_api_Version 27 (.slice A560 t558.length c561) t558]) (Γ2 := [Row r_api_Version 27 (.slice A397 t395.length c398) t395, Blk b24 (.cells #[.int .i64 t21.1.Writer, .int .i64 t21.1.TS, .bool t21.1.Tomb, .string (bs t21.1.Value)] 27 (0, 0)), Blk b17 (.cells #[.int .i64 t14.1.Writer, .int .i64 t14.1.TS, .bool t14.1.Tomb, .string (bs t14.1.Value)] 27 (0, 0)), Blk b10 (.cells #[.int .i64 t7.1.Writer, .int .i64 t7.1.TS, .bool t7.1.Tomb, .string (bs t7.1.Value)] 27 (0, 0))]) fn15 (fun h9 hs9 hd9 => ferrymanref11_Same.con k _ A560 c561 t558 A3 c4 (List.take (3 : Int).toNat t1) t564 (Sats.row hs9 hd9 0 rfl) (SlR.mono hs556 (Hp.le_union_left _ _)) ht565) S rfl rfl (by rintro _ _ _ ⟨_, rfl⟩; exact flat_nil) ?_
      rintro _ w566 _ Γ' E' S ⟨rfl, rfl⟩
      replace E := E.trans E'
      clear E'
      replace S : St w566 M208 F [Row r_api_Version 27 (.slice A560 t558.length c561) t558, Row r_api_Version 27 (.slice A397 t395.length c398) t395, Blk b24 (.cells #[.int .i64 t21.1.Writer, .int .i64 t21.1.TS, .bool t21.1.Tomb, .string (bs t21.1.Value)] 27 (0, 0)), Blk b17 (.cells #[.int .i64 t14.1.Writer, .int .i64 t14.1.TS, .bool t14.1.Tomb, .string (bs t14.1.Value)] 27 (0, 0)), Blk b10 (.cells #[.int .i64 t7.1.Writer, .int .i64 t7.1.TS, .bool t7.1.Tomb, .string (bs t7.1.Value)] 27 (0, 0))] := S
      refine Wl_nil (on_n ⟨⟨M208, Hp.le_refl M208, S.pick [2, 3, 4] (by decide)⟩, ?_⟩)
      refine Wa_take (i := 11) rfl (by kernel_rfl) rfl rfl (.bool t564) rfl (fun w' h' => x_pick (k := true) (congrArg Value.bool hb418) rfl) (⟨M208, Hp.le_refl M208, S.pick [2, 3, 4] (by decide)⟩) ?_
      exact hrest _ _ ⟨t564, Option.some.inj H, ⟨rfl, rfl, rfl, rfl, rfl, rfl, rfl, trivial⟩, E, S.pick [2, 3, 4] (by decide)⟩
    · skip
      refine Wa_takeN (i := 6) rfl (by kernel_rfl) rfl rfl rfl (skT hb418) (⟨M208, Hp.le_refl M208, S.pick [1, 2, 3] (by decide)⟩) ?_
      refine Wa_takeN (i := 7) rfl (by kernel_rfl) rfl rfl rfl (skT hb418) (⟨M208, Hp.le_refl M208, S.pick [1, 2, 3] (by decide)⟩) ?_
      refine Wa_takeN (i := 8) rfl (by kernel_rfl) rfl rfl rfl (skT hb418) (⟨M208, Hp.le_refl M208, S.pick [1, 2, 3] (by decide)⟩) ?_
      refine Wa_takeN (i := 9) rfl (by kernel_rfl) rfl rfl rfl (skT hb418) (⟨M208, Hp.le_refl M208, S.pick [1, 2, 3] (by decide)⟩) ?_
      refine Wa_takeN (i := 10) rfl (by kernel_rfl) rfl rfl rfl (skT hb418) (⟨M208, Hp.le_refl M208, S.pick [1, 2, 3] (by decide)⟩) ?_
      refine Wa_take (i := 11) rfl (by kernel_rfl) rfl rfl (.bool false) rfl (fun w' h' => x_pick (k := false) (congrArg Value.bool hb418) rfl) (⟨M208, Hp.le_refl M208, S.pick [1, 2, 3] (by decide)⟩) ?_
      exact hrest _ _ ⟨false, Option.some.inj H, ⟨rfl, rfl, rfl, rfl, rfl, rfl, rfl, trivial⟩, E, S.pick [1, 2, 3] (by decide)⟩
/-! ### slices.Backward[[]ferryman/api.Version,ferryman/api.Version]$1: function 28 -/
def slices_Backward_api_Version_api_Version_1_l0 {σ ε : Type} (a0 : (List api_Version)) (bd : Int × api_Version → σ → Option (σ ⊕ ε)) : Nat → Int → σ ⊕ ε → Option ((σ ⊕ ε) ⊕ (σ ⊕ ε))
  | 0, _, _ => none
  | k + 1, x43, x44 => (if (decide (x43 ≥ (0 : Int))) = true then (if 0 ≤ x43 ∧ x43 < (a0.length : Int) then (Option.bind (toL x44) (fun s80 => Option.bind (bd (x43, (rd a0 x43)) s80) (fun t82 => (if (!(isNorm t82)) = true then some (.inl t82) else slices_Backward_api_Version_api_Version_1_l0 a0 bd k (IntKind.i64.wrap (x43 - (1 : Int))) t82)))) else none) else some (.inr (x44)))
set_option maxHeartbeats 2000000 in
theorem slices_Backward_api_Version_api_Version_1_l0.mono {σ ε : Type} {a0 : (List api_Version)} {bd bd' : Int × api_Version → σ → Option (σ ⊕ ε)} (hbd : ∀ x s, OLe (bd x s) (bd' x s)) : ∀ {k : Nat} {x0 x1}, OLe (slices_Backward_api_Version_api_Version_1_l0 a0 bd k x0 x1) (slices_Backward_api_Version_api_Version_1_l0 a0 bd' (k + 1) x0 x1) := by
  intro k
  induction k with
  | zero => intros; exact OLe.none
  | succ k ih =>
    intros
    rw [slices_Backward_api_Version_api_Version_1_l0.eq_2, slices_Backward_api_Version_api_Version_1_l0.eq_2]
    repeat' (first | with_reducible exact OLe.none | with_reducible exact OLe.some | with_reducible refine OLe.ite ?_ ?_ | with_reducible refine OLe.bind ?_ (fun _ => ?_) | exact OLe.toL | exact hbd _ _ | exact ih | refine OLe.bind ?_ (fun _ => ?_) | refine OLe.ite ?_ ?_ | refine OLe.elim (fun _ => ?_) (fun _ => ?_) | split)
def slices_Backward_api_Version_api_Version_1 {σ ε : Type} (k : Nat) (a0 : (List api_Version)) (bd : Int × api_Version → σ → Option (σ ⊕ ε)) (s0 : σ) : Option (σ ⊕ ε) :=
  (Option.bind (slices_Backward_api_Version_api_Version_1_l0 a0 bd k (IntKind.i64.wrap ((a0.length : Int) - (1 : Int))) (.inl s0)) (fun o65o => Sum.elim (fun r' => some r') (fun x64 => some x64) o65o))
set_option maxHeartbeats 2000000 in
theorem slices_Backward_api_Version_api_Version_1.mono {σ ε : Type} {k : Nat} {a0 : (List api_Version)} {bd bd' : Int × api_Version → σ → Option (σ ⊕ ε)} (hbd : ∀ x s, OLe (bd x s) (bd' x s)) {s0 : σ} : OLe (slices_Backward_api_Version_api_Version_1 k a0 bd s0) (slices_Backward_api_Version_api_Version_1 (k + 1) a0 bd' s0) := by
  unfold slices_Backward_api_Version_api_Version_1
  repeat' (first | with_reducible exact OLe.none | with_reducible exact OLe.some | with_reducible refine OLe.ite ?_ ?_ | with_reducible refine OLe.bind ?_ (fun _ => ?_) | with_reducible exact slices_Backward_api_Version_api_Version_1_l0.mono hbd | exact OLe.toL | exact hbd _ _ | refine OLe.bind ?_ (fun _ => ?_) | refine OLe.ite ?_ ?_ | refine OLe.elim (fun _ => ?_) (fun _ => ?_) | split)
set_option maxHeartbeats 1000000 in
set_option maxRecDepth 100000 in
theorem slices_Backward_api_Version_api_Version_1.con {σ ε : Type} (k : Nat) (M : Hp) (A0 : Option Addr) (c0 : Nat) (a0 : (List api_Version)) (b0 : Nat) (bd : Int × api_Version → σ → Option (σ ⊕ ε)) (s0 : σ) (r : σ ⊕ ε) (hr0 : SlR r_api_Version M (.slice A0 a0.length c0) a0) (h : slices_Backward_api_Version_api_Version_1 k a0 bd s0 = some r) : Iter Try.prog 28 [.pointer (some ⟨b0, 0, none⟩)] M (fun (M : Hp) (x : Int × api_Version) (vs : List Value) => vs = [.int .i64 x.1, .agg #[.int .i64 x.2.Writer, .int .i64 x.2.TS, .bool x.2.Tomb, .string (bs x.2.Value)]]) bd s0 r [Blk b0 (.cells #[.slice A0 a0.length c0] 22 (0, 0))] (fun M' Γ' => Γ' = [Blk b0 (.cells #[.slice A0 a0.length c0] 22 (0, 0))]) := by
  intro lp B hY
  refine con_of_wp Try.func28 rfl Try.ntmps28 Try.results28 rfl ?_
  intro w F rn S hrn
  have E := Ext.refl w
  have HM := Hp.le_refl M
  have H := h
  unfold slices_Backward_api_Version_api_Version_1 at H
  refine Wp_seq ?_
  refine Wp_region_lit ?_
  refine W_v (.slice A0 a0.length c0) (x_load (S.blk 1 rfl) ty22 rfl rfl) rfl ?_
  refine W_v (.int .i64 (a0.length : Int)) (x_len_slice (n := a0.length) Try.underlying22 rfl) rfl ?_
  refine W_v (.int .i64 (IntKind.i64.wrap ((a0.length : Int) - (1 : Int)))) (x_ibin rfl rfl rfl rfl) rfl ?_
  refine W_v (.int .i64 (IntKind.i64.wrap ((a0.length : Int) - (1 : Int)))) (x_assign rfl) rfl ?_
  refine Wl_nil ?_
  refine tn ?_
  obtain ⟨o65, o65h, o65H⟩ := bindS H
  clear H
  refine Wp_blockJ (fun ρ w' => ∃ (x64 : σ ⊕ ε) (Mj : Hp), .inr (x64) = o65 ∧ Agree ρ [] ∧ M.le Mj ∧ Ext w w' ∧ St w' Mj F [Blk b0 (.cells #[.slice A0 a0.length c0] 22 (0, 0)), B x64]) ?_ ?_
  · skip
    refine Wp_loop (fun n ρ w' => ∃ (x43 : Int) (x44 : σ ⊕ ε) (Mj : Hp), slices_Backward_api_Version_api_Version_1_l0 a0 bd n x43 x44 = some o65 ∧ Agree ρ [(0, .func (.yield lp) #[] #[]), (1, .pointer (some ⟨b0, 0, none⟩)), (3, .int .i64 x43)] ∧ M.le Mj ∧ Ext w w' ∧ St w' Mj F [Blk b0 (.cells #[.slice A0 a0.length c0] 22 (0, 0)), B x44]) k ?_ ?_
    · skip
      exact ⟨(IntKind.i64.wrap ((a0.length : Int) - (1 : Int))), (.inl s0), M, o65h, ⟨rfl, rfl, rfl, trivial⟩, (Hp.le_refl M), E, S.pick [1, 0] (by decide)⟩
    · intro n
      rintro ρ w66 ⟨x43, x44, M67, H, hρ, hM68, E, S⟩
      rw [agree_eta hρ]
      clear hρ
      replace HM := Hp.le_trans HM hM68
      replace hr0 := SlR.mono hr0 hM68
      cases n with
      | zero => cases H
      | succ k =>
        rw [slices_Backward_api_Version_api_Version_1_l0.eq_2] at H
        refine Wp_seq ?_
        refine Wp_seq ?_
        refine Wp_region_lit ?_
        refine W_v (.int .i64 x43) (x_move rfl) rfl ?_
        refine W_v (.bool (decide (x43 ≥ (0 : Int)))) (x_ibin rfl rfl rfl rfl) rfl ?_
        refine Wl_nil ?_
        refine tn ?_
        rcases iteS H with ⟨hb69, H⟩ | ⟨hb69, H⟩
        · refine Wp_cond_true (congrArg Value.bool hb69) ?_
          refine Wp_skip ?_
          refine tn ?_
          refine Wp_seq ?_
          refine Wp_block ?_
          refine Wp_seq ?_
          refine Wp_region_lit ?_
          refine W_v (.func (.yield lp) #[] #[]) (x_move rfl) rfl ?_
          refine W_v (.int .i64 x43) (x_move rfl) rfl ?_
          refine W_v (.slice A0 a0.length c0) (x_load (S.blk 0 rfl) ty22 rfl rfl) rfl ?_
          refine W_v (.int .i64 x43) (x_move rfl) rfl ?_
          obtain ⟨⟨p70, p71⟩, H⟩ := chkS H
          obtain ⟨b72, o73, cs74, _, _, ee79, hb75, vs76, hR77, hc78⟩ := SlW.at' hr0 p70 p71
          obtain rfl : vs76 = _ := hR77
          refine W_v (.pointer (some ⟨b72, o73 + x43.toNat * 4, none⟩)) (x_indexAddr Try.underlying22 ty27 (slA ee79) rfl p70 p71) rfl ?_
          refine W_v (.agg #[.int .i64 ((rd a0 x43).Writer), .int .i64 ((rd a0 x43).TS), .bool ((rd a0 x43).Tomb), .string (bs ((rd a0 x43).Value))]) (x_loadA (S.frz hb75) ty27 rfl (sub_el hc78 0 rfl) rfl rfl) rfl ?_
          obtain ⟨s80, hs81, H⟩ := bindS H
          obtain ⟨t82, ht83, H⟩ := bindS H
          rw [toL_eq hs81] at S
          replace S : St w66 M67 F [B (.inl s80), Blk b0 (.cells #[.slice A0 a0.length c0] 22 (0, 0))] := S.pick [1, 0] (by decide)
          refine W_yield rfl (hY _ (x43, (rd a0 x43)) _ s80 t82 HM (rfl) ht83) S rfl rfl ?_
          rintro _ w84 M85 _ hM86 E' S ⟨rfl, rfl⟩
          replace HM := Hp.le_trans HM hM86
          replace hM68 := Hp.le_trans hM68 hM86
          replace hr0 := SlR.mono hr0 hM86
          replace hb75 := hM86 _ _ hb75
          replace E := E.trans E'
          clear E'
          refine W_v (.bool (!(isNorm t82))) (x_not rfl) rfl ?_
          refine Wl_nil ?_
          refine tn ?_
          rcases iteS H with ⟨hb87, H⟩ | ⟨hb87, H⟩
          · refine Wp_cond_true (congrArg Value.bool hb87) ?_
            refine Wp_ret ?_
            refine br (tr (tr (br (tr (?_)))))
            obtain rfl := Option.some.inj H
            have H := o65H
            replace H := elimL H
            obtain rfl := Option.some.inj H
            exact ⟨_, _, _, fun w1 e1 => run_resR (vs := []) FA.nil, HM, E, S.pick [0, 1] (by decide), ⟨_, rfl, rfl⟩⟩
          · refine Wp_cond_false (congrArg Value.bool hb87) ?_
            refine Wp_skip ?_
            refine bn ?_
            refine tn ?_
            refine Wp_region_lit ?_
            refine W_v (.int .i64 x43) (x_move rfl) rfl ?_
            refine W_v (.int .i64 (IntKind.i64.wrap (x43 - (1 : Int)))) (x_ibin rfl rfl rfl rfl) rfl ?_
            refine W_v (.int .i64 (IntKind.i64.wrap (x43 - (1 : Int)))) (x_assign rfl) rfl ?_
            refine Wl_nil ?_
            refine tn ?_
            exact ⟨k, Nat.lt_succ_self k, ⟨(IntKind.i64.wrap (x43 - (1 : Int))), t82, M85, H, ⟨rfl, rfl, rfl, trivial⟩, hM68, E, S.pick [1, 0] (by decide)⟩⟩
        · refine Wp_cond_false (congrArg Value.bool hb69) ?_
          refine Wp_exit ?_
          refine tx (tx (bsm (?_)))
          refine tn ?_
          exact ⟨x44, M67, Option.some.inj H, trivial, hM68, E, S.pick [0, 1] (by decide)⟩
  · clear o65h
    rintro ρ w88 ⟨x64, M89, rfl, hρ, hM90, E, S⟩
    rw [agree_eta hρ]
    clear hρ
    replace HM := Hp.le_trans HM hM90
    replace hr0 := SlR.mono hr0 hM90
    have H := o65H
    clear o65H
    replace H := elimR H
    obtain rfl := Option.some.inj H
    exact ⟨_, _, _, fun w1 e1 => run_resR (vs := []) FA.nil, HM, E, S.pick [1, 0] (by decide), ⟨_, rfl, rfl⟩⟩
/-! ### slices.Backward[[]ferryman/api.Version,ferryman/api.Version]: function 24 -/
def slices_Backward_api_Version_api_Version (k : Nat) (a0 : (List api_Version)) : Option (Unit) :=
  some ()
set_option maxHeartbeats 2000000 in
theorem slices_Backward_api_Version_api_Version.mono {k : Nat} {a0 : (List api_Version)} : OLe (slices_Backward_api_Version_api_Version k a0) (slices_Backward_api_Version_api_Version (k + 1) a0) := by
  unfold slices_Backward_api_Version_api_Version
  repeat' (first | with_reducible exact OLe.none | with_reducible exact OLe.some | with_reducible refine OLe.ite ?_ ?_ | with_reducible refine OLe.bind ?_ (fun _ => ?_) | refine OLe.bind ?_ (fun _ => ?_) | refine OLe.ite ?_ ?_ | refine OLe.elim (fun _ => ?_) (fun _ => ?_) | split)
set_option maxHeartbeats 1000000 in
set_option maxRecDepth 100000 in
theorem slices_Backward_api_Version_api_Version.con (k : Nat) (M : Hp) (A0 : Option Addr) (c0 : Nat) (a0 : (List api_Version)) (r : Unit) (hr0 : SlR r_api_Version M (.slice A0 a0.length c0) a0) (h : slices_Backward_api_Version_api_Version k a0 = some r) : Con Try.prog 24 #[.slice A0 a0.length c0] M [] (fun v M' Γ' => ∃ (b1 : Nat), v = .func (.func 28) #[] #[.pointer (some ⟨b1, 0, none⟩)] ∧ Γ' = [Blk b1 (.cells #[.slice A0 a0.length c0] 22 (0, 0))]) := by
  refine con_of_wp Try.func24 rfl Try.ntmps24 Try.results24 rfl ?_
  intro w F rn S hrn
  have E := Ext.refl w
  have HM := Hp.le_refl M
  have H := h
  unfold slices_Backward_api_Version_api_Version at H
  refine Wp_seq ?_
  refine Wp_region_lit ?_
  refine W_box S #[.slice A0 a0.length c0] rfl rfl rfl ?_
  intro b1 w2 E' S
  replace E := E.trans E'
  clear E'
  refine W_v (.nilFunc) (x_assign rfl) rfl ?_
  refine Wl_nil ?_
  refine tn ?_
  refine Wp_seq ?_
  refine Wp_region_lit ?_
  refine W_v (.func (.func 28) #[] #[.pointer (some ⟨b1, 0, none⟩)]) (x_makeFunc rfl) rfl ?_
  refine W_v (.func (.func 28) #[] #[.pointer (some ⟨b1, 0, none⟩)]) (x_assign rfl) rfl ?_
  refine Wl_nil ?_
  refine tn ?_
  refine Wp_ret ?_
  obtain rfl := Option.some.inj H
  exact ⟨_, _, _, fun w1 e1 => run_resR (vs := [.func (.func 28) #[] #[.pointer (some ⟨b1, 0, none⟩)]]) (FA.cons rfl FA.nil), HM, E, S.pick [0] (by decide), ⟨b1, rfl, rfl⟩⟩
/-! ### ferryman/keep.Legal: function 14 -/
def keep_Legal_b0 (k : Nat) : (Int × api_Version) → Int → Option ((Int) ⊕ (Unit))
  | (y46, y47), x33 => (if (decide (y47.TS ≤ x33)) = true then some (.inr ()) else some (.inl y47.TS))
set_option maxHeartbeats 2000000 in
theorem keep_Legal_b0.mono {k : Nat} : ∀ x s, OLe (keep_Legal_b0  k x s) (keep_Legal_b0  (k + 1) x s) := by
  intro x s
  unfold keep_Legal_b0
  repeat' (first | with_reducible exact OLe.none | with_reducible exact OLe.some | with_reducible refine OLe.ite ?_ ?_ | with_reducible refine OLe.bind ?_ (fun _ => ?_) | refine OLe.bind ?_ (fun _ => ?_) | refine OLe.ite ?_ ?_ | refine OLe.elim (fun _ => ?_) (fun _ => ?_) | split)
def keep_Legal (k : Nat) (a0 : (List api_Version)) : Option (Bool) :=
  (Option.bind (slices_Backward_api_Version_api_Version k a0) (fun t8 => (Option.bind (slices_Backward_api_Version_api_Version_1 k a0 (keep_Legal_b0 k) (0 : Int)) (fun o43o => Sum.elim (fun x33 => some true) (fun _ => some false) o43o))))
set_option maxHeartbeats 2000000 in
theorem keep_Legal.mono {k : Nat} {a0 : (List api_Version)} : OLe (keep_Legal k a0) (keep_Legal (k + 1) a0) := by
  unfold keep_Legal
  repeat' (first | with_reducible exact OLe.none | with_reducible exact OLe.some | with_reducible refine OLe.ite ?_ ?_ | with_reducible refine OLe.bind ?_ (fun _ => ?_) | with_reducible exact keep_Legal_b0.mono | with_reducible exact slices_Backward_api_Version_api_Version.mono | exact slices_Backward_api_Version_api_Version_1.mono (fun _ _ => by first | exact keep_Legal_b0.mono _ _) | refine OLe.bind ?_ (fun _ => ?_) | refine OLe.ite ?_ ?_ | refine OLe.elim (fun _ => ?_) (fun _ => ?_) | split)
set_option maxHeartbeats 1000000 in
set_option maxRecDepth 100000 in
theorem keep_Legal.con (k : Nat) (M : Hp) (A0 : Option Addr) (c0 : Nat) (a0 : (List api_Version)) (r : Bool) (hr0 : SlR r_api_Version M (.slice A0 a0.length c0) a0) (h : keep_Legal k a0 = some r) : Con Try.prog 14 #[.slice A0 a0.length c0] M [] (fun v M' Γ' => v = .bool r ∧ Γ' = []) := by
  refine con_of_wp Try.func14 rfl Try.ntmps14 Try.results14 rfl ?_
  intro w F rn S hrn
  have E := Ext.refl w
  have HM := Hp.le_refl M
  have H := h
  unfold keep_Legal at H
  refine Wp_seq ?_
  refine Wp_region_lit ?_
  refine W_alloc S #[.bool false] ty4 rfl rfl ?_
  intro b1 w2 E' S
  replace E := E.trans E'
  clear E'
  refine Wl_nil ?_
  refine tn ?_
  refine Wp_seq ?_
  refine Wp_region_lit ?_
  refine W_alloc S #[.int .i64 0] ty3 rfl rfl ?_
  intro b4 w5 E' S
  replace E := E.trans E'
  clear E'
  refine W_store S 0 rfl ty3 rfl rfl [.int .i64 0] rfl rfl rfl #[.int .i64 0] rfl rfl ?_
  intro w7 E' S
  replace E := E.trans E'
  clear E'
  refine Wl_nil ?_
  refine tn ?_
  refine Wp_seq ?_
  refine Wp_seq ?_
  refine Wp_region_lit ?_
  refine W_v (.slice A0 a0.length c0) (x_move rfl) rfl ?_
  obtain ⟨t8, ht9, H⟩ := bindS H
  refine W_callF fn24 (slices_Backward_api_Version_api_Version.con k M A0 c0 a0 t8 hr0 ht9) S rfl rfl (by rintro _ _ _ ⟨_, rfl, rfl⟩; exact (flat_cons flat_blk flat_nil)) ?_
  rintro _ w12 _ Γ' E' S ⟨b10, rfl, rfl⟩
  replace E := E.trans E'
  clear E'
  replace S : St w12 M F [Blk b10 (.cells #[.slice A0 a0.length c0] 22 (0, 0)), Blk b4 (.cells #[.int .i64 0] 3 (0, 0)), Blk b1 (.cells #[.bool false] 4 (0, 0))] := S
  refine Wl_nil ?_
  refine tn ?_
  refine Wp_block ?_
  obtain ⟨o43, o43h, o43H⟩ := bindS H
  clear H
  refine Wp_rangeFunc (σ := Int) (ε := Unit) (Γi := [Blk b10 (.cells #[.slice A0 a0.length c0] 22 (0, 0))]) (Γr := []) (Sum.elim (fun x33 => AE (ι := Unit) (fun (i : Unit) => [Blk b4 (.cells #[.int .i64 x33] 3 (0, 0)), Blk b1 (.cells #[.bool false] 4 (0, 0))]) (fun _ _ => True) (fun _ _ _ _ _ => trivial)) (fun _ => AE (ι := Unit) (fun (i : Unit) => [Blk b1 (.cells #[.bool false] 4 (0, 0))]) (fun _ _ => True) (fun _ _ _ _ _ => trivial))) (fun _ => Code.ret) fn28 rfl (St.close_ex (φ := (fun _ _ => True)) (hφ := (fun _ _ _ _ _ => trivial)) () trivial (S.pick [1, 2, 0] (by decide))) (by rintro _ _ _ rfl; rfl) (by decide) (slices_Backward_api_Version_api_Version_1.con k M A0 c0 a0 b10 (keep_Legal_b0 k) (0 : Int) o43 hr0 o43h) ?_ ?_
  · intro nn lp M44 F yy vs x33 tt w hM45 henc hbd S
    obtain ⟨y46, y47⟩ := yy
    obtain rfl := henc
    replace HM := Hp.le_trans HM hM45
    replace hr0 := SlR.mono hr0 hM45
    replace S : St w M44 F (AE (ι := Unit) (fun (i : Unit) => [Blk b4 (.cells #[.int .i64 x33] 3 (0, 0)), Blk b1 (.cells #[.bool false] 4 (0, 0))]) (fun _ _ => True) (fun _ _ _ _ _ => trivial) :: []) := S
    obtain ⟨_, _, S⟩ := S.open_ex
    replace S : St w M44 F [Blk b4 (.cells #[.int .i64 x33] 3 (0, 0)), Blk b1 (.cells #[.bool false] 4 (0, 0))] := S
    have E := Ext.refl w
    have LE48 := Hp.le_refl M44
    have H := hbd
    rw [keep_Legal_b0.eq_1] at H
    refine Wp_region_lit ?_
    refine W_alloc S #[.int .i64 0, .int .i64 0, .bool false, .string (bs ([] : Str))] ty27 rfl rfl ?_
    intro b49 w50 E' S
    replace E := E.trans E'
    clear E'
    refine W_store S 0 rfl ty27 rfl rfl [.int .i64 y47.Writer, .int .i64 y47.TS, .bool y47.Tomb, .string (bs y47.Value)] rfl rfl rfl #[.int .i64 y47.Writer, .int .i64 y47.TS, .bool y47.Tomb, .string (bs y47.Value)] rfl rfl ?_
    intro w52 E' S
    replace E := E.trans E'
    clear E'
    refine Wl_nil ?_
    refine on_n ⟨_, _, LE48, E, S, ?_⟩
    intro w F E3 S
    have E := Ext.refl w
    have LE53 := Hp.le_refl M44
    refine Wp_block ?_
    refine Wp_seq ?_
    refine Wp_seq ?_
    refine Wp_region_lit ?_
    refine W_v (.pointer (some ⟨b49, 1, none⟩)) (x_fieldAddr (o := 0) (off := 1) Try.underlying27 rfl ty3 rfl rfl) rfl ?_
    refine W_v (.int .i64 y47.TS) (x_load (S.blk 0 rfl) ty3 rfl rfl) rfl ?_
    refine W_v (.int .i64 x33) (x_load (S.blk 1 rfl) ty3 rfl rfl) rfl ?_
    refine W_v (.bool (decide (y47.TS ≤ x33))) (x_ibin rfl rfl rfl rfl) rfl ?_
    refine Wl_nil ?_
    refine tn ?_
    rcases iteS H with ⟨hb54, H⟩ | ⟨hb54, H⟩
    · refine Wp_cond_true (congrArg Value.bool hb54) ?_
      refine Wp_seq ?_
      refine Wp_region_lit ?_
      refine W_store S 2 rfl ty4 rfl rfl [.bool false] rfl rfl rfl #[.bool false] rfl rfl ?_
      intro w55 E' S
      replace E := E.trans E'
      clear E'
      refine Wl_nil ?_
      refine tn ?_
      refine Wp_ret ?_
      refine tr (br (?_))
      obtain rfl := Option.some.inj H
      exact endB_mk rfl LE53 E (St.close_ex (φ := (fun _ _ => True)) (hφ := (fun _ _ _ _ _ => trivial)) () trivial (S.pick [2] (by decide)))
    · refine Wp_cond_false (congrArg Value.bool hb54) ?_
      refine Wp_skip ?_
      refine tn ?_
      refine Wp_region_lit ?_
      refine W_v (.pointer (some ⟨b49, 1, none⟩)) (x_fieldAddr (o := 0) (off := 1) Try.underlying27 rfl ty3 rfl rfl) rfl ?_
      refine W_v (.int .i64 y47.TS) (x_load (S.blk 0 rfl) ty3 rfl rfl) rfl ?_
      refine W_store S 1 rfl ty3 rfl rfl [.int .i64 y47.TS] rfl rfl rfl #[.int .i64 y47.TS] rfl rfl ?_
      intro w56 E' S
      replace E := E.trans E'
      clear E'
      refine Wl_nil ?_
      refine bn ?_
      obtain rfl := Option.some.inj H
      exact endB_mk trivial LE53 E (St.close_ex (φ := (fun _ _ => True)) (hφ := (fun _ _ _ _ _ => trivial)) () trivial (S.pick [1, 2] (by decide)))
  · intro w57 M58 Γ' hM59 E' hΨ S
    obtain rfl : Γ' = _ := hΨ
    replace E := E.trans E'
    clear E'
    replace HM := Hp.le_trans HM hM59
    replace hr0 := SlR.mono hr0 hM59
    have H := o43H
    clear o43H
    rcases o43 with x33 | _
    · replace H := elimL H
      refine afterR_l ?_
      replace S : St w57 M58 F (AE (ι := Unit) (fun (i : Unit) => [Blk b4 (.cells #[.int .i64 x33] 3 (0, 0)), Blk b1 (.cells #[.bool false] 4 (0, 0))]) (fun _ _ => True) (fun _ _ _ _ _ => trivial) :: [Blk b10 (.cells #[.slice A0 a0.length c0] 22 (0, 0))]) := S
      obtain ⟨_, _, S⟩ := S.open_ex
      replace S : St w57 M58 F [Blk b4 (.cells #[.int .i64 x33] 3 (0, 0)), Blk b1 (.cells #[.bool false] 4 (0, 0)), Blk b10 (.cells #[.slice A0 a0.length c0] 22 (0, 0))] := S
      refine bn ?_
      refine tn ?_
      refine Wp_seq ?_
      refine Wp_region_lit ?_
      refine W_store S 1 rfl ty4 rfl rfl [.bool true] rfl rfl rfl #[.bool true] rfl rfl ?_
      intro w60 E' S
      replace E := E.trans E'
      clear E'
      refine Wl_nil ?_
      refine tn ?_
      refine Wp_ret ?_
      obtain rfl := Option.some.inj H
      exact ⟨_, _, _, fun w1 e1 => run_resR (vs := [.bool true]) (FA.cons (⟨_, rfl, run_loadVar_one ty4 ((S.of_eq e1).blk 1 rfl) rfl⟩) (FA.nil)), HM, E, S.pick [] (by decide), ⟨rfl, rfl⟩⟩
    · replace H := elimR H
      refine afterR_r ?_
      replace S : St w57 M58 F (AE (ι := Unit) (fun (i : Unit) => [Blk b1 (.cells #[.bool false] 4 (0, 0))]) (fun _ _ => True) (fun _ _ _ _ _ => trivial) :: [Blk b10 (.cells #[.slice A0 a0.length c0] 22 (0, 0))]) := S
      obtain ⟨_, _, S⟩ := S.open_ex
      replace S : St w57 M58 F [Blk b1 (.cells #[.bool false] 4 (0, 0)), Blk b10 (.cells #[.slice A0 a0.length c0] 22 (0, 0))] := S
      refine Wp_ret ?_
      refine br (tr (?_))
      obtain rfl := Option.some.inj H
      exact ⟨_, _, _, fun w1 e1 => run_resR (vs := [.bool false]) (FA.cons (⟨_, rfl, run_loadVar_one ty4 ((S.of_eq e1).blk 0 rfl) rfl⟩) (FA.nil)), HM, E, S.pick [] (by decide), ⟨rfl, rfl⟩⟩
/-! ### slices.Equal[[]ferryman/api.Version,ferryman/api.Version]: function 25 -/
def slices_Equal_api_Version_api_Version_l0 (a0 : (List api_Version)) (a1 : (List api_Version)) : Nat → Int → Option ((Bool) ⊕ (Unit))
  | 0, _ => none
  | k + 1, x92 => (if (decide (x92 < (a0.length : Int))) = true then (if 0 ≤ x92 ∧ x92 < (a0.length : Int) then (if 0 ≤ x92 ∧ x92 < (a1.length : Int) then (if (!(((rd a0 x92).Writer == (rd a1 x92).Writer) && (((rd a0 x92).TS == (rd a1 x92).TS) && (((rd a0 x92).Tomb == (rd a1 x92).Tomb) && ((rd a0 x92).Value == (rd a1 x92).Value))))) = true then some (.inl false) else slices_Equal_api_Version_api_Version_l0 a0 a1 k (IntKind.i64.wrap (x92 + (1 : Int)))) else none) else none) else some (.inr ()))
set_option maxHeartbeats 2000000 in
theorem slices_Equal_api_Version_api_Version_l0.mono {a0 : (List api_Version)} {a1 : (List api_Version)} : ∀ {k : Nat} {x0}, OLe (slices_Equal_api_Version_api_Version_l0 a0 a1 k x0) (slices_Equal_api_Version_api_Version_l0 a0 a1 (k + 1) x0) := by
  intro k
  induction k with
  | zero => intros; exact OLe.none
  | succ k ih =>
    intros
    rw [slices_Equal_api_Version_api_Version_l0.eq_2, slices_Equal_api_Version_api_Version_l0.eq_2]
    repeat' (first | with_reducible exact OLe.none | with_reducible exact OLe.some | with_reducible refine OLe.ite ?_ ?_ | with_reducible refine OLe.bind ?_ (fun _ => ?_) | exact ih | refine OLe.bind ?_ (fun _ => ?_) | refine OLe.ite ?_ ?_ | refine OLe.elim (fun _ => ?_) (fun _ => ?_) | split)
def slices_Equal_api_Version_api_Version (k : Nat) (a0 : (List api_Version)) (a1 : (List api_Version)) : Option (Bool) :=
  (if ((a0.length : Int) != (a1.length : Int)) = true then some false else (Option.bind (slices_Equal_api_Version_api_Version_l0 a0 a1 k (0 : Int)) (fun o137o => Sum.elim (fun r' => some r') (fun _ => some true) o137o)))
set_option maxHeartbeats 2000000 in
theorem slices_Equal_api_Version_api_Version.mono {k : Nat} {a0 : (List api_Version)} {a1 : (List api_Version)} : OLe (slices_Equal_api_Version_api_Version k a0 a1) (slices_Equal_api_Version_api_Version (k + 1) a0 a1) := by
  unfold slices_Equal_api_Version_api_Version
  repeat' (first | with_reducible exact OLe.none | with_reducible exact OLe.some | with_reducible refine OLe.ite ?_ ?_ | with_reducible refine OLe.bind ?_ (fun _ => ?_) | with_reducible exact slices_Equal_api_Version_api_Version_l0.mono | refine OLe.bind ?_ (fun _ => ?_) | refine OLe.ite ?_ ?_ | refine OLe.elim (fun _ => ?_) (fun _ => ?_) | split)
set_option maxHeartbeats 1000000 in
set_option maxRecDepth 100000 in
theorem slices_Equal_api_Version_api_Version.con (k : Nat) (M : Hp) (A0 : Option Addr) (c0 : Nat) (a0 : (List api_Version)) (A1 : Option Addr) (c1 : Nat) (a1 : (List api_Version)) (r : Bool) (hr0 : SlR r_api_Version M (.slice A0 a0.length c0) a0) (hr1 : SlR r_api_Version M (.slice A1 a1.length c1) a1) (h : slices_Equal_api_Version_api_Version k a0 a1 = some r) : Con Try.prog 25 #[.slice A0 a0.length c0, .slice A1 a1.length c1] M [] (fun v M' Γ' => v = .bool r ∧ Γ' = []) := by
  refine con_of_wp Try.func25 rfl Try.ntmps25 Try.results25 rfl ?_
  intro w F rn S hrn
  have E := Ext.refl w
  have HM := Hp.le_refl M
  have H := h
  unfold slices_Equal_api_Version_api_Version at H
  refine Wp_seq ?_
  refine Wp_region_lit ?_
  refine W_v (.bool false) (x_assign rfl) rfl ?_
  refine Wl_nil ?_
  refine tn ?_
  refine Wp_seq ?_
  refine Wp_seq ?_
  refine Wp_region_lit ?_
  refine W_v (.slice A0 a0.length c0) (x_move rfl) rfl ?_
  refine W_v (.int .i64 (a0.length : Int)) (x_len_slice (n := a0.length) Try.underlying22 rfl) rfl ?_
  refine W_v (.slice A1 a1.length c1) (x_move rfl) rfl ?_
  refine W_v (.int .i64 (a1.length : Int)) (x_len_slice (n := a1.length) Try.underlying22 rfl) rfl ?_
  refine W_v (.bool ((a0.length : Int) != (a1.length : Int))) (x_ibin rfl rfl rfl rfl) rfl ?_
  refine Wl_nil ?_
  refine tn ?_
  rcases iteS H with ⟨hb1, H⟩ | ⟨hb1, H⟩
  · refine Wp_cond_true (congrArg Value.bool hb1) ?_
    refine Wp_seq ?_
    refine Wp_region_lit ?_
    refine W_v (.bool false) (x_assign rfl) rfl ?_
    refine Wl_nil ?_
    refine tn ?_
    refine Wp_ret ?_
    refine tr (?_)
    obtain rfl := Option.some.inj H
    exact ⟨_, _, _, fun w1 e1 => run_resR (vs := [.bool false]) (FA.cons (rfl) (FA.nil)), HM, E, S.pick [] (by decide), ⟨rfl, rfl⟩⟩
  · refine Wp_cond_false (congrArg Value.bool hb1) ?_
    refine Wp_skip ?_
    refine tn ?_
    refine Wp_seq ?_
    refine Wp_seq ?_
    refine Wp_region_lit ?_
    refine W_v (.slice A0 a0.length c0) (x_move rfl) rfl ?_
    refine W_v (.int .i64 (a0.length : Int)) (x_len_slice (n := a0.length) Try.underlying22 rfl) rfl ?_
    refine W_v (.int .i64 0) (x_move rfl) rfl ?_
    refine Wl_nil ?_
    refine tn ?_
    obtain ⟨o137, o137h, o137H⟩ := bindS H
    clear H
    refine Wp_blockJ (fun ρ w' => .inr () = o137 ∧ Agree ρ [] ∧ Ext w w' ∧ St w' M F []) ?_ ?_
    · skip
      refine Wp_loop (fun n ρ w' => ∃ (x92 : Int), slices_Equal_api_Version_api_Version_l0 a0 a1 n x92 = some o137 ∧ Agree ρ [(0, .slice A0 a0.length c0), (1, .slice A1 a1.length c1), (12, .int .i64 (a0.length : Int)), (13, .int .i64 x92)] ∧ Ext w w' ∧ St w' M F []) k ?_ ?_
      · skip
        exact ⟨(0 : Int), o137h, ⟨rfl, rfl, rfl, rfl, trivial⟩, E, S.pick [] (by decide)⟩
      · intro n
        rintro ρ w138 ⟨x92, H, hρ, E, S⟩
        rw [agree_eta hρ]
        clear hρ
        cases n with
        | zero => cases H
        | succ k =>
          rw [slices_Equal_api_Version_api_Version_l0.eq_2] at H
          refine Wp_seq ?_
          refine Wp_region_lit ?_
          refine W_v (.bool (decide (x92 < (a0.length : Int)))) (x_ibin rfl rfl rfl rfl) rfl ?_
          refine Wl_nil ?_
          refine tn ?_
          refine Wp_seq ?_
          rcases iteS H with ⟨hb139, H⟩ | ⟨hb139, H⟩
          · refine Wp_cond_true (congrArg Value.bool hb139) ?_
            refine Wp_skip ?_
            refine tn ?_
            refine Wp_seq ?_
            refine Wp_block ?_
            refine Wp_seq ?_
            refine Wp_region_lit ?_
            refine W_v (.int .i64 x92) (x_move rfl) rfl ?_
            refine W_v (.int .i64 x92) (x_assign rfl) rfl ?_
            refine Wl_nil ?_
            refine tn ?_
            refine Wp_seq ?_
            refine Wp_region_any (S := fun w' => ∃ Mx, M.le Mx ∧ St w' Mx F []) mixed ?_
            intro w160 hw161 E'
            replace S := S.heap hw161
            replace E := E.trans E'
            clear E'
            refine Wa_take (i := 0) rfl (by kernel_rfl) rfl rfl (.slice A0 a0.length c0) rfl (fun w' h' => x_move rfl) (⟨M, Hp.le_refl M, S.pick [] (by decide)⟩) ?_
            refine Wa_take (i := 1) rfl (by kernel_rfl) rfl rfl (.int .i64 x92) rfl (fun w' h' => x_move rfl) (⟨M, Hp.le_refl M, S.pick [] (by decide)⟩) ?_
            obtain ⟨⟨p162, p163⟩, H⟩ := chkS H
            obtain ⟨b164, o165, cs166, _, _, ee171, hb167, vs168, hR169, hc170⟩ := SlW.at' hr0 p162 p163
            obtain rfl : vs168 = _ := hR169
            refine Wa_take (i := 2) rfl (by kernel_rfl) rfl rfl (.pointer (some ⟨b164, o165 + x92.toNat * 4, none⟩)) rfl (fun w' h' => x_indexAddr Try.underlying22 ty27 (slA ee171) rfl p162 p163) (⟨M, Hp.le_refl M, S.pick [] (by decide)⟩) ?_
            refine Wa_take (i := 3) rfl (by kernel_rfl) rfl rfl (.agg #[.int .i64 ((rd a0 x92).Writer), .int .i64 ((rd a0 x92).TS), .bool ((rd a0 x92).Tomb), .string (bs ((rd a0 x92).Value))]) rfl (fun w' h' => x_loadA (cls_frz h' hb167) ty27 rfl (sub_el hc170 0 rfl) rfl rfl) (⟨M, Hp.le_refl M, S.pick [] (by decide)⟩) ?_
            refine Wa_take (i := 4) rfl (by kernel_rfl) rfl rfl (.slice A1 a1.length c1) rfl (fun w' h' => x_move rfl) (⟨M, Hp.le_refl M, S.pick [] (by decide)⟩) ?_
            refine Wa_take (i := 5) rfl (by kernel_rfl) rfl rfl (.int .i64 x92) rfl (fun w' h' => x_move rfl) (⟨M, Hp.le_refl M, S.pick [] (by decide)⟩) ?_
            obtain ⟨⟨p172, p173⟩, H⟩ := chkS H
            obtain ⟨b174, o175, cs176, _, _, ee181, hb177, vs178, hR179, hc180⟩ := SlW.at' hr1 p172 p173
            obtain rfl : vs178 = _ := hR179
            refine Wa_take (i := 6) rfl (by kernel_rfl) rfl rfl (.pointer (some ⟨b174, o175 + x92.toNat * 4, none⟩)) rfl (fun w' h' => x_indexAddr Try.underlying22 ty27 (slA ee181) rfl p172 p173) (⟨M, Hp.le_refl M, S.pick [] (by decide)⟩) ?_
            refine Wa_take (i := 7) rfl (by kernel_rfl) rfl rfl (.agg #[.int .i64 ((rd a1 x92).Writer), .int .i64 ((rd a1 x92).TS), .bool ((rd a1 x92).Tomb), .string (bs ((rd a1 x92).Value))]) rfl (fun w' h' => x_loadA (cls_frz h' hb177) ty27 rfl (sub_el hc180 0 rfl) rfl rfl) (⟨M, Hp.le_refl M, S.pick [] (by decide)⟩) ?_
            refine Wa_take (i := 8) rfl (by kernel_rfl) rfl rfl (.bool (!(((rd a0 x92).Writer == (rd a1 x92).Writer) && (((rd a0 x92).TS == (rd a1 x92).TS) && (((rd a0 x92).Tomb == (rd a1 x92).Tomb) && ((rd a0 x92).Value == (rd a1 x92).Value)))))) rfl (fun w' h' => x_ne_of (en27 _ _ _ _) rfl (eq27 _ ((rd a0 x92).Writer) ((rd a0 x92).TS) ((rd a0 x92).Tomb) ((rd a0 x92).Value) ((rd a1 x92).Writer) ((rd a1 x92).TS) ((rd a1 x92).Tomb) ((rd a1 x92).Value))) (⟨M, Hp.le_refl M, S.pick [] (by decide)⟩) ?_
            refine Wa_done (by kernel_rfl) ?_
            refine tn ?_
            rcases iteS H with ⟨hb182, H⟩ | ⟨hb182, H⟩
            · refine Wp_cond_true (congrArg Value.bool hb182) ?_
              refine Wp_seq ?_
              refine Wp_region_lit ?_
              refine W_v (.bool false) (x_assign rfl) rfl ?_
              refine Wl_nil ?_
              refine tn ?_
              refine Wp_ret ?_
              refine br (tr (tr (br (tr (tr (?_))))))
              obtain rfl := Option.some.inj H
              have H := o137H
              replace H := elimL H
              obtain rfl := Option.some.inj H
              exact ⟨_, _, _, fun w1 e1 => run_resR (vs := [.bool false]) (FA.cons (rfl) (FA.nil)), HM, E, S.pick [] (by decide), ⟨rfl, rfl⟩⟩
            · refine Wp_cond_false (congrArg Value.bool hb182) ?_
              refine Wp_skip ?_
              refine bn ?_
              refine tn ?_
              refine Wp_region_lit ?_
              refine W_v (.int .i64 (IntKind.i64.wrap (x92 + (1 : Int)))) (x_ibin rfl rfl rfl rfl) rfl ?_
              refine W_v (.int .i64 (IntKind.i64.wrap (x92 + (1 : Int)))) (x_move rfl) rfl ?_
              refine Wl_nil ?_
              refine tn ?_
              exact ⟨k, Nat.lt_succ_self k, ⟨(IntKind.i64.wrap (x92 + (1 : Int))), H, ⟨rfl, rfl, rfl, rfl, trivial⟩, E, S.pick [] (by decide)⟩⟩
          · refine Wp_cond_false (congrArg Value.bool hb139) ?_
            refine Wp_exit ?_
            refine tx (tx (bsm (?_)))
            refine tn ?_
            exact ⟨Option.some.inj H, trivial, E, S.pick [] (by decide)⟩
    · clear o137h
      rintro ρ w183 ⟨rfl, hρ, E, S⟩
      rw [agree_eta hρ]
      clear hρ
      have H := o137H
      clear o137H
      replace H := elimR H
      refine tn ?_
      refine Wp_seq ?_
      refine Wp_region_lit ?_
      refine W_v (.bool true) (x_assign rfl) rfl ?_
      refine Wl_nil ?_
      refine tn ?_
      refine Wp_ret ?_
      obtain rfl := Option.some.inj H
      exact ⟨_, _, _, fun w1 e1 => run_resR (vs := [.bool true]) (FA.cons (rfl) (FA.nil)), HM, E, S.pick [] (by decide), ⟨rfl, rfl⟩⟩
/-! ### ferryman/keep.Same: function 17 -/
def keep_Same (k : Nat) (a0 : (List api_Version)) (a1 : (List api_Version)) : Option (Bool) :=
  (Option.bind (slices_Equal_api_Version_api_Version k a0 a1) (fun t1 => some t1))
set_option maxHeartbeats 2000000 in
theorem keep_Same.mono {k : Nat} {a0 : (List api_Version)} {a1 : (List api_Version)} : OLe (keep_Same k a0 a1) (keep_Same (k + 1) a0 a1) := by
  unfold keep_Same
  repeat' (first | with_reducible exact OLe.none | with_reducible exact OLe.some | with_reducible refine OLe.ite ?_ ?_ | with_reducible refine OLe.bind ?_ (fun _ => ?_) | with_reducible exact slices_Equal_api_Version_api_Version.mono | refine OLe.bind ?_ (fun _ => ?_) | refine OLe.ite ?_ ?_ | refine OLe.elim (fun _ => ?_) (fun _ => ?_) | split)
set_option maxHeartbeats 1000000 in
set_option maxRecDepth 100000 in
theorem keep_Same.con (k : Nat) (M : Hp) (A0 : Option Addr) (c0 : Nat) (a0 : (List api_Version)) (A1 : Option Addr) (c1 : Nat) (a1 : (List api_Version)) (r : Bool) (hr0 : SlR r_api_Version M (.slice A0 a0.length c0) a0) (hr1 : SlR r_api_Version M (.slice A1 a1.length c1) a1) (h : keep_Same k a0 a1 = some r) : Con Try.prog 17 #[.slice A0 a0.length c0, .slice A1 a1.length c1] M [] (fun v M' Γ' => v = .bool r ∧ Γ' = []) := by
  refine con_of_wp Try.func17 rfl Try.ntmps17 Try.results17 rfl ?_
  intro w F rn S hrn
  have E := Ext.refl w
  have HM := Hp.le_refl M
  have H := h
  unfold keep_Same at H
  refine Wp_seq ?_
  refine Wp_region_lit ?_
  refine W_v (.bool false) (x_assign rfl) rfl ?_
  refine Wl_nil ?_
  refine tn ?_
  refine Wp_seq ?_
  refine Wp_region_lit ?_
  refine W_v (.slice A0 a0.length c0) (x_move rfl) rfl ?_
  refine W_v (.slice A1 a1.length c1) (x_move rfl) rfl ?_
  obtain ⟨t1, ht2, H⟩ := bindS H
  refine W_callF fn25 (slices_Equal_api_Version_api_Version.con k M A0 c0 a0 A1 c1 a1 t1 hr0 hr1 ht2) S rfl rfl (by rintro _ _ _ ⟨_, rfl⟩; exact flat_nil) ?_
  rintro _ w3 _ Γ' E' S ⟨rfl, rfl⟩
  replace E := E.trans E'
  clear E'
  refine W_v (.bool t1) (x_assign rfl) rfl ?_
  refine Wl_nil ?_
  refine tn ?_
  refine Wp_ret ?_
  obtain rfl := Option.some.inj H
  exact ⟨_, _, _, fun w1 e1 => run_resR (vs := [.bool t1]) (FA.cons (rfl) (FA.nil)), HM, E, S.pick [] (by decide), ⟨rfl, rfl⟩⟩
/-! ### ferryman/ferrymanlaw11.own: function 18 -/
def ferrymanlaw11_own (k : Nat) (a0 : (List api_Version)) : Option ((List api_Version)) :=
  (if 0 ≤ (0 : Int) ∧ (0 : Int) ≤ (IntKind.i64.wrap ((a0.length : Int) + (3 : Int))) ∧ (IntKind.i64.wrap ((a0.length : Int) + (3 : Int))) * 40 ≤ 140737488355328 ∧ (IntKind.i64.wrap ((a0.length : Int) + (3 : Int))) ≤ 9223372036854775807 then (if (List.replicate (0 : Int).toNat (⟨0, 0, false, []⟩ : api_Version)).length + a0.length ≤ 3518437208883 then some ((List.replicate (0 : Int).toNat (⟨0, 0, false, []⟩ : api_Version)) ++ a0) else none) else none)
set_option maxHeartbeats 2000000 in
theorem ferrymanlaw11_own.mono {k : Nat} {a0 : (List api_Version)} : OLe (ferrymanlaw11_own k a0) (ferrymanlaw11_own (k + 1) a0) := by
  unfold ferrymanlaw11_own
  repeat' (first | with_reducible exact OLe.none | with_reducible exact OLe.some | with_reducible refine OLe.ite ?_ ?_ | with_reducible refine OLe.bind ?_ (fun _ => ?_) | refine OLe.bind ?_ (fun _ => ?_) | refine OLe.ite ?_ ?_ | refine OLe.elim (fun _ => ?_) (fun _ => ?_) | split)
set_option maxHeartbeats 1000000 in
set_option maxRecDepth 100000 in
theorem ferrymanlaw11_own.con (k : Nat) (M : Hp) (A0 : Option Addr) (c0 : Nat) (a0 : (List api_Version)) (r : (List api_Version)) (hr0 : SlR r_api_Version M (.slice A0 a0.length c0) a0) (h : ferrymanlaw11_own k a0 = some r) : Con Try.prog 18 #[.slice A0 a0.length c0] M [] (fun v M' Γ' => ∃ (A0 : Option Addr) (c0 : Nat), v = .slice A0 r.length c0 ∧ Γ' = [Row r_api_Version 27 (.slice A0 r.length c0) r]) := by
  refine con_of_wp Try.func18 rfl Try.ntmps18 Try.results18 rfl ?_
  intro w F rn S hrn
  have E := Ext.refl w
  have HM := Hp.le_refl M
  have H := h
  unfold ferrymanlaw11_own at H
  refine Wp_seq ?_
  refine Wp_region_lit ?_
  refine W_v (.slice none 0 0) (x_assign rfl) rfl ?_
  refine Wl_nil ?_
  refine tn ?_
  refine Wp_seq ?_
  refine Wp_region_lit ?_
  refine W_v (.slice A0 a0.length c0) (x_move rfl) rfl ?_
  refine W_v (.int .i64 (a0.length : Int)) (x_len_slice (n := a0.length) Try.underlying22 rfl) rfl ?_
  refine W_v (.int .i64 (IntKind.i64.wrap ((a0.length : Int) + (3 : Int)))) (x_ibin rfl rfl rfl rfl) rfl ?_
  obtain ⟨⟨p1, p2, p3, p4⟩, H⟩ := chkS H
  refine W_make (r := r_api_Version) S (⟨0, 0, false, []⟩ : api_Version) Try.underlying22 ty27 rfl (by decide) (fun _ => rfl) rfl rfl p1 p2 p3 p4 rfl ?_
  intro b5 w6 E' S
  replace E := E.trans E'
  clear E'
  refine W_v (.slice A0 a0.length c0) (x_move rfl) rfl ?_
  obtain ⟨p8, H⟩ := chkS H
  obtain ⟨src9, hs10, hC11⟩ := src_of_read (P := Try.prog) (ρ := r_api_Version) (l := a0) (SlR.world hr0 S) (by decide)
  refine W_append S 0 rfl rfl rfl Try.underlying22 (.inl Try.underlying22) ty27 rfl (by decide) (by decide) hs10 hC11 rfl (by omega) rfl ?_
  intro v12 w13 E' S
  replace E := E.trans E'
  clear E'
  obtain ⟨A14, c15, rfl, _⟩ := (S.row_read 0 rfl).form
  refine W_v (.slice A14 ((List.replicate (0 : Int).toNat (⟨0, 0, false, []⟩ : api_Version)) ++ a0).length c15) (x_assign rfl) rfl ?_
  refine Wl_nil ?_
  refine tn ?_
  refine Wp_ret ?_
  obtain rfl := Option.some.inj H
  exact ⟨_, _, _, fun w1 e1 => run_resR (vs := [.slice A14 ((List.replicate (0 : Int).toNat (⟨0, 0, false, []⟩ : api_Version)) ++ a0).length c15]) (FA.cons (rfl) (FA.nil)), HM, E, S.pick [0] (by decide), ⟨A14, c15, rfl, rfl⟩⟩
/-! ### ferryman/ferrymanref11.upto: function 26 -/
def ferrymanref11_upto_l0 (a0 : (List api_Version)) (a1 : Int) : Nat → Int → Option ((Int) ⊕ (Unit))
  | 0, _ => none
  | k + 1, x27 => (if (decide (x27 < (a0.length : Int))) = true then (if 0 ≤ x27 ∧ x27 < (a0.length : Int) then (if (decide ((rd a0 x27).TS ≤ a1)) = true then some (.inl x27) else ferrymanref11_upto_l0 a0 a1 k (IntKind.i64.wrap (x27 + (1 : Int)))) else none) else some (.inr ()))
set_option maxHeartbeats 2000000 in
theorem ferrymanref11_upto_l0.mono {a0 : (List api_Version)} {a1 : Int} : ∀ {k : Nat} {x0}, OLe (ferrymanref11_upto_l0 a0 a1 k x0) (ferrymanref11_upto_l0 a0 a1 (k + 1) x0) := by
  intro k
  induction k with
  | zero => intros; exact OLe.none
  | succ k ih =>
    intros
    rw [ferrymanref11_upto_l0.eq_2, ferrymanref11_upto_l0.eq_2]
    repeat' (first | with_reducible exact OLe.none | with_reducible exact OLe.some | with_reducible refine OLe.ite ?_ ?_ | with_reducible refine OLe.bind ?_ (fun _ => ?_) | exact ih | refine OLe.bind ?_ (fun _ => ?_) | refine OLe.ite ?_ ?_ | refine OLe.elim (fun _ => ?_) (fun _ => ?_) | split)
def ferrymanref11_upto (k : Nat) (a0 : (List api_Version)) (a1 : Int) : Option (Int) :=
  (Option.bind (ferrymanref11_upto_l0 a0 a1 k (0 : Int)) (fun o40o => Sum.elim (fun r' => some r') (fun _ => some (a0.length : Int)) o40o))
set_option maxHeartbeats 2000000 in
theorem ferrymanref11_upto.mono {k : Nat} {a0 : (List api_Version)} {a1 : Int} : OLe (ferrymanref11_upto k a0 a1) (ferrymanref11_upto (k + 1) a0 a1) := by
  unfold ferrymanref11_upto
  repeat' (first | with_reducible exact OLe.none | with_reducible exact OLe.some | with_reducible refine OLe.ite ?_ ?_ | with_reducible refine OLe.bind ?_ (fun _ => ?_) | with_reducible exact ferrymanref11_upto_l0.mono | refine OLe.bind ?_ (fun _ => ?_) | refine OLe.ite ?_ ?_ | refine OLe.elim (fun _ => ?_) (fun _ => ?_) | split)
set_option maxHeartbeats 1000000 in
set_option maxRecDepth 100000 in
theorem ferrymanref11_upto.con (k : Nat) (M : Hp) (A0 : Option Addr) (c0 : Nat) (a0 : (List api_Version)) (a1 : Int) (r : Int) (hr0 : SlR r_api_Version M (.slice A0 a0.length c0) a0) (h : ferrymanref11_upto k a0 a1 = some r) : Con Try.prog 26 #[.slice A0 a0.length c0, .int .i64 a1] M [] (fun v M' Γ' => v = .int .i64 r ∧ Γ' = []) := by
  refine con_of_wp Try.func26 rfl Try.ntmps26 Try.results26 rfl ?_
  intro w F rn S hrn
  have E := Ext.refl w
  have HM := Hp.le_refl M
  have H := h
  unfold ferrymanref11_upto at H
  refine Wp_seq ?_
  refine Wp_region_lit ?_
  refine W_v (.int .i64 0) (x_assign rfl) rfl ?_
  refine Wl_nil ?_
  refine tn ?_
  refine Wp_seq ?_
  refine Wp_seq ?_
  refine Wp_region_lit ?_
  refine W_v (.int .i64 0) (x_assign rfl) rfl ?_
  refine Wl_nil ?_
  refine tn ?_
  obtain ⟨o40, o40h, o40H⟩ := bindS H
  clear H
  refine Wp_blockJ (fun ρ w' => .inr () = o40 ∧ Agree ρ [(0, .slice A0 a0.length c0)] ∧ Ext w w' ∧ St w' M F []) ?_ ?_
  · skip
    refine Wp_loop (fun n ρ w' => ∃ (x27 : Int), ferrymanref11_upto_l0 a0 a1 n x27 = some o40 ∧ Agree ρ [(0, .slice A0 a0.length c0), (1, .int .i64 a1), (5, .int .i64 x27)] ∧ Ext w w' ∧ St w' M F []) k ?_ ?_
    · skip
      exact ⟨(0 : Int), o40h, ⟨rfl, rfl, rfl, trivial⟩, E, S.pick [] (by decide)⟩
    · intro n
      rintro ρ w41 ⟨x27, H, hρ, E, S⟩
      rw [agree_eta hρ]
      clear hρ
      cases n with
      | zero => cases H
      | succ k =>
        rw [ferrymanref11_upto_l0.eq_2] at H
        refine Wp_seq ?_
        refine Wp_seq ?_
        refine Wp_region_lit ?_
        refine W_v (.int .i64 x27) (x_move rfl) rfl ?_
        refine W_v (.slice A0 a0.length c0) (x_move rfl) rfl ?_
        refine W_v (.int .i64 (a0.length : Int)) (x_len_slice (n := a0.length) Try.underlying22 rfl) rfl ?_
        refine W_v (.bool (decide (x27 < (a0.length : Int)))) (x_ibin rfl rfl rfl rfl) rfl ?_
        refine Wl_nil ?_
        refine tn ?_
        rcases iteS H with ⟨hb42, H⟩ | ⟨hb42, H⟩
        · refine Wp_cond_true (congrArg Value.bool hb42) ?_
          refine Wp_skip ?_
          refine tn ?_
          refine Wp_seq ?_
          refine Wp_block ?_
          refine Wp_seq ?_
          refine Wp_region_lit ?_
          refine W_v (.slice A0 a0.length c0) (x_move rfl) rfl ?_
          refine W_v (.int .i64 x27) (x_move rfl) rfl ?_
          obtain ⟨⟨p43, p44⟩, H⟩ := chkS H
          obtain ⟨b45, o46, cs47, _, _, ee52, hb48, vs49, hR50, hc51⟩ := SlW.at' hr0 p43 p44
          obtain rfl : vs49 = _ := hR50
          refine W_v (.pointer (some ⟨b45, o46 + x27.toNat * 4, none⟩)) (x_indexAddr Try.underlying22 ty27 (slA ee52) rfl p43 p44) rfl ?_
          refine W_v (.pointer (some ⟨b45, o46 + x27.toNat * 4 + 1, none⟩)) (x_fieldAddr (o := o46 + x27.toNat * 4) (off := 1) Try.underlying27 rfl ty3 rfl rfl) rfl ?_
          refine W_v (.int .i64 ((rd a0 x27).TS)) (x_load (S.frz hb48) ty3 rfl (hc51 1 _ rfl)) rfl ?_
          refine W_v (.int .i64 a1) (x_move rfl) rfl ?_
          refine W_v (.bool (decide ((rd a0 x27).TS ≤ a1))) (x_ibin rfl rfl rfl rfl) rfl ?_
          refine Wl_nil ?_
          refine tn ?_
          rcases iteS H with ⟨hb53, H⟩ | ⟨hb53, H⟩
          · refine Wp_cond_true (congrArg Value.bool hb53) ?_
            refine Wp_seq ?_
            refine Wp_region_lit ?_
            refine W_v (.int .i64 x27) (x_move rfl) rfl ?_
            refine W_v (.int .i64 x27) (x_assign rfl) rfl ?_
            refine Wl_nil ?_
            refine tn ?_
            refine Wp_ret ?_
            refine br (tr (tr (br (tr (tr (?_))))))
            obtain rfl := Option.some.inj H
            have H := o40H
            replace H := elimL H
            obtain rfl := Option.some.inj H
            exact ⟨_, _, _, fun w1 e1 => run_resR (vs := [.int .i64 x27]) (FA.cons (rfl) (FA.nil)), HM, E, S.pick [] (by decide), ⟨rfl, rfl⟩⟩
          · refine Wp_cond_false (congrArg Value.bool hb53) ?_
            refine Wp_skip ?_
            refine bn ?_
            refine tn ?_
            refine Wp_region_lit ?_
            refine W_v (.int .i64 x27) (x_move rfl) rfl ?_
            refine W_v (.int .i64 (IntKind.i64.wrap (x27 + (1 : Int)))) (x_ibin rfl rfl rfl rfl) rfl ?_
            refine W_v (.int .i64 (IntKind.i64.wrap (x27 + (1 : Int)))) (x_assign rfl) rfl ?_
            refine Wl_nil ?_
            refine tn ?_
            exact ⟨k, Nat.lt_succ_self k, ⟨(IntKind.i64.wrap (x27 + (1 : Int))), H, ⟨rfl, rfl, rfl, trivial⟩, E, S.pick [] (by decide)⟩⟩
        · refine Wp_cond_false (congrArg Value.bool hb42) ?_
          refine Wp_exit ?_
          refine tx (tx (bsm (?_)))
          refine tn ?_
          exact ⟨Option.some.inj H, ⟨rfl, trivial⟩, E, S.pick [] (by decide)⟩
  · clear o40h
    rintro ρ w54 ⟨rfl, hρ, E, S⟩
    rw [agree_eta hρ]
    clear hρ
    have H := o40H
    clear o40H
    replace H := elimR H
    refine tn ?_
    refine Wp_seq ?_
    refine Wp_region_lit ?_
    refine W_v (.slice A0 a0.length c0) (x_move rfl) rfl ?_
    refine W_v (.int .i64 (a0.length : Int)) (x_len_slice (n := a0.length) Try.underlying22 rfl) rfl ?_
    refine W_v (.int .i64 (a0.length : Int)) (x_assign rfl) rfl ?_
    refine Wl_nil ?_
    refine tn ?_
    refine Wp_ret ?_
    obtain rfl := Option.some.inj H
    exact ⟨_, _, _, fun w1 e1 => run_resR (vs := [.int .i64 (a0.length : Int)]) (FA.cons (rfl) (FA.nil)), HM, E, S.pick [] (by decide), ⟨rfl, rfl⟩⟩
/-! ### ferryman/ferrymanref11.Kept: function 19 -/
def ferrymanref11_Kept_l0 (a0 : (List api_Version)) (t1 : Int) : Nat → List api_Version → Int → Option ((List api_Version))
  | 0, _, _ => none
  | k + 1, x372, x376 => (if ((decide (x376 < (a0.length : Int))) && (decide (x376 ≤ t1))) = true then (Option.bind (α := List api_Version) (Option.bind (α := Bool) (if (decide (x376 < t1)) = true then some (true) else (if 0 ≤ x376 ∧ x376 < (a0.length : Int) then some ((!((rd a0 x376).Tomb))) else none)) (fun x672 => (Option.bind (α := List api_Version) (if x672 = true then (if 0 ≤ x376 ∧ x376 < (a0.length : Int) then (if x372.length + ([(rd a0 x376)] : List api_Version).length ≤ 3518437208883 then some ((x372 ++ ([(rd a0 x376)] : List api_Version))) else none) else none) else some (x372)) (fun x707 => some (x707))))) (fun x646 => ferrymanref11_Kept_l0 a0 t1 k x646 (IntKind.i64.wrap (x376 + (1 : Int))))) else some (x372))
set_option maxHeartbeats 2000000 in
theorem ferrymanref11_Kept_l0.mono {a0 : (List api_Version)} {t1 : Int} : ∀ {k : Nat} {x0 x1}, OLe (ferrymanref11_Kept_l0 a0 t1 k x0 x1) (ferrymanref11_Kept_l0 a0 t1 (k + 1) x0 x1) := by
  intro k
  induction k with
  | zero => intros; exact OLe.none
  | succ k ih =>
    intros
    rw [ferrymanref11_Kept_l0.eq_2, ferrymanref11_Kept_l0.eq_2]
    repeat' (first | with_reducible exact OLe.none | with_reducible exact OLe.some | with_reducible refine OLe.ite ?_ ?_ | with_reducible refine OLe.bind ?_ (fun _ => ?_) | exact ih | refine OLe.bind ?_ (fun _ => ?_) | refine OLe.ite ?_ ?_ | refine OLe.elim (fun _ => ?_) (fun _ => ?_) | split)
def ferrymanref11_Kept (k : Nat) (a0 : (List api_Version)) (a1 : Int) : Option ((List api_Version)) :=
  (Option.bind (ferrymanref11_upto k a0 a1) (fun t1 => (Option.bind (ferrymanref11_Kept_l0 a0 t1 k ([] : List api_Version) (0 : Int)) (fun x553 => some x553))))
set_option maxHeartbeats 2000000 in
theorem ferrymanref11_Kept.mono {k : Nat} {a0 : (List api_Version)} {a1 : Int} : OLe (ferrymanref11_Kept k a0 a1) (ferrymanref11_Kept (k + 1) a0 a1) := by
  unfold ferrymanref11_Kept
  repeat' (first | with_reducible exact OLe.none | with_reducible exact OLe.some | with_reducible refine OLe.ite ?_ ?_ | with_reducible refine OLe.bind ?_ (fun _ => ?_) | with_reducible exact ferrymanref11_Kept_l0.mono | with_reducible exact ferrymanref11_upto.mono | refine OLe.bind ?_ (fun _ => ?_) | refine OLe.ite ?_ ?_ | refine OLe.elim (fun _ => ?_) (fun _ => ?_) | split)
set_option maxHeartbeats 1000000 in
set_option maxRecDepth 100000 in
theorem ferrymanref11_Kept.con (k : Nat) (M : Hp) (A0 : Option Addr) (c0 : Nat) (a0 : (List api_Version)) (a1 : Int) (r : (List api_Version)) (hr0 : SlR r_api_Version M (.slice A0 a0.length c0) a0) (h : ferrymanref11_Kept k a0 a1 = some r) : Con Try.prog 19 #[.slice A0 a0.length c0, .int .i64 a1] M [] (fun v M' Γ' => ∃ (A0 : Option Addr) (c0 : Nat), v = .slice A0 r.length c0 ∧ Γ' = [Row r_api_Version 27 (.slice A0 r.length c0) r]) := by
  refine con_of_wp Try.func19 rfl Try.ntmps19 Try.results19 rfl ?_
  intro w F rn S hrn
  have E := Ext.refl w
  have HM := Hp.le_refl M
  have H := h
  unfold ferrymanref11_Kept at H
  refine Wp_seq ?_
  refine Wp_region_lit ?_
  refine W_v (.slice none 0 0) (x_assign rfl) rfl ?_
  refine Wl_nil ?_
  refine tn ?_
  refine Wp_seq ?_
  refine Wp_region_lit ?_
  refine W_v (.slice A0 a0.length c0) (x_move rfl) rfl ?_
  refine W_v (.int .i64 a1) (x_move rfl) rfl ?_
  obtain ⟨t1, ht2, H⟩ := bindS H
  refine W_callF fn26 (ferrymanref11_upto.con k M A0 c0 a0 a1 t1 hr0 ht2) S rfl rfl (by rintro _ _ _ ⟨_, rfl⟩; exact flat_nil) ?_
  rintro _ w3 _ Γ' E' S ⟨rfl, rfl⟩
  replace E := E.trans E'
  clear E'
  refine W_v (.int .i64 t1) (x_assign rfl) rfl ?_
  refine Wl_nil ?_
  refine tn ?_
  refine Wp_seq ?_
  refine Wp_region_lit ?_
  refine W_v (.slice none 0 0) (x_assign rfl) rfl ?_
  refine Wl_nil ?_
  refine tn ?_
  refine Wp_seq ?_
  refine Wp_seq ?_
  refine Wp_region_lit ?_
  refine W_v (.int .i64 0) (x_assign rfl) rfl ?_
  refine Wl_nil ?_
  refine tn ?_
  obtain ⟨o557, o557h, o557H⟩ := bindS H
  clear H
  refine Wp_blockJ (fun ρ w' => ∃ (x553 : List api_Version) (A554 : Option Addr) (c555 : Nat), (x553) = o557 ∧ Agree ρ [(6, .slice A554 x553.length c555)] ∧ Ext w w' ∧ St w' M F [Row r_api_Version 27 (.slice A554 x553.length c555) x553]) ?_ ?_
  · skip
    refine Wp_loop (fun n ρ w' => ∃ (x372 : List api_Version) (x376 : Int) (A373 : Option Addr) (c374 : Nat), ferrymanref11_Kept_l0 a0 t1 n x372 x376 = some o557 ∧ Agree ρ [(0, .slice A0 a0.length c0), (5, .int .i64 t1), (6, .slice A373 x372.length c374), (7, .int .i64 x376)] ∧ Ext w w' ∧ St w' M F [Row r_api_Version 27 (.slice A373 x372.length c374) x372]) k ?_ ?_
    · skip
      replace S := S.row_nil r_api_Version 27
      exact ⟨([] : List api_Version), (0 : Int), none, 0, o557h, ⟨rfl, rfl, rfl, rfl, trivial⟩, E, S.pick [0] (by decide)⟩
    · intro n
      rintro ρ w559 ⟨x372, x376, A373, c374, H, hρ, E, S⟩
      rw [agree_eta hρ]
      clear hρ
      cases n with
      | zero => cases H
      | succ k =>
        rw [ferrymanref11_Kept_l0.eq_2] at H
        refine Wp_seq ?_
        refine Wp_seq ?_
        refine Wp_region_lit ?_
        refine W_v (.int .i64 x376) (x_move rfl) rfl ?_
        refine W_v (.slice A0 a0.length c0) (x_move rfl) rfl ?_
        refine W_v (.int .i64 (a0.length : Int)) (x_len_slice (n := a0.length) Try.underlying22 rfl) rfl ?_
        refine W_v (.bool (decide (x376 < (a0.length : Int)))) (x_ibin rfl rfl rfl rfl) rfl ?_
        refine W_v (.bool (decide (x376 < (a0.length : Int)))) (x_move rfl) rfl ?_
        refine Wl_cutN 4 (fun ρ w' => Agree ρ [(0, .slice A0 a0.length c0), (5, .int .i64 t1), (6, .slice A373 x372.length c374), (7, .int .i64 x376), (19, .bool ((decide (x376 < (a0.length : Int))) && (decide (x376 ≤ t1))))] ∧ w559 = w') ?_ ?_
        · rcases boolCases (decide (x376 < (a0.length : Int))) with hb560 | hb560
          · skip
            refine W_no (skT hb560) rfl ?_
            refine W_no (skT hb560) rfl ?_
            refine W_no (skT hb560) rfl ?_
            refine W_v (.bool false) (x_pick (k := false) (congrArg Value.bool hb560) rfl) rfl ?_
            refine Wl_nil ?_
            exact ⟨⟨rfl, rfl, rfl, rfl, (by first | rfl | (rw [hb560]; rfl) | (simp only [hb560]; rfl)), trivial⟩, rfl⟩
          · skip
            refine W_yes (congrArg some hb560) ?_
            refine W_v (.int .i64 x376) (x_move rfl) rfl ?_
            refine W_yes (congrArg some hb560) ?_
            refine W_v (.int .i64 t1) (x_move rfl) rfl ?_
            refine W_yes (congrArg some hb560) ?_
            refine W_v (.bool (decide (x376 ≤ t1))) (x_ibin rfl rfl rfl rfl) rfl ?_
            refine W_v (.bool (decide (x376 ≤ t1))) (x_pick (k := true) (congrArg Value.bool hb560) rfl) rfl ?_
            refine Wl_nil ?_
            exact ⟨⟨rfl, rfl, rfl, rfl, (by first | rfl | (rw [hb560]; rfl) | (simp only [hb560]; rfl)), trivial⟩, rfl⟩
        · rintro ρ _ ⟨hρ, rfl⟩
          rw [agree_eta hρ]
          clear hρ
          skip
          refine Wl_nil ?_
          refine tn ?_
          rcases iteS H with ⟨hb561, H⟩ | ⟨hb561, H⟩
          · refine Wp_cond_true (congrArg Value.bool hb561) ?_
            refine Wp_skip ?_
            refine tn ?_
            refine Wp_seq ?_
            obtain ⟨o650, o650h, o650H⟩ := bindS H
            refine Wp_cut (fun ρ w' => ∃ (x646 : List api_Version) (A647 : Option Addr) (c648 : Nat), (x646) = o650 ∧ Agree ρ [(0, .slice A0 a0.length c0), (5, .int .i64 t1), (6, .slice A647 x646.length c648), (7, .int .i64 x376)] ∧ Ext w w' ∧ St w' M F [Row r_api_Version 27 (.slice A647 x646.length c648) x646]) ?_ ?_
            · clear o650H
              have H := o650h
              clear o650h
              refine Wp_block ?_
              refine Wp_seq ?_
              refine Wp_region_lit ?_
              refine W_v (.int .i64 x376) (x_move rfl) rfl ?_
              refine W_v (.int .i64 t1) (x_move rfl) rfl ?_
              refine W_v (.bool (decide (x376 < t1))) (x_ibin rfl rfl rfl rfl) rfl ?_
              refine W_v (.bool (decide (x376 < t1))) (x_move rfl) rfl ?_
              obtain ⟨o673, o673h, o673H⟩ := bindS H
              clear H
              refine Wl_cutN 7 (fun ρ w' => ∃ (x672 : Bool), (x672) = o673 ∧ Agree ρ [(0, .slice A0 a0.length c0), (5, .int .i64 t1), (6, .slice A373 x372.length c374), (7, .int .i64 x376), (32, .bool x672)] ∧ Ext w w' ∧ St w' M F [Row r_api_Version 27 (.slice A373 x372.length c374) x372]) ?_ ?_
              · have H := o673h
                rcases iteS H with ⟨hb671, H⟩ | ⟨hb671, H⟩
                · skip
                  refine W_no (skF hb671) rfl ?_
                  refine W_no (skF hb671) rfl ?_
                  refine W_no (skF hb671) rfl ?_
                  refine W_no (skF hb671) rfl ?_
                  refine W_no (skF hb671) rfl ?_
                  refine W_no (skF hb671) rfl ?_
                  refine W_v (.bool true) (x_pick (k := true) (congrArg Value.bool hb671) rfl) rfl ?_
                  refine Wl_nil ?_
                  exact ⟨true, Option.some.inj H, ⟨rfl, rfl, rfl, rfl, rfl, trivial⟩, E, S.pick [0] (by decide)⟩
                · skip
                  refine W_yes (congrArg some hb671) ?_
                  refine W_v (.slice A0 a0.length c0) (x_move rfl) rfl ?_
                  refine W_yes (congrArg some hb671) ?_
                  refine W_v (.int .i64 x376) (x_move rfl) rfl ?_
                  refine W_yes (congrArg some hb671) ?_
                  obtain ⟨⟨p674, p675⟩, H⟩ := chkS H
                  obtain ⟨b676, o677, cs678, _, _, ee683, hb679, vs680, hR681, hc682⟩ := SlW.at' hr0 p674 p675
                  obtain rfl : vs680 = _ := hR681
                  refine W_v (.pointer (some ⟨b676, o677 + x376.toNat * 4, none⟩)) (x_indexAddr Try.underlying22 ty27 (slA ee683) rfl p674 p675) rfl ?_
                  refine W_yes (congrArg some hb671) ?_
                  refine W_v (.pointer (some ⟨b676, o677 + x376.toNat * 4 + 2, none⟩)) (x_fieldAddr (o := o677 + x376.toNat * 4) (off := 2) Try.underlying27 rfl ty4 rfl rfl) rfl ?_
                  refine W_yes (congrArg some hb671) ?_
                  refine W_v (.bool ((rd a0 x376).Tomb)) (x_load (S.frz hb679) ty4 rfl (hc682 2 _ rfl)) rfl ?_
                  refine W_yes (congrArg some hb671) ?_
                  refine W_v (.bool (!((rd a0 x376).Tomb))) (x_not rfl) rfl ?_
                  refine W_v (.bool (!((rd a0 x376).Tomb))) (x_pick (k := false) (congrArg Value.bool hb671) rfl) rfl ?_
                  refine Wl_nil ?_
                  exact ⟨(!((rd a0 x376).Tomb)), Option.some.inj H, ⟨rfl, rfl, rfl, rfl, rfl, trivial⟩, E, S.pick [0] (by decide)⟩
              · clear o673h
                rintro ρ w684 ⟨x672, rfl, hρ, E, S⟩
                rw [agree_eta hρ]
                clear hρ
                have H := o673H
                clear o673H
                refine Wl_nil ?_
                refine tn ?_
                obtain ⟨o711, o711h, o711H⟩ := bindS H
                refine Wp_cut (fun ρ w' => ∃ (x707 : List api_Version) (A708 : Option Addr) (c709 : Nat), (x707) = o711 ∧ Agree ρ [(0, .slice A0 a0.length c0), (5, .int .i64 t1), (6, .slice A708 x707.length c709), (7, .int .i64 x376)] ∧ Ext w w' ∧ St w' M F [Row r_api_Version 27 (.slice A708 x707.length c709) x707]) ?_ ?_
                · clear o711H
                  have H := o711h
                  clear o711h
                  rcases iteS H with ⟨hb712, H⟩ | ⟨hb712, H⟩
                  · refine Wp_cond_true (congrArg Value.bool hb712) ?_
                    refine Wp_region_lit ?_
                    refine W_v (.slice A373 x372.length c374) (x_move rfl) rfl ?_
                    refine W_v (.slice A0 a0.length c0) (x_move rfl) rfl ?_
                    refine W_v (.int .i64 x376) (x_move rfl) rfl ?_
                    obtain ⟨⟨p713, p714⟩, H⟩ := chkS H
                    obtain ⟨b715, o716, cs717, _, _, ee722, hb718, vs719, hR720, hc721⟩ := SlW.at' hr0 p713 p714
                    obtain rfl : vs719 = _ := hR720
                    refine W_v (.pointer (some ⟨b715, o716 + x376.toNat * 4, none⟩)) (x_indexAddr Try.underlying22 ty27 (slA ee722) rfl p713 p714) rfl ?_
                    refine W_v (.agg #[.int .i64 ((rd a0 x376).Writer), .int .i64 ((rd a0 x376).TS), .bool ((rd a0 x376).Tomb), .string (bs ((rd a0 x376).Value))]) (x_loadA (S.frz hb718) ty27 rfl (sub_el hc721 0 rfl) rfl rfl) rfl ?_
                    refine W_bslice S #[.int .i64 ((rd a0 x376).Writer), .int .i64 ((rd a0 x376).TS), .bool ((rd a0 x376).Tomb), .string (bs ((rd a0 x376).Value))] Try.underlying22 ty27 rfl rfl #[.int .i64 0, .int .i64 0, .bool false, .string (bs ([] : Str))] (by kernel_rfl) (by kernel_rfl) rfl ?_
                    intro b723 w724 E' S
                    replace E := E.trans E'
                    clear E'
                    replace S := S.blk_row (r := r_api_Version) (l := ([(rd a0 x376)] : List api_Version)) 0 rfl 1 (Nat.le_refl 1) rfl (Cells.cons (vs := [.int .i64 ((rd a0 x376).Writer), .int .i64 ((rd a0 x376).TS), .bool ((rd a0 x376).Tomb), .string (bs ((rd a0 x376).Value))]) (rfl) Cells.nil)
                    obtain ⟨p726, H⟩ := chkS H
                    obtain ⟨src727, hs728, hC729⟩ := src_of_read (P := Try.prog) (ρ := r_api_Version) (l := ([(rd a0 x376)] : List api_Version)) (S.row_read 0 rfl) (by decide)
                    refine W_append S 1 rfl rfl rfl Try.underlying22 (.inl Try.underlying22) ty27 rfl (by decide) (by decide) hs728 hC729 rfl (by omega) rfl ?_
                    intro v730 w731 E' S
                    replace E := E.trans E'
                    clear E'
                    obtain ⟨A732, c733, rfl, _⟩ := (S.row_read 1 rfl).form
                    refine W_v (.slice A732 (x372 ++ ([(rd a0 x376)] : List api_Version)).length c733) (x_assign rfl) rfl ?_
                    refine Wl_nil ?_
                    refine tn ?_
                    exact ⟨(x372 ++ ([(rd a0 x376)] : List api_Version)), A732, c733, Option.some.inj H, ⟨rfl, rfl, rfl, rfl, trivial⟩, E, S.pick [1] (by decide)⟩
                  · refine Wp_cond_false (congrArg Value.bool hb712) ?_
                    refine Wp_skip ?_
                    refine tn ?_
                    exact ⟨x372, A373, c374, Option.some.inj H, ⟨rfl, rfl, rfl, rfl, trivial⟩, E, S.pick [0] (by decide)⟩
                · clear o711h
                  rintro ρ w734 ⟨x707, A708, c709, rfl, hρ, E, S⟩
                  rw [agree_eta hρ]
                  clear hρ
                  have H := o711H
                  clear o711H
                  refine bn ?_
                  refine tn ?_
                  exact ⟨x707, A708, c709, Option.some.inj H, ⟨rfl, rfl, rfl, rfl, trivial⟩, E, S.pick [0] (by decide)⟩
            · clear o650h
              rintro ρ w735 ⟨x646, A647, c648, rfl, hρ, E, S⟩
              rw [agree_eta hρ]
              clear hρ
              have H := o650H
              clear o650H
              refine tn ?_
              refine Wp_region_lit ?_
              refine W_v (.int .i64 x376) (x_move rfl) rfl ?_
              refine W_v (.int .i64 (IntKind.i64.wrap (x376 + (1 : Int)))) (x_ibin rfl rfl rfl rfl) rfl ?_
              refine W_v (.int .i64 (IntKind.i64.wrap (x376 + (1 : Int)))) (x_assign rfl) rfl ?_
              refine Wl_nil ?_
              refine tn ?_
              exact ⟨k, Nat.lt_succ_self k, ⟨x646, (IntKind.i64.wrap (x376 + (1 : Int))), A647, c648, H, ⟨rfl, rfl, rfl, rfl, trivial⟩, E, S.pick [0] (by decide)⟩⟩
          · refine Wp_cond_false (congrArg Value.bool hb561) ?_
            refine Wp_exit ?_
            refine tx (tx (bsm (?_)))
            refine tn ?_
            exact ⟨x372, A373, c374, Option.some.inj H, ⟨rfl, trivial⟩, E, S.pick [0] (by decide)⟩
  · clear o557h
    rintro ρ w736 ⟨x553, A554, c555, rfl, hρ, E, S⟩
    rw [agree_eta hρ]
    clear hρ
    have H := o557H
    clear o557H
    refine tn ?_
    refine Wp_seq ?_
    refine Wp_region_lit ?_
    refine W_v (.slice A554 x553.length c555) (x_move rfl) rfl ?_
    refine W_v (.slice A554 x553.length c555) (x_assign rfl) rfl ?_
    refine Wl_nil ?_
    refine tn ?_
    refine Wp_ret ?_
    obtain rfl := Option.some.inj H
    exact ⟨_, _, _, fun w1 e1 => run_resR (vs := [.slice A554 x553.length c555]) (FA.cons (rfl) (FA.nil)), HM, E, S.pick [0] (by decide), ⟨A554, c555, rfl, rfl⟩⟩
/-! ### ferryman/ferrymanref11.Seen: function 20 -/
def ferrymanref11_Seen (k : Nat) (a0 : (List api_Version)) (a1 : Int) : Option (api_Version × Bool) :=
  (Option.bind (ferrymanref11_upto k a0 a1) (fun t4 => (Option.bind (α := Bool) (if (t4 == (a0.length : Int)) = true then some (true) else (if 0 ≤ t4 ∧ t4 < (a0.length : Int) then some ((rd a0 t4).Tomb) else none)) (fun x28 => (if x28 = true then some ((⟨(0 : Int), (0 : Int), false, ([] : Str)⟩ : api_Version), false) else (if 0 ≤ t4 ∧ t4 < (a0.length : Int) then some ((rd a0 t4), true) else none))))))
set_option maxHeartbeats 2000000 in
theorem ferrymanref11_Seen.mono {k : Nat} {a0 : (List api_Version)} {a1 : Int} : OLe (ferrymanref11_Seen k a0 a1) (ferrymanref11_Seen (k + 1) a0 a1) := by
  unfold ferrymanref11_Seen
  repeat' (first | with_reducible exact OLe.none | with_reducible exact OLe.some | with_reducible refine OLe.ite ?_ ?_ | with_reducible refine OLe.bind ?_ (fun _ => ?_) | with_reducible exact ferrymanref11_upto.mono | refine OLe.bind ?_ (fun _ => ?_) | refine OLe.ite ?_ ?_ | refine OLe.elim (fun _ => ?_) (fun _ => ?_) | split)
set_option maxHeartbeats 1000000 in
set_option maxRecDepth 100000 in
theorem ferrymanref11_Seen.con (k : Nat) (M : Hp) (A0 : Option Addr) (c0 : Nat) (a0 : (List api_Version)) (a1 : Int) (r : api_Version × Bool) (hr0 : SlR r_api_Version M (.slice A0 a0.length c0) a0) (h : ferrymanref11_Seen k a0 a1 = some r) : Con Try.prog 20 #[.slice A0 a0.length c0, .int .i64 a1] M [] (fun v M' Γ' => v = .tuple #[.agg #[.int .i64 r.1.Writer, .int .i64 r.1.TS, .bool r.1.Tomb, .string (bs r.1.Value)], .bool r.2] ∧ Γ' = []) := by
  refine con_of_wp Try.func20 rfl Try.ntmps20 Try.results20 rfl ?_
  intro w F rn S hrn
  have E := Ext.refl w
  have HM := Hp.le_refl M
  have H := h
  unfold ferrymanref11_Seen at H
  refine Wp_seq ?_
  refine Wp_region_lit ?_
  refine W_alloc S #[.int .i64 0, .int .i64 0, .bool false, .string (bs ([] : Str))] ty27 rfl rfl ?_
  intro b1 w2 E' S
  replace E := E.trans E'
  clear E'
  refine W_v (.bool false) (x_assign rfl) rfl ?_
  refine Wl_nil ?_
  refine tn ?_
  refine Wp_seq ?_
  refine Wp_region_lit ?_
  refine W_v (.slice A0 a0.length c0) (x_move rfl) rfl ?_
  refine W_v (.int .i64 a1) (x_move rfl) rfl ?_
  obtain ⟨t4, ht5, H⟩ := bindS H
  refine W_callF fn26 (ferrymanref11_upto.con k M A0 c0 a0 a1 t4 hr0 ht5) S rfl rfl (by rintro _ _ _ ⟨_, rfl⟩; exact flat_nil) ?_
  rintro _ w6 _ Γ' E' S ⟨rfl, rfl⟩
  replace E := E.trans E'
  clear E'
  refine W_v (.int .i64 t4) (x_assign rfl) rfl ?_
  refine Wl_nil ?_
  refine tn ?_
  refine Wp_seq ?_
  refine Wp_seq ?_
  refine Wp_region_lit ?_
  refine W_v (.int .i64 t4) (x_move rfl) rfl ?_
  refine W_v (.slice A0 a0.length c0) (x_move rfl) rfl ?_
  refine W_v (.int .i64 (a0.length : Int)) (x_len_slice (n := a0.length) Try.underlying22 rfl) rfl ?_
  refine W_v (.bool (t4 == (a0.length : Int))) (x_ibin rfl rfl rfl rfl) rfl ?_
  refine W_v (.bool (t4 == (a0.length : Int))) (x_move rfl) rfl ?_
  obtain ⟨o29, o29h, o29H⟩ := bindS H
  clear H
  refine Wl_cutN 6 (fun ρ w' => ∃ (x28 : Bool), (x28) = o29 ∧ Agree ρ [(0, .slice A0 a0.length c0), (4, .pointer (some ⟨b1, 0, none⟩)), (6, .int .i64 t4), (20, .bool x28)] ∧ Ext w w' ∧ St w' M F [Blk b1 (.cells #[.int .i64 0, .int .i64 0, .bool false, .string (bs ([] : Str))] 27 (0, 0))]) ?_ ?_
  · have H := o29h
    rcases iteS H with ⟨hb27, H⟩ | ⟨hb27, H⟩
    · skip
      refine W_no (skF hb27) rfl ?_
      refine W_no (skF hb27) rfl ?_
      refine W_no (skF hb27) rfl ?_
      refine W_no (skF hb27) rfl ?_
      refine W_no (skF hb27) rfl ?_
      refine W_v (.bool true) (x_pick (k := true) (congrArg Value.bool hb27) rfl) rfl ?_
      refine Wl_nil ?_
      exact ⟨true, Option.some.inj H, ⟨rfl, rfl, rfl, rfl, trivial⟩, E, S.pick [0] (by decide)⟩
    · skip
      refine W_yes (congrArg some hb27) ?_
      refine W_v (.slice A0 a0.length c0) (x_move rfl) rfl ?_
      refine W_yes (congrArg some hb27) ?_
      refine W_v (.int .i64 t4) (x_move rfl) rfl ?_
      refine W_yes (congrArg some hb27) ?_
      obtain ⟨⟨p30, p31⟩, H⟩ := chkS H
      obtain ⟨b32, o33, cs34, _, _, ee39, hb35, vs36, hR37, hc38⟩ := SlW.at' hr0 p30 p31
      obtain rfl : vs36 = _ := hR37
      refine W_v (.pointer (some ⟨b32, o33 + t4.toNat * 4, none⟩)) (x_indexAddr Try.underlying22 ty27 (slA ee39) rfl p30 p31) rfl ?_
      refine W_yes (congrArg some hb27) ?_
      refine W_v (.pointer (some ⟨b32, o33 + t4.toNat * 4 + 2, none⟩)) (x_fieldAddr (o := o33 + t4.toNat * 4) (off := 2) Try.underlying27 rfl ty4 rfl rfl) rfl ?_
      refine W_yes (congrArg some hb27) ?_
      refine W_v (.bool ((rd a0 t4).Tomb)) (x_load (S.frz hb35) ty4 rfl (hc38 2 _ rfl)) rfl ?_
      refine W_v (.bool ((rd a0 t4).Tomb)) (x_pick (k := false) (congrArg Value.bool hb27) rfl) rfl ?_
      refine Wl_nil ?_
      exact ⟨((rd a0 t4).Tomb), Option.some.inj H, ⟨rfl, rfl, rfl, rfl, trivial⟩, E, S.pick [0] (by decide)⟩
  · clear o29h
    rintro ρ w40 ⟨x28, rfl, hρ, E, S⟩
    rw [agree_eta hρ]
    clear hρ
    have H := o29H
    clear o29H
    refine Wl_nil ?_
    refine tn ?_
    rcases iteS H with ⟨hb41, H⟩ | ⟨hb41, H⟩
    · refine Wp_cond_true (congrArg Value.bool hb41) ?_
      refine Wp_seq ?_
      refine Wp_region_lit ?_
      refine W_v (.agg #[.int .i64 0, .int .i64 0, .bool false, .string (bs ([] : Str))]) (x_build2 (pl := [(0, 1), (1, 1), (2, 1), (3, 1)]) #[.int .i64 0, .int .i64 0, .bool false, .string (bs ([] : Str))] Try.underlying27 ty27 (by kernel_rfl) rfl (by kernel_rfl)) rfl ?_
      refine W_store S 0 rfl ty27 rfl rfl [.int .i64 0, .int .i64 0, .bool false, .string (bs ([] : Str))] rfl rfl rfl #[.int .i64 0, .int .i64 0, .bool false, .string (bs ([] : Str))] rfl rfl ?_
      intro w42 E' S
      replace E := E.trans E'
      clear E'
      refine W_v (.bool false) (x_assign rfl) rfl ?_
      refine Wl_nil ?_
      refine tn ?_
      refine Wp_ret ?_
      refine tr (?_)
      obtain rfl := Option.some.inj H
      exact ⟨_, _, _, fun w1 e1 => run_resR (vs := [.agg #[.int .i64 0, .int .i64 0, .bool false, .string (bs ([] : Str))], .bool false]) (FA.cons (⟨_, rfl, run_loadVar_agg ty27 ((S.of_eq e1).blk 0 rfl) (sub_of_extract rfl) rfl (by decide)⟩) (FA.cons (rfl) (FA.nil))), HM, E, S.pick [] (by decide), ⟨rfl, rfl⟩⟩
    · refine Wp_cond_false (congrArg Value.bool hb41) ?_
      refine Wp_skip ?_
      refine tn ?_
      refine Wp_seq ?_
      refine Wp_region_lit ?_
      refine W_v (.slice A0 a0.length c0) (x_move rfl) rfl ?_
      refine W_v (.int .i64 t4) (x_move rfl) rfl ?_
      obtain ⟨⟨p43, p44⟩, H⟩ := chkS H
      obtain ⟨b45, o46, cs47, _, _, ee52, hb48, vs49, hR50, hc51⟩ := SlW.at' hr0 p43 p44
      obtain rfl : vs49 = _ := hR50
      refine W_v (.pointer (some ⟨b45, o46 + t4.toNat * 4, none⟩)) (x_indexAddr Try.underlying22 ty27 (slA ee52) rfl p43 p44) rfl ?_
      refine W_v (.agg #[.int .i64 ((rd a0 t4).Writer), .int .i64 ((rd a0 t4).TS), .bool ((rd a0 t4).Tomb), .string (bs ((rd a0 t4).Value))]) (x_loadA (S.frz hb48) ty27 rfl (sub_el hc51 0 rfl) rfl rfl) rfl ?_
      refine W_store S 0 rfl ty27 rfl rfl [.int .i64 ((rd a0 t4).Writer), .int .i64 ((rd a0 t4).TS), .bool ((rd a0 t4).Tomb), .string (bs ((rd a0 t4).Value))] rfl rfl rfl #[.int .i64 ((rd a0 t4).Writer), .int .i64 ((rd a0 t4).TS), .bool ((rd a0 t4).Tomb), .string (bs ((rd a0 t4).Value))] rfl rfl ?_
      intro w53 E' S
      replace E := E.trans E'
      clear E'
      refine W_v (.bool true) (x_assign rfl) rfl ?_
      refine Wl_nil ?_
      refine tn ?_
      refine Wp_ret ?_
      obtain rfl := Option.some.inj H
      exact ⟨_, _, _, fun w1 e1 => run_resR (vs := [.agg #[.int .i64 ((rd a0 t4).Writer), .int .i64 ((rd a0 t4).TS), .bool ((rd a0 t4).Tomb), .string (bs ((rd a0 t4).Value))], .bool true]) (FA.cons (⟨_, rfl, run_loadVar_agg ty27 ((S.of_eq e1).blk 0 rfl) (sub_of_extract rfl) rfl (by decide)⟩) (FA.cons (rfl) (FA.nil))), HM, E, S.pick [] (by decide), ⟨rfl, rfl⟩⟩
/-! ### ferryman/ferrymanref11.Clash: function 21 -/
def ferrymanref11_Clash (k : Nat) (a0 : (List api_Version)) (a1 : Int) : Option (Bool) :=
  (Option.bind (α := Bool) (if (decide ((a0.length : Int) > (0 : Int))) = true then (if 0 ≤ (0 : Int) ∧ (0 : Int) < (a0.length : Int) then some ((decide ((rd a0 (0 : Int)).TS > a1))) else none) else some (false)) (fun x22 => some x22))
set_option maxHeartbeats 2000000 in
theorem ferrymanref11_Clash.mono {k : Nat} {a0 : (List api_Version)} {a1 : Int} : OLe (ferrymanref11_Clash k a0 a1) (ferrymanref11_Clash (k + 1) a0 a1) := by
  unfold ferrymanref11_Clash
  repeat' (first | with_reducible exact OLe.none | with_reducible exact OLe.some | with_reducible refine OLe.ite ?_ ?_ | with_reducible refine OLe.bind ?_ (fun _ => ?_) | refine OLe.bind ?_ (fun _ => ?_) | refine OLe.ite ?_ ?_ | refine OLe.elim (fun _ => ?_) (fun _ => ?_) | split)
set_option maxHeartbeats 1000000 in
set_option maxRecDepth 100000 in
theorem ferrymanref11_Clash.con (k : Nat) (M : Hp) (A0 : Option Addr) (c0 : Nat) (a0 : (List api_Version)) (a1 : Int) (r : Bool) (hr0 : SlR r_api_Version M (.slice A0 a0.length c0) a0) (h : ferrymanref11_Clash k a0 a1 = some r) : Con Try.prog 21 #[.slice A0 a0.length c0, .int .i64 a1] M [] (fun v M' Γ' => v = .bool r ∧ Γ' = []) := by
  refine con_of_wp Try.func21 rfl Try.ntmps21 Try.results21 rfl ?_
  intro w F rn S hrn
  have E := Ext.refl w
  have HM := Hp.le_refl M
  have H := h
  unfold ferrymanref11_Clash at H
  refine Wp_seq ?_
  refine Wp_region_lit ?_
  refine W_v (.bool false) (x_assign rfl) rfl ?_
  refine Wl_nil ?_
  refine tn ?_
  refine Wp_seq ?_
  refine Wp_region_lit ?_
  refine W_v (.slice A0 a0.length c0) (x_move rfl) rfl ?_
  refine W_v (.int .i64 (a0.length : Int)) (x_len_slice (n := a0.length) Try.underlying22 rfl) rfl ?_
  refine W_v (.bool (decide ((a0.length : Int) > (0 : Int)))) (x_ibin rfl rfl rfl rfl) rfl ?_
  refine W_v (.bool (decide ((a0.length : Int) > (0 : Int)))) (x_move rfl) rfl ?_
  obtain ⟨o23, o23h, o23H⟩ := bindS H
  clear H
  refine Wl_cutN 7 (fun ρ w' => ∃ (x22 : Bool), (x22) = o23 ∧ Agree ρ [(15, .bool x22)] ∧ Ext w w' ∧ St w' M F []) ?_ ?_
  · have H := o23h
    rcases iteS H with ⟨hb21, H⟩ | ⟨hb21, H⟩
    · skip
      refine W_yes (congrArg some hb21) ?_
      refine W_v (.slice A0 a0.length c0) (x_move rfl) rfl ?_
      refine W_yes (congrArg some hb21) ?_
      obtain ⟨⟨p24, p25⟩, H⟩ := chkS H
      obtain ⟨b26, o27, cs28, _, _, ee33, hb29, vs30, hR31, hc32⟩ := SlW.at' hr0 p24 p25
      obtain rfl : vs30 = _ := hR31
      refine W_v (.pointer (some ⟨b26, o27 + (0 : Int).toNat * 4, none⟩)) (x_indexAddr Try.underlying22 ty27 (slA ee33) rfl p24 p25) rfl ?_
      refine W_yes (congrArg some hb21) ?_
      refine W_v (.pointer (some ⟨b26, o27 + (0 : Int).toNat * 4 + 1, none⟩)) (x_fieldAddr (o := o27 + (0 : Int).toNat * 4) (off := 1) Try.underlying27 rfl ty3 rfl rfl) rfl ?_
      refine W_yes (congrArg some hb21) ?_
      refine W_v (.int .i64 ((rd a0 (0 : Int)).TS)) (x_load (S.frz hb29) ty3 rfl (hc32 1 _ rfl)) rfl ?_
      refine W_yes (congrArg some hb21) ?_
      refine W_v (.int .i64 a1) (x_move rfl) rfl ?_
      refine W_yes (congrArg some hb21) ?_
      refine W_v (.bool (decide ((rd a0 (0 : Int)).TS > a1))) (x_ibin rfl rfl rfl rfl) rfl ?_
      refine W_v (.bool (decide ((rd a0 (0 : Int)).TS > a1))) (x_pick (k := true) (congrArg Value.bool hb21) rfl) rfl ?_
      refine Wl_nil ?_
      exact ⟨(decide ((rd a0 (0 : Int)).TS > a1)), Option.some.inj H, ⟨rfl, trivial⟩, E, S.pick [] (by decide)⟩
    · skip
      refine W_no (skT hb21) rfl ?_
      refine W_no (skT hb21) rfl ?_
      refine W_no (skT hb21) rfl ?_
      refine W_no (skT hb21) rfl ?_
      refine W_no (skT hb21) rfl ?_
      refine W_no (skT hb21) rfl ?_
      refine W_v (.bool false) (x_pick (k := false) (congrArg Value.bool hb21) rfl) rfl ?_
      refine Wl_nil ?_
      exact ⟨false, Option.some.inj H, ⟨rfl, trivial⟩, E, S.pick [] (by decide)⟩
  · clear o23h
    rintro ρ w34 ⟨x22, rfl, hρ, E, S⟩
    rw [agree_eta hρ]
    clear hρ
    have H := o23H
    clear o23H
    refine W_v (.bool x22) (x_assign rfl) rfl ?_
    refine Wl_nil ?_
    refine tn ?_
    refine Wp_ret ?_
    obtain rfl := Option.some.inj H
    exact ⟨_, _, _, fun w1 e1 => run_resR (vs := [.bool x22]) (FA.cons (rfl) (FA.nil)), HM, E, S.pick [] (by decide), ⟨rfl, rfl⟩⟩
end Go.Proofs.Ytmoackfjfklfaaa
