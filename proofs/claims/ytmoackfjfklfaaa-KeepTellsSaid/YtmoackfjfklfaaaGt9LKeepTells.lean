import Derived.Test.YtmoackfjfklfaaaGt9
namespace Go.Proofs.Ytmoackfjfklfaaa
open Go
set_option linter.unusedVariables false
set_option linter.unusedSimpArgs false
/-! ### ferryman/ferrymanlaw11.KeepTells: function 8 -/
def ferrymanlaw11_KeepTells_l4 : Nat → List api_Version → Int → Option ((List api_Version))
  | 0, _, _ => none
  | k + 1, x395, x399 => (if (decide (x399 < (x395.length : Int))) = true then (if 0 ≤ x399 ∧ x399 < (x395.length : Int) then (Option.bind (α := List api_Version) (some (List.set x395 x399.toNat (⟨(0 : Int), (0 : Int), false, ([115, 112, 111, 105, 108, 116] : Str)⟩ : api_Version))) (fun x433 => ferrymanlaw11_KeepTells_l4 k x433 (IntKind.i64.wrap (x399 + (1 : Int))))) else none) else some (x395))
set_option maxHeartbeats 2000000 in
theorem ferrymanlaw11_KeepTells_l4.mono  : ∀ {k : Nat} {x0 x1}, OLe (ferrymanlaw11_KeepTells_l4  k x0 x1) (ferrymanlaw11_KeepTells_l4  (k + 1) x0 x1) := by
  intro k
  induction k with
  | zero => intros; exact OLe.none
  | succ k ih =>
    intros
    rw [ferrymanlaw11_KeepTells_l4.eq_2, ferrymanlaw11_KeepTells_l4.eq_2]
    repeat' (first | with_reducible exact OLe.none | with_reducible exact OLe.some | with_reducible refine OLe.ite ?_ ?_ | with_reducible refine OLe.bind ?_ (fun _ => ?_) | exact ih | refine OLe.bind ?_ (fun _ => ?_) | refine OLe.ite ?_ ?_ | refine OLe.elim (fun _ => ?_) (fun _ => ?_) | split)
def ferrymanlaw11_KeepTells_l2 (a0 : (List api_Version)) (a2 : Int) (t6 : (List api_Version)) : Nat → Int → Option ((Bool) ⊕ (Unit))
  | 0, _ => none
  | k + 1, x228 => (if (decide (x228 < (2 : Int))) = true then (Option.bind (keep_Kept k t6 a2) (fun t339 => (Option.bind (ferrymanref11_Kept k a0 a2) (fun t345 => (Option.bind (ferrymanref11_Same k t339 t345) (fun t351 => (if (!t351) = true then some (.inl false) else (Option.bind (ferrymanlaw11_KeepTells_l4 k t339 (0 : Int)) (fun x415 => (if (x415.length : Int) ≤ 140737488355328 then ferrymanlaw11_KeepTells_l2 a0 a2 t6 k (IntKind.i64.wrap (x228 + (1 : Int))) else none)))))))))) else some (.inr ()))
set_option maxHeartbeats 2000000 in
theorem ferrymanlaw11_KeepTells_l2.mono {a0 : (List api_Version)} {a2 : Int} {t6 : (List api_Version)} : ∀ {k : Nat} {x0}, OLe (ferrymanlaw11_KeepTells_l2 a0 a2 t6 k x0) (ferrymanlaw11_KeepTells_l2 a0 a2 t6 (k + 1) x0) := by
  intro k
  induction k with
  | zero => intros; exact OLe.none
  | succ k ih =>
    intros
    rw [ferrymanlaw11_KeepTells_l2.eq_2, ferrymanlaw11_KeepTells_l2.eq_2]
    repeat' (first | with_reducible exact OLe.none | with_reducible exact OLe.some | with_reducible refine OLe.ite ?_ ?_ | with_reducible refine OLe.bind ?_ (fun _ => ?_) | with_reducible exact ferrymanlaw11_KeepTells_l4.mono | with_reducible exact ferrymanref11_Kept.mono | with_reducible exact ferrymanref11_Same.mono | with_reducible exact keep_Kept.mono | exact ih | refine OLe.bind ?_ (fun _ => ?_) | refine OLe.ite ?_ ?_ | refine OLe.elim (fun _ => ?_) (fun _ => ?_) | split)
def ferrymanlaw11_KeepTells (k : Nat) (a0 : (List api_Version)) (a1 : (List api_Version)) (a2 : Int) : Option (Bool) :=
  (if ((decide ((a0.length : Int) > (300 : Int))) || (decide ((a1.length : Int) > (300 : Int)))) = true then (Option.bind (ferrymanlaw11_awake k ) (fun t3 => some t3)) else (Option.bind (ferrymanlaw11_own k a0) (fun t6 => (Option.bind (ferrymanlaw11_KeepTells_l2 a0 a2 t6 k (0 : Int)) (fun o336o => Sum.elim (fun r' => some r') (fun _ => (Option.bind (keep_Seen k t6 a2) (fun t446 => (Option.bind (ferrymanref11_Seen k a0 a2) (fun t453 => (Option.bind (α := Bool) (if (((t446.1.Writer == t453.1.Writer) && ((t446.1.TS == t453.1.TS) && ((t446.1.Tomb == t453.1.Tomb) && (t446.1.Value == t453.1.Value)))) && (t446.2 == t453.2)) = true then (Option.bind (keep_Legal k t6) (fun t476 => (Option.bind (ferrymanref11_Legal k a0) (fun t479 => some ((t476 == t479)))))) else some (false)) (fun x474 => (Option.bind (α := Bool) (if x474 = true then (Option.bind (keep_Clash k t6 a2) (fun t498 => (Option.bind (ferrymanref11_Clash k a0 a2) (fun t501 => some ((t498 == t501)))))) else some (false)) (fun x496 => (Option.bind (α := Bool) (if x496 = true then (Option.bind (keep_Same k t6 a1) (fun t520 => (Option.bind (ferrymanref11_Same k a0 a1) (fun t523 => some ((t520 == t523)))))) else some (false)) (fun x518 => (Option.bind (α := Bool) (if x518 = true then (Option.bind (keep_Same k t6 a0) (fun t536 => some (t536))) else some (false)) (fun x534 => (Option.bind (α := Bool) (if x534 = true then (Option.bind (ferrymanref11_Same k t6 a0) (fun t549 => some (t549))) else some (false)) (fun x547 => (Option.bind (α := Bool) (if x547 = true then (Option.bind (ferrymanlaw11_awake k ) (fun t562 => some (t562))) else some (false)) (fun x560 => some x560))))))))))))))))) o336o)))))
set_option maxHeartbeats 2000000 in
theorem ferrymanlaw11_KeepTells.mono {k : Nat} {a0 : (List api_Version)} {a1 : (List api_Version)} {a2 : Int} : OLe (ferrymanlaw11_KeepTells k a0 a1 a2) (ferrymanlaw11_KeepTells (k + 1) a0 a1 a2) := by
  unfold ferrymanlaw11_KeepTells
  repeat' (first | with_reducible exact OLe.none | with_reducible exact OLe.some | with_reducible refine OLe.ite ?_ ?_ | with_reducible refine OLe.bind ?_ (fun _ => ?_) | with_reducible exact ferrymanlaw11_KeepTells_l2.mono | with_reducible exact ferrymanlaw11_awake.mono | with_reducible exact ferrymanlaw11_own.mono | with_reducible exact ferrymanref11_Clash.mono | with_reducible exact ferrymanref11_Legal.mono | with_reducible exact ferrymanref11_Same.mono | with_reducible exact ferrymanref11_Seen.mono | with_reducible exact keep_Clash.mono | with_reducible exact keep_Legal.mono | with_reducible exact keep_Same.mono | with_reducible exact keep_Seen.mono | refine OLe.bind ?_ (fun _ => ?_) | refine OLe.ite ?_ ?_ | refine OLe.elim (fun _ => ?_) (fun _ => ?_) | split)
set_option maxHeartbeats 1000000 in
set_option maxRecDepth 100000 in
theorem ferrymanlaw11_KeepTells.con (k : Nat) (M : Hp) (A0 : Option Addr) (c0 : Nat) (a0 : (List api_Version)) (A1 : Option Addr) (c1 : Nat) (a1 : (List api_Version)) (a2 : Int) (r : Bool) (hr0 : SlR r_api_Version M (.slice A0 a0.length c0) a0) (hr1 : SlR r_api_Version M (.slice A1 a1.length c1) a1) (h : ferrymanlaw11_KeepTells k a0 a1 a2 = some r) : Con Try.prog 8 #[.slice A0 a0.length c0, .slice A1 a1.length c1, .int .i64 a2] M [] (fun v M' Γ' => v = .bool r ∧ Γ' = []) := by
  refine con_of_wp Try.func8 rfl Try.ntmps8 Try.results8 rfl ?_
  intro w F rn S hrn
  have E := Ext.refl w
  have HM := Hp.le_refl M
  have H := h
  unfold ferrymanlaw11_KeepTells at H
  refine Wp_seq ?_
  refine Wp_region_lit ?_
  refine W_v (.bool false) (x_assign rfl) rfl ?_
  refine Wl_nil ?_
  refine tn ?_
  refine Wp_seq ?_
  refine Wp_seq ?_
  refine Wp_region_lit ?_
  refine W_v (.slice A0 a0.length c0) (x_move rfl) rfl ?_
  refine W_v (.int .i64 (a0.length : Int)) (x_len_slice (n := a0.length) Try.underlying22 rfl) rfl ?_
  refine W_v (.bool (decide ((a0.length : Int) > (300 : Int)))) (x_ibin rfl rfl rfl rfl) rfl ?_
  refine W_v (.bool (decide ((a0.length : Int) > (300 : Int)))) (x_move rfl) rfl ?_
  refine Wl_cutN 4 (fun ρ w' => Agree ρ [(0, .slice A0 a0.length c0), (1, .slice A1 a1.length c1), (2, .int .i64 a2), (22, .bool ((decide ((a0.length : Int) > (300 : Int))) || (decide ((a1.length : Int) > (300 : Int)))))] ∧ w = w') ?_ ?_
  · rcases boolCases (decide ((a0.length : Int) > (300 : Int))) with hb1 | hb1
    · skip
      refine W_yes (congrArg some hb1) ?_
      refine W_v (.slice A1 a1.length c1) (x_move rfl) rfl ?_
      refine W_yes (congrArg some hb1) ?_
      refine W_v (.int .i64 (a1.length : Int)) (x_len_slice (n := a1.length) Try.underlying22 rfl) rfl ?_
      refine W_yes (congrArg some hb1) ?_
      refine W_v (.bool (decide ((a1.length : Int) > (300 : Int)))) (x_ibin rfl rfl rfl rfl) rfl ?_
      refine W_v (.bool (decide ((a1.length : Int) > (300 : Int)))) (x_pick (k := false) (congrArg Value.bool hb1) rfl) rfl ?_
      refine Wl_nil ?_
      exact ⟨⟨rfl, rfl, rfl, (by first | rfl | (rw [hb1]; rfl) | (simp only [hb1]; rfl)), trivial⟩, rfl⟩
    · skip
      refine W_no (skF hb1) rfl ?_
      refine W_no (skF hb1) rfl ?_
      refine W_no (skF hb1) rfl ?_
      refine W_v (.bool true) (x_pick (k := true) (congrArg Value.bool hb1) rfl) rfl ?_
      refine Wl_nil ?_
      exact ⟨⟨rfl, rfl, rfl, (by first | rfl | (rw [hb1]; rfl) | (simp only [hb1]; rfl)), trivial⟩, rfl⟩
  · rintro ρ _ ⟨hρ, rfl⟩
    rw [agree_eta hρ]
    clear hρ
    skip
    refine Wl_nil ?_
    refine tn ?_
    rcases iteS H with ⟨hb2, H⟩ | ⟨hb2, H⟩
    · refine Wp_cond_true (congrArg Value.bool hb2) ?_
      refine Wp_seq ?_
      refine Wp_region_lit ?_
      obtain ⟨t3, ht4, H⟩ := bindS H
      refine W_callF fn10 (ferrymanlaw11_awake.con k M  t3  ht4) S rfl rfl (by rintro _ _ _ ⟨_, rfl⟩; exact flat_nil) ?_
      rintro _ w5 _ Γ' E' S ⟨rfl, rfl⟩
      replace E := E.trans E'
      clear E'
      refine W_v (.bool t3) (x_assign rfl) rfl ?_
      refine Wl_nil ?_
      refine tn ?_
      refine Wp_ret ?_
      refine tr (?_)
      obtain rfl := Option.some.inj H
      exact ⟨_, _, _, fun w1 e1 => run_resR (vs := [.bool t3]) (FA.cons (rfl) (FA.nil)), HM, E, S.pick [] (by decide), ⟨rfl, rfl⟩⟩
    · refine Wp_cond_false (congrArg Value.bool hb2) ?_
      refine Wp_skip ?_
      refine tn ?_
      refine Wp_seq ?_
      refine Wp_region_lit ?_
      refine W_v (.slice A0 a0.length c0) (x_move rfl) rfl ?_
      obtain ⟨t6, ht7, H⟩ := bindS H
      refine W_callF fn18 (ferrymanlaw11_own.con k M A0 c0 a0 t6 hr0 ht7) S rfl rfl (by rintro _ _ _ ⟨_, _, _, rfl⟩; exact (flat_cons (flat_row (fun _ _ _ _ h => h)) flat_nil)) ?_
      rintro _ w11 _ Γ' E' S ⟨A8, c9, rfl, rfl⟩
      replace E := E.trans E'
      clear E'
      refine W_v (.slice A8 t6.length c9) (x_assign rfl) rfl ?_
      refine Wl_nil ?_
      refine tn ?_
      refine Wp_seq ?_
      refine Wp_seq ?_
      refine Wp_region_lit ?_
      refine W_v (.int .i64 0) (x_assign rfl) rfl ?_
      refine Wl_nil ?_
      refine tn ?_
      obtain ⟨o336, o336h, o336H⟩ := bindS H
      clear H
      refine Wp_blockJ (fun ρ w' => .inr () = o336 ∧ Agree ρ [(0, .slice A0 a0.length c0), (1, .slice A1 a1.length c1), (2, .int .i64 a2), (7, .slice A8 t6.length c9)] ∧ Ext w w' ∧ St w' M F [Row r_api_Version 27 (.slice A8 t6.length c9) t6]) ?_ ?_
      · skip
        refine Wp_loop (fun n ρ w' => ∃ (x228 : Int), ferrymanlaw11_KeepTells_l2 a0 a2 t6 n x228 = some o336 ∧ Agree ρ [(0, .slice A0 a0.length c0), (1, .slice A1 a1.length c1), (2, .int .i64 a2), (7, .slice A8 t6.length c9), (8, .int .i64 x228)] ∧ Ext w w' ∧ St w' M F [Row r_api_Version 27 (.slice A8 t6.length c9) t6]) k ?_ ?_
        · skip
          exact ⟨(0 : Int), o336h, ⟨rfl, rfl, rfl, rfl, rfl, trivial⟩, E, S.pick [0] (by decide)⟩
        · intro n
          rintro ρ w337 ⟨x228, H, hρ, E, S⟩
          rw [agree_eta hρ]
          clear hρ
          cases n with
          | zero => cases H
          | succ k =>
            rw [ferrymanlaw11_KeepTells_l2.eq_2] at H
            refine Wp_seq ?_
            refine Wp_seq ?_
            refine Wp_region_lit ?_
            refine W_v (.int .i64 x228) (x_move rfl) rfl ?_
            refine W_v (.bool (decide (x228 < (2 : Int)))) (x_ibin rfl rfl rfl rfl) rfl ?_
            refine Wl_nil ?_
            refine tn ?_
            rcases iteS H with ⟨hb338, H⟩ | ⟨hb338, H⟩
            · refine Wp_cond_true (congrArg Value.bool hb338) ?_
              refine Wp_skip ?_
              refine tn ?_
              refine Wp_seq ?_
              refine Wp_block ?_
              refine Wp_seq ?_
              refine Wp_region_lit ?_
              refine W_v (.slice A8 t6.length c9) (x_move rfl) rfl ?_
              refine W_v (.int .i64 a2) (x_move rfl) rfl ?_
              replace S : St w337 M F [Row r_api_Version 27 (.slice A8 t6.length c9) t6] := S.pick [0] (by decide)
              obtain ⟨t339, ht340, H⟩ := bindS H
              refine W_callL (Δ := [Row r_api_Version 27 (.slice A8 t6.length c9) t6]) (Γ2 := []) fn11 (fun h9 hs9 hd9 => keep_Kept.con k _ A8 c9 t6 a2 t339 (Sats.row hs9 hd9 0 rfl) ht340) S rfl rfl (by rintro _ _ _ ⟨_, _, _, rfl⟩; exact (flat_cons (flat_row (fun _ _ _ _ h => h)) flat_nil)) ?_
              rintro _ w344 _ Γ' E' S ⟨A341, c342, rfl, rfl⟩
              replace E := E.trans E'
              clear E'
              replace S : St w344 M F [Row r_api_Version 27 (.slice A341 t339.length c342) t339, Row r_api_Version 27 (.slice A8 t6.length c9) t6] := S
              refine W_v (.slice A341 t339.length c342) (x_assign rfl) rfl ?_
              refine Wl_nil ?_
              refine tn ?_
              refine Wp_seq ?_
              refine Wp_seq ?_
              refine Wp_region_lit ?_
              refine W_v (.slice A341 t339.length c342) (x_move rfl) rfl ?_
              refine W_v (.slice A0 a0.length c0) (x_move rfl) rfl ?_
              refine W_v (.int .i64 a2) (x_move rfl) rfl ?_
              obtain ⟨t345, ht346, H⟩ := bindS H
              refine W_callF fn19 (ferrymanref11_Kept.con k M A0 c0 a0 a2 t345 hr0 ht346) S rfl rfl (by rintro _ _ _ ⟨_, _, _, rfl⟩; exact (flat_cons (flat_row (fun _ _ _ _ h => h)) flat_nil)) ?_
              rintro _ w350 _ Γ' E' S ⟨A347, c348, rfl, rfl⟩
              replace E := E.trans E'
              clear E'
              replace S : St w350 M F [Row r_api_Version 27 (.slice A341 t339.length c342) t339, Row r_api_Version 27 (.slice A347 t345.length c348) t345, Row r_api_Version 27 (.slice A8 t6.length c9) t6] := S.pick [1, 0, 2] (by decide)
              obtain ⟨t351, ht352, H⟩ := bindS H
              refine W_callL (Δ := [Row r_api_Version 27 (.slice A341 t339.length c342) t339, Row r_api_Version 27 (.slice A347 t345.length c348) t345]) (Γ2 := [Row r_api_Version 27 (.slice A8 t6.length c9) t6]) fn15 (fun h9 hs9 hd9 => ferrymanref11_Same.con k _ A341 c342 t339 A347 c348 t345 t351 (Sats.row hs9 hd9 0 rfl) (Sats.row hs9 hd9 1 rfl) ht352) S rfl rfl (by rintro _ _ _ ⟨_, rfl⟩; exact flat_nil) ?_
              rintro _ w353 _ Γ' E' S ⟨rfl, rfl⟩
              replace E := E.trans E'
              clear E'
              replace S : St w353 M F [Row r_api_Version 27 (.slice A341 t339.length c342) t339, Row r_api_Version 27 (.slice A347 t345.length c348) t345, Row r_api_Version 27 (.slice A8 t6.length c9) t6] := S
              refine W_v (.bool (!t351)) (x_not rfl) rfl ?_
              refine Wl_nil ?_
              refine tn ?_
              rcases iteS H with ⟨hb354, H⟩ | ⟨hb354, H⟩
              · refine Wp_cond_true (congrArg Value.bool hb354) ?_
                refine Wp_seq ?_
                refine Wp_region_lit ?_
                refine W_v (.bool false) (x_assign rfl) rfl ?_
                refine Wl_nil ?_
                refine tn ?_
                refine Wp_ret ?_
                refine tr (br (tr (tr (br (tr (tr (?_)))))))
                obtain rfl := Option.some.inj H
                have H := o336H
                replace H := elimL H
                obtain rfl := Option.some.inj H
                exact ⟨_, _, _, fun w1 e1 => run_resR (vs := [.bool false]) (FA.cons (rfl) (FA.nil)), HM, E, S.pick [] (by decide), ⟨rfl, rfl⟩⟩
              · refine Wp_cond_false (congrArg Value.bool hb354) ?_
                refine Wp_skip ?_
                refine tn ?_
                refine Wp_seq ?_
                refine Wp_seq ?_
                refine Wp_region_lit ?_
                refine W_v (.int .i64 0) (x_assign rfl) rfl ?_
                refine Wl_nil ?_
                refine tn ?_
                obtain ⟨o419, o419h, o419H⟩ := bindS H
                clear H
                refine Wp_blockJ (fun ρ w' => ∃ (x415 : List api_Version) (A416 : Option Addr) (c417 : Nat), (x415) = o419 ∧ Agree ρ [(0, .slice A0 a0.length c0), (1, .slice A1 a1.length c1), (2, .int .i64 a2), (7, .slice A8 t6.length c9), (8, .int .i64 x228), (9, .slice A416 x415.length c417)] ∧ Ext w w' ∧ St w' M F [Row r_api_Version 27 (.slice A416 x415.length c417) x415, Row r_api_Version 27 (.slice A8 t6.length c9) t6]) ?_ ?_
                · skip
                  refine Wp_loop (fun n ρ w' => ∃ (x395 : List api_Version) (x399 : Int) (A396 : Option Addr) (c397 : Nat), ferrymanlaw11_KeepTells_l4 n x395 x399 = some o419 ∧ Agree ρ [(0, .slice A0 a0.length c0), (1, .slice A1 a1.length c1), (2, .int .i64 a2), (7, .slice A8 t6.length c9), (8, .int .i64 x228), (9, .slice A396 x395.length c397), (10, .int .i64 x399)] ∧ Ext w w' ∧ St w' M F [Row r_api_Version 27 (.slice A396 x395.length c397) x395, Row r_api_Version 27 (.slice A8 t6.length c9) t6]) k ?_ ?_
                  · skip
                    exact ⟨t339, (0 : Int), A341, c342, o419h, ⟨rfl, rfl, rfl, rfl, rfl, rfl, rfl, trivial⟩, E, S.pick [0, 2] (by decide)⟩
                  · intro n
                    rintro ρ w420 ⟨x395, x399, A396, c397, H, hρ, E, S⟩
                    rw [agree_eta hρ]
                    clear hρ
                    cases n with
                    | zero => cases H
                    | succ k =>
                      rw [ferrymanlaw11_KeepTells_l4.eq_2] at H
                      refine Wp_seq ?_
                      refine Wp_seq ?_
                      refine Wp_region_lit ?_
                      refine W_v (.int .i64 x399) (x_move rfl) rfl ?_
                      refine W_v (.slice A396 x395.length c397) (x_move rfl) rfl ?_
                      refine W_v (.int .i64 (x395.length : Int)) (x_len_slice (n := x395.length) Try.underlying22 rfl) rfl ?_
                      refine W_v (.bool (decide (x399 < (x395.length : Int)))) (x_ibin rfl rfl rfl rfl) rfl ?_
                      refine Wl_nil ?_
                      refine tn ?_
                      rcases iteS H with ⟨hb421, H⟩ | ⟨hb421, H⟩
                      · refine Wp_cond_true (congrArg Value.bool hb421) ?_
                        refine Wp_skip ?_
                        refine tn ?_
                        refine Wp_seq ?_
                        refine Wp_block ?_
                        refine Wp_region_lit ?_
                        refine W_v (.slice A396 x395.length c397) (x_move rfl) rfl ?_
                        refine W_v (.int .i64 x399) (x_move rfl) rfl ?_
                        refine W_v (.agg #[.int .i64 0, .int .i64 0, .bool false, .string (bs ([115, 112, 111, 105, 108, 116] : Str))]) (x_build2 (pl := [(0, 1), (1, 1), (2, 1), (3, 1)]) #[.int .i64 0, .int .i64 0, .bool false, .string (bs ([115, 112, 111, 105, 108, 116] : Str))] Try.underlying27 ty27 (by kernel_rfl) rfl (by kernel_rfl)) rfl ?_
                        obtain ⟨⟨p422, p423⟩, H⟩ := chkS H
                        obtain ⟨b424, o425, cs426, _, _, ee431, hb427, vs428, hR429, hc430⟩ := SlW.at' (S.row_read 0 rfl) p422 p423
                        obtain rfl : vs428 = _ := hR429
                        refine W_v (.pointer (some ⟨b424, o425 + x399.toNat * 4, none⟩)) (x_indexAddr Try.underlying22 ty27 (slA ee431) rfl p422 p423) rfl ?_
                        obtain ⟨x433, he434, H⟩ := bindS H
                        replace he434 := Option.some.inj he434
                        refine W_rowstore S 0 rfl rfl ee431 (by first | exact p422 | simpa using p422) (by first | exact p423 | simpa using p423) 0 ty27 rfl rfl [.int .i64 0, .int .i64 0, .bool false, .string (bs ([115, 112, 111, 105, 108, 116] : Str))] rfl rfl rfl rfl (⟨(0 : Int), (0 : Int), false, ([115, 112, 111, 105, 108, 116] : Str)⟩ : api_Version) (by rintro _ rfl; rfl) he434 ?_
                        intro w432 E' S
                        replace E := E.trans E'
                        clear E'
                        have hs435 : Value.slice A396 x395.length c397 = Value.slice A396 x433.length c397 := by rw [← he434, List.length_set]
                        try rw [hs435] at S
                        try rw [hs435]
                        clear hs435
                        refine Wl_nil ?_
                        refine bn ?_
                        refine tn ?_
                        refine Wp_region_lit ?_
                        refine W_v (.int .i64 x399) (x_move rfl) rfl ?_
                        refine W_v (.int .i64 (IntKind.i64.wrap (x399 + (1 : Int)))) (x_ibin rfl rfl rfl rfl) rfl ?_
                        refine W_v (.int .i64 (IntKind.i64.wrap (x399 + (1 : Int)))) (x_assign rfl) rfl ?_
                        refine Wl_nil ?_
                        refine tn ?_
                        exact ⟨k, Nat.lt_succ_self k, ⟨x433, (IntKind.i64.wrap (x399 + (1 : Int))), A396, c397, H, ⟨rfl, rfl, rfl, rfl, rfl, rfl, rfl, trivial⟩, E, S.pick [0, 1] (by decide)⟩⟩
                      · refine Wp_cond_false (congrArg Value.bool hb421) ?_
                        refine Wp_exit ?_
                        refine tx (tx (bsm (?_)))
                        refine tn ?_
                        exact ⟨x395, A396, c397, Option.some.inj H, ⟨rfl, rfl, rfl, rfl, rfl, rfl, trivial⟩, E, S.pick [0, 1] (by decide)⟩
                · clear o419h
                  rintro ρ w436 ⟨x415, A416, c417, rfl, hρ, E, S⟩
                  rw [agree_eta hρ]
                  clear hρ
                  have H := o419H
                  clear o419H
                  refine tn ?_
                  refine Wp_seq ?_
                  refine Wp_region_lit ?_
                  refine W_v (.slice A416 x415.length c417) (x_move rfl) rfl ?_
                  refine W_v (.int .i64 (x415.length : Int)) (x_len_slice (n := x415.length) Try.underlying22 rfl) rfl ?_
                  refine W_v (.slice A416 x415.length c417) (x_move rfl) rfl ?_
                  refine W_v (.int .i64 (c417 : Int)) (x_cap_slice Try.underlying22 rfl) rfl ?_
                  refine W_v (.bool (decide ((x415.length : Int) < (c417 : Int)))) (x_ibin rfl rfl rfl rfl) rfl ?_
                  refine Wl_nil ?_
                  refine tn ?_
                  obtain ⟨hl437, H⟩ := chkS H
                  refine Wp_cut (fun ρ w' => Agree ρ [(0, .slice A0 a0.length c0), (1, .slice A1 a1.length c1), (2, .int .i64 a2), (7, .slice A8 t6.length c9), (8, .int .i64 x228)] ∧ Ext w w' ∧ St w' M F [Row r_api_Version 27 (.slice A416 x415.length c417) x415, Row r_api_Version 27 (.slice A8 t6.length c9) t6]) ?_ ?_
                  · rcases boolCases (decide ((x415.length : Int) < (c417 : Int))) with hb438 | hb438
                    · refine Wp_cond_false (congrArg Value.bool hb438) ?_
                      refine Wp_skip ?_
                      refine tn ?_
                      exact ⟨⟨rfl, rfl, rfl, rfl, rfl, trivial⟩, E, S.pick [0, 1] (by decide)⟩
                    · refine Wp_cond_true (congrArg Value.bool hb438) ?_
                      have hd439 := of_decide_eq_true hb438
                      have hw440 : IntKind.i64.wrap ((x415.length : Int) + 1) = (x415.length : Int) + 1 := wrS (by omega) (by omega)
                      refine Wp_region_lit ?_
                      refine W_v (.slice A416 x415.length c417) (x_move rfl) rfl ?_
                      refine W_v (.slice A416 x415.length c417) (x_move rfl) rfl ?_
                      refine W_v (.int .i64 (x415.length : Int)) (x_len_slice (n := x415.length) Try.underlying22 rfl) rfl ?_
                      refine W_v (.int .i64 (IntKind.i64.wrap ((x415.length : Int) + (1 : Int)))) (x_ibin rfl rfl rfl rfl) rfl ?_
                      refine W_v (.slice A416 ((IntKind.i64.wrap ((x415.length : Int) + (1 : Int))).toNat) c417) (x_slice_hi Try.underlying22 ty27 rfl rfl (by omega) (by omega)) rfl ?_
                      refine W_v (.slice A416 x415.length c417) (x_move rfl) rfl ?_
                      refine W_v (.int .i64 (x415.length : Int)) (x_len_slice (n := x415.length) Try.underlying22 rfl) rfl ?_
                      refine W_v (.agg #[.int .i64 0, .int .i64 0, .bool false, .string (bs ([115, 112, 111, 105, 108, 116] : Str))]) (x_build2 (pl := [(0, 1), (1, 1), (2, 1), (3, 1)]) #[.int .i64 0, .int .i64 0, .bool false, .string (bs ([115, 112, 111, 105, 108, 116] : Str))] Try.underlying27 ty27 (by kernel_rfl) rfl (by kernel_rfl)) rfl ?_
                      obtain ⟨b441, eb442⟩ := S.row_some 0 rfl (by omega)
                      refine W_v (.pointer (some ⟨b441, 0 + (x415.length : Int).toNat * 4, none⟩)) (x_indexAddr Try.underlying22 ty27 (by rw [← eb442]; rfl) rfl (by omega) (by omega)) rfl ?_
                      refine W_rowspare (q := (x415.length : Int)) S 0 rfl eb442 (by omega) (by omega) ty27 rfl rfl [.int .i64 0, .int .i64 0, .bool false, .string (bs ([115, 112, 111, 105, 108, 116] : Str))] rfl rfl rfl ?_
                      intro w443 E' S
                      replace E := E.trans E'
                      clear E'
                      replace S : St w443 M F [Row r_api_Version 27 (.slice A416 x415.length c417) x415, Row r_api_Version 27 (.slice A8 t6.length c9) t6] := S
                      refine Wl_nil ?_
                      refine tn ?_
                      exact ⟨⟨rfl, rfl, rfl, rfl, rfl, trivial⟩, E, S.pick [0, 1] (by decide)⟩
                  · skip
                    rintro ρ w444 ⟨hρ, E, S⟩
                    rw [agree_eta hρ]
                    clear hρ
                    refine bn ?_
                    refine tn ?_
                    refine Wp_region_lit ?_
                    refine W_v (.int .i64 x228) (x_move rfl) rfl ?_
                    refine W_v (.int .i64 (IntKind.i64.wrap (x228 + (1 : Int)))) (x_ibin rfl rfl rfl rfl) rfl ?_
                    refine W_v (.int .i64 (IntKind.i64.wrap (x228 + (1 : Int)))) (x_assign rfl) rfl ?_
                    refine Wl_nil ?_
                    refine tn ?_
                    exact ⟨k, Nat.lt_succ_self k, ⟨(IntKind.i64.wrap (x228 + (1 : Int))), H, ⟨rfl, rfl, rfl, rfl, rfl, trivial⟩, E, S.pick [1] (by decide)⟩⟩
            · refine Wp_cond_false (congrArg Value.bool hb338) ?_
              refine Wp_exit ?_
              refine tx (tx (bsm (?_)))
              refine tn ?_
              exact ⟨Option.some.inj H, ⟨rfl, rfl, rfl, rfl, trivial⟩, E, S.pick [0] (by decide)⟩
      · clear o336h
        rintro ρ w445 ⟨rfl, hρ, E, S⟩
        rw [agree_eta hρ]
        clear hρ
        have H := o336H
        clear o336H
        replace H := elimR H
        refine tn ?_
        refine Wp_seq ?_
        refine Wp_region_lit ?_
        refine W_v (.slice A8 t6.length c9) (x_move rfl) rfl ?_
        refine W_v (.int .i64 a2) (x_move rfl) rfl ?_
        replace S : St w445 M F [Row r_api_Version 27 (.slice A8 t6.length c9) t6] := S.pick [0] (by decide)
        obtain ⟨t446, ht447, H⟩ := bindS H
        refine W_callL (Δ := [Row r_api_Version 27 (.slice A8 t6.length c9) t6]) (Γ2 := []) fn12 (fun h9 hs9 hd9 => keep_Seen.con k _ A8 c9 t6 a2 t446 (Sats.row hs9 hd9 0 rfl) ht447) S rfl rfl (by rintro _ _ _ ⟨_, rfl⟩; exact flat_nil) ?_
        rintro _ w448 _ Γ' E' S ⟨rfl, rfl⟩
        replace E := E.trans E'
        clear E'
        replace S : St w448 M F [Row r_api_Version 27 (.slice A8 t6.length c9) t6] := S
        refine W_v (.tuple #[.agg #[.int .i64 t446.1.Writer, .int .i64 t446.1.TS, .bool t446.1.Tomb, .string (bs t446.1.Value)], .bool t446.2]) (x_move rfl) rfl ?_
        refine W_v (.agg #[.int .i64 t446.1.Writer, .int .i64 t446.1.TS, .bool t446.1.Tomb, .string (bs t446.1.Value)]) (x_extract rfl rfl) rfl ?_
        refine W_v (.bool t446.2) (x_extract rfl rfl) rfl ?_
        refine W_alloc S #[.int .i64 0, .int .i64 0, .bool false, .string (bs ([] : Str))] ty27 rfl rfl ?_
        intro b449 w450 E' S
        replace E := E.trans E'
        clear E'
        refine W_store S 0 rfl ty27 rfl rfl [.int .i64 t446.1.Writer, .int .i64 t446.1.TS, .bool t446.1.Tomb, .string (bs t446.1.Value)] rfl rfl rfl #[.int .i64 t446.1.Writer, .int .i64 t446.1.TS, .bool t446.1.Tomb, .string (bs t446.1.Value)] rfl rfl ?_
        intro w452 E' S
        replace E := E.trans E'
        clear E'
        refine W_v (.bool t446.2) (x_assign rfl) rfl ?_
        refine Wl_nil ?_
        refine tn ?_
        refine Wp_seq ?_
        refine Wp_region_lit ?_
        refine W_v (.slice A0 a0.length c0) (x_move rfl) rfl ?_
        refine W_v (.int .i64 a2) (x_move rfl) rfl ?_
        obtain ⟨t453, ht454, H⟩ := bindS H
        refine W_callF fn20 (ferrymanref11_Seen.con k M A0 c0 a0 a2 t453 hr0 ht454) S rfl rfl (by rintro _ _ _ ⟨_, rfl⟩; exact flat_nil) ?_
        rintro _ w455 _ Γ' E' S ⟨rfl, rfl⟩
        replace E := E.trans E'
        clear E'
        refine W_v (.tuple #[.agg #[.int .i64 t453.1.Writer, .int .i64 t453.1.TS, .bool t453.1.Tomb, .string (bs t453.1.Value)], .bool t453.2]) (x_move rfl) rfl ?_
        refine W_v (.agg #[.int .i64 t453.1.Writer, .int .i64 t453.1.TS, .bool t453.1.Tomb, .string (bs t453.1.Value)]) (x_extract rfl rfl) rfl ?_
        refine W_v (.bool t453.2) (x_extract rfl rfl) rfl ?_
        refine W_alloc S #[.int .i64 0, .int .i64 0, .bool false, .string (bs ([] : Str))] ty27 rfl rfl ?_
        intro b456 w457 E' S
        replace E := E.trans E'
        clear E'
        refine W_store S 0 rfl ty27 rfl rfl [.int .i64 t453.1.Writer, .int .i64 t453.1.TS, .bool t453.1.Tomb, .string (bs t453.1.Value)] rfl rfl rfl #[.int .i64 t453.1.Writer, .int .i64 t453.1.TS, .bool t453.1.Tomb, .string (bs t453.1.Value)] rfl rfl ?_
        intro w459 E' S
        replace E := E.trans E'
        clear E'
        refine W_v (.bool t453.2) (x_assign rfl) rfl ?_
        refine Wl_nil ?_
        refine tn ?_
        refine Wp_seq ?_
        refine Wp_region_lit ?_
        refine W_v (.agg #[.int .i64 t446.1.Writer, .int .i64 t446.1.TS, .bool t446.1.Tomb, .string (bs t446.1.Value)]) (x_loadA (S.blk 1 rfl) ty27 rfl (sub_of_extract rfl) rfl rfl) rfl ?_
        refine W_v (.agg #[.int .i64 t453.1.Writer, .int .i64 t453.1.TS, .bool t453.1.Tomb, .string (bs t453.1.Value)]) (x_loadA (S.blk 0 rfl) ty27 rfl (sub_of_extract rfl) rfl rfl) rfl ?_
        refine W_v (.bool ((t446.1.Writer == t453.1.Writer) && ((t446.1.TS == t453.1.TS) && ((t446.1.Tomb == t453.1.Tomb) && (t446.1.Value == t453.1.Value))))) (x_eq_of (eg27 _ _ _ _) rfl (eq27 _ t446.1.Writer t446.1.TS t446.1.Tomb t446.1.Value t453.1.Writer t453.1.TS t453.1.Tomb t453.1.Value)) rfl ?_
        refine W_v (.bool ((t446.1.Writer == t453.1.Writer) && ((t446.1.TS == t453.1.TS) && ((t446.1.Tomb == t453.1.Tomb) && (t446.1.Value == t453.1.Value))))) (x_move rfl) rfl ?_
        refine Wl_cutN 4 (fun ρ w' => Agree ρ [(0, .slice A0 a0.length c0), (1, .slice A1 a1.length c1), (2, .int .i64 a2), (7, .slice A8 t6.length c9), (82, .bool (((t446.1.Writer == t453.1.Writer) && ((t446.1.TS == t453.1.TS) && ((t446.1.Tomb == t453.1.Tomb) && (t446.1.Value == t453.1.Value)))) && (t446.2 == t453.2)))] ∧ w459 = w') ?_ ?_
        · rcases boolCases ((t446.1.Writer == t453.1.Writer) && ((t446.1.TS == t453.1.TS) && ((t446.1.Tomb == t453.1.Tomb) && (t446.1.Value == t453.1.Value)))) with hb460 | hb460
          · skip
            refine W_no (skT hb460) rfl ?_
            refine W_no (skT hb460) rfl ?_
            refine W_no (skT hb460) rfl ?_
            refine W_v (.bool false) (x_pick (k := false) (congrArg Value.bool hb460) rfl) rfl ?_
            refine Wl_nil ?_
            exact ⟨⟨rfl, rfl, rfl, rfl, (by first | rfl | (rw [hb460]; rfl) | (simp only [hb460]; rfl)), trivial⟩, rfl⟩
          · skip
            refine W_yes (congrArg some hb460) ?_
            refine W_v (.bool t446.2) (x_move rfl) rfl ?_
            refine W_yes (congrArg some hb460) ?_
            refine W_v (.bool t453.2) (x_move rfl) rfl ?_
            refine W_yes (congrArg some hb460) ?_
            refine W_v (.bool (t446.2 == t453.2)) (x_beq Try.underlying4 rfl rfl) rfl ?_
            refine W_v (.bool (t446.2 == t453.2)) (x_pick (k := true) (congrArg Value.bool hb460) rfl) rfl ?_
            refine Wl_nil ?_
            exact ⟨⟨rfl, rfl, rfl, rfl, (by first | rfl | (rw [hb460]; rfl) | (simp only [hb460]; rfl)), trivial⟩, rfl⟩
        · rintro ρ _ ⟨hρ, rfl⟩
          rw [agree_eta hρ]
          clear hρ
          skip
          refine W_v (.bool (((t446.1.Writer == t453.1.Writer) && ((t446.1.TS == t453.1.TS) && ((t446.1.Tomb == t453.1.Tomb) && (t446.1.Value == t453.1.Value)))) && (t446.2 == t453.2))) (x_move rfl) rfl ?_
          obtain ⟨o475, o475h, o475H⟩ := bindS H
          clear H
          refine Wl_cutN 6 (fun ρ w' => ∃ (x474 : Bool), (x474) = o475 ∧ Agree ρ [(0, .slice A0 a0.length c0), (1, .slice A1 a1.length c1), (2, .int .i64 a2), (7, .slice A8 t6.length c9), (89, .bool x474)] ∧ Ext w w' ∧ St w' M F [Row r_api_Version 27 (.slice A8 t6.length c9) t6]) ?_ ?_
          · have H := o475h
            rcases iteS H with ⟨hb473, H⟩ | ⟨hb473, H⟩
            · skip
              refine W_yes (congrArg some hb473) ?_
              refine W_v (.slice A8 t6.length c9) (x_move rfl) rfl ?_
              refine W_yes (congrArg some hb473) ?_
              replace S : St w459 M F [Row r_api_Version 27 (.slice A8 t6.length c9) t6, Blk b456 (.cells #[.int .i64 t453.1.Writer, .int .i64 t453.1.TS, .bool t453.1.Tomb, .string (bs t453.1.Value)] 27 (0, 0)), Blk b449 (.cells #[.int .i64 t446.1.Writer, .int .i64 t446.1.TS, .bool t446.1.Tomb, .string (bs t446.1.Value)] 27 (0, 0))] := S.pick [2, 0, 1] (by decide)
              obtain ⟨t476, ht477, H⟩ := bindS H
              refine W_callL (Δ := [Row r_api_Version 27 (.slice A8 t6.length c9) t6]) (Γ2 := [Blk b456 (.cells #[.int .i64 t453.1.Writer, .int .i64 t453.1.TS, .bool t453.1.Tomb, .string (bs t453.1.Value)] 27 (0, 0)), Blk b449 (.cells #[.int .i64 t446.1.Writer, .int .i64 t446.1.TS, .bool t446.1.Tomb, .string (bs t446.1.Value)] 27 (0, 0))]) fn14 (fun h9 hs9 hd9 => keep_Legal.con k _ A8 c9 t6 t476 (Sats.row hs9 hd9 0 rfl) ht477) S rfl rfl (by rintro _ _ _ ⟨_, rfl⟩; exact flat_nil) ?_
              rintro _ w478 _ Γ' E' S ⟨rfl, rfl⟩
              replace E := E.trans E'
              clear E'
              replace S : St w478 M F [Row r_api_Version 27 (.slice A8 t6.length c9) t6, Blk b456 (.cells #[.int .i64 t453.1.Writer, .int .i64 t453.1.TS, .bool t453.1.Tomb, .string (bs t453.1.Value)] 27 (0, 0)), Blk b449 (.cells #[.int .i64 t446.1.Writer, .int .i64 t446.1.TS, .bool t446.1.Tomb, .string (bs t446.1.Value)] 27 (0, 0))] := S
              refine W_yes (congrArg some hb473) ?_
              refine W_v (.slice A0 a0.length c0) (x_move rfl) rfl ?_
              refine W_yes (congrArg some hb473) ?_
              obtain ⟨t479, ht480, H⟩ := bindS H
              refine W_callF fn9 (ferrymanref11_Legal.con k M A0 c0 a0 t479 hr0 ht480) S rfl rfl (by rintro _ _ _ ⟨_, rfl⟩; exact flat_nil) ?_
              rintro _ w481 _ Γ' E' S ⟨rfl, rfl⟩
              replace E := E.trans E'
              clear E'
              refine W_yes (congrArg some hb473) ?_
              refine W_v (.bool (t476 == t479)) (x_beq Try.underlying4 rfl rfl) rfl ?_
              refine W_v (.bool (t476 == t479)) (x_pick (k := true) (congrArg Value.bool hb473) rfl) rfl ?_
              refine Wl_nil ?_
              exact ⟨(t476 == t479), Option.some.inj H, ⟨rfl, rfl, rfl, rfl, rfl, trivial⟩, E, S.pick [0] (by decide)⟩
            · skip
              refine W_no (skT hb473) rfl ?_
              refine W_no (skT hb473) rfl ?_
              refine W_no (skT hb473) rfl ?_
              refine W_no (skT hb473) rfl ?_
              refine W_no (skT hb473) rfl ?_
              refine W_v (.bool false) (x_pick (k := false) (congrArg Value.bool hb473) rfl) rfl ?_
              refine Wl_nil ?_
              exact ⟨false, Option.some.inj H, ⟨rfl, rfl, rfl, rfl, rfl, trivial⟩, E, S.pick [2] (by decide)⟩
          · clear o475h
            rintro ρ w482 ⟨x474, rfl, hρ, E, S⟩
            rw [agree_eta hρ]
            clear hρ
            have H := o475H
            clear o475H
            refine W_v (.bool x474) (x_move rfl) rfl ?_
            obtain ⟨o497, o497h, o497H⟩ := bindS H
            clear H
            refine Wl_cutN 8 (fun ρ w' => ∃ (x496 : Bool), (x496) = o497 ∧ Agree ρ [(0, .slice A0 a0.length c0), (1, .slice A1 a1.length c1), (7, .slice A8 t6.length c9), (98, .bool x496)] ∧ Ext w w' ∧ St w' M F [Row r_api_Version 27 (.slice A8 t6.length c9) t6]) ?_ ?_
            · have H := o497h
              rcases iteS H with ⟨hb495, H⟩ | ⟨hb495, H⟩
              · skip
                refine W_yes (congrArg some hb495) ?_
                refine W_v (.slice A8 t6.length c9) (x_move rfl) rfl ?_
                refine W_yes (congrArg some hb495) ?_
                refine W_v (.int .i64 a2) (x_move rfl) rfl ?_
                refine W_yes (congrArg some hb495) ?_
                replace S : St w482 M F [Row r_api_Version 27 (.slice A8 t6.length c9) t6] := S.pick [0] (by decide)
                obtain ⟨t498, ht499, H⟩ := bindS H
                refine W_callL (Δ := [Row r_api_Version 27 (.slice A8 t6.length c9) t6]) (Γ2 := []) fn13 (fun h9 hs9 hd9 => keep_Clash.con k _ A8 c9 t6 a2 t498 (Sats.row hs9 hd9 0 rfl) ht499) S rfl rfl (by rintro _ _ _ ⟨_, rfl⟩; exact flat_nil) ?_
                rintro _ w500 _ Γ' E' S ⟨rfl, rfl⟩
                replace E := E.trans E'
                clear E'
                replace S : St w500 M F [Row r_api_Version 27 (.slice A8 t6.length c9) t6] := S
                refine W_yes (congrArg some hb495) ?_
                refine W_v (.slice A0 a0.length c0) (x_move rfl) rfl ?_
                refine W_yes (congrArg some hb495) ?_
                refine W_v (.int .i64 a2) (x_move rfl) rfl ?_
                refine W_yes (congrArg some hb495) ?_
                obtain ⟨t501, ht502, H⟩ := bindS H
                refine W_callF fn21 (ferrymanref11_Clash.con k M A0 c0 a0 a2 t501 hr0 ht502) S rfl rfl (by rintro _ _ _ ⟨_, rfl⟩; exact flat_nil) ?_
                rintro _ w503 _ Γ' E' S ⟨rfl, rfl⟩
                replace E := E.trans E'
                clear E'
                refine W_yes (congrArg some hb495) ?_
                refine W_v (.bool (t498 == t501)) (x_beq Try.underlying4 rfl rfl) rfl ?_
                refine W_v (.bool (t498 == t501)) (x_pick (k := true) (congrArg Value.bool hb495) rfl) rfl ?_
                refine Wl_nil ?_
                exact ⟨(t498 == t501), Option.some.inj H, ⟨rfl, rfl, rfl, rfl, trivial⟩, E, S.pick [0] (by decide)⟩
              · skip
                refine W_no (skT hb495) rfl ?_
                refine W_no (skT hb495) rfl ?_
                refine W_no (skT hb495) rfl ?_
                refine W_no (skT hb495) rfl ?_
                refine W_no (skT hb495) rfl ?_
                refine W_no (skT hb495) rfl ?_
                refine W_no (skT hb495) rfl ?_
                refine W_v (.bool false) (x_pick (k := false) (congrArg Value.bool hb495) rfl) rfl ?_
                refine Wl_nil ?_
                exact ⟨false, Option.some.inj H, ⟨rfl, rfl, rfl, rfl, trivial⟩, E, S.pick [0] (by decide)⟩
            · clear o497h
              rintro ρ w504 ⟨x496, rfl, hρ, E, S⟩
              rw [agree_eta hρ]
              clear hρ
              have H := o497H
              clear o497H
              refine W_v (.bool x496) (x_move rfl) rfl ?_
              obtain ⟨o519, o519h, o519H⟩ := bindS H
              clear H
              refine Wl_cutN 8 (fun ρ w' => ∃ (x518 : Bool), (x518) = o519 ∧ Agree ρ [(0, .slice A0 a0.length c0), (7, .slice A8 t6.length c9), (107, .bool x518)] ∧ Ext w w' ∧ St w' M F [Row r_api_Version 27 (.slice A8 t6.length c9) t6]) ?_ ?_
              · have H := o519h
                rcases iteS H with ⟨hb517, H⟩ | ⟨hb517, H⟩
                · skip
                  refine W_yes (congrArg some hb517) ?_
                  refine W_v (.slice A8 t6.length c9) (x_move rfl) rfl ?_
                  refine W_yes (congrArg some hb517) ?_
                  refine W_v (.slice A1 a1.length c1) (x_move rfl) rfl ?_
                  refine W_yes (congrArg some hb517) ?_
                  replace S : St w504 M F [Row r_api_Version 27 (.slice A8 t6.length c9) t6] := S.pick [0] (by decide)
                  obtain ⟨t520, ht521, H⟩ := bindS H
                  refine W_callL (Δ := [Row r_api_Version 27 (.slice A8 t6.length c9) t6]) (Γ2 := []) fn17 (fun h9 hs9 hd9 => keep_Same.con k _ A8 c9 t6 A1 c1 a1 t520 (Sats.row hs9 hd9 0 rfl) (SlR.mono hr1 (Hp.le_union_left _ _)) ht521) S rfl rfl (by rintro _ _ _ ⟨_, rfl⟩; exact flat_nil) ?_
                  rintro _ w522 _ Γ' E' S ⟨rfl, rfl⟩
                  replace E := E.trans E'
                  clear E'
                  replace S : St w522 M F [Row r_api_Version 27 (.slice A8 t6.length c9) t6] := S
                  refine W_yes (congrArg some hb517) ?_
                  refine W_v (.slice A0 a0.length c0) (x_move rfl) rfl ?_
                  refine W_yes (congrArg some hb517) ?_
                  refine W_v (.slice A1 a1.length c1) (x_move rfl) rfl ?_
                  refine W_yes (congrArg some hb517) ?_
                  obtain ⟨t523, ht524, H⟩ := bindS H
                  refine W_callF fn15 (ferrymanref11_Same.con k M A0 c0 a0 A1 c1 a1 t523 hr0 hr1 ht524) S rfl rfl (by rintro _ _ _ ⟨_, rfl⟩; exact flat_nil) ?_
                  rintro _ w525 _ Γ' E' S ⟨rfl, rfl⟩
                  replace E := E.trans E'
                  clear E'
                  refine W_yes (congrArg some hb517) ?_
                  refine W_v (.bool (t520 == t523)) (x_beq Try.underlying4 rfl rfl) rfl ?_
                  refine W_v (.bool (t520 == t523)) (x_pick (k := true) (congrArg Value.bool hb517) rfl) rfl ?_
                  refine Wl_nil ?_
                  exact ⟨(t520 == t523), Option.some.inj H, ⟨rfl, rfl, rfl, trivial⟩, E, S.pick [0] (by decide)⟩
                · skip
                  refine W_no (skT hb517) rfl ?_
                  refine W_no (skT hb517) rfl ?_
                  refine W_no (skT hb517) rfl ?_
                  refine W_no (skT hb517) rfl ?_
                  refine W_no (skT hb517) rfl ?_
                  refine W_no (skT hb517) rfl ?_
                  refine W_no (skT hb517) rfl ?_
                  refine W_v (.bool false) (x_pick (k := false) (congrArg Value.bool hb517) rfl) rfl ?_
                  refine Wl_nil ?_
                  exact ⟨false, Option.some.inj H, ⟨rfl, rfl, rfl, trivial⟩, E, S.pick [0] (by decide)⟩
              · clear o519h
                rintro ρ w526 ⟨x518, rfl, hρ, E, S⟩
                rw [agree_eta hρ]
                clear hρ
                have H := o519H
                clear o519H
                refine W_v (.bool x518) (x_move rfl) rfl ?_
                obtain ⟨o535, o535h, o535H⟩ := bindS H
                clear H
                refine Wl_cutN 4 (fun ρ w' => ∃ (x534 : Bool), (x534) = o535 ∧ Agree ρ [(0, .slice A0 a0.length c0), (7, .slice A8 t6.length c9), (112, .bool x534)] ∧ Ext w w' ∧ St w' M F [Row r_api_Version 27 (.slice A8 t6.length c9) t6]) ?_ ?_
                · have H := o535h
                  rcases iteS H with ⟨hb533, H⟩ | ⟨hb533, H⟩
                  · skip
                    refine W_yes (congrArg some hb533) ?_
                    refine W_v (.slice A8 t6.length c9) (x_move rfl) rfl ?_
                    refine W_yes (congrArg some hb533) ?_
                    refine W_v (.slice A0 a0.length c0) (x_move rfl) rfl ?_
                    refine W_yes (congrArg some hb533) ?_
                    replace S : St w526 M F [Row r_api_Version 27 (.slice A8 t6.length c9) t6] := S.pick [0] (by decide)
                    obtain ⟨t536, ht537, H⟩ := bindS H
                    refine W_callL (Δ := [Row r_api_Version 27 (.slice A8 t6.length c9) t6]) (Γ2 := []) fn17 (fun h9 hs9 hd9 => keep_Same.con k _ A8 c9 t6 A0 c0 a0 t536 (Sats.row hs9 hd9 0 rfl) (SlR.mono hr0 (Hp.le_union_left _ _)) ht537) S rfl rfl (by rintro _ _ _ ⟨_, rfl⟩; exact flat_nil) ?_
                    rintro _ w538 _ Γ' E' S ⟨rfl, rfl⟩
                    replace E := E.trans E'
                    clear E'
                    replace S : St w538 M F [Row r_api_Version 27 (.slice A8 t6.length c9) t6] := S
                    refine W_v (.bool t536) (x_pick (k := true) (congrArg Value.bool hb533) rfl) rfl ?_
                    refine Wl_nil ?_
                    exact ⟨t536, Option.some.inj H, ⟨rfl, rfl, rfl, trivial⟩, E, S.pick [0] (by decide)⟩
                  · skip
                    refine W_no (skT hb533) rfl ?_
                    refine W_no (skT hb533) rfl ?_
                    refine W_no (skT hb533) rfl ?_
                    refine W_v (.bool false) (x_pick (k := false) (congrArg Value.bool hb533) rfl) rfl ?_
                    refine Wl_nil ?_
                    exact ⟨false, Option.some.inj H, ⟨rfl, rfl, rfl, trivial⟩, E, S.pick [0] (by decide)⟩
                · clear o535h
                  rintro ρ w539 ⟨x534, rfl, hρ, E, S⟩
                  rw [agree_eta hρ]
                  clear hρ
                  have H := o535H
                  clear o535H
                  refine W_v (.bool x534) (x_move rfl) rfl ?_
                  obtain ⟨o548, o548h, o548H⟩ := bindS H
                  clear H
                  refine Wl_cutN 4 (fun ρ w' => ∃ (x547 : Bool), (x547) = o548 ∧ Agree ρ [(117, .bool x547)] ∧ Ext w w' ∧ St w' M F []) ?_ ?_
                  · have H := o548h
                    rcases iteS H with ⟨hb546, H⟩ | ⟨hb546, H⟩
                    · skip
                      refine W_yes (congrArg some hb546) ?_
                      refine W_v (.slice A8 t6.length c9) (x_move rfl) rfl ?_
                      refine W_yes (congrArg some hb546) ?_
                      refine W_v (.slice A0 a0.length c0) (x_move rfl) rfl ?_
                      refine W_yes (congrArg some hb546) ?_
                      replace S : St w539 M F [Row r_api_Version 27 (.slice A8 t6.length c9) t6] := S.pick [0] (by decide)
                      obtain ⟨t549, ht550, H⟩ := bindS H
                      refine W_callL (Δ := [Row r_api_Version 27 (.slice A8 t6.length c9) t6]) (Γ2 := []) fn15 (fun h9 hs9 hd9 => ferrymanref11_Same.con k _ A8 c9 t6 A0 c0 a0 t549 (Sats.row hs9 hd9 0 rfl) (SlR.mono hr0 (Hp.le_union_left _ _)) ht550) S rfl rfl (by rintro _ _ _ ⟨_, rfl⟩; exact flat_nil) ?_
                      rintro _ w551 _ Γ' E' S ⟨rfl, rfl⟩
                      replace E := E.trans E'
                      clear E'
                      replace S : St w551 M F [Row r_api_Version 27 (.slice A8 t6.length c9) t6] := S
                      refine W_v (.bool t549) (x_pick (k := true) (congrArg Value.bool hb546) rfl) rfl ?_
                      refine Wl_nil ?_
                      exact ⟨t549, Option.some.inj H, ⟨rfl, trivial⟩, E, S.pick [] (by decide)⟩
                    · skip
                      refine W_no (skT hb546) rfl ?_
                      refine W_no (skT hb546) rfl ?_
                      refine W_no (skT hb546) rfl ?_
                      refine W_v (.bool false) (x_pick (k := false) (congrArg Value.bool hb546) rfl) rfl ?_
                      refine Wl_nil ?_
                      exact ⟨false, Option.some.inj H, ⟨rfl, trivial⟩, E, S.pick [] (by decide)⟩
                  · clear o548h
                    rintro ρ w552 ⟨x547, rfl, hρ, E, S⟩
                    rw [agree_eta hρ]
                    clear hρ
                    have H := o548H
                    clear o548H
                    refine W_v (.bool x547) (x_move rfl) rfl ?_
                    obtain ⟨o561, o561h, o561H⟩ := bindS H
                    clear H
                    refine Wl_cutN 2 (fun ρ w' => ∃ (x560 : Bool), (x560) = o561 ∧ Agree ρ [(120, .bool x560)] ∧ Ext w w' ∧ St w' M F []) ?_ ?_
                    · have H := o561h
                      rcases iteS H with ⟨hb559, H⟩ | ⟨hb559, H⟩
                      · skip
                        refine W_yes (congrArg some hb559) ?_
                        obtain ⟨t562, ht563, H⟩ := bindS H
                        refine W_callF fn10 (ferrymanlaw11_awake.con k M  t562  ht563) S rfl rfl (by rintro _ _ _ ⟨_, rfl⟩; exact flat_nil) ?_
                        rintro _ w564 _ Γ' E' S ⟨rfl, rfl⟩
                        replace E := E.trans E'
                        clear E'
                        refine W_v (.bool t562) (x_pick (k := true) (congrArg Value.bool hb559) rfl) rfl ?_
                        refine Wl_nil ?_
                        exact ⟨t562, Option.some.inj H, ⟨rfl, trivial⟩, E, S.pick [] (by decide)⟩
                      · skip
                        refine W_no (skT hb559) rfl ?_
                        refine W_v (.bool false) (x_pick (k := false) (congrArg Value.bool hb559) rfl) rfl ?_
                        refine Wl_nil ?_
                        exact ⟨false, Option.some.inj H, ⟨rfl, trivial⟩, E, S.pick [] (by decide)⟩
                    · clear o561h
                      rintro ρ w565 ⟨x560, rfl, hρ, E, S⟩
                      rw [agree_eta hρ]
                      clear hρ
                      have H := o561H
                      clear o561H
                      refine W_v (.bool x560) (x_assign rfl) rfl ?_
                      refine Wl_nil ?_
                      refine tn ?_
                      refine Wp_ret ?_
                      obtain rfl := Option.some.inj H
                      exact ⟨_, _, _, fun w1 e1 => run_resR (vs := [.bool x560]) (FA.cons (rfl) (FA.nil)), HM, E, S.pick [] (by decide), ⟨rfl, rfl⟩⟩
end Go.Proofs.Ytmoackfjfklfaaa
