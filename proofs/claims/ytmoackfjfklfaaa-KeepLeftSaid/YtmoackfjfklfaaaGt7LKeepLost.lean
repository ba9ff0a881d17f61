import Derived.Test.YtmoackfjfklfaaaGt7
namespace Go.Proofs.Ytmoackfjfklfaaa
open Go
set_option linter.unusedVariables false
set_option linter.unusedSimpArgs false
/-! ### ferryman/ferrymanlaw11.KeepLost: function 3 -/
def ferrymanlaw11_KeepLost_l0 (a0 : (List api_Version)) (a1 : Int) (t32 : (List api_Version)) : Nat → Int → Int → Int → Bool → Str → Int → Int → Bool → Str → Option ((Bool) ⊕ (Unit))
  | 0, _, _, _, _, _, _, _, _, _ => none
  | k + 1, x181, x182, x183, x184, x185, x186, x187, x188, x189 => (if (decide (x181 < (a0.length : Int))) = true then (if 0 ≤ x181 ∧ x181 < (a0.length : Int) then (if (decide ((rd a0 x181).TS < a1)) = true then ferrymanlaw11_KeepLost_l0 a0 a1 t32 k (IntKind.i64.wrap (x181 + (1 : Int))) x182 x183 x184 x185 x186 x187 x188 x189 else (if 0 ≤ x181 ∧ x181 < (a0.length : Int) then (Option.bind (keep_Seen k t32 ((rd a0 x181).TS)) (fun t256 => (if 0 ≤ x181 ∧ x181 < (a0.length : Int) then (Option.bind (keep_Seen k a0 ((rd a0 x181).TS)) (fun t270 => (if ((!((t256.1.Writer == t270.1.Writer) && ((t256.1.TS == t270.1.TS) && ((t256.1.Tomb == t270.1.Tomb) && (t256.1.Value == t270.1.Value))))) || (!(t256.2 == t270.2))) = true then some (.inl false) else ferrymanlaw11_KeepLost_l0 a0 a1 t32 k (IntKind.i64.wrap (x181 + (1 : Int))) t270.1.Writer t270.1.TS t270.1.Tomb t270.1.Value t256.1.Writer t256.1.TS t256.1.Tomb t256.1.Value))) else none))) else none)) else none) else some (.inr ()))
set_option maxHeartbeats 2000000 in
theorem ferrymanlaw11_KeepLost_l0.mono {a0 : (List api_Version)} {a1 : Int} {t32 : (List api_Version)} : ∀ {k : Nat} {x0 x1 x2 x3 x4 x5 x6 x7 x8}, OLe (ferrymanlaw11_KeepLost_l0 a0 a1 t32 k x0 x1 x2 x3 x4 x5 x6 x7 x8) (ferrymanlaw11_KeepLost_l0 a0 a1 t32 (k + 1) x0 x1 x2 x3 x4 x5 x6 x7 x8) := by
  intro k
  induction k with
  | zero => intros; exact OLe.none
  | succ k ih =>
    intros
    rw [ferrymanlaw11_KeepLost_l0.eq_2, ferrymanlaw11_KeepLost_l0.eq_2]
    repeat' (first | exact OLe.none | exact OLe.some | exact keep_Seen.mono | exact ih | refine OLe.bind ?_ (fun _ => ?_) | refine OLe.ite ?_ ?_ | refine OLe.elim (fun _ => ?_) (fun _ => ?_) | split)
def ferrymanlaw11_KeepLost (k : Nat) (a0 : (List api_Version)) (a1 : Int) (a2 : Int) : Option (Bool) :=
  (Option.bind (α := Bool) (if ((decide ((a0.length : Int) > (300 : Int))) || (decide (a2 < a1))) = true then some (true) else (Option.bind (ferrymanref11_Legal k a0) (fun t11 => some ((!t11))))) (fun x9 => (Option.bind (α := Bool) (if x9 = true then some (true) else (Option.bind (ferrymanlaw11_awake k ) (fun t24 => some ((!t24))))) (fun x22 => (if x22 = true then (Option.bind (ferrymanlaw11_awake k ) (fun t29 => some t29)) else (Option.bind (keep_Kept k a0 a1) (fun t32 => (Option.bind (keep_Seen k t32 a2) (fun t41 => (Option.bind (keep_Seen k a0 a2) (fun t48 => (Option.bind (α := Bool) (if ((!((t41.1.Writer == t48.1.Writer) && ((t41.1.TS == t48.1.TS) && ((t41.1.Tomb == t48.1.Tomb) && (t41.1.Value == t48.1.Value))))) || (!(t41.2 == t48.2))) = true then some (true) else (Option.bind (keep_Clash k t32 a2) (fun t71 => (Option.bind (keep_Clash k a0 a2) (fun t74 => some ((!(t71 == t74)))))))) (fun x69 => (if x69 = true then some false else (Option.bind (ferrymanlaw11_KeepLost_l0 a0 a1 t32 k (0 : Int) t48.1.Writer t48.1.TS t48.1.Tomb t48.1.Value t41.1.Writer t41.1.TS t41.1.Tomb t41.1.Value) (fun o232o => Sum.elim (fun r' => some r') (fun _ => some true) o232o))))))))))))))))
set_option maxHeartbeats 2000000 in
theorem ferrymanlaw11_KeepLost.mono {k : Nat} {a0 : (List api_Version)} {a1 : Int} {a2 : Int} : OLe (ferrymanlaw11_KeepLost k a0 a1 a2) (ferrymanlaw11_KeepLost (k + 1) a0 a1 a2) := by
  unfold ferrymanlaw11_KeepLost
  repeat' (first | exact OLe.none | exact OLe.some | exact ferrymanlaw11_KeepLost_l0.mono | exact ferrymanlaw11_awake.mono | exact ferrymanref11_Legal.mono | exact keep_Clash.mono | exact keep_Kept.mono | exact keep_Seen.mono | refine OLe.bind ?_ (fun _ => ?_) | refine OLe.ite ?_ ?_ | refine OLe.elim (fun _ => ?_) (fun _ => ?_) | split)
set_option maxHeartbeats 4000000 in
set_option maxRecDepth 100000 in
theorem ferrymanlaw11_KeepLost.con (k : Nat) (M : Hp) (A0 : Option Addr) (c0 : Nat) (a0 : (List api_Version)) (a1 : Int) (a2 : Int) (r : Bool) (hr0 : SlR r_api_Version M (.slice A0 a0.length c0) a0) (h : ferrymanlaw11_KeepLost k a0 a1 a2 = some r) : Con Try.prog 3 #[.slice A0 a0.length c0, .int .i64 a1, .int .i64 a2] M [] (fun v M' Γ' => v = .bool r ∧ Γ' = []) := by
  refine con_of_wp Try.func3 rfl Try.ntmps3 Try.results3 rfl ?_
  intro w F rn S hrn
  have E := Ext.refl w
  have HM := Hp.le_refl M
  have H := h
  unfold ferrymanlaw11_KeepLost at H
  refine Wp_seq ?_
  refine Wp_region_lit ?_
  refine W_v (.bool false) (x_assign rfl) rfl ?_
  refine Wl_nil ?_
  refine tn ?_
  refine Wp_seq ?_
  refine Wp_seq ?_
  refine Wp_region_lit ?_
  refine W_v (.slice A0 a0.length c0) (x_move rfl) rfl ?_
  refine W_v (.int .i64 (a0.length : Int)) (x_len_slice (n := a0.length) Try.underlying22 rfl) rfl ?_
  refine W_v (.bool (decide ((a0.length : Int) > (300 : Int)))) (x_ibin rfl rfl rfl rfl) rfl ?_
  refine W_v (.bool (decide ((a0.length : Int) > (300 : Int)))) (x_move rfl) rfl ?_
  refine Wl_cutN 4 (fun ρ w' => Agree ρ [(0, .slice A0 a0.length c0), (1, .int .i64 a1), (2, .int .i64 a2), (20, .bool ((decide ((a0.length : Int) > (300 : Int))) || (decide (a2 < a1))))] ∧ w = w') ?_ ?_
  · rcases boolCases (decide ((a0.length : Int) > (300 : Int))) with hb1 | hb1
    · skip
      refine W_yes (congrArg some hb1) ?_
      refine W_v (.int .i64 a2) (x_move rfl) rfl ?_
      refine W_yes (congrArg some hb1) ?_
      refine W_v (.int .i64 a1) (x_move rfl) rfl ?_
      refine W_yes (congrArg some hb1) ?_
      refine W_v (.bool (decide (a2 < a1))) (x_ibin rfl rfl rfl rfl) rfl ?_
      refine W_v (.bool (decide (a2 < a1))) (x_pick (k := false) (congrArg Value.bool hb1) rfl) rfl ?_
      refine Wl_nil ?_
      exact ⟨⟨rfl, rfl, rfl, (by first | rfl | (rw [hb1]; rfl) | (simp only [hb1]; rfl)), trivial⟩, rfl⟩
    · skip
      refine W_no (skF hb1) rfl ?_
      refine W_no (skF hb1) rfl ?_
      refine W_no (skF hb1) rfl ?_
      refine W_v (.bool true) (x_pick (k := true) (congrArg Value.bool hb1) rfl) rfl ?_
      refine Wl_nil ?_
      exact ⟨⟨rfl, rfl, rfl, (by first | rfl | (rw [hb1]; rfl) | (simp only [hb1]; rfl)), trivial⟩, rfl⟩
  · rintro ρ _ ⟨hρ, rfl⟩
    rw [agree_eta hρ]
    clear hρ
    skip
    refine W_v (.bool ((decide ((a0.length : Int) > (300 : Int))) || (decide (a2 < a1)))) (x_move rfl) rfl ?_
    obtain ⟨o10, o10h, o10H⟩ := bindS H
    clear H
    refine Wl_cutN 4 (fun ρ w' => ∃ (x9 : Bool), (x9) = o10 ∧ Agree ρ [(0, .slice A0 a0.length c0), (1, .int .i64 a1), (2, .int .i64 a2), (25, .bool x9)] ∧ Ext w w' ∧ St w' M F []) ?_ ?_
    · have H := o10h
      rcases iteS H with ⟨hb8, H⟩ | ⟨hb8, H⟩
      · skip
        refine W_no (skF hb8) rfl ?_
        refine W_no (skF hb8) rfl ?_
        refine W_no (skF hb8) rfl ?_
        refine W_v (.bool true) (x_pick (k := true) (congrArg Value.bool hb8) rfl) rfl ?_
        refine Wl_nil ?_
        exact ⟨true, Option.some.inj H, ⟨rfl, rfl, rfl, rfl, trivial⟩, E, S.pick [] (by decide)⟩
      · skip
        refine W_yes (congrArg some hb8) ?_
        refine W_v (.slice A0 a0.length c0) (x_move rfl) rfl ?_
        refine W_yes (congrArg some hb8) ?_
        obtain ⟨t11, ht12, H⟩ := bindS H
        refine W_callF fn9 (ferrymanref11_Legal.con k M A0 c0 a0 t11 hr0 ht12) S rfl rfl (by rintro _ _ _ ⟨_, rfl⟩; exact flat_nil) ?_
        rintro _ w13 _ Γ' E' S ⟨rfl, rfl⟩
        replace E := E.trans E'
        clear E'
        refine W_yes (congrArg some hb8) ?_
        refine W_v (.bool (!t11)) (x_not rfl) rfl ?_
        refine W_v (.bool (!t11)) (x_pick (k := false) (congrArg Value.bool hb8) rfl) rfl ?_
        refine Wl_nil ?_
        exact ⟨(!t11), Option.some.inj H, ⟨rfl, rfl, rfl, rfl, trivial⟩, E, S.pick [] (by decide)⟩
    · clear o10h
      rintro ρ w14 ⟨x9, rfl, hρ, E, S⟩
      rw [agree_eta hρ]
      clear hρ
      have H := o10H
      clear o10H
      refine W_v (.bool x9) (x_move rfl) rfl ?_
      obtain ⟨o23, o23h, o23H⟩ := bindS H
      clear H
      refine Wl_cutN 3 (fun ρ w' => ∃ (x22 : Bool), (x22) = o23 ∧ Agree ρ [(0, .slice A0 a0.length c0), (1, .int .i64 a1), (2, .int .i64 a2), (29, .bool x22)] ∧ Ext w w' ∧ St w' M F []) ?_ ?_
      · have H := o23h
        rcases iteS H with ⟨hb21, H⟩ | ⟨hb21, H⟩
        · skip
          refine W_no (skF hb21) rfl ?_
          refine W_no (skF hb21) rfl ?_
          refine W_v (.bool true) (x_pick (k := true) (congrArg Value.bool hb21) rfl) rfl ?_
          refine Wl_nil ?_
          exact ⟨true, Option.some.inj H, ⟨rfl, rfl, rfl, rfl, trivial⟩, E, S.pick [] (by decide)⟩
        · skip
          refine W_yes (congrArg some hb21) ?_
          obtain ⟨t24, ht25, H⟩ := bindS H
          refine W_callF fn10 (ferrymanlaw11_awake.con k M  t24  ht25) S rfl rfl (by rintro _ _ _ ⟨_, rfl⟩; exact flat_nil) ?_
          rintro _ w26 _ Γ' E' S ⟨rfl, rfl⟩
          replace E := E.trans E'
          clear E'
          refine W_yes (congrArg some hb21) ?_
          refine W_v (.bool (!t24)) (x_not rfl) rfl ?_
          refine W_v (.bool (!t24)) (x_pick (k := false) (congrArg Value.bool hb21) rfl) rfl ?_
          refine Wl_nil ?_
          exact ⟨(!t24), Option.some.inj H, ⟨rfl, rfl, rfl, rfl, trivial⟩, E, S.pick [] (by decide)⟩
      · clear o23h
        rintro ρ w27 ⟨x22, rfl, hρ, E, S⟩
        rw [agree_eta hρ]
        clear hρ
        have H := o23H
        clear o23H
        refine Wl_nil ?_
        refine tn ?_
        rcases iteS H with ⟨hb28, H⟩ | ⟨hb28, H⟩
        · refine Wp_cond_true (congrArg Value.bool hb28) ?_
          refine Wp_seq ?_
          refine Wp_region_lit ?_
          obtain ⟨t29, ht30, H⟩ := bindS H
          refine W_callF fn10 (ferrymanlaw11_awake.con k M  t29  ht30) S rfl rfl (by rintro _ _ _ ⟨_, rfl⟩; exact flat_nil) ?_
          rintro _ w31 _ Γ' E' S ⟨rfl, rfl⟩
          replace E := E.trans E'
          clear E'
          refine W_v (.bool t29) (x_assign rfl) rfl ?_
          refine Wl_nil ?_
          refine tn ?_
          refine Wp_ret ?_
          refine tr (?_)
          obtain rfl := Option.some.inj H
          exact ⟨_, _, _, fun w1 e1 => run_resR (vs := [.bool t29]) (FA.cons (rfl) (FA.nil)), HM, E, S.pick [] (by decide), ⟨rfl, rfl⟩⟩
        · refine Wp_cond_false (congrArg Value.bool hb28) ?_
          refine Wp_skip ?_
          refine tn ?_
          refine Wp_seq ?_
          refine Wp_region_lit ?_
          refine W_v (.slice A0 a0.length c0) (x_move rfl) rfl ?_
          refine W_v (.int .i64 a1) (x_move rfl) rfl ?_
          obtain ⟨t32, ht33, H⟩ := bindS H
          refine W_callF fn11 (keep_Kept.con k M A0 c0 a0 a1 t32 hr0 ht33) S rfl rfl (by rintro _ _ _ ⟨_, _, _, rfl⟩; exact (flat_cons (flat_row (fun _ _ _ _ h => h)) flat_nil)) ?_
          rintro _ w37 _ Γ' E' S ⟨A34, c35, rfl, rfl⟩
          replace E := E.trans E'
          clear E'
          refine W_v (.slice A34 t32.length c35) (x_assign rfl) rfl ?_
          refine Wl_nil ?_
          refine tn ?_
          refine Wp_seq ?_
          refine Wp_region_lit ?_
          refine W_v (.slice A34 t32.length c35) (x_move rfl) rfl ?_
          refine W_v (.int .i64 a2) (x_move rfl) rfl ?_
          obtain ⟨M38, hM39, hf40, S⟩ := S.row_freeze 0 rfl
          replace HM := Hp.le_trans HM hM39
          replace hr0 := SlR.mono hr0 hM39
          obtain ⟨t41, ht42, H⟩ := bindS H
          refine W_callF fn12 (keep_Seen.con k M38 A34 c35 t32 a2 t41 hf40 ht42) S rfl rfl (by rintro _ _ _ ⟨_, rfl⟩; exact flat_nil) ?_
          rintro _ w43 _ Γ' E' S ⟨rfl, rfl⟩
          replace E := E.trans E'
          clear E'
          refine W_v (.tuple #[.agg #[.int .i64 t41.1.Writer, .int .i64 t41.1.TS, .bool t41.1.Tomb, .string (bs t41.1.Value)], .bool t41.2]) (x_move rfl) rfl ?_
          refine W_v (.agg #[.int .i64 t41.1.Writer, .int .i64 t41.1.TS, .bool t41.1.Tomb, .string (bs t41.1.Value)]) (x_extract rfl rfl) rfl ?_
          refine W_v (.bool t41.2) (x_extract rfl rfl) rfl ?_
          refine W_alloc S #[.int .i64 0, .int .i64 0, .bool false, .string (bs ([] : Str))] ty27 rfl rfl ?_
          intro b44 w45 E' S
          replace E := E.trans E'
          clear E'
          refine W_store S 0 rfl ty27 rfl rfl [.int .i64 t41.1.Writer, .int .i64 t41.1.TS, .bool t41.1.Tomb, .string (bs t41.1.Value)] rfl rfl rfl #[.int .i64 t41.1.Writer, .int .i64 t41.1.TS, .bool t41.1.Tomb, .string (bs t41.1.Value)] rfl rfl ?_
          intro w47 E' S
          replace E := E.trans E'
          clear E'
          refine W_v (.bool t41.2) (x_assign rfl) rfl ?_
          refine Wl_nil ?_
          refine tn ?_
          refine Wp_seq ?_
          refine Wp_region_lit ?_
          refine W_v (.slice A0 a0.length c0) (x_move rfl) rfl ?_
          refine W_v (.int .i64 a2) (x_move rfl) rfl ?_
          obtain ⟨t48, ht49, H⟩ := bindS H
          refine W_callF fn12 (keep_Seen.con k M38 A0 c0 a0 a2 t48 hr0 ht49) S rfl rfl (by rintro _ _ _ ⟨_, rfl⟩; exact flat_nil) ?_
          rintro _ w50 _ Γ' E' S ⟨rfl, rfl⟩
          replace E := E.trans E'
          clear E'
          refine W_v (.tuple #[.agg #[.int .i64 t48.1.Writer, .int .i64 t48.1.TS, .bool t48.1.Tomb, .string (bs t48.1.Value)], .bool t48.2]) (x_move rfl) rfl ?_
          refine W_v (.agg #[.int .i64 t48.1.Writer, .int .i64 t48.1.TS, .bool t48.1.Tomb, .string (bs t48.1.Value)]) (x_extract rfl rfl) rfl ?_
          refine W_v (.bool t48.2) (x_extract rfl rfl) rfl ?_
          refine W_alloc S #[.int .i64 0, .int .i64 0, .bool false, .string (bs ([] : Str))] ty27 rfl rfl ?_
          intro b51 w52 E' S
          replace E := E.trans E'
          clear E'
          refine W_store S 0 rfl ty27 rfl rfl [.int .i64 t48.1.Writer, .int .i64 t48.1.TS, .bool t48.1.Tomb, .string (bs t48.1.Value)] rfl rfl rfl #[.int .i64 t48.1.Writer, .int .i64 t48.1.TS, .bool t48.1.Tomb, .string (bs t48.1.Value)] rfl rfl ?_
          intro w54 E' S
          replace E := E.trans E'
          clear E'
          refine W_v (.bool t48.2) (x_assign rfl) rfl ?_
          refine Wl_nil ?_
          refine tn ?_
          refine Wp_seq ?_
          refine Wp_seq ?_
          refine Wp_region_lit ?_
          refine W_v (.agg #[.int .i64 t41.1.Writer, .int .i64 t41.1.TS, .bool t41.1.Tomb, .string (bs t41.1.Value)]) (x_loadA (S.blk 1 rfl) ty27 rfl (sub_of_extract rfl) rfl rfl) rfl ?_
          refine W_v (.agg #[.int .i64 t48.1.Writer, .int .i64 t48.1.TS, .bool t48.1.Tomb, .string (bs t48.1.Value)]) (x_loadA (S.blk 0 rfl) ty27 rfl (sub_of_extract rfl) rfl rfl) rfl ?_
          refine W_v (.bool (!((t41.1.Writer == t48.1.Writer) && ((t41.1.TS == t48.1.TS) && ((t41.1.Tomb == t48.1.Tomb) && (t41.1.Value == t48.1.Value)))))) (x_ne_of (en27 _ _ _ _) rfl (eq27 _ t41.1.Writer t41.1.TS t41.1.Tomb t41.1.Value t48.1.Writer t48.1.TS t48.1.Tomb t48.1.Value)) rfl ?_
          refine W_v (.bool (!((t41.1.Writer == t48.1.Writer) && ((t41.1.TS == t48.1.TS) && ((t41.1.Tomb == t48.1.Tomb) && (t41.1.Value == t48.1.Value)))))) (x_move rfl) rfl ?_
          refine Wl_cutN 4 (fun ρ w' => Agree ρ [(0, .slice A0 a0.length c0), (1, .int .i64 a1), (2, .int .i64 a2), (7, .slice A34 t32.length c35), (8, .pointer (some ⟨b44, 0, none⟩)), (10, .pointer (some ⟨b51, 0, none⟩)), (53, .bool ((!((t41.1.Writer == t48.1.Writer) && ((t41.1.TS == t48.1.TS) && ((t41.1.Tomb == t48.1.Tomb) && (t41.1.Value == t48.1.Value))))) || (!(t41.2 == t48.2))))] ∧ w54 = w') ?_ ?_
          · rcases boolCases (!((t41.1.Writer == t48.1.Writer) && ((t41.1.TS == t48.1.TS) && ((t41.1.Tomb == t48.1.Tomb) && (t41.1.Value == t48.1.Value))))) with hb55 | hb55
            · skip
              refine W_yes (congrArg some hb55) ?_
              refine W_v (.bool t41.2) (x_move rfl) rfl ?_
              refine W_yes (congrArg some hb55) ?_
              refine W_v (.bool t48.2) (x_move rfl) rfl ?_
              refine W_yes (congrArg some hb55) ?_
              refine W_v (.bool (!(t41.2 == t48.2))) (x_bne Try.underlying4 rfl rfl) rfl ?_
              refine W_v (.bool (!(t41.2 == t48.2))) (x_pick (k := false) (congrArg Value.bool hb55) rfl) rfl ?_
              refine Wl_nil ?_
              exact ⟨⟨rfl, rfl, rfl, rfl, rfl, rfl, (by first | rfl | (rw [hb55]; rfl) | (simp only [hb55]; rfl)), trivial⟩, rfl⟩
            · skip
              refine W_no (skF hb55) rfl ?_
              refine W_no (skF hb55) rfl ?_
              refine W_no (skF hb55) rfl ?_
              refine W_v (.bool true) (x_pick (k := true) (congrArg Value.bool hb55) rfl) rfl ?_
              refine Wl_nil ?_
              exact ⟨⟨rfl, rfl, rfl, rfl, rfl, rfl, (by first | rfl | (rw [hb55]; rfl) | (simp only [hb55]; rfl)), trivial⟩, rfl⟩
          · rintro ρ _ ⟨hρ, rfl⟩
            rw [agree_eta hρ]
            clear hρ
            skip
            refine W_v (.bool ((!((t41.1.Writer == t48.1.Writer) && ((t41.1.TS == t48.1.TS) && ((t41.1.Tomb == t48.1.Tomb) && (t41.1.Value == t48.1.Value))))) || (!(t41.2 == t48.2)))) (x_move rfl) rfl ?_
            obtain ⟨o70, o70h, o70H⟩ := bindS H
            clear H
            refine Wl_cutN 8 (fun ρ w' => ∃ (x69 : Bool), (x69) = o70 ∧ Agree ρ [(0, .slice A0 a0.length c0), (1, .int .i64 a1), (7, .slice A34 t32.length c35), (8, .pointer (some ⟨b44, 0, none⟩)), (10, .pointer (some ⟨b51, 0, none⟩)), (62, .bool x69)] ∧ Ext w w' ∧ St w' M38 F [Blk b51 (.cells #[.int .i64 t48.1.Writer, .int .i64 t48.1.TS, .bool t48.1.Tomb, .string (bs t48.1.Value)] 27 (0, 0)), Blk b44 (.cells #[.int .i64 t41.1.Writer, .int .i64 t41.1.TS, .bool t41.1.Tomb, .string (bs t41.1.Value)] 27 (0, 0))]) ?_ ?_
            · have H := o70h
              rcases iteS H with ⟨hb68, H⟩ | ⟨hb68, H⟩
              · skip
                refine W_no (skF hb68) rfl ?_
                refine W_no (skF hb68) rfl ?_
                refine W_no (skF hb68) rfl ?_
                refine W_no (skF hb68) rfl ?_
                refine W_no (skF hb68) rfl ?_
                refine W_no (skF hb68) rfl ?_
                refine W_no (skF hb68) rfl ?_
                refine W_v (.bool true) (x_pick (k := true) (congrArg Value.bool hb68) rfl) rfl ?_
                refine Wl_nil ?_
                exact ⟨true, Option.some.inj H, ⟨rfl, rfl, rfl, rfl, rfl, rfl, trivial⟩, E, S.pick [0, 1] (by decide)⟩
              · skip
                refine W_yes (congrArg some hb68) ?_
                refine W_v (.slice A34 t32.length c35) (x_move rfl) rfl ?_
                refine W_yes (congrArg some hb68) ?_
                refine W_v (.int .i64 a2) (x_move rfl) rfl ?_
                refine W_yes (congrArg some hb68) ?_
                obtain ⟨t71, ht72, H⟩ := bindS H
                refine W_callF fn13 (keep_Clash.con k M38 A34 c35 t32 a2 t71 hf40 ht72) S rfl rfl (by rintro _ _ _ ⟨_, rfl⟩; exact flat_nil) ?_
                rintro _ w73 _ Γ' E' S ⟨rfl, rfl⟩
                replace E := E.trans E'
                clear E'
                refine W_yes (congrArg some hb68) ?_
                refine W_v (.slice A0 a0.length c0) (x_move rfl) rfl ?_
                refine W_yes (congrArg some hb68) ?_
                refine W_v (.int .i64 a2) (x_move rfl) rfl ?_
                refine W_yes (congrArg some hb68) ?_
                obtain ⟨t74, ht75, H⟩ := bindS H
                refine W_callF fn13 (keep_Clash.con k M38 A0 c0 a0 a2 t74 hr0 ht75) S rfl rfl (by rintro _ _ _ ⟨_, rfl⟩; exact flat_nil) ?_
                rintro _ w76 _ Γ' E' S ⟨rfl, rfl⟩
                replace E := E.trans E'
                clear E'
                refine W_yes (congrArg some hb68) ?_
                refine W_v (.bool (!(t71 == t74))) (x_bne Try.underlying4 rfl rfl) rfl ?_
                refine W_v (.bool (!(t71 == t74))) (x_pick (k := false) (congrArg Value.bool hb68) rfl) rfl ?_
                refine Wl_nil ?_
                exact ⟨(!(t71 == t74)), Option.some.inj H, ⟨rfl, rfl, rfl, rfl, rfl, rfl, trivial⟩, E, S.pick [0, 1] (by decide)⟩
            · clear o70h
              rintro ρ w77 ⟨x69, rfl, hρ, E, S⟩
              rw [agree_eta hρ]
              clear hρ
              have H := o70H
              clear o70H
              refine Wl_nil ?_
              refine tn ?_
              rcases iteS H with ⟨hb78, H⟩ | ⟨hb78, H⟩
              · refine Wp_cond_true (congrArg Value.bool hb78) ?_
                refine Wp_seq ?_
                refine Wp_region_lit ?_
                refine W_v (.bool false) (x_assign rfl) rfl ?_
                refine Wl_nil ?_
                refine tn ?_
                refine Wp_ret ?_
                refine tr (?_)
                obtain rfl := Option.some.inj H
                exact ⟨_, _, _, fun w1 e1 => run_resR (vs := [.bool false]) (FA.cons (rfl) (FA.nil)), HM, E, S.pick [] (by decide), ⟨rfl, rfl⟩⟩
              · refine Wp_cond_false (congrArg Value.bool hb78) ?_
                refine Wp_skip ?_
                refine tn ?_
                refine Wp_seq ?_
                refine Wp_seq ?_
                refine Wp_region_lit ?_
                refine W_v (.int .i64 0) (x_assign rfl) rfl ?_
                refine Wl_nil ?_
                refine tn ?_
                obtain ⟨o232, o232h, o232H⟩ := bindS H
                clear H
                refine Wp_blockJ (fun ρ w' => .inr () = o232 ∧ Agree ρ [] ∧ Ext w w' ∧ St w' M38 F []) ?_ ?_
                · skip
                  refine Wp_loop (fun n ρ w' => ∃ (x181 : Int) (x182 : Int) (x183 : Int) (x184 : Bool) (x185 : Str) (x186 : Int) (x187 : Int) (x188 : Bool) (x189 : Str), ferrymanlaw11_KeepLost_l0 a0 a1 t32 n x181 x182 x183 x184 x185 x186 x187 x188 x189 = some o232 ∧ Agree ρ [(0, .slice A0 a0.length c0), (1, .int .i64 a1), (7, .slice A34 t32.length c35), (8, .pointer (some ⟨b44, 0, none⟩)), (10, .pointer (some ⟨b51, 0, none⟩)), (12, .int .i64 x181)] ∧ Ext w w' ∧ St w' M38 F [Blk b51 (.cells #[.int .i64 x182, .int .i64 x183, .bool x184, .string (bs x185)] 27 (0, 0)), Blk b44 (.cells #[.int .i64 x186, .int .i64 x187, .bool x188, .string (bs x189)] 27 (0, 0))]) k ?_ ?_
                  · skip
                    exact ⟨(0 : Int), t48.1.Writer, t48.1.TS, t48.1.Tomb, t48.1.Value, t41.1.Writer, t41.1.TS, t41.1.Tomb, t41.1.Value, o232h, ⟨rfl, rfl, rfl, rfl, rfl, rfl, trivial⟩, E, S.pick [0, 1] (by decide)⟩
                  · intro n
                    rintro ρ w233 ⟨x181, x182, x183, x184, x185, x186, x187, x188, x189, H, hρ, E, S⟩
                    rw [agree_eta hρ]
                    clear hρ
                    cases n with
                    | zero => cases H
                    | succ k =>
                      rw [ferrymanlaw11_KeepLost_l0.eq_2] at H
                      refine Wp_seq ?_
                      refine Wp_seq ?_
                      refine Wp_region_lit ?_
                      refine W_v (.int .i64 x181) (x_move rfl) rfl ?_
                      refine W_v (.slice A0 a0.length c0) (x_move rfl) rfl ?_
                      refine W_v (.int .i64 (a0.length : Int)) (x_len_slice (n := a0.length) Try.underlying22 rfl) rfl ?_
                      refine W_v (.bool (decide (x181 < (a0.length : Int)))) (x_ibin rfl rfl rfl rfl) rfl ?_
                      refine Wl_nil ?_
                      refine tn ?_
                      rcases iteS H with ⟨hb234, H⟩ | ⟨hb234, H⟩
                      · refine Wp_cond_true (congrArg Value.bool hb234) ?_
                        refine Wp_skip ?_
                        refine tn ?_
                        refine Wp_seq ?_
                        refine Wp_block ?_
                        refine Wp_seq ?_
                        refine Wp_seq ?_
                        refine Wp_region_lit ?_
                        refine W_v (.slice A0 a0.length c0) (x_move rfl) rfl ?_
                        refine W_v (.int .i64 x181) (x_move rfl) rfl ?_
                        obtain ⟨⟨p235, p236⟩, H⟩ := chkS H
                        obtain ⟨b237, o238, cs239, _, _, ee244, hb240, vs241, hR242, hc243⟩ := SlW.at' hr0 p235 p236
                        obtain rfl : vs241 = _ := hR242
                        refine W_v (.pointer (some ⟨b237, o238 + x181.toNat * 4, none⟩)) (x_indexAddr Try.underlying22 ty27 (slA ee244) rfl p235 p236) rfl ?_
                        refine W_v (.pointer (some ⟨b237, o238 + x181.toNat * 4 + 1, none⟩)) (x_fieldAddr (o := o238 + x181.toNat * 4) (off := 1) Try.underlying27 rfl ty3 rfl rfl) rfl ?_
                        refine W_v (.int .i64 ((rd a0 x181).TS)) (x_load (S.frz hb240) ty3 rfl (hc243 1 _ rfl)) rfl ?_
                        refine W_v (.int .i64 a1) (x_move rfl) rfl ?_
                        refine W_v (.bool (decide ((rd a0 x181).TS < a1))) (x_ibin rfl rfl rfl rfl) rfl ?_
                        refine Wl_nil ?_
                        refine tn ?_
                        rcases iteS H with ⟨hb245, H⟩ | ⟨hb245, H⟩
                        · refine Wp_cond_true (congrArg Value.bool hb245) ?_
                          refine Wp_exit ?_
                          refine tx (bsm (?_))
                          refine tn ?_
                          refine Wp_region_lit ?_
                          refine W_v (.int .i64 x181) (x_move rfl) rfl ?_
                          refine W_v (.int .i64 (IntKind.i64.wrap (x181 + (1 : Int)))) (x_ibin rfl rfl rfl rfl) rfl ?_
                          refine W_v (.int .i64 (IntKind.i64.wrap (x181 + (1 : Int)))) (x_assign rfl) rfl ?_
                          refine Wl_nil ?_
                          refine tn ?_
                          exact ⟨k, Nat.lt_succ_self k, ⟨(IntKind.i64.wrap (x181 + (1 : Int))), x182, x183, x184, x185, x186, x187, x188, x189, H, ⟨rfl, rfl, rfl, rfl, rfl, rfl, trivial⟩, E, S.pick [0, 1] (by decide)⟩⟩
                        · refine Wp_cond_false (congrArg Value.bool hb245) ?_
                          refine Wp_skip ?_
                          refine tn ?_
                          refine Wp_seq ?_
                          refine Wp_region_lit ?_
                          refine W_v (.slice A34 t32.length c35) (x_move rfl) rfl ?_
                          refine W_v (.slice A0 a0.length c0) (x_move rfl) rfl ?_
                          refine W_v (.int .i64 x181) (x_move rfl) rfl ?_
                          obtain ⟨⟨p246, p247⟩, H⟩ := chkS H
                          obtain ⟨b248, o249, cs250, _, _, ee255, hb251, vs252, hR253, hc254⟩ := SlW.at' hr0 p246 p247
                          obtain rfl : vs252 = _ := hR253
                          refine W_v (.pointer (some ⟨b248, o249 + x181.toNat * 4, none⟩)) (x_indexAddr Try.underlying22 ty27 (slA ee255) rfl p246 p247) rfl ?_
                          refine W_v (.pointer (some ⟨b248, o249 + x181.toNat * 4 + 1, none⟩)) (x_fieldAddr (o := o249 + x181.toNat * 4) (off := 1) Try.underlying27 rfl ty3 rfl rfl) rfl ?_
                          refine W_v (.int .i64 ((rd a0 x181).TS)) (x_load (S.frz hb251) ty3 rfl (hc254 1 _ rfl)) rfl ?_
                          obtain ⟨t256, ht257, H⟩ := bindS H
                          refine W_callF fn12 (keep_Seen.con k M38 A34 c35 t32 ((rd a0 x181).TS) t256 hf40 ht257) S rfl rfl (by rintro _ _ _ ⟨_, rfl⟩; exact flat_nil) ?_
                          rintro _ w258 _ Γ' E' S ⟨rfl, rfl⟩
                          replace E := E.trans E'
                          clear E'
                          refine W_v (.tuple #[.agg #[.int .i64 t256.1.Writer, .int .i64 t256.1.TS, .bool t256.1.Tomb, .string (bs t256.1.Value)], .bool t256.2]) (x_move rfl) rfl ?_
                          refine W_v (.agg #[.int .i64 t256.1.Writer, .int .i64 t256.1.TS, .bool t256.1.Tomb, .string (bs t256.1.Value)]) (x_extract rfl rfl) rfl ?_
                          refine W_v (.bool t256.2) (x_extract rfl rfl) rfl ?_
                          refine W_store S 1 rfl ty27 rfl rfl [.int .i64 t256.1.Writer, .int .i64 t256.1.TS, .bool t256.1.Tomb, .string (bs t256.1.Value)] rfl rfl rfl #[.int .i64 t256.1.Writer, .int .i64 t256.1.TS, .bool t256.1.Tomb, .string (bs t256.1.Value)] rfl rfl ?_
                          intro w259 E' S
                          replace E := E.trans E'
                          clear E'
                          refine W_v (.bool t256.2) (x_assign rfl) rfl ?_
                          refine Wl_nil ?_
                          refine tn ?_
                          refine Wp_seq ?_
                          refine Wp_region_lit ?_
                          refine W_v (.slice A0 a0.length c0) (x_move rfl) rfl ?_
                          refine W_v (.slice A0 a0.length c0) (x_move rfl) rfl ?_
                          refine W_v (.int .i64 x181) (x_move rfl) rfl ?_
                          obtain ⟨⟨p260, p261⟩, H⟩ := chkS H
                          obtain ⟨b262, o263, cs264, _, _, ee269, hb265, vs266, hR267, hc268⟩ := SlW.at' hr0 p260 p261
                          obtain rfl : vs266 = _ := hR267
                          refine W_v (.pointer (some ⟨b262, o263 + x181.toNat * 4, none⟩)) (x_indexAddr Try.underlying22 ty27 (slA ee269) rfl p260 p261) rfl ?_
                          refine W_v (.pointer (some ⟨b262, o263 + x181.toNat * 4 + 1, none⟩)) (x_fieldAddr (o := o263 + x181.toNat * 4) (off := 1) Try.underlying27 rfl ty3 rfl rfl) rfl ?_
                          refine W_v (.int .i64 ((rd a0 x181).TS)) (x_load (S.frz hb265) ty3 rfl (hc268 1 _ rfl)) rfl ?_
                          obtain ⟨t270, ht271, H⟩ := bindS H
                          refine W_callF fn12 (keep_Seen.con k M38 A0 c0 a0 ((rd a0 x181).TS) t270 hr0 ht271) S rfl rfl (by rintro _ _ _ ⟨_, rfl⟩; exact flat_nil) ?_
                          rintro _ w272 _ Γ' E' S ⟨rfl, rfl⟩
                          replace E := E.trans E'
                          clear E'
                          refine W_v (.tuple #[.agg #[.int .i64 t270.1.Writer, .int .i64 t270.1.TS, .bool t270.1.Tomb, .string (bs t270.1.Value)], .bool t270.2]) (x_move rfl) rfl ?_
                          refine W_v (.agg #[.int .i64 t270.1.Writer, .int .i64 t270.1.TS, .bool t270.1.Tomb, .string (bs t270.1.Value)]) (x_extract rfl rfl) rfl ?_
                          refine W_v (.bool t270.2) (x_extract rfl rfl) rfl ?_
                          refine W_store S 0 rfl ty27 rfl rfl [.int .i64 t270.1.Writer, .int .i64 t270.1.TS, .bool t270.1.Tomb, .string (bs t270.1.Value)] rfl rfl rfl #[.int .i64 t270.1.Writer, .int .i64 t270.1.TS, .bool t270.1.Tomb, .string (bs t270.1.Value)] rfl rfl ?_
                          intro w273 E' S
                          replace E := E.trans E'
                          clear E'
                          refine W_v (.bool t270.2) (x_assign rfl) rfl ?_
                          refine Wl_nil ?_
                          refine tn ?_
                          refine Wp_seq ?_
                          refine Wp_region_lit ?_
                          refine W_v (.agg #[.int .i64 t256.1.Writer, .int .i64 t256.1.TS, .bool t256.1.Tomb, .string (bs t256.1.Value)]) (x_loadA (S.blk 1 rfl) ty27 rfl (sub_of_extract rfl) rfl rfl) rfl ?_
                          refine W_v (.agg #[.int .i64 t270.1.Writer, .int .i64 t270.1.TS, .bool t270.1.Tomb, .string (bs t270.1.Value)]) (x_loadA (S.blk 0 rfl) ty27 rfl (sub_of_extract rfl) rfl rfl) rfl ?_
                          refine W_v (.bool (!((t256.1.Writer == t270.1.Writer) && ((t256.1.TS == t270.1.TS) && ((t256.1.Tomb == t270.1.Tomb) && (t256.1.Value == t270.1.Value)))))) (x_ne_of (en27 _ _ _ _) rfl (eq27 _ t256.1.Writer t256.1.TS t256.1.Tomb t256.1.Value t270.1.Writer t270.1.TS t270.1.Tomb t270.1.Value)) rfl ?_
                          refine W_v (.bool (!((t256.1.Writer == t270.1.Writer) && ((t256.1.TS == t270.1.TS) && ((t256.1.Tomb == t270.1.Tomb) && (t256.1.Value == t270.1.Value)))))) (x_move rfl) rfl ?_
                          refine Wl_cutN 4 (fun ρ w' => Agree ρ [(0, .slice A0 a0.length c0), (1, .int .i64 a1), (7, .slice A34 t32.length c35), (8, .pointer (some ⟨b44, 0, none⟩)), (10, .pointer (some ⟨b51, 0, none⟩)), (12, .int .i64 x181), (103, .bool ((!((t256.1.Writer == t270.1.Writer) && ((t256.1.TS == t270.1.TS) && ((t256.1.Tomb == t270.1.Tomb) && (t256.1.Value == t270.1.Value))))) || (!(t256.2 == t270.2))))] ∧ w273 = w') ?_ ?_
                          · rcases boolCases (!((t256.1.Writer == t270.1.Writer) && ((t256.1.TS == t270.1.TS) && ((t256.1.Tomb == t270.1.Tomb) && (t256.1.Value == t270.1.Value))))) with hb274 | hb274
                            · skip
                              refine W_yes (congrArg some hb274) ?_
                              refine W_v (.bool t256.2) (x_move rfl) rfl ?_
                              refine W_yes (congrArg some hb274) ?_
                              refine W_v (.bool t270.2) (x_move rfl) rfl ?_
                              refine W_yes (congrArg some hb274) ?_
                              refine W_v (.bool (!(t256.2 == t270.2))) (x_bne Try.underlying4 rfl rfl) rfl ?_
                              refine W_v (.bool (!(t256.2 == t270.2))) (x_pick (k := false) (congrArg Value.bool hb274) rfl) rfl ?_
                              refine Wl_nil ?_
                              exact ⟨⟨rfl, rfl, rfl, rfl, rfl, rfl, (by first | rfl | (rw [hb274]; rfl) | (simp only [hb274]; rfl)), trivial⟩, rfl⟩
                            · skip
                              refine W_no (skF hb274) rfl ?_
                              refine W_no (skF hb274) rfl ?_
                              refine W_no (skF hb274) rfl ?_
                              refine W_v (.bool true) (x_pick (k := true) (congrArg Value.bool hb274) rfl) rfl ?_
                              refine Wl_nil ?_
                              exact ⟨⟨rfl, rfl, rfl, rfl, rfl, rfl, (by first | rfl | (rw [hb274]; rfl) | (simp only [hb274]; rfl)), trivial⟩, rfl⟩
                          · rintro ρ _ ⟨hρ, rfl⟩
                            rw [agree_eta hρ]
                            clear hρ
                            skip
                            refine Wl_nil ?_
                            refine tn ?_
                            rcases iteS H with ⟨hb275, H⟩ | ⟨hb275, H⟩
                            · refine Wp_cond_true (congrArg Value.bool hb275) ?_
                              refine Wp_seq ?_
                              refine Wp_region_lit ?_
                              refine W_v (.bool false) (x_assign rfl) rfl ?_
                              refine Wl_nil ?_
                              refine tn ?_
                              refine Wp_ret ?_
                              refine br (tr (tr (br (tr (tr (?_))))))
                              obtain rfl := Option.some.inj H
                              have H := o232H
                              replace H := elimL H
                              obtain rfl := Option.some.inj H
                              exact ⟨_, _, _, fun w1 e1 => run_resR (vs := [.bool false]) (FA.cons (rfl) (FA.nil)), HM, E, S.pick [] (by decide), ⟨rfl, rfl⟩⟩
                            · refine Wp_cond_false (congrArg Value.bool hb275) ?_
                              refine Wp_skip ?_
                              refine bn ?_
                              refine tn ?_
                              refine Wp_region_lit ?_
                              refine W_v (.int .i64 x181) (x_move rfl) rfl ?_
                              refine W_v (.int .i64 (IntKind.i64.wrap (x181 + (1 : Int)))) (x_ibin rfl rfl rfl rfl) rfl ?_
                              refine W_v (.int .i64 (IntKind.i64.wrap (x181 + (1 : Int)))) (x_assign rfl) rfl ?_
                              refine Wl_nil ?_
                              refine tn ?_
                              exact ⟨k, Nat.lt_succ_self k, ⟨(IntKind.i64.wrap (x181 + (1 : Int))), t270.1.Writer, t270.1.TS, t270.1.Tomb, t270.1.Value, t256.1.Writer, t256.1.TS, t256.1.Tomb, t256.1.Value, H, ⟨rfl, rfl, rfl, rfl, rfl, rfl, trivial⟩, E, S.pick [0, 1] (by decide)⟩⟩
                      · refine Wp_cond_false (congrArg Value.bool hb234) ?_
                        refine Wp_exit ?_
                        refine tx (tx (bsm (?_)))
                        refine tn ?_
                        exact ⟨Option.some.inj H, trivial, E, S.pick [] (by decide)⟩
                · clear o232h
                  rintro ρ w276 ⟨rfl, hρ, E, S⟩
                  rw [agree_eta hρ]
                  clear hρ
                  have H := o232H
                  clear o232H
                  replace H := elimR H
                  refine tn ?_
                  refine Wp_seq ?_
                  refine Wp_region_lit ?_
                  refine W_v (.bool true) (x_assign rfl) rfl ?_
                  refine Wl_nil ?_
                  refine tn ?_
                  refine Wp_ret ?_
                  obtain rfl := Option.some.inj H
                  exact ⟨_, _, _, fun w1 e1 => run_resR (vs := [.bool true]) (FA.cons (rfl) (FA.nil)), HM, E, S.pick [] (by decide), ⟨rfl, rfl⟩⟩
end Go.Proofs.Ytmoackfjfklfaaa
