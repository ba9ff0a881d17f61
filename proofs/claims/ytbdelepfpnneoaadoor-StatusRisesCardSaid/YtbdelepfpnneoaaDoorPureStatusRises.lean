/-  The plain law StatusRises. -/
import Derived.Test.YtbdelepfpnneoaaDoorPureBase
import Derived.Test.YtbdelepfpnneoaaDoorGs1LStatusRises
namespace Go.Proofs.YtbdelepfpnneoaaDoor
open Go Go.RowKit
set_option linter.unusedVariables false
set_option linter.unusedSimpArgs false
structure Good (s s' : status_Writers) (w0 w : Int) : Prop where
  up : (stOf s.l w).1 ≤ (stOf s'.l w).1
  ke : (stOf s.l w).2 ≠ 0 → (stOf s'.l w).2 = (stOf s.l w).2
  co : (stOf s'.l w).2 ≠ 0 → (stOf s'.l w).1 = 3
  at' : (stOf s.l w).1 ≠ (stOf s'.l w).1 ↔ w = w0
  hi : w = w0 → (stOf s'.l w).2 ≠ 0 → s.last < (stOf s'.l w).2
theorem inv_co {s : status_Writers} (I : Inv s) (w : Int) (h : (stOf s.l w).2 ≠ 0) : (stOf s.l w).1 = 3 := by
  unfold stOf at h ⊢
  split
  · next g => rw [if_pos g] at h; exact (I.ts w g.1 g.2).2.2 h
  · next g => rw [if_neg g] at h; exact absurd rfl h
theorem good_same {s : status_Writers} (I : Inv s) {w : Int} (h : 0 ≤ w) : Good s s (-1) w :=
  ⟨Int.le_refl _, fun _ => rfl, inv_co I w, ⟨fun h => absurd rfl h, fun h => by omega⟩, fun h => by omega⟩
theorem stOf_set {l : List status_writer} {w v : Int} {x : status_writer} (h1 : 1 ≤ w) (h2 : w ≤ (l.length : Int)) : stOf (l.set (w - 1).toNat x) v = if v = w then (x.state, x.ts) else stOf l v := by
  unfold stOf; rw [List.length_set]
  by_cases h : v = w
  · subst h
    rw [if_pos ⟨h1, h2⟩, if_pos rfl, wa_set h1 h2 h1, if_pos rfl]
  · rw [if_neg h]
    split
    · next g => rw [wa_set h1 h2 g.1, if_neg h]
    · rfl
theorem good_set {s : status_Writers} {w0 la : Int} {y : status_writer} (I : Inv s) (h1 : 1 ≤ w0) (h2 : w0 ≤ (s.l.length : Int)) (h3 : (wa s.l w0).state < y.state) (h4 : (wa s.l w0).ts = 0) (h5 : y.ts ≠ 0 → y.state = 3 ∧ s.last < y.ts) (w : Int) :
    Good s ⟨s.l.set (w0 - 1).toNat y, la⟩ w0 w := by
  have e : stOf s.l w0 = ((wa s.l w0).state, (wa s.l w0).ts) := by unfold stOf; rw [if_pos ⟨h1, h2⟩]
  by_cases h : w = w0
  · subst h
    have es : stOf (s.l.set (w - 1).toNat y) w = (y.state, y.ts) := by rw [stOf_set h1 h2, if_pos rfl]
    refine ⟨?_, ?_, ?_, ?_, ?_⟩ <;> simp only [es, e]
    · exact Int.le_of_lt h3
    · intro h; exact absurd h4 h
    · exact fun h => (h5 h).1
    · exact ⟨fun _ => trivial, fun _ => by omega⟩
    · exact fun _ h => (h5 h).2
  · have es : stOf (s.l.set (w0 - 1).toNat y) w = stOf s.l w := by rw [stOf_set h1 h2, if_neg h]
    refine ⟨?_, ?_, ?_, ?_, ?_⟩ <;> simp only [es]
    · exact Int.le_refl _
    · exact fun _ => trivial
    · exact inv_co I w
    · exact ⟨fun h => absurd rfl h, fun h' => absurd h' h⟩
    · exact fun h' => absurd h' h
theorem inv_ts0 {s : status_Writers} (I : Inv s) {w : Int} (h1 : 1 ≤ w) (h2 : w ≤ (s.l.length : Int)) (h : (wa s.l w).state ≠ 3) : (wa s.l w).ts = 0 := by
  by_cases e : (wa s.l w).ts = 0
  · exact e
  · exact absurd ((I.ts w h1 h2).2.2 e) h
def Step1 (s : status_Writers) (e : Int) (s' : status_Writers) : Prop :=
  ∃ w0 : Int, (∀ w, 0 ≤ w → Good s s' w0 w) ∧ (e = 0 ↔ (0 ≤ w0 ∧ w0 ≤ (s.l.length : Int) + 1)) ∧ s.last ≤ s'.last
theorem step_same {s : status_Writers} (I : Inv s) {e : Int} (h : e ≠ 0) : Step1 s e s := ⟨-1, fun w h => good_same I h, ⟨fun h' => absurd h' h, fun h => by omega⟩, Int.le_refl _⟩
theorem step_commit {s : status_Writers} (I : Inv s) (w ts : Int) : Step1 s (commitF s w ts).1 (commitF s w ts).2 := by
  unfold commitF
  split
  · next h =>
    obtain ⟨⟨h1, h2⟩, h3⟩ := may_in h
    split
    · exact step_same I (show (1 : Int) ≠ 0 by decide)
    · next hc =>
      have h3' : (wa s.l w).state = 1 := h3
      refine ⟨w, fun v hv => good_set I h1 h2 (by show (wa s.l w).state < 3; omega) (inv_ts0 I h1 h2 (by omega)) (fun h => ⟨rfl, by show s.last < ts; have h' : ts ≠ 0 := h; omega⟩) v, ⟨fun _ => by omega, fun _ => rfl⟩, ?_⟩
      show s.last ≤ imax s.last ts
      rw [imax_eq]; split <;> omega
  · next h => exact step_same I h
theorem step_turn {s : status_Writers} (I : Inv s) (w is : Int) (his : is = 2 ∨ is = 4) : Step1 s (turnF s w is).1 (turnF s w is).2 := by
  unfold turnF
  split
  · next h =>
    obtain ⟨⟨h1, h2⟩, h3⟩ := may_in h
    have hb : (wa s.l w).state < is ∧ (wa s.l w).state ≠ 3 := by rcases his with rfl | rfl <;> (rw [h3]; decide)
    have ht := inv_ts0 I h1 h2 hb.2
    exact ⟨w, fun v hv => good_set (y := ⟨is, (wa s.l w).ts⟩) I h1 h2 hb.1 ht (fun h => absurd ht h) v, ⟨fun _ => by omega, fun _ => rfl⟩, Int.le_refl _⟩
  · next h => exact step_same I h
theorem step_do {s : status_Writers} (I : Inv s) (x : ferrymanlaw08_Step) : Step1 s (doF x s).2.1 (doF x s).2.2 := by
  unfold doF
  split
  · refine ⟨(s.l.length : Int) + 1, fun w hw => ?_, ⟨fun _ => by omega, fun _ => rfl⟩, Int.le_refl _⟩
    by_cases h : w = (s.l.length : Int) + 1
    · have e1 : stOf s.l w = (0, 0) := by unfold stOf; rw [if_neg (by omega)]
      have e2 : stOf (beginF s).2.l w = (1, 0) := by
        unfold stOf beginF; rw [if_pos ⟨by omega, by simp; omega⟩, wa_app (by omega) (by omega), if_neg (by omega)]
      refine ⟨?_, ?_, ?_, ?_, ?_⟩ <;> simp only [e1, e2]
      · decide
      · intro h; exact absurd rfl h
      · intro h; exact absurd rfl h
      · exact ⟨fun _ => h, fun _ => by decide⟩
      · intro _ h; exact absurd rfl h
    · have e2 : stOf (beginF s).2.l w = stOf s.l w := by
        unfold stOf beginF
        by_cases g : 1 ≤ w ∧ w ≤ (s.l.length : Int)
        · rw [if_pos g, if_pos ⟨g.1, by simp; omega⟩, wa_app g.1 (by omega), if_pos g.2]
        · rw [if_neg g, if_neg (by simp; omega)]
      refine ⟨?_, ?_, ?_, ?_, ?_⟩ <;> simp only [e2]
      · exact Int.le_refl _
      · exact fun _ => trivial
      · exact inv_co I w
      · exact ⟨fun h => absurd rfl h, fun h' => absurd h' h⟩
      · exact fun h' => absurd h' h
  · split
    · exact step_commit I _ _
    · split
      · exact step_turn I _ _ (.inl rfl)
      · split
        · exact step_turn I _ _ (.inr rfl)
        · exact step_commit I _ _
theorem do_le' (x : ferrymanlaw08_Step) (s : status_Writers) : s.l.length ≤ (doF x s).2.2.l.length ∧ (doF x s).2.2.l.length ≤ s.l.length + 1 := by
  have := do_len x s
  split at this <;> omega
theorem rises_l4 (s : status_Writers) (D : Int × Int × status_Writers) (w0 : Int) (hG : ∀ w, 0 ≤ w → Good s D.2.2 w0 w) (hs : s.l.length ≤ 900) (hD : D.2.2.l.length ≤ 901) : ∀ (j k w : Nat) (c : Int), w + j = s.l.length + 2 → j < k → 0 ≤ c → c ≤ (w : Int) →
    ferrymanlaw08_StatusRises_l4 s D k c (w : Int) = some (.inr (c + if (w : Int) ≤ w0 ∧ w0 ≤ (s.l.length : Int) + 1 then 1 else 0)) := by
  intro j
  induction j with
  | zero =>
    intro k w c h1 h2 h3 h4
    obtain ⟨k, rfl⟩ : ∃ k', k = k' + 1 := ⟨k - 1, by omega⟩
    have : ¬ ((w : Int) ≤ (s.l.length : Int) + 1) := by omega
    rw [ferrymanlaw08_StatusRises_l4, High_eq k s (by omega), if_neg (by omega : ¬ ((w : Int) ≤ w0 ∧ w0 ≤ (s.l.length : Int) + 1))]
    simp [this]
  | succ j ih =>
    intro k w c h1 h2 h3 h4
    obtain ⟨k, rfl⟩ : ∃ k', k = k' + 1 := ⟨k - 1, by omega⟩
    have hw1 : (w : Int) ≤ (s.l.length : Int) + 1 := by omega
    have hw : ((w + 1 : Nat) : Int) = (w : Int) + 1 := by omega
    obtain ⟨g1, g2, g3, g4, g5⟩ := hG (w : Int) (by omega)
    have el : status_Writers_Last_PO k s = some s.last := rfl
    rw [ferrymanlaw08_StatusRises_l4, High_eq k s (by omega), Of_eq k s _ (by omega), Of_eq k D.2.2 _ (by omega), el, wr (x := (w : Int) + 1) (by omega) (by omega), wr (x := c + 1) (by omega) (by omega)]
    have hno : ¬ ((((decide ((stOf D.2.2.l (w : Int)).1 < (stOf s.l (w : Int)).1)) || (((stOf s.l (w : Int)).2 != (0 : Int)) && ((stOf D.2.2.l (w : Int)).2 != (stOf s.l (w : Int)).2))) || (((stOf D.2.2.l (w : Int)).2 != (0 : Int)) && ((stOf D.2.2.l (w : Int)).1 != (3 : Int)))) = true) := by
      simp only [Bool.or_eq_true, Bool.and_eq_true, decide_eq_true_eq, bne_iff_ne, ne_eq, not_or, not_and, Classical.not_not]
      exact ⟨⟨by omega, g2⟩, g3⟩
    simp only [hw1, decide_true, if_true, Option.bind_some]
    rw [if_neg hno]
    by_cases hd : (stOf s.l (w : Int)).1 = (stOf D.2.2.l (w : Int)).1
    · have hd' : ((stOf s.l (w : Int)).1 != (stOf D.2.2.l (w : Int)).1) = false := by simpa using hd
      have hne : (w : Int) ≠ w0 := fun e => g4.2 e hd
      have := ih k (w + 1) c (by omega) (by omega) h3 (by omega)
      rw [hw] at this
      simp only [hd', Bool.false_eq_true, if_false]
      rw [this]
      congr 3
      by_cases h9 : (w : Int) ≤ w0 ∧ w0 ≤ (s.l.length : Int) + 1
      · rw [if_pos h9, if_pos (by omega)]
      · rw [if_neg h9, if_neg (by omega)]
    · have hd' : ((stOf s.l (w : Int)).1 != (stOf D.2.2.l (w : Int)).1) = true := by simpa using hd
      have he : (w : Int) = w0 := g4.1 hd
      have := ih k (w + 1) (c + 1) (by omega) (by omega) (by omega) (by omega)
      rw [hw] at this
      rw [if_neg (by omega : ¬ ((w : Int) + 1 ≤ w0 ∧ w0 ≤ (s.l.length : Int) + 1))] at this
      rw [if_pos (by omega : (w : Int) ≤ w0 ∧ w0 ≤ (s.l.length : Int) + 1)]
      have hr : (c + 1 + 0 : Int) = c + 1 := by omega
      rw [hr] at this
      by_cases h9 : (stOf D.2.2.l (w : Int)).2 = 0
      · have h9' : ((stOf D.2.2.l (w : Int)).2 != 0) = false := by simpa using h9
        simp only [hd', h9', Bool.false_eq_true, if_false, if_true, Option.bind_some]
        exact this
      · have h9' : ((stOf D.2.2.l (w : Int)).2 != 0) = true := by simpa using h9
        have h8 : ¬ ((stOf D.2.2.l (w : Int)).2 ≤ s.last) := by have := g5 he h9; omega
        simp only [hd', h9', h8, decide_false, Bool.false_eq_true, if_false, if_true, Option.bind_some]
        exact this
theorem rises_l2 (a : List ferrymanlaw08_Step) (ha : a.length ≤ 120) : ∀ (j k i : Nat) (s : status_Writers), i + j = a.length → s.l.length + 2 * j + 9 < k → Inv s → s.l.length + j ≤ 900 →
    ∃ s', Inv s' ∧ s'.l.length ≤ s.l.length + j ∧ ferrymanlaw08_StatusRises_l2 a k (i : Int) s.l s.last = some (.inr (s'.l, s'.last)) := by
  intro j
  induction j with
  | zero =>
    intro k i s h1 h2 I h3
    obtain ⟨k, rfl⟩ : ∃ k', k = k' + 1 := ⟨k - 1, by omega⟩
    have : ¬ ((i : Int) < (a.length : Int)) := by omega
    exact ⟨s, I, by omega, by simp [ferrymanlaw08_StatusRises_l2, this]⟩
  | succ j ih =>
    intro k i s h1 h2 I h3
    obtain ⟨k, rfl⟩ : ∃ k', k = k' + 1 := ⟨k - 1, by omega⟩
    have hi1 : (i : Int) < (a.length : Int) := by omega
    have hi0 : (0 : Int) ≤ (i : Int) := by omega
    have hd := do_le' (rd a (i : Int)) s
    obtain ⟨s', I', hl', hv⟩ := ih k (i + 1) (doF (rd a (i : Int)) s).2.2 (by omega) (by omega) (inv_do I) (by omega)
    rw [show ((i + 1 : Nat) : Int) = (i : Int) + 1 by omega] at hv
    refine ⟨s', I', by omega, ?_⟩
    obtain ⟨w0, hG, he, hla⟩ := step_do I (rd a (i : Int))
    rw [ferrymanlaw08_StatusRises_l2, Copy_eq k ⟨s.l, s.last⟩ (by show s.l.length ≤ _; omega), do_eq k _ ⟨s.l, s.last⟩ (by show s.l.length ≤ _; omega) ⟨I.last0, I.lastM⟩, wr (x := (i : Int) + 1) (by omega) (by omega)]
    have hs : (⟨s.l, s.last⟩ : status_Writers) = s := rfl
    rw [hs]
    generalize hD : doF (rd a (i : Int)) s = D at hv hd hG he hla ⊢
    have h4 := rises_l4 s D w0 hG (by omega) (by omega) (s.l.length + 2) k 0 0 (by omega) (by omega) (by omega) (by omega)
    rw [show ((0 : Nat) : Int) = 0 from rfl, Int.zero_add] at h4
    have e1 : status_Writers_Last_PO k D.2.2 = some D.2.2.last := rfl
    have e2 : status_Writers_Last_PO k s = some s.last := rfl
    have hb : ¬ (D.2.2.last < s.last) := by omega
    simp only [hi1, hi0, decide_true, and_self, if_true, Option.bind_some]
    rw [h4]
    simp only [Option.bind_some, Sum.elim_inr, e1, e2]
    by_cases h9 : 0 ≤ w0 ∧ w0 ≤ (s.l.length : Int) + 1
    · have h8 : (D.2.1 == 0) = true := by simpa using he.2 h9
      simp only [h9, and_self, if_true, h8, hb, decide_false, Bool.false_eq_true, if_false, Option.bind_some, beq_self_eq_true, Bool.not_true, Bool.or_false, show ¬ ((1 : Int) > 1) by decide]
      exact hv
    · have h8 : (D.2.1 == 0) = false := by simpa using fun e => h9 (he.1 e)
      rw [if_neg h9]
      simp only [h8, hb, decide_false, Bool.false_eq_true, if_false, Option.bind_some, Bool.or_false, show ¬ ((0 : Int) > 1) by decide, show ((0 : Int) == 1) = false from rfl, beq_self_eq_true, Bool.not_true]
      exact hv
theorem rises_l9 (s : status_Writers) (I : Inv s) (hs : s.l.length ≤ 900) (w : Nat) (hw0 : 1 ≤ w) (hw : w ≤ s.l.length) : ∀ (j k v : Nat), v + j = w → 1 ≤ v → j < k →
    ferrymanlaw08_StatusRises_l9 s.l s.last (w : Int) (stOf s.l (w : Int)) k (v : Int) = some (.inr ()) := by
  intro j
  induction j with
  | zero =>
    intro k v h1 h0 h2
    obtain ⟨k, rfl⟩ : ∃ k', k = k' + 1 := ⟨k - 1, by omega⟩
    have : ¬ ((v : Int) < (w : Int)) := by omega
    simp [ferrymanlaw08_StatusRises_l9, this]
  | succ j ih =>
    intro k v h1 h0 h2
    obtain ⟨k, rfl⟩ : ∃ k', k = k' + 1 := ⟨k - 1, by omega⟩
    have hv1 : (v : Int) < (w : Int) := by omega
    have := ih k (v + 1) (by omega) (by omega) (by omega)
    rw [show ((v + 1 : Nat) : Int) = (v : Int) + 1 by omega] at this
    have el : status_Writers_Last_PO k ⟨s.l, s.last⟩ = some s.last := rfl
    have eW : stOf s.l (w : Int) = ((wa s.l (w : Int)).state, (wa s.l (w : Int)).ts) := by unfold stOf; rw [if_pos (by omega)]
    have eV : stOf s.l (v : Int) = ((wa s.l (v : Int)).state, (wa s.l (v : Int)).ts) := by unfold stOf; rw [if_pos (by omega)]
    have ht := I.ts (w : Int) (by omega) (by omega)
    have htw := I.two (w : Int) (v : Int) (by omega) (by omega) (by omega) hv1
    rw [ferrymanlaw08_StatusRises_l9, Of_eq k ⟨s.l, s.last⟩ _ (by show s.l.length ≤ _; omega), el, wr (x := (v : Int) + 1) (by omega) (by omega)]
    simp only [hv1, decide_true, if_true, Option.bind_some]
    rw [eW] at this ⊢
    rw [eV]
    have hn : ¬ ((((wa s.l (w : Int)).ts == (wa s.l (v : Int)).ts) && ((wa s.l (w : Int)).ts != 0)) = true) := by
      simp only [Bool.and_eq_true, beq_iff_eq, bne_iff_ne, ne_eq, not_and, Classical.not_not]
      intro h; by_cases e : (wa s.l (w : Int)).ts = 0
      · exact e
      · exact absurd h (htw e)
    have hm : ¬ ((wa s.l (w : Int)).ts > s.last) := by omega
    simp only [hn, if_false, hm, decide_false, Option.bind_some, Bool.false_eq_true]
    exact this
theorem rises_l7 (s : status_Writers) (I : Inv s) (hs : s.l.length ≤ 900) : ∀ (j k w : Nat), w + j = s.l.length + 1 → 1 ≤ w → s.l.length + j + 2 < k →
    ferrymanlaw08_StatusRises_l7 s.l s.last k (w : Int) = some (.inr ()) := by
  intro j
  induction j with
  | zero =>
    intro k w h1 h0 h2
    obtain ⟨k, rfl⟩ : ∃ k', k = k' + 1 := ⟨k - 1, by omega⟩
    have : ¬ ((w : Int) < (s.l.length : Int) + 1) := by omega
    rw [ferrymanlaw08_StatusRises_l7, High_eq k ⟨s.l, s.last⟩ (by show s.l.length ≤ _; omega)]
    simp [this]
  | succ j ih =>
    intro k w h1 h0 h2
    obtain ⟨k, rfl⟩ : ∃ k', k = k' + 1 := ⟨k - 1, by omega⟩
    have hw1 : (w : Int) < (s.l.length : Int) + 1 := by omega
    have := ih k (w + 1) (by omega) (by omega) (by omega)
    rw [show ((w + 1 : Nat) : Int) = (w : Int) + 1 by omega] at this
    have h9 := rises_l9 s I hs w h0 (by omega) (w - 1) k 1 (by omega) (by omega) (by omega)
    rw [show ((1 : Nat) : Int) = 1 from rfl] at h9
    rw [ferrymanlaw08_StatusRises_l7, High_eq k ⟨s.l, s.last⟩ (by show s.l.length ≤ _; omega), Of_eq k ⟨s.l, s.last⟩ _ (by show s.l.length ≤ _; omega), wr (x := (w : Int) + 1) (by omega) (by omega)]
    simp only [hw1, decide_true, if_true, Option.bind_some, h9, Sum.elim_inr]
    exact this
theorem pure_StatusRises (a0 : (List ferrymanlaw08_Step)) (_ : (wfSl wf_ferrymanlaw08_Step) a0) : ∃ k, ferrymanlaw08_StatusRises k a0 = some true := by
  refine ⟨700, ?_⟩
  unfold ferrymanlaw08_StatusRises
  rw [works_at (by omega), Option.bind_some]
  by_cases h : a0.length ≤ 120
  · have h1 : ¬ ((a0.length : Int) > 120) := by omega
    simp only [h1, decide_false, Bool.not_true, Bool.or_self, Bool.false_eq_true, if_false]
    obtain ⟨s, I, hl, e0⟩ := rises_l2 a0 h a0.length 700 0 ⟨[], 0⟩ (by omega) (by simp; omega) inv_new (by simp; omega)
    have hl' : s.l.length ≤ 120 := by simp at hl; omega
    have hn : status_New 700 = some ⟨[], 0⟩ := rfl
    have e7 := rises_l7 s I (by omega) s.l.length 700 1 (by omega) (by omega) (by omega)
    rw [show ((1 : Nat) : Int) = 1 from rfl] at e7
    rw [hn, Option.bind_some]
    have e0' : ferrymanlaw08_StatusRises_l2 a0 700 0 [] 0 = some (.inr (s.l, s.last)) := e0
    simp only [e0', Option.bind_some, Sum.elim_inr, e7]
  · have h1 : ((!true) || (decide ((a0.length : Int) > (120 : Int)))) = true := by simp; omega
    rw [if_pos h1, Option.bind_some]
end Go.Proofs.YtbdelepfpnneoaaDoor
