/-  The plain law StatusOthers. -/
import Derived.Test.YtbdelepfpnneoaaDoorPureBase
import Derived.Test.YtbdelepfpnneoaaDoorGs1LStatusOthers
namespace Go.Proofs.YtbdelepfpnneoaaDoor
open Go Go.RowKit
set_option linter.unusedVariables false
set_option linter.unusedSimpArgs false
theorem is_eq (k : Nat) (s : status_Writers) (w a b : Int) (hl : s.l.length ≤ 1000) : ferrymanlaw08_is_PO k s w a b = some ((IntKind.i64.wrap (stOf s.l w).1 == a) && ((stOf s.l w).2 == b)) := by
  unfold ferrymanlaw08_is_PO; rw [Of_eq k s w hl]; rfl
theorem st_set {l : List status_writer} {w v : Int} {x : status_writer} (h1 : 1 ≤ w) (h2 : w ≤ (l.length : Int)) (hv : v ≠ w) : stOf (l.set (w - 1).toNat x) v = stOf l v := by
  unfold stOf; rw [List.length_set]
  split
  · next h => rw [wa_set h1 h2 h.1, if_neg hv]
  · rfl
theorem do_frame {x : ferrymanlaw08_Step} {s : status_Writers} {w : Int} (h1 : 1 ≤ w) (h2 : w ≤ (s.l.length : Int)) (hw : w ≠ x.W) : stOf (doF x s).2.2.l w = stOf s.l w := by
  have hc : ∀ ts, stOf (commitF s x.W ts).2.l w = stOf s.l w := by
    intro ts
    unfold commitF; split
    · next h =>
      split
      · rfl
      · exact st_set (may_in h).1.1 (may_in h).1.2 hw
    · rfl
  have ht : ∀ is, stOf (turnF s x.W is).2.l w = stOf s.l w := by
    intro is
    unfold turnF; split
    · next h => exact st_set (may_in h).1.1 (may_in h).1.2 hw
    · rfl
  unfold doF
  split
  · unfold beginF stOf
    rw [if_pos ⟨h1, by simp; omega⟩, if_pos ⟨h1, h2⟩, wa_app h1 (by omega), if_pos h2]
  · split
    · exact hc _
    · split
      · exact ht _
      · split
        · exact ht _
        · exact hc _
def runF (a : List ferrymanlaw08_Step) : Nat → Nat → status_Writers → status_Writers
  | _, 0, s => s
  | i, j + 1, s => runF a (i + 1) j (doF (rd a (i : Int)) s).2.2
theorem runF_inv (a : List ferrymanlaw08_Step) : ∀ j i s, Inv s → Inv (runF a i j s) ∧ (runF a i j s).l.length ≤ s.l.length + j := by
  intro j
  induction j with
  | zero => intro i s I; exact ⟨I, Nat.le_refl _⟩
  | succ j ih =>
    intro i s I
    obtain ⟨h1, h2⟩ := ih (i + 1) (doF (rd a (i : Int)) s).2.2 (inv_do I)
    refine ⟨h1, ?_⟩
    have := do_len (rd a (i : Int)) s
    show (runF a (i + 1) j _).l.length ≤ _
    split at this <;> omega
theorem do_le (x : ferrymanlaw08_Step) (s : status_Writers) : s.l.length ≤ (doF x s).2.2.l.length ∧ (doF x s).2.2.l.length ≤ s.l.length + 1 := by
  have := do_len x s
  split at this <;> omega
theorem others_l0 (a : List ferrymanlaw08_Step) (ha : a.length ≤ 120) : ∀ (j k i : Nat) (s : status_Writers), i + j = a.length → j < k → Inv s → s.l.length + j ≤ 1000 →
    ferrymanlaw08_StatusOthers_l0 a k (i : Int) s.l s.last = some ((runF a i j s).l, (runF a i j s).last) := by
  intro j
  induction j with
  | zero =>
    intro k i s h1 h2 I h3
    obtain ⟨k, rfl⟩ : ∃ k', k = k' + 1 := ⟨k - 1, by omega⟩
    have : ¬ ((i : Int) < (a.length : Int)) := by omega
    simp [ferrymanlaw08_StatusOthers_l0, this, runF]
  | succ j ih =>
    intro k i s h1 h2 I h3
    obtain ⟨k, rfl⟩ : ∃ k', k = k' + 1 := ⟨k - 1, by omega⟩
    have hi1 : (i : Int) < (a.length : Int) := by omega
    have hi0 : (0 : Int) ≤ (i : Int) := by omega
    have := ih k (i + 1) (doF (rd a (i : Int)) s).2.2 (by omega) (by omega) (inv_do I) (by have := do_le (rd a (i : Int)) s; omega)
    rw [show ((i + 1 : Nat) : Int) = (i : Int) + 1 by omega] at this
    rw [ferrymanlaw08_StatusOthers_l0, do_eq k _ ⟨s.l, s.last⟩ (by show s.l.length ≤ _; omega) ⟨I.last0, I.lastM⟩, wr (x := (i : Int) + 1) (by omega) (by omega)]
    simp only [hi1, hi0, decide_true, and_self, if_true, Option.bind_some]
    exact this
theorem others_l7 (a : List ferrymanlaw08_Step) (ha : a.length ≤ 120) : ∀ (j k i : Nat) (s : status_Writers), i + j = a.length → j < k → Inv s → s.l.length + j ≤ 1000 →
    ferrymanlaw08_StatusOthers_l7 a k (i : Int) s.l s.last = some ((runF a i j s).l, (runF a i j s).last) := by
  intro j
  induction j with
  | zero =>
    intro k i s h1 h2 I h3
    obtain ⟨k, rfl⟩ : ∃ k', k = k' + 1 := ⟨k - 1, by omega⟩
    have : ¬ ((i : Int) < (a.length : Int)) := by omega
    simp [ferrymanlaw08_StatusOthers_l7, this, runF]
  | succ j ih =>
    intro k i s h1 h2 I h3
    obtain ⟨k, rfl⟩ : ∃ k', k = k' + 1 := ⟨k - 1, by omega⟩
    have hi1 : (i : Int) < (a.length : Int) := by omega
    have hi0 : (0 : Int) ≤ (i : Int) := by omega
    have := ih k (i + 1) (doF (rd a (i : Int)) s).2.2 (by omega) (by omega) (inv_do I) (by have := do_le (rd a (i : Int)) s; omega)
    rw [show ((i + 1 : Nat) : Int) = (i : Int) + 1 by omega] at this
    rw [ferrymanlaw08_StatusOthers_l7, do_eq k _ ⟨s.l, s.last⟩ (by show s.l.length ≤ _; omega) ⟨I.last0, I.lastM⟩, wr (x := (i : Int) + 1) (by omega) (by omega)]
    simp only [hi1, hi0, decide_true, and_self, if_true, Option.bind_some]
    exact this
theorem others_l5 (a : List ferrymanlaw08_Step) (i : Nat) (hi : i < a.length) (s : status_Writers) (hs : s.l.length ≤ 900) : ∀ (j k w : Nat), w + j = s.l.length + 1 → 1 ≤ w → j < k →
    ferrymanlaw08_StatusOthers_l5 a (i : Int) s (doF (rd a (i : Int)) s) k (w : Int) = some (.inr ()) := by
  intro j
  induction j with
  | zero =>
    intro k w h1 h0 h2
    obtain ⟨k, rfl⟩ : ∃ k', k = k' + 1 := ⟨k - 1, by omega⟩
    have : ¬ ((w : Int) < (s.l.length : Int) + 1) := by omega
    simp [ferrymanlaw08_StatusOthers_l5, this, High_eq k s (by omega)]
  | succ j ih =>
    intro k w h1 h0 h2
    obtain ⟨k, rfl⟩ : ∃ k', k = k' + 1 := ⟨k - 1, by omega⟩
    have hw1 : (w : Int) < (s.l.length : Int) + 1 := by omega
    have hi1 : (i : Int) < (a.length : Int) := by omega
    have hi0 : (0 : Int) ≤ (i : Int) := by omega
    have := ih k (w + 1) (by omega) (by omega) (by omega)
    rw [show ((w + 1 : Nat) : Int) = (w : Int) + 1 by omega] at this
    rw [ferrymanlaw08_StatusOthers_l5, High_eq k s (by omega), Of_eq k s _ (by omega), wr (x := (w : Int) + 1) (by omega) (by omega)]
    simp only [hw1, hi1, hi0, decide_true, and_self, if_true, Option.bind_some]
    by_cases e : (w : Int) = (rd a (i : Int)).W
    · have e' : ((w : Int) != (rd a (i : Int)).W) = false := by simp [e]
      simp only [e', Bool.false_eq_true, if_false, Option.bind_some]
      exact this
    · have e' : ((w : Int) != (rd a (i : Int)).W) = true := by simp [e]
      have hf := do_frame (x := rd a (i : Int)) (s := s) (w := (w : Int)) (by omega) (by omega) e
      simp only [e', if_true]
      rw [is_eq k _ _ _ _ (by have := do_le (rd a (i : Int)) s; omega)]
      simp only [Option.bind_some, hf, beq_self_eq_true, Bool.and_self, Bool.not_true, Bool.false_eq_true, if_false]
      exact this
theorem others_l3 (a : List ferrymanlaw08_Step) (ha : a.length ≤ 120) : ∀ (j k i : Nat) (s : status_Writers), i + j = a.length → s.l.length + 2 * j + 5 < k → Inv s → s.l.length + j ≤ 900 →
    ferrymanlaw08_StatusOthers_l3 a k (i : Int) s.l s.last = some (.inr ((runF a i j s).l, (runF a i j s).last)) := by
  intro j
  induction j with
  | zero =>
    intro k i s h1 h2 I h3
    obtain ⟨k, rfl⟩ : ∃ k', k = k' + 1 := ⟨k - 1, by omega⟩
    have : ¬ ((i : Int) < (a.length : Int)) := by omega
    simp [ferrymanlaw08_StatusOthers_l3, this, runF]
  | succ j ih =>
    intro k i s h1 h2 I h3
    obtain ⟨k, rfl⟩ : ∃ k', k = k' + 1 := ⟨k - 1, by omega⟩
    have hi1 : (i : Int) < (a.length : Int) := by omega
    have hi0 : (0 : Int) ≤ (i : Int) := by omega
    have hd := do_le (rd a (i : Int)) s
    have := ih k (i + 1) (doF (rd a (i : Int)) s).2.2 (by omega) (by omega) (inv_do I) (by omega)
    rw [show ((i + 1 : Nat) : Int) = (i : Int) + 1 by omega] at this
    have h5 := others_l5 a i (by omega) s (by omega) s.l.length k 1 (by omega) (by omega) (by omega)
    rw [show ((1 : Nat) : Int) = 1 from rfl] at h5
    rw [ferrymanlaw08_StatusOthers_l3, Copy_eq k ⟨s.l, s.last⟩ (by show s.l.length ≤ _; omega), do_eq k _ ⟨s.l, s.last⟩ (by show s.l.length ≤ _; omega) ⟨I.last0, I.lastM⟩, wr (x := (i : Int) + 1) (by omega) (by omega)]
    simp only [hi1, hi0, decide_true, and_self, if_true, Option.bind_some]
    rw [h5]; exact this
theorem others_l6 (s : status_Writers) (hs : s.l.length ≤ 900) : ∀ (j k w : Nat), w + j = s.l.length + 2 → j < k →
    ferrymanlaw08_StatusOthers_l6 s.l s.last s k (w : Int) = some (.inr ()) := by
  intro j
  induction j with
  | zero =>
    intro k w h1 h2
    obtain ⟨k, rfl⟩ : ∃ k', k = k' + 1 := ⟨k - 1, by omega⟩
    have : ¬ ((w : Int) ≤ (s.l.length : Int) + 1) := by omega
    rw [ferrymanlaw08_StatusOthers_l6, High_eq k ⟨s.l, s.last⟩ (by show s.l.length ≤ _; omega)]
    simp [this]
  | succ j ih =>
    intro k w h1 h2
    obtain ⟨k, rfl⟩ : ∃ k', k = k' + 1 := ⟨k - 1, by omega⟩
    have hw1 : (w : Int) ≤ (s.l.length : Int) + 1 := by omega
    have := ih k (w + 1) (by omega) (by omega)
    rw [show ((w + 1 : Nat) : Int) = (w : Int) + 1 by omega] at this
    rw [ferrymanlaw08_StatusOthers_l6, High_eq k ⟨s.l, s.last⟩ (by show s.l.length ≤ _; omega), Of_eq k s _ (by omega)]
    simp only [hw1, decide_true, if_true, Option.bind_some]
    rw [is_eq k ⟨s.l, s.last⟩ _ _ _ (by show s.l.length ≤ _; omega), wr (x := (w : Int) + 1) (by omega) (by omega)]
    simp only [beq_self_eq_true, Bool.and_self, Option.bind_some, Bool.not_true, Bool.false_eq_true, if_false]
    exact this
theorem pure_StatusOthers (a0 : (List ferrymanlaw08_Step)) (a1 : (List ferrymanlaw08_Step)) (_ : (wfSl wf_ferrymanlaw08_Step) a0) (_ : (wfSl wf_ferrymanlaw08_Step) a1) : ∃ k, ferrymanlaw08_StatusOthers k a0 a1 = some true := by
  refine ⟨700, ?_⟩
  unfold ferrymanlaw08_StatusOthers
  rw [works_at (by omega), Option.bind_some]
  by_cases h : a0.length ≤ 60 ∧ a1.length ≤ 60
  · have h1 : ¬ ((a0.length : Int) > 60) := by omega
    have h2 : ¬ ((a1.length : Int) > 60) := by omega
    simp only [h1, h2, decide_false, Bool.not_true, Bool.or_self, Bool.false_eq_true, if_false]
    have e0 := others_l0 a0 (by omega) a0.length 700 0 ⟨[], 0⟩ (by omega) (by omega) inv_new (by simp; omega)
    rw [show ((0 : Nat) : Int) = 0 from rfl] at e0
    obtain ⟨I1, L1⟩ := runF_inv a0 a0.length 0 ⟨[], 0⟩ inv_new
    generalize runF a0 0 a0.length ⟨[], 0⟩ = s at e0 I1 L1
    have L1' : s.l.length ≤ 60 := by simp at L1; omega
    have e3 := others_l3 a1 (by omega) a1.length 700 0 s (by omega) (by omega) I1 (by omega)
    have e7 := others_l7 a1 (by omega) a1.length 700 0 s (by omega) (by omega) I1 (by omega)
    have e6 := others_l6 s (by omega) (s.l.length + 2) 700 0 (by omega) (by omega)
    rw [show ((0 : Nat) : Int) = 0 from rfl] at e3 e7 e6
    obtain ⟨I2, L2⟩ := runF_inv a1 a1.length 0 s I1
    generalize runF a1 0 a1.length s = c at e3 e7 I2 L2
    have hn : status_New 700 = some ⟨[], 0⟩ := rfl
    have ec := Copy_eq 700 ⟨s.l, s.last⟩ (by show s.l.length ≤ _; omega)
    have eb := Busy_eq 700 ⟨c.l, c.last⟩ (by show c.l.length ≤ _; omega) (by show c.l.length + 4 ≤ _; omega)
    have eh := High_eq 700 ⟨c.l, c.last⟩ (by show c.l.length ≤ _; omega)
    have el : status_Writers_Last_PO 700 ⟨c.l, c.last⟩ = some c.last := rfl
    have ei := Ints_self 700 (bz c.l 0 c.l.length) (by have := bz_len c.l c.l.length 0; omega) (by have := bz_len c.l c.l.length 0; omega)
    rw [hn, Option.bind_some]
    simp only [e0, Option.bind_some, ec, e3, Sum.elim_inr, e6, e7, eb, ei, eh, el, if_true, beq_self_eq_true]
  · have h1 : (((!true) || (decide ((a0.length : Int) > (60 : Int)))) || (decide ((a1.length : Int) > (60 : Int)))) = true := by simp; omega
    rw [if_pos h1, Option.bind_some]
end Go.Proofs.YtbdelepfpnneoaaDoor
