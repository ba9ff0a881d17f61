/-  The plain law StatusBusy. -/
import Derived.Test.YtbdelepfpnneoaaDoorPureBase
import Derived.Test.YtbdelepfpnneoaaDoorGs1LStatusBusy
namespace Go.Proofs.YtbdelepfpnneoaaDoor
open Go Go.RowKit
set_option linter.unusedVariables false
set_option linter.unusedSimpArgs false
theorem st_at (l : List status_writer) (i : Nat) (h : i < l.length) : stOf l ((i : Int) + 1) = ((rd l (i : Int)).state, (rd l (i : Int)).ts) := by
  unfold stOf wa
  rw [if_pos (by omega), show (i : Int) + 1 - 1 = (i : Int) by omega]
theorem do_le' (x : ferrymanlaw08_Step) (s : status_Writers) : s.l.length ≤ (doF x s).2.2.l.length ∧ (doF x s).2.2.l.length ≤ s.l.length + 1 := by
  have := do_len x s
  split at this <;> omega
theorem busy_l8 (t : Int × Int × status_Writers) (B : Int) (hl : t.2.2.l.length ≤ 1000) (hB : B = (t.2.2.l.length : Int)) : ∀ (j k i : Nat) (acc : List Int) (n : Int), i + j = t.2.2.l.length → j < k → acc.length ≤ i → 0 ≤ n → n ≤ (i : Int) →
    ferrymanlaw08_StatusBusy_l8 B t k acc n ((i : Int) + 1) = some (acc ++ bz t.2.2.l i j, n + az t.2.2.l i j) := by
  intro j
  induction j with
  | zero =>
    intro k i acc n h1 h2 h3 h4 h5
    obtain ⟨k, rfl⟩ : ∃ k', k = k' + 1 := ⟨k - 1, by omega⟩
    have : ¬ ((i : Int) + 1 ≤ B) := by omega
    simp [ferrymanlaw08_StatusBusy_l8, this, bz, az]
  | succ j ih =>
    intro k i acc n h1 h2 h3 h4 h5
    obtain ⟨k, rfl⟩ : ∃ k', k = k' + 1 := ⟨k - 1, by omega⟩
    have hi1 : (i : Int) + 1 ≤ B := by omega
    have hi : ((i + 1 : Nat) : Int) = (i : Int) + 1 := by omega
    rw [ferrymanlaw08_StatusBusy_l8, Of_eq k _ _ hl, st_at _ i (by omega), wr (x := (i : Int) + 1 + 1) (by omega) (by omega), wr (x := n + 1) (by omega) (by omega)]
    simp only [hi1, decide_true, if_true, Option.bind_some]
    have h9 : acc.length + ([(i : Int) + 1] : List Int).length ≤ 17592186044416 := by simp; omega
    by_cases ha : ((rd t.2.2.l (i : Int)).state == 1) = true
    · have hb : isB (rd t.2.2.l (i : Int)) = true := by unfold isB; rw [ha]; rfl
      have hb' : (((rd t.2.2.l (i : Int)).state == 1) || ((rd t.2.2.l (i : Int)).state == 2)) = true := hb
      have := ih k (i + 1) (acc ++ [(i : Int) + 1]) (n + 1) (by omega) (by omega) (by simp; omega) (by omega) (by omega)
      rw [hi] at this
      simp only [ha, hb', if_true, Option.bind_some, h9, Bool.true_or]
      rw [this, bz, if_pos hb, az, if_pos ha]; simp only [Option.some.injEq, Prod.mk.injEq]; exact ⟨by simp, by omega⟩
    · have ha' : ((rd t.2.2.l (i : Int)).state == 1) = false := by simpa using ha
      by_cases hb2 : ((rd t.2.2.l (i : Int)).state == 2) = true
      · have hb : isB (rd t.2.2.l (i : Int)) = true := by unfold isB; rw [hb2]; simp
        have := ih k (i + 1) (acc ++ [(i : Int) + 1]) n (by omega) (by omega) (by simp; omega) (by omega) (by omega)
        rw [hi] at this
        simp only [ha', hb2, Bool.false_eq_true, if_false, if_true, Option.bind_some, h9, Bool.false_or]
        rw [this, bz, if_pos hb, az, if_neg ha]; simp only [Option.some.injEq, Prod.mk.injEq]; exact ⟨by simp, by omega⟩
      · have hb2' : ((rd t.2.2.l (i : Int)).state == 2) = false := by simpa using hb2
        have hb : ¬ isB (rd t.2.2.l (i : Int)) = true := by unfold isB; rw [ha', hb2']; simp
        have := ih k (i + 1) acc n (by omega) (by omega) (by omega) (by omega) (by omega)
        rw [hi] at this
        simp only [ha', hb2', Bool.false_eq_true, if_false, if_true, Option.bind_some, Bool.false_or]
        rw [this, bz, if_neg hb, az, if_neg ha]; simp only [Option.some.injEq, Prod.mk.injEq]; exact ⟨trivial, by omega⟩
theorem busy_l7 (t : Int × Int × status_Writers) (B : Int) (h0 : 0 ≤ B) (hb : B ≤ 1000) : ∀ (k : Nat) (acc : List Int) (n i : Int), ferrymanlaw08_StatusBusy_l7 B t k acc n i = ferrymanlaw08_StatusBusy_l8 (B + 1) t k acc n i := by
  intro k
  induction k with
  | zero => intro acc n i; rfl
  | succ k ih =>
    intro acc n i
    rw [ferrymanlaw08_StatusBusy_l7, ferrymanlaw08_StatusBusy_l8, wr (x := B + 1) (by omega) (by omega)]
    simp only [ih]
theorem busy_l4 (a : List ferrymanlaw08_Step) (ha : a.length ≤ 120) : ∀ (j k i : Nat) (s : status_Writers), i + j = a.length → s.l.length + 2 * j + 9 < k → Inv s → s.l.length + j ≤ 900 →
    ferrymanlaw08_StatusBusy_l4 a k (s.l.length : Int) (i : Int) s.l s.last = some (.inr ()) := by
  intro j
  induction j with
  | zero =>
    intro k i s h1 h2 I h3
    obtain ⟨k, rfl⟩ : ∃ k', k = k' + 1 := ⟨k - 1, by omega⟩
    have : ¬ ((i : Int) < (a.length : Int)) := by omega
    simp [ferrymanlaw08_StatusBusy_l4, this]
  | succ j ih =>
    intro k i s h1 h2 I h3
    obtain ⟨k, rfl⟩ : ∃ k', k = k' + 1 := ⟨k - 1, by omega⟩
    have hi1 : (i : Int) < (a.length : Int) := by omega
    have hi0 : (0 : Int) ≤ (i : Int) := by omega
    have hd := do_le' (rd a (i : Int)) s
    have hn := do_len (rd a (i : Int)) s
    have hv := ih k (i + 1) (doF (rd a (i : Int)) s).2.2 (by omega) (by omega) (inv_do I) (by omega)
    rw [show ((i + 1 : Nat) : Int) = (i : Int) + 1 by omega] at hv
    rw [ferrymanlaw08_StatusBusy_l4, High_eq k ⟨s.l, s.last⟩ (by show s.l.length ≤ _; omega), do_eq k _ ⟨s.l, s.last⟩ (by show s.l.length ≤ _; omega) ⟨I.last0, I.lastM⟩, wr (x := (i : Int) + 1) (by omega) (by omega), wr (x := (s.l.length : Int) + 1) (by omega) (by omega), wr (x := (s.l.length : Int) + 1 + 1) (by omega) (by omega)]
    simp only [hi1, hi0, decide_true, and_self, if_true, Option.bind_some]
    have hs : (⟨s.l, s.last⟩ : status_Writers) = s := rfl
    rw [hs]
    have hf0 : (rd a (i : Int)).What = 0 → (doF (rd a (i : Int)) s).1 = (s.l.length : Int) + 1 := by intro h; unfold doF; rw [if_pos h]; rfl
    generalize hD : doF (rd a (i : Int)) s = D at hv hd hn hf0 ⊢
    have eb := Busy_eq k D.2.2 (by omega) (by omega)
    have ea := Active_eq k D.2.2 (by omega) (by omega)
    have eh := High_eq k D.2.2 (by omega)
    have hz := bz_len D.2.2.l D.2.2.l.length 0
    have ei := Ints_self k (bz D.2.2.l 0 D.2.2.l.length) (by omega) (by omega)
    have h8 := busy_l8 D (D.2.2.l.length : Int) (by omega) rfl D.2.2.l.length k 0 [] 0 (by omega) (by omega) (by simp) (by omega) (by omega)
    rw [show ((0 : Nat) : Int) + 1 = 1 from rfl, List.nil_append, Int.zero_add] at h8
    by_cases h0 : (rd a (i : Int)).What = 0
    · rw [if_pos h0] at hn
      have hl : (s.l.length : Int) + 1 = (D.2.2.l.length : Int) := by omega
      have h7 := busy_l7 D (s.l.length : Int) (by omega) (by omega) k [] 0 1
      rw [hl, h8] at h7
      simp only [h0, beq_self_eq_true, if_true, hf0 h0, bne_self_eq_false, Bool.or_self, Bool.false_eq_true, if_false, h7, Option.bind_some, eb, ei, Bool.not_true, ea, eh, hl]
      exact hv
    · rw [if_neg h0] at hn
      have h0' : ((rd a (i : Int)).What == 0) = false := by simpa using h0
      have hl : (s.l.length : Int) = (D.2.2.l.length : Int) := by omega
      rw [← hl] at h8 eh hv
      simp only [h0', Bool.false_eq_true, if_false, h8, Option.bind_some, eb, ei, Bool.not_true, ea, eh, bne_self_eq_false]
      exact hv
theorem pure_StatusBusy (a0 : (List ferrymanlaw08_Step)) (_ : (wfSl wf_ferrymanlaw08_Step) a0) : ∃ k, ferrymanlaw08_StatusBusy k a0 = some true := by
  refine ⟨700, ?_⟩
  unfold ferrymanlaw08_StatusBusy
  rw [works_at (by omega), Option.bind_some]
  by_cases h : a0.length ≤ 120
  · have h1 : ¬ ((a0.length : Int) > 120) := by omega
    simp only [h1, decide_false, Bool.not_true, Bool.or_self, Bool.false_eq_true, if_false]
    have e0 := busy_l4 a0 h a0.length 700 0 ⟨[], 0⟩ (by omega) (by simp; omega) inv_new (by simp; omega)
    have hn : status_New 700 = some ⟨[], 0⟩ := rfl
    rw [hn, Option.bind_some]
    have e0' : ferrymanlaw08_StatusBusy_l4 a0 700 0 0 [] 0 = some (.inr ()) := e0
    simp only [e0', Option.bind_some, Sum.elim_inr]
  · have h1 : ((!true) || (decide ((a0.length : Int) > (120 : Int)))) = true := by simp; omega
    rw [if_pos h1, Option.bind_some]
end Go.Proofs.YtbdelepfpnneoaaDoor
