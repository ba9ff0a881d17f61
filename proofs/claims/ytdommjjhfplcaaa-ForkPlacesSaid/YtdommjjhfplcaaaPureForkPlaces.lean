/-  The plain law ForkPlaces. -/
import Derived.Test.YtdommjjhfplcaaaPureOps
import Derived.Test.YtdommjjhfplcaaaGf1LForkPlaces
namespace Go.Proofs.Ytdommjjhfplcaaa
open Go Go.RowKit
set_option linter.unusedVariables false
set_option linter.unusedSimpArgs false
theorem sb_gtr (a b : Str) : sbin .gtr a b = !decide (cmp a b ≤ 0) := congrArg not (sb_leq a b)
theorem wf_lens {n : fork_Node} (h : wf_fork_Node n) : n.Keys.length ≤ 9223372036854775807 ∧ n.Kids.length ≤ 9223372036854775807 ∧ n.Rows.length ≤ 9223372036854775807 := by
  have e : maxLen = 9223372036854775807 := by decide
  obtain ⟨_, h1, h2, h3⟩ := h
  rw [← e]
  exact ⟨h1.1, h2.1, h3.1⟩
theorem places_l0 (n : fork_Node) (key : Str) (h : Ok n) : ∀ (j k i : Nat), i + j = n.Keys.length → j < k → ferrymanlaw13_ForkPlaces_l0 n key ((lo n.Keys key : Int), has n.Keys key) k (i : Int) = some (.inr ()) := by
  have hk := h.keys
  intro j
  induction j with
  | zero =>
    intro k i h1 h2
    obtain ⟨k, rfl⟩ : ∃ k', k = k' + 1 := ⟨k - 1, by omega⟩
    have : ¬ ((i : Int) < (n.Keys.length : Int)) := by omega
    rw [ferrymanlaw13_ForkPlaces_l0.eq_2]
    simp only [this, decide_false, Bool.false_eq_true, if_false]
  | succ j ih =>
    intro k i h1 h2
    obtain ⟨k, rfl⟩ : ∃ k', k = k' + 1 := ⟨k - 1, by omega⟩
    have hi : i < n.Keys.length := by omega
    have hi1 : (i : Int) < (n.Keys.length : Int) := by omega
    have hi0 : (0 : Int) ≤ (i : Int) := by omega
    have ih' := ih k (i + 1) (by omega) (by omega)
    rw [show ((i + 1 : Nat) : Int) = (i : Int) + 1 by omega] at ih'
    have e1 : decide (cmp n.Keys[i] key < 0) = decide ((i : Int) < (lo n.Keys key : Int)) := by
      have := lo_iff h.sorted key hi
      simp only [this, Int.ofNat_lt]
    have e2 : decide (n.Keys[i] = key) = (has n.Keys key && ((i : Int) == (lo n.Keys key : Int))) := by
      rw [has_iff h.sorted (List.getElem?_eq_getElem hi)]
      congr 1
      by_cases e : i = lo n.Keys key
      · rw [decide_eq_true e, ← e]; simp
      · rw [decide_eq_false e]; symm; exact beq_false_of_ne (by omega)
    rw [ferrymanlaw13_ForkPlaces_l0.eq_2, wr (x := (i : Int) + 1) (by omega) (by omega)]
    simp only [hi1, hi0, decide_true, and_self, if_true, rdN hi, sb_lss, sb_eql, e1, e2, BEq.rfl, Bool.not_true, Bool.false_eq_true, if_false, Option.bind_some, ih']
theorem Ok.fence {n : fork_Node} (h : Ok n) (hl : n.Leaf = false) (u k : Nat) (hk : 4000 < k) : fork_Fence k n (u : Int) = some (if hu : u < n.Keys.length then (n.Keys[u], true) else ([], false)) := by
  simp only [fork_Fence, hl, h.mayEq k hk, Option.bind_some, Bool.not_true, Bool.false_eq_true, if_false, Bool.false_or]
  have h0 : ¬ (u : Int) < 0 := by omega
  by_cases hu : u < n.Keys.length
  · have h1 : ¬ (u : Int) ≥ (n.Keys.length : Int) := by omega
    have h2 : 0 ≤ (u : Int) ∧ (u : Int) < (n.Keys.length : Int) := by omega
    simp only [h0, h1, decide_false, Bool.or_self, Bool.false_eq_true, if_false, h2, and_self, if_true, rdN hu, hu, dite_true]
  · have h1 : (u : Int) ≥ (n.Keys.length : Int) := by omega
    simp only [h1, decide_true, Bool.or_true, if_true, hu, dite_false]
theorem pure_ForkPlaces (a0 : fork_Node) (a1 : Str) (hw0 : wf_fork_Node a0) (_ : wfStr a1) : ∃ k, ferrymanlaw13_ForkPlaces k a0 a1 = some true := by
  obtain ⟨k, hk⟩ : ∃ k, k = a0.Keys.length + 20000 := ⟨_, rfl⟩
  refine ⟨k, ?_⟩
  obtain ⟨l1, l2, l3⟩ := wf_lens hw0
  have P := fun X hX => prolog a0 l1 l2 l3 k (by omega) (by omega) a1 false X hX
  simp only [Bool.or_false] at P
  refine P _ (fun h h3 _ => ?_)
  have hkk : 4000 < k := by omega
  have hlo := lo_le a0.Keys a1
  have hl0 := places_l0 a0 a1 h a0.Keys.length k 0 (by omega) (by omega)
  rw [show ((0 : Nat) : Int) = 0 from rfl] at hl0
  have f1 : ¬ (lo a0.Keys a1 : Int) < 0 := by omega
  have f2 : ¬ (lo a0.Keys a1 : Int) > (a0.Keys.length : Int) := by omega
  simp only [h.place a1 k hkk, Option.bind_some, f1, f2, decide_false, Bool.or_self, Bool.false_eq_true, if_false, hl0, Sum.elim_inr]
  cases hl : a0.Leaf
  · have hi := h.inner hl
    have hup := up_le a0.Keys a1
    have g1 : ¬ (up a0.Keys a1 : Int) < 0 := by omega
    have g2 : ¬ (up a0.Keys a1 : Int) ≥ (a0.Kids.length : Int) := by omega
    simp only [Bool.false_eq_true, if_false, h.kid hl a1 k hkk, Option.bind_some, g1, g2, decide_false, Bool.or_self]
    have first : (if decide ((up a0.Keys a1 : Int) > 0) = true then (if 0 ≤ IntKind.i64.wrap ((up a0.Keys a1 : Int) - 1) ∧ IntKind.i64.wrap ((up a0.Keys a1 : Int) - 1) < (a0.Keys.length : Int) then some (sbin .gtr (rd a0.Keys (IntKind.i64.wrap ((up a0.Keys a1 : Int) - 1))) a1) else none) else some false) = some false := by
      by_cases hu : (up a0.Keys a1 : Int) > 0
      · have hw : IntKind.i64.wrap ((up a0.Keys a1 : Int) - 1) = ((up a0.Keys a1 - 1 : Nat) : Int) := by rw [wr (by omega) (by omega)]; omega
        have hlt : up a0.Keys a1 - 1 < a0.Keys.length := by omega
        have hc := (up_iff h.sorted a1 hlt).2 (by omega)
        simp only [hu, decide_true, if_true, hw]
        rw [if_pos (by omega), rdN hlt, sb_gtr, decide_eq_true hc]; rfl
      · simp only [hu, decide_false, Bool.false_eq_true, if_false]
    simp only [first, Option.bind_some, Bool.false_eq_true, if_false, h.fence hl (up a0.Keys a1) k hkk]
    by_cases hu : up a0.Keys a1 < a0.Keys.length
    · have hu1 : (up a0.Keys a1 : Int) < (a0.Keys.length : Int) := by omega
      have hu2 : 0 ≤ (up a0.Keys a1 : Int) := by omega
      have hc : cmp a1 a0.Keys[up a0.Keys a1] < 0 := by
        have h4 : ¬ cmp a0.Keys[up a0.Keys a1] a1 ≤ 0 := fun h5 => by have := (up_iff h.sorted a1 hu).1 h5; omega
        have := cmp_symm a0.Keys[up a0.Keys a1] a1; omega
      simp only [hu, dite_true, hu1, decide_true, BEq.rfl, if_true, Bool.not_true, Bool.false_eq_true, if_false, hu2, and_self, rdN hu, sb_eql, sb_lss, hc, Bool.and_self, Option.bind_some]
    · have hu1 : ¬ (up a0.Keys a1 : Int) < (a0.Keys.length : Int) := by omega
      simp only [hu, dite_false, hu1, decide_false, BEq.rfl, if_true, Bool.not_false, Option.bind_some]
  · simp only [if_true]
end Go.Proofs.Ytdommjjhfplcaaa
