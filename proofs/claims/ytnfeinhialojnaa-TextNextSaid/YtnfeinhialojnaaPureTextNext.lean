/-  The plain law TextNext. -/
import Derived.Test.YtnfeinhialojnaaPureBase
import Derived.Test.YtnfeinhialojnaaGt1LTextNext
namespace Go.Proofs.Ytnfeinhialojnaa
open Go Go.RowKit
set_option linter.unusedVariables false
set_option linter.unusedSimpArgs false
theorem cmp_next (a : Str) : cmp a (a ++ [0]) = -1 := by
  have := cmp_app a [] [0]
  rw [List.append_nil] at this
  rw [this]; rfl
theorem cmp_next2 : ∀ a b : Str, cmp (a ++ [0]) (b ++ [0]) = cmp a b
  | [], [] => rfl
  | [], y :: b => by
    simp only [List.nil_append, List.cons_append, cmp, Lib.compareBytes, UInt8.lt_iff_toNat_lt]
    by_cases h : (0 : UInt8).toNat < y.toNat
    · simp only [h, if_true]
    · have h' : ¬ y.toNat < (0 : UInt8).toNat := by simp
      simp only [h, h', if_false]
      cases b <;> rfl
  | x :: a, [] => by
    simp only [List.nil_append, List.cons_append, cmp, Lib.compareBytes, UInt8.lt_iff_toNat_lt]
    by_cases h : (0 : UInt8).toNat < x.toNat
    · have h' : ¬ x.toNat < (0 : UInt8).toNat := by simp
      simp only [h, h', if_true, if_false]
    · have h' : ¬ x.toNat < (0 : UInt8).toNat := by simp
      simp only [h, h', if_false]
      cases a <;> rfl
  | x :: a, y :: b => by
    have ih := cmp_next2 a b
    simp only [List.cons_append, cmp, Lib.compareBytes] at ih ⊢
    rw [ih]
theorem cmp_next3 : ∀ a b : Str, cmp a b < 0 → cmp (a ++ [0]) b ≤ 0
  | [], [] => by simp [cmp, Lib.compareBytes]
  | [], y :: b => fun _ => by
    simp only [List.nil_append, cmp, Lib.compareBytes, UInt8.lt_iff_toNat_lt]
    by_cases h : (0 : UInt8).toNat < y.toNat
    · simp only [h, if_true]; decide
    · have h' : ¬ y.toNat < (0 : UInt8).toNat := by simp
      simp only [h, h', if_false]
      cases b <;> simp [Lib.compareBytes]
  | x :: a, [] => by simp [cmp, Lib.compareBytes]
  | x :: a, y :: b => by
    have ih := cmp_next3 a b
    simp only [List.cons_append, cmp, Lib.compareBytes] at ih ⊢
    split
    · intro _; decide
    · split
      · intro h; exact absurd h (by decide)
      · exact ih
theorem pure_TextNext (a0 : Str) (a1 : Str) (_ : wfStr a0) (_ : wfStr a1) : ∃ k, ferrymanlaw02_TextNext k a0 a1 = some true := by
  obtain ⟨k, hk⟩ : ∃ k, k = 20000 := ⟨_, rfl⟩
  refine ⟨k, ?_⟩
  have hw := works_def k (by omega)
  unfold ferrymanlaw02_TextNext
  rw [long_def k [a0, a1] (by simp) (by simp; omega)]
  by_cases h : sumMin [a0, a1] ≥ 9000
  · simp only [h, decide_true, Option.bind_some, if_true, hw, Bool.not_true, Bool.false_eq_true, if_false]
  · have hm := sumMin_mem [a0, a1] (by omega)
    have h0 := hm a0 (by simp)
    have h1 := hm a1 (by simp)
    have h3 := cmp_next3 a0 a1
    simp only [h, decide_false, Option.bind_some, Bool.false_eq_true, if_false, hw, Bool.not_true, Compare_def, Next_def k a0 (by omega), Next_def k a1 (by omega), cmp_next, cmp_next2, bne_self_eq_false]
    by_cases h4 : cmp a0 a1 ≥ 0
    · simp only [h4, decide_true, if_true, Option.bind_some]
    · have h5 := h3 (by omega)
      simp only [h4, decide_false, Bool.false_eq_true, if_false, Option.bind_some, h5, decide_true]
end Go.Proofs.Ytnfeinhialojnaa
