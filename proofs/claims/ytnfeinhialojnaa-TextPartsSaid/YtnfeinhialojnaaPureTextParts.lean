/-  The plain law TextParts. -/
import Derived.Test.YtnfeinhialojnaaPureBase
import Derived.Test.YtnfeinhialojnaaGt1LTextParts
namespace Go.Proofs.Ytnfeinhialojnaa
open Go Go.RowKit
set_option linter.unusedVariables false
set_option linter.unusedSimpArgs false
theorem pure_TextParts (a0 : Str) (a1 : Str) (a2 : Str) (a3 : Str) (_ : wfStr a0) (_ : wfStr a1) (_ : wfStr a2) (_ : wfStr a3) : ∃ k, ferrymanlaw02_TextParts k a0 a1 a2 a3 = some true := by
  obtain ⟨k, hk⟩ : ∃ k, k = 20000 := ⟨_, rfl⟩
  refine ⟨k, ?_⟩
  have hw := works_def k (by omega)
  unfold ferrymanlaw02_TextParts
  rw [long_def k [a0, a1] (by simp) (by simp; omega), long_def k [a2, a3] (by simp) (by simp; omega)]
  simp only [hw, Bool.not_true, Bool.false_eq_true, if_false, Option.bind_some, Compare_def, Within_def, sb_eql, sb_neq]
  by_cases h1 : sumMin [a0, a1] ≥ 9000
  · simp only [h1, decide_true, if_true, Option.bind_some, Bool.true_or]
  by_cases h2 : sumMin [a2, a3] ≥ 9000
  · simp only [h1, h2, decide_true, decide_false, if_true, if_false, Bool.false_eq_true, Option.bind_some, Bool.true_or]
  by_cases h3 : a2 = []
  · simp only [h1, h2, h3, decide_true, decide_false, if_true, if_false, Bool.false_eq_true, Option.bind_some, Bool.or_true]
  by_cases h4 : cmp a1 a2 > 0
  · simp only [h1, h2, h3, h4, decide_true, decide_false, if_true, if_false, Bool.false_eq_true, Option.bind_some, Bool.or_false, Bool.or_self]
  have nilc : cmp [] a0 ≤ 0 := by cases a0 <;> simp [cmp, Lib.compareBytes]
  have t1 := cmp_trans a1 a2 a0
  have t2 := cmp_trans a2 a0 a3
  have t4 := cmp_trans a0 a2 a3
  have t3 := cmp_trans a2 a3 a0
  have s1 := cmp_symm a0 a2
  have s2 := cmp_symm a0 a3
  have s3 := cmp_symm a2 a3
  have r1 := cmp_range a1 a2
  have r2 := cmp_range a1 a0
  have r3 := cmp_range a0 a2
  have r4 := cmp_range a0 a3
  have r5 := cmp_range a2 a3
  rw [s1] at t1 t2 t3
  rw [s2] at t3
  by_cases h5 : a3 = []
  · subst h5
    simp only [h1, h2, h3, h4, decide_true, decide_false, if_true, if_false, Bool.false_eq_true, Option.bind_some, Bool.or_false, Bool.or_self, Bool.not_true, within, s1, nilc, Bool.true_or, Bool.and_true, Bool.false_or, Bool.true_and]
    clear t2 t3 t4 s2 s3 r4 r5 s1
    generalize cmp a1 a2 = x at *
    generalize cmp a1 a0 = y at *
    generalize cmp a0 a2 = z at *
    rcases r1 with rfl | rfl | rfl <;> rcases r2 with rfl | rfl | rfl <;> rcases r3 with rfl | rfl | rfl <;> first | (exfalso; revert t1; decide) | (exfalso; omega) | rfl
  · by_cases h6 : cmp a2 a3 > 0
    · simp only [h1, h2, h3, h4, h5, h6, decide_true, decide_false, if_true, if_false, Bool.false_eq_true, Option.bind_some, Bool.or_false, Bool.or_self, Bool.not_false]
    · simp only [h1, h2, h3, h4, h5, h6, decide_true, decide_false, if_true, if_false, Bool.false_eq_true, Option.bind_some, Bool.or_false, Bool.or_self, Bool.not_false, within, s1, nilc, Bool.true_or, Bool.and_true, Bool.false_or, Bool.true_and]
      clear s2 s3 s1
      generalize cmp a1 a2 = x at *
      generalize cmp a1 a0 = y at *
      generalize cmp a0 a2 = z at *
      generalize cmp a0 a3 = u at *
      generalize cmp a2 a3 = v at *
      rcases r1 with rfl | rfl | rfl <;> rcases r2 with rfl | rfl | rfl <;> rcases r3 with rfl | rfl | rfl <;> rcases r4 with rfl | rfl | rfl <;> rcases r5 with rfl | rfl | rfl <;> first | (exfalso; revert t1; decide) | (exfalso; revert t2; decide) | (exfalso; revert t3; decide) | (exfalso; revert t4; decide) | (exfalso; omega) | rfl
end Go.Proofs.Ytnfeinhialojnaa
