/-  The plain law TextRow. -/
import Derived.Test.YtnfeinhialojnaaPureBase
import Derived.Test.YtnfeinhialojnaaGt1LTextRow
namespace Go.Proofs.Ytnfeinhialojnaa
open Go Go.RowKit
set_option linter.unusedVariables false
set_option linter.unusedSimpArgs false
theorem cmp_nil_l : ∀ a : Str, (cmp [] a == -1) = !decide (a = [])
  | [] => rfl
  | x :: a => by simp [cmp, Lib.compareBytes]
theorem pure_TextRow (a0 : Str) (a1 : Str) (a2 : Str) (_ : wfStr a0) (_ : wfStr a1) (_ : wfStr a2) : ∃ k, ferrymanlaw02_TextRow k a0 a1 a2 = some true := by
  obtain ⟨k, hk⟩ : ∃ k, k = 20000 := ⟨_, rfl⟩
  refine ⟨k, ?_⟩
  have hw := works_def k (by omega)
  unfold ferrymanlaw02_TextRow
  rw [long_def k [a0, a1, a2] (by simp) (by simp; omega)]
  by_cases h : sumMin [a0, a1, a2] ≥ 9000
  · simp only [h, decide_true, Option.bind_some, if_true, hw, Bool.not_true, Bool.false_eq_true, if_false]
  · have e0 := cmp_eq a0 a1
    have s1 := cmp_symm a0 a1
    have s2 := cmp_symm a1 a2
    have s3 := cmp_symm a0 a2
    have t1 := cmp_trans a0 a1 a2
    have t2 := cmp_trans a2 a1 a0
    have t3 : cmp a0 a1 = 0 → cmp a1 a2 = 0 → cmp a0 a2 = 0 := fun h1 h2 => by rw [(cmp_eq _ _).1 h1, (cmp_eq _ _).1 h2]; exact cmp_self _
    rw [s1, s2, s3] at t2
    have dec : decide (a0 = a1) = decide (cmp a0 a1 = 0) := by simp only [e0]
    simp only [h, decide_false, Option.bind_some, Bool.false_eq_true, if_false, hw, Bool.not_true, Compare_def, s1, cmp_self, sb_eql, sb_neq, dec, cmp_nil_l]
    clear dec e0 s1 s2 s3
    have r1 := cmp_range a0 a1
    have r2 := cmp_range a1 a2
    have r3 := cmp_range a0 a2
    generalize cmp a0 a1 = x at *
    generalize cmp a1 a2 = y at *
    generalize cmp a0 a2 = z at *
    have w1 : IntKind.i64.wrap (0 - x) = -x := by rw [wr (by omega) (by omega)]; omega
    rw [w1]
    rcases r1 with rfl | rfl | rfl <;> rcases r2 with rfl | rfl | rfl <;> rcases r3 with rfl | rfl | rfl <;> first | (exfalso; revert t1 t2 t3; decide) | simp
end Go.Proofs.Ytnfeinhialojnaa
