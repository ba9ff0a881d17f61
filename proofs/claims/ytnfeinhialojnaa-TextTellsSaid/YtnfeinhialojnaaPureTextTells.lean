/-  The plain law TextTells. -/
import Derived.Test.YtnfeinhialojnaaPureBase
import Derived.Test.YtnfeinhialojnaaGt1LTextTells
namespace Go.Proofs.Ytnfeinhialojnaa
open Go Go.RowKit
set_option linter.unusedVariables false
set_option linter.unusedSimpArgs false
theorem pure_TextTells (a0 : Str) (a1 : Str) (a2 : Str) (a3 : Int) (_ : wfStr a0) (_ : wfStr a1) (_ : wfStr a2) (_ : (wfInt .i64) a3) : ∃ k, ferrymanlaw02_TextTells k a0 a1 a2 a3 = some true := by
  obtain ⟨k, hk⟩ : ∃ k, k = 20000 := ⟨_, rfl⟩
  refine ⟨k, ?_⟩
  have hw := works_def k (by omega)
  unfold ferrymanlaw02_TextTells
  rw [long_def k [a0, a1, a2] (by simp) (by simp; omega)]
  by_cases h : sumMin [a0, a1, a2] ≥ 9000
  · simp only [h, decide_true, Option.bind_some, if_true, hw]
  · have hm := sumMin_mem [a0, a1, a2] (by omega)
    have h0 := hm a0 (by simp)
    have h1 := hm a1 (by simp)
    have h2 := hm a2 (by simp)
    simp only [h, decide_false, Option.bind_some, Bool.false_eq_true, if_false, Compare_def, refCompare_def k a0 a1 (by omega) (by omega), Prefix_def k a0 a1 (by omega) (by omega), refPrefix_def k a0 a1 (by omega) (by omega),
      Suffix_def k a0 a1 a3 (by omega) (by omega) (by omega), refSuffix_def k a0 a1 a3 (by omega) (by omega) (by omega), Next_def k a0 (by omega), refNext_def k a0 (by omega), Within_def, refWithin_def k a0 a1 a2 (by omega) (by omega) (by omega) (by omega), hw, BEq.rfl, if_true, sb_eql, decide_true]
end Go.Proofs.Ytnfeinhialojnaa
