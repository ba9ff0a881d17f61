/-  The plain law TextUnlike. -/
import Derived.Test.YtnfeinhialojnaaPureBase
import Derived.Test.YtnfeinhialojnaaGt1LTextUnlike
namespace Go.Proofs.Ytnfeinhialojnaa
open Go Go.RowKit
set_option linter.unusedVariables false
set_option linter.unusedSimpArgs false
theorem pure_TextUnlike (a0 : Str) (a1 : Str) (a2 : Str) (a3 : Str) (a4 : Str) (_ : wfStr a0) (_ : wfStr a1) (_ : wfStr a2) (_ : wfStr a3) (_ : wfStr a4) : ∃ k, ferrymanlaw02_TextUnlike k a0 a1 a2 a3 a4 = some true := by
  obtain ⟨k, hk⟩ : ∃ k, k = 20000 := ⟨_, rfl⟩
  refine ⟨k, ?_⟩
  have hw := works_def k (by omega)
  unfold ferrymanlaw02_TextUnlike
  rw [long_def k [a0, a1, a2] (by simp) (by simp; omega), long_def k [a3, a4] (by simp) (by simp; omega)]
  simp only [hw, Bool.not_true, Bool.false_eq_true, if_false, Option.bind_some, Compare_def, sb_neq]
  by_cases h1 : sumMin [a0, a1, a2] ≥ 9000
  · simp only [h1, decide_true, if_true, Option.bind_some]
  by_cases h2 : sumMin [a3, a4] ≥ 9000
  · simp only [h1, h2, decide_true, decide_false, if_true, if_false, Bool.false_eq_true, Option.bind_some]
  have hm := sumMin_mem [a0, a1, a2] (by omega)
  have hm2 := sumMin_mem [a3, a4] (by omega)
  have l0 := hm a0 (by simp)
  have l1 := hm a1 (by simp)
  have l2 := hm a2 (by simp)
  have l3 := hm2 a3 (by simp)
  have l4 := hm2 a4 (by simp)
  have pl := pre_l a0 a1
  have pr := pre_r a0 a1
  have pt := pre_take a0 a1
  have hne := pre_ne a0 a1
  have hb := cmp_behind a0 a1 a3 a4
  have hd : cmp (a0.drop (pre a0 a1)) (a1.drop (pre a0 a1)) = cmp a0 a1 := by
    have := cmp_app (a0.take (pre a0 a1)) (a0.drop (pre a0 a1)) (a1.drop (pre a0 a1))
    rw [List.take_append_drop, pt, List.take_append_drop] at this
    exact this.symm
  have f1 : ¬ (pre a0 a1 : Int) < 0 := by omega
  have f2 : ¬ (pre a0 a1 : Int) > (a0.length : Int) := by omega
  have f3 : ¬ (pre a0 a1 : Int) > (a1.length : Int) := by omega
  have c0 : 0 ≤ (pre a0 a1 : Int) := by omega
  have c1 : (pre a0 a1 : Int) ≤ (a0.length : Int) := by omega
  have c2 : (pre a0 a1 : Int) ≤ (a1.length : Int) := by omega
  have g1 : (a2.length : Int) + (a0.length : Int) ≤ 9223372036854775807 := by omega
  have g2 : (a2.length : Int) + (a1.length : Int) ≤ 9223372036854775807 := by omega
  have g3 : (a0.length : Int) + (a3.length : Int) ≤ 9223372036854775807 := by omega
  have g4 : (a1.length : Int) + (a4.length : Int) ≤ 9223372036854775807 := by omega
  have la : (a2 ++ a0).length ≤ 18000 := by simp; omega
  have hP := Prefix_def k (a2 ++ a0) (a2 ++ a1) (by omega) (by omega)
  rw [pre_app] at hP
  have hwr : IntKind.i64.wrap ((a2.length : Int) + (pre a0 a1 : Int)) = ((a2.length + pre a0 a1 : Nat) : Int) := by rw [wr (by omega) (by omega)]; omega
  have hfirst : (if (decide ((pre a0 a1 : Int) < (a0.length : Int)) && decide ((pre a0 a1 : Int) < (a1.length : Int))) = true then (if 0 ≤ (pre a0 a1 : Int) ∧ (pre a0 a1 : Int) < (a0.length : Int) then (if 0 ≤ (pre a0 a1 : Int) ∧ (pre a0 a1 : Int) < (a1.length : Int) then some (((((a0).getD (pre a0 a1 : Int).toNat 0).toNat : Int) == (((a1).getD (pre a0 a1 : Int).toNat 0).toNat : Int))) else none) else none) else some (false)) = some false := by
    by_cases h3 : pre a0 a1 < a0.length
    · by_cases h4 : pre a0 a1 < a1.length
      · have h5 : (pre a0 a1 : Int) < (a0.length : Int) := by omega
        have h6 : (pre a0 a1 : Int) < (a1.length : Int) := by omega
        simp only [h5, h6, decide_true, Bool.and_self, if_true, c0, and_self, byte_eq, Int.toNat_natCast, hne h3 h4, decide_false]
      · have h6 : ¬ (pre a0 a1 : Int) < (a1.length : Int) := by omega
        simp only [h6, decide_false, Bool.and_false, Bool.false_eq_true, if_false]
    · have h6 : ¬ (pre a0 a1 : Int) < (a0.length : Int) := by omega
      simp only [h6, decide_false, Bool.false_and, Bool.false_eq_true, if_false]
  simp only [h1, h2, decide_false, if_false, Bool.false_eq_true, Option.bind_some, Prefix_def k a0 a1 (by omega) (by omega)]
  simp only [hfirst]
  simp only [f1, f2, f3, decide_false, Bool.or_self, Bool.false_eq_true, if_false, c0, c1, c2, and_self, if_true, Int.toNat_natCast, pt, decide_true, Bool.not_true, Option.bind_some, hd, bne_self_eq_false, g1, g2, cmp_app, hP, hwr]
  by_cases h7 : pre a0 a1 = a0.length
  · have : ((pre a0 a1 : Int) == (a0.length : Int)) = true := by simp [h7]
    simp only [this, Bool.true_or, if_true, Option.bind_some]
  · by_cases h8 : pre a0 a1 = a1.length
    · have : ((pre a0 a1 : Int) == (a1.length : Int)) = true := by simp [h8]
      simp only [this, Bool.or_true, if_true, Option.bind_some]
    · have e1 : ((pre a0 a1 : Int) == (a0.length : Int)) = false := by simp; omega
      have e2 : ((pre a0 a1 : Int) == (a1.length : Int)) = false := by simp; omega
      simp only [e1, e2, Bool.or_self, Bool.false_eq_true, if_false, g3, g4, if_true, Option.bind_some, hb (by omega) (by omega), BEq.rfl]
end Go.Proofs.Ytnfeinhialojnaa
