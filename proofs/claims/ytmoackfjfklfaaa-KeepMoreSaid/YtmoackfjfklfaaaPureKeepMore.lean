/-  The plain law KeepMore. -/
import Derived.Test.YtmoackfjfklfaaaPureMoreBase
import Derived.Test.YtmoackfjfklfaaaGm1LKeepMore
namespace Go.Proofs.Ytmoackfjfklfaaa
open Go Go.RowKit
set_option linter.unusedVariables false
set_option linter.unusedSimpArgs false
/-- The head of a list that may be is the newest. -/
theorem legal_head (v : api_Version) (l : List api_Version) (k : Nat) (hl : (v :: l).length ≤ 1000000) (h : ferrymanref11_Legal (k + 1) (v :: l) = some true) : 1 ≤ v.TS := by
  by_cases h1 : v.TS < 1
  · exfalso
    unfold ferrymanref11_Legal at h
    rw [ferrymanref11_Legal_l0.eq_2] at h
    have h2 : (0 : Int) < ((v :: l).length : Int) := by simp
    have h3 : (rd (v :: l) 0).TS < 1 := h1
    simp [h2, h3] at h
  · omega
theorem pure_KeepMore (a0 : (List api_Version)) (a1 : api_Version) (a2 : Int) (_ : (wfSl wf_api_Version) a0) (_ : wf_api_Version a1) (_ : (wfInt .i64) a2) (hlen : a0.length * 40 ≤ 140737488351232) : ∃ k, ferrymanlaw11_KeepMore k a0 a1 a2 = some true := by
  refine ⟨2000, ?_⟩
  unfold ferrymanlaw11_KeepMore
  rw [awake_eq 2000 (by omega), if_pos (by simp; omega)]
  by_cases h1 : (a0.length : Int) > 300
  · simp [h1]
  have hl : ([a1] ++ a0 : List api_Version).length ≤ 301 := by simp; omega
  obtain ⟨b, hb'⟩ := Legal_def ([a1] ++ a0) 2000 (by omega) (by omega)
  rw [hb']
  cases b
  · simp [h1]
  simp only [h1, decide_false, Bool.false_eq_true, if_false, Option.bind_some, Bool.not_true]
  rw [Seen_eq ([a1] ++ a0) a2 2000 (by omega) (by omega), Seen_eq a0 a2 2000 (by omega) (by omega), Clash_eq]
  simp only [Option.bind_some, List.singleton_append, seen, clash]
  by_cases h2 : a2 ≥ a1.TS
  · have h3 : a1.TS ≤ a2 := h2
    have h4 : ¬ (a1.TS > a2) := by omega
    cases ht : a1.Tomb <;> simp [h2, h3, h4, ht, dflt]
  · have h3 : ¬ a1.TS ≤ a2 := by omega
    have h4 : a1.TS > a2 := by omega
    simp [h2, h3, h4]
    try omega
end Go.Proofs.Ytmoackfjfklfaaa
