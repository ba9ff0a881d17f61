/-  The plain law KeepLost. -/
import Derived.Test.YtmoackfjfklfaaaPureBase
import Derived.Test.YtmoackfjfklfaaaGt7LKeepLost
namespace Go.Proofs.Ytmoackfjfklfaaa
open Go Go.RowKit
set_option linter.unusedVariables false
set_option linter.unusedSimpArgs false
theorem legal_l0 (l : List api_Version) (hl : l.length ≤ 1000000) : ∀ (j k i : Nat), i + j = l.length → j < k → ∃ b, ferrymanref11_Legal_l0 l k (i : Int) = some b := by
  intro j
  induction j with
  | zero =>
    intro k i h1 h2
    obtain ⟨k, rfl⟩ : ∃ k', k = k' + 1 := ⟨k - 1, by omega⟩
    rw [ferrymanref11_Legal_l0.eq_2]
    have : ¬ ((i : Int) < (l.length : Int)) := by omega
    simp [this]
  | succ j ih =>
    intro k i h1 h2
    obtain ⟨k, rfl⟩ : ∃ k', k = k' + 1 := ⟨k - 1, by omega⟩
    have hi : i < l.length := by omega
    have hi1 : (i : Int) < (l.length : Int) := by omega
    have hi0 : (0 : Int) ≤ (i : Int) := by omega
    obtain ⟨b, hb⟩ := ih k (i + 1) (by omega) (by omega)
    rw [show ((i + 1 : Nat) : Int) = (i : Int) + 1 by omega] at hb
    rw [ferrymanref11_Legal_l0.eq_2, wr (x := (i : Int) + 1) (by omega) (by omega), wr (x := (i : Int) - 1) (by omega) (by omega)]
    simp only [hi1, hi0, decide_true, and_self, if_true, hb]
    by_cases h0 : (rd l (i : Int)).TS < 1
    · simp [h0]
    · by_cases h3 : (i : Int) > 0
      · have h4 : (0 : Int) ≤ (i : Int) - 1 ∧ (i : Int) - 1 < (l.length : Int) := by omega
        simp only [h0, h3, decide_true, decide_false, if_true, Bool.false_eq_true, if_false, and_self, h4, Option.bind_some]
        split
        · exact ⟨_, rfl⟩
        · exact ⟨_, rfl⟩
      · have h5 : ¬ (0 < i) := by omega
        simp [h0, h3, h5]
theorem Legal_def (l : List api_Version) (k : Nat) (hl : l.length ≤ 1000000) (hk : l.length < k) : ∃ b, ferrymanref11_Legal k l = some b := by
  obtain ⟨b, hb⟩ := legal_l0 l hl l.length k 0 (by omega) hk
  rw [show ((0 : Nat) : Int) = 0 from rfl] at hb
  simp only [ferrymanref11_Legal, hb, Option.bind_some]
  cases b <;> exact ⟨_, rfl⟩
theorem KeepLost_l0 (l : List api_Version) (f : Int) (hl : l.length ≤ 300) : ∀ (j k i : Nat) (x2 x3 : Int) (x4 : Bool) (x5 : Str) (x6 x7 : Int) (x8 : Bool) (x9 : Str), i + j = l.length → 400 + j < k →
    ferrymanlaw11_KeepLost_l0 l f (kept l f) k (i : Int) x2 x3 x4 x5 x6 x7 x8 x9 = some (.inr ()) := by
  have hkl : (kept l f).length ≤ 300 := by rw [kept_take, List.length_take]; omega
  intro j
  induction j with
  | zero =>
    intro k i x2 x3 x4 x5 x6 x7 x8 x9 h1 h2
    obtain ⟨k, rfl⟩ : ∃ k', k = k' + 1 := ⟨k - 1, by omega⟩
    rw [ferrymanlaw11_KeepLost_l0.eq_2]
    have : ¬ ((i : Int) < (l.length : Int)) := by omega
    simp [this]
  | succ j ih =>
    intro k i x2 x3 x4 x5 x6 x7 x8 x9 h1 h2
    obtain ⟨k, rfl⟩ : ∃ k', k = k' + 1 := ⟨k - 1, by omega⟩
    have hi1 : (i : Int) < (l.length : Int) := by omega
    have hi0 : (0 : Int) ≤ (i : Int) := by omega
    rw [ferrymanlaw11_KeepLost_l0.eq_2, wr (x := (i : Int) + 1) (by omega) (by omega)]
    have ih' := fun x2 x3 x4 x5 x6 x7 x8 x9 => ih k (i + 1) x2 x3 x4 x5 x6 x7 x8 x9 (by omega) (by omega)
    rw [show ((i + 1 : Nat) : Int) = (i : Int) + 1 by omega] at ih'
    simp only [hi1, hi0, decide_true, and_self, if_true, ih']
    by_cases hf : (rd l (i : Int)).TS < f
    · simp [hf]
    · rw [Seen_eq _ _ k (by omega) (by omega), Seen_eq _ _ k (by omega) (by omega), seen_kept l f _ (by omega)]
      simp [hf]
theorem pure_KeepLost (a0 : (List api_Version)) (a1 : Int) (a2 : Int) (_ : (wfSl wf_api_Version) a0) (_ : (wfInt .i64) a1) (_ : (wfInt .i64) a2) : ∃ k, ferrymanlaw11_KeepLost k a0 a1 a2 = some true := by
  refine ⟨2000, ?_⟩
  unfold ferrymanlaw11_KeepLost
  rw [awake_eq 2000 (by omega)]
  by_cases h1 : (a0.length : Int) > 300
  · simp [h1]
  by_cases h2 : a2 < a1
  · simp [h2]
  have hl : a0.length ≤ 300 := by omega
  have hkl : (kept a0 a1).length ≤ 300 := by rw [kept_take, List.length_take]; omega
  obtain ⟨b, hb⟩ := Legal_def a0 2000 (by omega) (by omega)
  have hloop := KeepLost_l0 a0 a1 hl a0.length 2000 0
  rw [hb, Kept_eq a0 a1 2000 (by omega) (by omega)]
  simp only [Option.bind_some]
  rw [Seen_eq _ _ 2000 (by omega) (by omega), Seen_eq _ _ 2000 (by omega) (by omega), Clash_eq, Clash_eq, seen_kept a0 a1 a2 (by omega), clash_kept a0 a1 a2 (by omega)]
  rw [show ((0 : Nat) : Int) = 0 from rfl] at hloop
  cases b
  · simp [h1, h2]
  · simp only [h1, h2, decide_false, Bool.false_eq_true, Bool.or_false, if_false, Bool.not_true, Option.bind_some, Bool.and_self, beq_self_eq_true, Bool.or_self, hloop _ _ _ _ _ _ _ _ (by omega) (by omega), Sum.elim_inr]
end Go.Proofs.Ytmoackfjfklfaaa
