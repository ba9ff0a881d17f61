/-  The plain law LatchOthers. -/
import Derived.Test.YtgnbccjpgoeplaaPureBase
import Derived.Test.YtgnbccjpgoeplaaGl1LLatchOthers
namespace Go.Proofs.Ytgnbccjpgoeplaa
open Go Go.RowKit
set_option linter.unusedVariables false
set_option linter.unusedSimpArgs false
theorem others_loop (a : List ferrymanlaw05_Step) (s : ferrymanlaw05_Step) (d : Bool) (l l' : Lt) (ha : a.length ≤ 1000) (h : ∀ m, m ≠ s.N ∨ d = false → mget l' m = mget l m) : ∀ (n k i : Nat), i + n = a.length → n < k → ferrymanlaw05_LatchOthers_l0 a s d l' l k (i : Int) = some (.inr (l', l)) := by
  intro n
  induction n with
  | zero =>
    intro k i hi hk
    obtain ⟨k, rfl⟩ : ∃ q, k = q + 1 := ⟨k - 1, by omega⟩
    rw [ferrymanlaw05_LatchOthers_l0.eq_2, if_neg (by simp; omega)]
  | succ n ih =>
    intro k i hi hk
    obtain ⟨k, rfl⟩ : ∃ q, k = q + 1 := ⟨k - 1, by omega⟩
    have hlt : i < a.length := by omega
    have hr : 0 ≤ (i : Int) ∧ (i : Int) < (a.length : Int) := by omega
    have hw : IntKind.i64.wrap ((i : Int) + 1) = ((i + 1 : Nat) : Int) := by rw [wr (by omega) (by omega)]; rfl
    rw [ferrymanlaw05_LatchOthers_l0.eq_2, if_pos (by simpa using hr.2)]
    simp only [if_pos hr, rd_get hlt, Owner_eq, Option.bind_some, hw, eqN]
    rw [if_neg]
    · exact ih k (i + 1) (by omega) (by omega)
    · by_cases c : a[i].N = s.N
      · cases d with
        | true => simp [c]
        | false => rw [h _ (.inr rfl)]; simp
      · rw [h _ (.inl c)]; simp
theorem pure_LatchOthers (a0 : (List ferrymanlaw05_Step)) (a1 : ferrymanlaw05_Step) (_ : (wfSl wf_ferrymanlaw05_Step) a0) (_ : wf_ferrymanlaw05_Step a1) : ∃ k, ferrymanlaw05_LatchOthers k a0 a1 = some true := by
  by_cases hl : a0.length ≤ 300
  · refine ⟨a0.length + 21, ?_⟩
    have e1 : ¬ ((a0.length : Int) > 300) := by omega
    unfold ferrymanlaw05_LatchOthers
    rw [awake_up (by omega), run_eq (by omega) (by omega)]
    simp only [e1, decide_false, Bool.false_eq_true, if_false, Option.bind_some, Bool.not_true]
    have hn := run_nodup a0
    generalize runF a0 = l at hn
    cases hd : a1.Drop with
    | true =>
      simp only [if_true, Drop_eq, Option.bind_some]
      have h0 := others_loop a0 a1 (dropF l a1.N a1.Task).1 l (dropF l a1.N a1.Task).2 (by omega) (fun m hm => by
        rw [mget_drop hn]
        split
        · next c => rcases hm with hm | hm
                    · exact absurd c.2.symm hm
                    · rw [hm] at c; cases c.1
        · rfl) a0.length (a0.length + 21) 0 (by omega) (by omega)
      rw [show ((0 : Nat) : Int) = (0 : Int) from rfl] at h0
      rw [h0]
      simp only [Option.bind_some, Sum.elim_inr, Owner_eq]
      have hm := mget_drop hn a1.N a1.N a1.Task
      cases hdd : (dropF l a1.N a1.Task).1 with
      | true => rw [hdd] at hm; simp [hm]
      | false =>
        have : (dropF l a1.N a1.Task).2 = l := by
          unfold dropF at hdd ⊢
          split at hdd
          · cases hdd
          · next c => rw [if_neg c]
        simp [latch_Latches_All_PO, this]
    | false =>
      simp only [Bool.false_eq_true, if_false, Try_eq, Option.bind_some]
      have h0 := others_loop a0 a1 (tryF l a1.N a1.Task).1 l (tryF l a1.N a1.Task).2 (by omega) (fun m hm => by
        rw [mget_try]
        split
        · next c => rcases hm with hm | hm
                    · exact absurd c.2.symm hm
                    · rw [hm] at c; cases c.1
        · rfl) a0.length (a0.length + 21) 0 (by omega) (by omega)
      rw [show ((0 : Nat) : Int) = (0 : Int) from rfl] at h0
      rw [h0]
      simp only [Option.bind_some, Sum.elim_inr, Owner_eq]
      have hm := mget_try l a1.N a1.N a1.Task
      cases hdd : (tryF l a1.N a1.Task).1 with
      | true => rw [hdd] at hm; simp [hm]
      | false =>
        have : (tryF l a1.N a1.Task).2 = l := by
          unfold tryF at hdd ⊢
          split at hdd
          · next c => rw [if_pos c]
          · cases hdd
        simp [latch_Latches_All_PO, this]
  · refine ⟨20, ?_⟩
    have e1 : (a0.length : Int) > 300 := by omega
    unfold ferrymanlaw05_LatchOthers
    rw [awake_up (by omega)]
    simp [e1]
end Go.Proofs.Ytgnbccjpgoeplaa
