/-  The plain law LatchCopies. -/
import Derived.Test.YtgnbccjpgoeplaaPureBase
import Derived.Test.YtgnbccjpgoeplaaGl1LLatchCopies
namespace Go.Proofs.Ytgnbccjpgoeplaa
open Go Go.RowKit
set_option linter.unusedVariables false
set_option linter.unusedSimpArgs false
theorem copies_loop0 (a : List ferrymanlaw05_Step) (ha : a.length ≤ 1000) (u : Lt) : ∀ (n k i : Nat) (l : Lt), i + n = a.length → n < k → ferrymanlaw05_LatchCopies_l0 a k (i : Int) l u = some ((a.drop i).foldl stepF l, u) := by
  intro n
  induction n with
  | zero =>
    intro k i l hi hk
    obtain ⟨k, rfl⟩ : ∃ q, k = q + 1 := ⟨k - 1, by omega⟩
    rw [ferrymanlaw05_LatchCopies_l0.eq_2, if_neg (by simp; omega), List.drop_of_length_le (by omega)]; rfl
  | succ n ih =>
    intro k i l hi hk
    obtain ⟨k, rfl⟩ : ∃ q, k = q + 1 := ⟨k - 1, by omega⟩
    have hlt : i < a.length := by omega
    have hr : 0 ≤ (i : Int) ∧ (i : Int) < (a.length : Int) := by omega
    have hw : IntKind.i64.wrap ((i : Int) + 1) = ((i + 1 : Nat) : Int) := by rw [wr (by omega) (by omega)]; rfl
    rw [ferrymanlaw05_LatchCopies_l0.eq_2, if_pos (by simpa using hr.2), List.drop_eq_getElem_cons hlt, List.foldl_cons]
    simp only [if_pos hr, rd_get hlt, Drop_eq, Try_eq, Option.bind_some, hw]
    rw [← ih k (i + 1) _ (by omega) (by omega)]
    unfold stepF
    cases hd : (a[i]).Drop <;> simp
theorem copies_loop1 (a : List ferrymanlaw05_Step) (ha : a.length ≤ 1000) (u : Lt) : ∀ (n k i : Nat) (l : Lt), i + n = a.length → n < k → ferrymanlaw05_LatchCopies_l1 a k (i : Int) u l = some (u, (a.drop i).foldl stepF l) := by
  intro n
  induction n with
  | zero =>
    intro k i l hi hk
    obtain ⟨k, rfl⟩ : ∃ q, k = q + 1 := ⟨k - 1, by omega⟩
    rw [ferrymanlaw05_LatchCopies_l1.eq_2, if_neg (by simp; omega), List.drop_of_length_le (by omega)]; rfl
  | succ n ih =>
    intro k i l hi hk
    obtain ⟨k, rfl⟩ : ∃ q, k = q + 1 := ⟨k - 1, by omega⟩
    have hlt : i < a.length := by omega
    have hr : 0 ≤ (i : Int) ∧ (i : Int) < (a.length : Int) := by omega
    have hw : IntKind.i64.wrap ((i : Int) + 1) = ((i + 1 : Nat) : Int) := by rw [wr (by omega) (by omega)]; rfl
    rw [ferrymanlaw05_LatchCopies_l1.eq_2, if_pos (by simpa using hr.2), List.drop_eq_getElem_cons hlt, List.foldl_cons]
    simp only [if_pos hr, rd_get hlt, Drop_eq, Try_eq, Option.bind_some, hw]
    rw [← ih k (i + 1) _ (by omega) (by omega)]
    unfold stepF
    cases hd : (a[i]).Drop <;> simp
theorem copies_loop2 (a b c : List ferrymanlaw05_Step) (u v : Lt) (ha : (a ++ b ++ c).length ≤ 1000) : ∀ (n k i : Nat), i + n = (a ++ b ++ c).length → n < k → ferrymanlaw05_LatchCopies_l2 a b c u v ⟨v⟩ ⟨u⟩ k (i : Int) = some (.inr (u, v, u, v)) := by
  intro n
  induction n with
  | zero =>
    intro k i hi hk
    obtain ⟨k, rfl⟩ : ∃ q, k = q + 1 := ⟨k - 1, by omega⟩
    rw [ferrymanlaw05_LatchCopies_l2.eq_2, List.nil_append, if_neg (by simp only [decide_eq_true_eq]; omega)]
  | succ n ih =>
    intro k i hi hk
    obtain ⟨k, rfl⟩ : ∃ q, k = q + 1 := ⟨k - 1, by omega⟩
    have hlt : i < (a ++ b ++ c).length := by omega
    have hr : 0 ≤ (i : Int) ∧ (i : Int) < ((a ++ b ++ c).length : Int) := by omega
    have hw : IntKind.i64.wrap ((i : Int) + 1) = ((i + 1 : Nat) : Int) := by rw [wr (by omega) (by omega)]; rfl
    rw [ferrymanlaw05_LatchCopies_l2.eq_2, List.nil_append, if_pos (by simp only [decide_eq_true_eq]; exact hr.2)]
    simp only [if_pos hr, rd_get hlt, Owner_eq, Option.bind_some, hw]
    simp only [bne_self_eq_false, beq_self_eq_true, Bool.not_true, Bool.or_self, Bool.false_eq_true, if_false]
    exact ih k (i + 1) (by omega) (by omega)
theorem pure_LatchCopies (a0 : (List ferrymanlaw05_Step)) (a1 : (List ferrymanlaw05_Step)) (a2 : (List ferrymanlaw05_Step)) (h0 : (wfSl wf_ferrymanlaw05_Step) a0) (h1 : (wfSl wf_ferrymanlaw05_Step) a1) (h2 : (wfSl wf_ferrymanlaw05_Step) a2) (w0 : a0.length * 32 ≤ 140737488351232) (w1 : a1.length * 32 ≤ 140737488351232) (w2 : a2.length * 32 ≤ 140737488351232) : ∃ k, ferrymanlaw05_LatchCopies k a0 a1 a2 = some true := by
  have m0 : a0.length ≤ 9223372036854775807 := h0.1
  have m1 : a1.length ≤ 9223372036854775807 := h1.1
  have m2 : a2.length ≤ 9223372036854775807 := h2.1
  by_cases hl : a0.length + a1.length + a2.length ≤ 300
  · refine ⟨a0.length + a1.length + a2.length + 21, ?_⟩
    have e0 : IntKind.i64.wrap ((IntKind.i64.wrap ((a0.length : Int) + (a1.length : Int))) + (a2.length : Int)) = (a0.length : Int) + a1.length + a2.length := by
      rw [wr (x := (a0.length : Int) + a1.length) (by omega) (by omega), wr (by omega) (by omega)]
    have e1 : ¬ ((a0.length : Int) + a1.length + a2.length > 300) := by omega
    unfold ferrymanlaw05_LatchCopies
    rw [awake_up (by omega), e0, run_eq (by omega) (by omega)]
    simp only [e1, decide_false, Bool.false_eq_true, if_false, Option.bind_some, Bool.not_true]
    show Option.bind (some (⟨runF a0⟩ : latch_Latches)) _ = _
    have c0 := copies_loop0 a1 (by omega) (runF a0) a1.length (a0.length + a1.length + a2.length + 21) 0 (runF a0) (by omega) (by omega)
    have c1 := copies_loop1 a2 (by omega) (a1.foldl stepF (runF a0)) a2.length (a0.length + a1.length + a2.length + 21) 0 (runF a0) (by omega) (by omega)
    have c2 := copies_loop2 a0 a1 a2 (a1.foldl stepF (runF a0)) (a2.foldl stepF (runF a0)) (by simp; omega) (a0 ++ a1 ++ a2).length (a0.length + a1.length + a2.length + 21) 0 (by omega) (by simp; omega)
    rw [show ((0 : Nat) : Int) = (0 : Int) from rfl] at c0 c1 c2
    rw [List.drop_zero] at c0 c1
    have r1 : ferrymanlaw05_run (a0.length + a1.length + a2.length + 21) (a0 ++ a2) = some ⟨a2.foldl stepF (runF a0)⟩ := by rw [run_eq (by simp; omega) (by simp; omega)]; simp [runF]
    have r2 : ferrymanlaw05_run (a0.length + a1.length + a2.length + 21) (a0 ++ a1) = some ⟨a1.foldl stepF (runF a0)⟩ := by rw [run_eq (by simp; omega) (by simp; omega)]; simp [runF]
    simp only [Option.bind_some, c0, c1, List.nil_append, r1, r2]
    rw [if_pos (by first | omega | (simp; omega)), if_pos (by first | omega | (simp; omega)), if_pos (by first | omega | (simp; omega)), if_pos (by first | omega | (simp; omega)), if_pos (by first | omega | (simp; omega)), if_pos (by first | omega | (simp; omega)), if_pos (by first | omega | (simp; omega)), c2]
    simp [latch_Latches_All_PO]
  · have e1 : IntKind.i64.wrap ((IntKind.i64.wrap ((a0.length : Int) + (a1.length : Int))) + (a2.length : Int)) > 300 := by
      rw [wr (x := (a0.length : Int) + a1.length) (by omega) (by omega), wr (by omega) (by omega)]; omega
    refine ⟨20, ?_⟩
    unfold ferrymanlaw05_LatchCopies
    rw [awake_up (by omega)]
    simp [e1]
end Go.Proofs.Ytgnbccjpgoeplaa
