/-  The plain law ForkSafe. -/
import Derived.Test.YtdommjjhfplcaaaPureForkPlaces
import Derived.Test.YtdommjjhfplcaaaGf1LForkSafe
namespace Go.Proofs.Ytdommjjhfplcaaa
open Go Go.RowKit
set_option linter.unusedVariables false
set_option linter.unusedSimpArgs false
theorem pure_ForkSafe (a0 : fork_Node) (a1 : Str) (a2 a3 : Int) (a4 : Bool) (hw0 : wf_fork_Node a0) (_ : wfStr a1) (_ : (wfInt .i64) a2) (hw3 : (wfInt .i64) a3) (_ : wfTrue a4) : ∃ k, ferrymanlaw13_ForkSafe k a0 a1 a2 a3 a4 = some true := by
  obtain ⟨k, hk⟩ : ∃ k, k = a0.Keys.length + 20000 := ⟨_, rfl⟩
  refine ⟨k, ?_⟩
  obtain ⟨l1, l2, l3⟩ := wf_lens hw0
  have P := fun X hX => prolog a0 l1 l2 l3 k (by omega) (by omega) a1 false X hX
  simp only [Bool.or_false] at P
  refine P _ (fun h h3 _ => ?_)
  have hkk : 4000 < k := by omega
  have hlo := lo_le a0.Keys a1
  have hw3' : -9223372036854775808 ≤ a3 := by
    have := hw3
    simp only [wfInt, Lit.wf, Bool.and_eq_true, decide_eq_true_eq] at this
    have e : IntKind.i64.min = -9223372036854775808 := by decide
    rw [e] at this; exact this.1
  have d62 : ((6 : Int) == 0) = false := by decide
  have d02 : ((0 : Int) == 0) = true := by decide
  have n52 : ((5 : Int) != 0) = true := by decide
  have n42 : ((4 : Int) != 0) = true := by decide
  have n02 : ((0 : Int) != 0) = false := by decide
  have s10 : ((1 : Int) == 0) = false := by decide
  have s11 : ((1 : Int) == 1) = true := by decide
  have s20 : ((2 : Int) == 0) = false := by decide
  have s21 : ((2 : Int) == 1) = false := by decide
  have s22 : ((2 : Int) != 2) = false := by decide
  cases hl : a0.Leaf
  · have hi := h.inner hl
    have hput : ∃ t, fork_Put k a0 a1 1 = some t := ⟨(nilN, 4), by simp only [fork_Put, h.place a1 k hkk, hl, Option.bind_some, Bool.not_false, if_true]⟩
    obtain ⟨t, ht⟩ := hput
    have hcut := h.cut hl a3 hw3' hkk
    simp only [ht, Option.bind_some, Bool.not_false, if_true, h.graft hl a1 a3 hkk, fork_Safe, hl, s10, s11, s20, s21, s22, Bool.false_eq_true, if_false]
    have hsafe : (if a4 = true then some (decide ((a0.Kids.length : Int) > 2)) else some (decide ((a0.Kids.length : Int) > 1))) = some (if a4 = true then decide (a0.Kids.length > 2) else decide (a0.Kids.length > 1)) := by
      have e2 : decide ((a0.Kids.length : Int) > 2) = decide (a0.Kids.length > 2) := by apply decide_eq_decide.2; omega
      have e1 : decide ((a0.Kids.length : Int) > 1) = decide (a0.Kids.length > 1) := by apply decide_eq_decide.2; omega
      rw [e1, e2]; cases a4 <;> rfl
    have second : (Option.bind (fork_Cut k a0 a3) (fun t145 => (if (t145.2 != (0 : Int)) = true then some ((decide ((a0.Kids.length : Int) > (1 : Int))) || (!(if a4 = true then decide (a0.Kids.length > 2) else decide (a0.Kids.length > 1)))) else some ((if a4 = true then decide (a0.Kids.length > 2) else decide (a0.Kids.length > 1)) == ((decide ((t145.1.Kids.length : Int) > (1 : Int))) || ((!a4) && (decide ((t145.1.Kids.length : Int) > (0 : Int))))))))) = some true := by
      rw [hcut]
      by_cases c1 : a0.Kids.length < 2
      · have e1 : ¬ (a0.Kids.length : Int) > 1 := by omega
        have e2 : ¬ a0.Kids.length > 2 := by omega
        have e3 : ¬ a0.Kids.length > 1 := by omega
        simp only [c1, if_true, Option.bind_some, n42, e1, e2, e3, decide_false]
        cases a4 <;> rfl
      · simp only [c1, if_false]
        by_cases c2 : a3 < 0 ∨ a3 ≥ (a0.Kids.length : Int)
        · have e1 : (a0.Kids.length : Int) > 1 := by omega
          simp only [c2, if_true, Option.bind_some, n52, e1, decide_true, Bool.true_or]
        · have hd : (del a0.Kids a3.toNat).length = a0.Kids.length - 1 := del_len (by omega)
          simp only [c2, if_false, Option.bind_some, n02, Bool.false_eq_true, hd]
          have e1 : decide (((a0.Kids.length - 1 : Nat) : Int) > 1) = decide (a0.Kids.length > 2) := by apply decide_eq_decide.2; omega
          have e2 : decide (((a0.Kids.length - 1 : Nat) : Int) > 0) = decide (a0.Kids.length > 1) := by apply decide_eq_decide.2; omega
          rw [e1, e2]
          cases a4
          · simp only [Bool.false_eq_true, if_false, Bool.not_false, Bool.true_and]
            by_cases c3 : a0.Kids.length > 2
            · have c4 : a0.Kids.length > 1 := by omega
              simp only [c3, c4, decide_true, Bool.or_self, BEq.rfl]
            · simp only [c3, decide_false, Bool.false_or, BEq.rfl]
          · simp only [if_true, Bool.not_true, Bool.false_and, Bool.or_false, BEq.rfl]
    cases hh : has a0.Keys a1
    · have hil : (ins a0.Keys (lo a0.Keys a1) a1).length = a0.Keys.length + 1 := ins_len hlo
      have e1 : decide ((a0.Keys.length : Int) < a2) = decide (((a0.Keys.length + 1 : Nat) : Int) ≤ a2) := by apply decide_eq_decide.2; omega
      simp only [hsafe, Option.bind_some, second, Bool.false_eq_true, if_false, d02, if_true, hil, e1, BEq.rfl, Bool.not_true]
    · simp only [hsafe, Option.bind_some, second, if_true, d62, Bool.false_eq_true, if_false]
  · have hi := h.leaf hl
    simp only [h.put hl a1 1 hkk, Option.bind_some, Bool.not_true, Bool.false_eq_true, if_false, if_true, fork_Safe, hl, s10, s11, s20, s21, s22, h.take hl a1 hkk]
    cases hh : has a0.Keys a1
    · have hil : (ins a0.Keys (lo a0.Keys a1) a1).length = a0.Keys.length + 1 := ins_len hlo
      have e1 : decide ((a0.Keys.length : Int) < a2) = decide (((a0.Keys.length + 1 : Nat) : Int) ≤ a2) := by apply decide_eq_decide.2; omega
      simp only [Option.bind_some, Bool.false_eq_true, if_false, d02, if_true, hil, e1, BEq.rfl, Bool.not_true, n52, Bool.true_or]
    · obtain ⟨hlt, _⟩ := get_lt (has_at hh)
      have hdl : (del a0.Keys (lo a0.Keys a1)).length = a0.Keys.length - 1 := del_len hlt
      have e1 : decide ((a0.Keys.length : Int) > 1) = decide (((a0.Keys.length - 1 : Nat) : Int) > 0) := by apply decide_eq_decide.2; omega
      simp only [Option.bind_some, if_true, d62, Bool.false_eq_true, if_false, n02, Bool.false_or, hdl, e1, BEq.rfl]
end Go.Proofs.Ytdommjjhfplcaaa
