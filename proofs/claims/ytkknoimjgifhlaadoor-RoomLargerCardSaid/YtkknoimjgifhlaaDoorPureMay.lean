/-  Whether a config may be. -/
import Derived.Test.YtkknoimjgifhlaaDoorGr1P0
import Derived.Test.YtkknoimjgifhlaaDoorOpnr1
import Derived.Test.YtkknoimjgifhlaaDoorSlU
import Derived.Test.YtkknoimjgifhlaaDoorSlH
namespace Go.Proofs.YtkknoimjgifhlaaDoor
open Go Go.RowKit
set_option linter.unusedVariables false
set_option linter.unusedSimpArgs false
set_option maxRecDepth 100000
theorem wr' {x : Int} (h : -9223372036854775808 ≤ x) (h' : x ≤ 9223372036854775807) : IntKind.i64.wrap x = x := wr h h'
def mayB (c : api_Config) : Bool :=
  (decide (c.Tasks ≥ 1) && decide (c.Tasks ≤ 6)) && (decide (c.Active ≥ 1) && decide (c.Active ≤ 8)) && (decide (c.Keys ≥ 1) && decide (c.Keys ≤ 64)) && (decide (c.Depth ≥ 2) && decide (c.Depth ≤ 8)) &&
  (decide (c.TS ≥ 1) && decide (c.TS ≤ 1048576)) && (decide (c.KeyLen ≥ 1) && decide (c.KeyLen ≤ 64)) && (decide (c.ValLen ≥ 0) && decide (c.ValLen ≤ 256)) && (decide (c.Fan ≥ 3) && decide (c.Fan ≤ 8))
theorem rng {n lo hi : Int} : (decide (n < lo) || decide (n > hi)) = !(decide (n ≥ lo) && decide (n ≤ hi)) := by
  by_cases h1 : n < lo
  · have : ¬ n ≥ lo := by omega
    simp [h1, this]
  · by_cases h2 : n > hi
    · have : ¬ n ≤ hi := by omega
      simp [h1, h2, this]
    · have h3 : n ≥ lo := by omega
      have h4 : n ≤ hi := by omega
      simp [h1, h2, h3, h4]
theorem May_step (c : api_Config) (k i : Nat) (hi : i < 8) : text_May_l0 c (k + 1) (i : Int) = (if (!(decide ((rd ([(⟨c.Tasks, (1 : Int), (6 : Int)⟩ : text_bound), (⟨c.Active, (1 : Int), (8 : Int)⟩ : text_bound), (⟨c.Keys, (1 : Int), (64 : Int)⟩ : text_bound), (⟨c.Depth, (2 : Int), (8 : Int)⟩ : text_bound), (⟨c.TS, (1 : Int), (1048576 : Int)⟩ : text_bound), (⟨c.KeyLen, (1 : Int), (64 : Int)⟩ : text_bound), (⟨c.ValLen, (0 : Int), (256 : Int)⟩ : text_bound), (⟨c.Fan, (3 : Int), (8 : Int)⟩ : text_bound)] : List text_bound) (i : Int)).n ≥ (rd ([(⟨c.Tasks, (1 : Int), (6 : Int)⟩ : text_bound), (⟨c.Active, (1 : Int), (8 : Int)⟩ : text_bound), (⟨c.Keys, (1 : Int), (64 : Int)⟩ : text_bound), (⟨c.Depth, (2 : Int), (8 : Int)⟩ : text_bound), (⟨c.TS, (1 : Int), (1048576 : Int)⟩ : text_bound), (⟨c.KeyLen, (1 : Int), (64 : Int)⟩ : text_bound), (⟨c.ValLen, (0 : Int), (256 : Int)⟩ : text_bound), (⟨c.Fan, (3 : Int), (8 : Int)⟩ : text_bound)] : List text_bound) (i : Int)).low) && decide ((rd ([(⟨c.Tasks, (1 : Int), (6 : Int)⟩ : text_bound), (⟨c.Active, (1 : Int), (8 : Int)⟩ : text_bound), (⟨c.Keys, (1 : Int), (64 : Int)⟩ : text_bound), (⟨c.Depth, (2 : Int), (8 : Int)⟩ : text_bound), (⟨c.TS, (1 : Int), (1048576 : Int)⟩ : text_bound), (⟨c.KeyLen, (1 : Int), (64 : Int)⟩ : text_bound), (⟨c.ValLen, (0 : Int), (256 : Int)⟩ : text_bound), (⟨c.Fan, (3 : Int), (8 : Int)⟩ : text_bound)] : List text_bound) (i : Int)).n ≤ (rd ([(⟨c.Tasks, (1 : Int), (6 : Int)⟩ : text_bound), (⟨c.Active, (1 : Int), (8 : Int)⟩ : text_bound), (⟨c.Keys, (1 : Int), (64 : Int)⟩ : text_bound), (⟨c.Depth, (2 : Int), (8 : Int)⟩ : text_bound), (⟨c.TS, (1 : Int), (1048576 : Int)⟩ : text_bound), (⟨c.KeyLen, (1 : Int), (64 : Int)⟩ : text_bound), (⟨c.ValLen, (0 : Int), (256 : Int)⟩ : text_bound), (⟨c.Fan, (3 : Int), (8 : Int)⟩ : text_bound)] : List text_bound) (i : Int)).high))) = true then some (.inl false) else text_May_l0 c k ((i + 1 : Nat) : Int)) := by
  have h1 : (i : Int) < 8 := by omega
  have h2 : 0 ≤ (i : Int) ∧ (i : Int) < 8 := by omega
  rw [text_May_l0.eq_2, wr (x := (i : Int) + 1) (by omega) (by omega)]
  simp only [h1, decide_true, if_true, h2, and_self, rng, show ((i : Int) + 1) = ((i + 1 : Nat) : Int) by omega]
theorem May_end (c : api_Config) (k : Nat) : text_May_l0 c (k + 1) ((8 : Nat) : Int) = some (.inr ()) := by
  rw [text_May_l0.eq_2]; rfl
theorem May_def (k : Nat) (c : api_Config) (hk : 9 ≤ k) : text_May k c = some (mayB c) := by
  obtain ⟨k, rfl⟩ : ∃ k', k = k' + 9 := ⟨k - 9, by omega⟩
  unfold text_May
  rw [show (0 : Int) = ((0 : Nat) : Int) from rfl, May_step c (k + 8) 0 (by omega), May_step c (k + 7) 1 (by omega), May_step c (k + 6) 2 (by omega), May_step c (k + 5) 3 (by omega), May_step c (k + 4) 4 (by omega), May_step c (k + 3) 5 (by omega), May_step c (k + 2) 6 (by omega), May_step c (k + 1) 7 (by omega), May_end c k]
  simp only [rd, Int.toNat_natCast, List.getD_cons_zero, List.getD_cons_succ, Nat.zero_add, mayB]
  generalize (decide (c.Tasks ≥ 1) && decide (c.Tasks ≤ 6)) = b1
  generalize (decide (c.Active ≥ 1) && decide (c.Active ≤ 8)) = b2
  generalize (decide (c.Keys ≥ 1) && decide (c.Keys ≤ 64)) = b3
  generalize (decide (c.Depth ≥ 2) && decide (c.Depth ≤ 8)) = b4
  generalize (decide (c.TS ≥ 1) && decide (c.TS ≤ 1048576)) = b5
  generalize (decide (c.KeyLen ≥ 1) && decide (c.KeyLen ≤ 64)) = b6
  generalize (decide (c.ValLen ≥ 0) && decide (c.ValLen ≤ 256)) = b7
  generalize (decide (c.Fan ≥ 3) && decide (c.Fan ≤ 8)) = b8
  revert b1 b2 b3 b4 b5 b6 b7 b8
  decide

end Go.Proofs.YtkknoimjgifhlaaDoor
