/-  Two models that are the same tell the same. -/
import Derived.Test.YtcngjjlhdlbogaaDoorPureModel3
namespace Go.Proofs.YtcngjjlhdlbogaaDoor
open Go Go.RowKit
set_option linter.unusedVariables false
set_option linter.unusedSimpArgs false
set_option maxRecDepth 100000
def retS (m : Mod) : List Str → Int
  | [] => 0
  | y :: t => ((rowOf m y).l.length : Int) + imin 1 (rowOf m y).intent.Writer + retS m t
theorem imin1 {x : Int} (h : 0 ≤ x) : 0 ≤ imin 1 x ∧ imin 1 x ≤ 1 := by unfold imin; split <;> omega
theorem retS_bound {n : Nat} {m : Mod} (I : Inv n m) : ∀ L : List Str, 0 ≤ retS m L ∧ retS m L ≤ (L.length : Int) * ((n : Int) + 1)
  | [] => by simp [retS]
  | y :: t => by
    have ih := retS_bound I t
    have h := I.row y
    have := imin1 h.2
    have e : ((t.length : Int) + 1) * ((n : Int) + 1) = (t.length : Int) * ((n : Int) + 1) + ((n : Int) + 1) := by rw [Int.add_mul, Int.one_mul]
    simp only [retS, List.length_cons]
    rw [show (((t.length + 1 : Nat)) : Int) = (t.length : Int) + 1 from rfl, e]
    omega
theorem ret_l0 {n : Nat} {m : Mod} (I : Inv n m) (hn : n ≤ 1000000) (L : List Str) (hL : L.length ≤ 1000000) : ∀ (j i : Nat) (s : Int), i + j = L.length → 0 ≤ s → s ≤ (i : Int) * ((n : Int) + 1) → ∀ k, j < k →
    model_Model_Retained_POOOO_l0 m L k s (i : Int) = some (s + retS m (L.drop i)) := by
  intro j
  induction j with
  | zero =>
    intro i s hi h0 h1 k hk
    obtain ⟨k, rfl⟩ : ∃ k', k = k' + 1 := ⟨k - 1, by omega⟩
    rw [model_Model_Retained_POOOO_l0.eq_2, List.drop_of_length_le (by omega)]
    have : ¬ ((i : Int) < (L.length : Int)) := by omega
    simp [this, retS]
  | succ j ih =>
    intro i s hi h0 h1 k hk
    obtain ⟨k, rfl⟩ : ∃ k', k = k' + 1 := ⟨k - 1, by omega⟩
    have hlt : i < L.length := by omega
    have h3 : (i : Int) < (L.length : Int) := by omega
    have h := I.row L[i]
    have hm := imin1 h.2
    have e : ((i : Int) + 1) * ((n : Int) + 1) = (i : Int) * ((n : Int) + 1) + ((n : Int) + 1) := by rw [Int.add_mul, Int.one_mul]
    have hb : (i : Int) * ((n : Int) + 1) ≤ 1000000 * 1000001 := Int.mul_le_mul (by omega) (by omega) (by omega) (by omega)
    rw [model_Model_Retained_POOOO_l0.eq_2, List.drop_eq_getElem_cons hlt, retS]
    simp only [h3, decide_true, if_true, inR hlt, and_self, rdN hlt, wr1 (i := i) (by omega)]
    change model_Model_Retained_POOOO_l0 m L k (IntKind.i64.wrap (s + IntKind.i64.wrap (((rowOf m L[i]).l.length : Int) + imin 1 (rowOf m L[i]).intent.Writer))) _ = _
    rw [wr (x := ((rowOf m L[i]).l.length : Int) + imin 1 (rowOf m L[i]).intent.Writer) (by omega) (by omega), wr (x := s + _) (by omega) (by omega)]
    rw [ih (i + 1) _ (by omega) (by omega) (by rw [show (((i + 1 : Nat)) : Int) = (i : Int) + 1 from rfl, e]; omega) k (by omega)]
    congr 1; omega
theorem Ret_ev {n : Nat} {m : Mod} (I : Inv n m) (hn : n ≤ 1000000) : Ev (fun k => model_Model_Retained_POOOO k m) (retS m (keysS m)) := by
  have := I.rl
  have hl := keysS_len m
  refine ⟨n + 1, fun k hk => ?_⟩
  show Option.bind (model_Model_Keys_POOOO k m) _ = _
  rw [Keys_eq I hn]
  have h := ret_l0 I hn (keysS m) (by omega) (keysS m).length 0 0 (by omega) (by omega) (by simp) k (by omega)
  show Option.bind (model_Model_Retained_POOOO_l0 m (keysS m) k 0 ((0 : Nat) : Int)) _ = _
  rw [h]; simp
instance : DecidableEq model_row := fun a b => decidable_of_iff (a.l = b.l ∧ a.intent = b.intent) (by cases a; cases b; simp)
end Go.Proofs.YtcngjjlhdlbogaaDoor
