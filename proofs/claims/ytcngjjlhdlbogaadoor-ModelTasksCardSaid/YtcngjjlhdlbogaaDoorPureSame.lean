/-  Two models that are the same tell the same. -/
import Derived.Test.YtcngjjlhdlbogaaDoorPureModel3
namespace Go.Proofs.YtcngjjlhdlbogaaDoor
open Go Go.RowKit
set_option linter.unusedVariables false
set_option linter.unusedSimpArgs false
set_option maxRecDepth 100000
def retS (m : Mod) : List Str → Int
  | [] => 0
  | y :: t => ((rowOf m y).l.length : Int) + imin 1 (rowOf m y).intent.Writer + retS m t
theorem imin1 {x : Int} (h : 0 ≤ x) : 0 ≤ imin 1 x ∧ imin 1 x ≤ 1 := by unfold imin; split <;> omega
theorem retS_bound {n : Nat} {m : Mod} (I : Inv n m) : ∀ L : List Str, 0 ≤ retS m L ∧ retS m L ≤ (L.length : Int) * ((n : Int) + 1)
  | [] => by simp [retS]
  | y :: t => by
    have ih := retS_bound I t
    have h := I.row y
    have := imin1 h.2
    have e : ((t.length : Int) + 1) * ((n : Int) + 1) = (t.length : Int) * ((n : Int) + 1) + ((n : Int) + 1) := by rw [Int.add_mul, Int.one_mul]
    simp only [retS, List.length_cons]
    rw [show (((t.length + 1 : Nat)) : Int) = (t.length : Int) + 1 from rfl, e]
    omega
theorem ret_l0 {n : Nat} {m : Mod} (I : Inv n m) (hn : n ≤ 1000000) (L : List Str) (hL : L.length ≤ 1000000) : ∀ (j i : Nat) (s : Int), i + j = L.length → 0 ≤ s → s ≤ (i : Int) * ((n : Int) + 1) → ∀ k, j < k →
    model_Model_Retained_POOOO_l0 m L k s (i : Int) = some (s + retS m (L.drop i)) := by
  intro j
  induction j with
  | zero =>
    intro i s hi h0 h1 k hk
    obtain ⟨k, rfl⟩ : ∃ k', k = k' + 1 := ⟨k - 1, by omega⟩
    rw [model_Model_Retained_POOOO_l0.eq_2, List.drop_of_length_le (by omega)]
    have : ¬ ((i : Int) < (L.length : Int)) := by omega
    simp [this, retS]
  | succ j ih =>
    intro i s hi h0 h1 k hk
    obtain ⟨k, rfl⟩ : ∃ k', k = k' + 1 := ⟨k - 1, by omega⟩
    have hlt : i < L.length := by omega
    have h3 : (i : Int) < (L.length : Int) := by omega
    have h := I.row L[i]
    have hm := imin1 h.2
    have e : ((i : Int) + 1) * ((n : Int) + 1) = (i : Int) * ((n : Int) + 1) + ((n : Int) + 1) := by rw [Int.add_mul, Int.one_mul]
    have hb : (i : Int) * ((n : Int) + 1) ≤ 1000000 * 1000001 := Int.mul_le_mul (by omega) (by omega) (by omega) (by omega)
    rw [model_Model_Retained_POOOO_l0.eq_2, List.drop_eq_getElem_cons hlt, retS]
    simp only [h3, decide_true, if_true, inR hlt, and_self, rdN hlt, wr1 (i := i) (by omega)]
    change model_Model_Retained_POOOO_l0 m L k (IntKind.i64.wrap (s + IntKind.i64.wrap (((rowOf m L[i]).l.length : Int) + imin 1 (rowOf m L[i]).intent.Writer))) _ = _
    rw [wr (x := ((rowOf m L[i]).l.length : Int) + imin 1 (rowOf m L[i]).intent.Writer) (by omega) (by omega), wr (x := s + _) (by omega) (by omega)]
    rw [ih (i + 1) _ (by omega) (by omega) (by rw [show (((i + 1 : Nat)) : Int) = (i : Int) + 1 from rfl, e]; omega) k (by omega)]
    congr 1; omega
theorem Ret_ev {n : Nat} {m : Mod} (I : Inv n m) (hn : n ≤ 1000000) : Ev (fun k => model_Model_Retained_POOOO k m) (retS m (keysS m)) := by
  have := I.rl
  have hl := keysS_len m
  refine ⟨n + 1, fun k hk => ?_⟩
  show Option.bind (model_Model_Keys_POOOO k m) _ = _
  rw [Keys_eq I hn]
  have h := ret_l0 I hn (keysS m) (by omega) (keysS m).length 0 0 (by omega) (by omega) (by simp) k (by omega)
  show Option.bind (model_Model_Retained_POOOO_l0 m (keysS m) k 0 ((0 : Nat) : Int)) _ = _
  rw [h]; simp
def vers (m : Mod) (y : Str) : List Ver := (rowOf m y).l
theorem Vers_eq {n : Nat} {m : Mod} (I : Inv n m) (hn : n ≤ 1000000) (k : Nat) (y : Str) : model_Model_Versions_POOOO k m y = some (rowOf m y).l := by
  have := (I.row y).1
  simp only [model_Model_Versions_POOOO, slices_Clone_api_Version_api_Version]
  change Option.bind (if ([] : List api_Version).length + (rowOf m y).l.length ≤ _ then _ else _) _ = _
  rw [if_pos (by simp; omega)]; rfl
theorem Intent_eq (m : Mod) (k : Nat) (y : Str) : model_Model_Intent_POOOO k m y = some ((rowOf m y).intent, (rowOf m y).intent.Writer != 0) := rfl
instance : DecidableEq model_row := fun a b => decidable_of_iff (a.l = b.l ∧ a.intent = b.intent) (by cases a; cases b; simp)
/-- What is compared of two models. -/
def sameK (a b : Mod) : List Str → List Str → Bool
  | x :: t, y :: u => decide (x = y) && decide (rowOf a x = rowOf b x) && sameK a b t u
  | _, _ => true
def sameS (a b : Mod) : Bool := decide ((keysS a).length = (keysS b).length) && decide (retS a (keysS a) = retS b (keysS b)) && decide (activeN a = activeN b) && decide (a.clock = b.clock) && decide (a.floor = b.floor) && sameK a b (keysS a) (keysS b)
theorem same_l0 {n : Nat} {a b : Mod} (I : Inv n a) (J : Inv n b) (hn : n ≤ 1000000) (A B : List Str) (hl : A.length = B.length) (hL : A.length ≤ 1000000) : ∀ (j i : Nat), i + j = A.length → ∀ k, j + n + 1 < k →
    ferrymanlaw16_same_POOOO_POOOO_l0 a b A B k (i : Int) = some (if sameK a b (A.drop i) (B.drop i) = true then .inr () else .inl false) := by
  intro j
  induction j with
  | zero =>
    intro i hi k hk
    obtain ⟨k, rfl⟩ : ∃ k', k = k' + 1 := ⟨k - 1, by omega⟩
    rw [ferrymanlaw16_same_POOOO_POOOO_l0.eq_2, List.drop_of_length_le (by omega), List.drop_of_length_le (by omega)]
    have : ¬ ((i : Int) < (A.length : Int)) := by omega
    simp [this, sameK]
  | succ j ih =>
    intro i hi k hk
    obtain ⟨k, rfl⟩ : ∃ k', k = k' + 1 := ⟨k - 1, by omega⟩
    have h1 : i < A.length := by omega
    have h2 : i < B.length := by omega
    have h3 : (i : Int) < (A.length : Int) := by omega
    have h4 := (I.row A[i]).1
    have sn : sbin .neq A[i] B[i] = !decide (A[i] = B[i]) := by
      simp only [sbin]
      by_cases h : A[i] = B[i] <;> simp [h]
    have key : rowOf a A[i] = rowOf b A[i] ↔ (rowOf a A[i]).l = (rowOf b A[i]).l ∧ (rowOf a A[i]).intent = (rowOf b A[i]).intent := by
      constructor
      · intro h; rw [h]; exact ⟨rfl, rfl⟩
      · rintro ⟨e1, e2⟩
        generalize rowOf a A[i] = x at *
        generalize rowOf b A[i] = y at *
        cases x; cases y; simp_all
    rw [ferrymanlaw16_same_POOOO_POOOO_l0.eq_2, List.drop_eq_getElem_cons h1, List.drop_eq_getElem_cons h2, sameK]
    simp only [h3, decide_true, if_true, inR h1, inR h2, and_self, rdN h1, rdN h2, wr1 (i := i) (by omega), Intent_eq, Vers_eq I hn, Vers_eq J hn, Option.bind_some, ver_beq, sn, Same_eq (rowOf a A[i]).l (rowOf b A[i]).l (by omega) k (by omega), ih (i + 1) (by omega) k (by omega)]
    by_cases c1 : A[i] = B[i]
    · by_cases c2 : (rowOf a A[i]).intent = (rowOf b A[i]).intent
      · by_cases c3 : (rowOf a A[i]).l = (rowOf b A[i]).l
        · have : rowOf a A[i] = rowOf b A[i] := key.2 ⟨c3, c2⟩
          simp only [c1, decide_true, Bool.not_true, Bool.false_or, Bool.true_and] at *
          simp [this, c3, c2]
        · have : ¬ rowOf a A[i] = rowOf b A[i] := fun h => c3 (key.1 h).1
          simp [c2, c3, this]
      · have : ¬ rowOf a A[i] = rowOf b A[i] := fun h => c2 (key.1 h).2
        simp [c2, this]
    · simp [c1]
theorem same_ev {n : Nat} {a b : Mod} (I : Inv n a) (J : Inv n b) (hn : n ≤ 1000000) : Ev (fun k => ferrymanlaw16_same_POOOO_POOOO k a b) (sameS a b) := by
  unfold ferrymanlaw16_same_POOOO_POOOO
  refine Ev.bind ⟨0, fun k _ => Keys_eq I hn k⟩ ?_
  refine Ev.bind ⟨0, fun k _ => Keys_eq J hn k⟩ ?_
  have hi := I.rl
  have hj := J.rl
  have la := keysS_len a
  have lb := keysS_len b
  refine Ev.bind (v := !(decide ((keysS a).length = (keysS b).length) && decide (retS a (keysS a) = retS b (keysS b)))) ?_ ?_
  · by_cases c : (keysS a).length = (keysS b).length
    · refine Ev.neg (by simp [c]) ?_
      refine Ev.eq (v := (retS a (keysS a) != retS b (keysS b))) ((Ret_ev I hn).bind ((Ret_ev J hn).bind (Ev.pure _))) ?_
      by_cases d : retS a (keysS a) = retS b (keysS b) <;> simp [c, d]
    · refine Ev.pos (by simp; omega) ((Ev.pure _).eq ?_)
      simp [c]
  refine Ev.bind (v := !(decide ((keysS a).length = (keysS b).length) && decide (retS a (keysS a) = retS b (keysS b)) && decide (activeN a = activeN b))) ?_ ?_
  · cases (decide ((keysS a).length = (keysS b).length) && decide (retS a (keysS a) = retS b (keysS b))) with
    | false => exact Ev.pos rfl (Ev.pure _)
    | true =>
      refine Ev.neg (by simp) ?_
      refine Ev.eq (v := ((activeN a : Int) != (activeN b : Int))) ((Active_ev I hn).bind ((Active_ev J hn).bind (Ev.pure _))) ?_
      by_cases d : activeN a = activeN b
      · simp [d]
      · have : ¬ (activeN a : Int) = (activeN b : Int) := by omega
        simp [d, this]
  refine Ev.bind (v := !(decide ((keysS a).length = (keysS b).length) && decide (retS a (keysS a) = retS b (keysS b)) && decide (activeN a = activeN b) && decide (a.clock = b.clock))) ?_ ?_
  · cases (decide ((keysS a).length = (keysS b).length) && decide (retS a (keysS a) = retS b (keysS b)) && decide (activeN a = activeN b)) with
    | false => exact Ev.pos rfl (Ev.pure _)
    | true =>
      refine Ev.neg (by simp) ?_
      refine Ev.eq (v := a.clock != b.clock) ⟨0, fun k _ => rfl⟩ ?_
      by_cases d : a.clock = b.clock <;> simp [d]
  refine Ev.bind (v := !(decide ((keysS a).length = (keysS b).length) && decide (retS a (keysS a) = retS b (keysS b)) && decide (activeN a = activeN b) && decide (a.clock = b.clock) && decide (a.floor = b.floor))) ?_ ?_
  · cases (decide ((keysS a).length = (keysS b).length) && decide (retS a (keysS a) = retS b (keysS b)) && decide (activeN a = activeN b) && decide (a.clock = b.clock)) with
    | false => exact Ev.pos rfl (Ev.pure _)
    | true =>
      refine Ev.neg (by simp) ?_
      refine Ev.eq (v := a.floor != b.floor) ⟨0, fun k _ => rfl⟩ ?_
      by_cases d : a.floor = b.floor <;> simp [d]
  unfold sameS
  cases hq : (decide ((keysS a).length = (keysS b).length) && decide (retS a (keysS a) = retS b (keysS b)) && decide (activeN a = activeN b) && decide (a.clock = b.clock) && decide (a.floor = b.floor)) with
  | false => exact Ev.pos rfl (Ev.pure _)
  | true =>
    refine Ev.neg (by simp) ?_
    have hl : (keysS a).length = (keysS b).length := by
      simp only [Bool.and_eq_true, decide_eq_true_eq] at hq; exact hq.1.1.1.1
    refine Ev.bind (v := if sameK a b (keysS a) (keysS b) = true then .inr () else .inl false) ⟨(keysS a).length + n + 2, fun k hk => ?_⟩ ?_
    · have := same_l0 I J hn (keysS a) (keysS b) hl (by omega) (keysS a).length 0 (by omega) k (by omega)
      rw [List.drop_zero, List.drop_zero] at this
      exact this
    · cases sameK a b (keysS a) (keysS b) <;> exact Ev.pure _
theorem sameK_refl (a : Mod) : ∀ L : List Str, sameK a a L L = true
  | [] => rfl
  | x :: t => by simp [sameK, sameK_refl a t]
theorem sameS_refl (a : Mod) : sameS a a = true := by simp [sameS, sameK_refl]
end Go.Proofs.YtcngjjlhdlbogaaDoor
