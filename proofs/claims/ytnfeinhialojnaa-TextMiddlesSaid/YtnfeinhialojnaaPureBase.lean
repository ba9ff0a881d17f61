/-  The plain laws of layer 2: what its functions tell, in closed form. -/
import Derived.Test.YtnfeinhialojnaaOpnt1
namespace Go.Proofs.Ytnfeinhialojnaa
open Go Go.RowKit
set_option linter.unusedVariables false
set_option linter.unusedSimpArgs false

theorem wr {x : Int} (h : -9223372036854775808 ≤ x) (h' : x ≤ 9223372036854775807) : IntKind.i64.wrap x = x := by
  simp [IntKind.wrap, IntKind.bits, IntKind.signed]
  omega
abbrev cmp (a b : Str) : Int := Lib.compareBytes a b
theorem cmp_nil : cmp [] [] = 0 := rfl
theorem cmp_self : ∀ a : Str, cmp a a = 0
  | [] => rfl
  | x :: a => by
    have h : ¬ x < x := by simp [UInt8.lt_iff_toNat_lt]
    simp only [cmp, Lib.compareBytes, h, if_false]; exact cmp_self a
theorem cmp_range : ∀ a b : Str, cmp a b = -1 ∨ cmp a b = 0 ∨ cmp a b = 1
  | [], [] => .inr (.inl rfl)
  | [], _ :: _ => .inl rfl
  | _ :: _, [] => .inr (.inr rfl)
  | x :: a, y :: b => by
    simp only [cmp, Lib.compareBytes]
    split
    · exact .inl rfl
    · split
      · exact .inr (.inr rfl)
      · exact cmp_range a b
theorem u8_eq {x y : UInt8} (h : ¬ x < y) (h' : ¬ y < x) : x = y := by
  rw [UInt8.lt_iff_toNat_lt] at h h'
  exact UInt8.toNat_inj.1 (by omega)
theorem cmp_eq : ∀ a b : Str, cmp a b = 0 ↔ a = b
  | [], [] => by simp [cmp, Lib.compareBytes]
  | [], _ :: _ => by simp [cmp, Lib.compareBytes]
  | _ :: _, [] => by simp [cmp, Lib.compareBytes]
  | x :: a, y :: b => by
    simp only [cmp, Lib.compareBytes]
    by_cases h : x < y
    · have : x ≠ y := fun e => by subst e; simp [UInt8.lt_iff_toNat_lt] at h
      simp [h, this]
    · by_cases h' : y < x
      · have : x ≠ y := fun e => by subst e; simp [UInt8.lt_iff_toNat_lt] at h'
        simp [h, h', this]
      · have e := u8_eq h h'
        subst e
        simp only [h, if_false, List.cons.injEq, true_and]; exact cmp_eq a b
theorem cmp_symm : ∀ a b : Str, cmp b a = - cmp a b
  | [], [] => rfl
  | [], _ :: _ => rfl
  | _ :: _, [] => rfl
  | x :: a, y :: b => by
    simp only [cmp, Lib.compareBytes]
    by_cases h : x < y
    · have h' : ¬ y < x := by rw [UInt8.lt_iff_toNat_lt] at h ⊢; omega
      simp [h, h']
    · by_cases h' : y < x
      · simp [h, h']
      · simp only [h, h', if_false]; exact cmp_symm a b
theorem cmp_trans : ∀ a b c : Str, cmp a b ≤ 0 → cmp b c ≤ 0 → cmp a c ≤ 0 ∧ (cmp a c = 0 → cmp a b = 0 ∧ cmp b c = 0)
  | [], [], c => fun _ h => ⟨h, fun h => ⟨rfl, h⟩⟩
  | [], y :: b, [] => fun _ h => by simp [cmp, Lib.compareBytes] at h
  | [], y :: b, z :: c => fun _ _ => by simp [cmp, Lib.compareBytes]
  | x :: a, [], c => fun h _ => by simp [cmp, Lib.compareBytes] at h
  | x :: a, y :: b, [] => fun _ h => by simp [cmp, Lib.compareBytes] at h
  | x :: a, y :: b, z :: c => fun h k => by
    have ih := cmp_trans a b c
    simp only [cmp, Lib.compareBytes, UInt8.lt_iff_toNat_lt] at h k ⊢ ih
    by_cases h1 : x.toNat < y.toNat
    · by_cases h2 : y.toNat < z.toNat
      · have : x.toNat < z.toNat := by omega
        simp [this]
      · rw [if_neg h2] at k
        by_cases h3 : z.toNat < y.toNat
        · rw [if_pos h3] at k; omega
        · have : x.toNat < z.toNat := by omega
          simp [this]
    · rw [if_neg h1] at h
      by_cases h2 : y.toNat < x.toNat
      · rw [if_pos h2] at h; omega
      · rw [if_neg h2] at h
        by_cases h3 : y.toNat < z.toNat
        · have : x.toNat < z.toNat := by omega
          simp [this]
        · rw [if_neg h3] at k
          by_cases h4 : z.toNat < y.toNat
          · rw [if_pos h4] at k; omega
          · rw [if_neg h4] at k
            have e1 : ¬ x.toNat < z.toNat := by omega
            have e2 : ¬ z.toNat < x.toNat := by omega
            simp only [h1, h2, h3, h4, e1, e2, if_false]
            exact ih h k
theorem less_cmp : ∀ a b : Str, sless a b = decide (cmp a b < 0)
  | [], [] => rfl
  | [], _ :: _ => rfl
  | _ :: _, [] => rfl
  | x :: a, y :: b => by
    have ih := less_cmp a b
    unfold sless at ih ⊢
    simp only [Op.bytesLess, cmp, Lib.compareBytes] at ih ⊢
    by_cases h : x < y
    · simp [h]
    · by_cases h' : y < x
      · have : x ≠ y := fun e => by subst e; exact h h'
        simp [h, h', this]
      · have e := u8_eq h h'
        subst e
        simp [h, ih]
theorem beq_cmp (a b : Str) : (a == b) = decide (cmp a b = 0) := by
  by_cases h : a = b
  · subst h; simp [cmp_self]
  · have : cmp a b ≠ 0 := fun e => h ((cmp_eq a b).1 e)
    simp [h, this]
theorem beq_dec (a b : Str) : (a == b) = decide (a = b) := by by_cases h : a = b <;> simp [h]
theorem sb_eql (a b : Str) : sbin .eql a b = decide (a = b) := beq_dec a b
theorem sb_neq (a b : Str) : sbin .neq a b = !decide (a = b) := congrArg not (beq_dec a b)
theorem sb_lss (a b : Str) : sbin .lss a b = decide (cmp a b < 0) := by simp [sbin, less_cmp]
theorem sb_leq (a b : Str) : sbin .leq a b = decide (cmp a b ≤ 0) := by
  simp only [sbin, less_cmp, beq_cmp]
  rcases cmp_range a b with h | h | h <;> simp [h]

/-! ### What they have in common -/
def pre : Str → Str → Nat
  | x :: a, y :: b => if x = y then pre a b + 1 else 0
  | _, _ => 0
theorem pre_l : ∀ a b : Str, pre a b ≤ a.length
  | [], b => by simp [pre]
  | x :: a, [] => by simp [pre]
  | x :: a, y :: b => by simp only [pre, List.length_cons]; have := pre_l a b; split <;> omega
theorem pre_r : ∀ a b : Str, pre a b ≤ b.length
  | [], b => by simp [pre]
  | x :: a, [] => by simp [pre]
  | x :: a, y :: b => by simp only [pre, List.length_cons]; have := pre_r a b; split <;> omega
theorem pre_eq : ∀ (a b : Str) (i : Nat), i < pre a b → a.getD i 0 = b.getD i 0
  | [], b, i => by simp [pre]
  | x :: a, [], i => by simp [pre]
  | x :: a, y :: b, i => by
    simp only [pre]
    split
    · rename_i e; subst e
      cases i with
      | zero => intro _; rfl
      | succ i => intro h; simpa using pre_eq a b i (by omega)
    · intro h; omega
theorem pre_ne : ∀ (a b : Str), pre a b < a.length → pre a b < b.length → a.getD (pre a b) 0 ≠ b.getD (pre a b) 0
  | [], b => by simp [pre]
  | x :: a, [] => by simp [pre]
  | x :: a, y :: b => by
    simp only [pre, List.length_cons]
    split
    · rename_i e; subst e
      intro h h'
      simpa using pre_ne a b (by omega) (by omega)
    · rename_i e; intro _ _; simpa using e
theorem pre_uniq {a b : Str} {n : Nat} (h1 : n ≤ a.length) (h2 : n ≤ b.length) (h3 : ∀ i, i < n → a.getD i 0 = b.getD i 0) (h4 : n < a.length → n < b.length → a.getD n 0 ≠ b.getD n 0) : pre a b = n := by
  rcases Nat.lt_trichotomy (pre a b) n with h | h | h
  · exact absurd (h3 _ h) (pre_ne a b (by omega) (by omega))
  · exact h
  · exact absurd (pre_eq a b n h) (h4 (by have := pre_l a b; omega) (by have := pre_r a b; omega))
theorem pre_take (a b : Str) : a.take (pre a b) = b.take (pre a b) := by
  have h1 := pre_l a b
  have h2 := pre_r a b
  apply List.ext_getElem
  · simp; omega
  · intro i hi hj
    have hip : i < pre a b := by simp at hi; omega
    have := pre_eq a b i hip
    simp only [List.getElem_take]
    rw [List.getD_eq_getElem?_getD, List.getD_eq_getElem?_getD, List.getElem?_eq_getElem (by omega), List.getElem?_eq_getElem (by omega)] at this
    simpa using this
theorem cmp_pre : ∀ a b : Str, cmp a b = if pre a b < a.length ∧ pre a b < b.length then (if (a.getD (pre a b) 0).toNat < (b.getD (pre a b) 0).toNat then -1 else 1) else if a.length < b.length then -1 else if a.length > b.length then 1 else 0
  | [], [] => by simp [pre, cmp, Lib.compareBytes]
  | [], _ :: _ => by simp [pre, cmp, Lib.compareBytes]
  | _ :: _, [] => by simp [pre, cmp, Lib.compareBytes]
  | x :: a, y :: b => by
    have ih := cmp_pre a b
    simp only [cmp, Lib.compareBytes] at ih ⊢
    by_cases e : x = y
    · subst e
      have h : ¬ x < x := by simp [UInt8.lt_iff_toNat_lt]
      simp only [h, if_false, pre, if_true, List.length_cons, Nat.add_lt_add_iff_right, List.getD_cons_succ, gt_iff_lt]
      exact ih
    · simp only [pre, e, if_false, List.length_cons, Nat.zero_lt_succ, and_self, if_true, List.getD_cons_zero, UInt8.lt_iff_toNat_lt]
      by_cases h : x.toNat < y.toNat
      · simp [h]
      · have : y.toNat < x.toNat := by
          have : x.toNat ≠ y.toNat := fun e' => e (UInt8.toNat_inj.1 e')
          omega
        simp [h, this]
theorem cmp_app (c : Str) (a b : Str) : cmp (c ++ a) (c ++ b) = cmp a b := by
  induction c with
  | nil => rfl
  | cons x c ih =>
    have h : ¬ x < x := by simp [UInt8.lt_iff_toNat_lt]
    simp only [List.cons_append, cmp, Lib.compareBytes, h, if_false]; exact ih
theorem pre_app (c : Str) (a b : Str) : pre (c ++ a) (c ++ b) = c.length + pre a b := by
  induction c with
  | nil => simp
  | cons x c ih => simp only [List.cons_append, pre, if_true, ih, List.length_cons]; omega
theorem getD_app {a p : Str} {i : Nat} (h : i < a.length) : (a ++ p).getD i 0 = a.getD i 0 := by
  rw [List.getD_eq_getElem?_getD, List.getD_eq_getElem?_getD, List.getElem?_append_left h]
theorem cmp_behind (a b p q : Str) (h1 : pre a b < a.length) (h2 : pre a b < b.length) : cmp (a ++ p) (b ++ q) = cmp a b := by
  have e : pre (a ++ p) (b ++ q) = pre a b := by
    refine pre_uniq (by simp; omega) (by simp; omega) (fun i hi => ?_) (fun _ _ => ?_)
    · rw [getD_app (by omega), getD_app (by omega)]; exact pre_eq a b i hi
    · rw [getD_app h1, getD_app h2]; exact pre_ne a b h1 h2
  have c1 : pre a b < (a ++ p).length ∧ pre a b < (b ++ q).length := ⟨by simp; omega, by simp; omega⟩
  have c2 : pre a b < a.length ∧ pre a b < b.length := ⟨h1, h2⟩
  rw [cmp_pre (a ++ p), cmp_pre a b, e, getD_app h1, getD_app h2]
  simp only [c1, c2, and_self, if_true]

/-! ### The functions -/
theorem Compare_def (k : Nat) (a b : Str) : text_Compare k a b = some (cmp a b) := rfl
def resPre (a b : Str) : Int ⊕ Unit := if pre a b < a.length ∧ pre a b < b.length then .inl (pre a b : Int) else .inr ()
theorem imin_lt {a b : Nat} {i : Int} : i < imin (a : Int) (b : Int) ↔ i < (a : Int) ∧ i < (b : Int) := by
  unfold imin; split <;> omega
theorem byte_ne {x y : UInt8} : ((x.toNat : Int) != (y.toNat : Int)) = !decide (x = y) := by
  by_cases h : x = y
  · subst h; simp
  · have : x.toNat ≠ y.toNat := fun e => h (UInt8.toNat_inj.1 e)
    have : (x.toNat : Int) ≠ (y.toNat : Int) := by omega
    simp [h, this]
theorem byte_eq {x y : UInt8} : ((x.toNat : Int) == (y.toNat : Int)) = decide (x = y) := by
  by_cases h : x = y
  · subst h; simp
  · have : x.toNat ≠ y.toNat := fun e => h (UInt8.toNat_inj.1 e)
    have : (x.toNat : Int) ≠ (y.toNat : Int) := by omega
    simp [h, this]
theorem prefix_l0 (a b : Str) (ha : a.length ≤ 1000000) : ∀ (j k i : Nat), i + j = pre a b → j < k → text_Prefix_l0 a b k (i : Int) = some (resPre a b) := by
  have hl := pre_l a b
  have hr := pre_r a b
  intro j
  induction j with
  | zero =>
    intro k i h1 h2
    obtain ⟨k, rfl⟩ : ∃ k', k = k' + 1 := ⟨k - 1, by omega⟩
    obtain rfl : i = pre a b := by omega
    rw [text_Prefix_l0.eq_2]
    by_cases h : pre a b < a.length ∧ pre a b < b.length
    · have hne := pre_ne a b h.1 h.2
      have h3 : ((pre a b : Nat) : Int) < imin (a.length : Int) (b.length : Int) := imin_lt.2 ⟨by omega, by omega⟩
      have h4 : 0 ≤ ((pre a b : Nat) : Int) ∧ ((pre a b : Nat) : Int) < (a.length : Int) := by omega
      have h5 : 0 ≤ ((pre a b : Nat) : Int) ∧ ((pre a b : Nat) : Int) < (b.length : Int) := by omega
      simp only [h3, decide_true, if_true, h4, and_self, h5, Int.toNat_natCast, byte_ne, hne, decide_false, Bool.not_false, resPre, h]
    · have h3 : ¬ ((pre a b : Nat) : Int) < imin (a.length : Int) (b.length : Int) := fun h' => h (by have := imin_lt.1 h'; omega)
      simp only [h3, decide_false, Bool.false_eq_true, if_false, resPre, h]
  | succ j ih =>
    intro k i h1 h2
    obtain ⟨k, rfl⟩ : ∃ k', k = k' + 1 := ⟨k - 1, by omega⟩
    have he := pre_eq a b i (by omega)
    have h3 : (i : Int) < imin (a.length : Int) (b.length : Int) := imin_lt.2 ⟨by omega, by omega⟩
    have h4 : 0 ≤ (i : Int) ∧ (i : Int) < (a.length : Int) := by omega
    have h5 : 0 ≤ (i : Int) ∧ (i : Int) < (b.length : Int) := by omega
    have := ih k (i + 1) (by omega) (by omega)
    rw [show ((i + 1 : Nat) : Int) = (i : Int) + 1 by omega] at this
    rw [text_Prefix_l0.eq_2, wr (by omega) (by omega)]
    simp only [h3, decide_true, if_true, h4, and_self, h5, Int.toNat_natCast, byte_ne, he, Bool.not_true, Bool.false_eq_true, if_false, this]
theorem Prefix_def (k : Nat) (a b : Str) (ha : a.length ≤ 1000000) (hk : a.length < k) : text_Prefix k a b = some (pre a b : Int) := by
  have hl := pre_l a b
  have hr := pre_r a b
  have h := prefix_l0 a b ha (pre a b) k 0 (by omega) (by omega)
  rw [show ((0 : Nat) : Int) = 0 from rfl] at h
  simp only [text_Prefix, h, Option.bind_some, resPre]
  split
  · rfl
  · simp only [Sum.elim_inr, Option.some.injEq]
    unfold imin; split <;> omega
theorem refPrefix_l0 (a b : Str) (ha : a.length ≤ 1000000) : ∀ (j k i : Nat), i + j = pre a b → j < k → ferrymanref02_Prefix_l0 a b k (i : Int) = some (pre a b : Int) := by
  have hl := pre_l a b
  have hr := pre_r a b
  intro j
  induction j with
  | zero =>
    intro k i h1 h2
    obtain ⟨k, rfl⟩ : ∃ k', k = k' + 1 := ⟨k - 1, by omega⟩
    obtain rfl : i = pre a b := by omega
    rw [ferrymanref02_Prefix_l0.eq_2]
    by_cases h : pre a b < a.length ∧ pre a b < b.length
    · have hne := pre_ne a b h.1 h.2
      have h4 : 0 ≤ ((pre a b : Nat) : Int) ∧ ((pre a b : Nat) : Int) < (a.length : Int) := by omega
      have h5 : 0 ≤ ((pre a b : Nat) : Int) ∧ ((pre a b : Nat) : Int) < (b.length : Int) := by omega
      simp only [h4.2, h5.2, decide_true, Bool.and_self, if_true, h4, and_self, h5, Int.toNat_natCast, byte_eq, hne, decide_false, Option.bind_some, Bool.false_eq_true, if_false]
    · have h3 : (decide (((pre a b : Nat) : Int) < (a.length : Int)) && decide (((pre a b : Nat) : Int) < (b.length : Int))) = false := by
        rw [Bool.and_eq_false_iff, decide_eq_false_iff_not, decide_eq_false_iff_not]; omega
      simp only [h3, Bool.false_eq_true, if_false, Option.bind_some]
  | succ j ih =>
    intro k i h1 h2
    obtain ⟨k, rfl⟩ : ∃ k', k = k' + 1 := ⟨k - 1, by omega⟩
    have he := pre_eq a b i (by omega)
    have h4 : 0 ≤ (i : Int) ∧ (i : Int) < (a.length : Int) := by omega
    have h5 : 0 ≤ (i : Int) ∧ (i : Int) < (b.length : Int) := by omega
    have := ih k (i + 1) (by omega) (by omega)
    rw [show ((i + 1 : Nat) : Int) = (i : Int) + 1 by omega] at this
    rw [ferrymanref02_Prefix_l0.eq_2, wr (x := (i : Int) + 1) (by omega) (by omega)]
    simp only [h4.2, h5.2, decide_true, Bool.and_self, if_true, h4, and_self, h5, Int.toNat_natCast, byte_eq, he, Option.bind_some, this]
theorem refPrefix_def (k : Nat) (a b : Str) (ha : a.length ≤ 1000000) (hk : a.length < k) : ferrymanref02_Prefix k a b = some (pre a b : Int) := by
  have hl := pre_l a b
  have h := refPrefix_l0 a b ha (pre a b) k 0 (by omega) (by omega)
  rw [show ((0 : Nat) : Int) = 0 from rfl] at h
  simp only [ferrymanref02_Prefix, h, Option.bind_some]
def resCmp (a b : Str) : Int ⊕ Unit := if pre a b < a.length ∧ pre a b < b.length then .inl (if (a.getD (pre a b) 0).toNat < (b.getD (pre a b) 0).toNat then -1 else 1) else .inr ()
theorem refCompare_l0 (a b : Str) (ha : a.length ≤ 1000000) : ∀ (j k i : Nat), i + j = pre a b → j < k → ferrymanref02_Compare_l0 a b k (i : Int) = some (resCmp a b) := by
  have hl := pre_l a b
  have hr := pre_r a b
  intro j
  induction j with
  | zero =>
    intro k i h1 h2
    obtain ⟨k, rfl⟩ : ∃ k', k = k' + 1 := ⟨k - 1, by omega⟩
    obtain rfl : i = pre a b := by omega
    rw [ferrymanref02_Compare_l0.eq_2]
    by_cases h : pre a b < a.length ∧ pre a b < b.length
    · have hne := pre_ne a b h.1 h.2
      have hne' : (a.getD (pre a b) 0).toNat ≠ (b.getD (pre a b) 0).toNat := fun e => hne (UInt8.toNat_inj.1 e)
      have h4 : 0 ≤ ((pre a b : Nat) : Int) ∧ ((pre a b : Nat) : Int) < (a.length : Int) := by omega
      have h5 : 0 ≤ ((pre a b : Nat) : Int) ∧ ((pre a b : Nat) : Int) < (b.length : Int) := by omega
      simp only [h4.2, h5.2, decide_true, Bool.and_self, if_true, h4, and_self, h5, Int.toNat_natCast, resCmp, h]
      by_cases h6 : (a.getD (pre a b) 0).toNat < (b.getD (pre a b) 0).toNat
      · have h7 : ((a.getD (pre a b) 0).toNat : Int) < ((b.getD (pre a b) 0).toNat : Int) := by omega
        simp only [h7, decide_true, if_true, h6]
      · have h7 : ¬ ((a.getD (pre a b) 0).toNat : Int) < ((b.getD (pre a b) 0).toNat : Int) := by omega
        have h8 : ((a.getD (pre a b) 0).toNat : Int) > ((b.getD (pre a b) 0).toNat : Int) := by omega
        simp only [h7, decide_false, Bool.false_eq_true, if_false, h8, decide_true, if_true, h6]
    · have h3 : (decide (((pre a b : Nat) : Int) < (a.length : Int)) && decide (((pre a b : Nat) : Int) < (b.length : Int))) = false := by
        rw [Bool.and_eq_false_iff, decide_eq_false_iff_not, decide_eq_false_iff_not]; omega
      simp only [h3, Bool.false_eq_true, if_false, resCmp, h]
  | succ j ih =>
    intro k i h1 h2
    obtain ⟨k, rfl⟩ : ∃ k', k = k' + 1 := ⟨k - 1, by omega⟩
    have he := pre_eq a b i (by omega)
    have h4 : 0 ≤ (i : Int) ∧ (i : Int) < (a.length : Int) := by omega
    have h5 : 0 ≤ (i : Int) ∧ (i : Int) < (b.length : Int) := by omega
    have := ih k (i + 1) (by omega) (by omega)
    rw [show ((i + 1 : Nat) : Int) = (i : Int) + 1 by omega] at this
    rw [ferrymanref02_Compare_l0.eq_2, wr (x := (i : Int) + 1) (by omega) (by omega)]
    simp only [h4.2, h5.2, decide_true, Bool.and_self, if_true, h4, and_self, h5, Int.toNat_natCast, he, Int.lt_irrefl, gt_iff_lt, decide_false, Bool.false_eq_true, if_false, this]
theorem refCompare_def (k : Nat) (a b : Str) (ha : a.length ≤ 1000000) (hk : a.length < k) : ferrymanref02_Compare k a b = some (cmp a b) := by
  have hl := pre_l a b
  have h := refCompare_l0 a b ha (pre a b) k 0 (by omega) (by omega)
  rw [show ((0 : Nat) : Int) = 0 from rfl] at h
  simp only [ferrymanref02_Compare, h, Option.bind_some, resCmp]
  rw [cmp_pre]
  by_cases h3 : pre a b < a.length ∧ pre a b < b.length
  · simp only [h3, and_self, if_true, Sum.elim_inl]
  · simp only [h3, if_false, Sum.elim_inr, decide_eq_true_eq, Int.ofNat_lt, gt_iff_lt]
    split
    · rfl
    · split <;> rfl
theorem Next_def (k : Nat) (a : Str) (ha : a.length ≤ 1000000) : text_Next k a = some (a ++ [0]) := by
  have : (a.length : Int) + (([0] : Str).length : Int) ≤ 9223372036854775807 := by
    have : (([0] : Str).length : Int) = 1 := rfl
    omega
  unfold text_Next
  rw [if_pos this]
theorem refNext_def (k : Nat) (a : Str) (ha : a.length ≤ 1000000) : ferrymanref02_Next k a = some (a ++ [0]) := by
  have e : bytesOf [0] = [0] := rfl
  have : (a.length : Int) + (([0] : Str).length : Int) ≤ 9223372036854775807 := by
    have : (([0] : Str).length : Int) = 1 := rfl
    omega
  unfold ferrymanref02_Next
  rw [e, if_pos this]
def within (a b c : Str) : Bool := decide (cmp b a ≤ 0) && (decide (c = []) || decide (cmp a c < 0))
theorem Within_def (k : Nat) (a b c : Str) : text_Within k a b c = some (within a b c) := by
  simp only [text_Within, within, sb_leq, sb_eql, sb_lss]
theorem refWithin_def (k : Nat) (a b c : Str) (ha : a.length ≤ 1000000) (hb : b.length ≤ 1000000) (h1 : a.length < k) (h2 : b.length < k) : ferrymanref02_Within k a b c = some (within a b c) := by
  simp only [ferrymanref02_Within, refCompare_def k _ _ ha h1, refCompare_def k _ _ hb h2, Option.bind_some, sb_eql, within]
  by_cases h3 : cmp b a ≤ 0
  · by_cases h4 : c = []
    · simp [h3, h4]
    · simp [h3, h4]
  · simp [h3]
/-! ### Suffixes -/
def sufN (a b : Str) (m : Int) : Nat := min m.toNat (pre a.reverse b.reverse)
theorem rev_at {a : Str} {i : Nat} (h : i < a.length) : a.getD (a.length - 1 - i) 0 = a.reverse.getD i 0 := by
  rw [List.getD_eq_getElem?_getD, List.getD_eq_getElem?_getD, List.getElem?_reverse h]
theorem sidx {a : Str} (ha : a.length ≤ 1000000) {i : Nat} (h : i < a.length) : IntKind.i64.wrap (IntKind.i64.wrap ((a.length : Int) - 1) - (i : Int)) = ((a.length - 1 - i : Nat) : Int) := by
  rw [wr (x := (a.length : Int) - 1) (by omega) (by omega), wr (by omega) (by omega)]; omega
def top3 (a b : Str) (m : Int) : Int := imax 0 (imin (imin m (a.length : Int)) (b.length : Int))
theorem top3_spec (a b : Str) (m : Int) : 0 ≤ top3 a b m ∧ (∀ i : Nat, (i : Int) < top3 a b m ↔ (i : Int) < m ∧ i < a.length ∧ i < b.length) := by
  unfold top3 imax imin
  refine ⟨by (repeat' split) <;> omega, fun i => ?_⟩
  (repeat' split) <;> omega
def resSuf (a b : Str) (m : Int) : Int ⊕ Unit := if ((sufN a b m : Nat) : Int) < top3 a b m then .inl (sufN a b m : Int) else .inr ()
theorem suf_l (a b : Str) (m : Int) : sufN a b m ≤ a.length ∧ sufN a b m ≤ b.length := by
  have h1 := pre_l a.reverse b.reverse
  have h2 := pre_r a.reverse b.reverse
  simp only [List.length_reverse] at h1 h2
  unfold sufN; omega
theorem suffix_l0 (a b : Str) (m : Int) (ha : a.length ≤ 1000000) (hb : b.length ≤ 1000000) : ∀ (j k i : Nat), i + j = sufN a b m → j < k → text_Suffix_l0 a b m k (i : Int) = some (resSuf a b m) := by
  have hs := suf_l a b m
  have ht := top3_spec a b m
  have et : imax 0 (imin (imin m (a.length : Int)) (b.length : Int)) = top3 a b m := rfl
  intro j
  induction j with
  | zero =>
    intro k i h1 h2
    obtain ⟨k, rfl⟩ : ∃ k', k = k' + 1 := ⟨k - 1, by omega⟩
    obtain rfl : i = sufN a b m := by omega
    rw [text_Suffix_l0.eq_2, et]
    by_cases h : ((sufN a b m : Nat) : Int) < top3 a b m
    · have h3 := (ht.2 _).1 h
      rw [sidx ha h3.2.1, sidx hb h3.2.2]
      have e : sufN a b m = pre a.reverse b.reverse := by unfold sufN at h3 ⊢; omega
      have hne := pre_ne a.reverse b.reverse (by simp; omega) (by simp; omega)
      rw [← e] at hne
      have h4 : 0 ≤ ((a.length - 1 - sufN a b m : Nat) : Int) ∧ ((a.length - 1 - sufN a b m : Nat) : Int) < (a.length : Int) := by omega
      have h5 : 0 ≤ ((b.length - 1 - sufN a b m : Nat) : Int) ∧ ((b.length - 1 - sufN a b m : Nat) : Int) < (b.length : Int) := by omega
      simp only [h, decide_true, if_true, h4, and_self, h5, Int.toNat_natCast, byte_ne, rev_at h3.2.1, rev_at h3.2.2, hne, decide_false, Bool.not_false, resSuf]
    · simp only [h, decide_false, Bool.false_eq_true, if_false, resSuf]
  | succ j ih =>
    intro k i h1 h2
    obtain ⟨k, rfl⟩ : ∃ k', k = k' + 1 := ⟨k - 1, by omega⟩
    have he := pre_eq a.reverse b.reverse i (by unfold sufN at h1; omega)
    have hi : (i : Int) < top3 a b m := (ht.2 i).2 ⟨by unfold sufN at h1; omega, by omega, by omega⟩
    have h3 := (ht.2 _).1 hi
    have h4 : 0 ≤ ((a.length - 1 - i : Nat) : Int) ∧ ((a.length - 1 - i : Nat) : Int) < (a.length : Int) := by omega
    have h5 : 0 ≤ ((b.length - 1 - i : Nat) : Int) ∧ ((b.length - 1 - i : Nat) : Int) < (b.length : Int) := by omega
    have := ih k (i + 1) (by omega) (by omega)
    rw [show ((i + 1 : Nat) : Int) = (i : Int) + 1 by omega] at this
    rw [text_Suffix_l0.eq_2, et, sidx ha h3.2.1, sidx hb h3.2.2, wr (x := (i : Int) + 1) (by omega) (by omega)]
    simp only [hi, decide_true, if_true, h4, and_self, h5, Int.toNat_natCast, byte_ne, rev_at h3.2.1, rev_at h3.2.2, he, Bool.not_true, Bool.false_eq_true, if_false, this]
theorem Suffix_def (k : Nat) (a b : Str) (m : Int) (ha : a.length ≤ 1000000) (hb : b.length ≤ 1000000) (hk : a.length < k) : text_Suffix k a b m = some (sufN a b m : Int) := by
  have hs := suf_l a b m
  have ht := top3_spec a b m
  have h := suffix_l0 a b m ha hb (sufN a b m) k 0 (by omega) (by omega)
  rw [show ((0 : Nat) : Int) = 0 from rfl] at h
  simp only [text_Suffix, h, Option.bind_some, resSuf]
  by_cases h3 : ((sufN a b m : Nat) : Int) < top3 a b m
  · simp only [h3, if_true, Sum.elim_inl]
  · simp only [h3, if_false, Sum.elim_inr, Option.some.injEq]
    show top3 a b m = _
    have h8 : top3 a b m ≤ 0 ∨ ¬ top3 a b m ≤ 0 := by omega
    rcases h8 with h4 | h4
    · have h9 : ¬ sufN a b m > 0 := fun h9 => by
        have := (ht.2 0).2 ⟨by unfold sufN at h9; omega, by omega, by omega⟩
        omega
      omega
    · have h5 := (ht.2 ((top3 a b m).toNat - 1)).1 (by omega)
      have h6 : ((sufN a b m : Nat) : Int) ≤ top3 a b m := by
        by_cases h7 : sufN a b m = 0
        · omega
        · have := (ht.2 (sufN a b m - 1)).2 ⟨by unfold sufN at h7 ⊢; omega, by omega, by omega⟩
          omega
      omega
theorem refSuffix_l0 (a b : Str) (m : Int) (ha : a.length ≤ 1000000) (hb : b.length ≤ 1000000) : ∀ (j k i : Nat), i + j = sufN a b m → j < k → ferrymanref02_Suffix_l0 a b m k (i : Int) = some (sufN a b m : Int) := by
  have hs := suf_l a b m
  intro j
  induction j with
  | zero =>
    intro k i h1 h2
    obtain ⟨k, rfl⟩ : ∃ k', k = k' + 1 := ⟨k - 1, by omega⟩
    obtain rfl : i = sufN a b m := by omega
    rw [ferrymanref02_Suffix_l0.eq_2]
    by_cases h : ((sufN a b m : Nat) : Int) < m ∧ ((sufN a b m : Nat) : Int) < (a.length : Int) ∧ ((sufN a b m : Nat) : Int) < (b.length : Int)
    · have h3a : sufN a b m < a.length := by omega
      have h3b : sufN a b m < b.length := by omega
      rw [sidx ha h3a, sidx hb h3b]
      have e : sufN a b m = pre a.reverse b.reverse := by have := h.1; unfold sufN at this ⊢; omega
      have hne := pre_ne a.reverse b.reverse (by simp; omega) (by simp; omega)
      rw [← e] at hne
      have h4 : 0 ≤ ((a.length - 1 - sufN a b m : Nat) : Int) ∧ ((a.length - 1 - sufN a b m : Nat) : Int) < (a.length : Int) := by omega
      have h5 : 0 ≤ ((b.length - 1 - sufN a b m : Nat) : Int) ∧ ((b.length - 1 - sufN a b m : Nat) : Int) < (b.length : Int) := by omega
      simp only [h.1, h.2.1, h.2.2, decide_true, Bool.and_self, if_true, h4, and_self, h5, Int.toNat_natCast, byte_eq, rev_at h3a, rev_at h3b, hne, decide_false, Option.bind_some, Bool.false_eq_true, if_false]
    · have h3 : ((decide (((sufN a b m : Nat) : Int) < m) && decide (((sufN a b m : Nat) : Int) < (a.length : Int))) && decide (((sufN a b m : Nat) : Int) < (b.length : Int))) = false := by
        rw [Bool.and_eq_false_iff, Bool.and_eq_false_iff, decide_eq_false_iff_not, decide_eq_false_iff_not, decide_eq_false_iff_not]; omega
      simp only [h3, Bool.false_eq_true, if_false, Option.bind_some]
  | succ j ih =>
    intro k i h1 h2
    obtain ⟨k, rfl⟩ : ∃ k', k = k' + 1 := ⟨k - 1, by omega⟩
    have he := pre_eq a.reverse b.reverse i (by unfold sufN at h1; omega)
    have hm : (i : Int) < m := by unfold sufN at h1; omega
    have h3a : i < a.length := by omega
    have h3b : i < b.length := by omega
    have h6 : (i : Int) < (a.length : Int) := by omega
    have h7 : (i : Int) < (b.length : Int) := by omega
    have h4 : 0 ≤ ((a.length - 1 - i : Nat) : Int) ∧ ((a.length - 1 - i : Nat) : Int) < (a.length : Int) := by omega
    have h5 : 0 ≤ ((b.length - 1 - i : Nat) : Int) ∧ ((b.length - 1 - i : Nat) : Int) < (b.length : Int) := by omega
    have := ih k (i + 1) (by omega) (by omega)
    rw [show ((i + 1 : Nat) : Int) = (i : Int) + 1 by omega] at this
    rw [ferrymanref02_Suffix_l0.eq_2, sidx ha h3a, sidx hb h3b, wr (x := (i : Int) + 1) (by omega) (by omega)]
    simp only [hm, h6, h7, decide_true, Bool.and_self, if_true, h4, and_self, h5, Int.toNat_natCast, byte_eq, rev_at h3a, rev_at h3b, he, Option.bind_some, this]
theorem refSuffix_def (k : Nat) (a b : Str) (m : Int) (ha : a.length ≤ 1000000) (hb : b.length ≤ 1000000) (hk : a.length < k) : ferrymanref02_Suffix k a b m = some (sufN a b m : Int) := by
  have hs := suf_l a b m
  have h := refSuffix_l0 a b m ha hb (sufN a b m) k 0 (by omega) (by omega)
  rw [show ((0 : Nat) : Int) = 0 from rfl] at h
  simp only [ferrymanref02_Suffix, h, Option.bind_some]
/-! ### How long the inputs are -/
def sumMin : List Str → Int
  | [] => 0
  | s :: l => imin (s.length : Int) 9000 + sumMin l
theorem sumMin_le : ∀ l : List Str, 0 ≤ sumMin l ∧ sumMin l ≤ 9000 * l.length
  | [] => by simp [sumMin]
  | s :: l => by have := sumMin_le l; simp only [sumMin, List.length_cons]; unfold imin; split <;> omega
theorem sumMin_mem : ∀ (l : List Str), sumMin l < 9000 → ∀ s ∈ l, s.length < 9000
  | [], _, s, h => by cases h
  | x :: l, hs, s, h => by
    have h1 := sumMin_le l
    simp only [sumMin] at hs
    rcases List.mem_cons.1 h with rfl | h
    · unfold imin at hs; split at hs <;> omega
    · exact sumMin_mem l (by unfold imin at hs; split at hs <;> omega) s h
theorem long_l0 (l : List Str) (hl : l.length ≤ 1000) : ∀ (j k i : Nat) (n : Int), i + j = l.length → j < k → 0 ≤ n → n ≤ 9000 * i → ferrymanlaw02_long_l0 l k n (i : Int) = some (n + sumMin (l.drop i)) := by
  intro j
  induction j with
  | zero =>
    intro k i n h1 h2 _ _
    obtain ⟨k, rfl⟩ : ∃ k', k = k' + 1 := ⟨k - 1, by omega⟩
    rw [ferrymanlaw02_long_l0.eq_2, List.drop_of_length_le (by omega)]
    have : ¬ ((i : Int) < (l.length : Int)) := by omega
    simp [this, sumMin]
  | succ j ih =>
    intro k i n h1 h2 h3 h4
    obtain ⟨k, rfl⟩ : ∃ k', k = k' + 1 := ⟨k - 1, by omega⟩
    have hi : i < l.length := by omega
    have hi1 : (i : Int) < (l.length : Int) := by omega
    have hi0 : (0 : Int) ≤ (i : Int) := by omega
    have e : rd l (i : Int) = l[i] := by simp [rd, List.getD_eq_getElem?_getD, List.getElem?_eq_getElem hi]
    have hb : 0 ≤ imin (l[i].length : Int) 9000 ∧ imin (l[i].length : Int) 9000 ≤ 9000 := by unfold imin; split <;> omega
    have := ih k (i + 1) (n + imin (l[i].length : Int) 9000) (by omega) (by omega) (by omega) (by omega)
    rw [show ((i + 1 : Nat) : Int) = (i : Int) + 1 by omega] at this
    rw [ferrymanlaw02_long_l0.eq_2, e, wr (x := (i : Int) + 1) (by omega) (by omega), wr (x := n + imin (l[i].length : Int) 9000) (by omega) (by omega), List.drop_eq_getElem_cons hi]
    simp only [hi1, decide_true, if_true, hi0, and_self, this, sumMin]
    rw [Int.add_assoc]
theorem long_def (k : Nat) (l : List Str) (hl : l.length ≤ 1000) (hk : l.length < k) : ferrymanlaw02_long k l = some (decide (sumMin l ≥ 9000)) := by
  have h := long_l0 l hl l.length k 0 0 (by omega) hk (by omega) (by omega)
  rw [show ((0 : Nat) : Int) = 0 from rfl] at h
  simp only [ferrymanlaw02_long, h, Option.bind_some, List.drop_zero, Int.zero_add]
theorem works60 : ferrymanlaw02_works 60 = some true := by decide +kernel
theorem works_def (k : Nat) (hk : 60 ≤ k) : ferrymanlaw02_works k = some true := OLe.up (f := fun k => ferrymanlaw02_works k) (fun k => ferrymanlaw02_works.mono) hk _ works60
end Go.Proofs.Ytnfeinhialojnaa
