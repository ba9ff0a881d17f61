/-  The plain laws of layer 13: what its functions tell, in closed form. -/
import Derived.Test.YtdommjjhfplcaaaOpnf2
import Derived.Test.YtdommjjhfplcaaaGf2
namespace Go.Proofs.Ytdommjjhfplcaaa
open Go Go.RowKit
set_option linter.unusedVariables false
set_option linter.unusedSimpArgs false

theorem wr {x : Int} (h : -9223372036854775808 ≤ x) (h' : x ≤ 9223372036854775807) : IntKind.i64.wrap x = x := by
  simp [IntKind.wrap, IntKind.bits, IntKind.signed]
  omega
abbrev cmp (a b : Str) : Int := Lib.compareBytes a b
theorem cmp_nil : cmp [] [] = 0 := rfl
theorem cmp_self : ∀ a : Str, cmp a a = 0
  | [] => rfl
  | x :: a => by
    have h : ¬ x < x := by simp [UInt8.lt_iff_toNat_lt]
    simp only [cmp, Lib.compareBytes, h, if_false]; exact cmp_self a
theorem cmp_range : ∀ a b : Str, cmp a b = -1 ∨ cmp a b = 0 ∨ cmp a b = 1
  | [], [] => .inr (.inl rfl)
  | [], _ :: _ => .inl rfl
  | _ :: _, [] => .inr (.inr rfl)
  | x :: a, y :: b => by
    simp only [cmp, Lib.compareBytes]
    split
    · exact .inl rfl
    · split
      · exact .inr (.inr rfl)
      · exact cmp_range a b
theorem u8_eq {x y : UInt8} (h : ¬ x < y) (h' : ¬ y < x) : x = y := by
  rw [UInt8.lt_iff_toNat_lt] at h h'
  exact UInt8.toNat_inj.1 (by omega)
theorem cmp_eq : ∀ a b : Str, cmp a b = 0 ↔ a = b
  | [], [] => by simp [cmp, Lib.compareBytes]
  | [], _ :: _ => by simp [cmp, Lib.compareBytes]
  | _ :: _, [] => by simp [cmp, Lib.compareBytes]
  | x :: a, y :: b => by
    simp only [cmp, Lib.compareBytes]
    by_cases h : x < y
    · have : x ≠ y := fun e => by subst e; simp [UInt8.lt_iff_toNat_lt] at h
      simp [h, this]
    · by_cases h' : y < x
      · have : x ≠ y := fun e => by subst e; simp [UInt8.lt_iff_toNat_lt] at h'
        simp [h, h', this]
      · have e := u8_eq h h'
        subst e
        simp only [h, if_false, List.cons.injEq, true_and]; exact cmp_eq a b
theorem cmp_symm : ∀ a b : Str, cmp b a = - cmp a b
  | [], [] => rfl
  | [], _ :: _ => rfl
  | _ :: _, [] => rfl
  | x :: a, y :: b => by
    simp only [cmp, Lib.compareBytes]
    by_cases h : x < y
    · have h' : ¬ y < x := by rw [UInt8.lt_iff_toNat_lt] at h ⊢; omega
      simp [h, h']
    · by_cases h' : y < x
      · simp [h, h']
      · simp only [h, h', if_false]; exact cmp_symm a b
theorem cmp_trans : ∀ a b c : Str, cmp a b ≤ 0 → cmp b c ≤ 0 → cmp a c ≤ 0 ∧ (cmp a c = 0 → cmp a b = 0 ∧ cmp b c = 0)
  | [], [], c => fun _ h => ⟨h, fun h => ⟨rfl, h⟩⟩
  | [], y :: b, [] => fun _ h => by simp [cmp, Lib.compareBytes] at h
  | [], y :: b, z :: c => fun _ _ => by simp [cmp, Lib.compareBytes]
  | x :: a, [], c => fun h _ => by simp [cmp, Lib.compareBytes] at h
  | x :: a, y :: b, [] => fun _ h => by simp [cmp, Lib.compareBytes] at h
  | x :: a, y :: b, z :: c => fun h k => by
    have ih := cmp_trans a b c
    simp only [cmp, Lib.compareBytes, UInt8.lt_iff_toNat_lt] at h k ⊢ ih
    by_cases h1 : x.toNat < y.toNat
    · by_cases h2 : y.toNat < z.toNat
      · have : x.toNat < z.toNat := by omega
        simp [this]
      · rw [if_neg h2] at k
        by_cases h3 : z.toNat < y.toNat
        · rw [if_pos h3] at k; omega
        · have : x.toNat < z.toNat := by omega
          simp [this]
    · rw [if_neg h1] at h
      by_cases h2 : y.toNat < x.toNat
      · rw [if_pos h2] at h; omega
      · rw [if_neg h2] at h
        by_cases h3 : y.toNat < z.toNat
        · have : x.toNat < z.toNat := by omega
          simp [this]
        · rw [if_neg h3] at k
          by_cases h4 : z.toNat < y.toNat
          · rw [if_pos h4] at k; omega
          · rw [if_neg h4] at k
            have e1 : ¬ x.toNat < z.toNat := by omega
            have e2 : ¬ z.toNat < x.toNat := by omega
            simp only [h1, h2, h3, h4, e1, e2, if_false]
            exact ih h k
theorem less_cmp : ∀ a b : Str, sless a b = decide (cmp a b < 0)
  | [], [] => rfl
  | [], _ :: _ => rfl
  | _ :: _, [] => rfl
  | x :: a, y :: b => by
    have ih := less_cmp a b
    unfold sless at ih ⊢
    simp only [Op.bytesLess, cmp, Lib.compareBytes] at ih ⊢
    by_cases h : x < y
    · simp [h]
    · by_cases h' : y < x
      · have : x ≠ y := fun e => by subst e; exact h h'
        simp [h, h', this]
      · have e := u8_eq h h'
        subst e
        simp [h, ih]
theorem beq_cmp (a b : Str) : (a == b) = decide (cmp a b = 0) := by
  by_cases h : a = b
  · subst h; simp [cmp_self]
  · have : cmp a b ≠ 0 := fun e => h ((cmp_eq a b).1 e)
    simp [h, this]
theorem beq_dec (a b : Str) : (a == b) = decide (a = b) := by by_cases h : a = b <;> simp [h]
theorem sb_eql (a b : Str) : sbin .eql a b = decide (a = b) := beq_dec a b
theorem sb_neq (a b : Str) : sbin .neq a b = !decide (a = b) := congrArg not (beq_dec a b)
theorem sb_lss (a b : Str) : sbin .lss a b = decide (cmp a b < 0) := by simp [sbin, less_cmp]
theorem sb_leq (a b : Str) : sbin .leq a b = decide (cmp a b ≤ 0) := by
  simp only [sbin, less_cmp, beq_cmp]
  rcases cmp_range a b with h | h | h <;> simp [h]


theorem rdN {α : Type} [Inhabited α] {l : List α} {i : Nat} (h : i < l.length) : rd l (i : Int) = l[i] := by
  simp [rd, List.getD_eq_getElem?_getD, List.getElem?_eq_getElem h]
/-! ### Whether a node may be -/
def sortedB : List Str → Bool
  | a :: b :: t => decide (cmp a b < 0) && sortedB (b :: t)
  | _ => true
abbrev SortedP (l : List Str) : Prop := l.Pairwise fun a b => cmp a b < 0
theorem cmp_lt_trans {a b c : Str} (h : cmp a b < 0) (k : cmp b c < 0) : cmp a c < 0 := by
  have t := cmp_trans a b c (by omega) (by omega)
  rcases Int.lt_or_eq_of_le t.1 with h' | h'
  · exact h'
  · have := t.2 h'; omega
theorem sorted_iff : ∀ l : List Str, sortedB l = true ↔ SortedP l
  | [] => by simp [sortedB]
  | [a] => by simp [sortedB]
  | a :: b :: t => by
    have ih := sorted_iff (b :: t)
    simp only [sortedB, Bool.and_eq_true, decide_eq_true_eq, ih]
    constructor
    · rintro ⟨h1, h2⟩
      refine List.pairwise_cons.2 ⟨fun x hx => ?_, h2⟩
      rcases List.mem_cons.1 hx with rfl | hx
      · exact h1
      · exact cmp_lt_trans h1 ((List.pairwise_cons.1 h2).1 x hx)
    · intro h
      have h' := List.pairwise_cons.1 h
      exact ⟨h'.1 b List.mem_cons_self, h'.2⟩
def shapeB (n : fork_Node) : Bool := if n.Leaf = true then (decide (n.Rows.length = n.Keys.length) && decide (n.Kids.length = 0)) else (decide (n.Kids.length = n.Keys.length + 1) && decide (n.Rows.length = 0))
def mayB (n : fork_Node) : Bool := sortedB n.Keys && shapeB n
theorem Compare_def (k : Nat) (a b : Str) : text_Compare k a b = some (cmp a b) := rfl
theorem May_l0 (n : fork_Node) (hl : n.Keys.length ≤ 9223372036854775807) : ∀ (j k i : Nat), i + j = n.Keys.length → 1 ≤ i → j < k → fork_May_l0 n k (i : Int) = some (if sortedB (n.Keys.drop (i - 1)) = true then .inr () else .inl false) := by
  intro j
  induction j with
  | zero =>
    intro k i h1 h2 h3
    obtain ⟨k, rfl⟩ : ∃ k', k = k' + 1 := ⟨k - 1, by omega⟩
    have : ¬ ((i : Int) < (n.Keys.length : Int)) := by omega
    have hd : n.Keys.drop (i - 1) = [n.Keys[i - 1]'(by omega)] := by
      rw [List.drop_eq_getElem_cons (by omega), List.drop_of_length_le (by omega)]
    rw [fork_May_l0.eq_2, hd]
    simp only [this, decide_false, Bool.false_eq_true, if_false, sortedB, if_true]
  | succ j ih =>
    intro k i h1 h2 h3
    obtain ⟨k, rfl⟩ : ∃ k', k = k' + 1 := ⟨k - 1, by omega⟩
    have hi : i < n.Keys.length := by omega
    have hi1 : (i : Int) < (n.Keys.length : Int) := by omega
    have hi0 : (0 : Int) ≤ (i : Int) := by omega
    have hip : (i : Int) > 0 := by omega
    have ih' := ih k (i + 1) (by omega) (by omega) (by omega)
    rw [show ((i + 1 : Nat) : Int) = (i : Int) + 1 by omega, Nat.add_sub_cancel] at ih'
    have hw : IntKind.i64.wrap ((i : Int) - 1) = ((i - 1 : Nat) : Int) := by rw [wr (by omega) (by omega)]; omega
    have hw2 : 0 ≤ ((i - 1 : Nat) : Int) ∧ ((i - 1 : Nat) : Int) < (n.Keys.length : Int) := by omega
    have hd : n.Keys.drop (i - 1) = n.Keys[i - 1]'(by omega) :: n.Keys[i] :: n.Keys.drop (i + 1) := by
      rw [List.drop_eq_getElem_cons (show i - 1 < n.Keys.length by omega), show i - 1 + 1 = i by omega, List.drop_eq_getElem_cons hi]
    have hd2 : n.Keys.drop i = n.Keys[i] :: n.Keys.drop (i + 1) := List.drop_eq_getElem_cons hi
    rw [fork_May_l0.eq_2, hw, wr (x := (i : Int) + 1) (by omega) (by omega), hd]
    rw [hd2] at ih'
    simp only [hi1, hi0, hip, hw2, decide_true, and_self, if_true, rdN hi, rdN (show i - 1 < n.Keys.length by omega), Compare_def, Option.bind_some, sortedB, ih']
    by_cases hc : cmp (n.Keys[i - 1]'(by omega)) n.Keys[i] ≥ 0
    · have hc' : ¬ cmp (n.Keys[i - 1]'(by omega)) n.Keys[i] < 0 := by omega
      simp only [hc, hc', decide_true, decide_false, Bool.false_and, if_true, Bool.false_eq_true, if_false]
    · have hc' : cmp (n.Keys[i - 1]'(by omega)) n.Keys[i] < 0 := by omega
      simp only [hc, hc', decide_true, decide_false, Bool.true_and, Bool.false_eq_true, if_false]
theorem May_l00 (n : fork_Node) (hl : n.Keys.length ≤ 9223372036854775807) (k : Nat) (hk : n.Keys.length < k) : fork_May_l0 n k 0 = some (if sortedB n.Keys = true then .inr () else .inl false) := by
  obtain ⟨k, rfl⟩ : ∃ k', k = k' + 1 := ⟨k - 1, by omega⟩
  rw [fork_May_l0.eq_2]
  by_cases h0 : n.Keys.length = 0
  · have hn : n.Keys = [] := List.eq_nil_of_length_eq_zero h0
    simp [hn, sortedB]
  · have h1 : (0 : Int) < (n.Keys.length : Int) := by omega
    have h := May_l0 n hl (n.Keys.length - 1) k 1 (by omega) (by omega) (by omega)
    rw [show ((1 : Nat) : Int) = 1 from rfl, Nat.sub_self, List.drop_zero] at h
    rw [wr (x := (0 : Int) + 1) (by omega) (by omega), Int.zero_add]
    simp only [h1, decide_true, if_true, gt_iff_lt, Int.lt_irrefl, decide_false, Bool.false_eq_true, if_false, Option.bind_some, h]
theorem May_def (n : fork_Node) (hl : n.Keys.length ≤ 9223372036854775807) (hk' : n.Kids.length ≤ 9223372036854775807) (k : Nat) (hk : n.Keys.length < k) : fork_May k n = some (mayB n) := by
  unfold fork_May
  rw [May_l00 n hl k hk]
  have beqN : ∀ a b : Nat, (((a : Int) == (b : Int)) : Bool) = decide (a = b) := fun a b => by
    by_cases h : a = b
    · subst h; simp
    · have : ((a : Int) == (b : Int)) = false := beq_false_of_ne (by omega)
      simp only [this, h, decide_false]
  have beq0 : ∀ a : Nat, (((a : Int) == (0 : Int)) : Bool) = decide (a = 0) := fun a => beqN a 0
  have hkid : ((n.Kids.length : Int) == IntKind.i64.wrap ((n.Keys.length : Int) + 1)) = decide (n.Kids.length = n.Keys.length + 1) := by
    by_cases h : n.Keys.length = 9223372036854775807
    · have e : IntKind.i64.wrap ((n.Keys.length : Int) + 1) = -9223372036854775808 := by rw [h]; decide
      rw [e]
      have h1 : ¬ n.Kids.length = n.Keys.length + 1 := by omega
      have h2 : ¬ ((n.Kids.length : Int) = -9223372036854775808) := by omega
      simp [h1, h2]
    · rw [wr (by omega) (by omega)]
      exact beqN n.Kids.length (n.Keys.length + 1)
  simp only [hkid, beqN, beq0, mayB, shapeB, Option.bind_some]
  cases hs : sortedB n.Keys
  · simp only [Bool.false_eq_true, if_false, Sum.elim_inl, Bool.false_and]
  · simp only [if_true, Sum.elim_inr, Bool.true_and]
    split <;> rfl
/-! ### Where a key stands -/
theorem tw_lt {p : Str → Bool} : ∀ {l : List Str} {i : Nat} (h : i < (l.takeWhile p).length), ∃ h' : i < l.length, p l[i] = true
  | [], i, h => by simp at h
  | x :: l, i, h => by
    rw [List.takeWhile_cons] at h
    split at h
    · rename_i hx
      cases i with
      | zero => exact ⟨by simp, hx⟩
      | succ i =>
        obtain ⟨h', hp⟩ := tw_lt (l := l) (i := i) (by simpa using h)
        exact ⟨by simpa using h', by simpa using hp⟩
    · simp at h
theorem tw_at {p : Str → Bool} : ∀ {l : List Str} (h : (l.takeWhile p).length < l.length), p (l[(l.takeWhile p).length]) = false
  | [], h => by simp at h
  | x :: l, h => by
    by_cases hx : p x = true
    · have e : (x :: l).takeWhile p = x :: l.takeWhile p := by rw [List.takeWhile_cons, if_pos hx]
      have h' : (l.takeWhile p).length < l.length := by rw [e] at h; simpa using h
      have := tw_at (p := p) (l := l) h'
      simpa [e] using this
    · have e : (x :: l).takeWhile p = [] := by rw [List.takeWhile_cons, if_neg hx]
      simpa [e] using hx
theorem tw_le {p : Str → Bool} (l : List Str) : (l.takeWhile p).length ≤ l.length := (List.takeWhile_sublist p).length_le
def pLt (key : Str) (x : Str) : Bool := decide (cmp x key < 0)
def pLe (key : Str) (x : Str) : Bool := decide (cmp x key ≤ 0)
def lo (l : List Str) (key : Str) : Nat := (l.takeWhile (pLt key)).length
def up (l : List Str) (key : Str) : Nat := (l.takeWhile (pLe key)).length
def has (l : List Str) (key : Str) : Bool := decide (l[lo l key]? = some key)
theorem cmp_le_trans {a b c : Str} (h : cmp a b ≤ 0) (k : cmp b c ≤ 0) : cmp a c ≤ 0 := (cmp_trans a b c h k).1
theorem cmp_lt_le {a b c : Str} (h : cmp a b < 0) (k : cmp b c ≤ 0) : cmp a c < 0 := by
  have t := cmp_trans a b c (by omega) k
  rcases Int.lt_or_eq_of_le t.1 with h' | h'
  · exact h'
  · have := t.2 h'; omega
theorem cmp_le_lt {a b c : Str} (h : cmp a b ≤ 0) (k : cmp b c < 0) : cmp a c < 0 := by
  have t := cmp_trans a b c h (by omega)
  rcases Int.lt_or_eq_of_le t.1 with h' | h'
  · exact h'
  · have := t.2 h'; omega
theorem sorted_at {l : List Str} (hs : SortedP l) {i j : Nat} (hij : i < j) (hj : j < l.length) : cmp (l[i]'(by omega)) l[j] < 0 := List.pairwise_iff_getElem.1 hs i j (by omega) hj hij
theorem lo_iff {l : List Str} (hs : SortedP l) (key : Str) {i : Nat} (hi : i < l.length) : cmp l[i] key < 0 ↔ i < lo l key := by
  constructor
  · intro h
    apply Nat.lt_of_not_le
    intro hle
    have hlt : lo l key < l.length := by omega
    have hf := tw_at (p := pLt key) (l := l) hlt
    have hge : ¬ cmp (l[lo l key]'hlt) key < 0 := fun hc => by
      have h9 : pLt key (l[lo l key]'hlt) = true := decide_eq_true hc
      rw [show pLt key (l[lo l key]'hlt) = false from hf] at h9; cases h9
    rcases Nat.lt_or_eq_of_le hle with h1 | h1
    · exact hge (cmp_lt_trans (sorted_at hs h1 hi) h)
    · exact hge (by simpa [h1] using h)
  · intro h
    obtain ⟨_, hp⟩ := tw_lt (p := pLt key) (l := l) h
    simpa [pLt] using hp
theorem up_iff {l : List Str} (hs : SortedP l) (key : Str) {i : Nat} (hi : i < l.length) : cmp l[i] key ≤ 0 ↔ i < up l key := by
  constructor
  · intro h
    apply Nat.lt_of_not_le
    intro hle
    have hlt : up l key < l.length := by omega
    have hf := tw_at (p := pLe key) (l := l) hlt
    have hge : ¬ cmp (l[up l key]'hlt) key ≤ 0 := fun hc => by
      have h9 : pLe key (l[up l key]'hlt) = true := decide_eq_true hc
      rw [show pLe key (l[up l key]'hlt) = false from hf] at h9; cases h9
    rcases Nat.lt_or_eq_of_le hle with h1 | h1
    · exact hge (Int.le_of_lt (cmp_lt_le (sorted_at hs h1 hi) h))
    · exact hge (by simpa [h1] using h)
  · intro h
    obtain ⟨_, hp⟩ := tw_lt (p := pLe key) (l := l) h
    simpa [pLe] using hp
theorem lo_le (l : List Str) (key : Str) : lo l key ≤ l.length := tw_le l
theorem up_le (l : List Str) (key : Str) : up l key ≤ l.length := tw_le l
theorem halve_Place (l : List Str) (key : Str) (hl : l.length ≤ 17592186044416) (hs : SortedP l) : ∀ (k a b : Nat), b - a < k → a ≤ lo l key → lo l key ≤ b → b ≤ l.length → fork_halve_string_Place_1_l0 l key k (a : Int) (b : Int) = some ((lo l key : Nat) : Int) := by
  intro k
  induction k with
  | zero => intro a b h; omega
  | succ k ih =>
    intro a b h1 h2 h3 h4
    rw [fork_halve_string_Place_1_l0.eq_2]
    by_cases hab : a < b
    · have hab' : (a : Int) < (b : Int) := by omega
      have hm : IntKind.i64.wrap (Int.tdiv (IntKind.i64.wrap ((a : Int) + (b : Int))) 2) = (((a + b) / 2 : Nat) : Int) := by
        rw [wr (x := (a : Int) + (b : Int)) (by omega) (by omega), Int.tdiv_eq_ediv_of_nonneg (by omega), wr (by omega) (by omega)]; omega
      rw [hm]
      have hml : (a + b) / 2 < l.length := by omega
      have hb : 0 ≤ (((a + b) / 2 : Nat) : Int) ∧ (((a + b) / 2 : Nat) : Int) < (l.length : Int) := by omega
      have hiff := lo_iff hs key hml
      have hw : IntKind.i64.wrap ((((a + b) / 2 : Nat) : Int) + 1) = (((a + b) / 2 + 1 : Nat) : Int) := by rw [wr (by omega) (by omega)]; omega
      simp only [hab', decide_true, if_true, hb, and_self, rdN hml, fork_Place_1, Compare_def, Option.bind_some, hw]
      by_cases hc : cmp l[(a + b) / 2] key < 0
      · have := hiff.1 hc
        simp only [hc, decide_true, if_true, Option.bind_some]
        exact ih ((a + b) / 2 + 1) b (by omega) (by omega) h3 h4
      · have : ¬ (a + b) / 2 < lo l key := fun h => hc (hiff.2 h)
        simp only [hc, decide_false, Bool.false_eq_true, if_false, Option.bind_some]
        exact ih a ((a + b) / 2) (by omega) h2 (by omega) (by omega)
    · have hab' : ¬ (a : Int) < (b : Int) := by omega
      simp only [hab', decide_false, Bool.false_eq_true, if_false, Option.some.injEq]; omega
theorem halve_Kid (l : List Str) (key : Str) (hl : l.length ≤ 17592186044416) (hs : SortedP l) : ∀ (k a b : Nat), b - a < k → a ≤ up l key → up l key ≤ b → b ≤ l.length → fork_halve_string_Kid_1_l0 l key k (a : Int) (b : Int) = some ((up l key : Nat) : Int) := by
  intro k
  induction k with
  | zero => intro a b h; omega
  | succ k ih =>
    intro a b h1 h2 h3 h4
    rw [fork_halve_string_Kid_1_l0.eq_2]
    by_cases hab : a < b
    · have hab' : (a : Int) < (b : Int) := by omega
      have hm : IntKind.i64.wrap (Int.tdiv (IntKind.i64.wrap ((a : Int) + (b : Int))) 2) = (((a + b) / 2 : Nat) : Int) := by
        rw [wr (x := (a : Int) + (b : Int)) (by omega) (by omega), Int.tdiv_eq_ediv_of_nonneg (by omega), wr (by omega) (by omega)]; omega
      rw [hm]
      have hml : (a + b) / 2 < l.length := by omega
      have hb : 0 ≤ (((a + b) / 2 : Nat) : Int) ∧ (((a + b) / 2 : Nat) : Int) < (l.length : Int) := by omega
      have hiff := up_iff hs key hml
      have hw : IntKind.i64.wrap ((((a + b) / 2 : Nat) : Int) + 1) = (((a + b) / 2 + 1 : Nat) : Int) := by rw [wr (by omega) (by omega)]; omega
      simp only [hab', decide_true, if_true, hb, and_self, rdN hml, fork_Kid_1, Compare_def, Option.bind_some, hw]
      by_cases hc : cmp l[(a + b) / 2] key ≤ 0
      · have := hiff.1 hc
        simp only [hc, decide_true, if_true, Option.bind_some]
        exact ih ((a + b) / 2 + 1) b (by omega) (by omega) h3 h4
      · have : ¬ (a + b) / 2 < up l key := fun h => hc (hiff.2 h)
        simp only [hc, decide_false, Bool.false_eq_true, if_false, Option.bind_some]
        exact ih a ((a + b) / 2) (by omega) h2 (by omega) (by omega)
    · have hab' : ¬ (a : Int) < (b : Int) := by omega
      simp only [hab', decide_false, Bool.false_eq_true, if_false, Option.some.injEq]; omega
/-- A node that may be, of no more than a few thousand keys. -/
structure Ok (n : fork_Node) : Prop where
  may : mayB n = true
  keys : n.Keys.length ≤ 3001
section
variable {n : fork_Node}
theorem Ok.sorted (h : Ok n) : SortedP n.Keys := (sorted_iff _).1 (by have := h.may; simp only [mayB, Bool.and_eq_true] at this; exact this.1)
theorem Ok.leaf (h : Ok n) (hl : n.Leaf = true) : n.Rows.length = n.Keys.length ∧ n.Kids.length = 0 := by
  have hm := h.may
  simp only [mayB, Bool.and_eq_true] at hm
  have h2 := hm.2
  simpa only [shapeB, hl, if_true, Bool.and_eq_true, decide_eq_true_eq] using h2
theorem Ok.inner (h : Ok n) (hl : n.Leaf = false) : n.Kids.length = n.Keys.length + 1 ∧ n.Rows.length = 0 := by
  have hm := h.may
  simp only [mayB, Bool.and_eq_true] at hm
  have h2 := hm.2
  simpa only [shapeB, hl, Bool.false_eq_true, if_false, Bool.and_eq_true, decide_eq_true_eq] using h2
theorem Ok.kids (h : Ok n) : n.Kids.length ≤ 3002 := by
  have hk := h.keys
  cases hl : n.Leaf
  · have := h.inner hl; omega
  · have := h.leaf hl; omega
theorem Ok.rows (h : Ok n) : n.Rows.length ≤ 3001 := by
  have hk := h.keys
  cases hl : n.Leaf
  · have := h.inner hl; omega
  · have := h.leaf hl; omega
theorem Ok.mayEq (h : Ok n) (k : Nat) (hk : 4000 < k) : fork_May k n = some true := by
  have h1 := h.keys
  have h2 := h.kids
  rw [May_def n (by omega) (by omega) k (by omega), h.may]
theorem Ok.place (h : Ok n) (key : Str) (k : Nat) (hk : 4000 < k) : fork_Place k n key = some ((lo n.Keys key : Int), has n.Keys key) := by
  have h1 := h.keys
  have h2 := lo_le n.Keys key
  have hh := halve_Place n.Keys key (by omega) h.sorted k 0 n.Keys.length (by omega) (by omega) h2 (by omega)
  rw [show ((0 : Nat) : Int) = 0 from rfl] at hh
  simp only [fork_Place, h.mayEq k hk, Option.bind_some, Bool.not_true, Bool.false_eq_true, if_false, fork_halve_string_Place_1, hh]
  by_cases hc : lo n.Keys key < n.Keys.length
  · have h3 : ((lo n.Keys key : Nat) : Int) < (n.Keys.length : Int) := by omega
    have h4 : 0 ≤ ((lo n.Keys key : Nat) : Int) := by omega
    simp only [h3, h4, decide_true, if_true, and_self, rdN hc, sb_eql, Option.bind_some, has, List.getElem?_eq_getElem hc, Option.some.injEq]
  · have h3 : ¬ ((lo n.Keys key : Nat) : Int) < (n.Keys.length : Int) := by omega
    have h4 : n.Keys[lo n.Keys key]? = none := List.getElem?_eq_none (by omega)
    simp [h3, has, h4]
theorem Ok.kid (h : Ok n) (hl : n.Leaf = false) (key : Str) (k : Nat) (hk : 4000 < k) : fork_Kid k n key = some (up n.Keys key : Int) := by
  have h1 := h.keys
  have h2 := up_le n.Keys key
  have hh := halve_Kid n.Keys key (by omega) h.sorted k 0 n.Keys.length (by omega) (by omega) h2 (by omega)
  rw [show ((0 : Nat) : Int) = 0 from rfl] at hh
  simp only [fork_Kid, hl, h.mayEq k hk, Option.bind_some, Bool.not_true, Bool.false_eq_true, if_false, fork_halve_string_Kid_1, hh]
end
/-! ### How the law begins -/
theorem awake60 : ferrymanlaw13_awake 60 = some true := by decide +kernel
theorem awake_def (k : Nat) (hk : 60 ≤ k) : ferrymanlaw13_awake k = some true := OLe.up (f := fun k => ferrymanlaw13_awake k) (fun k => ferrymanlaw13_awake.mono) hk _ awake60
theorem large_l0 (n : fork_Node) (hl : n.Keys.length ≤ 9223372036854775807) : ∀ (j k i : Nat) (x : Int), i + j = n.Keys.length → j < k → ∃ y, ferrymanlaw13_large_l0 n k x (i : Int) = some y := by
  intro j
  induction j with
  | zero =>
    intro k i x h1 h2
    obtain ⟨k, rfl⟩ : ∃ k', k = k' + 1 := ⟨k - 1, by omega⟩
    have : ¬ ((i : Int) < (n.Keys.length : Int)) := by omega
    rw [ferrymanlaw13_large_l0.eq_2]
    exact ⟨x, by simp only [this, decide_false, Bool.false_and, Bool.false_eq_true, if_false]⟩
  | succ j ih =>
    intro k i x h1 h2
    obtain ⟨k, rfl⟩ : ∃ k', k = k' + 1 := ⟨k - 1, by omega⟩
    have hi1 : (i : Int) < (n.Keys.length : Int) := by omega
    have hi0 : (0 : Int) ≤ (i : Int) := by omega
    rw [ferrymanlaw13_large_l0.eq_2, wr (x := (i : Int) + 1) (by omega) (by omega)]
    by_cases hx : x < 3000
    · obtain ⟨y, hy⟩ := ih k (i + 1) (IntKind.i64.wrap (IntKind.i64.wrap (x + 1) + ((rd n.Keys (i : Int)).length : Int))) (by omega) (by omega)
      rw [show ((i + 1 : Nat) : Int) = (i : Int) + 1 by omega] at hy
      exact ⟨y, by simp only [hi1, hi0, hx, decide_true, Bool.and_self, and_self, if_true, hy]⟩
    · exact ⟨x, by simp only [hx, decide_false, Bool.and_false, Bool.false_eq_true, if_false]⟩
/-! ### Lists held against each other -/
theorem ferrymanref13_Same_l0_eq (a b : ferrymanref13_Node) (hl : (a.Keys).length = (b.Keys).length) (hB : (a.Keys).length ≤ 4611686018427387904) : ∀ (j k i : Nat), i + j = (a.Keys).length → j < k → ferrymanref13_Same_l0 a b k (i : Int) = some (if (a.Keys).drop i = (b.Keys).drop i then .inr () else .inl false) := by
  intro j
  induction j with
  | zero =>
    intro k i h1 h2
    obtain ⟨k, rfl⟩ : ∃ k', k = k' + 1 := ⟨k - 1, by omega⟩
    have : ¬ ((i : Int) < ((a.Keys).length : Int)) := by omega
    have e1 : (a.Keys).drop i = [] := List.drop_of_length_le (by omega)
    have e2 : (b.Keys).drop i = [] := List.drop_of_length_le (by omega)
    rw [ferrymanref13_Same_l0.eq_2, e1, e2]
    simp only [this, decide_false, Bool.false_eq_true, if_false, if_true]
  | succ j ih =>
    intro k i h1 h2
    obtain ⟨k, rfl⟩ : ∃ k', k = k' + 1 := ⟨k - 1, by omega⟩
    have hi1 : (i : Int) < ((a.Keys).length : Int) := by omega
    have hi2 : (i : Int) < ((b.Keys).length : Int) := by omega
    have hi0 : (0 : Int) ≤ (i : Int) := by omega
    have hv := ih k (i + 1) (by omega) (by omega)
    rw [show ((i + 1 : Nat) : Int) = (i : Int) + 1 by omega] at hv
    have ea : (a.Keys).drop i = rd (a.Keys) (i : Int) :: (a.Keys).drop (i + 1) := by rw [List.drop_eq_getElem_cons (show i < (a.Keys).length by omega), rdN (show i < (a.Keys).length by omega)]
    have eb : (b.Keys).drop i = rd (b.Keys) (i : Int) :: (b.Keys).drop (i + 1) := by rw [List.drop_eq_getElem_cons (show i < (b.Keys).length by omega), rdN (show i < (b.Keys).length by omega)]
    rw [ferrymanref13_Same_l0.eq_2, wr (x := (i : Int) + 1) (by omega) (by omega), hv, ea, eb]
    simp only [hi1, hi2, hi0, decide_true, and_self, if_true, List.cons.injEq]
    by_cases h : rd (a.Keys) (i : Int) = rd (b.Keys) (i : Int)
    · have hn : sbin .neq (rd (a.Keys) (i : Int)) (rd (b.Keys) (i : Int)) = false := by rw [sb_neq, h]; simp
      rw [hn]; simp only [h, Bool.false_eq_true, if_false, true_and]
    · have hn : sbin .neq (rd (a.Keys) (i : Int)) (rd (b.Keys) (i : Int)) = true := by rw [sb_neq]; simp [h]
      rw [hn]; simp only [h, if_true, false_and, if_false]
theorem ferrymanref13_Same_l1_eq (a b : ferrymanref13_Node) (hl : (a.Kids).length = (b.Kids).length) (hB : (a.Kids).length ≤ 4611686018427387904) : ∀ (j k i : Nat), i + j = (a.Kids).length → j < k → ferrymanref13_Same_l1 a b k (i : Int) = some (if (a.Kids).drop i = (b.Kids).drop i then .inr () else .inl false) := by
  intro j
  induction j with
  | zero =>
    intro k i h1 h2
    obtain ⟨k, rfl⟩ : ∃ k', k = k' + 1 := ⟨k - 1, by omega⟩
    have : ¬ ((i : Int) < ((a.Kids).length : Int)) := by omega
    have e1 : (a.Kids).drop i = [] := List.drop_of_length_le (by omega)
    have e2 : (b.Kids).drop i = [] := List.drop_of_length_le (by omega)
    rw [ferrymanref13_Same_l1.eq_2, e1, e2]
    simp only [this, decide_false, Bool.false_eq_true, if_false, if_true]
  | succ j ih =>
    intro k i h1 h2
    obtain ⟨k, rfl⟩ : ∃ k', k = k' + 1 := ⟨k - 1, by omega⟩
    have hi1 : (i : Int) < ((a.Kids).length : Int) := by omega
    have hi2 : (i : Int) < ((b.Kids).length : Int) := by omega
    have hi0 : (0 : Int) ≤ (i : Int) := by omega
    have hv := ih k (i + 1) (by omega) (by omega)
    rw [show ((i + 1 : Nat) : Int) = (i : Int) + 1 by omega] at hv
    have ea : (a.Kids).drop i = rd (a.Kids) (i : Int) :: (a.Kids).drop (i + 1) := by rw [List.drop_eq_getElem_cons (show i < (a.Kids).length by omega), rdN (show i < (a.Kids).length by omega)]
    have eb : (b.Kids).drop i = rd (b.Kids) (i : Int) :: (b.Kids).drop (i + 1) := by rw [List.drop_eq_getElem_cons (show i < (b.Kids).length by omega), rdN (show i < (b.Kids).length by omega)]
    rw [ferrymanref13_Same_l1.eq_2, wr (x := (i : Int) + 1) (by omega) (by omega), hv, ea, eb]
    simp only [hi1, hi2, hi0, decide_true, and_self, if_true, List.cons.injEq]
    by_cases h : rd (a.Kids) (i : Int) = rd (b.Kids) (i : Int)
    · have hn : (rd (a.Kids) (i : Int) != rd (b.Kids) (i : Int)) = false := by rw [h]; simp
      rw [hn]; simp only [h, Bool.false_eq_true, if_false, true_and]
    · have hn : (rd (a.Kids) (i : Int) != rd (b.Kids) (i : Int)) = true := by simp [h]
      rw [hn]; simp only [h, if_true, false_and, if_false]
theorem ferrymanref13_Same_l2_eq (a b : ferrymanref13_Node) (hl : (a.Rows).length = (b.Rows).length) (hB : (a.Rows).length ≤ 4611686018427387904) : ∀ (j k i : Nat), i + j = (a.Rows).length → j < k → ferrymanref13_Same_l2 a b k (i : Int) = some (if (a.Rows).drop i = (b.Rows).drop i then .inr () else .inl false) := by
  intro j
  induction j with
  | zero =>
    intro k i h1 h2
    obtain ⟨k, rfl⟩ : ∃ k', k = k' + 1 := ⟨k - 1, by omega⟩
    have : ¬ ((i : Int) < ((a.Rows).length : Int)) := by omega
    have e1 : (a.Rows).drop i = [] := List.drop_of_length_le (by omega)
    have e2 : (b.Rows).drop i = [] := List.drop_of_length_le (by omega)
    rw [ferrymanref13_Same_l2.eq_2, e1, e2]
    simp only [this, decide_false, Bool.false_eq_true, if_false, if_true]
  | succ j ih =>
    intro k i h1 h2
    obtain ⟨k, rfl⟩ : ∃ k', k = k' + 1 := ⟨k - 1, by omega⟩
    have hi1 : (i : Int) < ((a.Rows).length : Int) := by omega
    have hi2 : (i : Int) < ((b.Rows).length : Int) := by omega
    have hi0 : (0 : Int) ≤ (i : Int) := by omega
    have hv := ih k (i + 1) (by omega) (by omega)
    rw [show ((i + 1 : Nat) : Int) = (i : Int) + 1 by omega] at hv
    have ea : (a.Rows).drop i = rd (a.Rows) (i : Int) :: (a.Rows).drop (i + 1) := by rw [List.drop_eq_getElem_cons (show i < (a.Rows).length by omega), rdN (show i < (a.Rows).length by omega)]
    have eb : (b.Rows).drop i = rd (b.Rows) (i : Int) :: (b.Rows).drop (i + 1) := by rw [List.drop_eq_getElem_cons (show i < (b.Rows).length by omega), rdN (show i < (b.Rows).length by omega)]
    rw [ferrymanref13_Same_l2.eq_2, wr (x := (i : Int) + 1) (by omega) (by omega), hv, ea, eb]
    simp only [hi1, hi2, hi0, decide_true, and_self, if_true, List.cons.injEq]
    by_cases h : rd (a.Rows) (i : Int) = rd (b.Rows) (i : Int)
    · have hn : (rd (a.Rows) (i : Int) != rd (b.Rows) (i : Int)) = false := by rw [h]; simp
      rw [hn]; simp only [h, Bool.false_eq_true, if_false, true_and]
    · have hn : (rd (a.Rows) (i : Int) != rd (b.Rows) (i : Int)) = true := by simp [h]
      rw [hn]; simp only [h, if_true, false_and, if_false]
theorem slices_Equal_string_string_l0_eq (a b : List Str) (hl : (a).length = (b).length) (hB : (a).length ≤ 4611686018427387904) : ∀ (j k i : Nat), i + j = (a).length → j < k → slices_Equal_string_string_l0 a b k (i : Int) = some (if (a).drop i = (b).drop i then .inr () else .inl false) := by
  intro j
  induction j with
  | zero =>
    intro k i h1 h2
    obtain ⟨k, rfl⟩ : ∃ k', k = k' + 1 := ⟨k - 1, by omega⟩
    have : ¬ ((i : Int) < ((a).length : Int)) := by omega
    have e1 : (a).drop i = [] := List.drop_of_length_le (by omega)
    have e2 : (b).drop i = [] := List.drop_of_length_le (by omega)
    rw [slices_Equal_string_string_l0.eq_2, e1, e2]
    simp only [this, decide_false, Bool.false_eq_true, if_false, if_true]
  | succ j ih =>
    intro k i h1 h2
    obtain ⟨k, rfl⟩ : ∃ k', k = k' + 1 := ⟨k - 1, by omega⟩
    have hi1 : (i : Int) < ((a).length : Int) := by omega
    have hi2 : (i : Int) < ((b).length : Int) := by omega
    have hi0 : (0 : Int) ≤ (i : Int) := by omega
    have hv := ih k (i + 1) (by omega) (by omega)
    rw [show ((i + 1 : Nat) : Int) = (i : Int) + 1 by omega] at hv
    have ea : (a).drop i = rd (a) (i : Int) :: (a).drop (i + 1) := by rw [List.drop_eq_getElem_cons (show i < (a).length by omega), rdN (show i < (a).length by omega)]
    have eb : (b).drop i = rd (b) (i : Int) :: (b).drop (i + 1) := by rw [List.drop_eq_getElem_cons (show i < (b).length by omega), rdN (show i < (b).length by omega)]
    rw [slices_Equal_string_string_l0.eq_2, wr (x := (i : Int) + 1) (by omega) (by omega), hv, ea, eb]
    simp only [hi1, hi2, hi0, decide_true, and_self, if_true, List.cons.injEq]
    by_cases h : rd (a) (i : Int) = rd (b) (i : Int)
    · have hn : sbin .neq (rd (a) (i : Int)) (rd (b) (i : Int)) = false := by rw [sb_neq, h]; simp
      rw [hn]; simp only [h, Bool.false_eq_true, if_false, true_and]
    · have hn : sbin .neq (rd (a) (i : Int)) (rd (b) (i : Int)) = true := by rw [sb_neq]; simp [h]
      rw [hn]; simp only [h, if_true, false_and, if_false]
theorem slices_Equal_string_string_def (a b : List Str) (k : Nat) (hk : a.length < k) (hB : a.length ≤ 4611686018427387904) : slices_Equal_string_string k a b = some (decide (a = b)) := by
  unfold slices_Equal_string_string
  by_cases hl : a.length = b.length
  · have h := slices_Equal_string_string_l0_eq a b hl hB a.length k 0 (by omega) hk
    rw [show ((0 : Nat) : Int) = 0 from rfl, List.drop_zero, List.drop_zero] at h
    have hn : ((a.length : Int) != (b.length : Int)) = false := by rw [hl]; simp
    rw [hn, h]
    by_cases e : a = b <;> simp [e]
  · have hn : ((a.length : Int) != (b.length : Int)) = true := by simp; omega
    have e : a ≠ b := fun e => hl (by rw [e])
    rw [hn]; simp [e]
theorem slices_Equal_int_int_l0_eq (a b : List Int) (hl : (a).length = (b).length) (hB : (a).length ≤ 4611686018427387904) : ∀ (j k i : Nat), i + j = (a).length → j < k → slices_Equal_int_int_l0 a b k (i : Int) = some (if (a).drop i = (b).drop i then .inr () else .inl false) := by
  intro j
  induction j with
  | zero =>
    intro k i h1 h2
    obtain ⟨k, rfl⟩ : ∃ k', k = k' + 1 := ⟨k - 1, by omega⟩
    have : ¬ ((i : Int) < ((a).length : Int)) := by omega
    have e1 : (a).drop i = [] := List.drop_of_length_le (by omega)
    have e2 : (b).drop i = [] := List.drop_of_length_le (by omega)
    rw [slices_Equal_int_int_l0.eq_2, e1, e2]
    simp only [this, decide_false, Bool.false_eq_true, if_false, if_true]
  | succ j ih =>
    intro k i h1 h2
    obtain ⟨k, rfl⟩ : ∃ k', k = k' + 1 := ⟨k - 1, by omega⟩
    have hi1 : (i : Int) < ((a).length : Int) := by omega
    have hi2 : (i : Int) < ((b).length : Int) := by omega
    have hi0 : (0 : Int) ≤ (i : Int) := by omega
    have hv := ih k (i + 1) (by omega) (by omega)
    rw [show ((i + 1 : Nat) : Int) = (i : Int) + 1 by omega] at hv
    have ea : (a).drop i = rd (a) (i : Int) :: (a).drop (i + 1) := by rw [List.drop_eq_getElem_cons (show i < (a).length by omega), rdN (show i < (a).length by omega)]
    have eb : (b).drop i = rd (b) (i : Int) :: (b).drop (i + 1) := by rw [List.drop_eq_getElem_cons (show i < (b).length by omega), rdN (show i < (b).length by omega)]
    rw [slices_Equal_int_int_l0.eq_2, wr (x := (i : Int) + 1) (by omega) (by omega), hv, ea, eb]
    simp only [hi1, hi2, hi0, decide_true, and_self, if_true, List.cons.injEq]
    by_cases h : rd (a) (i : Int) = rd (b) (i : Int)
    · have hn : (rd (a) (i : Int) != rd (b) (i : Int)) = false := by rw [h]; simp
      rw [hn]; simp only [h, Bool.false_eq_true, if_false, true_and]
    · have hn : (rd (a) (i : Int) != rd (b) (i : Int)) = true := by simp [h]
      rw [hn]; simp only [h, if_true, false_and, if_false]
theorem slices_Equal_int_int_def (a b : List Int) (k : Nat) (hk : a.length < k) (hB : a.length ≤ 4611686018427387904) : slices_Equal_int_int k a b = some (decide (a = b)) := by
  unfold slices_Equal_int_int
  by_cases hl : a.length = b.length
  · have h := slices_Equal_int_int_l0_eq a b hl hB a.length k 0 (by omega) hk
    rw [show ((0 : Nat) : Int) = 0 from rfl, List.drop_zero, List.drop_zero] at h
    have hn : ((a.length : Int) != (b.length : Int)) = false := by rw [hl]; simp
    rw [hn, h]
    by_cases e : a = b <;> simp [e]
  · have hn : ((a.length : Int) != (b.length : Int)) = true := by simp; omega
    have e : a ≠ b := fun e => hl (by rw [e])
    rw [hn]; simp [e]
theorem slices_Equal_api_Handle_api_Handle_l0_eq (a b : List Int) (hl : (a).length = (b).length) (hB : (a).length ≤ 4611686018427387904) : ∀ (j k i : Nat), i + j = (a).length → j < k → slices_Equal_api_Handle_api_Handle_l0 a b k (i : Int) = some (if (a).drop i = (b).drop i then .inr () else .inl false) := by
  intro j
  induction j with
  | zero =>
    intro k i h1 h2
    obtain ⟨k, rfl⟩ : ∃ k', k = k' + 1 := ⟨k - 1, by omega⟩
    have : ¬ ((i : Int) < ((a).length : Int)) := by omega
    have e1 : (a).drop i = [] := List.drop_of_length_le (by omega)
    have e2 : (b).drop i = [] := List.drop_of_length_le (by omega)
    rw [slices_Equal_api_Handle_api_Handle_l0.eq_2, e1, e2]
    simp only [this, decide_false, Bool.false_eq_true, if_false, if_true]
  | succ j ih =>
    intro k i h1 h2
    obtain ⟨k, rfl⟩ : ∃ k', k = k' + 1 := ⟨k - 1, by omega⟩
    have hi1 : (i : Int) < ((a).length : Int) := by omega
    have hi2 : (i : Int) < ((b).length : Int) := by omega
    have hi0 : (0 : Int) ≤ (i : Int) := by omega
    have hv := ih k (i + 1) (by omega) (by omega)
    rw [show ((i + 1 : Nat) : Int) = (i : Int) + 1 by omega] at hv
    have ea : (a).drop i = rd (a) (i : Int) :: (a).drop (i + 1) := by rw [List.drop_eq_getElem_cons (show i < (a).length by omega), rdN (show i < (a).length by omega)]
    have eb : (b).drop i = rd (b) (i : Int) :: (b).drop (i + 1) := by rw [List.drop_eq_getElem_cons (show i < (b).length by omega), rdN (show i < (b).length by omega)]
    rw [slices_Equal_api_Handle_api_Handle_l0.eq_2, wr (x := (i : Int) + 1) (by omega) (by omega), hv, ea, eb]
    simp only [hi1, hi2, hi0, decide_true, and_self, if_true, List.cons.injEq]
    by_cases h : rd (a) (i : Int) = rd (b) (i : Int)
    · have hn : (rd (a) (i : Int) != rd (b) (i : Int)) = false := by rw [h]; simp
      rw [hn]; simp only [h, Bool.false_eq_true, if_false, true_and]
    · have hn : (rd (a) (i : Int) != rd (b) (i : Int)) = true := by simp [h]
      rw [hn]; simp only [h, if_true, false_and, if_false]
theorem slices_Equal_api_Handle_api_Handle_def (a b : List Int) (k : Nat) (hk : a.length < k) (hB : a.length ≤ 4611686018427387904) : slices_Equal_api_Handle_api_Handle k a b = some (decide (a = b)) := by
  unfold slices_Equal_api_Handle_api_Handle
  by_cases hl : a.length = b.length
  · have h := slices_Equal_api_Handle_api_Handle_l0_eq a b hl hB a.length k 0 (by omega) hk
    rw [show ((0 : Nat) : Int) = 0 from rfl, List.drop_zero, List.drop_zero] at h
    have hn : ((a.length : Int) != (b.length : Int)) = false := by rw [hl]; simp
    rw [hn, h]
    by_cases e : a = b <;> simp [e]
  · have hn : ((a.length : Int) != (b.length : Int)) = true := by simp; omega
    have e : a ≠ b := fun e => hl (by rw [e])
    rw [hn]; simp [e]
end Go.Proofs.Ytdommjjhfplcaaa
