/-  The plain law ForkTells, of what is of bulk at most 17592186044416. -/
import Derived.Test.YtdommjjhfplcaaaPureToldBase
import Derived.Test.YtdommjjhfplcaaaGf2LForkTells
namespace Go.Proofs.Ytdommjjhfplcaaa
open Go Go.RowKit
set_option linter.unusedVariables false
set_option linter.unusedSimpArgs false
theorem sb_geq (a b : Str) : sbin .geq a b = !decide (cmp a b < 0) := congrArg not (sb_lss a b)
/-- The document's node. -/
abbrev rf (n : fork_Node) : ferrymanref13_Node := ⟨n.Leaf, n.Keys, n.Kids, n.Rows⟩
theorem Same_def (a b : ferrymanref13_Node) (k : Nat) (h0 : a.Keys.length < k) (h1 : a.Kids.length < k) (h2 : a.Rows.length < k) (hk : k ≤ 4611686018427387904) :
    ferrymanref13_Same k a b = some (decide (a.Leaf = b.Leaf) && (decide (a.Keys = b.Keys) && (decide (a.Kids = b.Kids) && decide (a.Rows = b.Rows)))) := by
  unfold ferrymanref13_Same
  by_cases hg : a.Leaf = b.Leaf ∧ a.Keys.length = b.Keys.length ∧ a.Kids.length = b.Kids.length ∧ a.Rows.length = b.Rows.length
  · obtain ⟨g0, g1, g2, g3⟩ := hg
    have hc : ((((!(a.Leaf == b.Leaf)) || ((a.Keys.length : Int) != (b.Keys.length : Int))) || ((a.Kids.length : Int) != (b.Kids.length : Int))) || ((a.Rows.length : Int) != (b.Rows.length : Int))) = false := by rw [g0, g1, g2, g3]; simp
    have e0 := ferrymanref13_Same_l0_eq a b g1 (by omega) a.Keys.length k 0 (by omega) h0
    have e1 := ferrymanref13_Same_l1_eq a b g2 (by omega) a.Kids.length k 0 (by omega) h1
    have e2 := ferrymanref13_Same_l2_eq a b g3 (by omega) a.Rows.length k 0 (by omega) h2
    rw [show ((0 : Nat) : Int) = 0 from rfl, List.drop_zero, List.drop_zero] at e0 e1 e2
    rw [hc, e0, e1, e2]
    by_cases f0 : a.Keys = b.Keys <;> by_cases f1 : a.Kids = b.Kids <;> by_cases f2 : a.Rows = b.Rows <;> simp [f0, f1, f2, g0]
  · have hc : ((((!(a.Leaf == b.Leaf)) || ((a.Keys.length : Int) != (b.Keys.length : Int))) || ((a.Kids.length : Int) != (b.Kids.length : Int))) || ((a.Rows.length : Int) != (b.Rows.length : Int))) = true := by
      simp only [Bool.or_eq_true, Bool.not_eq_true', beq_eq_false_iff_ne, bne_iff_ne, ne_eq]
      apply Classical.byContradiction
      intro h
      simp only [not_or, Classical.not_not] at h
      exact hg ⟨h.1.1.1, by omega, by omega, by omega⟩
    rw [hc, if_pos rfl]
    have hd : ¬ (a.Leaf = b.Leaf ∧ a.Keys = b.Keys ∧ a.Kids = b.Kids ∧ a.Rows = b.Rows) := fun ⟨q0, q1, q2, q3⟩ => hg ⟨q0, by rw [q1], by rw [q2], by rw [q3]⟩
    rw [← Bool.decide_and, ← Bool.decide_and, ← Bool.decide_and, decide_eq_false hd]
theorem fSame_def (a b : fork_Node) (k : Nat) (h0 : a.Keys.length < k) (h1 : a.Kids.length < k) (h2 : a.Rows.length < k) (hk : k ≤ 4611686018427387904) :
    fork_Same k a b = some (decide (a.Leaf = b.Leaf) && (decide (a.Keys = b.Keys) && (decide (a.Kids = b.Kids) && decide (a.Rows = b.Rows)))) := by
  unfold fork_Same
  rw [slices_Equal_string_string_def a.Keys b.Keys k h0 (by omega), slices_Equal_int_int_def a.Kids b.Kids k h1 (by omega), slices_Equal_api_Handle_api_Handle_def a.Rows b.Rows k h2 (by omega)]
  by_cases f : a.Leaf = b.Leaf <;> by_cases f0 : a.Keys = b.Keys <;> by_cases f1 : a.Kids = b.Kids <;> by_cases f2 : a.Rows = b.Rows <;> simp [f0, f1, f2, f]
theorem rMay_l0 (n : fork_Node) (hl : n.Keys.length ≤ 4611686018427387904) : ∀ (j k i : Nat), i + j = n.Keys.length → 1 ≤ i → j < k → ferrymanref13_May_l0 (rf n) k (i : Int) = some (if sortedB (n.Keys.drop (i - 1)) = true then .inr () else .inl false) := by
  intro j
  induction j with
  | zero =>
    intro k i h1 h2 h3
    obtain ⟨k, rfl⟩ : ∃ k', k = k' + 1 := ⟨k - 1, by omega⟩
    have : ¬ ((i : Int) < (n.Keys.length : Int)) := by omega
    have hd : n.Keys.drop (i - 1) = [n.Keys[i - 1]'(by omega)] := by
      rw [List.drop_eq_getElem_cons (by omega), List.drop_of_length_le (by omega)]
    rw [ferrymanref13_May_l0.eq_2, hd]
    simp only [this, decide_false, Bool.false_eq_true, if_false, sortedB, if_true]
  | succ j ih =>
    intro k i h1 h2 h3
    obtain ⟨k, rfl⟩ : ∃ k', k = k' + 1 := ⟨k - 1, by omega⟩
    have hi : i < n.Keys.length := by omega
    have hi1 : (i : Int) < (n.Keys.length : Int) := by omega
    have hi0 : (0 : Int) ≤ (i : Int) := by omega
    have ih' := ih k (i + 1) (by omega) (by omega) (by omega)
    rw [show ((i + 1 : Nat) : Int) = (i : Int) + 1 by omega, Nat.add_sub_cancel] at ih'
    have hw : IntKind.i64.wrap ((i : Int) - 1) = ((i - 1 : Nat) : Int) := by rw [wr (by omega) (by omega)]; omega
    have hw2 : 0 ≤ ((i - 1 : Nat) : Int) ∧ ((i - 1 : Nat) : Int) < (n.Keys.length : Int) := by omega
    have hd : n.Keys.drop (i - 1) = n.Keys[i - 1]'(by omega) :: n.Keys[i] :: n.Keys.drop (i + 1) := by
      rw [List.drop_eq_getElem_cons (show i - 1 < n.Keys.length by omega), show i - 1 + 1 = i by omega, List.drop_eq_getElem_cons hi]
    have hd2 : n.Keys.drop i = n.Keys[i] :: n.Keys.drop (i + 1) := List.drop_eq_getElem_cons hi
    rw [ferrymanref13_May_l0.eq_2, hw, wr (x := (i : Int) + 1) (by omega) (by omega), hd]
    rw [hd2] at ih'
    simp only [hi1, hi0, hw2, decide_true, and_self, if_true, rdN hi, rdN (show i - 1 < n.Keys.length by omega), sb_leq, sortedB, ih']
    have hs := cmp_symm (n.Keys[i - 1]'(by omega)) n.Keys[i]
    by_cases hc : cmp n.Keys[i] (n.Keys[i - 1]'(by omega)) ≤ 0
    · by_cases hz : cmp (n.Keys[i - 1]'(by omega)) n.Keys[i] < 0
      · omega
      · simp only [hc, hz, decide_true, decide_false, Bool.false_and, if_true, Bool.false_eq_true, if_false]
    · have hz : cmp (n.Keys[i - 1]'(by omega)) n.Keys[i] < 0 := by omega
      simp only [hc, hz, decide_true, decide_false, Bool.true_and, Bool.false_eq_true, if_false]
theorem rMay_def (n : fork_Node) (hl : n.Keys.length ≤ 17592186044416) (hk' : n.Kids.length ≤ 17592186044416) (k : Nat) (hk : n.Keys.length + 1 < k) : ferrymanref13_May k (rf n) = some (mayB n) := by
  have hlp : ferrymanref13_May_l0 (rf n) k 1 = some (if sortedB n.Keys = true then .inr () else .inl false) := by
    by_cases h0 : n.Keys.length = 0
    · obtain ⟨k, rfl⟩ : ∃ k', k = k' + 1 := ⟨k - 1, by omega⟩
      have hn : n.Keys = [] := List.eq_nil_of_length_eq_zero h0
      rw [ferrymanref13_May_l0.eq_2]
      simp [hn, sortedB]
    · have h := rMay_l0 n (by omega) (n.Keys.length - 1) k 1 (by omega) (by omega) (by omega)
      rw [show ((1 : Nat) : Int) = 1 from rfl, Nat.sub_self, List.drop_zero] at h
      exact h
  have beqN : ∀ a b : Nat, (((a : Int) == (b : Int)) : Bool) = decide (a = b) := fun a b => by
    by_cases h : a = b
    · subst h; simp
    · have : ((a : Int) == (b : Int)) = false := beq_false_of_ne (by omega)
      simp only [this, h, decide_false]
  have beq0 : ∀ a : Nat, (((a : Int) == (0 : Int)) : Bool) = decide (a = 0) := fun a => beqN a 0
  have hkid : ((n.Kids.length : Int) == IntKind.i64.wrap ((n.Keys.length : Int) + 1)) = decide (n.Kids.length = n.Keys.length + 1) := by
    rw [wr (by omega) (by omega)]
    exact beqN n.Kids.length (n.Keys.length + 1)
  unfold ferrymanref13_May
  rw [hlp]
  simp only [hkid, beqN, beq0, mayB, shapeB, Option.bind_some]
  cases hs : sortedB n.Keys
  · simp only [Bool.false_eq_true, if_false, Sum.elim_inl, Bool.false_and]
  · simp only [if_true, Sum.elim_inr, Bool.true_and]
    split <;> rfl
theorem rPlace_l0 (n : fork_Node) (key : Str) (hs : SortedP n.Keys) (hl : n.Keys.length ≤ 17592186044416) : ∀ (j k i : Nat), i + j = n.Keys.length → i ≤ lo n.Keys key → j < k → ferrymanref13_Place_l0 (rf n) key k (i : Int) = some (if lo n.Keys key < n.Keys.length then .inl ((lo n.Keys key : Int), has n.Keys key) else .inr ()) := by
  have hlo := lo_le n.Keys key
  intro j
  induction j with
  | zero =>
    intro k i h1 h2 h3
    obtain ⟨k, rfl⟩ : ∃ k', k = k' + 1 := ⟨k - 1, by omega⟩
    have : ¬ ((i : Int) < (n.Keys.length : Int)) := by omega
    rw [ferrymanref13_Place_l0.eq_2, if_neg (by omega : ¬ lo n.Keys key < n.Keys.length)]
    simp only [this, decide_false, Bool.false_eq_true, if_false]
  | succ j ih =>
    intro k i h1 h2 h3
    obtain ⟨k, rfl⟩ : ∃ k', k = k' + 1 := ⟨k - 1, by omega⟩
    have hi : i < n.Keys.length := by omega
    have hi1 : (i : Int) < (n.Keys.length : Int) := by omega
    have hi0 : (0 : Int) ≤ (i : Int) := by omega
    have hiff := lo_iff hs key hi
    rw [ferrymanref13_Place_l0.eq_2, wr (x := (i : Int) + 1) (by omega) (by omega)]
    simp only [hi1, hi0, decide_true, and_self, if_true, rdN hi, sb_geq, sb_eql]
    by_cases hc : cmp n.Keys[i] key < 0
    · have hlt := hiff.1 hc
      have ih' := ih k (i + 1) (by omega) (by omega) (by omega)
      rw [show ((i + 1 : Nat) : Int) = (i : Int) + 1 by omega] at ih'
      simp only [hc, decide_true, Bool.not_true, Bool.false_eq_true, if_false]
      exact ih'
    · have hge : ¬ i < lo n.Keys key := fun h => hc (hiff.2 h)
      have he : i = lo n.Keys key := by omega
      have hb : has n.Keys key = decide (n.Keys[i] = key) := by
        unfold has
        have e9 : n.Keys[lo n.Keys key]? = some n.Keys[i] := by rw [← he, List.getElem?_eq_getElem hi]
        rw [e9]; simp
      rw [if_pos (by omega : lo n.Keys key < n.Keys.length), hb, ← he]
      simp only [hc, decide_false, Bool.not_false, if_true]
theorem rKid_l0 (n : fork_Node) (key : Str) (hs : SortedP n.Keys) (hl : n.Keys.length ≤ 17592186044416) : ∀ (j k i : Nat) (c : Nat), i + j = n.Keys.length → c = min i (up n.Keys key) → j < k → ferrymanref13_Kid_l0 (rf n) key k (c : Int) (i : Int) = some (up n.Keys key : Int) := by
  have hup := up_le n.Keys key
  intro j
  induction j with
  | zero =>
    intro k i c h1 h2 h3
    obtain ⟨k, rfl⟩ : ∃ k', k = k' + 1 := ⟨k - 1, by omega⟩
    have : ¬ ((i : Int) < (n.Keys.length : Int)) := by omega
    rw [ferrymanref13_Kid_l0.eq_2]
    simp only [this, decide_false, Bool.false_eq_true, if_false, Option.some.injEq]; omega
  | succ j ih =>
    intro k i c h1 h2 h3
    obtain ⟨k, rfl⟩ : ∃ k', k = k' + 1 := ⟨k - 1, by omega⟩
    have hi : i < n.Keys.length := by omega
    have hi1 : (i : Int) < (n.Keys.length : Int) := by omega
    have hi0 : (0 : Int) ≤ (i : Int) := by omega
    have hiff := up_iff hs key hi
    rw [ferrymanref13_Kid_l0.eq_2, wr (x := (i : Int) + 1) (by omega) (by omega), wr (x := (c : Int) + 1) (by omega) (by omega)]
    simp only [hi1, hi0, decide_true, and_self, if_true, rdN hi, sb_leq]
    by_cases hc : cmp n.Keys[i] key ≤ 0
    · have hlt := hiff.1 hc
      have ih' := ih k (i + 1) (c + 1) (by omega) (by omega) (by omega)
      rw [show ((i + 1 : Nat) : Int) = (i : Int) + 1 by omega, show ((c + 1 : Nat) : Int) = (c : Int) + 1 by omega] at ih'
      simp only [hc, decide_true, if_true, Option.bind_some]
      exact ih'
    · have hge : ¬ i < up n.Keys key := fun h => hc (hiff.2 h)
      have ih' := ih k (i + 1) c (by omega) (by omega) (by omega)
      rw [show ((i + 1 : Nat) : Int) = (i : Int) + 1 by omega] at ih'
      simp only [hc, decide_false, Bool.false_eq_true, if_false, Option.bind_some]
      exact ih'
theorem place_both (n : fork_Node) (key : Str) (hl : n.Keys.length ≤ 17592186044416) (hk' : n.Kids.length ≤ 17592186044416) (k : Nat) (hk : n.Keys.length + 1 < k) :
    ∃ r, fork_Place k n key = some r ∧ ferrymanref13_Place k (rf n) key = some r := by
  have hlo := lo_le n.Keys key
  cases hm : mayB n
  · refine ⟨(0, false), ?_, ?_⟩
    · simp only [fork_Place, May_def n (by omega) (by omega) k (by omega), hm, Option.bind_some, Bool.not_false, if_true]
    · unfold ferrymanref13_Place; rw [rMay_def n hl hk' k hk, hm]; rfl
  · have hs : SortedP n.Keys := (sorted_iff _).1 (by have := hm; simp only [mayB, Bool.and_eq_true] at this; exact this.1)
    refine ⟨((lo n.Keys key : Int), has n.Keys key), ?_, ?_⟩
    · have hh := halve_Place n.Keys key (by omega) hs k 0 n.Keys.length (by omega) (by omega) hlo (by omega)
      rw [show ((0 : Nat) : Int) = 0 from rfl] at hh
      simp only [fork_Place, May_def n (by omega) (by omega) k (by omega), hm, Option.bind_some, Bool.not_true, Bool.false_eq_true, if_false, fork_halve_string_Place_1, hh]
      by_cases hc : lo n.Keys key < n.Keys.length
      · have h3 : ((lo n.Keys key : Nat) : Int) < (n.Keys.length : Int) := by omega
        have h4 : 0 ≤ ((lo n.Keys key : Nat) : Int) := by omega
        simp only [h3, h4, decide_true, if_true, and_self, rdN hc, sb_eql, Option.bind_some, has, List.getElem?_eq_getElem hc, Option.some.injEq]
      · have h3 : ¬ ((lo n.Keys key : Nat) : Int) < (n.Keys.length : Int) := by omega
        have h4 : n.Keys[lo n.Keys key]? = none := List.getElem?_eq_none (by omega)
        simp [h3, has, h4]
    · have hh := rPlace_l0 n key hs hl n.Keys.length k 0 (by omega) (by omega) (by omega)
      rw [show ((0 : Nat) : Int) = 0 from rfl] at hh
      unfold ferrymanref13_Place
      rw [rMay_def n hl hk' k hk, hm, hh]
      by_cases hc : lo n.Keys key < n.Keys.length
      · rw [if_pos hc]; rfl
      · have h4 : n.Keys[lo n.Keys key]? = none := List.getElem?_eq_none (by omega)
        have h5 : lo n.Keys key = n.Keys.length := by omega
        rw [if_neg hc]; simp [has, h4, h5]
theorem kid_both (n : fork_Node) (key : Str) (hl : n.Keys.length ≤ 17592186044416) (hk' : n.Kids.length ≤ 17592186044416) (k : Nat) (hk : n.Keys.length + 1 < k) :
    ∃ r, fork_Kid k n key = some r ∧ ferrymanref13_Kid k (rf n) key = some r := by
  have hup := up_le n.Keys key
  cases hf : n.Leaf
  · cases hm : mayB n
    · refine ⟨0, ?_, ?_⟩
      · simp only [fork_Kid, hf, May_def n (by omega) (by omega) k (by omega), hm, Option.bind_some, Bool.not_false, if_true, Bool.false_eq_true, if_false]
      · unfold ferrymanref13_Kid; rw [rMay_def n hl hk' k hk, hm]; simp [hf]
    · have hs : SortedP n.Keys := (sorted_iff _).1 (by have := hm; simp only [mayB, Bool.and_eq_true] at this; exact this.1)
      refine ⟨(up n.Keys key : Int), ?_, ?_⟩
      · have hh := halve_Kid n.Keys key (by omega) hs k 0 n.Keys.length (by omega) (by omega) hup (by omega)
        rw [show ((0 : Nat) : Int) = 0 from rfl] at hh
        simp only [fork_Kid, hf, May_def n (by omega) (by omega) k (by omega), hm, Option.bind_some, Bool.not_true, Bool.false_eq_true, if_false, fork_halve_string_Kid_1, hh]
      · have hh := rKid_l0 n key hs hl n.Keys.length k 0 0 (by omega) (by omega) (by omega)
        rw [show ((0 : Nat) : Int) = 0 from rfl] at hh
        unfold ferrymanref13_Kid; rw [rMay_def n hl hk' k hk, hm, hh]; simp [hf]
  · refine ⟨0, ?_, ?_⟩
    · simp [fork_Kid, hf]
    · simp [ferrymanref13_Kid, hf]
theorem fence_both (n : fork_Node) (kid : Int) (hl : n.Keys.length ≤ 17592186044416) (hk' : n.Kids.length ≤ 17592186044416) (k : Nat) (hk : n.Keys.length + 1 < k) :
    ∃ r, fork_Fence k n kid = some r ∧ ferrymanref13_Fence k (rf n) kid = some r := by
  unfold fork_Fence ferrymanref13_Fence
  rw [May_def n (by omega) (by omega) k (by omega), rMay_def n hl hk' k hk]
  have hgo : ∀ b : Bool, ∃ r, (if ((b || (decide (kid < (0 : Int)))) || (decide (kid ≥ (n.Keys.length : Int)))) = true then some (([] : Str), false) else (if 0 ≤ kid ∧ kid < (n.Keys.length : Int) then some ((rd n.Keys kid), true) else none)) = some r := by
    intro b
    by_cases h : ((b || (decide (kid < (0 : Int)))) || (decide (kid ≥ (n.Keys.length : Int)))) = true
    · exact ⟨_, if_pos h⟩
    · have h' : 0 ≤ kid ∧ kid < (n.Keys.length : Int) := by simp at h; omega
      exact ⟨_, by rw [if_neg h, if_pos h']⟩
  cases hf : n.Leaf
  · obtain ⟨r, hr⟩ := hgo (!mayB n)
    exact ⟨r, by simpa [hf] using hr, by simpa [hf] using hr⟩
  · obtain ⟨r, hr⟩ := hgo true
    exact ⟨r, by simpa [hf] using hr, by simpa [hf] using hr⟩
theorem safe_both (n : fork_Node) (fan mode : Int) (root : Bool) (k : Nat) : ∃ r, fork_Safe k n fan mode root = some r ∧ ferrymanref13_Safe k (rf n) fan mode root = some r := by
  unfold fork_Safe ferrymanref13_Safe
  by_cases h0 : mode = 0
  · subst h0; exact ⟨true, by simp, by simp⟩
  · by_cases h1 : mode = 1
    · subst h1; exact ⟨_, by simp; rfl, by simp⟩
    · by_cases h2 : mode = 2
      · subst h2
        cases hf : n.Leaf
        · cases root
          · refine ⟨decide ((n.Kids.length : Int) > 1), by simp, ?_⟩
            simp only [beq_self_eq_true, Bool.and_false, Bool.false_eq_true, if_false, if_true, Bool.not_false, Bool.true_and, show ((2 : Int) == 1) = false from rfl, Option.some.injEq]
            by_cases g : (n.Kids.length : Int) > 1
            · simp [g, hf]
            · have : ¬ (n.Kids.length : Int) > 2 := by omega
              simp [g, this, hf]
          · exact ⟨decide ((n.Kids.length : Int) > 2), by simp [hf], by simp [hf]⟩
        · exact ⟨root || decide ((n.Keys.length : Int) > 1), by simp [hf], by simp [hf]⟩
      · have e0 : (mode == 0) = false := by simpa using h0
        have e1 : (mode == 1) = false := by simpa using h1
        have e2 : (mode == 2) = false := by simpa using h2
        have e3 : (mode != 2) = true := by simpa using h2
        exact ⟨false, by simp [e0, e1, e3], by simp [e0, e1, e2]⟩
theorem own_def (n : fork_Node) (k : Nat) (h0 : n.Keys.length * 16 ≤ 140737488351232) (h1 : n.Kids.length * 8 ≤ 140737488351232) (h2 : n.Rows.length * 8 ≤ 140737488351232) : ferrymanlaw13_own k n = some n := by
  unfold ferrymanlaw13_own
  rw [wr (x := (n.Keys.length : Int) + 3) (by omega) (by omega), wr (x := (n.Kids.length : Int) + 3) (by omega) (by omega), wr (x := (n.Rows.length : Int) + 3) (by omega) (by omega)]
  rw [if_pos (by omega), if_pos (by simp; omega), if_pos (by omega), if_pos (by simp; omega), if_pos (by omega)]
  simp only [Option.bind_some]
  rw [if_pos (by simp; omega)]
  simp
theorem copy_def (n : fork_Node) (k : Nat) (h0 : n.Keys.length * 16 ≤ 140737488351232) (h1 : n.Kids.length * 8 ≤ 140737488351232) (h2 : n.Rows.length * 8 ≤ 140737488351232) : fork_Copy k n = some n := by
  simp only [fork_Copy, slices_Clone_string_string, slices_Clone_int_int, slices_Clone_api_Handle_api_Handle, List.length_nil, List.nil_append, Nat.zero_add]
  rw [if_pos (by omega), if_pos (by omega), if_pos (by omega)]; rfl
theorem large_some (n : fork_Node) (hl : n.Keys.length ≤ 17592186044416) (k : Nat) (hk : n.Keys.length < k) : ∃ b, ferrymanlaw13_large k n = some b := by
  obtain ⟨y, hy⟩ := large_l0 n (by omega) n.Keys.length k 0 (IntKind.i64.wrap ((n.Kids.length : Int) + (n.Rows.length : Int))) (by omega) hk
  rw [show ((0 : Nat) : Int) = 0 from rfl] at hy
  exact ⟨decide (y ≥ 3000), by simp only [ferrymanlaw13_large, hy, Option.bind_some]⟩
theorem pure_ForkTells (a0 : fork_Node) (a1 : fork_Node) (a2 : Str) (a3 : Int) (a4 : Int) (a5 : Int) (a6 : Bool) (_ : wf_fork_Node a0) (_ : wf_fork_Node a1) (_ : wfStr a2) (_ : (wfInt .i64) a3) (_ : (wfInt .i64) a4) (_ : (wfInt .u8) a5) (_ : wfTrue a6)
    (wt0 : a0.Keys.length * 16 ≤ 140737488351232 ∧ a0.Kids.length * 8 ≤ 140737488351232 ∧ a0.Rows.length * 8 ≤ 140737488351232) (wt1 : a1.Keys.length * 16 ≤ 140737488351232 ∧ a1.Kids.length * 8 ≤ 140737488351232 ∧ a1.Rows.length * 8 ≤ 140737488351232) : ∃ k, ferrymanlaw13_ForkTells k a0 a1 a2 a3 a4 a5 a6 = some true := by
  obtain ⟨p0, p1, p2⟩ := wt0
  obtain ⟨q0, q1, q2⟩ := wt1
  obtain ⟨k, hk⟩ : ∃ k, k = a0.Keys.length + a0.Kids.length + a0.Rows.length + a1.Keys.length + 100 := ⟨_, rfl⟩
  refine ⟨k, ?_⟩
  obtain ⟨b0, hb0⟩ := large_some a0 (by omega) k (by omega)
  obtain ⟨b1, hb1⟩ := large_some a1 (by omega) k (by omega)
  have haw := awake_def k (by omega)
  obtain ⟨pl, e1, e2⟩ := place_both a0 a2 (by omega) (by omega) k (by omega)
  obtain ⟨fe, e3, e4⟩ := fence_both a0 a3 (by omega) (by omega) k (by omega)
  obtain ⟨ki, e5, e6⟩ := kid_both a0 a2 (by omega) (by omega) k (by omega)
  obtain ⟨sa, e7, e8⟩ := safe_both a0 a4 a5 a6 k
  have em := May_def a0 (by omega) (by omega) k (by omega)
  have erm := rMay_def a0 (by omega) (by omega) k (by omega)
  have es := fSame_def a0 a1 k (by omega) (by omega) (by omega) (by omega)
  have ers := Same_def (rf a0) (rf a1) k (by show a0.Keys.length < _; omega) (by show a0.Kids.length < _; omega) (by show a0.Rows.length < _; omega) (by omega)
  have es0 := fSame_def a0 a0 k (by omega) (by omega) (by omega) (by omega)
  have ers0 := Same_def (rf a0) (rf a0) k (by show a0.Keys.length < _; omega) (by show a0.Kids.length < _; omega) (by show a0.Rows.length < _; omega) (by omega)
  have eo := own_def a0 k (by omega) (by omega) (by omega)
  have ec := copy_def a0 k (by omega) (by omega) (by omega)
  simp only [decide_true, Bool.and_self] at es0 ers0
  have et : ferrymanlaw13_told k a0 (rf a0) = some true := by unfold ferrymanlaw13_told; rw [ers0]; rfl
  unfold ferrymanlaw13_ForkTells
  have hx : ∀ n : fork_Node, (⟨n.Leaf, n.Keys, n.Kids, n.Rows⟩ : fork_Node) = n := fun _ => rfl
  cases hb : ((b0 || b1) || decide ((a2.length : Int) > 3000))
  · have hb0' : b0 = false := by cases b0 <;> simp_all
    have hb1' : b1 = false := by cases b1 <;> simp_all
    have hd : ¬ ((a2.length : Int) > 3000) := by
      intro h; rw [decide_eq_true h] at hb; simp at hb
    subst hb0' hb1'
    simp only [hb0, hb1, Option.bind_some, Bool.false_eq_true, if_false, hd, decide_false, Bool.or_self, eo, hx, e1, e2, e3, e4, bne_self_eq_false, beq_self_eq_true, Bool.not_true, sb_neq, decide_true, em, erm, e5, e6, e7, e8, es, ers, es0, ec, et, if_true, ers0, haw]
  · cases b0
    · cases b1
      · have hd : (a2.length : Int) > 3000 := by simpa using hb
        simp only [hb0, hb1, Option.bind_some, Bool.false_eq_true, if_false, hd, decide_true, Bool.or_true, if_true, haw]
      · simp only [hb0, hb1, Option.bind_some, Bool.false_eq_true, if_false, Bool.true_or, if_true, haw]
    · simp only [hb0, Option.bind_some, Bool.true_or, if_true, haw]
end Go.Proofs.Ytdommjjhfplcaaa
