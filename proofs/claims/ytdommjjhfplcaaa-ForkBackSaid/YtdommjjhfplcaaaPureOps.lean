/-  What a node's changes come to, in closed form. -/
import Derived.Test.YtdommjjhfplcaaaPureBase
namespace Go.Proofs.Ytdommjjhfplcaaa
open Go Go.RowKit
set_option linter.unusedVariables false
set_option linter.unusedSimpArgs false

abbrev nilN : fork_Node := ⟨false, [], [], []⟩
/-- With a thing put in at a place; without the one that stands there. -/
def ins {α : Type} (l : List α) (i : Nat) (x : α) : List α := l.take i ++ [x] ++ l.drop i
def del {α : Type} (l : List α) (i : Nat) : List α := l.take i ++ l.drop (i + 1)
section
variable {α : Type} {l : List α} {i : Nat} {x : α}
theorem ins_len (h : i ≤ l.length) : (ins l i x).length = l.length + 1 := by simp [ins]; omega
theorem del_len (h : i < l.length) : (del l i).length = l.length - 1 := by simp [del]; omega
theorem ins_get (h : i ≤ l.length) (j : Nat) : (ins l i x)[j]? = if j < i then l[j]? else if j = i then some x else l[j - 1]? := by
  have ht : (l.take i).length = i := by simp; omega
  unfold ins
  rw [List.append_assoc, List.getElem?_append, ht]
  by_cases h1 : j < i
  · rw [if_pos h1, if_pos h1, List.getElem?_take, if_pos h1]
  · rw [if_neg h1, if_neg h1]
    by_cases h2 : j = i
    · subst h2; simp
    · rw [if_neg h2]
      obtain ⟨m, rfl⟩ : ∃ m, j = i + 1 + m := ⟨j - i - 1, by omega⟩
      have e : i + 1 + m - i = m + 1 := by omega
      rw [e, List.singleton_append, List.getElem?_cons_succ, List.getElem?_drop]
      congr 1; omega
theorem del_get (h : i ≤ l.length) (j : Nat) : (del l i)[j]? = if j < i then l[j]? else l[j + 1]? := by
  have ht : (l.take i).length = i := by simp; omega
  unfold del
  rw [List.getElem?_append, ht]
  by_cases h1 : j < i
  · rw [if_pos h1, if_pos h1, List.getElem?_take, if_pos h1]
  · rw [if_neg h1, if_neg h1, List.getElem?_drop]
    congr 1; omega
theorem del_ins (h : i ≤ l.length) : del (ins l i x) i = l := by
  apply List.ext_getElem?
  intro j
  rw [del_get (by rw [ins_len h]; omega), ins_get h, ins_get h]
  by_cases h1 : j < i
  · rw [if_pos h1, if_pos h1]
  · rw [if_neg h1, if_neg (by omega), if_neg (by omega), Nat.add_sub_cancel]
theorem ins_del (h : i < l.length) (hx : l[i]? = some x) : ins (del l i) i x = l := by
  apply List.ext_getElem?
  intro j
  rw [ins_get (by rw [del_len h]; omega), del_get (by omega), del_get (by omega)]
  by_cases h1 : j < i
  · rw [if_pos h1, if_pos h1]
  · rw [if_neg h1]
    by_cases h2 : j = i
    · rw [if_pos h2, h2, hx]
    · rw [if_neg h2, if_neg (by omega)]; congr 1; omega
theorem del_sub (l : List α) (i : Nat) : (del l i).Sublist l := by
  unfold del
  rw [← List.eraseIdx_eq_take_drop_succ]; exact List.eraseIdx_sublist l i
end
/-! ### A key's place, and what is changed there -/
section
variable {l : List Str} {key : Str}
theorem lo_uniq (hs : SortedP l) {c : Nat} (hc : c ≤ l.length) (h1 : ∀ i x, i < c → l[i]? = some x → cmp x key < 0) (h2 : ∀ i x, c ≤ i → l[i]? = some x → ¬ cmp x key < 0) : lo l key = c := by
  have hle := lo_le l key
  rcases Nat.lt_trichotomy (lo l key) c with h | h | h
  · have hl : lo l key < l.length := by omega
    have := (lo_iff hs key hl).1 (h1 _ _ h (List.getElem?_eq_getElem hl)); omega
  · exact h
  · have hl : c < l.length := by omega
    exact absurd ((lo_iff hs key hl).2 h) (h2 _ _ (Nat.le_refl _) (List.getElem?_eq_getElem hl))
theorem up_uniq (hs : SortedP l) {c : Nat} (hc : c ≤ l.length) (h1 : ∀ i x, i < c → l[i]? = some x → cmp x key ≤ 0) (h2 : ∀ i x, c ≤ i → l[i]? = some x → ¬ cmp x key ≤ 0) : up l key = c := by
  have hle := up_le l key
  rcases Nat.lt_trichotomy (up l key) c with h | h | h
  · have hl : up l key < l.length := by omega
    have := (up_iff hs key hl).1 (h1 _ _ h (List.getElem?_eq_getElem hl)); omega
  · exact h
  · have hl : c < l.length := by omega
    exact absurd ((up_iff hs key hl).2 h) (h2 _ _ (Nat.le_refl _) (List.getElem?_eq_getElem hl))
theorem get_lt {α : Type} {l : List α} {i : Nat} {x : α} (h : l[i]? = some x) : ∃ hi : i < l.length, l[i] = x := by
  have hi := (List.getElem?_eq_some_iff.1 h); exact ⟨hi.1, hi.2⟩
theorem lo_lt (hs : SortedP l) {i : Nat} {x : Str} (h : i < lo l key) (hx : l[i]? = some x) : cmp x key < 0 := by
  obtain ⟨hi, rfl⟩ := get_lt hx
  exact (lo_iff hs key hi).2 h
theorem lo_ge (hs : SortedP l) {i : Nat} {x : Str} (h : lo l key ≤ i) (hx : l[i]? = some x) : ¬ cmp x key < 0 := by
  obtain ⟨hi, rfl⟩ := get_lt hx
  intro hc
  have := (lo_iff hs key hi).1 hc; omega
theorem cmp_gt_of {x : Str} (h1 : ¬ cmp x key < 0) (h2 : x ≠ key) : cmp key x < 0 := by
  have h3 : cmp x key ≠ 0 := fun e => h2 ((cmp_eq _ _).1 e)
  have := cmp_symm x key; omega
theorem lo_gt (hs : SortedP l) {i : Nat} {x : Str} (h : lo l key < i) (hx : l[i]? = some x) : cmp key x < 0 := by
  obtain ⟨hi, rfl⟩ := get_lt hx
  have hl : lo l key < l.length := by omega
  have h1 := sorted_at hs h hi
  have h2 := lo_ge hs (Nat.le_refl _) (List.getElem?_eq_getElem hl)
  have h3 : cmp key (l[lo l key]) ≤ 0 := by have := cmp_symm (l[lo l key]) key; omega
  exact cmp_le_lt h3 h1
theorem lo_gt' (hs : SortedP l) (hn : has l key = false) {i : Nat} {x : Str} (h : lo l key ≤ i) (hx : l[i]? = some x) : cmp key x < 0 := by
  rcases Nat.lt_or_eq_of_le h with h1 | h1
  · exact lo_gt hs h1 hx
  · subst h1
    refine cmp_gt_of (lo_ge hs (Nat.le_refl _) hx) (fun e => ?_)
    subst e
    simp [has, hx] at hn
theorem has_at (h : has l key = true) : l[lo l key]? = some key := by simpa [has] using h
theorem has_iff (hs : SortedP l) {i : Nat} {x : Str} (hx : l[i]? = some x) : decide (x = key) = (has l key && decide (i = lo l key)) := by
  by_cases e : x = key
  · subst e
    have h1 : i = lo l x := by
      rcases Nat.lt_trichotomy i (lo l x) with h | h | h
      · have := lo_lt hs h hx; rw [cmp_self] at this; omega
      · exact h
      · have := lo_gt hs h hx; rw [cmp_self] at this; omega
    have h2 : has l x = true := by rw [h1] at hx; simp [has, hx]
    rw [h2, decide_eq_true rfl, decide_eq_true h1]; rfl
  · rw [decide_eq_false e]
    cases hh : has l key
    · rfl
    · by_cases h1 : i = lo l key
      · have := has_at hh
        rw [← h1, hx] at this; injection this with this; exact absurd this e
      · rw [decide_eq_false h1]; rfl
theorem sorted_ins (hs : SortedP l) (hn : has l key = false) : SortedP (ins l (lo l key) key) := by
  have hl := lo_le l key
  have hsplit : SortedP (l.take (lo l key) ++ l.drop (lo l key)) := by rw [List.take_append_drop]; exact hs
  obtain ⟨h1, h2, h3⟩ := List.pairwise_append.1 hsplit
  have hA : ∀ a ∈ l.take (lo l key), cmp a key < 0 := fun a ha => by
    obtain ⟨i, hi⟩ := List.getElem?_of_mem ha
    rw [List.getElem?_take] at hi
    split at hi
    · rename_i hlt; exact lo_lt hs hlt hi
    · cases hi
  have hB : ∀ b ∈ l.drop (lo l key), cmp key b < 0 := fun b hb => by
    obtain ⟨i, hi⟩ := List.getElem?_of_mem hb
    rw [List.getElem?_drop] at hi
    exact lo_gt' hs hn (by omega) hi
  unfold ins
  rw [List.append_assoc]
  refine List.pairwise_append.2 ⟨h1, List.pairwise_cons.2 ⟨hB, h2⟩, fun a ha b hb => ?_⟩
  rcases List.mem_cons.1 hb with rfl | hb
  · exact hA a ha
  · exact h3 a ha b hb
theorem sorted_del (hs : SortedP l) (i : Nat) : SortedP (del l i) := List.Pairwise.sublist (del_sub l i) hs
theorem lo_ins (hs : SortedP l) (hn : has l key = false) : lo (ins l (lo l key) key) key = lo l key := by
  have hl := lo_le l key
  refine lo_uniq (sorted_ins hs hn) (by rw [ins_len hl]; omega) (fun i x hi hx => ?_) (fun i x hi hx => ?_)
  · rw [ins_get hl, if_pos hi] at hx; exact lo_lt hs hi hx
  · rw [ins_get hl, if_neg (by omega)] at hx
    split at hx
    · injection hx with hx; rw [← hx, cmp_self]; omega
    · exact lo_ge hs (by omega) hx
theorem has_ins (hs : SortedP l) (hn : has l key = false) : has (ins l (lo l key) key) key = true := by
  have hl := lo_le l key
  simp [has, lo_ins hs hn, ins_get hl]
theorem up_ins (hs : SortedP l) (hn : has l key = false) : up (ins l (lo l key) key) key = lo l key + 1 := by
  have hl := lo_le l key
  refine up_uniq (sorted_ins hs hn) (by rw [ins_len hl]; omega) (fun i x hi hx => ?_) (fun i x hi hx => ?_)
  · rw [ins_get hl] at hx
    split at hx
    · rename_i h1; exact Int.le_of_lt (lo_lt hs h1 hx)
    · rw [if_pos (by omega)] at hx
      injection hx with hx; rw [← hx, cmp_self]; omega
  · rw [ins_get hl, if_neg (by omega), if_neg (by omega)] at hx
    have := lo_gt' hs hn (by omega) hx
    have := cmp_symm x key; omega
theorem lo_del (hs : SortedP l) (hh : has l key = true) : lo (del l (lo l key)) key = lo l key := by
  obtain ⟨hi, _⟩ := get_lt (has_at hh)
  refine lo_uniq (sorted_del hs _) (by rw [del_len hi]; omega) (fun i x h hx => ?_) (fun i x h hx => ?_)
  · rw [del_get (by omega), if_pos h] at hx; exact lo_lt hs h hx
  · rw [del_get (by omega), if_neg (by omega)] at hx
    exact lo_ge hs (by omega) hx
theorem has_del (hs : SortedP l) (hh : has l key = true) : has (del l (lo l key)) key = false := by
  obtain ⟨hi, _⟩ := get_lt (has_at hh)
  unfold has
  rw [lo_del hs hh, del_get (by omega), if_neg (by omega), decide_eq_false_iff_not]
  intro e
  have := lo_gt hs (Nat.lt_succ_self _) e
  rw [cmp_self] at this; omega
end
/-! ### The changes -/
section
variable {n : fork_Node} {k : Nat}
theorem Ok.put (h : Ok n) (hl : n.Leaf = true) (key : Str) (row : Int) (hk : 4000 < k) : fork_Put k n key row = some (if has n.Keys key = true then (nilN, 6) else (⟨true, ins n.Keys (lo n.Keys key) key, [], ins n.Rows (lo n.Keys key) row⟩, 0)) := by
  have h1 := h.keys
  have h2 := h.leaf hl
  have h3 := lo_le n.Keys key
  have w1 := with_string n.Keys [key] (lo n.Keys key) 0 k (by omega) (by omega) (by simp) (by omega)
  have w2 := with_api_Handle n.Rows [row] (lo n.Keys key) 0 k (by omega) (by omega) (by simp) (by omega)
  rw [show ((0 : Nat) : Int) = 0 from rfl] at w1 w2
  simp only [fork_Put, h.place key k hk, hl, h.mayEq k hk, Option.bind_some, Bool.not_true, Bool.false_eq_true, if_false]
  cases hh : has n.Keys key
  · simp only [Bool.false_eq_true, if_false, w1, w2, Option.bind_some, ins, Nat.add_zero]
  · simp only [if_true]
theorem Ok.take (h : Ok n) (hl : n.Leaf = true) (key : Str) (hk : 4000 < k) : fork_Take k n key = some (if has n.Keys key = true then (⟨true, del n.Keys (lo n.Keys key), [], del n.Rows (lo n.Keys key)⟩, 0) else (nilN, 5)) := by
  have h1 := h.keys
  have h2 := h.leaf hl
  have h3 := lo_le n.Keys key
  simp only [fork_Take, h.place key k hk, hl, h.mayEq k hk, Option.bind_some, Bool.not_true, Bool.false_eq_true, if_false]
  cases hh : has n.Keys key
  · simp only [Bool.not_false, Bool.false_eq_true, if_true, if_false]
  · obtain ⟨hi, _⟩ := get_lt (has_at hh)
    have w1 := with_string n.Keys [] (lo n.Keys key) 1 k (by omega) (by omega) (by simp) (by omega)
    have w2 := with_api_Handle n.Rows [] (lo n.Keys key) 1 k (by omega) (by omega) (by simp) (by omega)
    rw [show ((1 : Nat) : Int) = 1 from rfl] at w1 w2
    simp only [Bool.not_true, Bool.false_eq_true, if_true, if_false, w1, w2, Option.bind_some, del, List.append_nil]
theorem Ok.graft (h : Ok n) (hl : n.Leaf = false) (key : Str) (kid : Int) (hk : 4000 < k) : fork_Graft k n key kid = some (if has n.Keys key = true then (nilN, 6) else (⟨false, ins n.Keys (lo n.Keys key) key, ins n.Kids (lo n.Keys key + 1) kid, []⟩, 0)) := by
  have h1 := h.keys
  have h2 := h.inner hl
  have h3 := lo_le n.Keys key
  have hw : IntKind.i64.wrap ((lo n.Keys key : Int) + 1) = ((lo n.Keys key + 1 : Nat) : Int) := by rw [wr (by omega) (by omega)]; omega
  have w1 := with_string n.Keys [key] (lo n.Keys key) 0 k (by omega) (by omega) (by simp) (by omega)
  have w2 := with_int n.Kids [kid] (lo n.Keys key + 1) 0 k (by omega) (by omega) (by simp) (by omega)
  rw [show ((0 : Nat) : Int) = 0 from rfl] at w1 w2
  simp only [fork_Graft, h.place key k hk, hl, h.mayEq k hk, Option.bind_some, Bool.not_true, Bool.false_eq_true, if_false]
  cases hh : has n.Keys key
  · simp only [Bool.false_eq_true, if_false, w1, hw, w2, Option.bind_some, ins, Nat.add_zero]
  · simp only [if_true]
theorem Ok.cut (h : Ok n) (hl : n.Leaf = false) (kid : Int) (hw : -9223372036854775808 ≤ kid) (hk : 4000 < k) : fork_Cut k n kid = some (if n.Kids.length < 2 then (nilN, 4) else if kid < 0 ∨ kid ≥ n.Kids.length then (nilN, 5) else (⟨false, del n.Keys (kid.toNat - 1), del n.Kids kid.toNat, []⟩, 0)) := by
  have h1 := h.keys
  have h2 := h.inner hl
  simp only [fork_Cut, hl, h.mayEq k hk, Option.bind_some, Bool.not_true, Bool.false_eq_true, if_false, Bool.false_or]
  by_cases c1 : n.Kids.length < 2
  · have c1' : (n.Kids.length : Int) < 2 := by omega
    simp only [c1, c1', decide_true, if_true]
  · have c1' : ¬ (n.Kids.length : Int) < 2 := by omega
    simp only [c1, c1', decide_false, Bool.false_eq_true, if_false]
    by_cases c2 : kid < 0 ∨ kid ≥ n.Kids.length
    · have c2' : (decide (kid < 0) || decide (kid ≥ (n.Kids.length : Int))) = true := by
        rw [Bool.or_eq_true, decide_eq_true_eq, decide_eq_true_eq]; exact c2
      simp only [c2, c2', if_true]
    · have c2' : (decide (kid < 0) || decide (kid ≥ (n.Kids.length : Int))) = false := by
        rw [Bool.or_eq_false_iff, decide_eq_false_iff_not, decide_eq_false_iff_not]; omega
      have e1 : imax 0 (IntKind.i64.wrap (kid - 1)) = ((kid.toNat - 1 : Nat) : Int) := by
        rw [wr (by omega) (by omega)]; unfold imax; split <;> omega
      have e2 : kid = ((kid.toNat : Nat) : Int) := by omega
      have w1 := with_string n.Keys [] (kid.toNat - 1) 1 k (by omega) (by omega) (by simp) (by omega)
      have w2 := with_int n.Kids [] kid.toNat 1 k (by omega) (by omega) (by simp) (by omega)
      rw [show ((1 : Nat) : Int) = 1 from rfl] at w1 w2
      rw [← e2] at w2
      simp only [c2, c2', Bool.false_eq_true, if_false, e1, w1, w2, Option.bind_some, del, List.append_nil]
end
/-! ### Two nodes that are the same -/
theorem same_0 (a : ferrymanref13_Node) (hl : a.Keys.length ≤ 1000000) : ∀ (j k i : Nat), i + j = a.Keys.length → j < k → ferrymanref13_Same_l0 a a k (i : Int) = some (.inr ()) := by
  intro j
  induction j with
  | zero =>
    intro k i h1 h2
    obtain ⟨k, rfl⟩ : ∃ k', k = k' + 1 := ⟨k - 1, by omega⟩
    have : ¬ ((i : Int) < (a.Keys.length : Int)) := by omega
    rw [ferrymanref13_Same_l0.eq_2]
    simp only [this, decide_false, Bool.false_eq_true, if_false]
  | succ j ih =>
    intro k i h1 h2
    obtain ⟨k, rfl⟩ : ∃ k', k = k' + 1 := ⟨k - 1, by omega⟩
    have hi1 : (i : Int) < (a.Keys.length : Int) := by omega
    have hi0 : (0 : Int) ≤ (i : Int) := by omega
    have ih' := ih k (i + 1) (by omega) (by omega)
    rw [show ((i + 1 : Nat) : Int) = (i : Int) + 1 by omega] at ih'
    rw [ferrymanref13_Same_l0.eq_2, wr (x := (i : Int) + 1) (by omega) (by omega)]
    simp only [hi1, hi0, decide_true, and_self, if_true, sb_neq, decide_true, Bool.not_true, Bool.false_eq_true, if_false, ih']
theorem same_1 (a : ferrymanref13_Node) (hl : a.Kids.length ≤ 1000000) : ∀ (j k i : Nat), i + j = a.Kids.length → j < k → ferrymanref13_Same_l1 a a k (i : Int) = some (.inr ()) := by
  intro j
  induction j with
  | zero =>
    intro k i h1 h2
    obtain ⟨k, rfl⟩ : ∃ k', k = k' + 1 := ⟨k - 1, by omega⟩
    have : ¬ ((i : Int) < (a.Kids.length : Int)) := by omega
    rw [ferrymanref13_Same_l1.eq_2]
    simp only [this, decide_false, Bool.false_eq_true, if_false]
  | succ j ih =>
    intro k i h1 h2
    obtain ⟨k, rfl⟩ : ∃ k', k = k' + 1 := ⟨k - 1, by omega⟩
    have hi1 : (i : Int) < (a.Kids.length : Int) := by omega
    have hi0 : (0 : Int) ≤ (i : Int) := by omega
    have ih' := ih k (i + 1) (by omega) (by omega)
    rw [show ((i + 1 : Nat) : Int) = (i : Int) + 1 by omega] at ih'
    rw [ferrymanref13_Same_l1.eq_2, wr (x := (i : Int) + 1) (by omega) (by omega)]
    simp only [hi1, hi0, decide_true, and_self, if_true, bne_self_eq_false, Bool.not_true, Bool.false_eq_true, if_false, ih']
theorem same_2 (a : ferrymanref13_Node) (hl : a.Rows.length ≤ 1000000) : ∀ (j k i : Nat), i + j = a.Rows.length → j < k → ferrymanref13_Same_l2 a a k (i : Int) = some (.inr ()) := by
  intro j
  induction j with
  | zero =>
    intro k i h1 h2
    obtain ⟨k, rfl⟩ : ∃ k', k = k' + 1 := ⟨k - 1, by omega⟩
    have : ¬ ((i : Int) < (a.Rows.length : Int)) := by omega
    rw [ferrymanref13_Same_l2.eq_2]
    simp only [this, decide_false, Bool.false_eq_true, if_false]
  | succ j ih =>
    intro k i h1 h2
    obtain ⟨k, rfl⟩ : ∃ k', k = k' + 1 := ⟨k - 1, by omega⟩
    have hi1 : (i : Int) < (a.Rows.length : Int) := by omega
    have hi0 : (0 : Int) ≤ (i : Int) := by omega
    have ih' := ih k (i + 1) (by omega) (by omega)
    rw [show ((i + 1 : Nat) : Int) = (i : Int) + 1 by omega] at ih'
    rw [ferrymanref13_Same_l2.eq_2, wr (x := (i : Int) + 1) (by omega) (by omega)]
    simp only [hi1, hi0, decide_true, and_self, if_true, bne_self_eq_false, Bool.not_true, Bool.false_eq_true, if_false, ih']
theorem same_refl (a : ferrymanref13_Node) (k : Nat) (h0 : a.Keys.length < k) (h1 : a.Kids.length < k) (h2 : a.Rows.length < k) (hk : k ≤ 1000000) : ferrymanref13_Same k a a = some true := by
  have e0 := same_0 a (by omega) a.Keys.length k 0 (by omega) h0
  have e1 := same_1 a (by omega) a.Kids.length k 0 (by omega) h1
  have e2 := same_2 a (by omega) a.Rows.length k 0 (by omega) h2
  rw [show ((0 : Nat) : Int) = 0 from rfl] at e0 e1 e2
  simp only [ferrymanref13_Same, e0, e1, e2, BEq.rfl, Bool.not_true, bne_self_eq_false, Bool.or_self, Bool.false_eq_true, if_false, Option.bind_some, Sum.elim_inr]
/-! ### How the laws begin -/
theorem awake60 : ferrymanlaw13_awake 60 = some true := by decide +kernel
theorem awake_def (k : Nat) (hk : 60 ≤ k) : ferrymanlaw13_awake k = some true := OLe.up (f := fun k => ferrymanlaw13_awake k) (fun k => ferrymanlaw13_awake.mono) hk _ awake60
theorem large_l0 (n : fork_Node) (hl : n.Keys.length ≤ 9223372036854775807) : ∀ (j k i : Nat) (x : Int), i + j = n.Keys.length → j < k → ∃ y, ferrymanlaw13_large_l0 n k x (i : Int) = some y := by
  intro j
  induction j with
  | zero =>
    intro k i x h1 h2
    obtain ⟨k, rfl⟩ : ∃ k', k = k' + 1 := ⟨k - 1, by omega⟩
    have : ¬ ((i : Int) < (n.Keys.length : Int)) := by omega
    rw [ferrymanlaw13_large_l0.eq_2]
    exact ⟨x, by simp only [this, decide_false, Bool.false_and, Bool.false_eq_true, if_false]⟩
  | succ j ih =>
    intro k i x h1 h2
    obtain ⟨k, rfl⟩ : ∃ k', k = k' + 1 := ⟨k - 1, by omega⟩
    have hi1 : (i : Int) < (n.Keys.length : Int) := by omega
    have hi0 : (0 : Int) ≤ (i : Int) := by omega
    rw [ferrymanlaw13_large_l0.eq_2, wr (x := (i : Int) + 1) (by omega) (by omega)]
    by_cases hx : x < 3000
    · obtain ⟨y, hy⟩ := ih k (i + 1) (IntKind.i64.wrap (IntKind.i64.wrap (x + 1) + ((rd n.Keys (i : Int)).length : Int))) (by omega) (by omega)
      rw [show ((i + 1 : Nat) : Int) = (i : Int) + 1 by omega] at hy
      exact ⟨y, by simp only [hi1, hi0, hx, decide_true, Bool.and_self, and_self, if_true, hy]⟩
    · exact ⟨x, by simp only [hx, decide_false, Bool.and_false, Bool.false_eq_true, if_false]⟩
theorem large_def (n : fork_Node) (hl : n.Keys.length ≤ 9223372036854775807) (hl2 : n.Kids.length ≤ 9223372036854775807) (hl3 : n.Rows.length ≤ 9223372036854775807) (k : Nat) (hk : n.Keys.length < k) :
    ∃ b, ferrymanlaw13_large k n = some b ∧ (b = false → mayB n = true → n.Keys.length < 3000) := by
  obtain ⟨y, hy⟩ := large_l0 n hl n.Keys.length k 0 (IntKind.i64.wrap ((n.Kids.length : Int) + (n.Rows.length : Int))) (by omega) hk
  rw [show ((0 : Nat) : Int) = 0 from rfl] at hy
  refine ⟨decide (y ≥ 3000), by simp only [ferrymanlaw13_large, hy, Option.bind_some], fun hb hm => ?_⟩
  have hy3 : ¬ y ≥ 3000 := of_decide_eq_false hb
  have hsum : n.Keys.length ≤ n.Kids.length + n.Rows.length ∧ n.Kids.length + n.Rows.length ≤ 9223372036854775807 := by
    simp only [mayB, Bool.and_eq_true] at hm
    have h2 := hm.2
    unfold shapeB at h2
    split at h2 <;> simp only [Bool.and_eq_true, decide_eq_true_eq] at h2 <;> omega
  apply Nat.lt_of_not_le
  intro hge
  obtain ⟨k, rfl⟩ : ∃ k', k = k' + 1 := ⟨k - 1, by omega⟩
  have hw : IntKind.i64.wrap ((n.Kids.length : Int) + (n.Rows.length : Int)) = (n.Kids.length : Int) + (n.Rows.length : Int) := wr (by omega) (by omega)
  have hx : ¬ (n.Kids.length : Int) + (n.Rows.length : Int) < 3000 := by omega
  rw [hw, ferrymanlaw13_large_l0.eq_2] at hy
  simp only [hx, decide_false, Bool.and_false, Bool.false_eq_true, if_false, Option.some.injEq] at hy
  omega
theorem prolog (n : fork_Node) (hl : n.Keys.length ≤ 9223372036854775807) (hl2 : n.Kids.length ≤ 9223372036854775807) (hl3 : n.Rows.length ≤ 9223372036854775807) (k : Nat) (hk : n.Keys.length < k) (hk2 : 60 ≤ k) (key : Str) (c : Bool) (X : Option Bool)
    (hX : Ok n → n.Keys.length ≤ 2999 → c = false → X = some true) :
    (Option.bind (ferrymanlaw13_large k n) (fun t4 => (Option.bind (α := Bool) (if (t4 || (decide ((key.length : Int) > (3000 : Int)))) = true then some (true) else (Option.bind (ferrymanlaw13_awake k ) (fun t17 => some ((!t17))))) (fun x15 => (Option.bind (α := Bool) (if x15 = true then some (true) else (Option.bind (fork_May k n) (fun t30 => some ((!t30))))) (fun x28 => (if (x28 || c) = true then (Option.bind (ferrymanlaw13_awake k ) (fun t35 => some t35)) else X))))))) = some true := by
  obtain ⟨b, hb, hbs⟩ := large_def n hl hl2 hl3 k hk
  simp only [hb, awake_def k hk2, May_def n hl hl2 k hk, Option.bind_some, Bool.not_true]
  cases hb1 : (b || decide ((key.length : Int) > 3000))
  · simp only [Bool.false_eq_true, if_false, Option.bind_some]
    cases hm : mayB n
    · simp only [Bool.not_false, Bool.true_or, if_true]
    · simp only [Bool.not_true, Bool.false_or]
      cases c
      · have hb2 : b = false := by cases b <;> simp_all
        have h3 := hbs hb2 hm
        simp only [Bool.false_eq_true, if_false]
        exact hX ⟨hm, by omega⟩ (by omega) rfl
      · simp only [if_true]
  · simp only [if_true, Option.bind_some, Bool.true_or]
end Go.Proofs.Ytdommjjhfplcaaa
