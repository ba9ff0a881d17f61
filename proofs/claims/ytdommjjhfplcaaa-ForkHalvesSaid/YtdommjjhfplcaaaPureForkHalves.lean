/-  The plain law ForkHalves. -/
import Derived.Test.YtdommjjhfplcaaaPureForkBack
import Derived.Test.YtdommjjhfplcaaaGf1LForkHalves
namespace Go.Proofs.Ytdommjjhfplcaaa
open Go Go.RowKit
set_option linter.unusedVariables false
set_option linter.unusedSimpArgs false
theorem copy_def (n : fork_Node) (k : Nat) (h0 : n.Keys.length ≤ 10000) (h1 : n.Kids.length ≤ 10000) (h2 : n.Rows.length ≤ 10000) : fork_Copy k n = some n := by
  simp only [fork_Copy, slices_Clone_string_string, slices_Clone_int_int, slices_Clone_api_Handle_api_Handle, List.length_nil, List.nil_append, Nat.zero_add]
  rw [if_pos (by omega), if_pos (by omega), if_pos (by omega)]; rfl
theorem Ok.split {n : fork_Node} (h : Ok n) (h3 : 3 ≤ n.Keys.length) (k : Nat) (hk : 4000 < k) :
    ∃ (c : Nat) (hc : c < n.Keys.length), 1 ≤ c ∧ c = (n.Keys.length + 1) / 2 ∧ fork_Split k n = some (if n.Leaf = true then (⟨true, n.Keys.take c, [], n.Rows.take c⟩, ⟨true, n.Keys.drop c, [], n.Rows.drop c⟩, n.Keys[c], 0)
      else (⟨false, n.Keys.take c, n.Kids.take (c + 1), []⟩, ⟨false, n.Keys.drop (c + 1), n.Kids.drop (c + 1), []⟩, n.Keys[c], 0)) := by
  have hkl := h.keys
  have hki := h.kids
  have hro := h.rows
  obtain ⟨c, hcd⟩ : ∃ c, c = (n.Keys.length + 1) / 2 := ⟨_, rfl⟩
  have hc : c < n.Keys.length := by omega
  refine ⟨c, hc, by omega, hcd, ?_⟩
  have hH : IntKind.i64.wrap (Int.tdiv (IntKind.i64.wrap ((n.Keys.length : Int) + 1)) 2) = (c : Int) := by
    rw [wr (x := (n.Keys.length : Int) + 1) (by omega) (by omega), Int.tdiv_eq_ediv_of_nonneg (by omega), wr (by omega) (by omega)]; omega
  have hH1 : IntKind.i64.wrap ((c : Int) + 1) = ((c + 1 : Nat) : Int) := by rw [wr (by omega) (by omega)]; omega
  have n3 : ¬ (n.Keys.length : Int) < 3 := by omega
  simp only [fork_Split, h.mayEq k hk, Option.bind_some, Bool.not_true, n3, decide_false, Bool.or_self, Bool.false_eq_true, if_false, copy_def n k (by omega) (by omega) (by omega), hH, hH1, Int.toNat_natCast]
  rw [if_pos (by omega)]
  cases hl : n.Leaf
  · obtain ⟨hi, hr⟩ := h.inner hl
    simp only [Bool.false_eq_true, if_false]
    rw [if_pos (by omega), if_pos (by omega), if_pos (by omega), if_pos (by omega), rdN hc]
  · obtain ⟨hi, hr⟩ := h.leaf hl
    simp only [if_true]
    rw [if_pos (by omega), if_pos (by omega), if_pos (by omega), if_pos (by omega), rdN hc]
section
variable {l : List Str} {key : Str} {c : Nat}
theorem sorted_take (hs : SortedP l) (c : Nat) : SortedP (l.take c) := List.Pairwise.sublist (List.take_sublist c l) hs
theorem sorted_drop (hs : SortedP l) (c : Nat) : SortedP (l.drop c) := List.Pairwise.sublist (List.drop_sublist c l) hs
theorem lo_low (hs : SortedP l) (hc : c < l.length) (hk : cmp key l[c] < 0) : lo (l.take c) key = lo l key ∧ has (l.take c) key = has l key ∧ lo l key ≤ c := by
  have hnk : ¬ cmp l[c] key < 0 := by have := cmp_symm key l[c]; omega
  have hle : lo l key ≤ c := by
    apply Nat.le_of_not_lt; intro h
    exact hnk ((lo_iff hs key hc).2 h)
  have hlo : lo (l.take c) key = lo l key := by
    refine lo_uniq (sorted_take hs c) (by rw [List.length_take]; omega) (fun i x hi hx => ?_) (fun i x hi hx => ?_)
    · rw [List.getElem?_take, if_pos (by omega)] at hx; exact lo_lt hs hi hx
    · rw [List.getElem?_take] at hx
      split at hx
      · exact lo_ge hs hi hx
      · cases hx
  refine ⟨hlo, ?_, hle⟩
  unfold has
  rw [hlo, List.getElem?_take]
  by_cases h : lo l key < c
  · rw [if_pos h]
  · have e : lo l key = c := by omega
    rw [if_neg h, e, List.getElem?_eq_getElem hc]
    have hne : l[c] ≠ key := fun e => by rw [e, cmp_self] at hk; omega
    simp [hne]
theorem lo_high (hs : SortedP l) (hc : c < l.length) (hk : ¬ cmp key l[c] < 0) : lo l key = c + lo (l.drop c) key ∧ has (l.drop c) key = has l key := by
  have hcl := lo_le (l.drop c) key
  rw [List.length_drop] at hcl
  have hlo : lo l key = c + lo (l.drop c) key := by
    refine lo_uniq hs (by omega) (fun i x hi hx => ?_) (fun i x hi hx => ?_)
    · by_cases h : i < c
      · obtain ⟨hi', rfl⟩ := get_lt hx
        have h1 := sorted_at hs h hc
        have h2 : cmp l[c] key ≤ 0 := by have := cmp_symm key l[c]; omega
        exact cmp_lt_le h1 h2
      · exact lo_lt (sorted_drop hs c) (i := i - c) (by omega) (by rw [List.getElem?_drop]; rw [show c + (i - c) = i by omega]; exact hx)
    · exact lo_ge (sorted_drop hs c) (i := i - c) (by omega) (by rw [List.getElem?_drop]; rw [show c + (i - c) = i by omega]; exact hx)
  refine ⟨hlo, ?_⟩
  unfold has
  rw [hlo, List.getElem?_drop]
theorem up_low (hs : SortedP l) (hc : c < l.length) (hk : cmp key l[c] < 0) : up (l.take c) key = up l key ∧ up l key ≤ c := by
  have hnk : ¬ cmp l[c] key ≤ 0 := by have := cmp_symm key l[c]; omega
  have hle : up l key ≤ c := by
    apply Nat.le_of_not_lt; intro h
    exact hnk ((up_iff hs key hc).2 h)
  refine ⟨?_, hle⟩
  refine up_uniq (sorted_take hs c) (by rw [List.length_take]; omega) (fun i x hi hx => ?_) (fun i x hi hx => ?_)
  · rw [List.getElem?_take, if_pos (by omega)] at hx
    obtain ⟨hi', rfl⟩ := get_lt hx
    exact (up_iff hs key hi').2 hi
  · rw [List.getElem?_take] at hx
    split at hx
    · obtain ⟨hi', rfl⟩ := get_lt hx
      intro h
      have := (up_iff hs key hi').1 h; omega
    · cases hx
theorem up_high (hs : SortedP l) (hc : c < l.length) (hk : ¬ cmp key l[c] < 0) : up l key = c + 1 + up (l.drop (c + 1)) key := by
  have hcl := up_le (l.drop (c + 1)) key
  rw [List.length_drop] at hcl
  have h2 : cmp l[c] key ≤ 0 := by have := cmp_symm key l[c]; omega
  refine up_uniq hs (by omega) (fun i x hi hx => ?_) (fun i x hi hx => ?_)
  · obtain ⟨hi', rfl⟩ := get_lt hx
    rcases Nat.lt_trichotomy i c with h | h | h
    · exact Int.le_of_lt (cmp_lt_le (sorted_at hs h hc) h2)
    · subst h; exact h2
    · have hx' : (l.drop (c + 1))[i - (c + 1)]? = some l[i] := by rw [List.getElem?_drop, show c + 1 + (i - (c + 1)) = i by omega, List.getElem?_eq_getElem hi']
      obtain ⟨hi2, he⟩ := get_lt hx'
      rw [← he]
      exact (up_iff (sorted_drop hs (c + 1)) key hi2).2 (by omega)
  · obtain ⟨hi', rfl⟩ := get_lt hx
    have hx' : (l.drop (c + 1))[i - (c + 1)]? = some l[i] := by rw [List.getElem?_drop, show c + 1 + (i - (c + 1)) = i by omega, List.getElem?_eq_getElem hi']
    obtain ⟨hi2, he⟩ := get_lt hx'
    rw [← he]
    intro h
    have := (up_iff (sorted_drop hs (c + 1)) key hi2).1 h; omega
end
theorem rd_of {l m : List Int} {i j : Nat} (hi : i < l.length) (hj : j < m.length) (h : l[i]? = m[j]?) : rd l (i : Int) = rd m (j : Int) := by
  rw [rdN hi, rdN hj]
  rw [List.getElem?_eq_getElem hi, List.getElem?_eq_getElem hj] at h
  injection h
theorem pure_ForkHalves (a0 : fork_Node) (a1 : Str) (hw0 : wf_fork_Node a0) (_ : wfStr a1) : ∃ k, ferrymanlaw13_ForkHalves k a0 a1 = some true := by
  obtain ⟨k, hk⟩ : ∃ k, k = a0.Keys.length + 20000 := ⟨_, rfl⟩
  refine ⟨k, ?_⟩
  obtain ⟨l1, l2, l3⟩ := wf_lens hw0
  refine prolog a0 l1 l2 l3 k (by omega) (by omega) a1 (decide ((a0.Keys.length : Int) < (3 : Int))) _ (fun h h3 h4 => ?_)
  have h5 : 3 ≤ a0.Keys.length := by have := of_decide_eq_false h4; omega
  have hkk : 4000 < k := by omega
  have hs := h.sorted
  obtain ⟨c, hc, hc1, hcd, hsp⟩ := h.split h5 k hkk
  have n00 : ((0 : Int) != 0) = false := by decide
  obtain ⟨leaf, keys, kids, rows⟩ := a0
  simp only at h3 h5 hs hk hc hcd hsp
  have ltk : (keys.take c).length = c := by simp; omega
  have ldk : (keys.drop c).length = keys.length - c := by simp
  have ldk1 : (keys.drop (c + 1)).length = keys.length - (c + 1) := by simp
  have beqz : ∀ m : Nat, 0 < m → (((m : Int) == (0 : Int)) : Bool) = false := fun m hm => beq_false_of_ne (by omega)
  simp only [hsp]
  cases leaf
  · obtain ⟨hi, hr⟩ := h.inner rfl
    simp only at hi hr
    obtain rfl : rows = [] := List.eq_nil_of_length_eq_zero hr
    have lti : (kids.take (c + 1)).length = c + 1 := by simp; omega
    have ldi : (kids.drop (c + 1)).length = kids.length - (c + 1) := by simp
    have okl : Ok ⟨false, keys.take c, kids.take (c + 1), []⟩ := ⟨may_inner (sorted_take hs c) (by omega), by simp only; omega⟩
    have okh : Ok ⟨false, keys.drop (c + 1), kids.drop (c + 1), []⟩ := ⟨may_inner (sorted_drop hs _) (by omega), by simp only; omega⟩
    have kl := okl.kid rfl a1 k hkk
    have kh := okh.kid rfl a1 k hkk
    have kn := h.kid rfl a1 k hkk
    simp only at kl kh kn
    have ek : keys.take c ++ [keys[c]] ++ keys.drop (c + 1) = keys := by
      rw [List.append_assoc, List.singleton_append, ← List.drop_eq_getElem_cons hc, List.take_append_drop]
    have hupn := up_le keys a1
    have hul := up_le (keys.take c) a1
    have huh := up_le (keys.drop (c + 1)) a1
    simp only [Bool.false_eq_true, if_false, Option.bind_some, n00, okl.mayEq k hkk, okh.mayEq k hkk, Bool.not_true, BEq.rfl, Bool.or_self, Bool.false_and, Bool.or_false, ltk, beqz c (by omega), sb_lss, List.length_nil, Nat.zero_add, List.nil_append]
    have g1 : c ≤ 8796093022208 := by omega
    have g2 : c + ([keys[c]] : List Str).length ≤ 8796093022208 := by simp; omega
    have g2' : (keys.take c ++ [keys[c]]).length + (keys.drop (c + 1)).length ≤ 8796093022208 := by simp; omega
    have g2'' : (keys.take c).length + ([keys[c]] : List Str).length ≤ 8796093022208 := by simp; omega
    have g3 : (kids.take (c + 1)).length ≤ 17592186044416 := by omega
    have g4 : (kids.take (c + 1)).length + (kids.drop (c + 1)).length ≤ 17592186044416 := by omega
    have sm := same_refl ⟨false, keys, kids, []⟩ k (show keys.length < k by omega) (show kids.length < k by omega) (by simp only [List.length_nil]; omega) (by omega)
    by_cases hkey : cmp a1 keys[c] < 0
    · obtain ⟨e1, e2⟩ := up_low hs hc hkey
      simp only [hkey, decide_true, if_true, Option.bind_some]
      rw [if_pos (by omega), if_pos (by simp; omega), if_pos g2', if_pos g3, if_pos g4]
      simp only [Option.bind_some, ek, List.take_append_drop, sm, if_true, kl, kn]
      have hrd : rd (kids.take (c + 1)) (up (keys.take c) a1 : Int) = rd kids (up keys a1 : Int) := by
        rw [e1]
        exact rd_of (by omega) (by omega) (by rw [List.getElem?_take, if_pos (by omega)])
      rw [if_pos (by omega), if_pos (by omega), hrd, BEq.rfl]; rfl
    · have e1 := up_high hs hc hkey
      simp only [hkey, decide_false, Bool.false_eq_true, if_false, Option.bind_some]
      rw [if_pos (by omega), if_pos (by simp; omega), if_pos g2', if_pos g3, if_pos g4]
      simp only [Option.bind_some, ek, List.take_append_drop, sm, if_true, kh, kn]
      have hrd : rd (kids.drop (c + 1)) (up (keys.drop (c + 1)) a1 : Int) = rd kids (up keys a1 : Int) := by
        rw [e1]
        exact rd_of (by omega) (by omega) (by rw [List.getElem?_drop])
      rw [if_pos (by omega), if_pos (by omega), hrd, BEq.rfl]; rfl
  · obtain ⟨hr, hi⟩ := h.leaf rfl
    simp only at hi hr
    obtain rfl : kids = [] := List.eq_nil_of_length_eq_zero hi
    have ltr : (rows.take c).length = c := by simp; omega
    have ldr : (rows.drop c).length = rows.length - c := by simp
    have okl : Ok ⟨true, keys.take c, [], rows.take c⟩ := ⟨may_leaf (sorted_take hs c) (by omega), by simp only; omega⟩
    have okh : Ok ⟨true, keys.drop c, [], rows.drop c⟩ := ⟨may_leaf (sorted_drop hs _) (by omega), by simp only; omega⟩
    have pl := okl.place a1 k hkk
    have ph := okh.place a1 k hkk
    have pn := h.place a1 k hkk
    simp only at pl ph pn
    have hlon := lo_le keys a1
    simp only [if_true, Option.bind_some, n00, Bool.false_eq_true, if_false, okl.mayEq k hkk, okh.mayEq k hkk, Bool.not_true, BEq.rfl, Bool.or_self, Bool.true_and, ltk, ldk, beqz c (by omega), beqz (keys.length - c) (by omega), sb_lss, List.length_nil, Nat.zero_add, List.nil_append, ltr, ldr]
    have sm := same_refl ⟨true, keys, [], rows⟩ k (show keys.length < k by omega) (by simp only [List.length_nil]; omega) (show rows.length < k by omega) (by omega)
    have hhead : rd (keys.drop c) 0 = keys[c] := by
      have h0 : 0 < (keys.drop c).length := by omega
      have := rdN h0
      rw [show ((0 : Nat) : Int) = 0 from rfl] at this
      rw [this, List.getElem_drop]; simp
    have wc : IntKind.i64.wrap ((c : Int) - 1) = ((c - 1 : Nat) : Int) := by rw [wr (by omega) (by omega)]; omega
    have hlast : rd (keys.take c) ((c - 1 : Nat) : Int) = keys[c - 1]'(by omega) := by
      rw [rdN (show c - 1 < (keys.take c).length by omega), List.getElem_take]
    have hlt : cmp (keys[c - 1]'(by omega)) keys[c] < 0 := sorted_at hs (by omega) hc
    have wd : IntKind.i64.wrap ((c : Int) - ((keys.length - c : Nat) : Int)) = (c : Int) - ((keys.length - c : Nat) : Int) := wr (by omega) (by omega)
    have f1 : (c : Int) - ((keys.length - c : Nat) : Int) ≤ 1 := by omega
    have f2 : (c : Int) ≥ ((keys.length - c : Nat) : Int) := by omega
    have q0 : (0 : Int) ≤ 0 ∧ (0 : Int) < ((keys.length - c : Nat) : Int) := by omega
    have q1 : 0 ≤ ((c - 1 : Nat) : Int) ∧ ((c - 1 : Nat) : Int) < (c : Int) := by omega
    by_cases hkey : cmp a1 keys[c] < 0
    · obtain ⟨e1, e2, e3⟩ := lo_low hs hc hkey
      simp only [hkey, decide_true, if_true, Option.bind_some]
      rw [if_pos (by omega), if_pos (by omega), if_pos (by omega), if_pos (by omega)]
      simp only [Option.bind_some, pn, pl, List.take_append_drop, sm, q0, q1, and_self, if_true, hhead, wc, hlast, sb_eql, decide_true, hlt, e2, BEq.rfl, Bool.and_self, wd, f1, f2]
      cases hh : has keys a1
      · simp only [Bool.not_false, if_true, Option.bind_some, Bool.and_self]
      · obtain ⟨hx, _⟩ := get_lt (has_at hh)
        have hh2 : has (keys.take c) a1 = true := by rw [e2]; exact hh
        obtain ⟨hx2, _⟩ := get_lt (has_at hh2)
        have hrd : rd (rows.take c) (lo (keys.take c) a1 : Int) = rd rows (lo keys a1 : Int) := by
          rw [e1] at hx2 ⊢
          exact rd_of (by omega) (by omega) (by rw [List.getElem?_take, if_pos (by omega)])
        simp only [Bool.not_true, Bool.false_eq_true, if_false]
        rw [if_pos (by omega), if_pos (by omega), hrd, BEq.rfl]; rfl
    · obtain ⟨e1, e2⟩ := lo_high hs hc hkey
      simp only [hkey, decide_false, Bool.false_eq_true, if_false, Option.bind_some]
      rw [if_pos (by omega), if_pos (by omega), if_pos (by omega), if_pos (by omega)]
      simp only [Option.bind_some, pn, ph, List.take_append_drop, sm, q0, q1, and_self, if_true, hhead, wc, hlast, sb_eql, decide_true, hlt, e2, BEq.rfl, Bool.and_self, wd, f1, f2]
      cases hh : has keys a1
      · simp only [Bool.not_false, if_true, Option.bind_some, Bool.and_self]
      · obtain ⟨hx, _⟩ := get_lt (has_at hh)
        have hh2 : has (keys.drop c) a1 = true := by rw [e2]; exact hh
        obtain ⟨hx2, _⟩ := get_lt (has_at hh2)
        have hrd : rd (rows.drop c) (lo (keys.drop c) a1 : Int) = rd rows (lo keys a1 : Int) := by
          rw [e1]
          exact rd_of (by omega) (by omega) (by rw [List.getElem?_drop])
        simp only [Bool.not_true, Bool.false_eq_true, if_false]
        rw [if_pos (by omega), if_pos (by omega), hrd, BEq.rfl]; rfl
end Go.Proofs.Ytdommjjhfplcaaa
