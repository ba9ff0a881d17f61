/-  The plain law ForkBack. -/
import Derived.Test.YtdommjjhfplcaaaPureForkPlaces
import Derived.Test.YtdommjjhfplcaaaGf1LForkBack
namespace Go.Proofs.Ytdommjjhfplcaaa
open Go Go.RowKit
set_option linter.unusedVariables false
set_option linter.unusedSimpArgs false
theorem may_leaf {l : List Str} {r : List Int} (hs : SortedP l) (hr : r.length = l.length) : mayB ⟨true, l, [], r⟩ = true := by
  simp only [mayB, shapeB, (sorted_iff l).2 hs, hr, decide_true, if_true, List.length_nil, Bool.and_self]
theorem may_inner {l : List Str} {r : List Int} (hs : SortedP l) (hr : r.length = l.length + 1) : mayB ⟨false, l, r, []⟩ = true := by
  simp only [mayB, shapeB, (sorted_iff l).2 hs, hr, decide_true, Bool.false_eq_true, if_false, List.length_nil, Bool.and_self]
theorem pure_ForkBack (a0 : fork_Node) (a1 : Str) (a2 a3 : Int) (hw0 : wf_fork_Node a0) (_ : wfStr a1) (_ : (wfInt .u64) a2) (_ : (wfInt .i64) a3) : ∃ k, ferrymanlaw13_ForkBack k a0 a1 a2 a3 = some true := by
  obtain ⟨k, hk⟩ : ∃ k, k = a0.Keys.length + 20000 := ⟨_, rfl⟩
  refine ⟨k, ?_⟩
  obtain ⟨l1, l2, l3⟩ := wf_lens hw0
  have P := fun X hX => prolog a0 l1 l2 l3 k (by omega) (by omega) a1 false X hX
  simp only [Bool.or_false] at P
  refine P _ (fun h h3 _ => ?_)
  have hkk : 4000 < k := by omega
  have hlo := lo_le a0.Keys a1
  have hs := h.sorted
  obtain ⟨leaf, keys, kids, rows⟩ := a0
  simp only at h3 hlo hs hk
  have back : ∀ x : fork_Node, x.Keys.length ≤ 10000 → x.Kids.length ≤ 10000 → x.Rows.length ≤ 10000 → ferrymanlaw13_ForkBack_1 k x x = some true := fun x h1 h2 h3 => by
    simp only [ferrymanlaw13_ForkBack_1, same_refl ⟨x.Leaf, x.Keys, x.Kids, x.Rows⟩ k (show x.Keys.length < k by omega) (show x.Kids.length < k by omega) (show x.Rows.length < k by omega) (by omega), Option.bind_some]
  have d00 : ((0 : Int) == 0) = true := by decide
  simp only [h.place a1 k hkk, Option.bind_some]
  cases leaf
  · obtain ⟨hi, hr⟩ := h.inner rfl
    simp only at hi hr
    obtain rfl : rows = [] := List.eq_nil_of_length_eq_zero hr
    have w1 : IntKind.i64.wrap ((lo keys a1 : Int) + 1) = ((lo keys a1 + 1 : Nat) : Int) := by rw [wr (by omega) (by omega)]; omega
    simp only [Bool.false_eq_true, if_false, w1]
    cases hh : has keys a1
    · -- a kid is grafted, and cut
      have hil : (ins keys (lo keys a1) a1).length = keys.length + 1 := ins_len hlo
      have hkl : (ins kids (lo keys a1 + 1) a3).length = kids.length + 1 := ins_len (by omega)
      have hg : Ok ⟨false, ins keys (lo keys a1) a1, ins kids (lo keys a1 + 1) a3, []⟩ := ⟨may_inner (sorted_ins hs hh) (by omega), by simp only; omega⟩
      have hki := hg.kid rfl a1 k hkk
      have hcu := hg.cut rfl ((lo keys a1 + 1 : Nat) : Int) (by omega) hkk
      simp only [up_ins hs hh] at hki
      have c1 : ¬ (ins kids (lo keys a1 + 1) a3).length < 2 := by omega
      have c2 : ¬ (((lo keys a1 + 1 : Nat) : Int) < 0 ∨ ((lo keys a1 + 1 : Nat) : Int) ≥ ((ins kids (lo keys a1 + 1) a3).length : Int)) := by omega
      have e1 : del (ins keys (lo keys a1) a1) (((lo keys a1 + 1 : Nat) : Int).toNat - 1) = keys := by rw [Int.toNat_natCast, Nat.add_sub_cancel]; exact del_ins hlo
      have e2 : del (ins kids (lo keys a1 + 1) a3) ((lo keys a1 + 1 : Nat) : Int).toNat = kids := by rw [Int.toNat_natCast]; exact del_ins (by omega)
      simp only [c1, c2, if_false, e1, e2] at hcu
      have c3 : 0 ≤ ((lo keys a1 + 1 : Nat) : Int) ∧ ((lo keys a1 + 1 : Nat) : Int) < ((ins kids (lo keys a1 + 1) a3).length : Int) := by omega
      have hrd : rd (ins kids (lo keys a1 + 1) a3) ((lo keys a1 + 1 : Nat) : Int) = a3 := by
        have hlt : lo keys a1 + 1 < (ins kids (lo keys a1 + 1) a3).length := by omega
        have hget := ins_get (x := a3) (show lo keys a1 + 1 ≤ kids.length by omega) (lo keys a1 + 1)
        rw [if_neg (by omega), if_pos rfl, List.getElem?_eq_getElem hlt] at hget
        rw [rdN hlt]; injection hget
      simp only [Bool.false_eq_true, if_false, h.graft rfl a1 a3 hkk, hh, Option.bind_some, hki, hcu, d00, if_true, hg.mayEq k hkk, BEq.rfl, Bool.and_self, c3, and_self, hrd]
      exact by rw [back ⟨false, keys, kids, []⟩ (by simp only; omega) (by simp only; omega) (by simp)]; rfl
    · obtain ⟨hlt, hat⟩ := get_lt (has_at hh)
      have hdl : (del keys (lo keys a1)).length = keys.length - 1 := del_len hlt
      have hkl : (del kids (lo keys a1 + 1)).length = kids.length - 1 := del_len (by omega)
      have hg : Ok ⟨false, del keys (lo keys a1), del kids (lo keys a1 + 1), []⟩ := ⟨may_inner (sorted_del hs _) (by omega), by simp only; omega⟩
      have hcu := h.cut rfl ((lo keys a1 + 1 : Nat) : Int) (by omega) hkk
      have c1 : ¬ kids.length < 2 := by omega
      have c2 : ¬ (((lo keys a1 + 1 : Nat) : Int) < 0 ∨ ((lo keys a1 + 1 : Nat) : Int) ≥ (kids.length : Int)) := by omega
      simp only [c1, c2, if_false, Int.toNat_natCast, Nat.add_sub_cancel] at hcu
      have hgr := hg.graft rfl a1 (rd kids ((lo keys a1 + 1 : Nat) : Int)) hkk
      simp only [lo_del hs hh, has_del hs hh, Bool.false_eq_true, if_false] at hgr
      have hk1 : lo keys a1 + 1 < kids.length := by omega
      have e1 : ins (del keys (lo keys a1)) (lo keys a1) a1 = keys := ins_del hlt (has_at hh)
      have e2 : ins (del kids (lo keys a1 + 1)) (lo keys a1 + 1) (rd kids ((lo keys a1 + 1 : Nat) : Int)) = kids := ins_del hk1 (by rw [rdN hk1, List.getElem?_eq_getElem hk1])
      rw [e1, e2] at hgr
      have c3 : 0 ≤ ((lo keys a1 + 1 : Nat) : Int) ∧ ((lo keys a1 + 1 : Nat) : Int) < (kids.length : Int) := by omega
      simp only [if_true, hcu, Option.bind_some, c3, and_self, hgr, d00, hg.mayEq k hkk, Bool.and_self]
      exact by rw [back ⟨false, keys, kids, []⟩ (by simp only; omega) (by simp only; omega) (by simp)]; rfl
  · obtain ⟨hr, hi⟩ := h.leaf rfl
    simp only at hi hr
    obtain rfl : kids = [] := List.eq_nil_of_length_eq_zero hi
    simp only [if_true]
    cases hh : has keys a1
    · have hil : (ins keys (lo keys a1) a1).length = keys.length + 1 := ins_len hlo
      have hkl : (ins rows (lo keys a1) a2).length = rows.length + 1 := ins_len (by omega)
      have hg : Ok ⟨true, ins keys (lo keys a1) a1, [], ins rows (lo keys a1) a2⟩ := ⟨may_leaf (sorted_ins hs hh) (by omega), by simp only; omega⟩
      have hta := hg.take rfl a1 hkk
      have hpl := hg.place a1 k hkk
      simp only [lo_ins hs hh, has_ins hs hh, if_true, del_ins hlo, del_ins (show lo keys a1 ≤ rows.length by omega)] at hta hpl
      have c3 : 0 ≤ (lo keys a1 : Int) ∧ (lo keys a1 : Int) < ((ins rows (lo keys a1) a2).length : Int) := by omega
      have hrd : rd (ins rows (lo keys a1) a2) (lo keys a1 : Int) = a2 := by
        have hlt : lo keys a1 < (ins rows (lo keys a1) a2).length := by omega
        have hget := ins_get (x := a2) (show lo keys a1 ≤ rows.length by omega) (lo keys a1)
        rw [if_neg (by omega), if_pos rfl, List.getElem?_eq_getElem hlt] at hget
        rw [rdN hlt]; injection hget
      simp only [Bool.false_eq_true, if_false, h.put rfl a1 a2 hkk, hh, Option.bind_some, hta, hpl, d00, if_true, hg.mayEq k hkk, BEq.rfl, Bool.and_self, c3, and_self, hrd]
      exact by rw [back ⟨true, keys, [], rows⟩ (by simp only; omega) (by simp) (by simp only; omega)]; rfl
    · obtain ⟨hlt, hat⟩ := get_lt (has_at hh)
      have hdl : (del keys (lo keys a1)).length = keys.length - 1 := del_len hlt
      have hkl : (del rows (lo keys a1)).length = rows.length - 1 := del_len (by omega)
      have hg : Ok ⟨true, del keys (lo keys a1), [], del rows (lo keys a1)⟩ := ⟨may_leaf (sorted_del hs _) (by omega), by simp only; omega⟩
      have hpu := hg.put rfl a1 (rd rows (lo keys a1 : Int)) hkk
      simp only [lo_del hs hh, has_del hs hh, Bool.false_eq_true, if_false] at hpu
      have hk1 : lo keys a1 < rows.length := by omega
      have e1 : ins (del keys (lo keys a1)) (lo keys a1) a1 = keys := ins_del hlt (has_at hh)
      have e2 : ins (del rows (lo keys a1)) (lo keys a1) (rd rows (lo keys a1 : Int)) = rows := ins_del hk1 (by rw [rdN hk1, List.getElem?_eq_getElem hk1])
      rw [e1, e2] at hpu
      have c3 : 0 ≤ (lo keys a1 : Int) ∧ (lo keys a1 : Int) < (rows.length : Int) := by omega
      have w2 : IntKind.i64.wrap ((keys.length : Int) - 1) = ((keys.length - 1 : Nat) : Int) := by rw [wr (by omega) (by omega)]; omega
      simp only [if_true, h.take rfl a1 hkk, hh, Option.bind_some, c3, and_self, hpu, d00, hg.mayEq k hkk, hdl, w2, BEq.rfl, Bool.and_self]
      exact by rw [back ⟨true, keys, [], rows⟩ (by simp only; omega) (by simp) (by simp only; omega)]; rfl
end Go.Proofs.Ytdommjjhfplcaaa
