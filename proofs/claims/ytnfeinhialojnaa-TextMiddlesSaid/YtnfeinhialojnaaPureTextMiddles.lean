/-  The plain law TextMiddles. -/
import Derived.Test.YtnfeinhialojnaaPureBase
import Derived.Test.YtnfeinhialojnaaGt1LTextMiddles
namespace Go.Proofs.Ytnfeinhialojnaa
open Go Go.RowKit
set_option linter.unusedVariables false
set_option linter.unusedSimpArgs false
theorem suf_drop {a b : Str} {s : Nat} (h : s ≤ pre a.reverse b.reverse) : a.drop (a.length - s) = b.drop (b.length - s) := by
  have e := pre_take a.reverse b.reverse
  have e2 : a.reverse.take s = b.reverse.take s := by
    have := congrArg (List.take s) e
    rwa [List.take_take, List.take_take, Nat.min_eq_left h] at this
  rw [List.take_reverse, List.take_reverse] at e2
  exact List.reverse_inj.1 e2
theorem mid_all (a : Str) (p s : Nat) (h : p + s ≤ a.length) : a.take p ++ (a.drop p).take (a.length - s - p) ++ a.drop (a.length - s) = a := by
  have e : a.drop (a.length - s) = (a.drop p).drop (a.length - s - p) := by rw [List.drop_drop]; congr 1; omega
  rw [e, List.append_assoc, List.take_append_drop, List.take_append_drop]
theorem getD_mid (a : Str) (p n i : Nat) (h : i < n) : ((a.drop p).take n).getD i 0 = a.getD (p + i) 0 := by
  rw [List.getD_eq_getElem?_getD, List.getD_eq_getElem?_getD, List.getElem?_take, if_pos h, List.getElem?_drop]
theorem pure_TextMiddles (a0 : Str) (a1 : Str) (_ : wfStr a0) (_ : wfStr a1) : ∃ k, ferrymanlaw02_TextMiddles k a0 a1 = some true := by
  obtain ⟨k, hk⟩ : ∃ k, k = 20000 := ⟨_, rfl⟩
  refine ⟨k, ?_⟩
  have hw := works_def k (by omega)
  unfold ferrymanlaw02_TextMiddles
  rw [long_def k [a0, a1] (by simp) (by simp; omega)]
  by_cases h1 : sumMin [a0, a1] ≥ 9000
  · simp only [h1, hw, decide_true, if_true, Option.bind_some, Bool.not_true, Bool.false_eq_true, if_false]
  have hm := sumMin_mem [a0, a1] (by omega)
  have l0 := hm a0 (by simp)
  have l1 := hm a1 (by simp)
  have pl := pre_l a0 a1
  have pr := pre_r a0 a1
  have pt := pre_take a0 a1
  have hne := pre_ne a0 a1
  have hmn : imin (a0.length : Int) (a1.length : Int) = ((min a0.length a1.length : Nat) : Int) := by unfold imin; split <;> omega
  have hw1 : IntKind.i64.wrap (imin (a0.length : Int) (a1.length : Int) - (pre a0 a1 : Int)) = ((min a0.length a1.length - pre a0 a1 : Nat) : Int) := by rw [hmn, wr (by omega) (by omega)]; omega
  simp only [h1, hw, decide_false, Bool.not_true, Bool.false_eq_true, if_false, Option.bind_some, Prefix_def k a0 a1 (by omega) (by omega), hw1, Suffix_def k a0 a1 _ (show a0.length ≤ 1000000 by omega) (show a1.length ≤ 1000000 by omega) (show a0.length < k by omega), sb_neq, sb_eql]
  have hs1 : sufN a0 a1 ((min a0.length a1.length - pre a0 a1 : Nat) : Int) ≤ min a0.length a1.length - pre a0 a1 := by unfold sufN; omega
  have hs2 : sufN a0 a1 ((min a0.length a1.length - pre a0 a1 : Nat) : Int) ≤ pre a0.reverse a1.reverse := by unfold sufN; omega
  have hs3 : sufN a0 a1 ((min a0.length a1.length - pre a0 a1 : Nat) : Int) < min a0.length a1.length - pre a0 a1 → sufN a0 a1 ((min a0.length a1.length - pre a0 a1 : Nat) : Int) = pre a0.reverse a1.reverse := by unfold sufN; omega
  generalize sufN a0 a1 ((min a0.length a1.length - pre a0 a1 : Nat) : Int) = s at *
  have hsd := suf_drop hs2
  generalize hp : pre a0 a1 = p at *
  have m0 := mid_all a0 p s (by omega)
  have m1 := mid_all a1 p s (by omega)
  have w1 : IntKind.i64.wrap ((p : Int) + (s : Int)) = ((p + s : Nat) : Int) := by rw [wr (by omega) (by omega)]; omega
  have w2 : IntKind.i64.wrap ((a0.length : Int) - (s : Int)) = ((a0.length - s : Nat) : Int) := by rw [wr (by omega) (by omega)]; omega
  have w3 : IntKind.i64.wrap ((a1.length : Int) - (s : Int)) = ((a1.length - s : Nat) : Int) := by rw [wr (by omega) (by omega)]; omega
  have w4 : (((a0.length - s : Nat) : Int) - (p : Int)).toNat = a0.length - s - p := by omega
  have w5 : (((a1.length - s : Nat) : Int) - (p : Int)).toNat = a1.length - s - p := by omega
  have f1 : ¬ (s : Int) < 0 := by omega
  have f2 : ¬ ((p + s : Nat) : Int) > (a0.length : Int) := by omega
  have f3 : ¬ ((p + s : Nat) : Int) > (a1.length : Int) := by omega
  have c0 : 0 ≤ (p : Int) := by omega
  have c1 : (p : Int) ≤ ((a0.length - s : Nat) : Int) := by omega
  have c2 : (p : Int) ≤ ((a1.length - s : Nat) : Int) := by omega
  have c3 : ((a0.length - s : Nat) : Int) ≤ (a0.length : Int) := by omega
  have c4 : ((a1.length - s : Nat) : Int) ≤ (a1.length : Int) := by omega
  have c5 : (p : Int) ≤ (a0.length : Int) := by omega
  have c6 : (p : Int) ≤ (a1.length : Int) := by omega
  have c7 : 0 ≤ ((a0.length - s : Nat) : Int) := by omega
  have c8 : 0 ≤ ((a1.length - s : Nat) : Int) := by omega
  simp only [w1, w2, w3, w4, w5, f1, f2, f3, decide_false, Bool.or_self, Bool.false_eq_true, if_false, c0, c1, c2, c3, c4, c5, c6, c7, c8, and_self, if_true, Int.toNat_natCast]
  generalize hX : (a0.drop p).take (a0.length - s - p) = X at *
  generalize hY : (a1.drop p).take (a1.length - s - p) = Y at *
  have lX : X.length = a0.length - s - p := by rw [← hX]; simp; omega
  have lY : Y.length = a1.length - s - p := by rw [← hY]; simp; omega
  have lt0 : (a0.take p).length = p := by simp; omega
  have lt1 : (a1.take p).length = p := by simp; omega
  have ld0 : (a0.drop (a0.length - s)).length = s := by simp; omega
  have ld1 : (a1.drop (a1.length - s)).length = s := by simp; omega
  have e0 : a1.take p ++ X ++ a1.drop (a1.length - s) = a0 := by rw [← pt, ← hsd]; exact m0
  have e1 : a0.take p ++ Y ++ a0.drop (a0.length - s) = a1 := by rw [pt, hsd]; exact m1
  have g1 : ((a1.take p).length : Int) + (X.length : Int) ≤ 9223372036854775807 := by omega
  have g2 : ((a0.take p).length : Int) + (Y.length : Int) ≤ 9223372036854775807 := by omega
  have g3 : ((a1.take p ++ X).length : Int) + ((a1.drop (a1.length - s)).length : Int) ≤ 9223372036854775807 := by rw [List.length_append]; omega
  have g4 : ((a0.take p ++ Y).length : Int) + ((a0.drop (a0.length - s)).length : Int) ≤ 9223372036854775807 := by rw [List.length_append]; omega
  simp only [g1, g2, g3, g4, if_true, e0, e1, decide_true, Bool.not_true, Bool.false_eq_true, if_false, Option.bind_some]
  by_cases x0 : X = []
  · simp only [x0, decide_true, Bool.true_or, if_true, Option.bind_some]
  by_cases y0 : Y = []
  · simp only [y0, decide_true, Bool.or_true, if_true, Option.bind_some]
  have px : 0 < X.length := List.length_pos_iff.2 x0
  have py : 0 < Y.length := List.length_pos_iff.2 y0
  have pxi : (0 : Int) < (X.length : Int) := by omega
  have pyi : (0 : Int) < (Y.length : Int) := by omega
  have wx : IntKind.i64.wrap ((X.length : Int) - 1) = ((X.length - 1 : Nat) : Int) := by rw [wr (by omega) (by omega)]; omega
  have wy : IntKind.i64.wrap ((Y.length : Int) - 1) = ((Y.length - 1 : Nat) : Int) := by rw [wr (by omega) (by omega)]; omega
  have d1 : 0 ≤ ((X.length - 1 : Nat) : Int) := by omega
  have d2 : ((X.length - 1 : Nat) : Int) < (X.length : Int) := by omega
  have d3 : 0 ≤ ((Y.length - 1 : Nat) : Int) := by omega
  have d4 : ((Y.length - 1 : Nat) : Int) < (Y.length : Int) := by omega
  have n1 : X.getD 0 0 ≠ Y.getD 0 0 := by
    rw [← hX, ← hY, getD_mid _ _ _ _ (by omega), getD_mid _ _ _ _ (by omega)]
    exact hne (by omega) (by omega)
  have n2 : X.getD (X.length - 1) 0 ≠ Y.getD (Y.length - 1) 0 := by
    have hs := hs3 (by omega)
    have hr := pre_ne a0.reverse a1.reverse (by rw [List.length_reverse]; omega) (by rw [List.length_reverse]; omega)
    rw [← hs, ← rev_at (by omega), ← rev_at (by omega)] at hr
    have i1 : X.getD (X.length - 1) 0 = a0.getD (a0.length - 1 - s) 0 := by
      rw [lX, ← hX, getD_mid _ _ _ _ (by omega)]; congr 1; omega
    have i2 : Y.getD (Y.length - 1) 0 = a1.getD (a1.length - 1 - s) 0 := by
      rw [lY, ← hY, getD_mid _ _ _ _ (by omega)]; congr 1; omega
    rw [i1, i2]; exact hr
  simp only [x0, y0, decide_false, Bool.or_self, Bool.false_eq_true, if_false, Int.le_refl, pxi, pyi, and_self, if_true, Int.toNat_zero, byte_ne, n1, Bool.not_false, wx, wy, d1, d2, d3, d4, Int.toNat_natCast, n2, Option.bind_some]
end Go.Proofs.Ytnfeinhialojnaa
