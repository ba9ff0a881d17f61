/-  The plain law ModelCopies. -/
import Derived.Test.YtcngjjlhdlbogaaDoorPureRun
import Derived.Test.YtcngjjlhdlbogaaDoorOpnm1
import Derived.Test.YtcngjjlhdlbogaaDoorGm1LModelCopies
namespace Go.Proofs.YtcngjjlhdlbogaaDoor
open Go Go.RowKit
set_option linter.unusedVariables false
set_option linter.unusedSimpArgs false
set_option maxRecDepth 100000
theorem copies_l0 (a : List Turn) : ∀ (j i : Nat) (n : Nat) (m : Mod), i + j = a.length → a.length ≤ 100000 → Inv n m → n + j ≤ 999999 → Ev (fun k => ferrymanlaw16_ModelCopies_l0 a k (i : Int) m) (runS m (a.drop i)) := by
  intro j
  induction j with
  | zero =>
    intro i n m hi hb I hn
    refine Ev.shift 1 ⟨0, fun k hk => ?_⟩
    show ferrymanlaw16_ModelCopies_l0 a (k + 1) (i : Int) m = _
    rw [ferrymanlaw16_ModelCopies_l0.eq_2, List.drop_of_length_le (by omega)]
    have : ¬ ((i : Int) < (a.length : Int)) := by omega
    simp [this, runS]
  | succ j ih =>
    intro i n m hi hb I hn
    have hlt : i < a.length := by omega
    have h3 : (i : Int) < (a.length : Int) := by omega
    refine Ev.shift 1 ?_
    refine Ev.congr (g := fun k => _) ?_ (fun k => by rw [ferrymanlaw16_ModelCopies_l0.eq_2])
    rw [List.drop_eq_getElem_cons hlt, runS, wr1 (i := i) (by omega), rdN hlt]
    refine Ev.pos (by simpa using h3) (Ev.pos (inR hlt) (Ev.pos (inR hlt) ?_))
    refine (do_ev I (by omega) a[i].Task a[i].Call).bind ?_
    exact ih (i + 1) (n + 1) _ (by omega) hb (I.do_ _ _) (by omega)
theorem copies_l1 (a : List Turn) : ∀ (j i : Nat) (n : Nat) (m : Mod) (out : List api_Answer), i + j = a.length → a.length ≤ 100000 → out.length ≤ i → Inv n m → n + j ≤ 999999 →
    Ev (fun k => ferrymanlaw16_ModelCopies_l1 a k out (i : Int) m) (out ++ ansS m (a.drop i), runS m (a.drop i)) := by
  intro j
  induction j with
  | zero =>
    intro i n m out hi hb ho I hn
    refine Ev.shift 1 ⟨0, fun k hk => ?_⟩
    show ferrymanlaw16_ModelCopies_l1 a (k + 1) out (i : Int) m = _
    rw [ferrymanlaw16_ModelCopies_l1.eq_2, List.drop_of_length_le (by omega)]
    have : ¬ ((i : Int) < (a.length : Int)) := by omega
    simp [this, runS, ansS]
  | succ j ih =>
    intro i n m out hi hb ho I hn
    have hlt : i < a.length := by omega
    have h3 : (i : Int) < (a.length : Int) := by omega
    refine Ev.shift 1 ?_
    refine Ev.congr (g := fun k => _) ?_ (fun k => by rw [ferrymanlaw16_ModelCopies_l1.eq_2])
    rw [List.drop_eq_getElem_cons hlt, runS, ansS, wr1 (i := i) (by omega), rdN hlt]
    refine Ev.pos (by simpa using h3) (Ev.pos (inR hlt) (Ev.pos (inR hlt) ?_))
    refine (do_ev I (by omega) a[i].Task a[i].Call).bind ?_
    refine Ev.pos (by simp; omega) ?_
    have := ih (i + 1) (n + 1) (doT m a[i]).2 (out ++ [(doT m a[i]).1]) (by omega) hb (by simp; omega) (I.do_ _ _) (by omega)
    exact this.eq (by simp)
theorem copies_l2 (a : List Turn) (A : List api_Answer) (hA : A.length = a.length) : ∀ (j i : Nat) (n : Nat) (m : Mod), i + j = a.length → a.length ≤ 100000 → A.drop i = ansS m (a.drop i) → Inv n m → n + j ≤ 999999 →
    Ev (fun k => ferrymanlaw16_ModelCopies_l2 a A k (i : Int) m) (.inr (runS m (a.drop i))) := by
  intro j
  induction j with
  | zero =>
    intro i n m hi hb ho I hn
    refine Ev.shift 1 ⟨0, fun k hk => ?_⟩
    show ferrymanlaw16_ModelCopies_l2 a A (k + 1) (i : Int) m = _
    rw [ferrymanlaw16_ModelCopies_l2.eq_2, List.drop_of_length_le (by omega)]
    have : ¬ ((i : Int) < (a.length : Int)) := by omega
    simp [this, runS]
  | succ j ih =>
    intro i n m hi hb ho I hn
    have hlt : i < a.length := by omega
    have hlA : i < A.length := by omega
    have h3 : (i : Int) < (a.length : Int) := by omega
    refine Ev.shift 1 ?_
    refine Ev.congr (g := fun k => _) ?_ (fun k => by rw [ferrymanlaw16_ModelCopies_l2.eq_2])
    rw [List.drop_eq_getElem_cons hlt, List.drop_eq_getElem_cons hlA, ansS, List.cons.injEq] at ho
    rw [List.drop_eq_getElem_cons hlt, runS, wr1 (i := i) (by omega), rdN hlt, rdN hlA]
    refine Ev.pos (by simpa using h3) (Ev.pos (inR hlt) (Ev.pos (inR hlt) (Ev.pos (inR hlA) ?_)))
    refine (do_ev I (by omega) a[i].Task a[i].Call).bind ?_
    have hp := doS_pairs I a[i].Task a[i].Call
    refine Ev.bind (v := true) ⟨n + 1, fun k hk => ?_⟩ ?_
    · have e := Answers_eq (doS m a[i].Task a[i].Call).1 A[i] (by omega) k (by omega)
      refine e.trans ?_
      rw [ho.1]; simp [doT]
    refine Ev.neg (by simp) ?_
    exact ih (i + 1) (n + 1) _ (by omega) hb ho.2 (I.do_ _ _) (by omega)
theorem pure_ModelCopies (a0 : api_Config) (a1 a2 : (List ferrymanlaw16_Turn)) (_ : wf_api_Config a0) (w1 : (wfSl wf_ferrymanlaw16_Turn) a1) (w2 : (wfSl wf_ferrymanlaw16_Turn) a2) : ∃ k, ferrymanlaw16_ModelCopies k a0 a1 a2 = some true := by
  refine Ev.ex (f := fun k => ferrymanlaw16_ModelCopies k a0 a1 a2) ?_
  have b1 : a1.length ≤ 9223372036854775807 := Nat.le_trans w1.1 (by decide)
  have b2 : a2.length ≤ 9223372036854775807 := Nat.le_trans w2.1 (by decide)
  unfold ferrymanlaw16_ModelCopies
  refine works_ev.bind ?_
  obtain ⟨x, hx, hx2⟩ := large_ev a1 b1
  obtain ⟨y, hy, hy2⟩ := large_ev a2 b2
  refine Ev.bind (v := x) (Ev.neg (by simp) (hx.bind (Ev.pure _))) ?_
  cases x with
  | true => exact Ev.bind (v := true) (Ev.pos rfl (Ev.pure _)) (Ev.pos rfl (works_ev.bind (Ev.pure _)))
  | false =>
    refine Ev.bind (v := y) (Ev.neg (by simp) (hy.bind (Ev.pure _))) ?_
    cases y with
    | true => exact Ev.pos rfl (works_ev.bind (Ev.pure _))
    | false =>
      have l1 := hx2 rfl
      have l2 := hy2 rfl
      refine Ev.neg (by simp) ?_
      refine Ev.bind ⟨9, fun k hk => New_eq k hk a0⟩ ?_
      cases mayB a0 with
      | false => exact Ev.pure _
      | true =>
        have I0 := Inv.new a0
        have h0 := copies_l0 a1 a1.length 0 0 (newS a0) (by omega) (by omega) I0 (by omega)
        rw [List.drop_zero] at h0
        have I1 := (I0.run a1).mono (n' := 200) (by omega)
        refine Ev.bind h0 ?_
        refine Ev.bind ⟨0, fun k _ => Copy_eq I1 (by omega) k⟩ ?_
        refine Ev.bind ⟨0, fun k _ => Copy_eq I1 (by omega) k⟩ ?_
        have h1 := copies_l1 a2 a2.length 0 200 (runS (newS a0) a1) [] (by omega) (by omega) (by simp) I1 (by omega)
        rw [List.drop_zero, List.nil_append] at h1
        refine Ev.bind h1 ?_
        refine (same_ev I1 I1 (by omega)).bind ?_
        refine Ev.neg (by simp [sameS_refl]) ?_
        have h2 := copies_l2 a2 (ansS (runS (newS a0) a1) a2) (ansS_len _ _) a2.length 0 200 (runS (newS a0) a1) (by omega) (by omega) (by simp) I1 (by omega)
        rw [List.drop_zero] at h2
        refine Ev.bind h2 ?_
        have I2 := (I1.run a2).mono (n' := 400) (by omega)
        exact ((same_ev I2 I2 (by omega)).eq (sameS_refl _)).bind (Ev.pure _)
end Go.Proofs.YtcngjjlhdlbogaaDoor
