/-  Legal histories, task by task; what a recorder has. -/
import Derived.Test.YtninegjnkkcepaaPureBase
namespace Go.Proofs.Ytninegjnkkcepaa
open Go Go.RowKit
set_option linter.unusedVariables false
set_option linter.unusedSimpArgs false
/-- One task's events, from where it is. -/
def leg1 : Tk → List Ev → Bool
  | _, [] => true
  | t, x :: l => decide (ok1 t x) && leg1 (nextT t) l
theorem rd_set_ne {α : Type} [Inhabited α] {l : List α} {i j : Int} {x : α} (h0 : 0 ≤ i) (h1 : 0 ≤ j) (h : i ≠ j) : rd (l.set i.toNat x) j = rd l j := by
  unfold rd
  have : i.toNat ≠ j.toNat := by omega
  simp [List.getD_eq_getElem?_getD, List.getElem?_set, this]
theorem legal_iff : ∀ (l : List Ev) (ts : List Tk), legalB ts l = true ↔ (∀ x ∈ l, 0 ≤ x.Task ∧ x.Task < (ts.length : Int)) ∧ ∀ t : Int, 0 ≤ t → t < (ts.length : Int) → leg1 (rd ts t) (l.filter fun x => decide (x.Task = t)) = true
  | [], ts => by simp [legalB, leg1]
  | x :: l, ts => by
    unfold legalB
    rw [Bool.and_eq_true, decide_eq_true_eq, legal_iff l]
    unfold okE
    constructor
    · rintro ⟨⟨hr, h1⟩, h2, h3⟩
      refine ⟨fun y hy => ?_, fun t ht0 ht1 => ?_⟩
      · rcases List.mem_cons.1 hy with rfl | hy
        · exact hr
        · have := h2 y hy; simpa using this
      · have := h3 t ht0 (by simpa using ht1)
        by_cases e : x.Task = t
        · subst e
          rw [rd_set hr.1 hr.2] at this
          rw [List.filter_cons_of_pos (by simp)]
          unfold leg1
          rw [decide_eq_true h1, this]; rfl
        · rw [rd_set_ne hr.1 ht0 e] at this
          rw [List.filter_cons_of_neg (by simpa using e)]; exact this
    · rintro ⟨h1, h2⟩
      have hr := h1 x List.mem_cons_self
      have hx := h2 x.Task hr.1 hr.2
      rw [List.filter_cons_of_pos (by simp)] at hx
      unfold leg1 at hx
      rw [Bool.and_eq_true, decide_eq_true_eq] at hx
      refine ⟨⟨hr, hx.1⟩, fun y hy => by have := h1 y (List.mem_cons_of_mem _ hy); simpa using this, fun t ht0 ht1 => ?_⟩
      by_cases e : x.Task = t
      · subst e
        rw [rd_set hr.1 hr.2]; exact hx.2
      · rw [rd_set_ne hr.1 ht0 e]
        have := h2 t ht0 (by simpa using ht1)
        rwa [List.filter_cons_of_neg (by simpa using e)] at this
/-- Where tasks are behind a legal history. -/
def tabF : List Tk → List Ev → List Tk
  | ts, [] => ts
  | ts, x :: l => tabF (ts.set x.Task.toNat (nextT (rd ts x.Task))) l
theorem tabF_cons (ts : List Tk) (x : Ev) (l : List Ev) : tabF ts (x :: l) = tabF (ts.set x.Task.toNat (nextT (rd ts x.Task))) l := rfl
theorem legalB_cons (ts : List Tk) (x : Ev) (l : List Ev) : legalB ts (x :: l) = (decide (okE ts x) && legalB (ts.set x.Task.toNat (nextT (rd ts x.Task))) l) := rfl
theorem legal_app : ∀ (a b : List Ev) (ts : List Tk), legalB ts (a ++ b) = (legalB ts a && legalB (tabF ts a) b)
  | [], b, ts => by simp [legalB, tabF]
  | x :: a, b, ts => by
    rw [List.cons_append, legalB_cons, legalB_cons, tabF_cons, legal_app a b, Bool.and_assoc]
theorem tab_app : ∀ (a b : List Ev) (ts : List Tk), tabF ts (a ++ b) = tabF (tabF ts a) b
  | [], b, ts => rfl
  | x :: a, b, ts => by
    rw [List.cons_append, tabF_cons, tabF_cons]
    exact tab_app a b _
theorem tab_len : ∀ (a : List Ev) (ts : List Tk), (tabF ts a).length = ts.length
  | [], ts => rfl
  | x :: a, ts => by
    unfold tabF
    rw [tab_len a]; simp
/-- What a recorder has is legal, and its table is told by it. -/
def Good (n : Nat) (r : event_Recorder) : Prop := legalB (List.replicate n ⟨0, 0⟩) r.l = true ∧ r.tasks = tabF (List.replicate n ⟨0, 0⟩) r.l
theorem good_len {n : Nat} {r : event_Recorder} (h : Good n r) : r.tasks.length = n := by rw [h.2, tab_len]; simp
end Go.Proofs.Ytninegjnkkcepaa
