/-  The plain law EventParts. -/
import Derived.Test.YtninegjnkkcepaaPureBase
import Derived.Test.YtninegjnkkcepaaGe1LEventParts
namespace Go.Proofs.Ytninegjnkkcepaa
open Go Go.RowKit
set_option linter.unusedVariables false
set_option linter.unusedSimpArgs false
/-- One task's events, from where it is. -/
def leg1 : Tk → List Ev → Bool
  | _, [] => true
  | t, x :: l => decide (ok1 t x) && leg1 (nextT t) l
theorem rd_set_ne {α : Type} [Inhabited α] {l : List α} {i j : Int} {x : α} (h0 : 0 ≤ i) (h1 : 0 ≤ j) (h : i ≠ j) : rd (l.set i.toNat x) j = rd l j := by
  unfold rd
  have : i.toNat ≠ j.toNat := by omega
  simp [List.getD_eq_getElem?_getD, List.getElem?_set, this]
theorem legal_iff : ∀ (l : List Ev) (ts : List Tk), legalB ts l = true ↔ (∀ x ∈ l, 0 ≤ x.Task ∧ x.Task < (ts.length : Int)) ∧ ∀ t : Int, 0 ≤ t → t < (ts.length : Int) → leg1 (rd ts t) (l.filter fun x => decide (x.Task = t)) = true
  | [], ts => by simp [legalB, leg1]
  | x :: l, ts => by
    unfold legalB
    rw [Bool.and_eq_true, decide_eq_true_eq, legal_iff l]
    unfold okE
    constructor
    · rintro ⟨⟨hr, h1⟩, h2, h3⟩
      refine ⟨fun y hy => ?_, fun t ht0 ht1 => ?_⟩
      · rcases List.mem_cons.1 hy with rfl | hy
        · exact hr
        · have := h2 y hy; simpa using this
      · have := h3 t ht0 (by simpa using ht1)
        by_cases e : x.Task = t
        · subst e
          rw [rd_set hr.1 hr.2] at this
          rw [List.filter_cons_of_pos (by simp)]
          unfold leg1
          rw [decide_eq_true h1, this]; rfl
        · rw [rd_set_ne hr.1 ht0 e] at this
          rw [List.filter_cons_of_neg (by simpa using e)]; exact this
    · rintro ⟨h1, h2⟩
      have hr := h1 x List.mem_cons_self
      have hx := h2 x.Task hr.1 hr.2
      rw [List.filter_cons_of_pos (by simp)] at hx
      unfold leg1 at hx
      rw [Bool.and_eq_true, decide_eq_true_eq] at hx
      refine ⟨⟨hr, hx.1⟩, fun y hy => by have := h1 y (List.mem_cons_of_mem _ hy); simpa using this, fun t ht0 ht1 => ?_⟩
      by_cases e : x.Task = t
      · subst e
        rw [rd_set hr.1 hr.2]; exact hx.2
      · rw [rd_set_ne hr.1 ht0 e]
        have := h2 t ht0 (by simpa using ht1)
        rwa [List.filter_cons_of_neg (by simpa using e)] at this
theorem legal_take : ∀ (l : List Ev) (ts : List Tk) (n : Nat), legalB ts l = true → legalB ts (l.take n) = true
  | [], _, n, h => by simpa using h
  | x :: l, ts, 0, h => by simp [legalB]
  | x :: l, ts, n + 1, h => by
    rw [List.take_succ_cons]
    unfold legalB at h ⊢
    rw [Bool.and_eq_true] at h ⊢
    exact ⟨h.1, legal_take l _ n h.2⟩
theorem legal_filter {l : List Ev} {ts : List Tk} {p : Ev → Bool} (hp : ∀ x y : Ev, x.Task = y.Task → p x = p y) (h : legalB ts l = true) : legalB ts (l.filter p) = true := by
  rw [legal_iff] at h ⊢
  refine ⟨fun x hx => h.1 x (List.mem_filter.1 hx).1, fun t h0 h1 => ?_⟩
  rw [List.filter_filter]
  have h2 := h.2 t h0 h1
  by_cases hq : ∃ x : Ev, x.Task = t ∧ p x = true
  · obtain ⟨x, hx, hpx⟩ := hq
    have : (fun a : Ev => decide (a.Task = t) && p a) = fun a : Ev => decide (a.Task = t) := by
      funext a
      by_cases e : a.Task = t
      · simp [e, hp a x (by rw [e, hx]), hpx]
      · simp [e]
    rw [this]; exact h2
  · have : (fun a : Ev => decide (a.Task = t) && p a) = fun _ => false := by
      funext a
      by_cases e : a.Task = t
      · have : p a = false := by
          by_cases e2 : p a = true
          · exact absurd ⟨a, e, e2⟩ hq
          · simpa using e2
        simp [this]
      · simp [e]
    rw [this, List.filter_eq_nil_iff.2 (fun _ _ => by simp)]; rfl
theorem legal_sub {a b : List Ev} (h : Sm b) (hs : a.Sublist b) : Sm a := ⟨Nat.le_trans hs.length_le h.1, fun x hx => h.2 x (hs.subset hx)⟩
theorem parts_eq {k : Nat} {h : List Ev} {t : Int} (hl : h.length ≤ 9000) (hk : 20000 ≤ k) : ferrymanlaw06_EventParts_l0 h t k [] [] 0 = some (h.filter (fun x => x.Task == t), h.filter fun x => !(x.Task == t)) := by
  have hrun := loop_run0 (a := h) (fun k i (s : List Ev × List Ev) => ferrymanlaw06_EventParts_l0 h t k s.1 s.2 i) (fun i s => s.1.length ≤ i ∧ s.2.length ≤ i) (fun x s => .inl (if (x.Task == t) = true then (s.1 ++ [x], s.2) else (s.1, s.2 ++ [x]))) id 0 (by omega)
    (fun k s _ _ => by rw [ferrymanlaw06_EventParts_l0.eq_2, if_neg (by simp)]; rfl) (fun k i s hi hI _ => by
      refine ⟨fun s' e => ?_, fun r e => by cases e⟩
      cases hx : (h[i].Task == t)
      · rw [hx] at e
        cases e
        rw [ferrymanlaw06_EventParts_l0.eq_2, if_pos (by simpa using hi), if_pos (inR hi), if_pos (inR hi), if_pos (inR hi), rdN hi, hx, if_neg (by simp), if_pos (by simp only [List.length_cons, List.length_nil]; omega)]
        exact ⟨rfl, by simp; omega, by simp; omega⟩
      · rw [hx] at e
        cases e
        rw [ferrymanlaw06_EventParts_l0.eq_2, if_pos (by simpa using hi), if_pos (inR hi), if_pos (inR hi), if_pos (inR hi), rdN hi, hx, if_pos rfl, if_pos (by simp only [List.length_cons, List.length_nil]; omega)]
        exact ⟨rfl, by simp; omega, by simp; omega⟩) (k := k) (s := ([], [])) (by omega) ⟨Nat.le_refl _, Nat.le_refl _⟩
  have key : ∀ (l : List Ev) (s : List Ev × List Ev), runL (R := List Ev × List Ev) (fun x s => .inl (if (x.Task == t) = true then (s.1 ++ [x], s.2) else (s.1, s.2 ++ [x]))) id l s = (s.1 ++ l.filter (fun x => x.Task == t), s.2 ++ l.filter fun x => !(x.Task == t)) := by
    intro l
    induction l with
    | nil => intro s; simp [runL]
    | cons x l ih =>
      intro s
      unfold runL
      dsimp only
      rw [ih]
      cases hx : (x.Task == t) <;> simp [hx]
  rw [key] at hrun
  simpa using hrun
theorem u64_range (x : Int) : 0 ≤ IntKind.u64.wrap x := by
  simp [IntKind.wrap, IntKind.bits, IntKind.signed]
  omega
theorem u64_id {x : Int} (h : 0 ≤ x) (h' : x ≤ 18446744073709551615) : IntKind.u64.wrap x = x := by
  simp [IntKind.wrap, IntKind.bits, IntKind.signed]
  omega
theorem pure_EventParts (a0 : Int) (a1 : (List api_Event)) (a2 : Int) (a3 : Int) (_ : (wfInt .i64) a0) (h1 : (wfSl wf_api_Event) a1) (_ : (wfInt .i64) a2) (_ : (wfInt .i64) a3) : ∃ k, ferrymanlaw06_EventParts k a0 a1 a2 a3 = some true := by
  have hlen : a1.length ≤ 9223372036854775807 := Nat.le_trans h1.1 (by decide)
  refine ⟨a1.length + 30000, ?_⟩
  unfold ferrymanlaw06_EventParts
  rw [works_up (by omega), wide_eq hlen (by omega)]
  by_cases hw : runL wideStep id a1 (a1.length : Int) ≥ 3000
  · simp [hw]
  · obtain ⟨hl, hs⟩ := wide_sm hw
    have hL := fun {h : List Ev} (hh : Sm h) => Legal_eq (k := a1.length + 30000) (n := a0) hh (by omega)
    rw [hL hs]
    by_cases hg : (decide (1 ≤ a0 ∧ a0 ≤ 6) && legalB (List.replicate a0.toNat ⟨0, 0⟩) a1) = true
    · rw [Bool.and_eq_true, decide_eq_true_eq] at hg
      have hlw : IntKind.i64.wrap ((a1.length : Int) + 1) = (a1.length : Int) + 1 := wr (by omega) (by omega)
      have huw : IntKind.u64.wrap ((a1.length : Int) + 1) = (a1.length : Int) + 1 := u64_id (by omega) (by omega)
      have hm0 := u64_range a2
      have hm1 : Int.tmod (IntKind.u64.wrap a2) ((a1.length : Int) + 1) < (a1.length : Int) + 1 := Int.tmod_lt_of_pos _ (by omega)
      have hm2 : 0 ≤ Int.tmod (IntKind.u64.wrap a2) ((a1.length : Int) + 1) := Int.tmod_nonneg _ hm0
      have hmw : IntKind.i64.wrap (Int.tmod (IntKind.u64.wrap a2) ((a1.length : Int) + 1)) = Int.tmod (IntKind.u64.wrap a2) ((a1.length : Int) + 1) := wr (by omega) (by omega)
      have hne : (a1.length : Int) + 1 ≠ 0 := by omega
      rw [hlw, huw, hmw]
      generalize hmm : Int.tmod (IntKind.u64.wrap a2) ((a1.length : Int) + 1) = m at *
      have hrng : 0 ≤ m ∧ m ≤ (a1.length : Int) := ⟨hm2, by omega⟩
      simp only [Option.bind_some, Bool.not_true, Bool.false_eq_true, if_false, hg.1, hg.2, and_self, decide_true, Bool.and_self, hw, decide_false, if_true, hne, ne_eq, not_false_eq_true]
      rw [parts_eq hs.1 (by omega), Option.bind_some]
      dsimp only
      rw [if_pos hrng, hL (legal_sub hs (List.take_sublist _ _)), hL (legal_sub hs List.filter_sublist), hL (legal_sub hs List.filter_sublist)]
      rw [legal_take _ _ _ hg.2, legal_filter (fun x y e => by rw [e]) hg.2, legal_filter (fun x y e => by rw [e]) hg.2]
      simp [hg.1]
    · have hg' : (decide (1 ≤ a0 ∧ a0 ≤ 6) && legalB (List.replicate a0.toNat ⟨0, 0⟩) a1) = false := by simpa using hg
      simp only [Option.bind_some, Bool.not_true, Bool.false_eq_true, if_false, hw, decide_false, hg', Bool.not_false, if_true]
end Go.Proofs.Ytninegjnkkcepaa
