/-  The plain law KeepLeft. -/
import Derived.Test.YtmoackfjfklfaaaPureKeepSteps
import Derived.Test.YtmoackfjfklfaaaGt7LKeepLeft
namespace Go.Proofs.Ytmoackfjfklfaaa
open Go Go.RowKit
set_option linter.unusedVariables false
set_option linter.unusedSimpArgs false
theorem imax_eq (a b : Int) : imax a b = max a b := by
  unfold imax
  split <;> omega
theorem legal_tail {v : api_Version} {t : List api_Version} (h : legal (v :: t) = true) : legal t = true := by
  cases t with
  | nil => rfl
  | cons u t => simp [legal] at h; exact h.2
theorem legal_lt : ∀ {v : api_Version} {t : List api_Version}, legal (v :: t) = true → ∀ u ∈ t, u.TS < v.TS
  | v, [], _, u, hu => by cases hu
  | v, w :: t, h, u, hu => by
    have h' := h
    simp [legal] at h'
    rcases List.mem_cons.1 hu with rfl | hu
    · exact h'.1.2
    · have := legal_lt (legal_tail h) u hu
      have := h'.1.2
      omega
theorem left1 : ∀ (l : List api_Version) (f : Int), legal l = true → ∀ (i : Nat) (hi : i < (kept l f).length), ∃ hl : i < l.length, (kept l f)[i] = l[i] ∧
    seen l (max f l[i].TS) = (if l[i].Tomb then (dflt, false) else (l[i], true)) ∧ (l[i].TS ≤ f → l[i].Tomb = false ∧ i + 1 = (kept l f).length)
  | [], _, _, i, hi => by simp [kept] at hi
  | v :: t, f, hl, i, hi => by
    by_cases h1 : v.TS ≤ f
    · cases ht : v.Tomb with
      | true => simp [kept, h1, ht] at hi
      | false =>
        have e : kept (v :: t) f = [v] := by simp [kept, h1, ht]
        simp only [e, List.length_singleton] at hi
        obtain rfl : i = 0 := by omega
        refine ⟨by simp, by simp [e], ?_, fun _ => ⟨by simpa using ht, by rw [e]; rfl⟩⟩
        have : v.TS ≤ max f v.TS := by omega
        simp [seen, this, ht]
    · have e : kept (v :: t) f = v :: kept t f := by simp [kept, h1]
      simp only [e, List.length_cons] at hi
      cases i with
      | zero =>
        refine ⟨by simp, by simp [e], ?_, fun h => absurd h h1⟩
        have : v.TS ≤ max f v.TS := by omega
        simp [seen, this]
      | succ i =>
        obtain ⟨hl', h2, h3, h4⟩ := left1 t f (legal_tail hl) i (by omega)
        refine ⟨by simp; omega, by simp [e, h2], ?_, fun h => ?_⟩
        · have hlt := legal_lt hl t[i] (List.getElem_mem hl')
          have hn : ¬ (v.TS ≤ max f t[i].TS) := by omega
          simp only [List.getElem_cons_succ, seen, hn, if_false]
          exact h3
        · have := h4 (by simpa using h)
          refine ⟨by simpa using this.1, by rw [e, List.length_cons]; omega⟩
theorem left2 : ∀ (l : List api_Version) (f n : Int), legal l = true → f ≤ n → (seen l n).2 = true → ∀ (i : Nat), (kept l f).length ≤ i → ∀ hi : i < l.length, (seen l n).1.TS ≠ l[i].TS
  | [], _, _, _, _, _, i, _, hi => by simp at hi
  | v :: t, f, n, hl, hfn, hs, i, hm, hi => by
    by_cases h1 : v.TS ≤ f
    · have h2 : v.TS ≤ n := by omega
      cases ht : v.Tomb with
      | true => simp [seen, h2, ht] at hs
      | false =>
        have e : kept (v :: t) f = [v] := by simp [kept, h1, ht]
        simp only [e, List.length_singleton] at hm
        obtain ⟨i, rfl⟩ : ∃ i', i = i' + 1 := ⟨i - 1, by omega⟩
        have hi' : i < t.length := by simpa using hi
        have hlt := legal_lt hl t[i] (List.getElem_mem hi')
        simp only [seen, h2, ht, if_true, List.getElem_cons_succ]
        show v.TS ≠ _
        omega
    · have e : kept (v :: t) f = v :: kept t f := by simp [kept, h1]
      simp only [e, List.length_cons] at hm
      obtain ⟨i, rfl⟩ : ∃ i', i = i' + 1 := ⟨i - 1, by omega⟩
      have hi' : i < t.length := by simpa using hi
      by_cases h2 : v.TS ≤ n
      · cases ht : v.Tomb with
        | true => simp [seen, h2, ht] at hs
        | false =>
          have hlt := legal_lt hl t[i] (List.getElem_mem hi')
          simp only [seen, h2, ht, if_true, List.getElem_cons_succ]
          show v.TS ≠ _
          omega
      · simp only [seen, h2, if_false, List.getElem_cons_succ] at hs ⊢
        exact left2 t f n (legal_tail hl) hfn hs i (by omega) hi'
theorem left_l5 (l : List api_Version) (f : Int) (hl : l.length ≤ 300) (hlg : legal l = true) (i : Nat) (hm : (kept l f).length ≤ i) (hi : i < l.length) : ∀ (j k x : Nat), x + j = l.length + 1 → 400 + j < k → ferrymanlaw11_KeepLeft_l5 l f (i : Int) k (x : Int) = some (.inr ()) := by
  intro j
  induction j with
  | zero =>
    intro k x h1 h2
    obtain ⟨k, rfl⟩ : ∃ k', k = k' + 1 := ⟨k - 1, by omega⟩
    rw [ferrymanlaw11_KeepLeft_l5.eq_2]
    have : ¬ ((x : Int) ≤ (l.length : Int)) := by omega
    simp [this]
  | succ j ih =>
    intro k x h1 h2
    obtain ⟨k, rfl⟩ : ∃ k', k = k' + 1 := ⟨k - 1, by omega⟩
    have hb := ih k (x + 1) (by omega) (by omega)
    rw [show ((x + 1 : Nat) : Int) = (x : Int) + 1 by omega] at hb
    rw [ferrymanlaw11_KeepLeft_l5.eq_2, wr (x := (x : Int) + 1) (by omega) (by omega), hb]
    have hx : (x : Int) ≤ (l.length : Int) := by omega
    have hx0 : (0 : Int) ≤ (x : Int) := by omega
    have hi0 : (0 : Int) ≤ (i : Int) ∧ (i : Int) < (l.length : Int) := by omega
    have key : ∀ n : Int, f ≤ n → ((keep_Seen k l n).bind fun t3412 => (Option.bind (α := Bool) (if t3412.2 = true then (if 0 ≤ (i : Int) ∧ (i : Int) < (l.length : Int) then some ((t3412.1.TS == (rd l (i : Int)).TS)) else none) else some (false)) (fun x3456 => (if x3456 = true then some (.inl false : Bool ⊕ Unit) else some (.inr ()))))) = some (.inr ()) := by
      intro n hn
      rw [Seen_eq l n k (by omega) (by omega)]
      simp only [Option.bind_some, hi0, and_self, if_true]
      cases hs : (seen l n).2 with
      | false => simp
      | true =>
        have := left2 l f n hlg hn hs i hm hi
        rw [rdN hi]
        simp [this]
    simp only [hx, decide_true, if_true]
    by_cases hxl : (x : Int) < (l.length : Int)
    · simp only [hxl, hx0, decide_true, and_self, if_true, Option.bind_some]
      exact key _ (by rw [imax_eq]; omega)
    · simp only [hxl, decide_false, Bool.false_eq_true, if_false, Option.bind_some]
      exact key _ (Int.le_refl _)
theorem left_l3 (l : List api_Version) (f : Int) (hl : l.length ≤ 300) (hlg : legal l = true) : ∀ (j k i : Nat), i + j = l.length → 1000 + j < k → (kept l f).length ≤ i → ferrymanlaw11_KeepLeft_l3 l f k (i : Int) = some (.inr ()) := by
  intro j
  induction j with
  | zero =>
    intro k i h1 h2 _
    obtain ⟨k, rfl⟩ : ∃ k', k = k' + 1 := ⟨k - 1, by omega⟩
    rw [ferrymanlaw11_KeepLeft_l3.eq_2]
    have : ¬ ((i : Int) < (l.length : Int)) := by omega
    simp [this]
  | succ j ih =>
    intro k i h1 h2 hm
    obtain ⟨k, rfl⟩ : ∃ k', k = k' + 1 := ⟨k - 1, by omega⟩
    have hb := ih k (i + 1) (by omega) (by omega) (by omega)
    rw [show ((i + 1 : Nat) : Int) = (i : Int) + 1 by omega] at hb
    have h5 := left_l5 l f hl hlg i hm (by omega) (l.length + 1) k 0 (by omega) (by omega)
    rw [show ((0 : Nat) : Int) = 0 from rfl] at h5
    rw [ferrymanlaw11_KeepLeft_l3.eq_2, wr (x := (i : Int) + 1) (by omega) (by omega), hb, h5]
    have hi1 : (i : Int) < (l.length : Int) := by omega
    simp [hi1]
theorem left_l0 (l : List api_Version) (f : Int) (hl : l.length ≤ 300) (hlg : legal l = true) : ∀ (j k i : Nat), i + j = (kept l f).length → 400 + j < k → ferrymanlaw11_KeepLeft_l0 l f (kept l f) k (i : Int) = some (.inr ()) := by
  have hkl : (kept l f).length ≤ l.length := by rw [kept_take, List.length_take]; omega
  intro j
  induction j with
  | zero =>
    intro k i h1 h2
    obtain ⟨k, rfl⟩ : ∃ k', k = k' + 1 := ⟨k - 1, by omega⟩
    rw [ferrymanlaw11_KeepLeft_l0.eq_2]
    have : ¬ ((i : Int) < ((kept l f).length : Int)) := by omega
    simp [this]
  | succ j ih =>
    intro k i h1 h2
    obtain ⟨k, rfl⟩ : ∃ k', k = k' + 1 := ⟨k - 1, by omega⟩
    have hb := ih k (i + 1) (by omega) (by omega)
    rw [show ((i + 1 : Nat) : Int) = (i : Int) + 1 by omega] at hb
    obtain ⟨hil, g1, g2, g3⟩ := left1 l f hlg i (by omega)
    have hi0 : (0 : Int) ≤ (i : Int) := by omega
    have hi1 : (i : Int) < (l.length : Int) := by omega
    have hi2 : (i : Int) < ((kept l f).length : Int) := by omega
    have hge : ¬ ((i : Int) ≥ (l.length : Int)) := by omega
    have er : rd (kept l f) (i : Int) = l[i] := by rw [rdN (by omega), g1]
    rw [ferrymanlaw11_KeepLeft_l0.eq_2, wr (x := (i : Int) + 1) (by omega) (by omega), wr (x := ((kept l f).length : Int) - 1) (by omega) (by omega), hb, er, rdN hil, imax_eq, Seen_eq l _ k (by omega) (by omega), g2]
    simp only [hi0, hi1, hi2, hge, decide_true, decide_false, and_self, if_true, Option.bind_some, beq_self_eq_true, Bool.and_self, Bool.not_true, Bool.or_self, Bool.false_eq_true, if_false]
    by_cases hf : l[i].TS ≤ f
    · obtain ⟨h3, h4⟩ := g3 hf
      have h5 : (i : Int) = ((kept l f).length : Int) - 1 := by omega
      simp [h3, hf, h5]
    · cases ht : l[i].Tomb <;> simp [hf, ht]
theorem pure_KeepLeft (a0 : (List api_Version)) (a1 : Int) (_ : (wfSl wf_api_Version) a0) (_ : (wfInt .i64) a1) : ∃ k, ferrymanlaw11_KeepLeft k a0 a1 = some true := by
  refine ⟨3000, ?_⟩
  unfold ferrymanlaw11_KeepLeft
  rw [awake_eq 3000 (by omega)]
  by_cases h1 : (a0.length : Int) > 300
  · simp [h1]
  have hl : a0.length ≤ 300 := by omega
  have hkl : (kept a0 a1).length ≤ a0.length := by rw [kept_take, List.length_take]; omega
  rw [Legal_eq a0 3000 (by omega) (by omega), Kept_eq a0 a1 3000 (by omega) (by omega)]
  cases hlg : legal a0
  · simp [h1]
  have h0 := left_l0 a0 a1 hl hlg (kept a0 a1).length 3000 0 (by omega) (by omega)
  rw [show ((0 : Nat) : Int) = 0 from rfl] at h0
  have h3 := left_l3 a0 a1 hl hlg (a0.length - (kept a0 a1).length) 3000 (kept a0 a1).length (by omega) (by omega) (Nat.le_refl _)
  simp [h1, h0, h3]
end Go.Proofs.Ytmoackfjfklfaaa
