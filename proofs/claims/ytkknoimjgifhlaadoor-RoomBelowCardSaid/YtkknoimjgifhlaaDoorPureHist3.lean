/-  A history that is gone over, whole. -/
import Derived.Test.YtkknoimjgifhlaaDoorPureStep3
namespace Go.Proofs.YtkknoimjgifhlaaDoor
open Go Go.RowKit
set_option linter.unusedVariables false
set_option linter.unusedSimpArgs false
set_option maxRecDepth 100000
/-! ### going over a history -/
theorem evU {α : Type} {f : Nat → Option α} {v w : α} (h : Ev f v) (h2 : Ev f w) : v = w := by
  obtain ⟨K, h⟩ := h
  obtain ⟨L, h2⟩ := h2
  exact Option.some.inj ((h (max K L) (by omega)).symm.trans (h2 (max K L) (by omega)))
abbrev tup (x : Run) := (x.programs, x.done, x.last, x.r.tasks, x.r.l, x.m)
abbrev OV (L : List api_Event) (i : Int) (x : Run) (k : Nat) := replay_over_v_l0 L k i x.programs x.done x.last x.r.tasks x.r.l x.m
theorem ov_end (L : List api_Event) (x : Run) : Ev (OV L (L.length : Int) x) (.inr (tup x)) := by
  refine Ev.shift 1 ⟨0, fun k hk => ?_⟩
  show replay_over_v_l0 L (k + 1) (L.length : Int) _ _ _ _ _ _ = _
  rw [replay_over_v_l0.eq_2]
  have : ¬ ((L.length : Int) < (L.length : Int)) := by omega
  simp [this]
theorem ov_step {T : Nat} {p : Progs} (hp : p.length ≤ T) {L : List api_Event} {i : Nat} (hlt : i < L.length) (hi : i ≤ 1000) {x : Run} (R : RI T p i x) (hA : L[i].Answer.Pairs.length ≤ 100000) :
    Ev (OV L (i : Int) x) (.inl (.inr (.inl ()))) ∨ ∃ x', RI T p (i + 1) x' ∧ Turns p T x L[i] x' ∧ ∀ v, Ev (OV L ((i + 1 : Nat) : Int) x') v → Ev (OV L (i : Int) x) v := by
  have h3 : (i : Int) < (L.length : Int) := by omega
  obtain ⟨o, x', hs, hx⟩ := step_ev R (by omega) hp (i : Int) L[i] hA
  by_cases ho : o = 4
  · refine .inl (Ev.shift 1 (Ev.congr (g := fun k => _) ?_ (fun k => by rw [OV, replay_over_v_l0.eq_2])))
    refine Ev.pos (by simpa using h3) (Ev.pos (inR hlt) ?_)
    rw [rdN hlt]
    exact Ev.bind hs (Ev.pos (by simpa using ho) (Ev.pure _))
  · refine .inr ⟨x', (hx ho).1, (hx ho).2 (by omega), fun v hv => Ev.shift 1 (Ev.congr (g := fun k => _) ?_ (fun k => by rw [OV, replay_over_v_l0.eq_2]))⟩
    refine Ev.pos (by simpa using h3) (Ev.pos (inR hlt) ?_)
    rw [rdN hlt, wr1 (i := i) (by omega)]
    exact Ev.bind hs (Ev.neg (by simpa using ho) hv)
theorem ov_all {T : Nat} {p : Progs} (hp : p.length ≤ T) (J : Run → Prop) (hJ : ∀ (i : Nat) (x x' : Run) (e : api_Event), RI T p i x → J x → Turns p T x e x' → J x') (L : List api_Event) (hl : L.length ≤ 1000) (hA : ∀ e ∈ L, e.Answer.Pairs.length ≤ 100000) : ∀ (j i : Nat) (x : Run), i + j = L.length → RI T p i x → J x →
    Ev (OV L (i : Int) x) (.inl (.inr (.inl ()))) ∨ ∃ y, RI T p L.length y ∧ J y ∧ Ev (OV L (i : Int) x) (.inr (tup y)) := by
  intro j
  induction j with
  | zero =>
    intro i x hi R Q
    obtain rfl : i = L.length := by omega
    exact .inr ⟨x, R, Q, ov_end L x⟩
  | succ j ih =>
    intro i x hi R Q
    rcases ov_step hp (by omega : i < L.length) (by omega) R (hA _ (List.getElem_mem _)) with h | ⟨x', R', tt, h⟩
    · exact .inl h
    · rcases ih (i + 1) x' (by omega) R' (hJ i x x' _ R Q tt) with g | ⟨y, hy, q, g⟩
      · exact .inl (h _ g)
      · exact .inr ⟨y, hy, q, h _ g⟩
theorem index_l0 (p : Progs) (hb : p.length ≤ 1000) : ∀ (j i : Nat), i + j = p.length → ∃ r, ∀ k, j < k → slices_IndexFunc_api_Call_api_Call_May_1_l0 p k (i : Int) = some r := by
  intro j
  induction j with
  | zero =>
    intro i hi
    refine ⟨.inr (), fun k hk => ?_⟩
    obtain ⟨k, rfl⟩ : ∃ k', k = k' + 1 := ⟨k - 1, by omega⟩
    rw [slices_IndexFunc_api_Call_api_Call_May_1_l0.eq_2]
    have : ¬ ((i : Int) < (p.length : Int)) := by omega
    simp [this]
  | succ j ih =>
    intro i hi
    obtain ⟨r, hr⟩ := ih (i + 1) (by omega)
    have h1 : i < p.length := by omega
    have h3 : (i : Int) < (p.length : Int) := by omega
    by_cases hc : ((p[i].length : Int) > 64)
    · refine ⟨.inl (i : Int), fun k hk => ?_⟩
      obtain ⟨k, rfl⟩ : ∃ k', k = k' + 1 := ⟨k - 1, by omega⟩
      rw [slices_IndexFunc_api_Call_api_Call_May_1_l0.eq_2]
      simp only [h3, decide_true, if_true, inR h1, and_self, rdN h1, replay_May_1_v, Option.bind_some, hc]
    · refine ⟨r, fun k hk => ?_⟩
      obtain ⟨k, rfl⟩ : ∃ k', k = k' + 1 := ⟨k - 1, by omega⟩
      rw [slices_IndexFunc_api_Call_api_Call_May_1_l0.eq_2]
      simp only [h3, decide_true, if_true, inR h1, and_self, rdN h1, replay_May_1_v, Option.bind_some, hc, decide_false, Bool.false_eq_true, if_false, wr1 (i := i) (by omega)]
      exact hr k (by omega)
theorem rMay_ev (c : api_Config) (p : Progs) : ∃ b : Bool, Ev (fun k => replay_May k c p) b ∧ (b = true → mayB c = true ∧ (p.length : Int) ≤ c.Tasks) := by
  unfold replay_May
  by_cases h : (mayB c && decide ((p.length : Int) ≤ c.Tasks)) = true
  · have h2 := h
    simp only [Bool.and_eq_true, decide_eq_true_eq] at h2
    have hT : c.Tasks ≤ 6 := by have := h2.1; simp only [mayB, Bool.and_eq_true, decide_eq_true_eq] at this; omega
    obtain ⟨r, hr⟩ := index_l0 p (by omega) p.length 0 (by omega)
    have hi : ∃ q, Ev (fun k => slices_ContainsFunc_api_Call_api_Call_May_1 k p) q := by
      unfold slices_ContainsFunc_api_Call_api_Call_May_1 slices_IndexFunc_api_Call_api_Call_May_1
      refine ⟨_, Ev.bind (v := Sum.elim (fun r' => r') (fun _ => (-1 : Int)) r) (Ev.bind (v := r) ⟨p.length + 1, fun k hk => hr k (by omega)⟩ ?_) (Ev.pure _)⟩
      cases r <;> exact Ev.pure _
    obtain ⟨q, hq⟩ := hi
    exact ⟨!q, Ev.bind ⟨9, fun k hk => May_def k c hk⟩ (Ev.bind (v := !q) (Ev.pos h (hq.bind (Ev.pure _))) (Ev.pure _)), fun _ => h2⟩
  · exact ⟨false, Ev.bind ⟨9, fun k hk => May_def k c hk⟩ (Ev.bind (v := false) (Ev.neg h (Ev.pure _)) (Ev.pure _)), fun h => by cases h⟩
theorem beg_ev (c : api_Config) (p : Progs) : Ev (fun k => replay_begun_v k c p) (.inl ()) ∨ (mayB c = true ∧ p.length ≤ c.Tasks.toNat ∧ ∃ x0 : Run, RI c.Tasks.toNat p 0 x0 ∧ (x0.m = newS c ∧ x0.done = []) ∧ Ev (fun k => replay_begun_v k c p) (.inr (.inl x0))) := by
  obtain ⟨b, hb, hb2⟩ := rMay_ev c p
  cases b with
  | false =>
    have h0 : Ev (fun k => replay_begun_v k c p) (.inl ()) := by
      unfold replay_begun_v
      exact Ev.bind hb (Ev.pos rfl (Ev.pure _))
    exact .inl h0
  | true =>
    obtain ⟨hm, hp⟩ := hb2 rfl
    have hm2 := hm
    simp only [mayB, Bool.and_eq_true, decide_eq_true_eq] at hm2
    have hT : 1 ≤ c.Tasks ∧ c.Tasks ≤ 6 := by omega
    generalize hx0 : (⟨p, ⟨List.replicate c.Tasks.toNat (⟨0, 0⟩ : event_task), []⟩, newS c, [], List.replicate c.Tasks.toNat (0 : Int)⟩ : Run) = x0
    have hbeg : Ev (fun k => replay_begun_v k c p) (.inr (.inl x0)) := by
      unfold replay_begun_v
      refine Ev.bind hb (Ev.neg (by simp) ?_)
      refine Ev.bind (v := .inr ⟨List.replicate c.Tasks.toNat (⟨0, 0⟩ : event_task), []⟩) (Ev.all fun k => ?_) ?_
      · unfold event_New_v
        rw [if_neg (by simp; omega), if_pos (by omega)]
      · have hnew : Ev (fun k => model_New_v k c) (.inr (newS c)) := ⟨9, fun k hk => by show model_New_v k c = _; rw [New_eq k hk c, hm]; rfl⟩
        refine Ev.bind hnew ?_
        rw [← hx0]
        exact Ev.pos (by omega) (Ev.pure _)
    have RI0 : RI c.Tasks.toNat p 0 x0 := by
      rw [← hx0]
      refine ⟨rfl, ⟨by simp, fun t h => by simp, fun t h => by simp, by simp⟩, by simp, Inv.new c, by simp, (fun d hd => by cases hd), fun u hu h2 => ?_⟩
      have h2 : (rd (List.replicate c.Tasks.toNat (⟨0, 0⟩ : event_task)) (u : Int)).at_ = 2 := h2
      rw [rdN (by simpa using hu)] at h2
      simp at h2
    exact .inr ⟨hm, by omega, x0, RI0, by rw [← hx0]; exact ⟨rfl, rfl⟩, hbeg⟩
/-! ### how long -/
theorem imin8 (s : Nat) : 0 ≤ imin (8000 : Int) (s : Int) ∧ imin (8000 : Int) (s : Int) ≤ 8000 ∧ imin (8000 : Int) (s : Int) ≤ (s : Int) := by unfold imin; split <;> omega
theorem long_l0 (l : List api_Event) (hb : l.length ≤ 9223372036854775807) : ∀ (j i : Nat) (n : Int), i + j = l.length → 0 ≤ n → n ≤ 100000 → ∃ r : Int, (∀ k, j < k → ferrymanlaw30_long_l0 l k n (i : Int) = some r) ∧ n ≤ r ∧ r ≤ 100000 ∧ (r < 8000 → ∀ e ∈ l.drop i, e.Answer.Pairs.length ≤ 100000) := by
  intro j
  induction j with
  | zero =>
    intro i n hi h0 h1
    refine ⟨n, fun k hk => ?_, Int.le_refl _, h1, fun _ e he => by rw [List.drop_of_length_le (by omega)] at he; cases he⟩
    obtain ⟨k, rfl⟩ : ∃ k', k = k' + 1 := ⟨k - 1, by omega⟩
    rw [ferrymanlaw30_long_l0.eq_2]
    have : ¬ ((i : Int) < (l.length : Int)) := by omega
    simp [this]
  | succ j ih =>
    intro i n hi h0 h1
    have hlt : i < l.length := by omega
    have h3 : (i : Int) < (l.length : Int) := by omega
    by_cases hn : n < 8000
    · have m1 := imin8 l[i].Answer.Value.length
      have m2 := imin8 l[i].Answer.Pairs.length
      obtain ⟨r, g1, g2, g3, g4⟩ := ih (i + 1) (n + imin 8000 (l[i].Answer.Value.length : Int) + 5 * imin 8000 (l[i].Answer.Pairs.length : Int)) (by omega) (by omega) (by omega)
      refine ⟨r, fun k hk => ?_, by omega, g3, fun hr e he => ?_⟩
      · obtain ⟨k, rfl⟩ : ∃ k', k = k' + 1 := ⟨k - 1, by omega⟩
        rw [ferrymanlaw30_long_l0.eq_2]
        simp only [h3, hn, decide_true, Bool.and_self, if_true, inR hlt, and_self, rdN hlt, wr1 (i := i) (by omega)]
        rw [wr (x := n + imin 8000 (l[i].Answer.Value.length : Int)) (by omega) (by omega), wr (x := 5 * imin 8000 (l[i].Answer.Pairs.length : Int)) (by omega) (by omega), wr (x := n + imin 8000 (l[i].Answer.Value.length : Int) + _) (by omega) (by omega)]
        exact g1 k (by omega)
      · rw [List.drop_eq_getElem_cons hlt] at he
        rcases List.mem_cons.1 he with rfl | he
        · have h5 : imin (8000 : Int) (l[i].Answer.Pairs.length : Int) < 8000 := by omega
          unfold imin at h5
          split at h5 <;> omega
        · exact g4 hr e he
    · refine ⟨n, fun k hk => ?_, Int.le_refl _, h1, fun h => absurd h hn⟩
      obtain ⟨k, rfl⟩ : ∃ k', k = k' + 1 := ⟨k - 1, by omega⟩
      rw [ferrymanlaw30_long_l0.eq_2]
      simp [hn]
theorem long_l5 (p : Progs) (q : Nat) (hq : q < p.length) (hb : p[q].length ≤ 9223372036854775807) : ∀ (j i : Nat) (n : Int), i + j = p[q].length → 0 ≤ n → n ≤ 200000 → ∃ r : Int, (∀ k, j < k → ferrymanlaw30_long_l5 p (q : Int) k n (i : Int) = some r) ∧ n ≤ r ∧ r ≤ 200000 := by
  intro j
  induction j with
  | zero =>
    intro i n hi h0 h1
    refine ⟨n, fun k hk => ?_, Int.le_refl _, h1⟩
    obtain ⟨k, rfl⟩ : ∃ k', k = k' + 1 := ⟨k - 1, by omega⟩
    rw [ferrymanlaw30_long_l5.eq_2, if_pos (inR hq), rdN hq]
    have : ¬ ((i : Int) < (p[q].length : Int)) := by omega
    simp [this]
  | succ j ih =>
    intro i n hi h0 h1
    have hlt : i < p[q].length := by omega
    have h3 : (i : Int) < (p[q].length : Int) := by omega
    by_cases hn : n < 8000
    · have m1 := imin8 p[q][i].Key.length
      have m2 := imin8 p[q][i].End.length
      have m3 := imin8 p[q][i].Value.length
      obtain ⟨r, g1, g2, g3⟩ := ih (i + 1) (n + 5 + imin 8000 (p[q][i].Key.length : Int) + imin 8000 (p[q][i].End.length : Int) + imin 8000 (p[q][i].Value.length : Int)) (by omega) (by omega) (by omega)
      refine ⟨r, fun k hk => ?_, by omega, g3⟩
      obtain ⟨k, rfl⟩ : ∃ k', k = k' + 1 := ⟨k - 1, by omega⟩
      rw [ferrymanlaw30_long_l5.eq_2]
      simp only [h3, hn, decide_true, Bool.and_self, if_true, inR hlt, inR hq, and_self, rdN hlt, rdN hq, wr1 (i := i) (by omega)]
      rw [wr (x := n + 5) (by omega) (by omega), wr (x := n + 5 + _) (by omega) (by omega), wr (x := n + 5 + _ + _) (by omega) (by omega), wr (x := n + 5 + _ + _ + _) (by omega) (by omega)]
      exact g1 k (by omega)
    · refine ⟨n, fun k hk => ?_, Int.le_refl _, h1⟩
      obtain ⟨k, rfl⟩ : ∃ k', k = k' + 1 := ⟨k - 1, by omega⟩
      rw [ferrymanlaw30_long_l5.eq_2, if_pos (inR hq)]
      simp [hn]
theorem long_l3 (p : Progs) (hb : p.length ≤ 9223372036854775807) (hB : ∀ q ∈ p, q.length ≤ 9223372036854775807) : ∀ (j i : Nat) (n : Int), i + j = p.length → 0 ≤ n → n ≤ 200000 → ∃ r : Int, Ev (fun k => ferrymanlaw30_long_l3 p k n (i : Int)) r ∧ n ≤ r := by
  intro j
  induction j with
  | zero =>
    intro i n hi h0 h1
    refine ⟨n, Ev.shift 1 ⟨0, fun k hk => ?_⟩, Int.le_refl _⟩
    show ferrymanlaw30_long_l3 p (k + 1) n (i : Int) = _
    rw [ferrymanlaw30_long_l3.eq_2]
    have : ¬ ((i : Int) < (p.length : Int)) := by omega
    simp [this]
  | succ j ih =>
    intro i n hi h0 h1
    have hlt : i < p.length := by omega
    have h3 : (i : Int) < (p.length : Int) := by omega
    by_cases hn : n < 8000
    · obtain ⟨r, g1, g2, g3⟩ := long_l5 p i hlt (hB _ (List.getElem_mem hlt)) p[i].length 0 (n + 1) (by omega) (by omega) (by omega)
      obtain ⟨s, f1, f2⟩ := ih (i + 1) r (by omega) (by omega) g3
      refine ⟨s, Ev.shift 1 (Ev.congr (g := fun k => _) ?_ (fun k => by rw [ferrymanlaw30_long_l3.eq_2])), by omega⟩
      rw [wr1 (i := i) (by omega), wr (x := n + 1) (by omega) (by omega)]
      refine Ev.pos (by simp [h3, hn]) (Ev.bind (v := r) ⟨p[i].length + 1, fun k hk => g1 k (by omega)⟩ f1)
    · refine ⟨n, Ev.shift 1 ⟨0, fun k hk => ?_⟩, Int.le_refl _⟩
      show ferrymanlaw30_long_l3 p (k + 1) n (i : Int) = _
      rw [ferrymanlaw30_long_l3.eq_2]
      simp [hn]
theorem long_ev (p : Progs) (l : List api_Event) (hp : p.length ≤ 9223372036854775807) (hP : ∀ q ∈ p, q.length ≤ 9223372036854775807) (hl : l.length ≤ 9223372036854775807) :
    ∃ b : Bool, Ev (fun k => ferrymanlaw30_long k p l) b ∧ (b = false → l.length ≤ 300 ∧ ∀ e ∈ l, e.Answer.Pairs.length ≤ 100000) := by
  have hm : 0 ≤ imin (1000 : Int) (l.length : Int) ∧ imin (1000 : Int) (l.length : Int) ≤ 1000 := by unfold imin; split <;> omega
  obtain ⟨r, g1, g2, g3, g4⟩ := long_l0 l hl l.length 0 (30 * imin 1000 (l.length : Int)) (by omega) (by omega) (by omega)
  obtain ⟨s, f1, f2⟩ := long_l3 p hp hP p.length 0 r (by omega) (by omega) (by omega)
  refine ⟨decide (s ≥ 8000), ?_, fun h => ?_⟩
  · unfold ferrymanlaw30_long
    rw [wr (x := 30 * imin 1000 (l.length : Int)) (by omega) (by omega)]
    exact Ev.bind (v := r) ⟨l.length + 1, fun k hk => g1 k (by omega)⟩ (Ev.bind f1 (Ev.pure _))
  · have hs : ¬ s ≥ 8000 := by simpa using h
    have hr : r < 8000 := by omega
    refine ⟨?_, fun e he => g4 hr e (by simpa using he)⟩
    have : 30 * imin (1000 : Int) (l.length : Int) < 8000 := by omega
    unfold imin at this
    split at this <;> omega
theorem works_at : ferrymanlaw30_works 200 = some true := by decide +kernel
theorem works_ev : Ev (fun k => ferrymanlaw30_works k) true := ⟨200, fun k hk => OLe.up (f := fun k => ferrymanlaw30_works k) (fun k => ferrymanlaw30_works.mono) hk _ works_at⟩
end Go.Proofs.YtkknoimjgifhlaaDoor
