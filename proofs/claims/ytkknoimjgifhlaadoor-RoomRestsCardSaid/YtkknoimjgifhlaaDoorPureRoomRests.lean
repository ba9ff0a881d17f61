/-  The plain law RoomRests. -/
import Derived.Test.YtkknoimjgifhlaaDoorPureStep
import Derived.Test.YtkknoimjgifhlaaDoorGr1LRoomRests
namespace Go.Proofs.YtkknoimjgifhlaaDoor
open Go Go.RowKit
set_option linter.unusedVariables false
set_option linter.unusedSimpArgs false
set_option maxRecDepth 100000
/-! ### going over a history -/
theorem over_l0 {T : Nat} {p : Progs} (hp : p.length ≤ T) (l : List api_Event) (hl : l.length ≤ 1000) (hA : ∀ e ∈ l, e.Answer.Pairs.length ≤ 100000) : ∀ (j i : Nat) (x : Run), i + j = l.length → RI T p i x →
    (Ev (fun k => replay_over_v_l0 l k (i : Int) x.programs x.done x.last x.r.tasks x.r.l x.m) (.inl (.inr (.inl ())))) ∨
    ∃ x' : Run, RI T p l.length x' ∧ Ev (fun k => replay_over_v_l0 l k (i : Int) x.programs x.done x.last x.r.tasks x.r.l x.m) (.inr (x'.programs, x'.done, x'.last, x'.r.tasks, x'.r.l, x'.m)) := by
  intro j
  induction j with
  | zero =>
    intro i x hi R
    obtain rfl : i = l.length := by omega
    refine .inr ⟨x, R, Ev.shift 1 ⟨0, fun k hk => ?_⟩⟩
    show replay_over_v_l0 l (k + 1) (l.length : Int) _ _ _ _ _ _ = _
    rw [replay_over_v_l0.eq_2]
    have : ¬ ((l.length : Int) < (l.length : Int)) := by omega
    simp [this]
  | succ j ih =>
    intro i x hi R
    have hlt : i < l.length := by omega
    have h3 : (i : Int) < (l.length : Int) := by omega
    obtain ⟨o, x', hs, hx⟩ := step_ev R (by omega) hp (i : Int) l[i] (hA _ (List.getElem_mem hlt))
    by_cases ho : o = 4
    · refine .inl (Ev.shift 1 (Ev.congr (g := fun k => _) ?_ (fun k => by rw [replay_over_v_l0.eq_2])))
      refine Ev.pos (by simpa using h3) (Ev.pos (inR hlt) ?_)
      rw [rdN hlt]
      exact Ev.bind hs (Ev.pos (by simpa using ho) (Ev.pure _))
    · rcases ih (i + 1) x' (by omega) (hx ho) with h | ⟨y, hy, h⟩
      · refine .inl (Ev.shift 1 (Ev.congr (g := fun k => _) ?_ (fun k => by rw [replay_over_v_l0.eq_2])))
        refine Ev.pos (by simpa using h3) (Ev.pos (inR hlt) ?_)
        rw [rdN hlt, wr1 (i := i) (by omega)]
        exact Ev.bind hs (Ev.neg (by simpa using ho) h)
      · refine .inr ⟨y, hy, Ev.shift 1 (Ev.congr (g := fun k => _) ?_ (fun k => by rw [replay_over_v_l0.eq_2]))⟩
        refine Ev.pos (by simpa using h3) (Ev.pos (inR hlt) ?_)
        rw [rdN hlt, wr1 (i := i) (by omega)]
        exact Ev.bind hs (Ev.neg (by simpa using ho) h)
theorem index_l0 (p : Progs) (hb : p.length ≤ 1000) : ∀ (j i : Nat), i + j = p.length → ∃ r, ∀ k, j < k → slices_IndexFunc_api_Call_api_Call_May_1_l0 p k (i : Int) = some r := by
  intro j
  induction j with
  | zero =>
    intro i hi
    refine ⟨.inr (), fun k hk => ?_⟩
    obtain ⟨k, rfl⟩ : ∃ k', k = k' + 1 := ⟨k - 1, by omega⟩
    rw [slices_IndexFunc_api_Call_api_Call_May_1_l0.eq_2]
    have : ¬ ((i : Int) < (p.length : Int)) := by omega
    simp [this]
  | succ j ih =>
    intro i hi
    obtain ⟨r, hr⟩ := ih (i + 1) (by omega)
    have h1 : i < p.length := by omega
    have h3 : (i : Int) < (p.length : Int) := by omega
    by_cases hc : ((p[i].length : Int) > 64)
    · refine ⟨.inl (i : Int), fun k hk => ?_⟩
      obtain ⟨k, rfl⟩ : ∃ k', k = k' + 1 := ⟨k - 1, by omega⟩
      rw [slices_IndexFunc_api_Call_api_Call_May_1_l0.eq_2]
      simp only [h3, decide_true, if_true, inR h1, and_self, rdN h1, replay_May_1_v, Option.bind_some, hc]
    · refine ⟨r, fun k hk => ?_⟩
      obtain ⟨k, rfl⟩ : ∃ k', k = k' + 1 := ⟨k - 1, by omega⟩
      rw [slices_IndexFunc_api_Call_api_Call_May_1_l0.eq_2]
      simp only [h3, decide_true, if_true, inR h1, and_self, rdN h1, replay_May_1_v, Option.bind_some, hc, decide_false, Bool.false_eq_true, if_false, wr1 (i := i) (by omega)]
      exact hr k (by omega)
theorem rMay_ev (c : api_Config) (p : Progs) : ∃ b : Bool, Ev (fun k => replay_May k c p) b ∧ (b = true → mayB c = true ∧ (p.length : Int) ≤ c.Tasks) := by
  unfold replay_May
  by_cases h : (mayB c && decide ((p.length : Int) ≤ c.Tasks)) = true
  · have h2 := h
    simp only [Bool.and_eq_true, decide_eq_true_eq] at h2
    have hT : c.Tasks ≤ 6 := by have := h2.1; simp only [mayB, Bool.and_eq_true, decide_eq_true_eq] at this; omega
    obtain ⟨r, hr⟩ := index_l0 p (by omega) p.length 0 (by omega)
    have hi : ∃ q, Ev (fun k => slices_ContainsFunc_api_Call_api_Call_May_1 k p) q := by
      unfold slices_ContainsFunc_api_Call_api_Call_May_1 slices_IndexFunc_api_Call_api_Call_May_1
      refine ⟨_, Ev.bind (v := Sum.elim (fun r' => r') (fun _ => (-1 : Int)) r) (Ev.bind (v := r) ⟨p.length + 1, fun k hk => hr k (by omega)⟩ ?_) (Ev.pure _)⟩
      cases r <;> exact Ev.pure _
    obtain ⟨q, hq⟩ := hi
    exact ⟨!q, Ev.bind ⟨9, fun k hk => May_def k c hk⟩ (Ev.bind (v := !q) (Ev.pos h (hq.bind (Ev.pure _))) (Ev.pure _)), fun _ => h2⟩
  · exact ⟨false, Ev.bind ⟨9, fun k hk => May_def k c hk⟩ (Ev.bind (v := false) (Ev.neg h (Ev.pure _)) (Ev.pure _)), fun h => by cases h⟩
theorem over_ev (c : api_Config) (p : Progs) (l : List api_Event) (hl : l.length ≤ 1000) (hA : ∀ e ∈ l, e.Answer.Pairs.length ≤ 100000) :
    Ev (fun k => replay_over_v k c p l) (.inl ()) ∨ Ev (fun k => replay_over_v k c p l) (.inr (.inl ())) ∨ (mayB c = true ∧ ∃ x : Run, RI c.Tasks.toNat p l.length x ∧ Ev (fun k => replay_over_v k c p l) (.inr (.inr x))) := by
  obtain ⟨b, hb, hb2⟩ := rMay_ev c p
  unfold replay_over_v
  cases b with
  | false =>
    have h0 : Ev (fun k => replay_begun_v k c p) (.inl ()) := by
      unfold replay_begun_v
      exact Ev.bind hb (Ev.pos rfl (Ev.pure _))
    exact .inl (Ev.bind h0 (Ev.pure _))
  | true =>
    obtain ⟨hm, hp⟩ := hb2 rfl
    have hm2 := hm
    simp only [mayB, Bool.and_eq_true, decide_eq_true_eq] at hm2
    have hT : 1 ≤ c.Tasks ∧ c.Tasks ≤ 6 := by omega
    generalize hx0 : (⟨p, ⟨List.replicate c.Tasks.toNat (⟨0, 0⟩ : event_task), []⟩, newS c, [], List.replicate c.Tasks.toNat (0 : Int)⟩ : Run) = x0
    have hbeg : Ev (fun k => replay_begun_v k c p) (.inr (.inl x0)) := by
      unfold replay_begun_v
      refine Ev.bind hb (Ev.neg (by simp) ?_)
      refine Ev.bind (v := .inr ⟨List.replicate c.Tasks.toNat (⟨0, 0⟩ : event_task), []⟩) (Ev.all fun k => ?_) ?_
      · unfold event_New_v
        rw [if_neg (by simp; omega), if_pos (by omega)]
      · have hnew : Ev (fun k => model_New_v k c) (.inr (newS c)) := ⟨9, fun k hk => by show model_New_v k c = _; rw [New_eq k hk c, hm]; rfl⟩
        refine Ev.bind hnew ?_
        rw [← hx0]
        exact Ev.pos (by omega) (Ev.pure _)
    have RI0 : RI c.Tasks.toNat p 0 x0 := by
      rw [← hx0]
      refine ⟨rfl, ⟨by simp, fun t h => by simp, fun t h => by simp, by simp⟩, by simp, Inv.new c, by simp, (fun d hd => by cases hd), fun u hu h2 => ?_⟩
      have h2 : (rd (List.replicate c.Tasks.toNat (⟨0, 0⟩ : event_task)) (u : Int)).at_ = 2 := h2
      rw [rdN (by simpa using hu)] at h2
      simp at h2
    rcases over_l0 (T := c.Tasks.toNat) (p := p) (by omega) l hl hA l.length 0 x0 (by omega) RI0 with h | ⟨x, hx, h⟩
    · exact .inr (.inl (Ev.bind hbeg (Ev.bind h (Ev.pure _))))
    · exact .inr (.inr ⟨hm, x, hx, Ev.bind hbeg (Ev.bind h (Ev.pure _))⟩)
/-! ### how long -/
theorem imin8 (s : Nat) : 0 ≤ imin (8000 : Int) (s : Int) ∧ imin (8000 : Int) (s : Int) ≤ 8000 ∧ imin (8000 : Int) (s : Int) ≤ (s : Int) := by unfold imin; split <;> omega
theorem long_l0 (l : List api_Event) (hb : l.length ≤ 9223372036854775807) : ∀ (j i : Nat) (n : Int), i + j = l.length → 0 ≤ n → n ≤ 100000 → ∃ r : Int, (∀ k, j < k → ferrymanlaw30_long_l0 l k n (i : Int) = some r) ∧ n ≤ r ∧ r ≤ 100000 ∧ (r < 8000 → ∀ e ∈ l.drop i, e.Answer.Pairs.length ≤ 100000) := by
  intro j
  induction j with
  | zero =>
    intro i n hi h0 h1
    refine ⟨n, fun k hk => ?_, Int.le_refl _, h1, fun _ e he => by rw [List.drop_of_length_le (by omega)] at he; cases he⟩
    obtain ⟨k, rfl⟩ : ∃ k', k = k' + 1 := ⟨k - 1, by omega⟩
    rw [ferrymanlaw30_long_l0.eq_2]
    have : ¬ ((i : Int) < (l.length : Int)) := by omega
    simp [this]
  | succ j ih =>
    intro i n hi h0 h1
    have hlt : i < l.length := by omega
    have h3 : (i : Int) < (l.length : Int) := by omega
    by_cases hn : n < 8000
    · have m1 := imin8 l[i].Answer.Value.length
      have m2 := imin8 l[i].Answer.Pairs.length
      obtain ⟨r, g1, g2, g3, g4⟩ := ih (i + 1) (n + imin 8000 (l[i].Answer.Value.length : Int) + 5 * imin 8000 (l[i].Answer.Pairs.length : Int)) (by omega) (by omega) (by omega)
      refine ⟨r, fun k hk => ?_, by omega, g3, fun hr e he => ?_⟩
      · obtain ⟨k, rfl⟩ : ∃ k', k = k' + 1 := ⟨k - 1, by omega⟩
        rw [ferrymanlaw30_long_l0.eq_2]
        simp only [h3, hn, decide_true, Bool.and_self, if_true, inR hlt, and_self, rdN hlt, wr1 (i := i) (by omega)]
        rw [wr (x := n + imin 8000 (l[i].Answer.Value.length : Int)) (by omega) (by omega), wr (x := 5 * imin 8000 (l[i].Answer.Pairs.length : Int)) (by omega) (by omega), wr (x := n + imin 8000 (l[i].Answer.Value.length : Int) + _) (by omega) (by omega)]
        exact g1 k (by omega)
      · rw [List.drop_eq_getElem_cons hlt] at he
        rcases List.mem_cons.1 he with rfl | he
        · have h5 : imin (8000 : Int) (l[i].Answer.Pairs.length : Int) < 8000 := by omega
          unfold imin at h5
          split at h5 <;> omega
        · exact g4 hr e he
    · refine ⟨n, fun k hk => ?_, Int.le_refl _, h1, fun h => absurd h hn⟩
      obtain ⟨k, rfl⟩ : ∃ k', k = k' + 1 := ⟨k - 1, by omega⟩
      rw [ferrymanlaw30_long_l0.eq_2]
      simp [hn]
theorem long_l5 (p : Progs) (q : Nat) (hq : q < p.length) (hb : p[q].length ≤ 9223372036854775807) : ∀ (j i : Nat) (n : Int), i + j = p[q].length → 0 ≤ n → n ≤ 200000 → ∃ r : Int, (∀ k, j < k → ferrymanlaw30_long_l5 p (q : Int) k n (i : Int) = some r) ∧ n ≤ r ∧ r ≤ 200000 := by
  intro j
  induction j with
  | zero =>
    intro i n hi h0 h1
    refine ⟨n, fun k hk => ?_, Int.le_refl _, h1⟩
    obtain ⟨k, rfl⟩ : ∃ k', k = k' + 1 := ⟨k - 1, by omega⟩
    rw [ferrymanlaw30_long_l5.eq_2, if_pos (inR hq), rdN hq]
    have : ¬ ((i : Int) < (p[q].length : Int)) := by omega
    simp [this]
  | succ j ih =>
    intro i n hi h0 h1
    have hlt : i < p[q].length := by omega
    have h3 : (i : Int) < (p[q].length : Int) := by omega
    by_cases hn : n < 8000
    · have m1 := imin8 p[q][i].Key.length
      have m2 := imin8 p[q][i].End.length
      have m3 := imin8 p[q][i].Value.length
      obtain ⟨r, g1, g2, g3⟩ := ih (i + 1) (n + 5 + imin 8000 (p[q][i].Key.length : Int) + imin 8000 (p[q][i].End.length : Int) + imin 8000 (p[q][i].Value.length : Int)) (by omega) (by omega) (by omega)
      refine ⟨r, fun k hk => ?_, by omega, g3⟩
      obtain ⟨k, rfl⟩ : ∃ k', k = k' + 1 := ⟨k - 1, by omega⟩
      rw [ferrymanlaw30_long_l5.eq_2]
      simp only [h3, hn, decide_true, Bool.and_self, if_true, inR hlt, inR hq, and_self, rdN hlt, rdN hq, wr1 (i := i) (by omega)]
      rw [wr (x := n + 5) (by omega) (by omega), wr (x := n + 5 + _) (by omega) (by omega), wr (x := n + 5 + _ + _) (by omega) (by omega), wr (x := n + 5 + _ + _ + _) (by omega) (by omega)]
      exact g1 k (by omega)
    · refine ⟨n, fun k hk => ?_, Int.le_refl _, h1⟩
      obtain ⟨k, rfl⟩ : ∃ k', k = k' + 1 := ⟨k - 1, by omega⟩
      rw [ferrymanlaw30_long_l5.eq_2, if_pos (inR hq)]
      simp [hn]
theorem long_l3 (p : Progs) (hb : p.length ≤ 9223372036854775807) (hB : ∀ q ∈ p, q.length ≤ 9223372036854775807) : ∀ (j i : Nat) (n : Int), i + j = p.length → 0 ≤ n → n ≤ 200000 → ∃ r : Int, Ev (fun k => ferrymanlaw30_long_l3 p k n (i : Int)) r ∧ n ≤ r := by
  intro j
  induction j with
  | zero =>
    intro i n hi h0 h1
    refine ⟨n, Ev.shift 1 ⟨0, fun k hk => ?_⟩, Int.le_refl _⟩
    show ferrymanlaw30_long_l3 p (k + 1) n (i : Int) = _
    rw [ferrymanlaw30_long_l3.eq_2]
    have : ¬ ((i : Int) < (p.length : Int)) := by omega
    simp [this]
  | succ j ih =>
    intro i n hi h0 h1
    have hlt : i < p.length := by omega
    have h3 : (i : Int) < (p.length : Int) := by omega
    by_cases hn : n < 8000
    · obtain ⟨r, g1, g2, g3⟩ := long_l5 p i hlt (hB _ (List.getElem_mem hlt)) p[i].length 0 (n + 1) (by omega) (by omega) (by omega)
      obtain ⟨s, f1, f2⟩ := ih (i + 1) r (by omega) (by omega) g3
      refine ⟨s, Ev.shift 1 (Ev.congr (g := fun k => _) ?_ (fun k => by rw [ferrymanlaw30_long_l3.eq_2])), by omega⟩
      rw [wr1 (i := i) (by omega), wr (x := n + 1) (by omega) (by omega)]
      refine Ev.pos (by simp [h3, hn]) (Ev.bind (v := r) ⟨p[i].length + 1, fun k hk => g1 k (by omega)⟩ f1)
    · refine ⟨n, Ev.shift 1 ⟨0, fun k hk => ?_⟩, Int.le_refl _⟩
      show ferrymanlaw30_long_l3 p (k + 1) n (i : Int) = _
      rw [ferrymanlaw30_long_l3.eq_2]
      simp [hn]
theorem long_ev (p : Progs) (l : List api_Event) (hp : p.length ≤ 9223372036854775807) (hP : ∀ q ∈ p, q.length ≤ 9223372036854775807) (hl : l.length ≤ 9223372036854775807) :
    ∃ b : Bool, Ev (fun k => ferrymanlaw30_long k p l) b ∧ (b = false → l.length ≤ 300 ∧ ∀ e ∈ l, e.Answer.Pairs.length ≤ 100000) := by
  have hm : 0 ≤ imin (1000 : Int) (l.length : Int) ∧ imin (1000 : Int) (l.length : Int) ≤ 1000 := by unfold imin; split <;> omega
  obtain ⟨r, g1, g2, g3, g4⟩ := long_l0 l hl l.length 0 (30 * imin 1000 (l.length : Int)) (by omega) (by omega) (by omega)
  obtain ⟨s, f1, f2⟩ := long_l3 p hp hP p.length 0 r (by omega) (by omega) (by omega)
  refine ⟨decide (s ≥ 8000), ?_, fun h => ?_⟩
  · unfold ferrymanlaw30_long
    rw [wr (x := 30 * imin 1000 (l.length : Int)) (by omega) (by omega)]
    exact Ev.bind (v := r) ⟨l.length + 1, fun k hk => g1 k (by omega)⟩ (Ev.bind f1 (Ev.pure _))
  · have hs : ¬ s ≥ 8000 := by simpa using h
    have hr : r < 8000 := by omega
    refine ⟨?_, fun e he => g4 hr e (by simpa using he)⟩
    have : 30 * imin (1000 : Int) (l.length : Int) < 8000 := by omega
    unfold imin at this
    split at this <;> omega
/-! ### the sums -/
theorem rests_l0 (D : List replay_Done) (hb : D.length ≤ 100000) : ∀ (j i : Nat), i + j = D.length → (∀ k, j < k → ferrymanlaw30_RoomRests_l0 D k (i : Int) = some (.inl true)) ∨ ((∀ k, j < k → ferrymanlaw30_RoomRests_l0 D k (i : Int) = some (.inr ())) ∧ ∀ d ∈ D.drop i, 0 ≤ d.Back) := by
  intro j
  induction j with
  | zero =>
    intro i hi
    refine .inr ⟨fun k hk => ?_, fun d hd => by rw [List.drop_of_length_le (by omega)] at hd; cases hd⟩
    obtain ⟨k, rfl⟩ : ∃ k', k = k' + 1 := ⟨k - 1, by omega⟩
    rw [ferrymanlaw30_RoomRests_l0.eq_2]
    have : ¬ ((i : Int) < (D.length : Int)) := by omega
    simp [this]
  | succ j ih =>
    intro i hi
    have hlt : i < D.length := by omega
    have h3 : (i : Int) < (D.length : Int) := by omega
    by_cases hc : D[i].Back < 0
    · refine .inl fun k hk => ?_
      obtain ⟨k, rfl⟩ : ∃ k', k = k' + 1 := ⟨k - 1, by omega⟩
      rw [ferrymanlaw30_RoomRests_l0.eq_2]
      simp only [h3, decide_true, if_true, inR hlt, and_self, rdN hlt, hc]
    · rcases ih (i + 1) (by omega) with h | ⟨h, h2⟩
      · refine .inl fun k hk => ?_
        obtain ⟨k, rfl⟩ : ∃ k', k = k' + 1 := ⟨k - 1, by omega⟩
        rw [ferrymanlaw30_RoomRests_l0.eq_2]
        simp only [h3, decide_true, if_true, inR hlt, and_self, rdN hlt, hc, decide_false, Bool.false_eq_true, if_false, wr1 (i := i) (by omega)]
        exact h k (by omega)
      · refine .inr ⟨fun k hk => ?_, fun d hd => ?_⟩
        · obtain ⟨k, rfl⟩ : ∃ k', k = k' + 1 := ⟨k - 1, by omega⟩
          rw [ferrymanlaw30_RoomRests_l0.eq_2]
          simp only [h3, decide_true, if_true, inR hlt, and_self, rdN hlt, hc, decide_false, Bool.false_eq_true, if_false, wr1 (i := i) (by omega)]
          exact h k (by omega)
        · rw [List.drop_eq_getElem_cons hlt] at hd
          rcases List.mem_cons.1 hd with rfl | hd
          · omega
          · exact h2 d hd
theorem Now1_ex (k : Nat) (x : api_Call) (a : Int) (c : api_Config) : ∃ v : Int × Int, ∀ k, room_Now_1 k x a c = some v := by
  by_cases h3 : x.Kind = 3
  · exact ⟨(2, 1), fun k => by simp [room_Now_1, h3]⟩
  by_cases h4 : x.Kind = 4
  · exact ⟨(2, 1), fun k => by simp [room_Now_1, h4]⟩
  by_cases h9 : x.Kind = 9
  · exact ⟨(IntKind.i64.wrap (c.Depth + 1), 0), fun k => by simp [room_Now_1, h9]⟩
  · exact ⟨(a, a), fun k => by simp [room_Now_1, h3, h4, h9]⟩
theorem now_l1 (c : api_Config) (p : Progs) (D : List replay_Done) (hD : D.length ≤ 1000) (hk : ∀ d ∈ D, okCall p d.Task d.Call) (hB : ∀ d ∈ D, 0 ≤ d.Back) (s a : Int) : ∀ (j i : Nat) (n : Nat) (m : Mod), i + j = D.length → Inv n m → n + j ≤ 5000 →
    Ev (fun k => room_Now_l0 c p D k s a (i : Int) m) (s, a) := by
  intro j
  induction j with
  | zero =>
    intro i n m hi I hn
    refine Ev.shift 1 ⟨0, fun k hk => ?_⟩
    show room_Now_l0 c p D (k + 1) s a (i : Int) m = _
    rw [room_Now_l0.eq_2]
    have : ¬ ((i : Int) < (D.length : Int)) := by omega
    simp [this]
  | succ j ih =>
    intro i n m hi I hn
    have hlt : i < D.length := by omega
    have h3 : (i : Int) < (D.length : Int) := by omega
    obtain ⟨t0, t1, c0, c1⟩ := hk _ (List.getElem_mem hlt)
    have hb := hB _ (List.getElem_mem hlt)
    refine Ev.shift 1 (Ev.congr (g := fun k => _) ?_ (fun k => by rw [room_Now_l0.eq_2]))
    rw [wr1 (i := i) (by omega), rdN hlt]
    have I' := I.do_ D[i].Task (rd (rd p D[i].Task) D[i].Call)
    refine Ev.pos (by simpa using h3) ?_
    refine Ev.bind (v := (s, a, (doS m D[i].Task (rd (rd p D[i].Task) D[i].Call)).2)) ?_ (ih (i + 1) (n + 1) _ (by omega) I' (by omega))
    refine Ev.pos (inR hlt) (Ev.pos ⟨t0, t1⟩ (Ev.pos ⟨c0, c1⟩ ?_))
    refine Ev.bind (v := retS m (keysS m)) ((Ret_ev I (by omega)).bind (Ev.pure _)) ?_
    refine Ev.bind (do_ev I (by omega) _ _) ?_
    refine Ev.bind (Ret_ev I' (by omega)) ?_
    obtain ⟨v, hv⟩ := Now1_ex 0 (rd (rd p D[i].Task) D[i].Call) (imax (0 : Int) (IntKind.i64.wrap (retS m (keysS m) - retS (doS m D[i].Task (rd (rd p D[i].Task) D[i].Call)).2 (keysS (doS m D[i].Task (rd (rd p D[i].Task) D[i].Call)).2)))) c
    refine Ev.bind (Ev.all hv) ?_
    exact Ev.bind (v := (s, a)) (Ev.neg (by simp; omega) (Ev.pure _)) (Ev.pure _)
theorem works_at : ferrymanlaw30_works 200 = some true := by decide +kernel
theorem works_ev : Ev (fun k => ferrymanlaw30_works k) true := ⟨200, fun k hk => OLe.up (f := fun k => ferrymanlaw30_works k) (fun k => ferrymanlaw30_works.mono) hk _ works_at⟩
theorem pure_RoomRests (a0 : api_Config) (a1 : (List (List api_Call))) (a2 : (List api_Event)) (_ : wf_api_Config a0) (w1 : (wfSl (wfSl wf_api_Call)) a1) (w2 : (wfSl wf_api_Event) a2) : ∃ k, ferrymanlaw30_RoomRests k a0 a1 a2 = some true := by
  refine Ev.ex (f := fun k => ferrymanlaw30_RoomRests k a0 a1 a2) ?_
  have b1 : a1.length ≤ 9223372036854775807 := Nat.le_trans w1.1 (by decide)
  have b3 : ∀ q ∈ a1, q.length ≤ 9223372036854775807 := fun q hq => Nat.le_trans (w1.2 q hq).1 (by decide)
  have b2 : a2.length ≤ 9223372036854775807 := Nat.le_trans w2.1 (by decide)
  unfold ferrymanlaw30_RoomRests
  refine works_ev.bind ?_
  obtain ⟨x, hx, hx2⟩ := long_ev a1 a2 b1 b3 b2
  refine Ev.bind (v := x) (Ev.neg (by simp) (hx.bind (Ev.pure _))) ?_
  cases x with
  | true => exact Ev.pos rfl (works_ev.bind (Ev.pure _))
  | false =>
    obtain ⟨l1, l2⟩ := hx2 rfl
    refine Ev.neg (by simp) ?_
    have nil0 : Ev (fun k => ferrymanlaw30_RoomRests_l0 [] k 0) (.inr ()) := ⟨1, fun k hk => by
      obtain ⟨k, rfl⟩ : ∃ k', k = k' + 1 := ⟨k - 1, by omega⟩
      show ferrymanlaw30_RoomRests_l0 [] (k + 1) 0 = _
      rw [ferrymanlaw30_RoomRests_l0.eq_2]; rfl⟩
    rcases over_ev a0 a1 a2 (by omega) l2 with ho | ho | ⟨hm, y, R, ho⟩
    · have hA : Ev (fun k => replay_Answers k a0 a1 a2) [] := Ev.bind ho (Ev.pure _)
      have hM : Ev (fun k => replay_Model_v k a0 a1 a2) (.inl ()) := Ev.bind ho (Ev.pure _)
      have hN : Ev (fun k => room_Now k a0 a1 a2) (0, 0, 1) := Ev.bind hM (Ev.pure _)
      exact Ev.bind hA (Ev.bind nil0 (Ev.bind hM (Ev.bind hN ((Ev.pure _).eq (by simp)))))
    · have hA : Ev (fun k => replay_Answers k a0 a1 a2) [] := Ev.bind ho (Ev.pure _)
      have hM : Ev (fun k => replay_Model_v k a0 a1 a2) (.inr (.inl ())) := Ev.bind ho (Ev.pure _)
      have hN : Ev (fun k => room_Now k a0 a1 a2) (0, 0, 4) := Ev.bind hM (Ev.pure _)
      exact Ev.bind hA (Ev.bind nil0 (Ev.bind hM (Ev.bind hN ((Ev.pure _).eq (by simp)))))
    · have hA : Ev (fun k => replay_Answers k a0 a1 a2) y.done := Ev.bind ho (Ev.pure _)
      have hM : Ev (fun k => replay_Model_v k a0 a1 a2) (.inr (.inr y.m)) := Ev.bind ho (Ev.pure _)
      have hdl := R.dl
      rcases rests_l0 y.done (by omega) y.done.length 0 (by omega) with h | ⟨h, h2⟩
      · exact Ev.bind hA (Ev.bind (v := .inl true) ⟨y.done.length + 1, fun k hk => h k (by omega)⟩ (Ev.pure _))
      · refine Ev.bind hA (Ev.bind (v := .inr ()) ⟨y.done.length + 1, fun k hk => h k (by omega)⟩ ?_)
        have hret := Ret_ev R.iv (by omega)
        have hkey : Ev (fun k => model_Model_Keys_POOOO k y.m) (keysS y.m) := ⟨0, fun k _ => Keys_eq R.iv (by omega) k⟩
        have hnow := now_l1 a0 a1 y.done (by omega) (fun d hd => (R.dn d hd).1) (fun d hd => h2 d (by simpa using hd)) (retS y.m (keysS y.m)) ((keysS y.m).length : Int) y.done.length 0 0 (newS a0) (by omega) (Inv.new a0) (by omega)
        have hN : Ev (fun k => room_Now k a0 a1 a2) (retS y.m (keysS y.m), ((keysS y.m).length : Int), 0) := by
          unfold room_Now
          have hnew : Ev (fun k => model_New_v k a0) (.inr (newS a0)) := ⟨9, fun k hk => by show model_New_v k a0 = _; rw [New_eq k hk a0, hm]; rfl⟩
          refine Ev.bind hM (Ev.bind hret (Ev.bind hkey (Ev.bind hnew (Ev.bind hA ?_))))
          exact Ev.bind hnow (Ev.pure _)
        refine Ev.bind hM (Ev.bind hN ?_)
        refine Ev.bind (v := true) (Ev.pos (by simp) (Ev.bind hret ((Ev.pure _).eq (by simp)))) ?_
        refine Ev.bind (v := true) (Ev.pos rfl (Ev.bind hkey ((Ev.pure _).eq (by simp)))) (Ev.pure _)
end Go.Proofs.YtkknoimjgifhlaaDoor
