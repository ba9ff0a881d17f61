/-  The plain law EventLegal. -/
import Derived.Test.YtninegjnkkcepaaPureBase
import Derived.Test.YtninegjnkkcepaaGe1LEventLegal
namespace Go.Proofs.Ytninegjnkkcepaa
open Go Go.RowKit
set_option linter.unusedVariables false
set_option linter.unusedSimpArgs false
/-- Where tasks are behind a legal history. -/
def tabF : List Tk → List Ev → List Tk
  | ts, [] => ts
  | ts, x :: l => tabF (ts.set x.Task.toNat (nextT (rd ts x.Task))) l
theorem tabF_cons (ts : List Tk) (x : Ev) (l : List Ev) : tabF ts (x :: l) = tabF (ts.set x.Task.toNat (nextT (rd ts x.Task))) l := rfl
theorem legalB_cons (ts : List Tk) (x : Ev) (l : List Ev) : legalB ts (x :: l) = (decide (okE ts x) && legalB (ts.set x.Task.toNat (nextT (rd ts x.Task))) l) := rfl
theorem legal_app : ∀ (a b : List Ev) (ts : List Tk), legalB ts (a ++ b) = (legalB ts a && legalB (tabF ts a) b)
  | [], b, ts => by simp [legalB, tabF]
  | x :: a, b, ts => by
    rw [List.cons_append, legalB_cons, legalB_cons, tabF_cons, legal_app a b, Bool.and_assoc]
theorem tab_app : ∀ (a b : List Ev) (ts : List Tk), tabF ts (a ++ b) = tabF (tabF ts a) b
  | [], b, ts => rfl
  | x :: a, b, ts => by
    rw [List.cons_append, tabF_cons, tabF_cons]
    exact tab_app a b _
theorem tab_len : ∀ (a : List Ev) (ts : List Tk), (tabF ts a).length = ts.length
  | [], ts => rfl
  | x :: a, ts => by
    unfold tabF
    rw [tab_len a]; simp
/-- What a recorder has is legal, and its table is told by it. -/
def Good (n : Nat) (r : event_Recorder) : Prop := legalB (List.replicate n ⟨0, 0⟩) r.l = true ∧ r.tasks = tabF (List.replicate n ⟨0, 0⟩) r.l
theorem good_len {n : Nat} {r : event_Recorder} (h : Good n r) : r.tasks.length = n := by rw [h.2, tab_len]; simp
/-- The event that a step puts. -/
def evOf (s : ferrymanlaw06_Step) (ts : List Tk) : Ev := ⟨if s.What = 1 then 1 else if s.What = 2 then 2 else 3, s.Task, (rd ts s.Task).calls, if s.What = 1 ∨ s.What = 2 then ⟨0, false, [], []⟩ else s.Answer⟩
def canDo (s : ferrymanlaw06_Step) (ts : List Tk) : Prop := (0 ≤ s.Task ∧ s.Task < (ts.length : Int)) ∧ (rd ts s.Task).at_ = (if s.What = 1 then 0 else if s.What = 2 then 1 else 2)
instance (s : ferrymanlaw06_Step) (ts : List Tk) : Decidable (canDo s ts) := inferInstanceAs (Decidable (_ ∧ _))
theorem put_cases (r : event_Recorder) (n at_ : Int) (e : Ev) : (putF r n at_ e).1 = 0 ∧ (0 ≤ n ∧ n < (r.tasks.length : Int)) ∧ (rd r.tasks n).at_ = at_ ∧ (putF r n at_ e).2 = ⟨r.tasks.set n.toNat (nextT (rd r.tasks n)), r.l ++ [⟨e.What, n, (rd r.tasks n).calls, e.Answer⟩]⟩ ∨
    (putF r n at_ e).1 ≠ 0 ∧ ¬ ((0 ≤ n ∧ n < (r.tasks.length : Int)) ∧ (rd r.tasks n).at_ = at_) ∧ (putF r n at_ e).2 = r := by
  unfold putF
  by_cases h1 : n < 0 ∨ n ≥ (r.tasks.length : Int)
  · rw [if_pos h1]; exact .inr ⟨by simp, fun h => by omega, rfl⟩
  · rw [if_neg h1]
    by_cases h2 : (rd r.tasks n).at_ ≠ at_
    · rw [if_pos h2]; exact .inr ⟨by simp, fun h => h2 h.2, rfl⟩
    · rw [if_neg h2]; exact .inl ⟨rfl, by omega, by simpa using h2, rfl⟩
theorem do_cases (s : ferrymanlaw06_Step) (r : event_Recorder) : (doF s r).1 = 0 ∧ canDo s r.tasks ∧ (doF s r).2 = ⟨r.tasks.set s.Task.toNat (nextT (rd r.tasks s.Task)), r.l ++ [evOf s r.tasks]⟩ ∨ (doF s r).1 ≠ 0 ∧ ¬ canDo s r.tasks ∧ (doF s r).2 = r := by
  unfold doF canDo evOf
  by_cases h1 : s.What = 1
  · simp only [h1, if_true, true_or]
    rcases put_cases r s.Task 0 ⟨1, 0, 0, ⟨0, false, [], []⟩⟩ with ⟨a, b, c, d⟩ | ⟨a, b, c⟩
    · exact .inl ⟨a, ⟨b, c⟩, d⟩
    · exact .inr ⟨a, b, c⟩
  · by_cases h2 : s.What = 2
    · simp only [h2, if_true, show ¬ ((2 : Int) = 1) by decide, if_false, or_true]
      rcases put_cases r s.Task 1 ⟨2, 0, 0, ⟨0, false, [], []⟩⟩ with ⟨a, b, c, d⟩ | ⟨a, b, c⟩
      · exact .inl ⟨a, ⟨b, c⟩, d⟩
      · exact .inr ⟨a, b, c⟩
    · simp only [h1, h2, if_false, or_self]
      rcases put_cases r s.Task 2 ⟨3, 0, 0, s.Answer⟩ with ⟨a, b, c, d⟩ | ⟨a, b, c⟩
      · exact .inl ⟨a, ⟨b, c⟩, d⟩
      · exact .inr ⟨a, b, c⟩
theorem can_ok {s : ferrymanlaw06_Step} {ts : List Tk} (h : canDo s ts) : okE ts (evOf s ts) := by
  unfold canDo at h
  unfold okE ok1 evOf
  by_cases h1 : s.What = 1
  · simp only [h1, if_true, true_or] at h ⊢
    exact ⟨h.1, by decide, by decide, trivial, fun _ => rfl, h.2⟩
  · by_cases h2 : s.What = 2
    · simp only [h2, if_true, show ¬ ((2 : Int) = 1) by decide, if_false, or_true] at h ⊢
      exact ⟨h.1, by decide, by decide, trivial, fun _ => rfl, h.2⟩
    · simp only [h1, h2, if_false, or_self] at h ⊢
      exact ⟨h.1, by decide, by decide, trivial, fun h => absurd rfl h, h.2⟩
theorem do_good {n : Nat} {s : ferrymanlaw06_Step} {r : event_Recorder} (h : Good n r) : Good n (doF s r).2 := by
  rcases do_cases s r with ⟨_, hc, e⟩ | ⟨_, _, e⟩
  · rw [e]
    have hok := can_ok hc
    constructor
    · show legalB _ (r.l ++ [evOf s r.tasks]) = true
      rw [legal_app, h.1, ← h.2, Bool.true_and]
      unfold legalB
      rw [decide_eq_true hok]; rfl
    · show _ = tabF _ (r.l ++ [evOf s r.tasks])
      rw [tab_app, ← h.2]; rfl
  · rw [e]; exact h
theorem do_len {s : ferrymanlaw06_Step} {r : event_Recorder} : (doF s r).2.l.length ≤ r.l.length + 1 := by
  rcases do_cases s r with ⟨_, hc, e⟩ | ⟨_, _, e⟩
  · rw [e]; simp
  · rw [e]; omega
theorem do_pairs {s : ferrymanlaw06_Step} {r : event_Recorder} (hs : s.Answer.Pairs.length ≤ 3000) (h : ∀ x ∈ r.l, x.Answer.Pairs.length ≤ 3000) : ∀ x ∈ (doF s r).2.l, x.Answer.Pairs.length ≤ 3000 := by
  rcases do_cases s r with ⟨_, hc, e⟩ | ⟨_, _, e⟩
  · rw [e]
    intro x hx
    rcases List.mem_append.1 hx with hx | hx
    · exact h x hx
    · have : x = evOf s r.tasks := by simpa using hx
      subst this
      unfold evOf
      dsimp only
      split
      · simp
      · exact hs
  · rw [e]; exact h
theorem good_new (n : Nat) : Good n ⟨List.replicate n ⟨0, 0⟩, []⟩ := ⟨rfl, rfl⟩
/-! ### What is large -/
theorem large_l0 {k : Nat} {a : List ferrymanlaw06_Step} (hl : a.length ≤ 200) (hk : 20000 ≤ k) : ferrymanlaw06_large_l0 a k [] 0 = some (a.map fun s => (⟨0, 0, 0, s.Answer⟩ : Ev)) := by
  have hrun := loop_run0 (a := a) (fun k i (s : List Ev) => ferrymanlaw06_large_l0 a k s i) (fun i s => s.length = i) (fun x acc => .inl (acc ++ [(⟨0, 0, 0, x.Answer⟩ : Ev)])) id 0 (by omega)
    (fun k s _ _ => by rw [ferrymanlaw06_large_l0.eq_2, if_neg (by simp)]; rfl) (fun k i s hi hI _ => by
      rw [ferrymanlaw06_large_l0.eq_2, if_pos (by simpa using hi), if_pos (inR hi), rdN hi, Option.bind_some, if_pos (by simp only [List.length_cons, List.length_nil]; omega)]
      refine ⟨fun s' hs => ?_, fun r hr => by cases hr⟩
      cases hs
      exact ⟨rfl, by simp [hI]⟩) (k := k) (s := []) (by omega) rfl
  rw [hrun]
  have key : ∀ (l : List ferrymanlaw06_Step) (acc : List Ev), runL (R := List Ev) (fun x acc => .inl (acc ++ [(⟨0, 0, 0, x.Answer⟩ : Ev)])) id l acc = acc ++ l.map fun s => (⟨0, 0, 0, s.Answer⟩ : Ev) := by
    intro l
    induction l with
    | nil => intro acc; simp [runL]
    | cons x l ih => intro acc; show runL _ _ l (acc ++ [_]) = _; rw [ih]; simp
  rw [key]; rfl
def largeB (a : List ferrymanlaw06_Step) : Bool := decide (a.length > 200) || decide (runL wideStep id (a.map fun s => (⟨0, 0, 0, s.Answer⟩ : Ev)) ((a.map fun s => (⟨0, 0, 0, s.Answer⟩ : Ev)).length : Int) ≥ 3000)
theorem large_eq {k : Nat} {a : List ferrymanlaw06_Step} (hl : a.length ≤ 9223372036854775807) (hk : 20000 ≤ k) : ferrymanlaw06_large k a = some (largeB a) := by
  unfold ferrymanlaw06_large largeB
  by_cases h : a.length > 200
  · rw [if_pos (by simp; omega)]; simp [h]
  · rw [if_neg (by simp; omega), large_l0 (by omega) hk, Option.bind_some, wide_eq (by simp; omega) (by simp; omega)]
    simp [h]
theorem large_sm {a : List ferrymanlaw06_Step} (h : largeB a = false) : a.length ≤ 200 ∧ ∀ s ∈ a, s.Answer.Pairs.length ≤ 3000 := by
  unfold largeB at h
  rw [Bool.or_eq_false_iff, decide_eq_false_iff_not, decide_eq_false_iff_not] at h
  obtain ⟨_, h2⟩ := wide_sm h.2
  refine ⟨by omega, fun s hs => ?_⟩
  exact h2.2 ⟨0, 0, 0, s.Answer⟩ (List.mem_map.2 ⟨s, hs, rfl⟩)
theorem runL_const {α σ R : Type} (g : α → σ → σ) (c : R) : ∀ (l : List α) (s : σ), runL (fun x s => .inl (g x s)) (fun _ => c) l s = c
  | [], s => rfl
  | x :: l, s => runL_const g c l (g x s)
theorem legal_l0 {k : Nat} {n : Int} {a : List ferrymanlaw06_Step} (hn : 1 ≤ n ∧ n ≤ 6) (hl : a.length ≤ 200) (hp : ∀ s ∈ a, s.Answer.Pairs.length ≤ 3000) (hk : 30000 ≤ k) {r : event_Recorder} (hg : Good n.toNat r) (h0 : r.l = []) :
    ferrymanlaw06_EventLegal_l0 n a k 0 r.tasks r.l = some (.inr ()) := by
  have hrun := loop_run0 (a := a) (fun k i (r : event_Recorder) => ferrymanlaw06_EventLegal_l0 n a k i r.tasks r.l) (fun i r => Good n.toNat r ∧ r.l.length ≤ i ∧ ∀ x ∈ r.l, x.Answer.Pairs.length ≤ 3000) (fun x r => .inl (doF x r).2) (fun _ => (.inr () : Bool ⊕ Unit)) 20000 (by omega)
    (fun k s _ _ => by rw [ferrymanlaw06_EventLegal_l0.eq_2, if_neg (by simp)]) (fun k i s hi hI hk => by
      refine ⟨fun s' e => ?_, fun r e => by cases e⟩
      cases e
      have hap := hp _ (List.getElem_mem hi)
      have hg' : Good n.toNat (doF a[i] s).2 := do_good hI.1
      have hlen : (doF a[i] s).2.l.length ≤ i + 1 := Nat.le_trans do_len (by omega)
      have hpa := do_pairs (s := a[i]) (r := s) hap hI.2.2
      have hsm : Sm (doF a[i] s).2.l := ⟨by omega, hpa⟩
      rw [ferrymanlaw06_EventLegal_l0.eq_2, if_pos (by simpa using hi), if_pos (inR hi), rdN hi]
      rw [do_eq (r := ⟨s.tasks, s.l⟩) (by show s.l.length ≤ 9000; omega) hap, Option.bind_some, Events_eq (by exact hsm) hk, Option.bind_some, Legal_eq (by exact hsm) hk, Option.bind_some]
      rw [show (doF a[i] (⟨s.tasks, s.l⟩ : event_Recorder)) = doF a[i] s from rfl, hg'.1]
      refine ⟨by simp [hn], hg', hlen, hpa⟩) (k := k) (s := r) (by omega) ⟨hg, by simp [h0], by simp [h0]⟩
  rw [runL_const] at hrun
  exact hrun
def advStep (x : Ev) (s : Bool × event_Recorder) : (Bool × event_Recorder) ⊕ (Bool × List Tk × List Ev) :=
  if s.1 = true then (if 1 ≤ x.What ∧ x.What ≤ 3 then .inl (decide ((doF ⟨x.What, x.Task, x.Answer⟩ s.2).1 = 0), (doF ⟨x.What, x.Task, x.Answer⟩ s.2).2) else .inl (false, s.2)) else .inr (false, s.2.tasks, s.2.l)
def advFin (s : Bool × event_Recorder) : Bool × List Tk × List Ev := (s.1, s.2.tasks, s.2.l)
theorem legal_l1 {k : Nat} {h : List Ev} (hs : Sm h) (hk : 30000 ≤ k) {r : event_Recorder} (h0 : r.l = []) : ferrymanlaw06_EventLegal_l1 h k true 0 r.tasks r.l = some (runL advStep advFin h (true, r)) := by
  have hl := hs.1
  exact loop_run0 (a := h) (fun k i (s : Bool × event_Recorder) => ferrymanlaw06_EventLegal_l1 h k s.1 i s.2.tasks s.2.l) (fun i s => s.2.l.length ≤ i) advStep advFin 20000 (by omega)
    (fun k s _ _ => by rw [ferrymanlaw06_EventLegal_l1.eq_2, if_neg (by simp)]; rfl) (fun k i s hi hI hk => by
      have hap := hs.2 _ (List.getElem_mem hi)
      obtain ⟨b, r⟩ := s
      rw [ferrymanlaw06_EventLegal_l1.eq_2]
      unfold advStep
      cases b
      · rw [if_neg (by simp), if_neg (by simp)]
        exact ⟨fun s' e => (by cases e), fun r e => (by cases e; rfl)⟩
      · rw [if_pos rfl]
        by_cases c : 1 ≤ h[i].What ∧ h[i].What ≤ 3
        · rw [if_pos c, if_pos (by simp [hi]), if_pos (inR hi), rdN hi, if_pos (by simpa using c)]
          generalize h[i] = x at hap c ⊢
          refine ⟨fun s' e => ?_, fun r e => by cases e⟩
          cases e
          rw [do_eq (s := (⟨x.What, x.Task, ⟨x.Answer.Err, x.Answer.Found, x.Answer.Value, x.Answer.Pairs⟩⟩ : ferrymanlaw06_Step)) (r := ⟨r.tasks, r.l⟩) (by show r.l.length ≤ 9000; have : r.l.length ≤ i := hI; omega) hap]
          refine ⟨?_, ?_⟩
          · simp only [Option.bind_some]
            rfl
          · have : r.l.length ≤ i := hI
            exact Nat.le_trans do_len (by omega)
        · rw [if_neg c, if_pos (by simp [hi]), if_pos (inR hi), rdN hi, if_neg (by simpa using c)]
          refine ⟨fun s' e => ?_, fun r e => by cases e⟩
          cases e
          exact ⟨rfl, by have : r.l.length ≤ i := hI; show r.l.length ≤ i + 1; omega⟩) (k := k) (s := (true, r)) (by omega) (by simp [h0])
theorem adv_false (r : event_Recorder) : ∀ h : List Ev, runL advStep advFin h (false, r) = (false, r.tasks, r.l)
  | [] => rfl
  | x :: h => by unfold runL advStep; rfl
theorem ok_can {x : Ev} {ts : List Tk} (h : okE ts x) : (1 ≤ x.What ∧ x.What ≤ 3) ∧ canDo ⟨x.What, x.Task, x.Answer⟩ ts ∧ evOf ⟨x.What, x.Task, x.Answer⟩ ts = x := by
  obtain ⟨hr, h1, h2, h3, h4, h5⟩ := h
  obtain ⟨w, t, c, a⟩ := x
  dsimp only at *
  have : w = 1 ∨ w = 2 ∨ w = 3 := by omega
  rcases this with rfl | rfl | rfl
  · have := h4 (by decide); unfold noth at this; subst this; subst h3
    exact ⟨⟨h1, h2⟩, ⟨hr, by simpa using h5⟩, rfl⟩
  · have := h4 (by decide); unfold noth at this; subst this; subst h3
    exact ⟨⟨h1, h2⟩, ⟨hr, by simpa using h5⟩, rfl⟩
  · subst h3
    exact ⟨⟨h1, h2⟩, ⟨hr, by simpa using h5⟩, rfl⟩
theorem adv_run : ∀ (h : List Ev) (r : event_Recorder), (∀ x ∈ h, x.Answer.Pairs.length ≤ 3000) → ∃ (b : Bool) (ts : List Tk) (zs : List Ev), runL advStep advFin h (true, r) = (b, ts, r.l ++ zs) ∧ zs.length ≤ h.length ∧ (∀ x ∈ zs, x.Answer.Pairs.length ≤ 3000) ∧ ((b = true ∧ zs = h) ↔ legalB r.tasks h = true)
  | [], r, _ => ⟨true, r.tasks, [], by simp [runL, advFin], Nat.le_refl _, by simp, by simp [legalB]⟩
  | x :: h, r, hp => by
    have hx := hp x List.mem_cons_self
    by_cases c : 1 ≤ x.What ∧ x.What ≤ 3
    · rcases do_cases ⟨x.What, x.Task, x.Answer⟩ r with ⟨e0, hc, e⟩ | ⟨e0, hc, e⟩
      · obtain ⟨b, ts, zs, h1, h2, h3, h4⟩ := adv_run h (doF ⟨x.What, x.Task, x.Answer⟩ r).2 (fun y hy => hp y (List.mem_cons_of_mem _ hy))
        refine ⟨b, ts, evOf ⟨x.What, x.Task, x.Answer⟩ r.tasks :: zs, ?_, by simp only [List.length_cons]; omega, ?_, ?_⟩
        · have : advStep x (true, r) = .inl (true, (doF ⟨x.What, x.Task, x.Answer⟩ r).2) := by
            unfold advStep; rw [if_pos rfl, if_pos c, decide_eq_true e0]
          unfold runL
          rw [this]
          show runL advStep advFin h _ = _
          rw [h1, e]
          simp
        · intro y hy
          rcases List.mem_cons.1 hy with rfl | hy
          · unfold evOf
            dsimp only
            split
            · simp
            · exact hx
          · exact h3 y hy
        · rw [legalB_cons, Bool.and_eq_true, decide_eq_true_eq]
          have hts : (doF ⟨x.What, x.Task, x.Answer⟩ r).2.tasks = r.tasks.set x.Task.toNat (nextT (rd r.tasks x.Task)) := by rw [e]
          rw [hts] at h4
          constructor
          · rintro ⟨hb, hz⟩
            have hz' := List.cons.inj hz
            have hok := can_ok hc
            rw [hz'.1] at hok
            exact ⟨hok, h4.1 ⟨hb, hz'.2⟩⟩
          · rintro ⟨hok, hl⟩
            obtain ⟨hb, hz⟩ := h4.2 hl
            exact ⟨hb, by rw [(ok_can hok).2.2, hz]⟩
      · refine ⟨false, r.tasks, [], ?_, by simp, by simp, ?_⟩
        · have : advStep x (true, r) = .inl (false, (doF ⟨x.What, x.Task, x.Answer⟩ r).2) := by
            unfold advStep; rw [if_pos rfl, if_pos c, decide_eq_false e0]
          unfold runL
          rw [this]
          show runL advStep advFin h _ = _
          rw [e, adv_false]; simp
        · rw [legalB_cons, Bool.and_eq_true, decide_eq_true_eq]
          exact ⟨fun hh => (by cases hh.1), fun hh => absurd (ok_can hh.1).2.1 hc⟩
    · refine ⟨false, r.tasks, [], ?_, by simp, by simp, ?_⟩
      · have : advStep x (true, r) = .inl (false, r) := by
          unfold advStep; rw [if_pos rfl, if_neg c]
        unfold runL
        rw [this]
        show runL advStep advFin h _ = _
        rw [adv_false]; simp
      · rw [legalB_cons, Bool.and_eq_true, decide_eq_true_eq]
        exact ⟨fun hh => (by cases hh.1), fun hh => absurd (ok_can hh.1).1 c⟩
theorem pure_EventLegal (a0 : Int) (a1 : (List ferrymanlaw06_Step)) (a2 : (List api_Event)) (_ : (wfInt .i64) a0) (h1 : (wfSl wf_ferrymanlaw06_Step) a1) (h2 : (wfSl wf_api_Event) a2) : ∃ k, ferrymanlaw06_EventLegal k a0 a1 a2 = some true := by
  have hlen1 : a1.length ≤ 9223372036854775807 := Nat.le_trans h1.1 (by decide)
  have hlen : a2.length ≤ 9223372036854775807 := Nat.le_trans h2.1 (by decide)
  refine ⟨a2.length + 40000, ?_⟩
  unfold ferrymanlaw06_EventLegal
  rw [works_up (by omega), large_eq hlen1 (by omega), wide_eq hlen (by omega)]
  cases hla : largeB a1
  · by_cases hw : runL wideStep id a2 (a2.length : Int) ≥ 3000
    · simp [hw]
    · obtain ⟨hl, hs⟩ := wide_sm hw
      obtain ⟨hl1, hp1⟩ := large_sm hla
      rw [New_eq]
      by_cases hn : 1 ≤ a0 ∧ a0 ≤ 6
      · have hg := good_new a0.toNat
        obtain ⟨b, ts, zs, e1, e2, e3, e4⟩ := adv_run a2 ⟨List.replicate a0.toNat ⟨0, 0⟩, []⟩ hs.2
        rw [if_pos hn]
        simp only [Option.bind_some, Bool.not_true, Bool.false_eq_true, if_false, hw, decide_false, Sum.elim_inr]
        rw [legal_l0 hn hl1 hp1 (by omega) hg rfl, legal_l1 hs (by omega) (r := ⟨List.replicate a0.toNat ⟨0, 0⟩, []⟩) rfl, e1, Legal_eq hs (by omega)]
        simp only [Option.bind_some, Sum.elim_inr, List.nil_append, decide_eq_true hn, Bool.true_and] at e4 ⊢
        have hz : Sm zs := ⟨by omega, e3⟩
        cases b
        · have : legalB (List.replicate a0.toNat ⟨0, 0⟩) a2 = false := by
            rw [← Bool.not_eq_true]; exact fun h => by cases (e4.2 h).1
          simp [this]
        · simp only [if_true]
          rw [Events_eq (by exact hz) (by omega), Option.bind_some, Same_eq (by exact hz) (by omega)]
          simp only [Option.bind_some]
          by_cases e : zs = a2
          · have := e4.1 ⟨rfl, e⟩
            simp [this, e]
          · have : legalB (List.replicate a0.toNat ⟨0, 0⟩) a2 = false := by
              rw [← Bool.not_eq_true]; exact fun h => e (e4.2 h).2
            simp [this, e]
      · rw [if_neg hn]
        simp only [Option.bind_some, Bool.not_true, Bool.false_eq_true, if_false, hw, decide_false, Sum.elim_inl]
        rw [Legal_eq hs (by omega)]
        simp [hn]
  · simp
end Go.Proofs.Ytninegjnkkcepaa
