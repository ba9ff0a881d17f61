/-  The plain law EventPlays. -/
import Derived.Test.YtninegjnkkcepaaPureRef06
import Derived.Test.YtninegjnkkcepaaGe4LEventPlays
namespace Go.Proofs.Ytninegjnkkcepaa
open Go Go.RowKit
set_option linter.unusedVariables false
set_option linter.unusedSimpArgs false
/-! ### A step, done -/
theorem put_eqA {k : Nat} {r : event_Recorder} {n at_ : Int} {e : Ev} (hl : r.l.length ≤ 9000) (he : e.Answer.Pairs.length ≤ 3000) : event_Recorder_put_POO_AO k r n at_ e = some (putF r n at_ e) := put_eq hl he
def doF (s : ferrymanlaw06_Step) (r : event_Recorder) : Int × event_Recorder :=
  if s.What = 1 then putF r s.Task 0 ⟨1, 0, 0, ⟨0, false, [], []⟩⟩ else if s.What = 2 then putF r s.Task 1 ⟨2, 0, 0, ⟨0, false, [], []⟩⟩ else putF r s.Task 2 ⟨3, 0, 0, s.Answer⟩
theorem do_eq {k : Nat} {s : ferrymanlaw06_Step} {r : event_Recorder} (hl : r.l.length ≤ 9000) (he : s.Answer.Pairs.length ≤ 3000) : ferrymanlaw06_Step_do_AO_POO k s r = some (doF s r) := by
  unfold ferrymanlaw06_Step_do_AO_POO doF event_Recorder_Invoke_POO event_Recorder_Mark_POO event_Recorder_Return_POO_AO
  rw [put_eq hl (by simp), put_eq hl (by simp), put_eqA hl he]
  by_cases h1 : s.What = 1
  · simp [h1]
  · by_cases h2 : s.What = 2
    · simp [h2]
    · simp [h1, h2]
/-- The event that a step puts. -/
def evOf (s : ferrymanlaw06_Step) (ts : List Tk) : Ev := ⟨if s.What = 1 then 1 else if s.What = 2 then 2 else 3, s.Task, (rd ts s.Task).calls, if s.What = 1 ∨ s.What = 2 then ⟨0, false, [], []⟩ else s.Answer⟩
def canDo (s : ferrymanlaw06_Step) (ts : List Tk) : Prop := (0 ≤ s.Task ∧ s.Task < (ts.length : Int)) ∧ (rd ts s.Task).at_ = (if s.What = 1 then 0 else if s.What = 2 then 1 else 2)
instance (s : ferrymanlaw06_Step) (ts : List Tk) : Decidable (canDo s ts) := inferInstanceAs (Decidable (_ ∧ _))
theorem put_cases (r : event_Recorder) (n at_ : Int) (e : Ev) : (putF r n at_ e).1 = 0 ∧ (0 ≤ n ∧ n < (r.tasks.length : Int)) ∧ (rd r.tasks n).at_ = at_ ∧ (putF r n at_ e).2 = ⟨r.tasks.set n.toNat (nextT (rd r.tasks n)), r.l ++ [⟨e.What, n, (rd r.tasks n).calls, e.Answer⟩]⟩ ∨
    (putF r n at_ e).1 ≠ 0 ∧ ¬ ((0 ≤ n ∧ n < (r.tasks.length : Int)) ∧ (rd r.tasks n).at_ = at_) ∧ (putF r n at_ e).2 = r := by
  unfold putF
  by_cases h1 : n < 0 ∨ n ≥ (r.tasks.length : Int)
  · rw [if_pos h1]; exact .inr ⟨by simp, fun h => by omega, rfl⟩
  · rw [if_neg h1]
    by_cases h2 : (rd r.tasks n).at_ ≠ at_
    · rw [if_pos h2]; exact .inr ⟨by simp, fun h => h2 h.2, rfl⟩
    · rw [if_neg h2]; exact .inl ⟨rfl, by omega, by simpa using h2, rfl⟩
theorem do_cases (s : ferrymanlaw06_Step) (r : event_Recorder) : (doF s r).1 = 0 ∧ canDo s r.tasks ∧ (doF s r).2 = ⟨r.tasks.set s.Task.toNat (nextT (rd r.tasks s.Task)), r.l ++ [evOf s r.tasks]⟩ ∨ (doF s r).1 ≠ 0 ∧ ¬ canDo s r.tasks ∧ (doF s r).2 = r := by
  unfold doF canDo evOf
  by_cases h1 : s.What = 1
  · simp only [h1, if_true, true_or]
    rcases put_cases r s.Task 0 ⟨1, 0, 0, ⟨0, false, [], []⟩⟩ with ⟨a, b, c, d⟩ | ⟨a, b, c⟩
    · exact .inl ⟨a, ⟨b, c⟩, d⟩
    · exact .inr ⟨a, b, c⟩
  · by_cases h2 : s.What = 2
    · simp only [h2, if_true, show ¬ ((2 : Int) = 1) by decide, if_false, or_true]
      rcases put_cases r s.Task 1 ⟨2, 0, 0, ⟨0, false, [], []⟩⟩ with ⟨a, b, c, d⟩ | ⟨a, b, c⟩
      · exact .inl ⟨a, ⟨b, c⟩, d⟩
      · exact .inr ⟨a, b, c⟩
    · simp only [h1, h2, if_false, or_self]
      rcases put_cases r s.Task 2 ⟨3, 0, 0, s.Answer⟩ with ⟨a, b, c, d⟩ | ⟨a, b, c⟩
      · exact .inl ⟨a, ⟨b, c⟩, d⟩
      · exact .inr ⟨a, b, c⟩
theorem can_ok {s : ferrymanlaw06_Step} {ts : List Tk} (h : canDo s ts) : okE ts (evOf s ts) := by
  unfold canDo at h
  unfold okE ok1 evOf
  by_cases h1 : s.What = 1
  · simp only [h1, if_true, true_or] at h ⊢
    exact ⟨h.1, by decide, by decide, trivial, fun _ => rfl, h.2⟩
  · by_cases h2 : s.What = 2
    · simp only [h2, if_true, show ¬ ((2 : Int) = 1) by decide, if_false, or_true] at h ⊢
      exact ⟨h.1, by decide, by decide, trivial, fun _ => rfl, h.2⟩
    · simp only [h1, h2, if_false, or_self] at h ⊢
      exact ⟨h.1, by decide, by decide, trivial, fun h => absurd rfl h, h.2⟩
theorem do_good {n : Nat} {s : ferrymanlaw06_Step} {r : event_Recorder} (h : Good n r) : Good n (doF s r).2 := by
  rcases do_cases s r with ⟨_, hc, e⟩ | ⟨_, _, e⟩
  · rw [e]
    have hok := can_ok hc
    constructor
    · show legalB _ (r.l ++ [evOf s r.tasks]) = true
      rw [legal_app, h.1, ← h.2, Bool.true_and]
      unfold legalB
      rw [decide_eq_true hok]; rfl
    · show _ = tabF _ (r.l ++ [evOf s r.tasks])
      rw [tab_app, ← h.2]; rfl
  · rw [e]; exact h
theorem do_len {s : ferrymanlaw06_Step} {r : event_Recorder} : (doF s r).2.l.length ≤ r.l.length + 1 := by
  rcases do_cases s r with ⟨_, hc, e⟩ | ⟨_, _, e⟩
  · rw [e]; simp
  · rw [e]; omega
theorem do_pairs {s : ferrymanlaw06_Step} {r : event_Recorder} (hs : s.Answer.Pairs.length ≤ 3000) (h : ∀ x ∈ r.l, x.Answer.Pairs.length ≤ 3000) : ∀ x ∈ (doF s r).2.l, x.Answer.Pairs.length ≤ 3000 := by
  rcases do_cases s r with ⟨_, hc, e⟩ | ⟨_, _, e⟩
  · rw [e]
    intro x hx
    rcases List.mem_append.1 hx with hx | hx
    · exact h x hx
    · have : x = evOf s r.tasks := by simpa using hx
      subst this
      unfold evOf
      dsimp only
      split
      · simp
      · exact hs
  · rw [e]; exact h
theorem good_new (n : Nat) : Good n ⟨List.replicate n ⟨0, 0⟩, []⟩ := ⟨rfl, rfl⟩
/-! ### What is large -/
theorem large_l0 {k : Nat} {a : List ferrymanlaw06_Step} (hl : a.length ≤ 200) (hk : 20000 ≤ k) : ferrymanlaw06_large_l0 a k [] 0 = some (a.map fun s => (⟨0, 0, 0, s.Answer⟩ : Ev)) := by
  have hrun := loop_run0 (a := a) (fun k i (s : List Ev) => ferrymanlaw06_large_l0 a k s i) (fun i s => s.length = i) (fun x acc => .inl (acc ++ [(⟨0, 0, 0, x.Answer⟩ : Ev)])) id 0 (by omega)
    (fun k s _ _ => by rw [ferrymanlaw06_large_l0.eq_2, if_neg (by simp)]; rfl) (fun k i s hi hI _ => by
      rw [ferrymanlaw06_large_l0.eq_2, if_pos (by simpa using hi), if_pos (inR hi), rdN hi, Option.bind_some, if_pos (by simp only [List.length_cons, List.length_nil]; omega)]
      refine ⟨fun s' hs => ?_, fun r hr => by cases hr⟩
      cases hs
      exact ⟨rfl, by simp [hI]⟩) (k := k) (s := []) (by omega) rfl
  rw [hrun]
  have key : ∀ (l : List ferrymanlaw06_Step) (acc : List Ev), runL (R := List Ev) (fun x acc => .inl (acc ++ [(⟨0, 0, 0, x.Answer⟩ : Ev)])) id l acc = acc ++ l.map fun s => (⟨0, 0, 0, s.Answer⟩ : Ev) := by
    intro l
    induction l with
    | nil => intro acc; simp [runL]
    | cons x l ih => intro acc; show runL _ _ l (acc ++ [_]) = _; rw [ih]; simp
  rw [key]; rfl
def largeB (a : List ferrymanlaw06_Step) : Bool := decide (a.length > 200) || decide (runL wideStep id (a.map fun s => (⟨0, 0, 0, s.Answer⟩ : Ev)) ((a.map fun s => (⟨0, 0, 0, s.Answer⟩ : Ev)).length : Int) ≥ 3000)
theorem large_eq {k : Nat} {a : List ferrymanlaw06_Step} (hl : a.length ≤ 9223372036854775807) (hk : 20000 ≤ k) : ferrymanlaw06_large k a = some (largeB a) := by
  unfold ferrymanlaw06_large largeB
  by_cases h : a.length > 200
  · rw [if_pos (by simp; omega)]; simp [h]
  · rw [if_neg (by simp; omega), large_l0 (by omega) hk, Option.bind_some, wide_eq (by simp; omega) (by simp; omega)]
    simp [h]
theorem large_sm {a : List ferrymanlaw06_Step} (h : largeB a = false) : a.length ≤ 200 ∧ ∀ s ∈ a, s.Answer.Pairs.length ≤ 3000 := by
  unfold largeB at h
  rw [Bool.or_eq_false_iff, decide_eq_false_iff_not, decide_eq_false_iff_not] at h
  obtain ⟨_, h2⟩ := wide_sm h.2
  refine ⟨by omega, fun s hs => ?_⟩
  exact h2.2 ⟨0, 0, 0, s.Answer⟩ (List.mem_map.2 ⟨s, hs, rfl⟩)
/-! ### What was handed in, what is told, written over -/
theorem spoil_l44 : ∀ (n k i : Nat) (s : List api_Pair), i + n = s.length → n < k → s.length ≤ 9000 → ferrymanlaw06_EventPlays_l44 k (i : Int) s = some ()
  | 0, k, i, s, h, hk, hl => by
    obtain ⟨k, rfl⟩ : ∃ q, k = q + 1 := ⟨k - 1, by omega⟩
    rw [ferrymanlaw06_EventPlays_l44.eq_2, if_neg (by simp; omega)]
  | n + 1, k, i, s, h, hk, hl => by
    obtain ⟨k, rfl⟩ : ∃ q, k = q + 1 := ⟨k - 1, by omega⟩
    rw [ferrymanlaw06_EventPlays_l44.eq_2, if_pos (by simp; omega), if_pos (by omega), Option.bind_some, wr1 (by omega)]
    exact spoil_l44 n k (i + 1) _ (by simp; omega) (by omega) (by simpa using hl)
theorem spoil_l49 {t : List Ev} {q : Nat} (hq : q < t.length) (hp : t[q].Answer.Pairs.length ≤ 9000) : ∀ (n k i : Nat), i + n = t[q].Answer.Pairs.length → n < k → ferrymanlaw06_EventPlays_l49 t (q : Int) k (i : Int) = some ()
  | 0, k, i, h, hk => by
    obtain ⟨k, rfl⟩ : ∃ q, k = q + 1 := ⟨k - 1, by omega⟩
    rw [ferrymanlaw06_EventPlays_l49.eq_2, if_pos (inR hq), rdN hq, if_neg (by simp; omega)]
  | n + 1, k, i, h, hk => by
    obtain ⟨k, rfl⟩ : ∃ q, k = q + 1 := ⟨k - 1, by omega⟩
    rw [ferrymanlaw06_EventPlays_l49.eq_2, if_pos (inR hq), rdN hq, if_pos (by simp; omega), if_pos (inR hq), if_pos (by omega), wr1 (by omega)]
    exact spoil_l49 hq hp n k (i + 1) (by omega) (by omega)
theorem spoil_l47 {t : List Ev} (hs : Sm t) : ∀ (n k i : Nat), i + n = t.length → n + 3000 < k → ferrymanlaw06_EventPlays_l47 t k (i : Int) = some ()
  | 0, k, i, h, hk => by
    obtain ⟨k, rfl⟩ : ∃ q, k = q + 1 := ⟨k - 1, by omega⟩
    rw [ferrymanlaw06_EventPlays_l47.eq_2, if_neg (by simp; omega)]
  | n + 1, k, i, h, hk => by
    obtain ⟨k, rfl⟩ : ∃ q, k = q + 1 := ⟨k - 1, by omega⟩
    have hi : i < t.length := by omega
    have hl := hs.1
    have hp := hs.2 _ (List.getElem_mem hi)
    rw [ferrymanlaw06_EventPlays_l47.eq_2, if_pos (by simpa using hi), if_pos (inR hi), show ferrymanlaw06_EventPlays_l49 t (i : Int) k 0 = some () from spoil_l49 hi (by omega) _ k 0 (Nat.zero_add _) (by omega), Option.bind_some, wr1 (by omega)]
    exact spoil_l47 hs n k (i + 1) (by omega) (by omega)
/-! ### What the document tells -/
theorem ownedA2_eq {k : Nat} {a : List Ev} (ha : Sm a) (hk : 20000 ≤ k) : event_owned_AO k a = some a := by
  unfold event_owned_AO
  have ha1 := ha.1
  have h := loop_run0 (a := a) (fun k i (s : List Ev) => event_owned_AO_l0 a k s i) (fun i s => s.length = i) (fun x acc => .inl (acc ++ [x])) id 0 (by omega)
    (fun k s _ _ => by rw [event_owned_AO_l0.eq_2, if_neg (by simp)]; rfl) (fun k i s hi hI _ => by
      rw [event_owned_AO_l0.eq_2, if_pos (by simpa using hi), if_pos (inR hi), rdN hi, own_eq (ha.2 _ (List.getElem_mem hi)), Option.bind_some, if_pos (by simp only [List.length_cons, List.length_nil]; omega)]
      refine ⟨fun s' hs => ?_, fun r hr => by cases hr⟩
      cases hs
      exact ⟨rfl, by simp [hI]⟩) (k := k) (s := []) (by omega) rfl
  rw [h, runL_app]; rfl
theorem Events2_eq {k : Nat} {r : event_Recorder} (ha : Sm r.l) (hk : 20000 ≤ k) : event_Recorder_Events_POO k r = some r.l := by
  unfold event_Recorder_Events_POO
  rw [ownedA2_eq ha hk]; rfl
def AllW (l : List Ev) : Prop := ∀ x ∈ l, 0 ≤ x.What ∧ x.What ≤ 255
theorem legal_task {n : Nat} {l : List Ev} (h : legalB (List.replicate n ⟨0, 0⟩) l = true) : ∀ x ∈ l, 0 ≤ x.Task ∧ x.Task < (n : Int) := fun x hx => by
  have := (legal_iff _ _).1 h
  simpa using this.1 x hx
theorem good_get {n : Nat} {r : event_Recorder} (hg : Good n r) (hl : r.l.length ≤ 9000) {t : Int} (h0 : 0 ≤ t) (h1 : t < (n : Int)) : rd r.tasks t = stAt (ofT r.l t).length := by
  have hr : rd (List.replicate n (⟨0, 0⟩ : Tk)) t = stAt 0 := by
    have : t.toNat < n := by omega
    simp [rd, List.getD_eq_getElem?_getD, List.getElem?_replicate, this, stAt_zero]
  have := tab_get r.l (List.replicate n ⟨0, 0⟩) t 0 hg.1 h0 (by simpa using h1) hr (by omega)
  rw [← hg.2, Nat.zero_add] at this; exact this
theorem good_out {n : Nat} {r : event_Recorder} (hg : Good n r) {t : Int} (h : t < 0 ∨ t ≥ (n : Int)) : ofT r.l t = [] := by
  unfold ofT
  rw [List.filter_eq_nil_iff]
  intro x hx
  have := legal_task hg.1 x hx
  simp only [decide_eq_true_eq]; omega
/-- The step, of one of three kinds. -/
def norm (s : ferrymanlaw06_Step) : ferrymanlaw06_Step := ⟨if s.What < 1 ∨ s.What > 3 then 3 else s.What, s.Task, s.Answer⟩
theorem norm_cases (s : ferrymanlaw06_Step) : (norm s).What = 1 ∨ (norm s).What = 2 ∨ (norm s).What = 3 := by
  unfold norm
  dsimp only
  split <;> omega
theorem Next_eq {k : Nat} {n : Int} {r : event_Recorder} {s : ferrymanlaw06_Step} (hn : 1 ≤ n ∧ n ≤ 6) (hg : Good n.toNat r) (hs : Sm r.l) (hl : r.l.length ≤ 8000) (hw : AllW r.l) (hp : s.Answer.Pairs.length ≤ 3000) (hk : 40000 ≤ k) (hc : s.What = 1 ∨ s.What = 2 ∨ s.What = 3) :
    ferrymanref06_Next k n r.l s.What s.Task s.Answer = some (if canDo s r.tasks then (r.l ++ [evOf s r.tasks], true) else (r.l, false)) := by
  unfold ferrymanref06_Next
  have hev : ∀ c : Int, (∃ a b d e, (if (s.What != 3) = true then some ((0 : Int), false, ([] : Str), ([] : List api_Pair)) else some (s.Answer.Err, s.Answer.Found, s.Answer.Value, s.Answer.Pairs)) = some (a, b, d, e) ∧ (⟨a, b, d, e⟩ : api_Answer) = if s.What = 1 ∨ s.What = 2 then ⟨0, false, [], []⟩ else s.Answer) := fun _ => by
    rcases hc with h | h | h
    · exact ⟨0, false, [], [], by simp [h], by simp [h]⟩
    · exact ⟨0, false, [], [], by simp [h], by simp [h]⟩
    · exact ⟨s.Answer.Err, s.Answer.Found, s.Answer.Value, s.Answer.Pairs, by simp [h], by simp [h]⟩
  obtain ⟨a, b, d, e, h1, h2⟩ := hev 0
  rw [h1]
  have ho := of_len r.l s.Task
  simp only [Option.bind_some, List.nil_append, List.length_nil, Nat.zero_add]
  rw [if_pos (by omega), of_eq (by omega) (by omega)]
  simp only [Option.bind_some]
  rw [if_pos (by simp only [List.length_cons, List.length_nil]; omega)]
  have e2 : Int.tdiv ((ofT r.l s.Task).length : Int) 3 = (((ofT r.l s.Task).length / 3 : Nat) : Int) := by
    rw [Int.tdiv_eq_ediv_of_nonneg (by omega)]; rfl
  rw [e2, wr (x := (((ofT r.l s.Task).length / 3 : Nat) : Int)) (by omega) (by omega), h2]
  have hWr : (0 ≤ s.What ∧ s.What ≤ 255) := by omega
  have hsm : Sm (r.l ++ [(⟨s.What, s.Task, (((ofT r.l s.Task).length / 3 : Nat) : Int), if s.What = 1 ∨ s.What = 2 then ⟨0, false, [], []⟩ else s.Answer⟩ : Ev)]) := ⟨by simp; omega, fun x hx => by
    rcases List.mem_append.1 hx with hx | hx
    · exact hs.2 x hx
    · rcases List.mem_singleton.1 hx with rfl
      dsimp only
      split
      · simp
      · exact hp⟩
  rw [RLegal_eq hsm (fun x hx => by
    rcases List.mem_append.1 hx with hx | hx
    · exact hw x hx
    · rcases List.mem_singleton.1 hx with rfl
      exact hWr) hk, decide_eq_true hn, Bool.true_and, legal_app, hg.1, ← hg.2, Bool.true_and]
  simp only [legalB, Bool.and_true, Option.bind_some]
  have hlen : (r.tasks.length : Int) = n := by rw [good_len hg]; omega
  have hWe : (if s.What = 1 then (1 : Int) else if s.What = 2 then 2 else 3) = s.What := by
    rcases hc with h | h | h <;> simp [h]
  by_cases hr : 0 ≤ s.Task ∧ s.Task < (r.tasks.length : Int)
  · have hst := good_get hg (by omega) (t := s.Task) hr.1 (by omega)
    have hcl : (rd r.tasks s.Task).calls = (((ofT r.l s.Task).length / 3 : Nat) : Int) := by rw [hst]; rfl
    have hE : (⟨s.What, s.Task, (((ofT r.l s.Task).length / 3 : Nat) : Int), if s.What = 1 ∨ s.What = 2 then ⟨0, false, [], []⟩ else s.Answer⟩ : Ev) = evOf s r.tasks := by
      unfold evOf; rw [hcl, hWe]
    rw [hE]
    by_cases hcd : canDo s r.tasks
    · rw [decide_eq_true (can_ok hcd), if_pos rfl, if_pos hcd]
    · have : ¬ okE r.tasks (evOf s r.tasks) := fun h => hcd (by
        have h5 := h.2.2.2.2.2
        unfold canDo
        refine ⟨hr, ?_⟩
        have h6 : (rd r.tasks (evOf s r.tasks).Task).at_ = (evOf s r.tasks).What - 1 := h5
        have h7 : (evOf s r.tasks).What = s.What := hWe
        rw [h7] at h6
        rw [show (evOf s r.tasks).Task = s.Task from rfl] at h6
        rw [h6]
        rcases hc with h | h | h <;> simp [h])
      rw [decide_eq_false this, if_neg (by simp), if_neg hcd]
  · rw [decide_eq_false (fun h => hr h.1), if_neg (by simp), if_neg (fun h => hr h.1)]
theorem Under_eq {k : Nat} {n : Nat} {r : event_Recorder} {t : Int} (hg : Good n r) (hl : r.l.length ≤ 9000) (hk : 10000 ≤ k) : event_Recorder_Under_POO k r t = ferrymanref06_Under k r.l t := by
  unfold event_Recorder_Under_POO ferrymanref06_Under
  rw [of_eq hl hk]
  have hlen := good_len hg
  have ho := of_len r.l t
  simp only [Option.bind_some]
  by_cases hr : t < 0 ∨ t ≥ (r.tasks.length : Int)
  · rw [if_pos (by simpa using hr), good_out hg (by omega)]
    rfl
  · have h0 : 0 ≤ t ∧ t < (r.tasks.length : Int) := by omega
    have hst := good_get hg hl (t := t) h0.1 (by omega)
    generalize (ofT r.l t).length = m at hst ho
    have e1 : Int.tmod (m : Int) 3 = ((m % 3 : Nat) : Int) := by
      rw [Int.tmod_eq_emod_of_nonneg (by omega)]; rfl
    have e2 : Int.tdiv (m : Int) 3 = ((m / 3 : Nat) : Int) := by
      rw [Int.tdiv_eq_ediv_of_nonneg (by omega)]; rfl
    rw [if_neg (by simpa using hr), if_pos h0, hst, e1, e2, wr (x := ((m / 3 : Nat) : Int)) (by omega) (by omega)]
    simp only [Option.bind_some, stAt, if_pos h0]
/-! ### Step by step -/
theorem do_what {s : ferrymanlaw06_Step} {r : event_Recorder} (h : AllW r.l) : AllW (doF s r).2.l := by
  rcases do_cases s r with ⟨_, hc, e⟩ | ⟨_, _, e⟩
  · rw [e]
    intro x hx
    rcases List.mem_append.1 hx with hx | hx
    · exact h x hx
    · have : x = evOf s r.tasks := by simpa using hx
      subst this
      unfold evOf
      dsimp only
      split
      · omega
      · split <;> omega
  · rw [e]; exact h
theorem do_err {n : Int} {s : ferrymanlaw06_Step} {r : event_Recorder} (hlen : (r.tasks.length : Int) = n) (hc : s.What = 1 ∨ s.What = 2 ∨ s.What = 3) : (doF s r).1 = if s.Task < 0 ∨ s.Task ≥ n then 1 else if canDo s r.tasks then 0 else 7 := by
  have key : ∀ (at_ : Int) (e : Ev), (putF r s.Task at_ e).1 = if s.Task < 0 ∨ s.Task ≥ n then 1 else if (0 ≤ s.Task ∧ s.Task < (r.tasks.length : Int)) ∧ (rd r.tasks s.Task).at_ = at_ then 0 else 7 := fun at_ e => by
    unfold putF
    by_cases h1 : s.Task < 0 ∨ s.Task ≥ n
    · rw [if_pos (by omega), if_pos h1]
    · rw [if_neg (by omega), if_neg h1]
      by_cases h2 : (rd r.tasks s.Task).at_ = at_
      · rw [if_neg (by simpa using h2), if_pos ⟨by omega, h2⟩]
      · rw [if_pos h2, if_neg (fun h => h2 h.2)]
  unfold doF canDo
  rcases hc with h | h | h
  · simp only [h, if_true]; exact key _ _
  · simp only [h, show ¬ ((2 : Int) = 1) by decide, if_false, if_true]; exact key _ _
  · simp only [h, show ¬ ((3 : Int) = 1) by decide, show ¬ ((3 : Int) = 2) by decide, if_false]; exact key _ _
theorem plays_run {k : Nat} {n : Int} {a : List ferrymanlaw06_Step} (hn : 1 ≤ n ∧ n ≤ 6) (hl : a.length ≤ 200) (hp : ∀ s ∈ a, s.Answer.Pairs.length ≤ 3000) (hk : 60000 ≤ k) {r : event_Recorder} (hg : Good n.toNat r) (h0 : r.l = []) :
    ferrymanlaw06_EventPlays_l37 n a k r.l 0 r.tasks r.l = some (.inr ()) := by
  have hrun := loop_run0 (a := a) (fun k i (r : event_Recorder) => ferrymanlaw06_EventPlays_l37 n a k r.l i r.tasks r.l) (fun i r => Good n.toNat r ∧ r.l.length ≤ i ∧ (∀ x ∈ r.l, x.Answer.Pairs.length ≤ 3000) ∧ AllW r.l) (fun x r => .inl (doF (norm x) r).2) (fun _ => (.inr () : Bool ⊕ Unit)) 50000 (by omega)
    (fun k s _ _ => by rw [ferrymanlaw06_EventPlays_l37.eq_2, if_neg (by simp)]) (fun k i s hi hI hk => by
      refine ⟨fun s' e => ?_, fun r e => by cases e⟩
      cases e
      obtain ⟨hg, hil, hpr, hw⟩ := hI
      have hap := hp _ (List.getElem_mem hi)
      rw [ferrymanlaw06_EventPlays_l37.eq_2, if_pos (by simpa using hi), if_pos (inR hi), rdN hi]
      generalize a[i] = x at hap ⊢
      have hapn : (norm x).Answer.Pairs.length ≤ 3000 := hap
      have hg' : Good n.toNat (doF (norm x) s).2 := do_good hg
      have hlen' : (doF (norm x) s).2.l.length ≤ i + 1 := Nat.le_trans do_len (by omega)
      have hpa := do_pairs (s := norm x) (r := s) hapn hpr
      have hwa : AllW (doF (norm x) s).2.l := do_what hw
      have hsm : Sm (doF (norm x) s).2.l := ⟨by omega, hpa⟩
      have hc := norm_cases x
      have hlen : (s.tasks.length : Int) = n := by rw [good_len hg]; omega
      have hW : (if (decide (x.What < 1) || decide (x.What > 3)) = true then some (3 : Int) else some x.What) = some (norm x).What := by
        unfold norm
        by_cases h : x.What < 1 ∨ x.What > 3
        · rw [if_pos (by simpa using h), if_pos h]
        · rw [if_neg (by simpa using h), if_neg h]
      rw [hW]
      simp only [Option.bind_some, List.nil_append, List.length_nil, Nat.zero_add]
      rw [if_pos (by omega)]
      rw [do_eq (s := (⟨(norm x).What, x.Task, ⟨x.Answer.Err, x.Answer.Found, x.Answer.Value, x.Answer.Pairs⟩⟩ : ferrymanlaw06_Step)) (r := ⟨s.tasks, s.l⟩) (by show s.l.length ≤ 9000; omega) hap, Option.bind_some]
      have h44 := spoil_l44 _ k 0 x.Answer.Pairs (Nat.zero_add _) (by omega) (by omega)
      rw [show ((0 : Nat) : Int) = 0 from rfl] at h44
      rw [h44, Option.bind_some]
      have hN := Next_eq (s := norm x) hn hg ⟨by omega, hpr⟩ (by omega) hw hapn (by omega : 40000 ≤ k) hc
      rw [show (norm x).Task = x.Task from rfl, show (norm x).Answer = x.Answer from rfl] at hN
      rw [hN, Option.bind_some]
      have hd : (doF (⟨(norm x).What, x.Task, ⟨x.Answer.Err, x.Answer.Found, x.Answer.Value, x.Answer.Pairs⟩⟩ : ferrymanlaw06_Step) (⟨s.tasks, s.l⟩ : event_Recorder)) = doF (norm x) s := rfl
      rw [hd]
      have hx' : (if canDo (norm x) s.tasks then (s.l ++ [evOf (norm x) s.tasks], true) else (s.l, false)) = ((doF (norm x) s).2.l, decide (canDo (norm x) s.tasks)) := by
        rcases do_cases (norm x) s with ⟨_, h1, h2⟩ | ⟨_, h1, h2⟩
        · rw [if_pos h1, h2, decide_eq_true h1]
        · rw [if_neg h1, h2, decide_eq_false h1]
      rw [hx']
      have hwant : (if (decide (x.Task < (0 : Int)) || decide (x.Task ≥ n)) = true then some (1 : Int) else (if (!decide (canDo (norm x) s.tasks)) = true then some (7 : Int) else some 0).bind fun y => some y) = some (doF (norm x) s).1 := by
        rw [do_err hlen hc]
        by_cases h1 : x.Task < 0 ∨ x.Task ≥ n
        · rw [if_pos (by simpa using h1), if_pos (show (norm x).Task < 0 ∨ (norm x).Task ≥ n from h1)]
        · rw [if_neg (by simpa using h1), if_neg (show ¬ ((norm x).Task < 0 ∨ (norm x).Task ≥ n) from h1)]
          by_cases h2 : canDo (norm x) s.tasks
          · simp [h2]
          · simp [h2]
      dsimp only
      rw [hwant]
      simp only [Option.bind_some]
      rw [if_neg (by simp), Events2_eq (by exact hsm) (by omega)]
      simp only [Option.bind_some]
      rw [RSame_eq hsm (by omega)]
      simp only [Option.bind_some, decide_true, Bool.not_true, Bool.false_eq_true, if_false]
      rw [Under_eq hg' (by omega) (by omega)]
      have hU : ∃ u, ferrymanref06_Under k (doF (norm x) s).2.l x.Task = some u := by
        unfold ferrymanref06_Under
        rw [of_eq (by omega) (by omega), Option.bind_some]
        split <;> exact ⟨_, rfl⟩
      obtain ⟨u, hu⟩ := hU
      rw [hu]
      simp only [Option.bind_some, bne_self_eq_false, BEq.rfl, Bool.not_true, Bool.or_self, Bool.false_eq_true, if_false]
      have h47 := spoil_l47 hsm _ k 0 (Nat.zero_add _) (by omega)
      rw [show ((0 : Nat) : Int) = 0 from rfl] at h47
      rw [h47]
      exact ⟨rfl, hg', hlen', hpa, hwa⟩) (k := k) (s := r) (by omega) ⟨hg, by simp [h0], by simp [h0], by intro x hx; simp [h0] at hx⟩
  have hc : ∀ (l : List ferrymanlaw06_Step) (s : event_Recorder), runL (fun x r => .inl (doF (norm x) r).2) (fun _ => (.inr () : Bool ⊕ Unit)) l s = .inr () := by
    intro l
    induction l with
    | nil => intro s; rfl
    | cons x l ih => intro s; exact ih _
  rw [hc] at hrun
  exact hrun
theorem pure_EventPlays (a0 : Int) (a1 : (List ferrymanlaw06_Step)) (_ : (wfInt .i64) a0) (h1 : (wfSl wf_ferrymanlaw06_Step) a1) : ∃ k, ferrymanlaw06_EventPlays k a0 a1 = some true := by
  have hlen1 : a1.length ≤ 9223372036854775807 := Nat.le_trans h1.1 (by decide)
  refine ⟨80000, ?_⟩
  unfold ferrymanlaw06_EventPlays
  rw [large_eq hlen1 (by omega), Option.bind_some]
  cases hla : largeB a1
  · obtain ⟨hl1, hp1⟩ := large_sm hla
    have hsm0 : Sm ([] : List Ev) := ⟨by simp, by simp⟩
    rw [if_neg (by simp), New_eq, RLegal_eq hsm0 (by simp) (by omega), works_up (by omega)]
    by_cases hn : 1 ≤ a0 ∧ a0 ≤ 6
    · rw [if_pos hn, decide_eq_true hn]
      simp only [Option.bind_some, Sum.elim_inr, legalB, Bool.and_true]
      rw [if_neg (by simp)]
      have hr := plays_run (a := a1) hn hl1 hp1 (by omega : 60000 ≤ 80000) (good_new a0.toNat) rfl
      have hr' : ferrymanlaw06_EventPlays_l37 a0 a1 80000 ([] : List api_Event) 0 (List.replicate a0.toNat ⟨0, 0⟩) ([] : List api_Event) = some (.inr ()) := hr
      rw [hr']; rfl
    · rw [if_neg hn, decide_eq_false hn]
      simp
  · rw [if_pos rfl, works_up (by omega)]; rfl
end Go.Proofs.Ytninegjnkkcepaa
