/-  The document's functions of layer 6, in closed form. -/
import Derived.Test.YtninegjnkkcepaaPureLeg
namespace Go.Proofs.Ytninegjnkkcepaa
open Go Go.RowKit
set_option linter.unusedVariables false
set_option linter.unusedSimpArgs false
/-! ### A task's events -/
abbrev ofT (l : List Ev) (t : Int) : List Ev := l.filter fun x => decide (x.Task = t)
theorem runL_filter {α R : Type} (p : α → Bool) (f : List α → R) : ∀ (a acc : List α), runL (fun x acc => .inl (if p x = true then acc ++ [x] else acc)) f a acc = f (acc ++ a.filter p)
  | [], acc => by simp [runL]
  | x :: a, acc => by
    show runL _ f a _ = _
    rw [runL_filter p f a]
    cases h : p x <;> simp [h]
theorem of_eq {k : Nat} {a : List Ev} {t : Int} (ha : a.length ≤ 9000) (hk : 10000 ≤ k) : ferrymanref06_of k a t = some (ofT a t) := by
  unfold ferrymanref06_of
  have h := loop_run0 (a := a) (fun k i (s : List Ev) => ferrymanref06_of_l0 a t k s i) (fun i s => s.length ≤ i) (fun x acc => .inl (if decide (x.Task = t) = true then acc ++ [x] else acc)) id 0 (by omega)
    (fun k s _ _ => by rw [ferrymanref06_of_l0.eq_2, if_neg (by simp)]; rfl) (fun k i s hi hI _ => by
      refine ⟨fun s' hs => ?_, fun r hr => by cases hr⟩
      cases hs
      rw [ferrymanref06_of_l0.eq_2, if_pos (by simpa using hi), if_pos (inR hi), rdN hi]
      by_cases e : a[i].Task = t
      · rw [if_pos (by simpa using e), if_pos (inR hi), if_pos (by simp only [List.length_cons, List.length_nil]; omega), if_pos (by simpa using e)]
        refine ⟨rfl, by simp only [List.length_append, List.length_cons, List.length_nil]; omega⟩
      · rw [if_neg (by simpa using e), if_neg (by simpa using e)]
        exact ⟨rfl, by omega⟩) (k := k) (s := []) (by omega) (Nat.le_refl _)
  rw [h, runL_filter]; rfl
/-! ### Whether answers, and histories, are the same -/
theorem AnsP_eq {k : Nat} {a b : api_Answer} (ha : a.Pairs.length ≤ 3000) (hk : 4000 ≤ k) (hl : a.Pairs.length = b.Pairs.length) : ferrymanref06_Answers_l0 a b k 0 = some (if a.Pairs = b.Pairs then .inr () else .inl false) := by
  have h := loop_run0 (a := a.Pairs) (fun k i (s : List api_Pair) => ferrymanref06_Answers_l0 a b k i) (fun i s => s = b.Pairs.drop i) (K0 := 0) (ha := by omega)
      (step := eqStep) (fin := fun _ => (Sum.inr () : Bool ⊕ Unit))
      (fun k s _ _ => by rw [ferrymanref06_Answers_l0.eq_2, if_neg (by simp)]) (fun k i s hi hI _ => by
        subst hI
        have hi' : i < b.Pairs.length := by omega
        rw [ferrymanref06_Answers_l0.eq_2, if_pos (by simpa using hi), if_pos (inR hi), if_pos (inR hi'), rdN hi, rdN hi', eqP, List.drop_eq_getElem_cons hi']
        by_cases e : a.Pairs[i] = b.Pairs[i]
        · simp [e, eqStep]
        · simp [e, eqStep]) (k := k) (s := b.Pairs) (by omega) rfl
  rw [h, runL_eqs a.Pairs b.Pairs hl]
theorem Ans_eq {k : Nat} {a b : api_Answer} (ha : a.Pairs.length ≤ 3000) (hk : 4000 ≤ k) : ferrymanref06_Answers k a b = some (decide (a = b)) := by
  unfold ferrymanref06_Answers
  by_cases hc : a.Err = b.Err ∧ a.Found = b.Found ∧ a.Value = b.Value ∧ a.Pairs.length = b.Pairs.length
  · obtain ⟨h1, h2, h3, h4⟩ := hc
    rw [if_neg (by simp [sbin, h1, h2, h3, h4]), AnsP_eq ha hk h4]
    obtain ⟨a1, a2, a3, a4⟩ := a
    obtain ⟨b1, b2, b3, b4⟩ := b
    dsimp only at *
    subst h1 h2 h3
    by_cases e : a4 = b4 <;> simp [e]
  · rw [if_pos (by
      simp only [sbin, Bool.or_eq_true, bne_iff_ne, ne_eq, Bool.not_eq_true', beq_eq_false_iff_ne]
      by_cases h1 : a.Err = b.Err
      · by_cases h2 : a.Found = b.Found
        · by_cases h3 : a.Value = b.Value
          · right; intro h4; exact hc ⟨h1, h2, h3, by omega⟩
          · left; right; simpa using h3
        · left; left; right; exact h2
      · left; left; left; exact h1)]
    have : a ≠ b := fun e => hc (by subst e; exact ⟨rfl, rfl, rfl, rfl⟩)
    simp [this]
theorem RSame_eq {k : Nat} {a b : List Ev} (ha : Sm a) (hk : 20000 ≤ k) : ferrymanref06_Same k a b = some (decide (a = b)) := by
  unfold ferrymanref06_Same
  have ha1 := ha.1
  by_cases hl : a.length = b.length
  · have h := loop_run0 (a := a) (fun k i (s : List Ev) => ferrymanref06_Same_l0 a b k i) (fun i s => s = b.drop i) (K0 := 4000) (ha := by omega)
      (step := eqStep) (fin := fun _ => (Sum.inr () : Bool ⊕ Unit))
      (fun k s _ _ => by rw [ferrymanref06_Same_l0.eq_2, if_neg (by simp)]) (fun k i s hi hI hk => by
        subst hI
        have hi' : i < b.length := by omega
        have hap := ha.2 _ (List.getElem_mem hi)
        rw [ferrymanref06_Same_l0.eq_2, if_pos (by simpa using hi), if_pos (inR hi), if_pos (inR hi'), rdN hi, rdN hi', List.drop_eq_getElem_cons hi']
        generalize a[i] = x at hap ⊢
        generalize b[i] = y
        rw [Ans_eq hap hk]
        simp only [if_pos (inR hi), if_pos (inR hi'), Option.bind_some]
        obtain ⟨x1, x2, x3, x4⟩ := x
        obtain ⟨y1, y2, y3, y4⟩ := y
        by_cases h1 : x1 = y1
        · by_cases h2 : x2 = y2
          · by_cases h3 : x3 = y3
            · by_cases h4 : x4 = y4
              · simp [h1, h2, h3, h4, eqStep]
              · simp [h1, h2, h3, h4, eqStep]
            · simp [h1, h2, h3, eqStep]
          · simp [h1, h2, eqStep]
        · simp [h1, eqStep]) (k := k) (s := b) (by omega) rfl
    rw [if_neg (by simp [hl]), h, runL_eqs a b hl]
    by_cases e : a = b <;> simp [e]
  · rw [if_pos (by simp; omega)]
    have : a ≠ b := fun e => hl (by rw [e])
    simp [this]
/-! ### What a task is at, by how many events it has -/
def stAt (n : Nat) : Tk := ⟨((n % 3 : Nat) : Int), ((n / 3 : Nat) : Int)⟩
theorem next_stAt {n : Nat} (hn : n ≤ 1000000) : nextT (stAt n) = stAt (n + 1) := by
  unfold nextT stAt
  have h3 : n % 3 < 3 := Nat.mod_lt _ (by decide)
  rw [wr (x := ((n % 3 : Nat) : Int) + 1) (by omega) (by omega)]
  by_cases h : ((n % 3 : Nat) : Int) + 1 > 2
  · rw [if_pos h]
    have e1 : (n + 1) % 3 = 0 := by omega
    have e2 : (n + 1) / 3 = n / 3 + 1 := by omega
    rw [e1, e2, wr (x := ((n / 3 : Nat) : Int) + 1) (by omega) (by omega)]; rfl
  · rw [if_neg h]
    have e1 : (n + 1) % 3 = n % 3 + 1 := by omega
    have e2 : (n + 1) / 3 = n / 3 := by omega
    rw [e1, e2]; rfl
theorem stAt_zero : stAt 0 = ⟨0, 0⟩ := rfl
theorem tab_get : ∀ (l : List Ev) (ts : List Tk) (t : Int) (n : Nat), legalB ts l = true → 0 ≤ t → t < (ts.length : Int) → rd ts t = stAt n → n + l.length ≤ 1000000 → rd (tabF ts l) t = stAt (n + (ofT l t).length)
  | [], ts, t, n, _, _, _, h, _ => by simpa [tabF] using h
  | x :: l, ts, t, n, hl, h0, h1, h, hn => by
    rw [legalB] at hl
    rw [Bool.and_eq_true, decide_eq_true_eq] at hl
    obtain ⟨⟨hr, _⟩, hl⟩ := hl
    show rd (tabF (ts.set x.Task.toNat (nextT (rd ts x.Task))) l) t = _
    simp only [List.length_cons] at hn
    by_cases e : x.Task = t
    · subst e
      rw [tab_get l _ x.Task (n + 1) hl h0 (by simpa using h1) (by rw [rd_set h0 h1, h, next_stAt (by omega)]) (by omega)]
      unfold ofT
      rw [List.filter_cons_of_pos (by simp), List.length_cons]
      congr 1; omega
    · rw [tab_get l _ t n hl h0 (by simpa using h1) (by rw [rd_set_ne hr.1 h0 e, h]) (by omega)]
      unfold ofT
      rw [List.filter_cons_of_neg (by simpa using e)]
/-! ### Whether a history is legal -/
/-- What the document asks of a task's event at a place. -/
def rk (j : Nat) (x : Ev) : Bool := decide (x.What = 1 + ((j % 3 : Nat) : Int)) && decide (x.Call = ((j / 3 : Nat) : Int)) && (decide (j % 3 = 2) || decide (noth x.Answer))
def rkAll : Nat → List Ev → Bool
  | _, [] => true
  | j, x :: l => rk j x && rkAll (j + 1) l
theorem rk_ok {j : Nat} {x : Ev} : rk j x = decide (ok1 (stAt j) x) := by
  rw [Bool.eq_iff_iff, decide_eq_true_eq]
  unfold rk ok1 stAt
  simp only [Bool.and_eq_true, Bool.or_eq_true, decide_eq_true_eq]
  have h3 : j % 3 < 3 := Nat.mod_lt _ (by decide)
  constructor
  · rintro ⟨⟨h1, h2⟩, h4⟩
    refine ⟨by omega, by omega, h2, fun hw => ?_, by omega⟩
    rcases h4 with h4 | h4
    · omega
    · exact h4
  · rintro ⟨h1, h2, h3', h4, h5⟩
    refine ⟨⟨by omega, h3'⟩, ?_⟩
    by_cases e : j % 3 = 2
    · exact .inl e
    · exact .inr (h4 (by omega))
theorem rk_leg : ∀ (l : List Ev) (j : Nat), j + l.length ≤ 1000000 → rkAll j l = leg1 (stAt j) l
  | [], j, _ => rfl
  | x :: l, j, h => by
    simp only [List.length_cons] at h
    unfold rkAll leg1
    rw [rk_ok, next_stAt (by omega), rk_leg l (j + 1) (by omega)]
theorem rk_case {A B : Int} {x : Ev} {Z : Option (Bool ⊕ Unit)} (b : Bool) (hb : (decide (x.What = 1 + A) && decide (x.Call = B) && (decide (A = 2) || decide (noth x.Answer))) = b) :
    (Option.bind (α := Bool) (if (x.What != 1 + A) = true then some true else some (x.Call != B)) fun y => Option.bind (α := Bool) (if y = true then some true else Option.bind (α := Bool) (if (A != 2) = true then some (!decide (x.Answer = (⟨0, false, [], []⟩ : api_Answer))) else some false) fun z => some z) fun z => if z = true then some (.inl false) else Z) = if b = true then Z else some (.inl false) := by
  subst hb
  by_cases c1 : x.What = 1 + A
  · by_cases c2 : x.Call = B
    · by_cases c3 : A = 2
      · simp [c1, c2, c3]
      · by_cases c4 : noth x.Answer
        · have c4' : x.Answer = (⟨0, false, [], []⟩ : api_Answer) := c4
          have c5 : noth (⟨0, false, [], []⟩ : api_Answer) := rfl
          simp [c1, c2, c3, c4', c5]
        · have c4' : ¬ x.Answer = (⟨0, false, [], []⟩ : api_Answer) := c4
          simp [c1, c2, c3, c4, c4']
    · simp [c1, c2]
  · simp [c1]
def rkStep (x : Ev) (j : Nat) : Nat ⊕ (Bool ⊕ Unit) := if rk j x = true then .inl (j + 1) else .inr (.inl false)
theorem runL_rk : ∀ (l : List Ev) (j : Nat), runL rkStep (fun _ => (.inr () : Bool ⊕ Unit)) l j = if rkAll j l = true then .inr () else .inl false
  | [], j => rfl
  | x :: l, j => by
    unfold runL rkStep rkAll
    cases h : rk j x
    · simp
    · simp only [if_true, Bool.true_and]
      exact runL_rk l (j + 1)
theorem Leg4_eq {k : Nat} {l : List Ev} (hl : l.length ≤ 9000) (hp : ∀ x ∈ l, x.Answer.Pairs.length ≤ 3000 ∧ 0 ≤ x.What ∧ x.What ≤ 255) (hk : 20000 ≤ k) : ferrymanref06_Legal_l4 l k 0 = some (if rkAll 0 l = true then .inr () else .inl false) := by
  have h := loop_run0 (a := l) (fun k i (j : Nat) => ferrymanref06_Legal_l4 l k i) (fun i j => j = i) (K0 := 4000) (ha := by omega)
    (step := rkStep) (fin := fun _ => (Sum.inr () : Bool ⊕ Unit))
    (fun k s _ _ => by rw [ferrymanref06_Legal_l4.eq_2, if_neg (by simp)]) (fun k i j hi hI hk => by
      subst hI
      obtain ⟨hap, hw0, hw1⟩ := hp _ (List.getElem_mem hi)
      rw [ferrymanref06_Legal_l4.eq_2, if_pos (by simpa using hi), if_pos (inR hi), rdN hi]
      generalize l[j] = x at hap hw0 hw1 ⊢
      have e1 : Int.tmod (j : Int) 3 = ((j % 3 : Nat) : Int) := by
        rw [Int.tmod_eq_emod_of_nonneg (by omega)]; rfl
      have e2 : Int.tdiv (j : Int) 3 = ((j / 3 : Nat) : Int) := by
        rw [Int.tdiv_eq_ediv_of_nonneg (by omega)]; rfl
      have h3 : j % 3 < 3 := Nat.mod_lt _ (by decide)
      rw [Ans_eq hap hk, e1, e2, wr (x := x.What) (by omega) (by omega), wr (x := 1 + ((j % 3 : Nat) : Int)) (by omega) (by omega), wr (x := ((j / 3 : Nat) : Int)) (by omega) (by omega)]
      simp only [if_pos (inR hi), Option.bind_some]
      have hA3 : j % 3 = 2 ↔ ((j % 3 : Nat) : Int) = 2 := by omega
      rw [rk_case (rk j x) (by unfold rk; rw [decide_eq_decide.2 hA3])]
      unfold rkStep
      cases rk j x
      · exact ⟨fun s' h => (by cases h), fun r h => (by cases h; rfl)⟩
      · exact ⟨fun s' h => (by cases h; exact ⟨rfl, rfl⟩), fun r h => (by cases h)⟩) (k := k) (s := 0) (by omega) rfl
  rw [h, runL_rk]
/-- Of the tasks from t on: how many events they have, or that one's are not right. -/
def legT (l : List Ev) : Nat → Nat → Option Nat
  | 0, _ => some 0
  | n + 1, t => if rkAll 0 (ofT l (t : Int)) = true then (legT l n (t + 1)).map (fun m => (ofT l (t : Int)).length + m) else none
theorem of_len (l : List Ev) (t : Int) : (ofT l t).length ≤ l.length := List.length_filter_le _ _
theorem Leg2_eq {l : List Ev} (hs : Sm l) (hw : ∀ x ∈ l, 0 ≤ x.What ∧ x.What ≤ 255) {a : Int} (ha6 : a ≤ 6) : ∀ (n t : Nat) (m : Int) (k : Nat), (t : Int) + n = a → n ≤ 6 → 30000 + n < k → 0 ≤ m → m + n * 9000 ≤ 90000 →
    ferrymanref06_Legal_l2 a l k m (t : Int) = some (match legT l n t with | some q => .inr (m + q) | none => .inl false)
  | 0, t, m, k, ha, hn, hk, h0, h1 => by
    obtain ⟨k, rfl⟩ : ∃ q, k = q + 1 := ⟨k - 1, by omega⟩
    rw [ferrymanref06_Legal_l2.eq_2, if_neg (by simp; omega)]
    simp [legT]
  | n + 1, t, m, k, ha, hn, hk, h0, h1 => by
    obtain ⟨k, rfl⟩ : ∃ q, k = q + 1 := ⟨k - 1, by omega⟩
    have hl := hs.1
    have ho := of_len l (t : Int)
    rw [ferrymanref06_Legal_l2.eq_2, if_pos (by simp; omega), of_eq hs.1 (by omega), Option.bind_some, Leg4_eq (by omega) (fun x hx => by
      have := (List.mem_filter.1 hx).1
      exact ⟨hs.2 x this, hw x this⟩) (by omega)]
    unfold legT
    cases h : rkAll 0 (ofT l (t : Int))
    · simp
    · simp only [if_true, Option.bind_some, Sum.elim_inr]
      rw [wr (x := m + ((ofT l (t : Int)).length : Int)) (by omega) (by omega), wr1 (by omega), Leg2_eq hs hw ha6 n (t + 1) _ k (by omega) (by omega) (by omega) (by omega) (by omega)]
      cases legT l n (t + 1) with
      | none => rfl
      | some q => simp; omega
/-- How many events are of the tasks from t on. -/
theorem cnt_split (t n : Nat) : ∀ l : List Ev, (ofT l (t : Int)).length + (l.filter fun x => decide (((t + 1 : Nat) : Int) ≤ x.Task ∧ x.Task < ((t + 1 + n : Nat) : Int))).length = (l.filter fun x => decide ((t : Int) ≤ x.Task ∧ x.Task < ((t + (n + 1) : Nat) : Int))).length
  | [] => rfl
  | x :: l => by
    have ih := cnt_split t n l
    unfold ofT at ih ⊢
    simp only [List.filter_cons]
    by_cases e : x.Task = (t : Int)
    · rw [if_pos (decide_eq_true e), if_neg (by rw [decide_eq_true_eq]; omega), if_pos (decide_eq_true (by omega))]
      simp only [List.length_cons]; omega
    · rw [if_neg (by rw [decide_eq_true_eq]; exact e)]
      by_cases e2 : ((t + 1 : Nat) : Int) ≤ x.Task ∧ x.Task < ((t + 1 + n : Nat) : Int)
      · rw [if_pos (decide_eq_true e2), if_pos (decide_eq_true (by omega))]
        simp only [List.length_cons]; omega
      · rw [if_neg (by rw [decide_eq_true_eq]; exact e2), if_neg (by rw [decide_eq_true_eq]; omega)]
        exact ih
theorem legT_sum (l : List Ev) : ∀ (n t m : Nat), legT l n t = some m → m = (l.filter fun x => decide ((t : Int) ≤ x.Task ∧ x.Task < ((t + n : Nat) : Int))).length
  | 0, t, m, h => by
    cases h
    symm
    rw [List.length_eq_zero_iff, List.filter_eq_nil_iff]
    intro x _; simp only [decide_eq_true_eq]; omega
  | n + 1, t, m, h => by
    unfold legT at h
    split at h
    · rw [Option.map_eq_some_iff] at h
      obtain ⟨q, h1, rfl⟩ := h
      rw [legT_sum l n (t + 1) q h1]
      exact cnt_split t n l
    · cases h
theorem legT_some (l : List Ev) : ∀ (n t : Nat), (legT l n t).isSome = true ↔ ∀ i, t ≤ i → i < t + n → rkAll 0 (ofT l (i : Int)) = true
  | 0, t => by simp [legT]; omega
  | n + 1, t => by
    unfold legT
    cases h : rkAll 0 (ofT l (t : Int))
    · simp only [Bool.false_eq_true, if_false, Option.isSome_none, false_iff]
      intro hh
      have := hh t (Nat.le_refl _) (by omega)
      rw [h] at this; cases this
    · simp only [if_true, Option.isSome_map]
      rw [legT_some l n (t + 1)]
      constructor
      · intro hh i h1 h2
        by_cases e : i = t
        · subst e; exact h
        · exact hh i (by omega) (by omega)
      · exact fun hh i h1 h2 => hh i (by omega) (by omega)
theorem RLegal_eq {k : Nat} {n : Int} {l : List Ev} (hs : Sm l) (hw : ∀ x ∈ l, 0 ≤ x.What ∧ x.What ≤ 255) (hk : 40000 ≤ k) : ferrymanref06_Legal k n l = some (decide (1 ≤ n ∧ n ≤ 6) && legalB (List.replicate n.toNat ⟨0, 0⟩) l) := by
  unfold ferrymanref06_Legal
  have hl := hs.1
  by_cases hn : 1 ≤ n ∧ n ≤ 6
  · rw [if_neg (by simp; omega)]
    have h := Leg2_eq hs hw (a := n) hn.2 n.toNat 0 0 k (by omega) (by omega) (by omega) (by omega) (by omega)
    rw [show ((0 : Nat) : Int) = 0 from rfl] at h
    rw [h, Option.bind_some, decide_eq_true hn, Bool.true_and]
    have hlen : ((List.replicate n.toNat (⟨0, 0⟩ : Tk)).length : Int) = n := by simp; omega
    have hrd : ∀ t : Int, 0 ≤ t → t < n → rd (List.replicate n.toNat (⟨0, 0⟩ : Tk)) t = stAt 0 := fun t h0 h1 => by
      have : t.toNat < n.toNat := by omega
      simp [rd, List.getD_eq_getElem?_getD, List.getElem?_replicate, this, stAt_zero]
    have key : legalB (List.replicate n.toNat ⟨0, 0⟩) l = true ↔ ∃ q, legT l n.toNat 0 = some q ∧ q = l.length := by
      rw [legal_iff, hlen]
      constructor
      · rintro ⟨h1, h2⟩
        have h3 : (legT l n.toNat 0).isSome = true := (legT_some l n.toNat 0).2 fun i _ hi => by
          have := h2 (i : Int) (by omega) (by omega)
          rw [hrd _ (by omega) (by omega)] at this
          rw [rk_leg _ 0 (by have := of_len l (i : Int); omega)]; exact this
        obtain ⟨q, hq⟩ := Option.isSome_iff_exists.1 h3
        refine ⟨q, hq, ?_⟩
        rw [legT_sum l _ _ _ hq]
        congr 1
        rw [List.filter_eq_self]
        intro x hx
        have := h1 x hx
        simp; omega
      · rintro ⟨q, hq, e⟩
        have h4 := legT_sum l _ _ _ hq
        rw [e] at h4
        have h5 := List.length_filter_eq_length_iff.1 h4.symm
        refine ⟨fun x hx => by have := h5 x hx; simp at this; omega, fun t h0 h1 => ?_⟩
        have h6 := (legT_some l n.toNat 0).1 (by rw [hq]; rfl) t.toNat (by omega) (by omega)
        rw [rk_leg _ 0 (by have := of_len l ((t.toNat : Nat) : Int); omega)] at h6
        rw [hrd t h0 h1]
        have : ((t.toNat : Nat) : Int) = t := by omega
        rw [this] at h6; exact h6
    cases hq : legT l n.toNat 0 with
    | none =>
      have : legalB (List.replicate n.toNat ⟨0, 0⟩) l = false := by
        rw [← Bool.not_eq_true, key, hq]; rintro ⟨q, h, _⟩; cases h
      rw [this]; rfl
    | some q =>
      simp only [Sum.elim_inr]
      congr 1
      rw [Bool.eq_iff_iff, key, hq]
      constructor
      · intro h
        have h := eq_of_beq h
        exact ⟨q, rfl, by omega⟩
      · rintro ⟨q', h, e⟩
        cases h
        simp [e]
  · rw [if_pos (by simp; omega), decide_eq_false hn]; rfl
end Go.Proofs.Ytninegjnkkcepaa
