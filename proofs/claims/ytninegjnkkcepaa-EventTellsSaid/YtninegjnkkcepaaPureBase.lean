/-  The plain laws of layer 6, once more: what its functions tell, in closed form. -/
import Derived.Test.YtninegjnkkcepaaOpne4
import Derived.Test.YtninegjnkkcepaaGe4P1
import Derived.Test.YtninegjnkkcepaaSlQ
import Derived.Test.YtninegjnkkcepaaSlO
namespace Go.Proofs.Ytninegjnkkcepaa
open Go Go.RowKit
set_option linter.unusedVariables false
set_option linter.unusedSimpArgs false
theorem works_at : ferrymanlaw06_works 30 = some true := by decide +kernel
theorem works_up {k : Nat} (h : 30 ≤ k) : ferrymanlaw06_works k = some true := OLe.up (f := fun k => ferrymanlaw06_works k) (fun k => ferrymanlaw06_works.mono) h _ works_at
deriving instance DecidableEq for api_Pair, api_Answer, api_Event, event_task, event_Recorder
abbrev Ev := api_Event
abbrev Tk := event_task
/-- Lists that a statement goes over. -/
def Sm (h : List Ev) : Prop := h.length ≤ 9000 ∧ ∀ x ∈ h, x.Answer.Pairs.length ≤ 3000
theorem own_eq {k : Nat} {e : Ev} (h : e.Answer.Pairs.length ≤ 3000) : event_own k e = some e := by
  unfold event_own slices_Clone_api_Pair_api_Pair
  rw [if_pos (by simp; omega)]
  rfl
theorem eqP (x y : api_Pair) : ((x.Key == y.Key) && (x.Value == y.Value)) = decide (x = y) := by
  obtain ⟨a, b⟩ := x
  obtain ⟨c, d⟩ := y
  by_cases h : a = c
  · by_cases h2 : b = d
    · subst h h2; simp
    · simp [h2]
  · simp [h]
def eqStep {α : Type} [DecidableEq α] (x : α) : List α → List α ⊕ (Bool ⊕ Unit)
  | [] => .inr (.inl false)
  | y :: b => if x = y then .inl b else .inr (.inl false)
theorem runL_eqs {α : Type} [DecidableEq α] : ∀ (a : List α) (b : List α), a.length = b.length → runL eqStep (fun _ => (Sum.inr () : Bool ⊕ Unit)) a b = if a = b then .inr () else .inl false
  | [], b, h => by
    have : b = [] := by simpa using h.symm
    subst this; rfl
  | x :: a, [], h => by simp at h
  | x :: a, y :: b, h => by
    unfold runL
    by_cases e : x = y
    · subst e
      have e1 : eqStep x (x :: b) = .inl b := by simp [eqStep]
      rw [e1]
      show runL eqStep _ a b = _
      rw [runL_eqs a b (by simpa using h)]
      simp
    · simp [e, eqStep]
/-! ### Events of their own -/
theorem runL_app {α R : Type} (f : List α → R) : ∀ (a acc : List α), runL (fun x acc => .inl (acc ++ [x])) f a acc = f (acc ++ a)
  | [], acc => by simp [runL]
  | x :: a, acc => by
    show runL _ f a (acc ++ [x]) = _
    rw [runL_app f a]; simp
theorem owned_eq {k : Nat} {a : List Ev} (ha : Sm a) (hk : 20000 ≤ k) : event_owned k a = some a := by
  unfold event_owned
  have ha1 := ha.1
  have h := loop_run0 (a := a) (fun k i (s : List Ev) => event_owned_l0 a k s i) (fun i s => s.length = i) (fun x acc => .inl (acc ++ [x])) id 0 (by omega)
    (fun k s _ _ => by rw [event_owned_l0.eq_2, if_neg (by simp)]; rfl) (fun k i s hi hI _ => by
      rw [event_owned_l0.eq_2, if_pos (by simpa using hi), if_pos (inR hi), rdN hi, own_eq (ha.2 _ (List.getElem_mem hi)), Option.bind_some, if_pos (by simp only [List.length_cons, List.length_nil]; omega)]
      refine ⟨fun s' hs => ?_, fun r hr => by cases hr⟩
      cases hs
      exact ⟨rfl, by simp [hI]⟩) (k := k) (s := []) (by omega) rfl
  rw [h, runL_app]; rfl
/-! ### A recorder -/
def nextT (t : Tk) : Tk := if IntKind.i64.wrap (t.at_ + 1) > 2 then ⟨0, IntKind.i64.wrap (t.calls + 1)⟩ else ⟨IntKind.i64.wrap (t.at_ + 1), t.calls⟩
def putF (r : event_Recorder) (n at_ : Int) (e : Ev) : Int × event_Recorder :=
  if n < 0 ∨ n ≥ (r.tasks.length : Int) then (1, r) else if (rd r.tasks n).at_ ≠ at_ then (7, r)
  else (0, ⟨r.tasks.set n.toNat (nextT (rd r.tasks n)), r.l ++ [⟨e.What, n, (rd r.tasks n).calls, e.Answer⟩]⟩)
theorem rd_set {α : Type} [Inhabited α] {l : List α} {i : Int} {x : α} (h0 : 0 ≤ i) (h : i < (l.length : Int)) : rd (l.set i.toNat x) i = x := by
  unfold rd
  have : i.toNat < l.length := by omega
  simp [this]
theorem put_eq {k : Nat} {r : event_Recorder} {n at_ : Int} {e : Ev} (hl : r.l.length ≤ 9000) (he : e.Answer.Pairs.length ≤ 3000) : event_Recorder_put_POO k r n at_ e = some (putF r n at_ e) := by
  unfold event_Recorder_put_POO putF
  by_cases h1 : n < 0 ∨ n ≥ (r.tasks.length : Int)
  · rw [if_pos (by simpa using h1), if_pos h1]
  · have h0 : 0 ≤ n ∧ n < (r.tasks.length : Int) := by omega
    rw [if_neg (by simpa using h1), if_neg h1, if_pos h0]
    by_cases h2 : (rd r.tasks n).at_ ≠ at_
    · rw [if_pos (by simpa using h2), if_pos h2]
    · rw [if_neg (by simpa using h2), if_neg h2, if_pos h0, own_eq (e := (⟨e.What, n, (rd r.tasks n).calls, ⟨e.Answer.Err, e.Answer.Found, e.Answer.Value, e.Answer.Pairs⟩⟩ : Ev)) he, Option.bind_some, if_pos (by simp only [List.length_cons, List.length_nil]; omega), Option.bind_some, rd_set h0.1 h0.2]
      unfold nextT
      by_cases h3 : IntKind.i64.wrap ((rd r.tasks n).at_ + 1) > 2
      · have h9 : n < ((r.tasks.set n.toNat (⟨0, (rd r.tasks n).calls⟩ : Tk)).length : Int) := by simpa using h0.2
        simp only [h3, decide_true, if_true, Option.bind_some, List.set_set, rd_set h0.1 h0.2]
      · simp only [h3, decide_false, Bool.false_eq_true, if_false, Option.bind_some]
theorem New_eq (k : Nat) (n : Int) : event_New_v k n = some (if 1 ≤ n ∧ n ≤ 6 then .inr ⟨List.replicate n.toNat ⟨0, 0⟩, []⟩ else .inl ()) := by
  unfold event_New_v
  by_cases h : 1 ≤ n ∧ n ≤ 6
  · rw [if_neg (by simp; omega), if_pos (by omega), if_pos h]
  · rw [if_pos (by simp; omega), if_neg h]
/-! ### Whether a history is legal -/
def noth (a : api_Answer) : Prop := a = ⟨0, false, [], []⟩
instance (a : api_Answer) : Decidable (noth a) := inferInstanceAs (Decidable (a = _))
theorem nothing_eq (k : Nat) (a : api_Answer) : event_nothing k a = some (decide (noth a)) := by
  unfold event_nothing noth
  congr 1
  obtain ⟨a, b, c, d⟩ := a
  rw [Bool.eq_iff_iff]
  simp only [sbin, Bool.and_eq_true, beq_iff_eq, decide_eq_true_eq, api_Answer.mk.injEq, Bool.not_eq_true']
  constructor
  · rintro ⟨⟨⟨h1, h2⟩, h3⟩, h4⟩; exact ⟨h1, h2, h3, by simpa using h4⟩
  · rintro ⟨h1, h2, h3, h4⟩; subst h4; exact ⟨⟨⟨h1, h2⟩, h3⟩, rfl⟩
def ok1 (t : Tk) (x : Ev) : Prop := 1 ≤ x.What ∧ x.What ≤ 3 ∧ x.Call = t.calls ∧ (x.What ≠ 3 → noth x.Answer) ∧ t.at_ = x.What - 1
instance (t : Tk) (x : Ev) : Decidable (ok1 t x) := inferInstanceAs (Decidable (_ ∧ _))
def okE (ts : List Tk) (x : Ev) : Prop := (0 ≤ x.Task ∧ x.Task < (ts.length : Int)) ∧ ok1 (rd ts x.Task) x
instance (ts : List Tk) (x : Ev) : Decidable (okE ts x) := inferInstanceAs (Decidable (_ ∧ _))
def legalB : List Tk → List Ev → Bool
  | _, [] => true
  | ts, x :: l => decide (okE ts x) && legalB (ts.set x.Task.toNat (nextT (rd ts x.Task))) l
def stepL (x : Ev) (s : List Tk × List Ev) : (List Tk × List Ev) ⊕ (Bool ⊕ Unit) :=
  if okE s.1 x then .inl (s.1.set x.Task.toNat (nextT (rd s.1 x.Task)), s.2 ++ [x]) else .inr (.inl false)
theorem runL_legal : ∀ (l : List Ev) (s : List Tk × List Ev), runL stepL (fun _ => (.inr () : Bool ⊕ Unit)) l s = if legalB s.1 l = true then .inr () else .inl false
  | [], s => rfl
  | x :: l, s => by
    unfold runL stepL legalB
    by_cases h : okE s.1 x
    · rw [if_pos h]
      show runL stepL _ l _ = _
      rw [runL_legal l]
      simp [h]
    · simp [h]
theorem Legal_eq {k : Nat} {n : Int} {h : List Ev} (ha : Sm h) (hk : 20000 ≤ k) : event_Legal k n h = some (decide (1 ≤ n ∧ n ≤ 6) && legalB (List.replicate n.toNat ⟨0, 0⟩) h) := by
  unfold event_Legal
  rw [New_eq, Option.bind_some]
  have ha1 := ha.1
  by_cases hn : 1 ≤ n ∧ n ≤ 6
  · rw [if_pos hn]
    have hrun := loop_run0 (a := h) (fun k i (s : List Tk × List Ev) => event_Legal_l0 n h k i s.1 s.2) (fun i s => (s.1.length : Int) = n ∧ s.2.length = i) stepL (fun _ => (.inr () : Bool ⊕ Unit)) 0 (by omega)
      (fun k s _ _ => by rw [event_Legal_l0.eq_2, if_neg (by simp)]) (fun k i s hi hI _ => by
        rw [event_Legal_l0.eq_2, if_pos (by simpa using hi), if_pos (inR hi), rdN hi]
        generalize hx : h[i] = x
        have hxp : x.Answer.Pairs.length ≤ 3000 := by rw [← hx]; exact ha.2 _ (List.getElem_mem hi)
        have bad : ∀ {Z : Option (Bool ⊕ Unit)}, ¬ okE s.1 x → Z = some (.inl false) → (∀ s', stepL x s = .inl s' → Z = event_Legal_l0 n h k (IntKind.i64.wrap ((i : Int) + 1)) s'.1 s'.2 ∧ (s'.1.length : Int) = n ∧ s'.2.length = i + 1) ∧ (∀ r, stepL x s = .inr r → Z = some r) := fun hb hz => by
          unfold stepL
          rw [if_neg hb]
          exact ⟨fun s' hs => (by cases hs), fun r hr => (by cases hr; exact hz)⟩
        have hcall : ∃ c : Int, (if (decide (x.Task ≥ 0) && decide (x.Task < n)) = true then if 0 ≤ x.Task ∧ x.Task < (s.1.length : Int) then some (rd s.1 x.Task).calls else none else some (-1)) = some c ∧ (0 ≤ x.Task → x.Task < n → c = (rd s.1 x.Task).calls) := by
          by_cases ht : 0 ≤ x.Task ∧ x.Task < n
          · exact ⟨(rd s.1 x.Task).calls, by rw [if_pos (by simpa using ht), if_pos (by omega)], fun _ _ => rfl⟩
          · exact ⟨-1, by rw [if_neg (by simpa using ht)], fun h1 h2 => absurd ⟨h1, h2⟩ ht⟩
        obtain ⟨c, hc, hc2⟩ := hcall
        rw [hc, Option.bind_some, nothing_eq]
        by_cases c1 : x.What < 1 ∨ x.What > 3 ∨ x.Call ≠ c
        · refine bad (fun hb => ?_) ?_
          · have := hc2 hb.1.1 (by rw [← hI.1]; exact hb.1.2)
            have h2 := hb.2.2.2.1
            rcases c1 with e | e | e
            · have := hb.2.1; omega
            · have := hb.2.2.1; omega
            · exact e (by rw [h2, this])
          · rw [if_pos (by simp only [Bool.or_eq_true, decide_eq_true_eq, bne_iff_ne]; exact c1.elim (fun e => .inl (.inl e)) (fun e => e.elim (fun e => .inl (.inr e)) .inr))]
            rfl
        · have d1 : 1 ≤ x.What := by omega
          have d2 : x.What ≤ 3 := by omega
          have d3 : x.Call = c := by
            by_cases e : x.Call = c
            · exact e
            · exact absurd (.inr (.inr e)) c1
          rw [if_neg (by simp only [Bool.or_eq_true, decide_eq_true_eq, bne_iff_ne]; exact fun e => c1 (e.elim (fun e => e.elim .inl (fun e => .inr (.inl e))) (fun e => .inr (.inr e))))]
          by_cases c2 : x.What ≠ 3 → noth x.Answer
          · have hnb : (if (x.What != 3) = true then Option.bind (some (decide (noth x.Answer))) fun t620 => some (!t620) else some false) = some false := by
              by_cases e : x.What = 3
              · simp [e]
              · rw [if_pos (by simpa using e)]; simp [c2 e]
            have hw : IntKind.i64.wrap (IntKind.i64.wrap x.What - 1) = x.What - 1 := by rw [wr (x := x.What) (by omega) (by omega), wr (by omega) (by omega)]
            rw [hnb]
            simp only [Option.bind_some, Bool.false_eq_true, if_false, hw]
            rw [put_eq (by show s.2.length ≤ 9000; omega) hxp]
            simp only [Option.bind_some]
            unfold putF
            by_cases c3 : x.Task < 0 ∨ x.Task ≥ ((⟨s.1, s.2⟩ : event_Recorder).tasks.length : Int)
            · refine bad (fun hb => ?_) ?_
              · rcases (show x.Task < 0 ∨ x.Task ≥ (s.1.length : Int) from c3) with e | e
                · have := hb.1.1; omega
                · have := hb.1.2; exact absurd this (by omega)
              · rw [if_pos c3]; simp
            · rw [if_neg c3]
              by_cases c4 : (rd s.1 x.Task).at_ ≠ x.What - 1
              · refine bad (fun hb => c4 hb.2.2.2.2.2) ?_
                rw [if_pos c4]; simp
              · rw [if_neg c4]
                have hr : 0 ≤ x.Task ∧ x.Task < (s.1.length : Int) := by
                  have : ¬ (x.Task < 0 ∨ x.Task ≥ (s.1.length : Int)) := c3
                  omega
                have hcl := hc2 hr.1 (by omega)
                have hok : okE s.1 x := ⟨hr, d1, d2, by rw [d3, hcl], c2, by omega⟩
                have hxx : (⟨x.What, x.Task, (rd s.1 x.Task).calls, x.Answer⟩ : Ev) = x := by rw [← hcl, ← d3]
                rw [hxx]
                unfold stepL
                rw [if_pos hok]
                refine ⟨fun s' hs => ?_, fun r hr => by cases hr⟩
                cases hs
                refine ⟨by simp, by simpa using hI.1, by simp [hI.2]⟩
          · have e : x.What ≠ 3 ∧ ¬ noth x.Answer := by
              by_cases e : x.What = 3
              · exact absurd (fun h => absurd e h) c2
              · exact ⟨e, fun h => c2 (fun _ => h)⟩
            refine bad (fun hb => c2 hb.2.2.2.2.1) ?_
            rw [if_pos (by simpa using e.1)]
            simp [e.2]) (k := k) (s := (List.replicate n.toNat ⟨0, 0⟩, [])) (by omega) ⟨by simp; omega, rfl⟩
    have hrun2 : event_Legal_l0 n h k 0 (List.replicate n.toNat ⟨0, 0⟩) [] = _ := hrun
    show Option.bind (event_Legal_l0 n h k 0 (List.replicate n.toNat ⟨0, 0⟩) []) _ = _
    rw [hrun2, runL_legal]
    cases legalB (List.replicate n.toNat ⟨0, 0⟩) h <;> simp [hn]
  · rw [if_neg hn]
    simp [hn]
/-! ### What is too wide -/
def wideStep (x : Ev) (n : Int) : Int ⊕ Int := if n < 3000 then .inl (n + imin 3000 (x.Answer.Value.length : Int) + imin 3000 (x.Answer.Pairs.length : Int)) else .inr n
theorem imin_le (a : Int) (h : 0 ≤ a) : 0 ≤ imin 3000 a ∧ imin 3000 a ≤ 3000 ∧ (imin 3000 a < 3000 → imin 3000 a = a) := by
  unfold imin
  split <;> omega
theorem wide_eq {k : Nat} {h : List Ev} (hl : h.length ≤ 9223372036854775807) (hk : h.length < k) : ferrymanlaw06_wide k h = some (decide (runL wideStep id h h.length ≥ 3000)) := by
  unfold ferrymanlaw06_wide
  have hrun := loop_run0 (a := h) (fun k i (s : Int) => ferrymanlaw06_wide_l0 h k s i) (fun i s => 0 ≤ s ∧ s ≤ 9223372036854775807) wideStep id 0 hl
    (fun k s _ _ => by rw [ferrymanlaw06_wide_l0.eq_2, if_neg (by simp)]; rfl) (fun k i s hi hI _ => by
      rw [ferrymanlaw06_wide_l0.eq_2]
      unfold wideStep
      by_cases hs : s < 3000
      · rw [if_pos hs, if_pos (by simp [hs, hi]), if_pos (inR hi), if_pos (inR hi), rdN hi]
        have h1 := imin_le (h[i].Answer.Value.length : Int) (by omega)
        have h2 := imin_le (h[i].Answer.Pairs.length : Int) (by omega)
        refine ⟨fun s' e => ?_, fun r e => by cases e⟩
        cases e
        rw [wr (x := s + imin 3000 (h[i].Answer.Value.length : Int)) (by omega) (by omega), wr (x := s + imin 3000 (h[i].Answer.Value.length : Int) + _) (by omega) (by omega)]
        exact ⟨rfl, by omega, by omega⟩
      · rw [if_neg hs, if_neg (by simp; omega)]
        exact ⟨fun s' e => (by cases e), fun r e => (by cases e; rfl)⟩) (k := k) (s := (h.length : Int)) (by omega) ⟨by omega, by omega⟩
  rw [hrun]; rfl
theorem wide_run : ∀ (h : List Ev) (n : Int), 0 ≤ n → runL wideStep id h n < 3000 → n < 3000 ∧ ∀ x ∈ h, x.Answer.Value.length < 3000 ∧ x.Answer.Pairs.length < 3000
  | [], n, h0, hr => ⟨hr, fun x hx => by cases hx⟩
  | x :: l, n, h0, hr => by
    unfold runL at hr
    unfold wideStep at hr
    by_cases hn : n < 3000
    · rw [if_pos hn] at hr
      have h1 := imin_le (x.Answer.Value.length : Int) (by omega)
      have h2 := imin_le (x.Answer.Pairs.length : Int) (by omega)
      obtain ⟨h3, h4⟩ := wide_run l _ (by omega) hr
      refine ⟨hn, fun y hy => ?_⟩
      rcases List.mem_cons.1 hy with rfl | hy
      · constructor
        · have := h1.2.2 (by omega); omega
        · have := h2.2.2 (by omega); omega
      · exact h4 y hy
    · rw [if_neg hn] at hr
      exact absurd hr hn
theorem wide_sm {h : List Ev} (hw : ¬ runL wideStep id h (h.length : Int) ≥ 3000) : h.length < 3000 ∧ Sm h := by
  obtain ⟨h1, h2⟩ := wide_run h h.length (by omega) (by omega)
  exact ⟨by omega, by omega, fun x hx => by have := (h2 x hx).2; omega⟩
end Go.Proofs.Ytninegjnkkcepaa
