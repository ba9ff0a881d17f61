/-  The plain law EventTells. -/
import Derived.Test.YtninegjnkkcepaaPureRef06
import Derived.Test.YtninegjnkkcepaaGe4LEventTells
namespace Go.Proofs.Ytninegjnkkcepaa
open Go Go.RowKit
set_option linter.unusedVariables false
set_option linter.unusedSimpArgs false
abbrev Pl := event_Place
def pl (e : Ev) : Pl := ⟨e.Task, e.Call⟩
/-! ### What is deleted -/
theorem index_run {P : Nat → Ev → Option Bool} {p : Ev → Bool} {a : List Ev} {F : Nat → Int → Option (Int ⊕ Unit)} (hP : ∀ k x, P k x = some (p x))
    (hF : ∀ k i, F (k + 1) i = (if (decide (i < (a.length : Int))) = true then (if 0 ≤ i ∧ i < (a.length : Int) then (Option.bind (P k (rd a i)) (fun t => (if t = true then some (.inl i) else F k (IntKind.i64.wrap (i + (1 : Int)))))) else none) else some (.inr ()))) (ha : a.length ≤ 9000) :
    ∀ (n k i : Nat), i + n = a.length → n < k → F k (i : Int) = some (if (a.drop i).any p = true then .inl ((i + ((a.drop i).takeWhile fun x => !p x).length : Nat) : Int) else .inr ()) := by
  intro n
  induction n with
  | zero =>
    intro k i hi hk
    obtain ⟨k, rfl⟩ : ∃ q, k = q + 1 := ⟨k - 1, by omega⟩
    rw [hF, if_neg (by simp; omega), List.drop_of_length_le (by omega)]; rfl
  | succ n ih =>
    intro k i hi hk
    obtain ⟨k, rfl⟩ : ∃ q, k = q + 1 := ⟨k - 1, by omega⟩
    have hlt : i < a.length := by omega
    rw [hF, if_pos (by simpa using hlt), if_pos (inR hlt), hP, Option.bind_some, List.drop_eq_getElem_cons hlt, rdN hlt]
    cases hp : p a[i]
    · rw [if_neg (by simp), wr1 (by omega), ih k (i + 1) (by omega) (by omega)]
      rw [List.takeWhile_cons_of_pos (by simp [hp]), List.any_cons, hp, Bool.false_or]
      congr 1
      split
      · congr 1
        simp only [List.length_cons]; omega
      · rfl
    · rw [if_pos rfl, List.any_cons, hp, Bool.true_or, if_pos rfl, List.takeWhile_cons_of_neg (by simp [hp])]; rfl
theorem del_run {P : Nat → Ev → Option Bool} {p : Ev → Bool} {F : Nat → List Ev → Int → Int → Option (List Ev × Int)} (hP : ∀ k x, P k x = some (p x))
    (hF : ∀ k s w r, F (k + 1) s w r = (if (decide (r < (s.length : Int))) = true then (Option.bind (α := List Ev × Int) (if 0 ≤ r ∧ r < (s.length : Int) then (Option.bind (P k (rd s r)) (fun t => (Option.bind (α := List Ev × Int) (if (!t) = true then (if 0 ≤ w ∧ w < (s.length : Int) then (Option.bind (α := List Ev) (some (List.set s w.toNat (rd s r))) (fun x => some (x, (IntKind.i64.wrap (w + (1 : Int)))))) else none) else some (s, w)) (fun ⟨a, b⟩ => some (a, b))))) else none) (fun ⟨a, b⟩ => F k a b (IntKind.i64.wrap (r + (1 : Int))))) else some (s, w)))
    {a : List Ev} (ha : a.length ≤ 9000) : ∀ (n k r w : Nat) (s : List Ev), r + n = a.length → n < k → w ≤ r → s.length = a.length → s.take w = (a.take r).filter (fun x => !p x) → s.drop r = a.drop r →
      ∃ (s' : List Ev) (w' : Nat), F k s (w : Int) (r : Int) = some (s', (w' : Int)) ∧ s'.length = a.length ∧ w' ≤ a.length ∧ s'.take w' = a.filter (fun x => !p x) := by
  intro n
  induction n with
  | zero =>
    intro k r w s hr hk hw hl ht hd
    obtain ⟨k, rfl⟩ : ∃ q, k = q + 1 := ⟨k - 1, by omega⟩
    refine ⟨s, w, by rw [hF, if_neg (by simp; omega)], hl, by omega, ?_⟩
    rw [ht, List.take_of_length_le (by omega)]
  | succ n ih =>
    intro k r w s hr hk hw hl ht hd
    obtain ⟨k, rfl⟩ : ∃ q, k = q + 1 := ⟨k - 1, by omega⟩
    have hlt : r < s.length := by omega
    have hlt' : r < a.length := by omega
    have hsr : s[r] = a[r] := by
      have := congrArg (fun z : List Ev => z[0]?) hd
      simpa [List.getElem?_drop, List.getElem?_eq_getElem hlt, List.getElem?_eq_getElem hlt'] using this
    have htk : (a.take (r + 1)).filter (fun x => !p x) = (a.take r).filter (fun x => !p x) ++ if p a[r] = true then [] else [a[r]] := by
      rw [List.take_add_one, List.filter_append, List.getElem?_eq_getElem hlt']
      cases hp : p a[r] <;> simp [hp]
    rw [hF, if_pos (by simpa using hlt), if_pos (inR hlt), hP, Option.bind_some, rdN hlt, hsr]
    cases hp : p a[r]
    · rw [if_pos (by rfl), if_pos (by omega), Option.bind_some, Option.bind_some, Option.bind_some]
      dsimp only
      rw [wr1 (by omega), wr1 (by omega)]
      have hwl : w < s.length := by omega
      refine ih k (r + 1) (w + 1) _ (by omega) (by omega) (by omega) (by simpa using hl) ?_ ?_
      · rw [htk, hp, ← ht]
        have : ((w : Int)).toNat = w := by omega
        rw [this, List.take_add_one, List.getElem?_set_self hwl, List.take_set_of_le (Nat.le_refl _)]
        simp
      · have : ((w : Int)).toNat = w := by omega
        rw [this, List.drop_set_of_lt (by omega)]
        have := congrArg (List.drop 1) hd
        rw [List.drop_drop, List.drop_drop] at this
        exact this
    · rw [if_neg (by simp), Option.bind_some, Option.bind_some]
      dsimp only
      rw [wr1 (by omega)]
      refine ih k (r + 1) w _ (by omega) (by omega) (by omega) hl ?_ ?_
      · rw [htk, hp, ht]; simp
      · have := congrArg (List.drop 1) hd
        rw [List.drop_drop, List.drop_drop] at this
        exact this
theorem tw_split (p : Ev → Bool) : ∀ a : List Ev, a.any p = true → ∃ j, (a.takeWhile fun x => !p x).length = j ∧ ∃ h : j < a.length, p a[j] = true ∧ (a.take j).filter (fun x => !p x) = a.take j
  | [], h => by cases h
  | x :: a, h => by
    cases hp : p x
    · rw [List.any_cons, hp, Bool.false_or] at h
      obtain ⟨j, h1, h2, h3, h4⟩ := tw_split p a h
      refine ⟨j + 1, by rw [List.takeWhile_cons_of_pos (by simp [hp]), List.length_cons, h1], by simp only [List.length_cons]; omega, by simpa using h3, ?_⟩
      rw [List.take_succ_cons, List.filter_cons_of_pos (by simp [hp]), h4]
    · exact ⟨0, by rw [List.takeWhile_cons_of_neg (by simp [hp])]; rfl, by simp, by simpa using hp, rfl⟩
theorem del_all {P : Nat → Ev → Option Bool} {p : Ev → Bool} {F1 : Nat → Int → Option (Int ⊕ Unit)} {F : Nat → List Ev → Int → Int → Option (List Ev × Int)} (hP : ∀ k x, P k x = some (p x)) {a : List Ev}
    (hF1 : ∀ k i, F1 (k + 1) i = (if (decide (i < (a.length : Int))) = true then (if 0 ≤ i ∧ i < (a.length : Int) then (Option.bind (P k (rd a i)) (fun t => (if t = true then some (.inl i) else F1 k (IntKind.i64.wrap (i + (1 : Int)))))) else none) else some (.inr ())))
    (hF : ∀ k s w r, F (k + 1) s w r = (if (decide (r < (s.length : Int))) = true then (Option.bind (α := List Ev × Int) (if 0 ≤ r ∧ r < (s.length : Int) then (Option.bind (P k (rd s r)) (fun t => (Option.bind (α := List Ev × Int) (if (!t) = true then (if 0 ≤ w ∧ w < (s.length : Int) then (Option.bind (α := List Ev) (some (List.set s w.toNat (rd s r))) (fun x => some (x, (IntKind.i64.wrap (w + (1 : Int)))))) else none) else some (s, w)) (fun ⟨a, b⟩ => some (a, b))))) else none) (fun ⟨a, b⟩ => F k a b (IntKind.i64.wrap (r + (1 : Int))))) else some (s, w)))
    (ha : a.length ≤ 9000) {k : Nat} (hk : 9000 < k) :
    (Option.bind (Option.bind (F1 k (0 : Int)) (fun o => Sum.elim (fun r' => some r') (fun _ => some (-1 : Int)) o)) (fun t1 => (if (t1 == (-1 : Int)) = true then some a else (Option.bind (F k a t1 (IntKind.i64.wrap (t1 + (1 : Int)))) (fun ⟨x, y⟩ => (if 0 ≤ y ∧ y ≤ (x.length : Int) then (Option.bind (α := List Ev) (some (List.take y.toNat x ++ List.replicate (x.length - y.toNat) (⟨0, 0, 0, ⟨0, false, [], []⟩⟩ : Ev))) (fun z => (if 0 ≤ y ∧ y ≤ (z.length : Int) then some (List.take y.toNat z) else none))) else none)))))) = some (a.filter fun x => !p x) := by
  have h1 := index_run hP hF1 ha a.length k 0 (by omega) (by omega)
  rw [show ((0 : Nat) : Int) = 0 from rfl, List.drop_zero] at h1
  rw [h1, Option.bind_some]
  by_cases hany : a.any p = true
  · rw [if_pos hany]
    obtain ⟨j, hj, hjl, hpj, hall⟩ := tw_split p a hany
    rw [hj]
    rw [Nat.zero_add]
    simp only [Sum.elim_inl, Option.bind_some]
    rw [if_neg (by simp), wr1 (by omega)]
    obtain ⟨s', w', e1, e2, e3, e4⟩ := del_run hP hF ha (a.length - (j + 1)) k (j + 1) j a (by omega) (by omega) (by omega) rfl (by
      rw [List.take_add_one, List.filter_append, hall, List.getElem?_eq_getElem hjl]; simp [hpj]) rfl
    rw [e1, Option.bind_some]
    dsimp only
    have ew : ((w' : Int)).toNat = w' := by omega
    rw [if_pos (by omega), if_pos (by simp only [List.length_append, List.length_take, List.length_replicate]; omega), ew]
    rw [List.take_append_of_le_length (by simp; omega), List.take_take, Nat.min_self, e4]
  · rw [if_neg hany]
    simp only [Sum.elim_inr, Option.bind_some]
    rw [if_pos (by decide)]
    congr 1
    symm
    rw [List.filter_eq_self]
    intro x hx
    cases hp : p x
    · rfl
    · exact absurd (List.any_eq_true.2 ⟨x, hx, hp⟩) hany
theorem Bare_eq {k : Nat} {h : List Ev} (hs : Sm h) (hk : 20000 ≤ k) : event_Bare k h = some (h.filter fun x => !(x.What == 2)) := by
  unfold event_Bare slices_DeleteFunc_api_Event_api_Event_Sw_Bare_1 slices_IndexFunc_api_Event_api_Event_Bare_1
  rw [owned_eq hs hk, Option.bind_some]
  rw [del_all (P := event_Bare_1_v) (p := fun x => x.What == 2) (fun _ _ => rfl) (F1 := slices_IndexFunc_api_Event_api_Event_Bare_1_l0 h) (fun _ _ => rfl) (F := slices_DeleteFunc_api_Event_api_Event_Sw_Bare_1_l0) (fun _ _ _ _ => rfl) hs.1 (by omega)]
  rfl
/-! ### Places, counted -/
abbrev Cm := List (Pl × Int)
def cntF (g : List Pl) (m : Cm) : Cm := g.foldl (fun m p => mput m p (IntKind.i64.wrap ((mget m p).getD 0 + 1))) m
theorem cnt_run {k : Nat} {g : List Pl} (hg : g.length ≤ 1000) (hk : 2000 ≤ k) : event_Without_l0 g k 0 [] = some (cntF g []) := by
  have hrun := loop_run0 (a := g) (fun k i (m : Cm) => event_Without_l0 g k i m) (fun _ _ => True) (fun p m => .inl (mput m p (IntKind.i64.wrap ((mget m p).getD 0 + 1)))) id 0 (by omega)
    (fun k s _ _ => by rw [event_Without_l0.eq_2, if_neg (by simp)]; rfl) (fun k i s hi hI _ => by
      refine ⟨fun s' e => ?_, fun r e => by cases e⟩
      cases e
      rw [event_Without_l0.eq_2, if_pos (by simpa using hi), if_pos (inR hi), rdN hi]
      exact ⟨rfl, trivial⟩) (k := k) (s := []) (by omega) trivial
  have key : ∀ (l : List Pl) (m : Cm), runL (R := Cm) (fun p m => .inl (mput m p (IntKind.i64.wrap ((mget m p).getD 0 + 1)))) id l m = cntF l m := by
    intro l
    induction l with
    | nil => intro m; rfl
    | cons x l ih => intro m; exact ih _
  rw [hrun, key]
theorem cnt_facts : ∀ (g : List Pl) (m : Cm) (b : Int), (m.map (·.1)).Nodup → 0 ≤ b → b + g.length ≤ 100000 → (∀ p v, mget m p = some v → 1 ≤ v ∧ v ≤ b) →
    ((cntF g m).map (·.1)).Nodup ∧ ∀ p, (0 < (mget (cntF g m) p).getD 0 ↔ p ∈ g ∨ (mget m p).isSome = true) ∧ ((mget (cntF g m) p).isSome = true ↔ p ∈ g ∨ (mget m p).isSome = true)
  | [], m, b, hn, _, _, hv => ⟨hn, fun p => ⟨by
      show 0 < (mget m p).getD 0 ↔ _
      cases h : mget m p with
      | none => simp
      | some v => have := hv p v h; simp; omega, by simp [cntF]⟩⟩
  | q :: g, m, b, hn, h0, hb, hv => by
    have hw : 1 ≤ IntKind.i64.wrap ((mget m q).getD 0 + 1) ∧ IntKind.i64.wrap ((mget m q).getD 0 + 1) ≤ b + 1 := by
      have : 0 ≤ (mget m q).getD 0 ∧ (mget m q).getD 0 ≤ b := by
        cases h : mget m q with
        | none => simp [h0]
        | some v => have := hv q v h; simp; omega
      simp only [List.length_cons] at hb
      rw [wr (by omega) (by omega)]; omega
    obtain ⟨h1, h2⟩ := cnt_facts g (mput m q (IntKind.i64.wrap ((mget m q).getD 0 + 1))) (b + 1) (mput_nodup hn) (by omega) (by simp only [List.length_cons] at hb; omega) (fun p v hp => by
      rw [mget_mput] at hp
      split at hp
      · cases hp; exact hw
      · have := hv p v hp; omega)
    refine ⟨h1, fun p => ?_⟩
    obtain ⟨h3, h4⟩ := h2 p
    have e : (mget (mput m q (IntKind.i64.wrap ((mget m q).getD 0 + 1))) p).isSome = true ↔ q = p ∨ (mget m p).isSome = true := by
      rw [mget_mput]
      by_cases e : q = p <;> simp [e]
    rw [e] at h3 h4
    have e2 : (p ∈ q :: g ∨ (mget m p).isSome = true) ↔ (p ∈ g ∨ q = p ∨ (mget m p).isSome = true) := by
      rw [List.mem_cons]
      constructor
      · rintro ((h | h) | h)
        · exact .inr (.inl h.symm)
        · exact .inl h
        · exact .inr (.inr h)
      · rintro (h | h | h)
        · exact .inl (.inr h)
        · exact .inl (.inl h.symm)
        · exact .inr h
    exact ⟨h3.trans e2.symm, h4.trans e2.symm⟩
theorem cnt_nodup {g : List Pl} (hg : g.length ≤ 1000) : ((cntF g []).map (·.1)).Nodup := (cnt_facts g [] 0 (by simp) (by omega) (by omega) (fun p v h => by cases h)).1
theorem cnt_pos {g : List Pl} (hg : g.length ≤ 1000) (p : Pl) : (mget (cntF g []) p).getD 0 > 0 ↔ p ∈ g := by
  have := ((cnt_facts g [] 0 (by simp) (by omega) (by omega) (fun p v h => by cases h)).2 p).1
  simpa [mget_none] using this
theorem cnt_mem {g : List Pl} (hg : g.length ≤ 1000) (p : Pl) : p ∈ (cntF g []).map (·.1) ↔ p ∈ g := by
  have := ((cnt_facts g [] 0 (by simp) (by omega) (by omega) (fun p v h => by cases h)).2 p).2
  rw [← mget_some, this]
  constructor
  · rintro (h | h)
    · exact h
    · cases h
  · exact .inl
/-! ### What is left is numbered anew -/
def dec (n : Nat) (e : Ev) : Ev := ⟨e.What, e.Task, e.Call - (n : Int), e.Answer⟩
theorem dec_zero (e : Ev) : dec 0 e = e := by simp [dec]
def below (e : Ev) (p : Pl) : Bool := p.Task == e.Task && decide (p.Call ≥ 0) && decide (p.Call < e.Call)
theorem ren_any {L0 : List Ev} {i : Nat} : ∀ (q : Nat) (todo : List Pl) (k : Nat) (s : List Ev) (hi : i < s.length), todo.length < k → -9223372036854775808 + (todo.countP (below (rd L0 i)) : Int) ≤ s[i].Call → s[i].Call ≤ 9223372036854775807 →
    event_Without_l5 q L0 i k s todo = some (s.set i (dec (todo.countP (below (rd L0 i))) s[i])) := by
    intro q todo
    induction todo with
    | nil =>
      intro k s hi hk _ _
      obtain ⟨k, rfl⟩ : ∃ q, k = q + 1 := ⟨k - 1, by simp at hk; omega⟩
      rw [event_Without_l5.eq_2, onList_nil, List.countP_nil, dec_zero]
      simp
    | cons p todo ih =>
      intro k s hi hk h1 h2
      obtain ⟨k, rfl⟩ : ∃ q, k = q + 1 := ⟨k - 1, by simp at hk; omega⟩
      simp only [List.length_cons] at hk
      rw [event_Without_l5.eq_2, onList_cons]
      have hb : (p.Task == (rd L0 (i : Int)).Task && decide (p.Call ≥ 0) && decide (p.Call < (rd L0 (i : Int)).Call)) = below (rd L0 (i : Int)) p := rfl
      rw [hb]
      rw [List.countP_cons] at h1 ⊢
      cases hc : below (rd L0 (i : Int)) p
      · rw [hc] at h1
        simp only [Bool.false_eq_true, if_false, Option.bind_some, Nat.add_zero] at h1 ⊢
        exact ih k s hi (by omega) h1 h2
      · rw [hc] at h1
        simp only [if_true] at h1
        rw [if_pos rfl, if_pos (inR hi), if_pos (inR hi), rdN hi, if_pos rfl]
        simp only [Option.bind_some]
        have hw : IntKind.i64.wrap (s[i].Call - 1) = s[i].Call - 1 := wr (by omega) (by omega)
        have e : ((i : Int)).toNat = i := by omega
        rw [hw, e]
        have hi' : i < (s.set i (dec 1 s[i])).length := by simpa using hi
        have := ih k (s.set i (dec 1 s[i])) hi' (by omega) (by simp [dec]; omega) (by simp [dec]; omega)
        have hd : (⟨s[i].What, s[i].Task, s[i].Call - 1, ⟨s[i].Answer.Err, s[i].Answer.Found, s[i].Answer.Value, s[i].Answer.Pairs⟩⟩ : Ev) = dec 1 s[i] := rfl
        rw [hd, this]
        simp only [List.set_set, List.getElem_set_self]
        congr 2
        simp only [dec, api_Event.mk.injEq, true_and, and_true]
        omega
/-- Calls are numbers of the machine. -/
def Cl (h : List Ev) : Prop := ∀ e ∈ h, -9223372036854775808 ≤ e.Call ∧ e.Call ≤ 9223372036854775807
theorem below_pos {e : Ev} {l : List Pl} (h : 0 < l.countP (below e)) : 1 ≤ e.Call := by
  obtain ⟨p, _, hp⟩ := List.countP_pos_iff.1 h
  unfold below at hp
  simp only [Bool.and_eq_true, beq_iff_eq, decide_eq_true_eq] at hp
  omega
theorem below_ok {e : Ev} {l : List Pl} (hl : l.length ≤ 1000) (hc : -9223372036854775808 ≤ e.Call) : -9223372036854775808 + (l.countP (below e) : Int) ≤ e.Call := by
  by_cases h : 0 < l.countP (below e)
  · have := below_pos h
    have := List.countP_le_length (p := below e) (l := l)
    omega
  · omega
theorem ren_all {m : Cm} {b : List Ev} (hm : (m.map (·.1)).Nodup) (hml : m.length ≤ 1000) (hb : b.length ≤ 9000) (hc : Cl b) : ∀ (n k i : Nat), i + n = b.length → n + 2000 < k →
    event_Without_l3 m b k (((b.take i).map fun e => dec ((m.map (·.1)).countP (below e)) e) ++ b.drop i) (i : Int) = some (b.map fun e => dec ((m.map (·.1)).countP (below e)) e) := by
  intro n
  induction n with
  | zero =>
    intro k i hi hk
    obtain ⟨k, rfl⟩ : ∃ q, k = q + 1 := ⟨k - 1, by omega⟩
    rw [event_Without_l3.eq_2, if_neg (by simp; omega), List.drop_of_length_le (by omega), List.take_of_length_le (by omega), List.append_nil]
  | succ n ih =>
    intro k i hi hk
    obtain ⟨k, rfl⟩ : ∃ q, k = q + 1 := ⟨k - 1, by omega⟩
    have hlt : i < b.length := by omega
    generalize hs : (((b.take i).map fun e => dec ((m.map (·.1)).countP (below e)) e) ++ b.drop i) = s
    have hsl : s.length = b.length := by rw [← hs]; simp; omega
    have hlt' : i < s.length := by omega
    have hsi : s[i] = b[i] := by
      have : s[i]? = b[i]? := by
        rw [← hs, List.getElem?_append_right (by simp; omega), List.getElem?_drop]
        congr 1
        simp only [List.length_map, List.length_take]; omega
      rw [List.getElem?_eq_getElem hlt', List.getElem?_eq_getElem hlt] at this
      exact Option.some.inj this
    have hbc := hc _ (List.getElem_mem hlt)
    have hrd : rd s (i : Int) = b[i] := by rw [rdN hlt', hsi]
    rw [event_Without_l3.eq_2, if_pos (by simpa using hlt), if_pos (inR hlt'), if_pos hm]
    rw [ren_any k _ k s hlt' (by simp; omega) (by rw [hsi, hrd]; exact below_ok (by simpa using hml) hbc.1) (by rw [hsi]; exact hbc.2), Option.bind_some, wr1 (by omega), hrd, hsi]
    rw [← ih k (i + 1) (by omega) (by omega)]
    congr 1
    rw [← hs, List.set_append_right _ _ (by simp; omega)]
    have e : i - ((b.take i).map fun e => dec ((m.map (·.1)).countP (below e)) e).length = 0 := by simp; omega
    rw [e, List.drop_eq_getElem_cons hlt, List.set_cons_zero, List.take_add_one, List.getElem?_eq_getElem hlt, List.map_append, List.append_assoc]
    rfl
/-! ### Each place once -/
def fs : List Pl → List Pl → List Pl
  | _, [] => []
  | seen, x :: l => (if x ∈ seen then [] else [x]) ++ fs (seen ++ [x]) l
theorem fs_mem : ∀ (l seen : List Pl) (x : Pl), x ∈ fs seen l ↔ x ∈ l ∧ x ∉ seen
  | [], seen, x => by simp [fs]
  | y :: l, seen, x => by
    unfold fs
    rw [List.mem_append, fs_mem l]
    by_cases e : x = y
    · subst e
      by_cases h : x ∈ seen <;> simp [h]
    · by_cases h : y ∈ seen <;> simp [h, e]
theorem fs_nodup : ∀ (l seen : List Pl), (fs seen l).Nodup
  | [], _ => List.nodup_nil
  | y :: l, seen => by
    unfold fs
    by_cases h : y ∈ seen
    · rw [if_pos h]; exact fs_nodup l _
    · rw [if_neg h]
      show (y :: fs (seen ++ [y]) l).Nodup
      refine List.nodup_cons.2 ⟨?_, fs_nodup l _⟩
      rw [fs_mem]; simp
/-- Without some calls. -/
def WG (h : List Ev) (g : List Pl) : List Ev := (h.filter fun e => !decide (pl e ∈ g)).map fun e => dec ((fs [] g).countP (below e)) e
theorem Without_eq {k : Nat} {h : List Ev} {g : List Pl} (hs : Sm h) (hc : Cl h) (hg : g.length ≤ 100) (hk : 20000 ≤ k) : event_Without k h g = some (WG h g) := by
  unfold event_Without slices_DeleteFunc_api_Event_api_Event_Sw_Without_1_K slices_IndexFunc_api_Event_api_Event_Without_1_K
  rw [cnt_run (by omega) (by omega), Option.bind_some, owned_eq hs hk, Option.bind_some]
  rw [del_all (P := fun k e => event_Without_1_K k e (cntF g [])) (p := fun e => decide ((mget (cntF g []) (⟨(e.Task), (e.Call)⟩ : event_Place)).getD (0 : Int) > (0 : Int))) (fun _ _ => rfl) (F1 := slices_IndexFunc_api_Event_api_Event_Without_1_K_l0 h (cntF g [])) (fun _ _ => rfl) (F := slices_DeleteFunc_api_Event_api_Event_Sw_Without_1_K_l0 (cntF g [])) (fun _ _ _ _ => rfl) hs.1 (by omega), Option.bind_some]
  have hf : (h.filter fun x => !decide ((mget (cntF g []) (⟨(x.Task), (x.Call)⟩ : event_Place)).getD (0 : Int) > (0 : Int))) = h.filter fun e => !decide (pl e ∈ g) := by
    congr 1
    funext e
    congr 1
    exact decide_eq_decide.2 (cnt_pos (by omega) (pl e))
  rw [hf]
  have hb : (h.filter fun e => !decide (pl e ∈ g)).length ≤ 9000 := Nat.le_trans (List.length_filter_le _ _) hs.1
  have hml : (cntF g []).length ≤ 1000 := by
    have hn := cnt_nodup (g := g) (by omega)
    have : ∀ (l : List Pl) (m : Cm), (cntF l m).length ≤ m.length + l.length := by
      intro l
      induction l with
      | nil => intro m; exact Nat.le_refl _
      | cons x l ih =>
        intro m
        have := ih (mput m x (IntKind.i64.wrap ((mget m x).getD 0 + 1)))
        rw [mput_length] at this
        show (cntF l _).length ≤ _
        simp only [List.length_cons]
        split at this <;> omega
    have := this g []
    simp at this; omega
  have hr := ren_all (b := h.filter fun e => !decide (pl e ∈ g)) (cnt_nodup (g := g) (by omega)) hml hb (fun e he => hc e (List.mem_filter.1 he).1) _ k 0 (Nat.zero_add _) (by omega)
  rw [show ((0 : Nat) : Int) = 0 from rfl, List.take_zero, List.map_nil, List.nil_append, List.drop_zero] at hr
  rw [hr, Option.bind_some]
  congr 1
  unfold WG
  apply List.map_congr_left
  intro e _
  congr 1
  exact List.Perm.countP_eq _ ((List.perm_ext_iff_of_nodup (cnt_nodup (g := g) (by omega)) (fs_nodup g [])).2 fun p => by rw [cnt_mem (by omega), fs_mem]; simp)
/-! ### The document's -/
abbrev pq (p : ferrymanref06_Place) : Pl := ⟨p.Task, p.Call⟩
theorem eqPl (x y : ferrymanref06_Place) : ((x.Task == y.Task) && (x.Call == y.Call)) = decide (pq x = pq y) := by
  obtain ⟨a, b⟩ := x
  obtain ⟨c, d⟩ := y
  rw [Bool.eq_iff_iff]
  simp [pq]
theorem has_run {a : List ferrymanref06_Place} {n : Nat} {p : ferrymanref06_Place} (hn : n ≤ a.length) (ha : a.length ≤ 1000) : ∀ (d k i : Nat), i + d = n → d < k →
    ferrymanref06_has_l0 a (n : Int) p k (i : Int) = some (if pq p ∈ ((a.take n).drop i).map pq then .inl true else .inr ())
  | 0, k, i, hi, hk => by
    obtain ⟨k, rfl⟩ : ∃ q, k = q + 1 := ⟨k - 1, by omega⟩
    rw [ferrymanref06_has_l0.eq_2, if_neg (by simp; omega), List.drop_of_length_le (by simp; omega)]; simp
  | d + 1, k, i, hi, hk => by
    obtain ⟨k, rfl⟩ : ∃ q, k = q + 1 := ⟨k - 1, by omega⟩
    have hlt : i < a.length := by omega
    have hlt' : i < (a.take n).length := by simp; omega
    rw [ferrymanref06_has_l0.eq_2, if_pos (by simp; omega), if_pos (inR hlt), rdN hlt, eqPl, List.drop_eq_getElem_cons hlt', List.getElem_take]
    by_cases e : pq a[i] = pq p
    · rw [if_pos (by simpa using e), if_pos (by simp [e])]
    · rw [if_neg (by simpa using e), wr1 (by omega), has_run hn ha d k (i + 1) (by omega) (by omega)]
      have e' : ¬ pq p = pq a[i] := fun h => e h.symm
      congr 1
      simp only [List.map_cons, List.mem_cons, e', false_or]
theorem has_eq {k : Nat} {a : List ferrymanref06_Place} {n : Nat} {p : ferrymanref06_Place} (hn : n ≤ a.length) (ha : a.length ≤ 1000) (hk : 2000 ≤ k) : ferrymanref06_has k a (n : Int) p = some (decide (pq p ∈ (a.take n).map pq)) := by
  unfold ferrymanref06_has
  have h := has_run hn ha n k 0 (by omega) (by omega) (p := p)
  rw [show ((0 : Nat) : Int) = 0 from rfl, List.drop_zero] at h
  rw [h]
  by_cases c : pq p ∈ (a.take n).map pq
  · simp only [if_pos c, decide_eq_true c]; rfl
  · simp only [if_neg c, decide_eq_false c]; rfl
theorem less_run {h : List Ev} {g : List ferrymanref06_Place} (hg : g.length ≤ 100) {q : Nat} (hq : q < h.length) : ∀ (d k i : Nat) (x : Int), i + d = g.length → d + 3000 < k → 0 ≤ x → x ≤ (i : Int) →
    ferrymanref06_Without_l8 h g (q : Int) k x (i : Int) = some (x + ((fs ((g.take i).map pq) ((g.drop i).map pq)).countP (below h[q]) : Nat))
  | 0, k, i, x, hi, hk, h0, h1 => by
    obtain ⟨k, rfl⟩ : ∃ q, k = q + 1 := ⟨k - 1, by omega⟩
    rw [ferrymanref06_Without_l8.eq_2, if_neg (by simp; omega), List.drop_of_length_le (by omega)]; simp [fs]
  | d + 1, k, i, x, hi, hk, h0, h1 => by
    obtain ⟨k, rfl⟩ : ∃ q, k = q + 1 := ⟨k - 1, by omega⟩
    have hlt : i < g.length := by omega
    rw [ferrymanref06_Without_l8.eq_2, if_pos (by simp; omega), if_pos (inR hlt)]
    simp only [if_pos (inR hlt)]
    rw [has_eq (by omega) (by omega) (by omega), rdN hlt, rdN hq]
    rw [List.drop_eq_getElem_cons hlt, List.map_cons]
    unfold fs
    rw [List.countP_append]
    have htk : (g.take i).map pq ++ [pq g[i]] = (g.take (i + 1)).map pq := by
      rw [List.take_add_one, List.getElem?_eq_getElem hlt, List.map_append]; rfl
    rw [htk]
    have hval : (Option.bind (α := Bool) (if (g[i].Task == h[q].Task) = true then some (decide (g[i].Call ≥ (0 : Int))) else some false) fun y => Option.bind (α := Bool) (if y = true then some (decide (g[i].Call < h[q].Call)) else some false) fun y => Option.bind (α := Bool) (if y = true then Option.bind (some (decide (pq g[i] ∈ (g.take i).map pq))) (fun t => some (!t)) else some false) fun y => Option.bind (α := Int) (if y = true then some (IntKind.i64.wrap (x + 1)) else some x) fun z => some z) = some (x + ((if pq g[i] ∈ (g.take i).map pq then [] else [pq g[i]]).countP (below h[q]) : Nat)) := by
      by_cases c1 : g[i].Task = h[q].Task
      · by_cases c2 : g[i].Call ≥ 0
        · by_cases c3 : g[i].Call < h[q].Call
          · by_cases c4 : pq g[i] ∈ (g.take i).map pq
            · rw [if_pos c4]; simp only [c1, c2, c3, decide_eq_true c4]; simp
            · rw [if_neg c4, List.countP_singleton, wr (by omega) (by omega)]
              have : below h[q] (pq g[i]) = true := by unfold below; simp [c1, c2, c3]
              rw [this]
              simp only [c1, c2, c3, decide_eq_false c4]; simp
          · have : below h[q] (pq g[i]) = false := by unfold below; simp [c3]
            have e : ((if pq g[i] ∈ (g.take i).map pq then [] else [pq g[i]]).countP (below h[q])) = 0 := by split <;> simp [this]
            rw [e]; simp [c1, c2, c3]
        · have : below h[q] (pq g[i]) = false := by unfold below; simp [c2]
          have e : ((if pq g[i] ∈ (g.take i).map pq then [] else [pq g[i]]).countP (below h[q])) = 0 := by split <;> simp [this]
          rw [e]; simp [c1, c2]
      · have : below h[q] (pq g[i]) = false := by unfold below; simp [c1]
        have e : ((if pq g[i] ∈ (g.take i).map pq then [] else [pq g[i]]).countP (below h[q])) = 0 := by split <;> simp [this]
        rw [e]; simp [c1]
    rw [hval, Option.bind_some, wr1 (by omega)]
    have hle : ((if pq g[i] ∈ (g.take i).map pq then [] else [pq g[i]]).countP (below h[q])) ≤ 1 := by
      refine Nat.le_trans List.countP_le_length ?_
      split <;> simp
    rw [less_run hg hq d k (i + 1) _ (by omega) (by omega) (by omega) (by omega)]
    congr 1
    omega
def wgStep (g : List Pl) (e : Ev) (acc : List Ev) : List Ev := if decide (pl e ∈ g) = true then acc else acc ++ [dec ((fs [] g).countP (below e)) e]
theorem runL_wg (g : List Pl) : ∀ (h acc : List Ev), runL (R := List Ev) (fun e acc => .inl (wgStep g e acc)) id h acc = acc ++ WG h g
  | [], acc => by simp [runL, WG]
  | e :: h, acc => by
    show runL _ _ h (wgStep g e acc) = _
    rw [runL_wg g h]
    unfold wgStep WG
    by_cases c : pl e ∈ g
    · simp [c]
    · simp [c]
theorem RWithout_eq {k : Nat} {h : List Ev} {g : List ferrymanref06_Place} (hs : Sm h) (hc : Cl h) (hg : g.length ≤ 100) (hk : 20000 ≤ k) : ferrymanref06_Without k h g = some (WG h (g.map pq)) := by
  unfold ferrymanref06_Without
  have hl := hs.1
  have hrun := loop_run0 (a := h) (fun k i (s : List Ev) => ferrymanref06_Without_l4 h g k s i) (fun i s => s.length ≤ i) (fun e acc => .inl (wgStep (g.map pq) e acc)) id 5000 (by omega)
    (fun k s _ _ => by rw [ferrymanref06_Without_l4.eq_2, if_neg (by simp)]; rfl) (fun k i s hi hI hk => by
      refine ⟨fun s' e => ?_, fun r e => by cases e⟩
      cases e
      rw [ferrymanref06_Without_l4.eq_2, if_pos (by simpa using hi), if_pos (inR hi), has_eq (Nat.le_refl _) (by omega) (by omega), rdN hi, List.take_length]
      unfold wgStep
      have hpl : pl h[i] = pq ⟨h[i].Task, h[i].Call⟩ := rfl
      rw [hpl]
      by_cases c : pq ⟨h[i].Task, h[i].Call⟩ ∈ g.map pq
      · simp only [decide_eq_true c, Option.bind_some, if_true]
        exact ⟨trivial, by omega⟩
      · have hless := less_run hg hi g.length k 0 0 (by omega) (by omega) (Int.le_refl _) (Int.le_refl _)
        rw [show ((0 : Nat) : Int) = 0 from rfl, List.take_zero, List.drop_zero, List.map_nil, Int.zero_add] at hless
        have hcc := hc _ (List.getElem_mem hi)
        have hok := below_ok (e := h[i]) (l := fs [] (g.map pq)) (by
          have : ∀ (l seen : List Pl), (fs seen l).length ≤ l.length := by
            intro l
            induction l with
            | nil => intro seen; simp [fs]
            | cons x l ih =>
              intro seen
              have := ih (seen ++ [x])
              unfold fs
              rw [List.length_append]
              split <;> simp <;> omega
          have := this (g.map pq) []
          simp at this; omega) hcc.1
        simp only [decide_eq_false c, Option.bind_some, Bool.false_eq_true, if_false]
        rw [hless, Option.bind_some, if_pos (by simp only [List.length_cons, List.length_nil]; omega), wr (by omega) (by omega), Option.bind_some]
        refine ⟨rfl, by simp only [List.length_append, List.length_cons, List.length_nil]; omega⟩) (k := k) (s := []) (by omega) (Nat.le_refl _)
  rw [hrun, runL_wg]; rfl
theorem RBare_eq {k : Nat} {a : List Ev} (ha : a.length ≤ 9000) (hk : 10000 ≤ k) : ferrymanref06_Bare k a = some (a.filter fun x => !(x.What == 2)) := by
  unfold ferrymanref06_Bare
  have h := loop_run0 (a := a) (fun k i (s : List Ev) => ferrymanref06_Bare_l0 a k s i) (fun i s => s.length ≤ i) (fun x acc => .inl (if (!(x.What == 2)) = true then acc ++ [x] else acc)) id 0 (by omega)
    (fun k s _ _ => by rw [ferrymanref06_Bare_l0.eq_2, if_neg (by simp)]; rfl) (fun k i s hi hI _ => by
      refine ⟨fun s' hs => ?_, fun r hr => by cases hr⟩
      cases hs
      rw [ferrymanref06_Bare_l0.eq_2, if_pos (by simpa using hi), if_pos (inR hi), rdN hi]
      by_cases e : a[i].What = 2
      · rw [if_neg (by simpa using e), if_neg (by simpa using e)]
        exact ⟨rfl, by omega⟩
      · rw [if_pos (by simpa using e), if_pos (inR hi), if_pos (by simp only [List.length_cons, List.length_nil]; omega), if_pos (by simpa using e)]
        refine ⟨rfl, by simp only [List.length_append, List.length_cons, List.length_nil]; omega⟩) (k := k) (s := []) (by omega) (Nat.le_refl _)
  rw [h, runL_filter]; rfl
theorem fresh_eq {k : Nat} {a : List Ev} (ha : Sm a) (hk : 20000 ≤ k) : ferrymanlaw06_fresh k a = some a := by
  unfold ferrymanlaw06_fresh
  have ha1 := ha.1
  have h := loop_run0 (a := a) (fun k i (s : List Ev) => ferrymanlaw06_fresh_l0 a k s i) (fun i s => s.length = i) (fun x acc => .inl (acc ++ [x])) id 0 (by omega)
    (fun k s _ _ => by rw [ferrymanlaw06_fresh_l0.eq_2, if_neg (by simp)]; rfl) (fun k i s hi hI _ => by
      have := ha.2 _ (List.getElem_mem hi)
      rw [ferrymanlaw06_fresh_l0.eq_2, if_pos (by simpa using hi), if_pos (inR hi), rdN hi, if_pos (by simp only [List.length_nil]; omega), Option.bind_some, if_pos (by simp only [List.length_cons, List.length_nil]; omega)]
      refine ⟨fun s' hs => ?_, fun r hr => by cases hr⟩
      cases hs
      exact ⟨rfl, by simp [hI]⟩) (k := k) (s := []) (by omega) rfl
  rw [h, runL_app]; rfl
theorem given_eq {k : Nat} {a : List ferrymanref06_Place} (ha : a.length ≤ 1000) (hk : 2000 ≤ k) : ferrymanlaw06_given k a = some (a.map fun p => (⟨p.Task, p.Call⟩ : Pl)) := by
  unfold ferrymanlaw06_given
  have hrun := loop_run0 (a := a) (fun k i (s : List Pl) => ferrymanlaw06_given_l0 a k s i) (fun i s => s.length = i) (fun x acc => .inl (acc ++ [(⟨x.Task, x.Call⟩ : Pl)])) id 0 (by omega)
    (fun k s _ _ => by rw [ferrymanlaw06_given_l0.eq_2, if_neg (by simp)]; rfl) (fun k i s hi hI _ => by
      rw [ferrymanlaw06_given_l0.eq_2, if_pos (by simpa using hi), if_pos (inR hi), rdN hi, if_pos (by simp only [List.length_cons, List.length_nil]; omega)]
      refine ⟨fun s' hs => ?_, fun r hr => by cases hr⟩
      cases hs
      exact ⟨rfl, by simp [hI]⟩) (k := k) (s := []) (by omega) rfl
  have key : ∀ (l : List ferrymanref06_Place) (acc : List Pl), runL (R := List Pl) (fun x acc => .inl (acc ++ [(⟨x.Task, x.Call⟩ : Pl)])) id l acc = acc ++ l.map fun p => (⟨p.Task, p.Call⟩ : Pl) := by
    intro l
    induction l with
    | nil => intro acc; simp [runL]
    | cons x l ih => intro acc; show runL _ _ l (acc ++ [_]) = _; rw [ih]; simp
  rw [hrun, key]; rfl
theorem Equal_eq {k : Nat} {a b : List api_Pair} (ha : a.length ≤ 3000) (hk : 4000 ≤ k) : slices_Equal_api_Pair_api_Pair k a b = some (decide (a = b)) := by
  unfold slices_Equal_api_Pair_api_Pair
  by_cases hl : a.length = b.length
  · have h := loop_run0 (a := a) (fun k i (s : List api_Pair) => slices_Equal_api_Pair_api_Pair_l0 a b k i) (fun i s => s = b.drop i) (K0 := 0) (ha := by omega)
      (step := eqStep) (fin := fun _ => (Sum.inr () : Bool ⊕ Unit))
      (fun k s _ _ => by rw [slices_Equal_api_Pair_api_Pair_l0.eq_2, if_neg (by simp)]) (fun k i s hi hI _ => by
        subst hI
        have hi' : i < b.length := by omega
        rw [slices_Equal_api_Pair_api_Pair_l0.eq_2, if_pos (by simpa using hi), if_pos (inR hi), if_pos (inR hi'), rdN hi, rdN hi', eqP, List.drop_eq_getElem_cons hi']
        by_cases e : a[i] = b[i]
        · simp [e, eqStep]
        · simp [e, eqStep]) (k := k) (s := b) (by omega) rfl
    rw [if_neg (by simp [hl]), h, runL_eqs a b hl]
    by_cases e : a = b <;> simp [e]
  · rw [if_pos (by simp; omega)]
    have : a ≠ b := fun e => hl (by rw [e])
    simp [this]
theorem eqE (x y : Ev) : (((((((x.What == y.What) && (x.Task == y.Task)) && (x.Call == y.Call)) && (x.Answer.Err == y.Answer.Err)) && (x.Answer.Found == y.Answer.Found)) && (sbin .eql x.Answer.Value y.Answer.Value)) && decide (x.Answer.Pairs = y.Answer.Pairs)) = decide (x = y) := by
  obtain ⟨a, b, c, d, e, f, g⟩ := x
  obtain ⟨a', b', c', d', e', f', g'⟩ := y
  rw [Bool.eq_iff_iff]
  simp only [sbin, Bool.and_eq_true, beq_iff_eq, decide_eq_true_eq, api_Event.mk.injEq, api_Answer.mk.injEq]
  constructor
  · rintro ⟨⟨⟨⟨⟨⟨h1, h2⟩, h3⟩, h4⟩, h5⟩, h6⟩, h7⟩; exact ⟨h1, h2, h3, h4, h5, h6, h7⟩
  · rintro ⟨h1, h2, h3, h4, h5, h6, h7⟩; exact ⟨⟨⟨⟨⟨⟨h1, h2⟩, h3⟩, h4⟩, h5⟩, h6⟩, h7⟩
theorem Same1_eq {k : Nat} {x y : Ev} (hx : x.Answer.Pairs.length ≤ 3000) (hk : 4000 ≤ k) : event_Same_1_v k x y = some (decide (x = y)) := by
  unfold event_Same_1_v
  rw [← eqE]
  cases h : ((((((x.What == y.What) && (x.Task == y.Task)) && (x.Call == y.Call)) && (x.Answer.Err == y.Answer.Err)) && (x.Answer.Found == y.Answer.Found)) && (sbin .eql x.Answer.Value y.Answer.Value))
  · simp
  · simp [Equal_eq hx hk]
theorem Same_eq {k : Nat} {a b : List Ev} (ha : Sm a) (hk : 20000 ≤ k) : event_Same k a b = some (decide (a = b)) := by
  unfold event_Same slices_EqualFunc_api_Event_api_Event_api_Event_api_Event_Same_1
  have ha1 := ha.1
  by_cases hl : a.length = b.length
  · have h := loop_run0 (a := a) (fun k i (s : List Ev) => slices_EqualFunc_api_Event_api_Event_api_Event_api_Event_Same_1_l0 a b k i) (fun i s => s = b.drop i) (K0 := 4000) (ha := by omega)
      (step := eqStep) (fin := fun _ => (Sum.inr () : Bool ⊕ Unit))
      (fun k s _ _ => by rw [slices_EqualFunc_api_Event_api_Event_api_Event_api_Event_Same_1_l0.eq_2, if_neg (by simp)]) (fun k i s hi hI hk => by
        subst hI
        have hi' : i < b.length := by omega
        rw [slices_EqualFunc_api_Event_api_Event_api_Event_api_Event_Same_1_l0.eq_2, if_pos (by simpa using hi), if_pos (inR hi), if_pos (inR hi'), rdN hi, rdN hi', Same1_eq (ha.2 _ (List.getElem_mem hi)) hk, List.drop_eq_getElem_cons hi']
        by_cases e : a[i] = b[i]
        · simp [e, eqStep]
        · simp [e, eqStep]) (k := k) (s := b) (by omega) rfl
    rw [if_neg (by simp [hl]), h, runL_eqs a b hl]
    by_cases e : a = b <;> simp [e]
  · rw [if_pos (by simp; omega)]
    have : a ≠ b := fun e => hl (by rw [e])
    simp [this]
/-! ### What is told, written over -/
theorem spoil_in {t : List Ev} {q : Nat} {F : Nat → Int → Option Unit} (hq : q < t.length) (hF : ∀ k x, F (k + 1) x = (if 0 ≤ (q : Int) ∧ (q : Int) < (t.length : Int) then (if (decide (x < (((rd t (q : Int)).Answer.Pairs).length : Int))) = true then (if 0 ≤ (q : Int) ∧ (q : Int) < (t.length : Int) then (if 0 ≤ x ∧ x < (((rd t (q : Int)).Answer.Pairs).length : Int) then F k (IntKind.i64.wrap (x + (1 : Int))) else none) else none) else some ()) else none))
    (hp : t[q].Answer.Pairs.length ≤ 9000) : ∀ (n k i : Nat), i + n = t[q].Answer.Pairs.length → n < k → F k (i : Int) = some ()
  | 0, k, i, h, hk => by
    obtain ⟨k, rfl⟩ : ∃ q, k = q + 1 := ⟨k - 1, by omega⟩
    rw [hF, if_pos (inR hq), rdN hq, if_neg (by simp; omega)]
  | n + 1, k, i, h, hk => by
    obtain ⟨k, rfl⟩ : ∃ q, k = q + 1 := ⟨k - 1, by omega⟩
    rw [hF, if_pos (inR hq), rdN hq, if_pos (by simp; omega), if_pos (inR hq), if_pos (by omega), wr1 (by omega)]
    exact spoil_in hq hF hp n k (i + 1) (by omega) (by omega)
theorem spoil_out {t : List Ev} {G : Nat → Int → Option Unit} {F : Int → Nat → Int → Option Unit} (hG : ∀ k x, G (k + 1) x = (if (decide (x < (t.length : Int))) = true then (if 0 ≤ x ∧ x < (t.length : Int) then (Option.bind (F x k (0 : Int)) (fun _ => G k (IntKind.i64.wrap (x + (1 : Int))))) else none) else some ()))
    (hF : ∀ (q : Nat) (k : Nat), q < t.length → 3000 < k → F (q : Int) k 0 = some ()) (hs : Sm t) : ∀ (n k i : Nat), i + n = t.length → n + 3000 < k → G k (i : Int) = some ()
  | 0, k, i, h, hk => by
    obtain ⟨k, rfl⟩ : ∃ q, k = q + 1 := ⟨k - 1, by omega⟩
    rw [hG, if_neg (by simp; omega)]
  | n + 1, k, i, h, hk => by
    obtain ⟨k, rfl⟩ : ∃ q, k = q + 1 := ⟨k - 1, by omega⟩
    have hi : i < t.length := by omega
    have hl := hs.1
    rw [hG, if_pos (by simpa using hi), if_pos (inR hi), hF i k hi (by omega), Option.bind_some, wr1 (by omega)]
    exact spoil_out hG hF hs n k (i + 1) (by omega) (by omega)
theorem spoil_a {t : List Ev} (hs : Sm t) {k : Nat} (hk : 20000 ≤ k) : ferrymanlaw06_EventTells_l2 t k 0 = some () := by
  have hl := hs.1
  exact spoil_out (G := ferrymanlaw06_EventTells_l2 t) (F := ferrymanlaw06_EventTells_l4 t) (fun k x => by rw [ferrymanlaw06_EventTells_l2.eq_2]) (fun q k hq hk => by
    have := hs.2 _ (List.getElem_mem hq)
    exact spoil_in (F := ferrymanlaw06_EventTells_l4 t q) hq (fun k x => by rw [ferrymanlaw06_EventTells_l4.eq_2]) (by omega) _ k 0 (Nat.zero_add _) (by omega)) hs _ k 0 (Nat.zero_add _) (by omega)
theorem spoil_b {t : List Ev} (hs : Sm t) {k : Nat} (hk : 20000 ≤ k) : ferrymanlaw06_EventTells_l7 t k 0 = some () := by
  have hl := hs.1
  exact spoil_out (G := ferrymanlaw06_EventTells_l7 t) (F := ferrymanlaw06_EventTells_l9 t) (fun k x => by rw [ferrymanlaw06_EventTells_l7.eq_2]) (fun q k hq hk => by
    have := hs.2 _ (List.getElem_mem hq)
    exact spoil_in (F := ferrymanlaw06_EventTells_l9 t q) hq (fun k x => by rw [ferrymanlaw06_EventTells_l9.eq_2]) (by omega) _ k 0 (Nat.zero_add _) (by omega)) hs _ k 0 (Nat.zero_add _) (by omega)
theorem WG_sm {h : List Ev} {g : List Pl} (hs : Sm h) : Sm (WG h g) := by
  unfold WG
  refine ⟨?_, fun x hx => ?_⟩
  · rw [List.length_map]; exact Nat.le_trans (List.length_filter_le _ _) hs.1
  · obtain ⟨e, he, rfl⟩ := List.mem_map.1 hx
    exact hs.2 e (List.mem_filter.1 he).1
theorem filter_sm {h : List Ev} {p : Ev → Bool} (hs : Sm h) : Sm (h.filter p) := ⟨Nat.le_trans (List.length_filter_le _ _) hs.1, fun x hx => hs.2 x (List.mem_filter.1 hx).1⟩
theorem wf_rng {x : Ev} (h : wf_api_Event x) : (0 ≤ x.What ∧ x.What ≤ 255) ∧ -9223372036854775808 ≤ x.Call ∧ x.Call ≤ 9223372036854775807 := by
  obtain ⟨h1, _, h2, _⟩ := h
  simp only [wfInt, Lit.wf, Bool.and_eq_true, decide_eq_true_eq] at h1 h2
  have e1 : IntKind.u8.min = 0 := by decide
  have e2 : IntKind.u8.max = 255 := by decide
  have e3 : IntKind.i64.min = -9223372036854775808 := by decide
  have e4 : IntKind.i64.max = 9223372036854775807 := by decide
  omega
theorem pure_EventTells (a0 : Int) (a1 : (List api_Event)) (a2 : (List api_Event)) (a3 : (List ferrymanref06_Place)) (_ : (wfInt .i64) a0) (h1 : (wfSl wf_api_Event) a1) (h2 : (wfSl wf_api_Event) a2) (h3 : (wfSl wf_ferrymanref06_Place) a3) : ∃ k, ferrymanlaw06_EventTells k a0 a1 a2 a3 = some true := by
  have hlen1 : a1.length ≤ 9223372036854775807 := Nat.le_trans h1.1 (by decide)
  have hlen2 : a2.length ≤ 9223372036854775807 := Nat.le_trans h2.1 (by decide)
  refine ⟨a1.length + a2.length + 80000, ?_⟩
  unfold ferrymanlaw06_EventTells
  rw [wide_eq hlen1 (by omega), wide_eq hlen2 (by omega), works_up (by omega)]
  by_cases hw1 : runL wideStep id a1 (a1.length : Int) ≥ 3000
  · simp [hw1]
  · by_cases hw2 : runL wideStep id a2 (a2.length : Int) ≥ 3000
    · simp [hw1, hw2]
    · by_cases hw3 : (a3.length : Int) > 100
      · simp [hw1, hw2, hw3]
      · obtain ⟨hl1, hs1⟩ := wide_sm hw1
        obtain ⟨hl2, hs2⟩ := wide_sm hw2
        have hg : a3.length ≤ 100 := by omega
        have hW : ∀ x ∈ a1, 0 ≤ x.What ∧ x.What ≤ 255 := fun x hx => (wf_rng (h1.2 x hx)).1
        have hC : Cl a1 := fun x hx => (wf_rng (h1.2 x hx)).2
        rw [fresh_eq hs1 (by omega), Bare_eq hs1 (by omega), given_eq (by omega) (by omega)]
        simp only [Option.bind_some, hw1, hw2, hw3, decide_false, Bool.false_eq_true, if_false, Bool.or_self]
        have hgl : (a3.map fun p => (⟨p.Task, p.Call⟩ : Pl)).length ≤ 100 := by simpa using hg
        rw [Without_eq hs1 hC hgl (by omega), Legal_eq hs1 (by omega), RLegal_eq hs1 hW (by omega), RBare_eq (by omega) (by omega), RWithout_eq hs1 hC hg (by omega)]
        have hf := filter_sm (p := fun x => !(x.What == 2)) hs1
        have hWG := WG_sm (g := a3.map pq) hs1
        simp only [Option.bind_some, BEq.rfl, Bool.not_true, Bool.false_eq_true, if_false]
        rw [RSame_eq hf (by omega), RSame_eq hWG (by omega), Same_eq hs1 (by omega), RSame_eq hs1 (by omega), RSame_eq hs1 (by omega)]
        simp only [Option.bind_some, BEq.rfl, Bool.not_true, Bool.false_eq_true, if_false, decide_true, if_true]
        rw [spoil_a hf (by omega), spoil_b hWG (by omega)]
        simp only [Option.bind_some]
end Go.Proofs.Ytninegjnkkcepaa
