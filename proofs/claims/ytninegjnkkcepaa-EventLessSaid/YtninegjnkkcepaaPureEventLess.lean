/-  The plain law EventLess. -/
import Derived.Test.YtninegjnkkcepaaPureEventParts
import Derived.Test.YtninegjnkkcepaaPureEventLegal
import Derived.Test.YtninegjnkkcepaaGe1LEventLess
namespace Go.Proofs.Ytninegjnkkcepaa
open Go Go.RowKit
set_option linter.unusedVariables false
set_option linter.unusedSimpArgs false
abbrev Pl := event_Place
def pl (e : Ev) : Pl := ⟨e.Task, e.Call⟩
/-! ### What is deleted -/
theorem index_run {P : Nat → Ev → Option Bool} {p : Ev → Bool} {a : List Ev} {F : Nat → Int → Option (Int ⊕ Unit)} (hP : ∀ k x, P k x = some (p x))
    (hF : ∀ k i, F (k + 1) i = (if (decide (i < (a.length : Int))) = true then (if 0 ≤ i ∧ i < (a.length : Int) then (Option.bind (P k (rd a i)) (fun t => (if t = true then some (.inl i) else F k (IntKind.i64.wrap (i + (1 : Int)))))) else none) else some (.inr ()))) (ha : a.length ≤ 9000) :
    ∀ (n k i : Nat), i + n = a.length → n < k → F k (i : Int) = some (if (a.drop i).any p = true then .inl ((i + ((a.drop i).takeWhile fun x => !p x).length : Nat) : Int) else .inr ()) := by
  intro n
  induction n with
  | zero =>
    intro k i hi hk
    obtain ⟨k, rfl⟩ : ∃ q, k = q + 1 := ⟨k - 1, by omega⟩
    rw [hF, if_neg (by simp; omega), List.drop_of_length_le (by omega)]; rfl
  | succ n ih =>
    intro k i hi hk
    obtain ⟨k, rfl⟩ : ∃ q, k = q + 1 := ⟨k - 1, by omega⟩
    have hlt : i < a.length := by omega
    rw [hF, if_pos (by simpa using hlt), if_pos (inR hlt), hP, Option.bind_some, List.drop_eq_getElem_cons hlt, rdN hlt]
    cases hp : p a[i]
    · rw [if_neg (by simp), wr1 (by omega), ih k (i + 1) (by omega) (by omega)]
      rw [List.takeWhile_cons_of_pos (by simp [hp]), List.any_cons, hp, Bool.false_or]
      congr 1
      split
      · congr 1
        simp only [List.length_cons]; omega
      · rfl
    · rw [if_pos rfl, List.any_cons, hp, Bool.true_or, if_pos rfl, List.takeWhile_cons_of_neg (by simp [hp])]; rfl
theorem del_run {P : Nat → Ev → Option Bool} {p : Ev → Bool} {F : Nat → List Ev → Int → Int → Option (List Ev × Int)} (hP : ∀ k x, P k x = some (p x))
    (hF : ∀ k s w r, F (k + 1) s w r = (if (decide (r < (s.length : Int))) = true then (Option.bind (α := List Ev × Int) (if 0 ≤ r ∧ r < (s.length : Int) then (Option.bind (P k (rd s r)) (fun t => (Option.bind (α := List Ev × Int) (if (!t) = true then (if 0 ≤ w ∧ w < (s.length : Int) then (Option.bind (α := List Ev) (some (List.set s w.toNat (rd s r))) (fun x => some (x, (IntKind.i64.wrap (w + (1 : Int)))))) else none) else some (s, w)) (fun ⟨a, b⟩ => some (a, b))))) else none) (fun ⟨a, b⟩ => F k a b (IntKind.i64.wrap (r + (1 : Int))))) else some (s, w)))
    {a : List Ev} (ha : a.length ≤ 9000) : ∀ (n k r w : Nat) (s : List Ev), r + n = a.length → n < k → w ≤ r → s.length = a.length → s.take w = (a.take r).filter (fun x => !p x) → s.drop r = a.drop r →
      ∃ (s' : List Ev) (w' : Nat), F k s (w : Int) (r : Int) = some (s', (w' : Int)) ∧ s'.length = a.length ∧ w' ≤ a.length ∧ s'.take w' = a.filter (fun x => !p x) := by
  intro n
  induction n with
  | zero =>
    intro k r w s hr hk hw hl ht hd
    obtain ⟨k, rfl⟩ : ∃ q, k = q + 1 := ⟨k - 1, by omega⟩
    refine ⟨s, w, by rw [hF, if_neg (by simp; omega)], hl, by omega, ?_⟩
    rw [ht, List.take_of_length_le (by omega)]
  | succ n ih =>
    intro k r w s hr hk hw hl ht hd
    obtain ⟨k, rfl⟩ : ∃ q, k = q + 1 := ⟨k - 1, by omega⟩
    have hlt : r < s.length := by omega
    have hlt' : r < a.length := by omega
    have hsr : s[r] = a[r] := by
      have := congrArg (fun z : List Ev => z[0]?) hd
      simpa [List.getElem?_drop, List.getElem?_eq_getElem hlt, List.getElem?_eq_getElem hlt'] using this
    have htk : (a.take (r + 1)).filter (fun x => !p x) = (a.take r).filter (fun x => !p x) ++ if p a[r] = true then [] else [a[r]] := by
      rw [List.take_add_one, List.filter_append, List.getElem?_eq_getElem hlt']
      cases hp : p a[r] <;> simp [hp]
    rw [hF, if_pos (by simpa using hlt), if_pos (inR hlt), hP, Option.bind_some, rdN hlt, hsr]
    cases hp : p a[r]
    · rw [if_pos (by rfl), if_pos (by omega), Option.bind_some, Option.bind_some, Option.bind_some]
      dsimp only
      rw [wr1 (by omega), wr1 (by omega)]
      have hwl : w < s.length := by omega
      refine ih k (r + 1) (w + 1) _ (by omega) (by omega) (by omega) (by simpa using hl) ?_ ?_
      · rw [htk, hp, ← ht]
        have : ((w : Int)).toNat = w := by omega
        rw [this, List.take_add_one, List.getElem?_set_self hwl, List.take_set_of_le (Nat.le_refl _)]
        simp
      · have : ((w : Int)).toNat = w := by omega
        rw [this, List.drop_set_of_lt (by omega)]
        have := congrArg (List.drop 1) hd
        rw [List.drop_drop, List.drop_drop] at this
        exact this
    · rw [if_neg (by simp), Option.bind_some, Option.bind_some]
      dsimp only
      rw [wr1 (by omega)]
      refine ih k (r + 1) w _ (by omega) (by omega) (by omega) hl ?_ ?_
      · rw [htk, hp, ht]; simp
      · have := congrArg (List.drop 1) hd
        rw [List.drop_drop, List.drop_drop] at this
        exact this
theorem tw_split (p : Ev → Bool) : ∀ a : List Ev, a.any p = true → ∃ j, (a.takeWhile fun x => !p x).length = j ∧ ∃ h : j < a.length, p a[j] = true ∧ (a.take j).filter (fun x => !p x) = a.take j
  | [], h => by cases h
  | x :: a, h => by
    cases hp : p x
    · rw [List.any_cons, hp, Bool.false_or] at h
      obtain ⟨j, h1, h2, h3, h4⟩ := tw_split p a h
      refine ⟨j + 1, by rw [List.takeWhile_cons_of_pos (by simp [hp]), List.length_cons, h1], by simp only [List.length_cons]; omega, by simpa using h3, ?_⟩
      rw [List.take_succ_cons, List.filter_cons_of_pos (by simp [hp]), h4]
    · exact ⟨0, by rw [List.takeWhile_cons_of_neg (by simp [hp])]; rfl, by simp, by simpa using hp, rfl⟩
theorem del_all {P : Nat → Ev → Option Bool} {p : Ev → Bool} {F1 : Nat → Int → Option (Int ⊕ Unit)} {F : Nat → List Ev → Int → Int → Option (List Ev × Int)} (hP : ∀ k x, P k x = some (p x)) {a : List Ev}
    (hF1 : ∀ k i, F1 (k + 1) i = (if (decide (i < (a.length : Int))) = true then (if 0 ≤ i ∧ i < (a.length : Int) then (Option.bind (P k (rd a i)) (fun t => (if t = true then some (.inl i) else F1 k (IntKind.i64.wrap (i + (1 : Int)))))) else none) else some (.inr ())))
    (hF : ∀ k s w r, F (k + 1) s w r = (if (decide (r < (s.length : Int))) = true then (Option.bind (α := List Ev × Int) (if 0 ≤ r ∧ r < (s.length : Int) then (Option.bind (P k (rd s r)) (fun t => (Option.bind (α := List Ev × Int) (if (!t) = true then (if 0 ≤ w ∧ w < (s.length : Int) then (Option.bind (α := List Ev) (some (List.set s w.toNat (rd s r))) (fun x => some (x, (IntKind.i64.wrap (w + (1 : Int)))))) else none) else some (s, w)) (fun ⟨a, b⟩ => some (a, b))))) else none) (fun ⟨a, b⟩ => F k a b (IntKind.i64.wrap (r + (1 : Int))))) else some (s, w)))
    (ha : a.length ≤ 9000) {k : Nat} (hk : 9000 < k) :
    (Option.bind (Option.bind (F1 k (0 : Int)) (fun o => Sum.elim (fun r' => some r') (fun _ => some (-1 : Int)) o)) (fun t1 => (if (t1 == (-1 : Int)) = true then some a else (Option.bind (F k a t1 (IntKind.i64.wrap (t1 + (1 : Int)))) (fun ⟨x, y⟩ => (if 0 ≤ y ∧ y ≤ (x.length : Int) then (Option.bind (α := List Ev) (some (List.take y.toNat x ++ List.replicate (x.length - y.toNat) (⟨0, 0, 0, ⟨0, false, [], []⟩⟩ : Ev))) (fun z => (if 0 ≤ y ∧ y ≤ (z.length : Int) then some (List.take y.toNat z) else none))) else none)))))) = some (a.filter fun x => !p x) := by
  have h1 := index_run hP hF1 ha a.length k 0 (by omega) (by omega)
  rw [show ((0 : Nat) : Int) = 0 from rfl, List.drop_zero] at h1
  rw [h1, Option.bind_some]
  by_cases hany : a.any p = true
  · rw [if_pos hany]
    obtain ⟨j, hj, hjl, hpj, hall⟩ := tw_split p a hany
    rw [hj]
    rw [Nat.zero_add]
    simp only [Sum.elim_inl, Option.bind_some]
    rw [if_neg (by simp), wr1 (by omega)]
    obtain ⟨s', w', e1, e2, e3, e4⟩ := del_run hP hF ha (a.length - (j + 1)) k (j + 1) j a (by omega) (by omega) (by omega) rfl (by
      rw [List.take_add_one, List.filter_append, hall, List.getElem?_eq_getElem hjl]; simp [hpj]) rfl
    rw [e1, Option.bind_some]
    dsimp only
    have ew : ((w' : Int)).toNat = w' := by omega
    rw [if_pos (by omega), if_pos (by simp only [List.length_append, List.length_take, List.length_replicate]; omega), ew]
    rw [List.take_append_of_le_length (by simp; omega), List.take_take, Nat.min_self, e4]
  · rw [if_neg hany]
    simp only [Sum.elim_inr, Option.bind_some]
    rw [if_pos (by decide)]
    congr 1
    symm
    rw [List.filter_eq_self]
    intro x hx
    cases hp : p x
    · rfl
    · exact absurd (List.any_eq_true.2 ⟨x, hx, hp⟩) hany
theorem Bare_eq {k : Nat} {h : List Ev} (hs : Sm h) (hk : 20000 ≤ k) : event_Bare k h = some (h.filter fun x => !(x.What == 2)) := by
  unfold event_Bare slices_DeleteFunc_api_Event_api_Event_S_Bare_1 slices_IndexFunc_api_Event_api_Event_Bare_1
  rw [owned_eq hs hk, Option.bind_some]
  rw [del_all (P := event_Bare_1_v) (p := fun x => x.What == 2) (fun _ _ => rfl) (F1 := slices_IndexFunc_api_Event_api_Event_Bare_1_l0 h) (fun _ _ => rfl) (F := slices_DeleteFunc_api_Event_api_Event_S_Bare_1_l0) (fun _ _ _ _ => rfl) hs.1 (by omega)]
  rfl
/-! ### Places, counted -/
abbrev Cm := List (Pl × Int)
def cntF (g : List Pl) (m : Cm) : Cm := g.foldl (fun m p => mput m p (IntKind.i64.wrap ((mget m p).getD 0 + 1))) m
theorem cnt_run {k : Nat} {g : List Pl} (hg : g.length ≤ 1000) (hk : 2000 ≤ k) : event_Without_AO_l0 g k 0 [] = some (cntF g []) := by
  have hrun := loop_run0 (a := g) (fun k i (m : Cm) => event_Without_AO_l0 g k i m) (fun _ _ => True) (fun p m => .inl (mput m p (IntKind.i64.wrap ((mget m p).getD 0 + 1)))) id 0 (by omega)
    (fun k s _ _ => by rw [event_Without_AO_l0.eq_2, if_neg (by simp)]; rfl) (fun k i s hi hI _ => by
      refine ⟨fun s' e => ?_, fun r e => by cases e⟩
      cases e
      rw [event_Without_AO_l0.eq_2, if_pos (by simpa using hi), if_pos (inR hi), rdN hi]
      exact ⟨rfl, trivial⟩) (k := k) (s := []) (by omega) trivial
  have key : ∀ (l : List Pl) (m : Cm), runL (R := Cm) (fun p m => .inl (mput m p (IntKind.i64.wrap ((mget m p).getD 0 + 1)))) id l m = cntF l m := by
    intro l
    induction l with
    | nil => intro m; rfl
    | cons x l ih => intro m; exact ih _
  rw [hrun, key]
theorem cnt_facts : ∀ (g : List Pl) (m : Cm) (b : Int), (m.map (·.1)).Nodup → 0 ≤ b → b + g.length ≤ 100000 → (∀ p v, mget m p = some v → 1 ≤ v ∧ v ≤ b) →
    ((cntF g m).map (·.1)).Nodup ∧ ∀ p, (0 < (mget (cntF g m) p).getD 0 ↔ p ∈ g ∨ (mget m p).isSome = true) ∧ ((mget (cntF g m) p).isSome = true ↔ p ∈ g ∨ (mget m p).isSome = true)
  | [], m, b, hn, _, _, hv => ⟨hn, fun p => ⟨by
      show 0 < (mget m p).getD 0 ↔ _
      cases h : mget m p with
      | none => simp
      | some v => have := hv p v h; simp; omega, by simp [cntF]⟩⟩
  | q :: g, m, b, hn, h0, hb, hv => by
    have hw : 1 ≤ IntKind.i64.wrap ((mget m q).getD 0 + 1) ∧ IntKind.i64.wrap ((mget m q).getD 0 + 1) ≤ b + 1 := by
      have : 0 ≤ (mget m q).getD 0 ∧ (mget m q).getD 0 ≤ b := by
        cases h : mget m q with
        | none => simp [h0]
        | some v => have := hv q v h; simp; omega
      simp only [List.length_cons] at hb
      rw [wr (by omega) (by omega)]; omega
    obtain ⟨h1, h2⟩ := cnt_facts g (mput m q (IntKind.i64.wrap ((mget m q).getD 0 + 1))) (b + 1) (mput_nodup hn) (by omega) (by simp only [List.length_cons] at hb; omega) (fun p v hp => by
      rw [mget_mput] at hp
      split at hp
      · cases hp; exact hw
      · have := hv p v hp; omega)
    refine ⟨h1, fun p => ?_⟩
    obtain ⟨h3, h4⟩ := h2 p
    have e : (mget (mput m q (IntKind.i64.wrap ((mget m q).getD 0 + 1))) p).isSome = true ↔ q = p ∨ (mget m p).isSome = true := by
      rw [mget_mput]
      by_cases e : q = p <;> simp [e]
    rw [e] at h3 h4
    have e2 : (p ∈ q :: g ∨ (mget m p).isSome = true) ↔ (p ∈ g ∨ q = p ∨ (mget m p).isSome = true) := by
      rw [List.mem_cons]
      constructor
      · rintro ((h | h) | h)
        · exact .inr (.inl h.symm)
        · exact .inl h
        · exact .inr (.inr h)
      · rintro (h | h | h)
        · exact .inl (.inr h)
        · exact .inl (.inl h.symm)
        · exact .inr h
    exact ⟨h3.trans e2.symm, h4.trans e2.symm⟩
theorem cnt_nodup {g : List Pl} (hg : g.length ≤ 1000) : ((cntF g []).map (·.1)).Nodup := (cnt_facts g [] 0 (by simp) (by omega) (by omega) (fun p v h => by cases h)).1
theorem cnt_pos {g : List Pl} (hg : g.length ≤ 1000) (p : Pl) : (mget (cntF g []) p).getD 0 > 0 ↔ p ∈ g := by
  have := ((cnt_facts g [] 0 (by simp) (by omega) (by omega) (fun p v h => by cases h)).2 p).1
  simpa [mget_none] using this
theorem cnt_mem {g : List Pl} (hg : g.length ≤ 1000) (p : Pl) : p ∈ (cntF g []).map (·.1) ↔ p ∈ g := by
  have := ((cnt_facts g [] 0 (by simp) (by omega) (by omega) (fun p v h => by cases h)).2 p).2
  rw [← mget_some, this]
  constructor
  · rintro (h | h)
    · exact h
    · cases h
  · exact .inl
/-! ### What is left is numbered anew -/
def dec (n : Nat) (e : Ev) : Ev := ⟨e.What, e.Task, e.Call - (n : Int), e.Answer⟩
theorem dec_zero (e : Ev) : dec 0 e = e := by simp [dec]
def below (e : Ev) (p : Pl) : Bool := p.Task == e.Task && decide (p.Call ≥ 0) && decide (p.Call < e.Call)
theorem ren_run {L0 : List Ev} {i : Nat} : ∀ (todo : List Pl) (k : Nat) (s : List Ev) (hi : i < s.length), todo.length < k → -1000000 + (todo.length : Int) ≤ s[i].Call → s[i].Call ≤ 1000000 →
    event_Without_AO_l5 L0 i k s todo = some (s.set i (dec (todo.countP (below (rd L0 i))) s[i]))
  | [], k, s, hi, hk, _, _ => by
    obtain ⟨k, rfl⟩ : ∃ q, k = q + 1 := ⟨k - 1, by simp at hk; omega⟩
    rw [event_Without_AO_l5.eq_2, onList_nil, List.countP_nil, dec_zero]
    simp
  | p :: todo, k, s, hi, hk, h1, h2 => by
    obtain ⟨k, rfl⟩ : ∃ q, k = q + 1 := ⟨k - 1, by simp at hk; omega⟩
    simp only [List.length_cons] at hk h1
    rw [event_Without_AO_l5.eq_2, onList_cons]
    have hb : (p.Task == (rd L0 (i : Int)).Task && decide (p.Call ≥ 0) && decide (p.Call < (rd L0 (i : Int)).Call)) = below (rd L0 (i : Int)) p := rfl
    rw [hb, List.countP_cons]
    cases hc : below (rd L0 (i : Int)) p
    · simp only [Bool.false_eq_true, if_false, Option.bind_some, Nat.add_zero]
      exact ren_run todo k s hi (by omega) (by omega) h2
    · rw [if_pos rfl, if_pos (inR hi), if_pos (inR hi), rdN hi, if_pos rfl]
      simp only [Option.bind_some]
      have hw : IntKind.i64.wrap (s[i].Call - 1) = s[i].Call - 1 := wr (by omega) (by omega)
      have e : ((i : Int)).toNat = i := by omega
      rw [hw, e]
      have hi' : i < (s.set i (dec 1 s[i])).length := by simpa using hi
      have := ren_run (L0 := L0) todo k (s.set i (dec 1 s[i])) hi' (by omega) (by simp [dec]; omega) (by simp [dec]; omega)
      have hd : (⟨s[i].What, s[i].Task, s[i].Call - 1, ⟨s[i].Answer.Err, s[i].Answer.Found, s[i].Answer.Value, s[i].Answer.Pairs⟩⟩ : Ev) = dec 1 s[i] := rfl
      rw [hd, this]
      simp only [List.set_set, List.getElem_set_self]
      congr 2
      simp only [dec, api_Event.mk.injEq, true_and, and_true]
      omega
theorem ren_all {m : Cm} {b : List Ev} (hm : (m.map (·.1)).Nodup) (hml : m.length ≤ 1000) (hb : b.length ≤ 9000) (hc : ∀ e ∈ b, 0 ≤ e.Call ∧ e.Call ≤ 9000) : ∀ (n k i : Nat), i + n = b.length → n + 2000 < k →
    event_Without_AO_l3 m b k (((b.take i).map fun e => dec ((m.map (·.1)).countP (below e)) e) ++ b.drop i) (i : Int) = some (b.map fun e => dec ((m.map (·.1)).countP (below e)) e) := by
  intro n
  induction n with
  | zero =>
    intro k i hi hk
    obtain ⟨k, rfl⟩ : ∃ q, k = q + 1 := ⟨k - 1, by omega⟩
    rw [event_Without_AO_l3.eq_2, if_neg (by simp; omega), List.drop_of_length_le (by omega), List.take_of_length_le (by omega), List.append_nil]
  | succ n ih =>
    intro k i hi hk
    obtain ⟨k, rfl⟩ : ∃ q, k = q + 1 := ⟨k - 1, by omega⟩
    have hlt : i < b.length := by omega
    generalize hs : (((b.take i).map fun e => dec ((m.map (·.1)).countP (below e)) e) ++ b.drop i) = s
    have hsl : s.length = b.length := by rw [← hs]; simp; omega
    have hlt' : i < s.length := by omega
    have hsi : s[i] = b[i] := by
      have : s[i]? = b[i]? := by
        rw [← hs, List.getElem?_append_right (by simp; omega), List.getElem?_drop]
        congr 1
        simp only [List.length_map, List.length_take]; omega
      rw [List.getElem?_eq_getElem hlt', List.getElem?_eq_getElem hlt] at this
      exact Option.some.inj this
    have hbc := hc _ (List.getElem_mem hlt)
    rw [event_Without_AO_l3.eq_2, if_pos (by simpa using hlt), if_pos (inR hlt'), if_pos hm]
    rw [ren_run _ k s hlt' (by simp; omega) (by rw [hsi]; simp; omega) (by rw [hsi]; omega), Option.bind_some, wr1 (by omega), rdN hlt', hsi]
    rw [← ih k (i + 1) (by omega) (by omega)]
    congr 1
    rw [← hs, List.set_append_right _ _ (by simp; omega)]
    have e : i - ((b.take i).map fun e => dec ((m.map (·.1)).countP (below e)) e).length = 0 := by simp; omega
    rw [e, List.drop_eq_getElem_cons hlt, List.set_cons_zero, List.take_add_one, List.getElem?_eq_getElem hlt, List.map_append, List.append_assoc]
    rfl
/-! ### In closed form -/
def cnN (g : List Pl) (t : Int) : Nat → Nat
  | 0 => 0
  | c + 1 => cnN g t c + if (⟨t, (c : Int)⟩ : Pl) ∈ g then 1 else 0
theorem countP_split {q q1 q2 : Pl → Bool} (h : ∀ p, q p = (q1 p || q2 p)) (hd : ∀ p, ¬ (q1 p = true ∧ q2 p = true)) : ∀ l : List Pl, l.countP q = l.countP q1 + l.countP q2
  | [] => rfl
  | x :: l => by
    rw [List.countP_cons, List.countP_cons, List.countP_cons, countP_split h hd l, h x]
    have := hd x
    cases h1 : q1 x <;> cases h2 : q2 x <;> simp [h1, h2] at this ⊢ <;> omega
theorem nodup_countP {x : Pl} : ∀ {l : List Pl}, l.Nodup → l.countP (fun p => decide (p = x)) = if x ∈ l then 1 else 0
  | [], _ => rfl
  | y :: l, h => by
    have h' := List.nodup_cons.1 h
    rw [List.countP_cons, nodup_countP h'.2]
    by_cases e : y = x
    · subst e; simp [h'.1]
    · have e' : ¬ x = y := fun e2 => e e2.symm
      simp [e, e']
theorem count_cn {ks : List Pl} (hn : ks.Nodup) {g : List Pl} (hm : ∀ p, p ∈ ks ↔ p ∈ g) (t : Int) : ∀ c : Nat, ks.countP (fun p => p.Task == t && decide (p.Call ≥ 0) && decide (p.Call < (c : Int))) = cnN g t c
  | 0 => List.countP_eq_zero.2 (fun p _ => by simp)
  | c + 1 => by
    rw [countP_split (q1 := fun p => p.Task == t && decide (p.Call ≥ 0) && decide (p.Call < (c : Int))) (q2 := fun p => decide (p = ⟨t, (c : Int)⟩)), count_cn hn hm t c, nodup_countP hn]
    · rw [show cnN g t (c + 1) = cnN g t c + if (⟨t, (c : Int)⟩ : Pl) ∈ g then 1 else 0 from rfl]
      congr 1
      by_cases h : (⟨t, (c : Int)⟩ : Pl) ∈ g
      · rw [if_pos h, if_pos ((hm _).2 h)]
      · rw [if_neg h, if_neg (fun h2 => h ((hm _).1 h2))]
    · intro p
      obtain ⟨a, b⟩ := p
      rw [Bool.eq_iff_iff]
      simp only [Bool.and_eq_true, Bool.or_eq_true, beq_iff_eq, decide_eq_true_eq, event_Place.mk.injEq]
      omega
    · intro p
      obtain ⟨a, b⟩ := p
      simp only [Bool.and_eq_true, beq_iff_eq, decide_eq_true_eq, event_Place.mk.injEq]
      omega
/-- Without some calls. -/
def WF (h : List Ev) (g : List Pl) : List Ev := (h.filter fun e => !decide (pl e ∈ g)).map fun e => dec (cnN g e.Task e.Call.toNat) e
def Cl (h : List Ev) : Prop := ∀ e ∈ h, 0 ≤ e.Call ∧ e.Call ≤ 9000
theorem Without_eq {k : Nat} {h : List Ev} {g : List Pl} (hs : Sm h) (hc : Cl h) (hg : g.length ≤ 100) (hk : 20000 ≤ k) : event_Without_AO k h g = some (WF h g) := by
  unfold event_Without_AO slices_DeleteFunc_api_Event_api_Event_S_Without_1_K slices_IndexFunc_api_Event_api_Event_Without_1_K
  rw [cnt_run (by omega) (by omega), Option.bind_some, owned_eq hs hk, Option.bind_some]
  rw [del_all (P := fun k e => event_Without_1_K k e (cntF g [])) (p := fun e => decide ((mget (cntF g []) (⟨(e.Task), (e.Call)⟩ : event_Place)).getD (0 : Int) > (0 : Int))) (fun _ _ => rfl) (F1 := slices_IndexFunc_api_Event_api_Event_Without_1_K_l0 h (cntF g [])) (fun _ _ => rfl) (F := slices_DeleteFunc_api_Event_api_Event_S_Without_1_K_l0 (cntF g [])) (fun _ _ _ _ => rfl) hs.1 (by omega), Option.bind_some]
  have hf : (h.filter fun x => !decide ((mget (cntF g []) (⟨(x.Task), (x.Call)⟩ : event_Place)).getD (0 : Int) > (0 : Int))) = h.filter fun e => !decide (pl e ∈ g) := by
    congr 1
    funext e
    congr 1
    exact decide_eq_decide.2 (cnt_pos (by omega) (pl e))
  rw [hf]
  have hb : (h.filter fun e => !decide (pl e ∈ g)).length ≤ 9000 := Nat.le_trans (List.length_filter_le _ _) hs.1
  have hml : (cntF g []).length ≤ 1000 := by
    have hn := cnt_nodup (g := g) (by omega)
    have : ∀ (l : List Pl) (m : Cm), (cntF l m).length ≤ m.length + l.length := by
      intro l
      induction l with
      | nil => intro m; exact Nat.le_refl _
      | cons x l ih =>
        intro m
        have := ih (mput m x (IntKind.i64.wrap ((mget m x).getD 0 + 1)))
        rw [mput_length] at this
        show (cntF l _).length ≤ _
        simp only [List.length_cons]
        split at this <;> omega
    have := this g []
    simp at this; omega
  have hr := ren_all (b := h.filter fun e => !decide (pl e ∈ g)) (cnt_nodup (g := g) (by omega)) hml hb (fun e he => hc e (List.mem_filter.1 he).1) _ k 0 (Nat.zero_add _) (by omega)
  rw [show ((0 : Nat) : Int) = 0 from rfl, List.take_zero, List.map_nil, List.nil_append, List.drop_zero] at hr
  rw [hr, Option.bind_some]
  congr 1
  unfold WF
  apply List.map_congr_left
  intro e he
  have h0 := hc e (List.mem_filter.1 he).1
  congr 1
  rw [← count_cn (cnt_nodup (g := g) (by omega)) (cnt_mem (by omega)) e.Task e.Call.toNat]
  congr 1
  funext p
  unfold below
  have : ((e.Call.toNat : Nat) : Int) = e.Call := by omega
  rw [this]
/-! ### What is left is legal -/
def tk (m : Nat) : Tk := ⟨((m % 3 : Nat) : Int), ((m / 3 : Nat) : Int)⟩
theorem next_tk {m : Nat} (h : m ≤ 1000000) : nextT (tk m) = tk (m + 1) := by
  unfold nextT tk
  dsimp only
  rw [wr (by omega) (by omega), wr (by omega) (by omega)]
  by_cases c : m % 3 = 2
  · rw [if_pos (by omega)]
    simp only [event_task.mk.injEq]; omega
  · rw [if_neg (by omega)]
    simp only [event_task.mk.injEq]; omega
theorem leg1_cons (t : Tk) (x : Ev) (l : List Ev) : leg1 t (x :: l) = (decide (ok1 t x) && leg1 (nextT t) l) := rfl
theorem leg1_calls : ∀ (l : List Ev) (m : Nat), m + l.length ≤ 1000000 → leg1 (tk m) l = true → ∀ x ∈ l, 0 ≤ x.Call ∧ x.Call ≤ ((m + l.length : Nat) : Int)
  | [], _, _, _, x, hx => by cases hx
  | y :: l, m, hm, h, x, hx => by
    simp only [List.length_cons] at hm ⊢
    rw [leg1_cons, Bool.and_eq_true, decide_eq_true_eq, next_tk (by omega)] at h
    rcases List.mem_cons.1 hx with rfl | hx
    · have := h.1.2.2.1
      simp only [tk] at this
      omega
    · have := leg1_calls l (m + 1) (by omega) h.2 x hx
      omega
/-- Where a task is, without some calls. -/
def ns (g : List Pl) (t : Int) (m : Nat) : Tk := ⟨if (⟨t, ((m / 3 : Nat) : Int)⟩ : Pl) ∈ g then 0 else ((m % 3 : Nat) : Int), ((m / 3 : Nat) : Int) - (cnN g t (m / 3) : Int)⟩
theorem cn_le (g : List Pl) (t : Int) : ∀ c : Nat, cnN g t c ≤ c
  | 0 => Nat.le_refl _
  | c + 1 => by
    have := cn_le g t c
    unfold cnN
    split <;> omega
theorem cn_succ (g : List Pl) (t : Int) (c : Nat) : cnN g t (c + 1) = cnN g t c + if (⟨t, (c : Int)⟩ : Pl) ∈ g then 1 else 0 := rfl
theorem less1 (g : List Pl) (t : Int) : ∀ (l : List Ev) (m : Nat), m + l.length ≤ 1000000 → (∀ x ∈ l, x.Task = t) → leg1 (tk m) l = true → leg1 (ns g t m) (WF l g) = true
  | [], _, _, _, _ => rfl
  | x :: l, m, hm, ht, h => by
    simp only [List.length_cons] at hm
    rw [leg1_cons, Bool.and_eq_true, decide_eq_true_eq, next_tk (by omega)] at h
    obtain ⟨⟨h1, h2, h3, h4, h5⟩, hl⟩ := h
    have hx := ht x List.mem_cons_self
    have ih := less1 g t l (m + 1) (by omega) (fun y hy => ht y (List.mem_cons_of_mem _ hy)) hl
    have hcall : x.Call = ((m / 3 : Nat) : Int) := h3
    have hpl : pl x = ⟨t, ((m / 3 : Nat) : Int)⟩ := by unfold pl; rw [hx, hcall]
    have hat : ((m % 3 : Nat) : Int) = x.What - 1 := h5
    have hle := cn_le g t (m / 3)
    by_cases c : (⟨t, ((m / 3 : Nat) : Int)⟩ : Pl) ∈ g
    · have e : WF (x :: l) g = WF l g := by
        unfold WF
        rw [List.filter_cons_of_neg (by rw [hpl, decide_eq_true c]; simp)]
      rw [e]
      have e2 : ns g t m = ns g t (m + 1) := by
        unfold ns
        rw [if_pos c]
        by_cases c2 : m % 3 = 2
        · have e3 : (m + 1) / 3 = m / 3 + 1 := by omega
          have e4 : (m + 1) % 3 = 0 := by omega
          rw [e3, e4, cn_succ, if_pos c]
          simp only [event_task.mk.injEq]
          refine ⟨by simp, by omega⟩
        · have e3 : (m + 1) / 3 = m / 3 := by omega
          rw [e3, if_pos c]
      rw [e2]; exact ih
    · have e : WF (x :: l) g = dec (cnN g t (m / 3)) x :: WF l g := by
        unfold WF
        rw [List.filter_cons_of_pos (by rw [hpl, decide_eq_false c]; rfl), List.map_cons, hx, hcall]
        rfl
      rw [e, leg1_cons, Bool.and_eq_true, decide_eq_true_eq]
      refine ⟨⟨h1, h2, by show x.Call - _ = _; rw [hcall]; rfl, h4, by unfold ns; rw [if_neg c]; exact hat⟩, ?_⟩
      have e2 : nextT (ns g t m) = ns g t (m + 1) := by
        unfold nextT ns
        rw [if_neg c]
        dsimp only
        rw [wr (by omega) (by omega), wr (by omega) (by omega)]
        by_cases c2 : m % 3 = 2
        · have e3 : (m + 1) / 3 = m / 3 + 1 := by omega
          have e4 : (m + 1) % 3 = 0 := by omega
          rw [if_pos (by omega), e3, e4, cn_succ, if_neg c]
          simp only [event_task.mk.injEq]
          refine ⟨by simp, by omega⟩
        · have e3 : (m + 1) / 3 = m / 3 := by omega
          rw [if_neg (by omega), e3, if_neg c]
          simp only [event_task.mk.injEq]
          refine ⟨by omega, trivial⟩
      rw [e2]; exact ih
theorem WF_task (h : List Ev) (g : List Pl) (t : Int) : (WF h g).filter (fun x => decide (x.Task = t)) = WF (h.filter fun x => decide (x.Task = t)) g := by
  unfold WF
  rw [List.filter_map, List.filter_filter, List.filter_filter]
  congr 1
  congr 1
  funext e
  exact Bool.and_comm _ _
theorem rd_rep {n : Nat} {t : Int} (h0 : 0 ≤ t) (h1 : t < (n : Int)) : rd (List.replicate n (⟨0, 0⟩ : Tk)) t = ⟨0, 0⟩ := by
  unfold rd
  have : t.toNat < n := by omega
  simp [List.getD_eq_getElem?_getD, List.getElem?_replicate, this]
theorem legal_WF {h : List Ev} {n : Nat} (g : List Pl) (hl : h.length ≤ 9000) (hh : legalB (List.replicate n ⟨0, 0⟩) h = true) : legalB (List.replicate n ⟨0, 0⟩) (WF h g) = true := by
  rw [legal_iff] at hh ⊢
  refine ⟨fun x hx => ?_, fun t h0 h1 => ?_⟩
  · obtain ⟨e, he, rfl⟩ := List.mem_map.1 hx
    exact hh.1 e (List.mem_filter.1 he).1
  · have h2 := hh.2 t h0 h1
    rw [List.length_replicate] at h1
    rw [rd_rep h0 h1] at h2 ⊢
    rw [WF_task]
    have h3 := less1 g t (h.filter fun x => decide (x.Task = t)) 0 (by have := List.length_filter_le (fun x : Ev => decide (x.Task = t)) h; omega) (fun x hx => by simpa using (List.mem_filter.1 hx).2) h2
    have e : ns g t 0 = ⟨0, 0⟩ := by
      unfold ns
      simp [cnN]
    rw [e] at h3; exact h3
theorem legal_calls {h : List Ev} {n : Nat} (hl : h.length ≤ 9000) (hh : legalB (List.replicate n ⟨0, 0⟩) h = true) : ∀ e ∈ h, 0 ≤ e.Call ∧ e.Call ≤ (h.length : Int) := by
  rw [legal_iff] at hh
  intro e he
  have hr := hh.1 e he
  have h2 := hh.2 e.Task hr.1 hr.2
  rw [List.length_replicate] at hr
  rw [rd_rep hr.1 hr.2] at h2
  have hle := List.length_filter_le (fun x : Ev => decide (x.Task = e.Task)) h
  have := leg1_calls _ 0 (by omega) h2 e (List.mem_filter.2 ⟨he, by simp⟩)
  omega
/-! ### One by one -/
theorem cn_congr {g g' : List Pl} {t : Int} : ∀ {c : Nat}, (∀ q : Nat, q < c → ((⟨t, (q : Int)⟩ : Pl) ∈ g ↔ (⟨t, (q : Int)⟩ : Pl) ∈ g')) → cnN g t c = cnN g' t c
  | 0, _ => rfl
  | c + 1, h => by
    rw [cn_succ, cn_succ, cn_congr (fun q hq => h q (by omega))]
    have := h c (by omega)
    by_cases e : (⟨t, (c : Int)⟩ : Pl) ∈ g
    · rw [if_pos e, if_pos (this.1 e)]
    · rw [if_neg e, if_neg (fun e2 => e (this.2 e2))]
theorem WF_congr {h : List Ev} {g g' : List Pl} (hc : ∀ e ∈ h, 0 ≤ e.Call) (hm : ∀ e ∈ h, ∀ q : Nat, (q : Int) ≤ e.Call → ((⟨e.Task, (q : Int)⟩ : Pl) ∈ g ↔ (⟨e.Task, (q : Int)⟩ : Pl) ∈ g')) : WF h g = WF h g' := by
  unfold WF
  have hf : (h.filter fun e => !decide (pl e ∈ g)) = h.filter fun e => !decide (pl e ∈ g') := by
    apply List.filter_congr
    intro e he
    congr 1
    have h0 := hc e he
    have := hm e he e.Call.toNat (by omega)
    rw [show ((e.Call.toNat : Nat) : Int) = e.Call by omega] at this
    exact decide_eq_decide.2 this
  rw [hf]
  apply List.map_congr_left
  intro e he
  have he' := (List.mem_filter.1 he).1
  have h0 := hc e he'
  congr 1
  exact cn_congr (fun q hq => hm e he' q (by omega))
theorem cn_one {p : Pl} {t : Int} : ∀ {c : Nat}, cnN [p] t c = if p.Task = t ∧ 0 ≤ p.Call ∧ p.Call < (c : Int) then 1 else 0
  | 0 => by rw [if_neg (by omega)]; rfl
  | c + 1 => by
    obtain ⟨a, b⟩ := p
    rw [cn_succ, cn_one]
    simp only [List.mem_singleton, event_Place.mk.injEq]
    by_cases h1 : a = t ∧ 0 ≤ b ∧ b < (c : Int)
    · rw [if_pos h1, if_neg (by omega), if_pos (by omega)]
    · by_cases h2 : t = a ∧ (c : Int) = b
      · rw [if_neg h1, if_pos h2, if_pos (by omega)]
      · rw [if_neg h1, if_neg h2, if_neg (by omega)]
theorem cn_app {s : List Pl} {p : Pl} (hp : p ∉ s) {t : Int} : ∀ {c : Nat}, cnN (s ++ [p]) t c = cnN s t c + cnN [p] t c
  | 0 => rfl
  | c + 1 => by
    rw [cn_succ, cn_succ, cn_succ, cn_app hp]
    have : (⟨t, (c : Int)⟩ : Pl) ∈ s ++ [p] ↔ (⟨t, (c : Int)⟩ : Pl) ∈ s ∨ (⟨t, (c : Int)⟩ : Pl) ∈ [p] := List.mem_append
    by_cases h1 : (⟨t, (c : Int)⟩ : Pl) ∈ s
    · have h2 : (⟨t, (c : Int)⟩ : Pl) ∉ [p] := fun e => by
        rw [List.mem_singleton] at e; rw [e] at h1; exact hp h1
      rw [if_pos (this.2 (.inl h1)), if_pos h1, if_neg h2]; omega
    · by_cases h2 : (⟨t, (c : Int)⟩ : Pl) ∈ [p]
      · rw [if_pos (this.2 (.inr h2)), if_neg h1, if_pos h2]; omega
      · rw [if_neg (fun e => (this.1 e).elim h1 h2), if_neg h1, if_neg h2]; omega
/-- Where no number below is gone. -/
theorem cn_zero {s : List Pl} {t : Int} {b : Int} (hs : ∀ x ∈ s, b ≤ x.Call) : ∀ {c : Nat}, (c : Int) ≤ b → cnN s t c = 0
  | 0, _ => rfl
  | c + 1, h => by
    rw [cn_succ, cn_zero hs (by omega), if_neg (fun e => by have := hs _ e; dsimp only at this; omega)]
theorem cn_few {s : List Pl} {t : Int} {b : Nat} (hs : ∀ x ∈ s, (b : Int) ≤ x.Call) (hb : (⟨t, (b : Int)⟩ : Pl) ∉ s) : ∀ {c : Nat}, b < c → cnN s t c + b + 1 ≤ c
  | 0, h => by omega
  | c + 1, h => by
    rw [cn_succ]
    by_cases e : b = c
    · subst e
      rw [cn_zero hs (Int.le_refl _), if_neg hb]; omega
    · have := cn_few hs hb (c := c) (by omega)
      split <;> omega
theorem WF_step {h : List Ev} {s : List Pl} {p : Pl} (hc : ∀ e ∈ h, 0 ≤ e.Call) (hp0 : 0 ≤ p.Call) (hp : p ∉ s) (hs : ∀ x ∈ s, p.Call ≤ x.Call) : WF (WF h s) [p] = WF h (s ++ [p]) := by
  obtain ⟨pt, pc⟩ := p
  obtain ⟨b, rfl⟩ : ∃ b : Nat, pc = (b : Int) := ⟨pc.toNat, by dsimp only at hp0; omega⟩
  induction h with
  | nil => rfl
  | cons e h ih =>
    have ih' := ih (fun x hx => hc x (List.mem_cons_of_mem _ hx))
    have h0 := hc e List.mem_cons_self
    obtain ⟨c, hcc⟩ : ∃ c : Nat, e.Call = (c : Int) := ⟨e.Call.toNat, by omega⟩
    have htn : e.Call.toNat = c := by omega
    by_cases h1 : pl e ∈ s
    · have e1 : WF (e :: h) s = WF h s := by unfold WF; rw [List.filter_cons_of_neg (by simp [h1])]
      have e2 : WF (e :: h) (s ++ [⟨pt, (b : Int)⟩]) = WF h (s ++ [⟨pt, (b : Int)⟩]) := by unfold WF; rw [List.filter_cons_of_neg (by simp [h1])]
      rw [e1, e2]; exact ih'
    · have e1 : WF (e :: h) s = dec (cnN s e.Task c) e :: WF h s := by unfold WF; rw [List.filter_cons_of_pos (by simp [h1]), List.map_cons, htn]
      have hcl := cn_le s e.Task c
      -- the number that the event has
      have hkey : (e.Task = pt → ((c ≤ b → cnN s e.Task c = 0) ∧ (b < c → cnN s e.Task c + b + 1 ≤ c))) := fun et => by
        subst et
        exact ⟨fun hle => cn_zero hs (by dsimp only; omega), fun hlt => cn_few hs hp hlt⟩
      rw [e1]
      by_cases h2 : pl e = ⟨pt, (b : Int)⟩
      · have e3 : e.Task = pt ∧ c = b := by
          unfold pl at h2
          simp only [event_Place.mk.injEq] at h2
          omega
        have hz := (hkey e3.1).1 (by omega)
        have e2 : WF (e :: h) (s ++ [⟨pt, (b : Int)⟩]) = WF h (s ++ [⟨pt, (b : Int)⟩]) := by unfold WF; rw [List.filter_cons_of_neg (by simp [h2])]
        have e4 : WF (dec (cnN s e.Task c) e :: WF h s) [⟨pt, (b : Int)⟩] = WF (WF h s) [⟨pt, (b : Int)⟩] := by
          rw [hz, dec_zero]
          conv => lhs; unfold WF
          rw [List.filter_cons_of_neg (by simp [h2])]
          rfl
        rw [e4, e2]; exact ih'
      · have hne : ¬ (e.Task = pt ∧ c = b) := fun h3 => h2 (by unfold pl; rw [h3.1, hcc, h3.2])
        have hdp : pl (dec (cnN s e.Task c) e) ≠ ⟨pt, (b : Int)⟩ := by
          unfold pl dec
          simp only [ne_eq, event_Place.mk.injEq]
          rintro ⟨h3, h4⟩
          have hk := hkey h3
          by_cases hle : c ≤ b
          · have := hk.1 hle; exact hne ⟨h3, by omega⟩
          · have := hk.2 (by omega); omega
        have e2 : WF (e :: h) (s ++ [⟨pt, (b : Int)⟩]) = dec (cnN (s ++ [⟨pt, (b : Int)⟩]) e.Task c) e :: WF h (s ++ [⟨pt, (b : Int)⟩]) := by
          unfold WF; rw [List.filter_cons_of_pos (by simp [h1, h2]), List.map_cons, htn]
        have e4 : WF (dec (cnN s e.Task c) e :: WF h s) [⟨pt, (b : Int)⟩] = dec (cnN [⟨pt, (b : Int)⟩] e.Task (c - cnN s e.Task c)) (dec (cnN s e.Task c) e) :: WF (WF h s) [⟨pt, (b : Int)⟩] := by
          conv => lhs; unfold WF
          rw [List.filter_cons_of_pos (by simp [hdp]), List.map_cons]
          have e5 : (dec (cnN s e.Task c) e).Call.toNat = c - cnN s e.Task c := by unfold dec; dsimp only; omega
          rw [e5]
          rfl
        rw [e4, e2, ih']
        congr 1
        rw [cn_app hp, cn_one, cn_one]
        have e6 : (pt = e.Task ∧ 0 ≤ (b : Int) ∧ (b : Int) < ((c - cnN s e.Task c : Nat) : Int)) ↔ (pt = e.Task ∧ 0 ≤ (b : Int) ∧ (b : Int) < (c : Int)) := by
          constructor
          · rintro ⟨h3, h4, h5⟩; exact ⟨h3, h4, by omega⟩
          · rintro ⟨h3, h4, h5⟩
            have := (hkey h3.symm).2 (by omega)
            exact ⟨h3, h4, by omega⟩
        dsimp only
        by_cases e7 : pt = e.Task ∧ 0 ≤ (b : Int) ∧ (b : Int) < (c : Int)
        · rw [if_pos (e6.2 e7), if_pos e7]
          simp only [dec, api_Event.mk.injEq, true_and, and_true]; omega
        · rw [if_neg (fun h8 => e7 (e6.1 h8)), if_neg e7]
          simp only [dec, api_Event.mk.injEq, true_and, and_true]; omega
theorem WF_nil {h : List Ev} : WF h [] = h := by
  unfold WF
  have h1 : (h.filter fun e => !decide (pl e ∈ ([] : List Pl))) = h := by rw [List.filter_eq_self]; simp
  rw [h1]
  have h2 : ∀ (t : Int) (c : Nat), cnN [] t c = 0 := fun t c => by
    induction c with
    | zero => rfl
    | succ c ih => rw [cn_succ, ih]; simp
  conv => rhs; rw [← List.map_id h]
  apply List.map_congr_left
  intro e _
  rw [h2, dec_zero]; rfl
theorem WF_sm {h : List Ev} {s : List Pl} (hs : Sm h) : Sm (WF h s) := by
  refine ⟨?_, fun x hx => ?_⟩
  · unfold WF; rw [List.length_map]; exact Nat.le_trans (List.length_filter_le _ _) hs.1
  · obtain ⟨e, he, rfl⟩ := List.mem_map.1 hx
    exact hs.2 e (List.mem_filter.1 he).1
theorem WF_cl {h : List Ev} {s : List Pl} (hc : Cl h) : Cl (WF h s) := by
  intro x hx
  obtain ⟨e, he, rfl⟩ := List.mem_map.1 hx
  have h1 := hc e (List.mem_filter.1 he).1
  have h2 := cn_le s e.Task e.Call.toNat
  unfold dec
  dsimp only
  omega
theorem eqPl (x y : Pl) : ((x.Task == y.Task) && (x.Call == y.Call)) = decide (x = y) := by
  obtain ⟨a, b⟩ := x
  obtain ⟨c, d⟩ := y
  rw [Bool.eq_iff_iff]
  simp
def mk1 (p x : Pl) : Pl := if x = p then ⟨x.Task, -1⟩ else x
theorem rd_setN {α : Type} [Inhabited α] {l : List α} {j m : Nat} {x : α} (hj : j < l.length) : rd (l.set j x) (m : Int) = if j = m then x else rd l (m : Int) := by
  unfold rd
  have : ((m : Int)).toNat = m := by omega
  rw [this]
  by_cases e : j = m
  · subst e; simp [hj]
  · simp [List.getD_eq_getElem?_getD, List.getElem?_set, e]
theorem mark_run {i : Nat} : ∀ (n k j : Nat) (all : List Pl), j + n = all.length → n < k → i < j → all.length ≤ 1000 →
    ∃ all', ferrymanlaw06_EventLess_l100 (i : Int) k all (j : Int) = some all' ∧ all'.length = all.length ∧ ∀ m : Nat, m < all.length → rd all' (m : Int) = if j ≤ m then mk1 (rd all (i : Int)) (rd all (m : Int)) else rd all (m : Int) := by
  intro n
  induction n with
  | zero =>
    intro k j all hj hk hi hl
    obtain ⟨k, rfl⟩ : ∃ q, k = q + 1 := ⟨k - 1, by omega⟩
    refine ⟨all, by rw [ferrymanlaw06_EventLess_l100.eq_2, if_neg (by simp; omega)], rfl, fun m hm => by rw [if_neg (by omega)]⟩
  | succ n ih =>
    intro k j all hj hk hi hl
    obtain ⟨k, rfl⟩ : ∃ q, k = q + 1 := ⟨k - 1, by omega⟩
    have hjl : j < all.length := by omega
    have hil : i < all.length := by omega
    rw [ferrymanlaw06_EventLess_l100.eq_2, if_pos (by simpa using hjl), if_pos (inR hjl), if_pos (inR hil), eqPl, if_pos (inR hjl)]
    by_cases e : rd all (j : Int) = rd all (i : Int)
    · obtain ⟨all', h1, h2, h3⟩ := ih k (j + 1) (all.set j ⟨(rd all (j : Int)).Task, -1⟩) (by simp; omega) (by omega) (by omega) (by simpa using hl)
      have hw := wr1 (i := j) (by omega)
      have ej : ((j : Int)).toNat = j := by omega
      simp only [e, decide_true, if_true, Option.bind_some, hw, ej]
      rw [e] at h1
      refine ⟨all', h1, by simpa using h2, fun m hm => ?_⟩
      have hji : ¬ j = i := by omega
      rw [h3 m (by simpa using hm), rd_setN hjl, rd_setN hjl, if_neg hji]
      by_cases c : j + 1 ≤ m
      · have hjm : ¬ j = m := by omega
        have hjm2 : j ≤ m := by omega
        rw [if_pos c, if_neg hjm, if_pos hjm2]
      · rw [if_neg c]
        by_cases c2 : j = m
        · subst c2
          rw [if_pos rfl, if_pos (Nat.le_refl _)]
          unfold mk1; rw [if_pos e]
        · rw [if_neg c2, if_neg (by omega)]
    · obtain ⟨all', h1, h2, h3⟩ := ih k (j + 1) all (by omega) (by omega) (by omega) hl
      have hw := wr1 (i := j) (by omega)
      simp only [e, decide_false, Bool.false_eq_true, if_false, Option.bind_some, hw]
      refine ⟨all', h1, h2, fun m hm => ?_⟩
      rw [h3 m hm]
      by_cases c : j + 1 ≤ m
      · rw [if_pos c, if_pos (by omega)]
      · rw [if_neg c]
        by_cases c2 : j = m
        · subst c2
          rw [if_pos (Nat.le_refl _)]
          unfold mk1; rw [if_neg e]
        · rw [if_neg (by omega)]
def Iv (g : List Pl) (h : List Ev) (call : Int) (i : Nat) (all : List Pl) (one : List Ev) : Prop :=
  ∃ S : List Pl, (∀ p, p ∈ S ↔ p ∈ g ∧ (call < p.Call ∧ p.Call ≤ (h.length : Int) ∨ p.Call = call ∧ ∃ j : Nat, j < i ∧ j < g.length ∧ rd g (j : Int) = p)) ∧ all.length = g.length ∧
    (∀ j : Nat, j < g.length → rd all (j : Int) = rd g (j : Int) ∨ (rd all (j : Int)).Call = -1 ∧ rd g (j : Int) ∈ S) ∧
    (∀ j : Nat, j < g.length → i ≤ j → (rd g (j : Int)).Call = call → rd g (j : Int) ∈ S → (rd all (j : Int)).Call = -1) ∧ one = WF h S
theorem rd_mem {g : List Pl} {j : Nat} (h : j < g.length) : rd g (j : Int) ∈ g := by rw [rdN h]; exact List.getElem_mem h
theorem pass_run {g : List Pl} {h : List Ev} (hs : Sm h) (hc : Cl h) (hg : g.length ≤ 100) {call : Int} (h0 : 0 ≤ call) (h1 : call ≤ (h.length : Int)) : ∀ (n k i : Nat) (all : List Pl) (one : List Ev), i + n = g.length → n + 30000 < k → Iv g h call i all one →
    ∃ all' one', ferrymanlaw06_EventLess_l88 call k all one (i : Int) = some (all', one') ∧ Iv g h call g.length all' one' := by
  intro n
  induction n with
  | zero =>
    intro k i all one hi hk hI
    obtain ⟨k, rfl⟩ : ∃ q, k = q + 1 := ⟨k - 1, by omega⟩
    obtain rfl : i = g.length := by omega
    have hl : all.length = g.length := by obtain ⟨S, _, h, _⟩ := hI; exact h
    exact ⟨all, one, by rw [ferrymanlaw06_EventLess_l88.eq_2, if_neg (by simp; omega)], hI⟩
  | succ n ih =>
    intro k i all one hi hk hI
    obtain ⟨k, rfl⟩ : ∃ q, k = q + 1 := ⟨k - 1, by omega⟩
    obtain ⟨S, hS, hl, hI1, hI2, rfl⟩ := hI
    have hil : i < g.length := by omega
    have hia : i < all.length := by omega
    have hw := wr1 (i := i) (by omega)
    rw [ferrymanlaw06_EventLess_l88.eq_2, if_pos (by simpa using hia), if_pos (inR hia), if_pos (inR hia)]
    by_cases e : (rd all (i : Int)).Call = call
    · have hsame : rd all (i : Int) = rd g (i : Int) := (hI1 i hil).resolve_right (fun hh => by have := hh.1; omega)
      have hgc : (rd g (i : Int)).Call = call := by rw [← hsame]; exact e
      have hnS : rd g (i : Int) ∉ S := fun hh => by have := hI2 i hil (Nat.le_refl _) hgc hh; rw [hsame] at this; omega
      have hge : ∀ x ∈ S, call ≤ x.Call := fun x hx => by
        rcases ((hS x).1 hx).2 with h2 | h2
        · omega
        · omega
      have hstep : WF (WF h S) [rd g (i : Int)] = WF h (S ++ [rd g (i : Int)]) := WF_step (fun e he => (hc e he).1) (by rw [hgc]; exact h0) hnS (fun x hx => by rw [hgc]; exact hge x hx)
      obtain ⟨all', m1, m2, m3⟩ := mark_run (i := i) (all.length - (i + 1)) k (i + 1) all (by omega) (by omega) (by omega) (by omega)
      have hb : ((rd all (i : Int)).Call == call) = true := by simpa using e
      rw [hb, if_pos (by rfl), Without_eq (WF_sm hs) (WF_cl hc) (by simp) (by omega), hsame, hstep, hw]
      simp only [Option.bind_some]
      rw [m1]
      simp only [Option.bind_some]
      refine ih k (i + 1) all' _ (by omega) (by omega) ⟨S ++ [rd g (i : Int)], fun p => ?_, by rw [m2, hl], fun j hj => ?_, fun j hj hij hjc hjS => ?_, rfl⟩
      · rw [List.mem_append, List.mem_singleton, hS]
        constructor
        · rintro (⟨h2, h3 | ⟨h3, j, h4, h5, h6⟩⟩ | h2)
          · exact ⟨h2, .inl h3⟩
          · exact ⟨h2, .inr ⟨h3, j, by omega, h5, h6⟩⟩
          · subst h2; exact ⟨rd_mem hil, .inr ⟨hgc, i, by omega, hil, rfl⟩⟩
        · rintro ⟨h2, h3 | ⟨h3, j, h4, h5, h6⟩⟩
          · exact .inl ⟨h2, .inl h3⟩
          · by_cases c : j = i
            · subst c; exact .inr h6.symm
            · exact .inl ⟨h2, .inr ⟨h3, j, by omega, h5, h6⟩⟩
      · rw [m3 j (by omega)]
        by_cases c : i + 1 ≤ j
        · rw [if_pos c]
          unfold mk1
          by_cases c2 : rd all (j : Int) = rd all (i : Int)
          · rw [if_pos c2]
            have : rd all (j : Int) = rd g (j : Int) := (hI1 j hj).resolve_right (fun hh => by have := hh.1; rw [c2] at this; omega)
            exact .inr ⟨rfl, by rw [List.mem_append, List.mem_singleton]; right; rw [← this, c2, hsame]⟩
          · rw [if_neg c2]
            rcases hI1 j hj with h2 | ⟨h2, h3⟩
            · exact .inl h2
            · exact .inr ⟨h2, List.mem_append.2 (.inl h3)⟩
        · rw [if_neg c]
          rcases hI1 j hj with h2 | ⟨h2, h3⟩
          · exact .inl h2
          · exact .inr ⟨h2, List.mem_append.2 (.inl h3)⟩
      · rw [m3 j (by omega), if_pos hij]
        unfold mk1
        by_cases c2 : rd all (j : Int) = rd all (i : Int)
        · rw [if_pos c2]
        · rw [if_neg c2]
          rcases List.mem_append.1 hjS with h2 | h2
          · exact hI2 j hj (by omega) hjc h2
          · rw [List.mem_singleton] at h2
            rcases hI1 j hj with h3 | ⟨h3, h4⟩
            · exact absurd (by rw [h3, h2, hsame]) c2
            · exact h3
    · have hb : ((rd all (i : Int)).Call == call) = false := by simpa using e
      rw [hb, if_neg (by simp), hw]
      simp only [Option.bind_some]
      refine ih k (i + 1) all _ (by omega) (by omega) ⟨S, fun p => ?_, hl, hI1, fun j hj hij => hI2 j hj (by omega), rfl⟩
      rw [hS]
      constructor
      · rintro ⟨h2, h3 | ⟨h3, j, h4, h5, h6⟩⟩
        · exact ⟨h2, .inl h3⟩
        · exact ⟨h2, .inr ⟨h3, j, by omega, h5, h6⟩⟩
      · rintro ⟨h2, h3 | ⟨h3, j, h4, h5, h6⟩⟩
        · exact ⟨h2, .inl h3⟩
        · by_cases c : j = i
          · subst c
            have hin : rd g (j : Int) ∈ S := ((hI1 j hil).resolve_left (fun h7 => e (by rw [h7, h6, h3]))).2
            rw [h6] at hin
            exact ⟨h2, ((hS p).1 hin).2⟩
          · exact ⟨h2, .inr ⟨h3, j, by omega, h5, h6⟩⟩
theorem all_run {g : List Pl} {h : List Ev} (hs : Sm h) (hc : Cl h) (hg : g.length ≤ 100) : ∀ (c k : Nat) (all : List Pl) (one : List Ev), (c : Int) ≤ (h.length : Int) + 1 → c + 40000 < k → Iv g h ((c : Int) - 1) 0 all one →
    ∃ S : List Pl, ferrymanlaw06_EventLess_l50 k all one ((c : Int) - 1) = some (WF h S) ∧ ∀ p, p ∈ S ↔ p ∈ g ∧ 0 ≤ p.Call ∧ p.Call ≤ (h.length : Int)
  | 0, k, all, one, hle, hk, hI => by
    obtain ⟨k, rfl⟩ : ∃ q, k = q + 1 := ⟨k - 1, by omega⟩
    obtain ⟨S, hS, hl, hI1, hI2, rfl⟩ := hI
    refine ⟨S, by rw [ferrymanlaw06_EventLess_l50.eq_2, if_neg (by simp)], fun p => ?_⟩
    rw [hS]
    constructor
    · rintro ⟨h2, h3 | ⟨h3, j, h4, h5, h6⟩⟩
      · exact ⟨h2, by omega, h3.2⟩
      · omega
    · rintro ⟨h2, h3, h4⟩; exact ⟨h2, .inl ⟨by omega, h4⟩⟩
  | c + 1, k, all, one, hle, hk, hI => by
    obtain ⟨k, rfl⟩ : ∃ q, k = q + 1 := ⟨k - 1, by omega⟩
    have e : (((c + 1 : Nat) : Int) - 1) = (c : Int) := by omega
    rw [e] at hI ⊢
    obtain ⟨all', one', h1, h2⟩ := pass_run hs hc hg (by omega) (by omega) g.length k 0 all one (by omega) (by omega) hI
    obtain ⟨S, hS, hl, hI1, hI2, rfl⟩ := h2
    obtain ⟨S', h3, h4⟩ := all_run hs hc hg c k all' (WF h S) (by omega) (by omega) ⟨S, fun p => by
      rw [hS]
      constructor
      · rintro ⟨h2, h3 | ⟨h3, j, h4, h5, h6⟩⟩
        · exact ⟨h2, .inl ⟨by omega, h3.2⟩⟩
        · exact ⟨h2, .inl ⟨by omega, by omega⟩⟩
      · rintro ⟨h2, h3 | ⟨h3, j, h4, h5, h6⟩⟩
        · by_cases c2 : p.Call = (c : Int)
          · obtain ⟨j, h4, h5⟩ := List.mem_iff_getElem.1 h2
            exact ⟨h2, .inr ⟨c2, j, h4, h4, by rw [rdN h4, h5]⟩⟩
          · exact ⟨h2, .inl ⟨by omega, h3.2⟩⟩
        · omega, hl, hI1, fun j hj _ hjc hjS => by
          rcases ((hS _).1 hjS).2 with h5 | h5
          · omega
          · omega, rfl⟩
    refine ⟨S', ?_, h4⟩
    have hw : IntKind.i64.wrap ((c : Int) - 1) = (c : Int) - 1 := by
      have := hs.1
      exact wr (by omega) (by omega)
    rw [ferrymanlaw06_EventLess_l50.eq_2, if_pos (by simp), show (0 : Int) = ((0 : Nat) : Int) from rfl, h1, Option.bind_some]
    dsimp only
    rw [hw]; exact h3
theorem given_eq {k : Nat} {a : List ferrymanref06_Place} (ha : a.length ≤ 1000) (hk : 2000 ≤ k) : ferrymanlaw06_given k a = some (a.map fun p => (⟨p.Task, p.Call⟩ : Pl)) := by
  unfold ferrymanlaw06_given
  have hrun := loop_run0 (a := a) (fun k i (s : List Pl) => ferrymanlaw06_given_l0 a k s i) (fun i s => s.length = i) (fun x acc => .inl (acc ++ [(⟨x.Task, x.Call⟩ : Pl)])) id 0 (by omega)
    (fun k s _ _ => by rw [ferrymanlaw06_given_l0.eq_2, if_neg (by simp)]; rfl) (fun k i s hi hI _ => by
      rw [ferrymanlaw06_given_l0.eq_2, if_pos (by simpa using hi), if_pos (inR hi), rdN hi, if_pos (by simp only [List.length_cons, List.length_nil]; omega)]
      refine ⟨fun s' hs => ?_, fun r hr => by cases hr⟩
      cases hs
      exact ⟨rfl, by simp [hI]⟩) (k := k) (s := []) (by omega) rfl
  have key : ∀ (l : List ferrymanref06_Place) (acc : List Pl), runL (R := List Pl) (fun x acc => .inl (acc ++ [(⟨x.Task, x.Call⟩ : Pl)])) id l acc = acc ++ l.map fun p => (⟨p.Task, p.Call⟩ : Pl) := by
    intro l
    induction l with
    | nil => intro acc; simp [runL]
    | cons x l ih => intro acc; show runL _ _ l (acc ++ [_]) = _; rw [ih]; simp
  rw [hrun, key]; rfl
theorem marks_eq {k : Nat} {h : List Ev} (hl : h.length ≤ 9000) (hk : 10000 ≤ k) : ferrymanlaw06_EventLess_l101 h k 0 0 = some ((h.countP fun x => x.What == 2 : Nat) : Int) := by
  have hrun := loop_run0 (a := h) (fun k i (s : Int) => ferrymanlaw06_EventLess_l101 h k s i) (fun i s => 0 ≤ s ∧ s ≤ (i : Int)) (fun x s => .inl (if (x.What == 2) = true then s + 1 else s)) id 0 (by omega)
    (fun k s _ _ => by rw [ferrymanlaw06_EventLess_l101.eq_2, if_neg (by simp)]; rfl) (fun k i s hi hI _ => by
      refine ⟨fun s' e => ?_, fun r e => by cases e⟩
      cases hx : (h[i].What == 2)
      · rw [hx] at e
        cases e
        rw [ferrymanlaw06_EventLess_l101.eq_2, if_pos (by simpa using hi), if_pos (inR hi), rdN hi, hx]
        exact ⟨rfl, hI.1, by have := hI.2; show s ≤ ((i + 1 : Nat) : Int); omega⟩
      · rw [hx] at e
        cases e
        rw [ferrymanlaw06_EventLess_l101.eq_2, if_pos (by simpa using hi), if_pos (inR hi), rdN hi, hx, wr (x := s + 1) (by have := hI.1; omega) (by have := hI.2; omega)]
        exact ⟨rfl, by have := hI.1; show 0 ≤ s + 1; omega, by have := hI.2; show s + 1 ≤ ((i + 1 : Nat) : Int); omega⟩) (k := k) (s := 0) (by omega) ⟨Int.le_refl _, Int.le_refl _⟩
  have key : ∀ (l : List Ev) (s : Int), runL (R := Int) (fun x s => .inl (if (x.What == 2) = true then s + 1 else s)) id l s = s + ((l.countP fun x => x.What == 2 : Nat) : Int) := by
    intro l
    induction l with
    | nil => intro s; simp [runL]
    | cons x l ih =>
      intro s
      show runL _ _ l (if (x.What == 2) = true then s + 1 else s) = _
      rw [ih, List.countP_cons]
      cases (x.What == 2) <;> simp <;> omega
  rw [hrun, key, Int.zero_add]
theorem bare_len (h : List Ev) : (((h.filter fun x => !(x.What == 2)).length : Nat) : Int) = (h.length : Int) - ((h.countP fun x => x.What == 2 : Nat) : Int) := by
  induction h with
  | nil => rfl
  | cons x h ih =>
    rw [List.countP_cons, List.filter_cons]
    cases (x.What == 2) <;> simp <;> omega
theorem pure_EventLess (a0 : Int) (a1 : (List api_Event)) (a2 : (List ferrymanref06_Place)) (_ : (wfInt .i64) a0) (h1 : (wfSl wf_api_Event) a1) (_ : (wfSl wf_ferrymanref06_Place) a2) : ∃ k, ferrymanlaw06_EventLess k a0 a1 a2 = some true := by
  have hlen : a1.length ≤ 9223372036854775807 := Nat.le_trans h1.1 (by decide)
  refine ⟨a1.length + 100000, ?_⟩
  unfold ferrymanlaw06_EventLess
  rw [works_up (by omega), wide_eq hlen (by omega)]
  by_cases hw : runL wideStep id a1 (a1.length : Int) ≥ 3000
  · simp [hw]
  · obtain ⟨hl, hs⟩ := wide_sm hw
    by_cases hg : (a2.length : Int) > 60
    · simp [hw, hg]
    · rw [Legal_eq hs (by omega)]
      by_cases hh : (decide (1 ≤ a0 ∧ a0 ≤ 6) && legalB (List.replicate a0.toNat ⟨0, 0⟩) a1) = true
      · have hh' := hh
        rw [Bool.and_eq_true, decide_eq_true_eq] at hh'
        have hcl := legal_calls hs.1 hh'.2
        have hc : Cl a1 := fun e he => by have := hcl e he; have := hs.1; omega
        generalize hgg : (a2.map fun p => (⟨p.Task, p.Call⟩ : Pl)) = g
        have hgl : g.length ≤ 60 := by rw [← hgg]; simp; omega
        have hgiv : ferrymanlaw06_given (a1.length + 100000) a2 = some g := by rw [← hgg]; exact given_eq (by omega) (by omega)
        have hwo : event_Without_AO (a1.length + 100000) a1 g = some (WF a1 g) := Without_eq hs hc (by omega) (by omega)
        obtain ⟨S, hS1, hS2⟩ := all_run hs hc (g := g) (by omega) (a1.length + 1) (a1.length + 100000) g a1 (by omega) (by omega) ⟨[], fun p => by
          constructor
          · intro h; cases h
          · rintro ⟨h2, h3 | ⟨h3, j, h4, h5, h6⟩⟩
            · omega
            · omega, rfl, fun j hj => .inl rfl, fun j hj _ _ hjS => (by cases hjS), WF_nil.symm⟩
        have hS3 : WF a1 S = WF a1 g := WF_congr (fun e he => (hcl e he).1) (fun e he q hq => by
          rw [hS2]
          have := hcl e he
          exact ⟨fun h2 => h2.1, fun h2 => ⟨h2, by dsimp only; omega, by dsimp only; omega⟩⟩)
        rw [show (((a1.length + 1 : Nat) : Int) - 1) = (a1.length : Int) by omega, hS3] at hS1
        have hmw : IntKind.i64.wrap ((a1.length : Int) - ((a1.countP fun x => x.What == 2 : Nat) : Int)) = (a1.length : Int) - ((a1.countP fun x => x.What == 2 : Nat) : Int) := by
          have h9 : (a1.countP fun x => x.What == 2) ≤ a1.length := List.countP_le_length
          exact wr (by omega) (by omega)
        simp only [Option.bind_some, Bool.not_true, Bool.false_eq_true, if_false, hw, decide_false, hg, Bool.or_self, hh, hgiv, hwo]
        rw [Legal_eq (WF_sm hs) (by omega), legal_WF g hs.1 hh'.2]
        simp only [Option.bind_some, decide_eq_true hh'.1, Bool.and_self, Bool.not_true, Bool.false_eq_true, if_false]
        rw [hS1, Option.bind_some, marks_eq hs.1 (by omega), Option.bind_some, Same_eq (WF_sm hs) (by omega), Option.bind_some]
        simp only [decide_true, if_true, Option.bind_some]
        rw [Bare_eq hs (by omega), Option.bind_some, hmw, bare_len]
        simp
      · have hh' : (decide (1 ≤ a0 ∧ a0 ≤ 6) && legalB (List.replicate a0.toNat ⟨0, 0⟩) a1) = false := by simpa using hh
        simp only [Option.bind_some, Bool.not_true, Bool.false_eq_true, if_false, hw, decide_false, hg, Bool.or_self, hh', Bool.not_false, if_true]
end Go.Proofs.Ytninegjnkkcepaa
