/-  The plain laws of layer 8: what its functions tell, in closed form. -/
import Derived.Test.YtbdelepfpnneoaaDoorOpns1
import Derived.Test.YtbdelepfpnneoaaDoorPureStatusNames
namespace Go.Proofs.YtbdelepfpnneoaaDoor
open Go Go.RowKit
set_option linter.unusedVariables false
set_option linter.unusedSimpArgs false

theorem wr {x : Int} (h : -9223372036854775808 ≤ x) (h' : x ≤ 9223372036854775807) : IntKind.i64.wrap x = x := by
  simp [IntKind.wrap, IntKind.bits, IntKind.signed]
  omega
/-- The writer w. -/
abbrev wa (l : List status_writer) (w : Int) : status_writer := rd l (w - 1)
def stOf (l : List status_writer) (w : Int) : Int × Int := if 1 ≤ w ∧ w ≤ (l.length : Int) then ((wa l w).state, (wa l w).ts) else (0, 0)
def before (is : Int) : Int := rd [0, 0, 1, 1, 2] is
def mayF (l : List status_writer) (w is : Int) : Int := if 1 ≤ w ∧ w ≤ (l.length : Int) then (if (wa l w).state = before is then 0 else 7) else 5
def turnF (s : status_Writers) (w is : Int) : Int × status_Writers := if mayF s.l w is = 0 then (0, ⟨s.l.set (w - 1).toNat ⟨is, (wa s.l w).ts⟩, s.last⟩) else (mayF s.l w is, s)
def commitF (s : status_Writers) (w ts : Int) : Int × status_Writers :=
  if mayF s.l w 3 = 0 then (if ts ≠ 0 ∧ (ts ≤ s.last ∨ 1048576 < ts) then (1, s) else (0, ⟨s.l.set (w - 1).toNat ⟨3, ts⟩, imax s.last ts⟩)) else (mayF s.l w 3, s)
def beginF (s : status_Writers) : Int × status_Writers := ((s.l.length : Int) + 1, ⟨s.l ++ [⟨1, 0⟩], s.last⟩)
def doF (x : ferrymanlaw08_Step) (s : status_Writers) : Int × Int × status_Writers :=
  if x.What = 0 then ((beginF s).1, 0, (beginF s).2) else if x.What = 1 then (0, commitF s x.W x.TS) else if x.What = 2 then (0, turnF s x.W 2) else if x.What = 3 then (0, turnF s x.W 4) else (0, commitF s x.W (s.last + 1))

theorem wa_set {l : List status_writer} {w v : Int} {x : status_writer} (h1 : 1 ≤ w) (h2 : w ≤ (l.length : Int)) (h3 : 1 ≤ v) : wa (l.set (w - 1).toNat x) v = if v = w then x else wa l v := by
  unfold wa rd
  rw [List.getD_eq_getElem?_getD, List.getD_eq_getElem?_getD, List.getElem?_set]
  by_cases h : v = w
  · subst h
    rw [if_pos rfl, if_pos rfl, if_pos (by omega)]; rfl
  · rw [if_neg (by omega), if_neg h]
theorem wa_app {l : List status_writer} {v : Int} {x : status_writer} (h3 : 1 ≤ v) (h2 : v ≤ (l.length : Int) + 1) : wa (l ++ [x]) v = if v ≤ (l.length : Int) then wa l v else x := by
  unfold wa rd
  rw [List.getD_eq_getElem?_getD, List.getD_eq_getElem?_getD]
  by_cases h : v ≤ (l.length : Int)
  · rw [if_pos h, List.getElem?_append_left (by omega)]
  · rw [if_neg h, List.getElem?_append_right (by omega), show (v - 1).toNat - l.length = 0 by omega]; rfl
theorem Of_eq (k : Nat) (s : status_Writers) (w : Int) (hl : s.l.length ≤ 1000) : status_Writers_Of_PO k s w = some (stOf s.l w) := by
  unfold status_Writers_Of_PO stOf
  by_cases h : 1 ≤ w ∧ w ≤ (s.l.length : Int)
  · have h1 : ¬ w < 1 := by omega
    have h2 : ¬ w > (s.l.length : Int) := by omega
    have h3 : 0 ≤ w - 1 ∧ w - 1 < (s.l.length : Int) := by omega
    rw [wr (by omega) (by omega)]
    simp only [h1, h2, h3, h, decide_false, Bool.or_self, Bool.false_eq_true, if_false, if_true, and_self]
  · have h1 : ((decide (w < 1)) || (decide (w > (s.l.length : Int)))) = true := by simp; omega
    rw [if_pos h1, if_neg h]
theorem may_eq (k : Nat) (s : status_Writers) (w is : Int) (hl : s.l.length ≤ 1000) (h0 : 0 ≤ is) (h5 : is < 5) : status_Writers_may_PO k s w is = some (mayF s.l w is) := by
  unfold status_Writers_may_PO mayF
  by_cases h : 1 ≤ w ∧ w ≤ (s.l.length : Int)
  · have h1 : ¬ w < 1 := by omega
    have h2 : ¬ w > (s.l.length : Int) := by omega
    have h3 : 0 ≤ w - 1 ∧ w - 1 < (s.l.length : Int) := by omega
    rw [wr (by omega) (by omega)]
    simp only [h1, h2, h3, h, h0, h5, decide_false, Bool.or_self, Bool.false_eq_true, if_false, if_true, and_self]
    by_cases e : (wa s.l w).state = before is
    · have e' : (rd s.l (w - 1)).state = rd [0, 0, 1, 1, 2] is := e
      rw [if_pos e]; simp [e']
    · have e' : ¬ (rd s.l (w - 1)).state = rd [0, 0, 1, 1, 2] is := e
      rw [if_neg e]; simp [e']
  · have h1 : ((decide (w < 1)) || (decide (w > (s.l.length : Int)))) = true := by simp; omega
    rw [if_pos h1, if_neg h]
theorem may_in {l : List status_writer} {w is : Int} (h : mayF l w is = 0) : (1 ≤ w ∧ w ≤ (l.length : Int)) ∧ (wa l w).state = before is := by
  unfold mayF at h
  split at h
  · next h1 =>
    split at h
    · next h2 => exact ⟨h1, h2⟩
    · cases h
  · cases h
theorem turn_eq (k : Nat) (s : status_Writers) (w is : Int) (hl : s.l.length ≤ 1000) (h0 : 0 ≤ is) (h5 : is < 5) : status_Writers_turn_PO k s w is = some (turnF s w is) := by
  unfold status_Writers_turn_PO turnF
  rw [may_eq k s w is hl h0 h5, Option.bind_some]
  by_cases h : mayF s.l w is = 0
  · obtain ⟨h1, _⟩ := may_in h
    have h3 : 0 ≤ w - 1 ∧ w - 1 < (s.l.length : Int) := by omega
    rw [wr (by omega) (by omega)]
    simp only [h, beq_self_eq_true, if_true, h3, and_self, Option.bind_some]
  · have h' : (mayF s.l w is == 0) = false := by simpa using h
    rw [if_neg h]
    simp only [h', Bool.false_eq_true, if_false, Option.bind_some]
theorem commit_eq (k : Nat) (s : status_Writers) (w ts : Int) (hl : s.l.length ≤ 1000) : status_Writers_Commit_PO k s w ts = some (commitF s w ts) := by
  unfold status_Writers_Commit_PO commitF
  rw [may_eq k s w 3 hl (by omega) (by omega), Option.bind_some]
  by_cases h : mayF s.l w 3 = 0
  · obtain ⟨h1, _⟩ := may_in h
    have h3 : 0 ≤ w - 1 ∧ w - 1 < (s.l.length : Int) := by omega
    rw [wr (by omega) (by omega), if_neg (by simp [h]), if_pos h]
    by_cases h4 : ts ≠ 0 ∧ (ts ≤ s.last ∨ 1048576 < ts)
    · rw [if_pos (by simpa using h4), if_pos h4]
    · rw [if_neg (by simpa using h4), if_neg h4, if_pos h3, Option.bind_some]
  · rw [if_pos (by simpa using h), if_neg h]
theorem do_eq (k : Nat) (x : ferrymanlaw08_Step) (s : status_Writers) (hl : s.l.length ≤ 1000) (hs : 0 ≤ s.last ∧ s.last ≤ 1048576) : ferrymanlaw08_Step_do_PO k x s = some (doF x s) := by
  unfold ferrymanlaw08_Step_do_PO doF
  have e0 : status_Writers_Begin_PO k s = some (beginF s) := by
    unfold status_Writers_Begin_PO beginF
    rw [if_pos (by simp; omega)]; simp
  have e2 : status_Writers_Fall_PO k s x.W = some (turnF s x.W 2) := by
    unfold status_Writers_Fall_PO; rw [turn_eq k s x.W 2 hl (by omega) (by omega)]; rfl
  have e3 : status_Writers_Fallen_PO k s x.W = some (turnF s x.W 4) := by
    unfold status_Writers_Fallen_PO; rw [turn_eq k s x.W 4 hl (by omega) (by omega)]; rfl
  have e5 : status_Writers_Last_PO k s = some s.last := rfl
  have e6 : (Option.bind (status_Writers_Last_PO k s) (fun t55 => (Option.bind (status_Writers_Commit_PO k s x.W (IntKind.i64.wrap (t55 + (1 : Int)))) (fun t60 => some ((0 : Int), t60.1, t60.2))))) = some (0, commitF s x.W (s.last + 1)) := by
    rw [e5, Option.bind_some, wr (x := s.last + 1) (by omega) (by omega), commit_eq k s x.W _ hl]; rfl
  rw [e0, commit_eq k s x.W x.TS hl, e2, e3, e6]
  by_cases h0 : x.What = 0
  · simp [h0]
  · by_cases h1 : x.What = 1
    · simp [h1]
    · by_cases h2 : x.What = 2
      · simp [h2]
      · by_cases h3 : x.What = 3
        · simp [h3]
        · simp [h0, h1, h2, h3]
/-- What holds of writers that steps have made. -/
structure Inv (s : status_Writers) : Prop where
  last0 : 0 ≤ s.last
  lastM : s.last ≤ 1048576
  st : ∀ w, 1 ≤ w → w ≤ (s.l.length : Int) → 1 ≤ (wa s.l w).state ∧ (wa s.l w).state ≤ 4
  ts : ∀ w, 1 ≤ w → w ≤ (s.l.length : Int) → 0 ≤ (wa s.l w).ts ∧ (wa s.l w).ts ≤ s.last ∧ ((wa s.l w).ts ≠ 0 → (wa s.l w).state = 3)
  two : ∀ w v, 1 ≤ w → w ≤ (s.l.length : Int) → 1 ≤ v → v < w → (wa s.l w).ts ≠ 0 → (wa s.l w).ts ≠ (wa s.l v).ts
  top : s.last ≠ 0 → ∃ w, 1 ≤ w ∧ w ≤ (s.l.length : Int) ∧ (wa s.l w).ts = s.last
theorem inv_new : Inv ⟨[], 0⟩ := ⟨by decide, by decide, fun w h h' => by simp at h'; omega, fun w h h' => by simp at h'; omega, fun w v h h' => by simp at h'; omega, fun h => absurd rfl h⟩
theorem inv_begin {s : status_Writers} (I : Inv s) : Inv (beginF s).2 := by
  have hl : ((s.l ++ [(⟨1, 0⟩ : status_writer)]).length : Int) = (s.l.length : Int) + 1 := by simp
  refine ⟨I.last0, I.lastM, ?_, ?_, ?_, ?_⟩ <;> simp only [beginF, hl]
  · intro w h1 h2
    rw [wa_app h1 h2]; split
    · next h => exact I.st w h1 h
    · exact ⟨by decide, by decide⟩
  · intro w h1 h2
    rw [wa_app h1 h2]; split
    · next h => exact I.ts w h1 h
    · exact ⟨Int.le_refl _, I.last0, fun h => absurd rfl h⟩
  · intro w v h1 h2 h3 h4
    rw [wa_app h1 h2, wa_app h3 (by omega)]; split
    · next h => rw [if_pos (by omega)]; exact I.two w v h1 h h3 h4
    · intro h; exact absurd rfl h
  · intro h
    obtain ⟨w, h1, h2, h3⟩ := I.top h
    exact ⟨w, h1, by omega, by rw [wa_app h1 (by omega), if_pos h2]; exact h3⟩
theorem before_vals : before 2 = 1 ∧ before 3 = 1 ∧ before 4 = 2 := ⟨rfl, rfl, rfl⟩
theorem inv_turn {s : status_Writers} {w is : Int} (I : Inv s) (his : is = 2 ∨ is = 4) : Inv (turnF s w is).2 := by
  unfold turnF
  split
  · next h =>
    obtain ⟨⟨h1, h2⟩, h3⟩ := may_in h
    have hb : (wa s.l w).state ≠ 3 := by rcases his with rfl | rfl <;> (rw [h3]; decide)
    have ht : (wa s.l w).ts = 0 := by
      by_cases e : (wa s.l w).ts = 0
      · exact e
      · exact absurd ((I.ts w h1 h2).2.2 e) hb
    refine ⟨I.last0, I.lastM, ?_, ?_, ?_, ?_⟩ <;> simp only [List.length_set]
    · intro v g1 g2
      rw [wa_set h1 h2 g1]; split
      · rcases his with rfl | rfl <;> exact ⟨by show (1 : Int) ≤ _; simp, by show _ ≤ (4 : Int); simp⟩
      · exact I.st v g1 g2
    · intro v g1 g2
      rw [wa_set h1 h2 g1]; split
      · exact ⟨by show 0 ≤ (wa s.l w).ts; omega, by show (wa s.l w).ts ≤ _; have := I.last0; omega, fun h => absurd ht h⟩
      · exact I.ts v g1 g2
    · intro v u g1 g2 g3 g4
      rw [wa_set h1 h2 g1, wa_set h1 h2 g3]; split
      · intro h; exact absurd ht h
      · split
        · intro h; show _ ≠ (wa s.l w).ts; rw [ht]; exact h
        · exact I.two v u g1 g2 g3 g4
    · intro h
      obtain ⟨v, g1, g2, g3⟩ := I.top h
      exact ⟨v, g1, g2, by rw [wa_set h1 h2 g1, if_neg (fun e => by subst e; omega)]; exact g3⟩
  · exact I
theorem imax_eq (a b : Int) : imax a b = if a ≤ b then b else a := by unfold imax; first | rfl | (split <;> split <;> omega) | omega
theorem inv_commit {s : status_Writers} {w ts : Int} (I : Inv s) : Inv (commitF s w ts).2 := by
  unfold commitF
  split
  · next h =>
    obtain ⟨⟨h1, h2⟩, h3⟩ := may_in h
    have ht : (wa s.l w).ts = 0 := by
      by_cases e : (wa s.l w).ts = 0
      · exact e
      · exact absurd ((I.ts w h1 h2).2.2 e) (by rw [h3]; decide)
    split
    · exact I
    · next hc =>
      have hc' : ts = 0 ∨ (s.last < ts ∧ ts ≤ 1048576) := by omega
      have l0 := I.last0
      have lM := I.lastM
      have hm : s.last ≤ imax s.last ts ∧ ts ≤ imax s.last ts ∧ (ts = 0 → imax s.last ts = s.last) ∧ (ts ≠ 0 → imax s.last ts = ts) := by
        rw [imax_eq]; split <;> omega
      refine ⟨by show 0 ≤ imax s.last ts; omega, by show imax s.last ts ≤ _; by_cases e : ts = 0 <;> simp_all, ?_, ?_, ?_, ?_⟩ <;> simp only [List.length_set]
      · intro v g1 g2
        rw [wa_set h1 h2 g1]; split
        · exact ⟨by show (1 : Int) ≤ 3; decide, by show (3 : Int) ≤ 4; decide⟩
        · exact I.st v g1 g2
      · intro v g1 g2
        rw [wa_set h1 h2 g1]; split
        · exact ⟨by show 0 ≤ ts; omega, hm.2.1, fun _ => rfl⟩
        · obtain ⟨a, b, c⟩ := I.ts v g1 g2
          exact ⟨a, by show _ ≤ imax s.last ts; omega, c⟩
      · intro v u g1 g2 g3 g4
        rw [wa_set h1 h2 g1, wa_set h1 h2 g3]; split
        · intro h
          have hu := I.ts u g3 (by omega)
          rw [if_neg (by omega)]
          intro e
          have e' : ts = (wa s.l u).ts := e
          have h' : ts ≠ 0 := h
          omega
        · split
          · intro h e
            have hv := I.ts v g1 g2
            have e' : (wa s.l v).ts = ts := e
            omega
          · exact I.two v u g1 g2 g3 g4
      · intro hI
        by_cases e : ts = 0
        · have hL : s.last ≠ 0 := fun z => hI (by show imax s.last ts = 0; rw [hm.2.2.1 e]; exact z)
          obtain ⟨v, g1, g2, g3⟩ := I.top hL
          refine ⟨v, g1, g2, ?_⟩
          rw [wa_set h1 h2 g1, if_neg (fun e' => by subst e'; exact absurd (g3.symm.trans ht) hL), hm.2.2.1 e]; exact g3
        · exact ⟨w, h1, h2, by rw [wa_set h1 h2 h1, if_pos rfl, hm.2.2.2 e]⟩
  · exact I
theorem turn_len (s : status_Writers) (w is : Int) : (turnF s w is).2.l.length = s.l.length := by unfold turnF; split <;> simp
theorem commit_len (s : status_Writers) (w ts : Int) : (commitF s w ts).2.l.length = s.l.length := by unfold commitF; split <;> (try split) <;> simp
theorem inv_do {x : ferrymanlaw08_Step} {s : status_Writers} (I : Inv s) : Inv (doF x s).2.2 := by
  unfold doF
  split
  · exact inv_begin I
  · split
    · exact inv_commit I
    · split
      · exact inv_turn I (.inl rfl)
      · split
        · exact inv_turn I (.inr rfl)
        · exact inv_commit I
theorem do_len (x : ferrymanlaw08_Step) (s : status_Writers) : (doF x s).2.2.l.length = s.l.length + if x.What = 0 then 1 else 0 := by
  unfold doF
  split
  · simp [beginF]
  · split
    · exact commit_len _ _ _
    · split
      · exact turn_len _ _ _
      · split
        · exact turn_len _ _ _
        · exact commit_len _ _ _
/-! ### Busy, Active -/
def isB (x : status_writer) : Bool := (x.state == 1) || (x.state == 2)
def bz (l : List status_writer) : Nat → Nat → List Int
  | _, 0 => []
  | i, j + 1 => if isB (rd l (i : Int)) = true then ((i : Int) + 1) :: bz l (i + 1) j else bz l (i + 1) j
def az (l : List status_writer) : Nat → Nat → Int
  | _, 0 => 0
  | i, j + 1 => (if (rd l (i : Int)).state == 1 then 1 else 0) + az l (i + 1) j
theorem bz_len (l : List status_writer) : ∀ j i, (bz l i j).length ≤ j
  | 0, i => by simp [bz]
  | j + 1, i => by
    have := bz_len l j (i + 1)
    unfold bz; split <;> simp <;> omega
theorem az_le (l : List status_writer) : ∀ j i, 0 ≤ az l i j ∧ az l i j ≤ (j : Int)
  | 0, i => by simp [az]
  | j + 1, i => by
    have := az_le l j (i + 1)
    unfold az; split <;> omega
theorem contains12 (k : Nat) (x : Int) : slices_Contains_uint8_uint8 (k + 3) [1, 2] x = some ((x == 1) || (x == 2)) := by
  unfold slices_Contains_uint8_uint8 slices_Index_uint8_uint8
  have e1 : rd ([1, 2] : List Int) 0 = 1 := rfl
  have e2 : rd ([1, 2] : List Int) 1 = 2 := rfl
  have w1 : IntKind.i64.wrap ((0 : Int) + 1) = 1 := by decide
  have w2 : IntKind.i64.wrap ((1 : Int) + 1) = 2 := by decide
  simp only [slices_Index_uint8_uint8_l0, List.length_cons, List.length_nil, e1, e2, w1, w2]
  by_cases h1 : x = 1
  · subst h1; rfl
  · by_cases h2 : x = 2
    · subst h2; rfl
    · simp [h1, h2]
theorem contains1 (k : Nat) (x : Int) : slices_Contains_uint8_uint8 (k + 3) [1] x = some (x == 1) := by
  unfold slices_Contains_uint8_uint8 slices_Index_uint8_uint8
  have e1 : rd ([1] : List Int) 0 = 1 := rfl
  have w1 : IntKind.i64.wrap ((0 : Int) + 1) = 1 := by decide
  simp only [slices_Index_uint8_uint8_l0, List.length_cons, List.length_nil, e1, w1]
  by_cases h1 : x = 1
  · subst h1; rfl
  · simp [h1]
theorem those_busy (s : status_Writers) (m : Nat) (hl : s.l.length ≤ 1000) : ∀ (j k i : Nat) (acc : List Int), i + j = s.l.length → j + 4 ≤ k → acc.length ≤ i →
    status_Writers_those_1_PO_l0 s [1, 2] (slices_AppendSeq_int_int_N_Writers_those_1_PO_b0 m) k (i : Int) (.inl acc) = some (.inr (.inl (acc ++ bz s.l i j))) := by
  intro j
  induction j with
  | zero =>
    intro k i acc h1 h2 h3
    obtain ⟨k, rfl⟩ : ∃ k', k = k' + 1 := ⟨k - 1, by omega⟩
    have : ¬ ((i : Int) < (s.l.length : Int)) := by omega
    simp [status_Writers_those_1_PO_l0, this, bz]
  | succ j ih =>
    intro k i acc h1 h2 h3
    obtain ⟨k, rfl⟩ : ∃ k', k = k' + 3 + 1 := ⟨k - 4, by omega⟩
    have hi1 : (i : Int) < (s.l.length : Int) := by omega
    have hi0 : (0 : Int) ≤ (i : Int) := by omega
    rw [status_Writers_those_1_PO_l0, contains12, wr (x := (i : Int) + 1) (by omega) (by omega)]
    simp only [hi1, hi0, decide_true, and_self, if_true, Option.bind_some]
    have hi : ((i + 1 : Nat) : Int) = (i : Int) + 1 := by omega
    by_cases hb : isB (rd s.l (i : Int)) = true
    · have hb' : (((rd s.l (i : Int)).state == 1) || ((rd s.l (i : Int)).state == 2)) = true := hb
      have h4 : acc.length + ([(i : Int) + 1] : List Int).length ≤ 17592186044416 := by simp; omega
      have := ih (k + 3) (i + 1) (acc ++ [(i : Int) + 1]) (by omega) (by omega) (by simp; omega)
      rw [hi] at this
      simp only [hb', if_true, toL, Option.bind_some, slices_AppendSeq_int_int_N_Writers_those_1_PO_b0, h4, isNorm, Bool.not_true, Bool.false_eq_true, if_false]
      rw [this, bz, if_pos hb, List.append_assoc]; rfl
    · have hb' : (((rd s.l (i : Int)).state == 1) || ((rd s.l (i : Int)).state == 2)) = false := by simpa [isB] using hb
      have := ih (k + 3) (i + 1) acc (by omega) (by omega) (by omega)
      rw [hi] at this
      simp only [hb', Bool.false_eq_true, if_false, Option.bind_some]
      rw [this, bz, if_neg hb]
theorem Busy_eq (k : Nat) (s : status_Writers) (hl : s.l.length ≤ 1000) (hk : s.l.length + 4 ≤ k) : status_Writers_Busy_PO k s = some (bz s.l 0 s.l.length) := by
  have h := those_busy s k hl s.l.length k 0 [] (by omega) hk (by simp)
  rw [show ((0 : Nat) : Int) = 0 from rfl] at h
  unfold status_Writers_Busy_PO slices_Collect_int_Writers_those_1_PO slices_AppendSeq_int_int_N_Writers_those_1_PO status_Writers_those_PO status_Writers_those_1_PO
  rw [h]; rfl
theorem those_active (s : status_Writers) (m : Nat) (hl : s.l.length ≤ 1000) : ∀ (j k i : Nat) (acc : Int), i + j = s.l.length → j + 4 ≤ k → 0 ≤ acc → acc ≤ (i : Int) →
    status_Writers_those_1_PO_l0 s [1] (status_Writers_Active_PO_b0 m) k (i : Int) (.inl acc) = some (.inr (.inl (acc + az s.l i j))) := by
  intro j
  induction j with
  | zero =>
    intro k i acc h1 h2 h3 h4
    obtain ⟨k, rfl⟩ : ∃ k', k = k' + 1 := ⟨k - 1, by omega⟩
    have : ¬ ((i : Int) < (s.l.length : Int)) := by omega
    simp [status_Writers_those_1_PO_l0, this, az]
  | succ j ih =>
    intro k i acc h1 h2 h3 h4
    obtain ⟨k, rfl⟩ : ∃ k', k = k' + 3 + 1 := ⟨k - 4, by omega⟩
    have hi1 : (i : Int) < (s.l.length : Int) := by omega
    have hi0 : (0 : Int) ≤ (i : Int) := by omega
    rw [status_Writers_those_1_PO_l0, contains1, wr (x := (i : Int) + 1) (by omega) (by omega)]
    simp only [hi1, hi0, decide_true, and_self, if_true, Option.bind_some]
    have hi : ((i + 1 : Nat) : Int) = (i : Int) + 1 := by omega
    by_cases hb : ((rd s.l (i : Int)).state == 1) = true
    · have := ih (k + 3) (i + 1) (acc + 1) (by omega) (by omega) (by omega) (by omega)
      rw [hi] at this
      simp only [hb, if_true, toL, Option.bind_some, status_Writers_Active_PO_b0, isNorm, Bool.not_true, Bool.false_eq_true, if_false, wr (x := acc + 1) (by omega) (by omega)]
      rw [this, az, if_pos hb]; simp only [Option.some.injEq, Sum.inr.injEq, Sum.inl.injEq]; omega
    · have hb' : ((rd s.l (i : Int)).state == 1) = false := by simpa using hb
      have := ih (k + 3) (i + 1) acc (by omega) (by omega) (by omega) (by omega)
      rw [hi] at this
      simp only [hb', Bool.false_eq_true, if_false, Option.bind_some]
      rw [this, az, if_neg hb]; simp only [Option.some.injEq, Sum.inr.injEq, Sum.inl.injEq]; omega
theorem Active_eq (k : Nat) (s : status_Writers) (hl : s.l.length ≤ 1000) (hk : s.l.length + 4 ≤ k) : status_Writers_Active_PO k s = some (az s.l 0 s.l.length) := by
  have h := those_active s k hl s.l.length k 0 0 (by omega) hk (by omega) (by omega)
  rw [show ((0 : Nat) : Int) = 0 from rfl] at h
  unfold status_Writers_Active_PO status_Writers_those_PO status_Writers_those_1_PO
  rw [h, Int.zero_add]; rfl
theorem High_eq (k : Nat) (s : status_Writers) (hl : s.l.length ≤ 1000) : status_Writers_High_PO k s = some ((s.l.length : Int) + 1) := by
  unfold status_Writers_High_PO; rw [wr (by omega) (by omega)]
theorem Copy_eq (k : Nat) (s : status_Writers) (hl : s.l.length ≤ 1000) : status_Writers_Copy_PO k s = some s := by
  unfold status_Writers_Copy_PO slices_Clone_status_writer_status_writer
  rw [if_pos (by simp; omega)]; rfl
theorem ints_l0 (a : List Int) (hl : a.length ≤ 1000) : ∀ (j k i : Nat), i + j = a.length → j < k → ferrymanref08_Ints_l0 a a k (i : Int) = some (.inr ()) := by
  intro j
  induction j with
  | zero =>
    intro k i h1 h2
    obtain ⟨k, rfl⟩ : ∃ k', k = k' + 1 := ⟨k - 1, by omega⟩
    have : ¬ ((i : Int) < (a.length : Int)) := by omega
    simp [ferrymanref08_Ints_l0, this]
  | succ j ih =>
    intro k i h1 h2
    obtain ⟨k, rfl⟩ : ∃ k', k = k' + 1 := ⟨k - 1, by omega⟩
    have hi1 : (i : Int) < (a.length : Int) := by omega
    have hi0 : (0 : Int) ≤ (i : Int) := by omega
    have := ih k (i + 1) (by omega) (by omega)
    rw [show ((i + 1 : Nat) : Int) = (i : Int) + 1 by omega] at this
    rw [ferrymanref08_Ints_l0, wr (x := (i : Int) + 1) (by omega) (by omega)]
    simp [hi1, hi0, this]
theorem Ints_self (k : Nat) (a : List Int) (hl : a.length ≤ 1000) (hk : a.length < k) : ferrymanref08_Ints k a a = some true := by
  have h := ints_l0 a hl a.length k 0 (by omega) hk
  rw [show ((0 : Nat) : Int) = 0 from rfl] at h
  unfold ferrymanref08_Ints
  rw [h]; simp
theorem works_at {k : Nat} (hk : 60 ≤ k) : ferrymanlaw08_works k = some true := OLe.up (f := fun k => ferrymanlaw08_works k) (fun k => ferrymanlaw08_works.mono) hk _ works_60
end Go.Proofs.YtbdelepfpnneoaaDoor
