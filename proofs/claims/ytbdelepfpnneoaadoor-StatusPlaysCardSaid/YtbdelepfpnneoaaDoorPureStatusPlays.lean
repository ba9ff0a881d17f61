/-  The plain law StatusPlays. -/
import Derived.Test.YtbdelepfpnneoaaDoorPureBase
import Derived.Test.YtbdelepfpnneoaaDoorGs1LStatusPlays
namespace Go.Proofs.YtbdelepfpnneoaaDoor
open Go Go.RowKit
set_option linter.unusedVariables false
set_option linter.unusedSimpArgs false
def cv (y : status_writer) : ferrymanref08_Writer := ⟨y.state, y.ts⟩
def ref (s : status_Writers) : ferrymanref08_Writers := ⟨s.l.map cv⟩
theorem rd_cv (l : List status_writer) (i : Int) : rd (l.map cv) i = cv (rd l i) := by
  unfold rd
  rw [List.getD_eq_getElem?_getD, List.getD_eq_getElem?_getD, List.getElem?_map]
  cases l[i.toNat]? <;> rfl
theorem ref_len (s : status_Writers) : (ref s).L.length = s.l.length := by simp [ref]
def mz (l : List status_writer) : Nat → Nat → Int → Int
  | _, 0, c => c
  | i, j + 1, c => mz l (i + 1) j (if (rd l (i : Int)).ts > c then (rd l (i : Int)).ts else c)
theorem mz_ge (l : List status_writer) : ∀ j i c, c ≤ mz l i j c ∧ (∀ m : Nat, i ≤ m → m < i + j → (rd l (m : Int)).ts ≤ mz l i j c) ∧ (mz l i j c = c ∨ ∃ m : Nat, i ≤ m ∧ m < i + j ∧ (rd l (m : Int)).ts = mz l i j c) := by
  intro j
  induction j with
  | zero => intro i c; exact ⟨Int.le_refl _, fun m h h' => by omega, .inl rfl⟩
  | succ j ih =>
    intro i c
    obtain ⟨h1, h2, h3⟩ := ih (i + 1) (if (rd l (i : Int)).ts > c then (rd l (i : Int)).ts else c)
    have e : mz l i (j + 1) c = mz l (i + 1) j (if (rd l (i : Int)).ts > c then (rd l (i : Int)).ts else c) := rfl
    rw [e]
    refine ⟨?_, ?_, ?_⟩
    · by_cases g : (rd l (i : Int)).ts > c
      · rw [if_pos g] at h1 ⊢; omega
      · rw [if_neg g] at h1 ⊢; omega
    · intro m g1 g2
      by_cases g : m = i
      · subst g
        by_cases g : (rd l (m : Int)).ts > c
        · rw [if_pos g] at h1 ⊢; omega
        · rw [if_neg g] at h1 ⊢; omega
      · exact h2 m (by omega) (by omega)
    · rcases h3 with h3 | ⟨m, g1, g2, g3⟩
      · by_cases g : (rd l (i : Int)).ts > c
        · rw [if_pos g] at h3 ⊢; exact .inr ⟨i, by omega, by omega, h3.symm⟩
        · rw [if_neg g] at h3 ⊢; exact .inl h3
      · exact .inr ⟨m, by omega, by omega, g3⟩
theorem rLast_l0 (s : status_Writers) (hl : s.l.length ≤ 1000) : ∀ (j k i : Nat) (c : Int), i + j = s.l.length → j < k →
    ferrymanref08_Writers_Last_PR_l0 (ref s) k c (i : Int) = some (mz s.l i j c) := by
  intro j
  induction j with
  | zero =>
    intro k i c h1 h2
    obtain ⟨k, rfl⟩ : ∃ k', k = k' + 1 := ⟨k - 1, by omega⟩
    have : ¬ ((i : Int) < (s.l.length : Int)) := by omega
    simp [ferrymanref08_Writers_Last_PR_l0, ref_len, this, mz]
  | succ j ih =>
    intro k i c h1 h2
    obtain ⟨k, rfl⟩ : ∃ k', k = k' + 1 := ⟨k - 1, by omega⟩
    have hi1 : (i : Int) < (s.l.length : Int) := by omega
    have hi0 : (0 : Int) ≤ (i : Int) := by omega
    have hi : ((i + 1 : Nat) : Int) = (i : Int) + 1 := by omega
    have ec : (rd (ref s).L (i : Int)).TS = (rd s.l (i : Int)).ts := by show (rd (s.l.map cv) _).TS = _; rw [rd_cv]; rfl
    rw [ferrymanref08_Writers_Last_PR_l0, wr (x := (i : Int) + 1) (by omega) (by omega), ref_len, ec]
    simp only [hi1, hi0, decide_true, and_self, if_true]
    by_cases g : (rd s.l (i : Int)).ts > c
    · have := ih k (i + 1) (rd s.l (i : Int)).ts (by omega) (by omega)
      rw [hi] at this
      simp only [g, decide_true, if_true, Option.bind_some]
      rw [this, mz, if_pos g]
    · have := ih k (i + 1) c (by omega) (by omega)
      rw [hi] at this
      simp only [g, decide_false, Bool.false_eq_true, if_false, Option.bind_some]
      rw [this, mz, if_neg g]
theorem mz_last {s : status_Writers} (I : Inv s) : mz s.l 0 s.l.length 0 = s.last := by
  obtain ⟨h1, h2, h3⟩ := mz_ge s.l s.l.length 0 0
  have up : mz s.l 0 s.l.length 0 ≤ s.last := by
    rcases h3 with h3 | ⟨m, g1, g2, g3⟩
    · rw [h3]; exact I.last0
    · have := (I.ts ((m : Int) + 1) (by omega) (by omega)).2.1
      unfold wa at this
      rw [show (m : Int) + 1 - 1 = (m : Int) by omega] at this
      omega
  by_cases e : s.last = 0
  · omega
  · obtain ⟨w, g1, g2, g3⟩ := I.top e
    have := h2 (w - 1).toNat (by omega) (by omega)
    rw [show (((w - 1).toNat : Nat) : Int) = w - 1 by omega] at this
    have g3' : (rd s.l (w - 1)).ts = s.last := g3
    omega
theorem rLast_eq {s : status_Writers} (I : Inv s) (hl : s.l.length ≤ 1000) {k : Nat} (hk : s.l.length < k) : ferrymanref08_Writers_Last_PR k (ref s) = some s.last := by
  have h := rLast_l0 s hl s.l.length k 0 0 (by omega) hk
  rw [show ((0 : Nat) : Int) = 0 from rfl] at h
  unfold ferrymanref08_Writers_Last_PR
  rw [h, mz_last I]; rfl
theorem rBusy_l0 (s : status_Writers) (hl : s.l.length ≤ 1000) : ∀ (j k i : Nat) (acc : List Int), i + j = s.l.length → j < k → acc.length ≤ i →
    ferrymanref08_Writers_Busy_PR_l0 (ref s) k acc (i : Int) = some (acc ++ bz s.l i j) := by
  intro j
  induction j with
  | zero =>
    intro k i acc h1 h2 h3
    obtain ⟨k, rfl⟩ : ∃ k', k = k' + 1 := ⟨k - 1, by omega⟩
    have : ¬ ((i : Int) < (s.l.length : Int)) := by omega
    simp [ferrymanref08_Writers_Busy_PR_l0, ref_len, this, bz]
  | succ j ih =>
    intro k i acc h1 h2 h3
    obtain ⟨k, rfl⟩ : ∃ k', k = k' + 1 := ⟨k - 1, by omega⟩
    have hi1 : (i : Int) < (s.l.length : Int) := by omega
    have hi0 : (0 : Int) ≤ (i : Int) := by omega
    have hi : ((i + 1 : Nat) : Int) = (i : Int) + 1 := by omega
    have ec : (rd (ref s).L (i : Int)).State = (rd s.l (i : Int)).state := by show (rd (s.l.map cv) _).State = _; rw [rd_cv]; rfl
    have h9 : acc.length + ([(i : Int) + 1] : List Int).length ≤ 17592186044416 := by simp; omega
    rw [ferrymanref08_Writers_Busy_PR_l0, wr (x := (i : Int) + 1) (by omega) (by omega), ref_len, ec]
    simp only [hi1, hi0, decide_true, and_self, if_true]
    by_cases ha : ((rd s.l (i : Int)).state == 1) = true
    · have hb : isB (rd s.l (i : Int)) = true := by unfold isB; rw [ha]; rfl
      have := ih k (i + 1) (acc ++ [(i : Int) + 1]) (by omega) (by omega) (by simp; omega)
      rw [hi] at this
      simp only [ha, if_true, Option.bind_some, h9]
      rw [this, bz, if_pos hb]; simp
    · have ha' : ((rd s.l (i : Int)).state == 1) = false := by simpa using ha
      by_cases hb2 : ((rd s.l (i : Int)).state == 2) = true
      · have hb : isB (rd s.l (i : Int)) = true := by unfold isB; rw [hb2]; simp
        have := ih k (i + 1) (acc ++ [(i : Int) + 1]) (by omega) (by omega) (by simp; omega)
        rw [hi] at this
        simp only [ha', hb2, Bool.false_eq_true, if_false, if_true, Option.bind_some, h9]
        rw [this, bz, if_pos hb]; simp
      · have hb2' : ((rd s.l (i : Int)).state == 2) = false := by simpa using hb2
        have hb : ¬ isB (rd s.l (i : Int)) = true := by unfold isB; rw [ha', hb2']; simp
        have := ih k (i + 1) acc (by omega) (by omega) (by omega)
        rw [hi] at this
        simp only [ha', hb2', Bool.false_eq_true, if_false, Option.bind_some]
        rw [this, bz, if_neg hb]
theorem rBusy_eq (s : status_Writers) (hl : s.l.length ≤ 1000) {k : Nat} (hk : s.l.length < k) : ferrymanref08_Writers_Busy_PR k (ref s) = some (bz s.l 0 s.l.length) := by
  have h := rBusy_l0 s hl s.l.length k 0 [] (by omega) hk (by simp)
  rw [show ((0 : Nat) : Int) = 0 from rfl] at h
  unfold ferrymanref08_Writers_Busy_PR
  rw [h]; rfl
theorem rActive_l0 (s : status_Writers) (hl : s.l.length ≤ 1000) : ∀ (j k i : Nat) (c : Int), i + j = s.l.length → j < k → 0 ≤ c → c ≤ (i : Int) →
    ferrymanref08_Writers_Active_PR_l0 (ref s) k c (i : Int) = some (c + az s.l i j) := by
  intro j
  induction j with
  | zero =>
    intro k i c h1 h2 h3 h4
    obtain ⟨k, rfl⟩ : ∃ k', k = k' + 1 := ⟨k - 1, by omega⟩
    have : ¬ ((i : Int) < (s.l.length : Int)) := by omega
    simp [ferrymanref08_Writers_Active_PR_l0, ref_len, this, az]
  | succ j ih =>
    intro k i c h1 h2 h3 h4
    obtain ⟨k, rfl⟩ : ∃ k', k = k' + 1 := ⟨k - 1, by omega⟩
    have hi1 : (i : Int) < (s.l.length : Int) := by omega
    have hi0 : (0 : Int) ≤ (i : Int) := by omega
    have hi : ((i + 1 : Nat) : Int) = (i : Int) + 1 := by omega
    have ec : (rd (ref s).L (i : Int)).State = (rd s.l (i : Int)).state := by show (rd (s.l.map cv) _).State = _; rw [rd_cv]; rfl
    rw [ferrymanref08_Writers_Active_PR_l0, wr (x := (i : Int) + 1) (by omega) (by omega), wr (x := c + 1) (by omega) (by omega), ref_len, ec]
    simp only [hi1, hi0, decide_true, and_self, if_true]
    by_cases ha : ((rd s.l (i : Int)).state == 1) = true
    · have := ih k (i + 1) (c + 1) (by omega) (by omega) (by omega) (by omega)
      rw [hi] at this
      simp only [ha, if_true, Option.bind_some]
      rw [this, az, if_pos ha]; simp only [Option.some.injEq]; omega
    · have ha' : ((rd s.l (i : Int)).state == 1) = false := by simpa using ha
      have := ih k (i + 1) c (by omega) (by omega) (by omega) (by omega)
      rw [hi] at this
      simp only [ha', Bool.false_eq_true, if_false, Option.bind_some]
      rw [this, az, if_neg ha]; simp only [Option.some.injEq]; omega
theorem rActive_eq (s : status_Writers) (hl : s.l.length ≤ 1000) {k : Nat} (hk : s.l.length < k) : ferrymanref08_Writers_Active_PR k (ref s) = some (az s.l 0 s.l.length) := by
  have h := rActive_l0 s hl s.l.length k 0 0 (by omega) hk (by omega) (by omega)
  rw [show ((0 : Nat) : Int) = 0 from rfl, Int.zero_add] at h
  unfold ferrymanref08_Writers_Active_PR
  rw [h]; rfl
theorem rOf_eq (s : status_Writers) (hl : s.l.length ≤ 1000) (k : Nat) (w : Int) : ferrymanref08_Writers_Of_PR k (ref s) w = some (stOf s.l w) := by
  unfold ferrymanref08_Writers_Of_PR stOf
  rw [ref_len]
  by_cases h : 1 ≤ w ∧ w ≤ (s.l.length : Int)
  · have h1 : ¬ w < 1 := by omega
    have h2 : ¬ w > (s.l.length : Int) := by omega
    have h3 : 0 ≤ w - 1 ∧ w - 1 < (s.l.length : Int) := by omega
    have ec : rd (ref s).L (w - 1) = cv (wa s.l w) := rd_cv _ _
    rw [wr (by omega) (by omega), ec]
    simp only [h1, h2, h3, h, decide_false, Bool.or_self, Bool.false_eq_true, if_false, if_true, and_self, cv]
  · have h1 : ((decide (w < 1)) || (decide (w > (s.l.length : Int)))) = true := by simp; omega
    rw [if_pos h1, if_neg h]
theorem rHigh_eq (s : status_Writers) (hl : s.l.length ≤ 1000) (k : Nat) : ferrymanref08_Writers_High_PR k (ref s) = some ((s.l.length : Int) + 1) := by
  unfold ferrymanref08_Writers_High_PR; rw [ref_len, wr (by omega) (by omega)]
theorem rturn_eq (s : status_Writers) (hl : s.l.length ≤ 1000) (k : Nat) (w is ts : Int) (may : Bool) : ferrymanref08_Writers_turn_PR k (ref s) w (before is) is ts may =
    some (if mayF s.l w is = 0 then (if may = true then (0, ref ⟨s.l.set (w - 1).toNat ⟨is, ts⟩, s.last⟩) else (1, ref s)) else (mayF s.l w is, ref s)) := by
  unfold ferrymanref08_Writers_turn_PR
  rw [ref_len]
  by_cases h : 1 ≤ w ∧ w ≤ (s.l.length : Int)
  · have h1 : ¬ w < 1 := by omega
    have h2 : ¬ w > (s.l.length : Int) := by omega
    have h3 : 0 ≤ w - 1 ∧ w - 1 < (s.l.length : Int) := by omega
    have ec : rd (ref s).L (w - 1) = cv (wa s.l w) := rd_cv _ _
    rw [wr (by omega) (by omega), ec]
    simp only [h1, h2, decide_false, Bool.or_self, Bool.false_eq_true, if_false]
    rw [if_pos h3]
    by_cases e : (wa s.l w).state = before is
    · have hm : mayF s.l w is = 0 := by unfold mayF; rw [if_pos h, if_pos e]
      have e' : ((cv (wa s.l w)).State != before is) = false := by show ((wa s.l w).state != _) = _; simp [e]
      rw [if_neg (by simp [e']), if_pos hm]
      cases may
      · rfl
      · have hq : ([] : List ferrymanref08_Writer).length + s.l.length ≤ 8796093022208 := by simp; omega
        have hp : 0 ≤ w - 1 ∧ w - 1 < ((([] : List ferrymanref08_Writer) ++ (ref s).L).length : Int) := by rw [List.nil_append, ref_len]; exact h3
        rw [if_neg (by simp), if_pos hq, if_pos hp, Option.bind_some, List.nil_append, if_pos rfl]
        simp only [ref, List.map_set, cv]
    · have hm : mayF s.l w is = 7 := by unfold mayF; rw [if_pos h, if_neg e]
      have e' : ((cv (wa s.l w)).State != before is) = true := by show ((wa s.l w).state != _) = _; simp [e]
      rw [if_pos e', if_neg (by rw [hm]; decide), hm]
  · have h1 : ((decide (w < 1)) || (decide (w > (s.l.length : Int)))) = true := by simp; omega
    have hm : mayF s.l w is = 5 := by unfold mayF; rw [if_neg h]
    rw [if_pos h1, if_neg (by rw [hm]; decide), hm]
theorem rcommit_eq {s : status_Writers} (I : Inv s) (hl : s.l.length ≤ 1000) {k : Nat} (hk : s.l.length < k) (w ts : Int) : ferrymanref08_Writers_Commit_PR k (ref s) w ts = some ((commitF s w ts).1, ref (commitF s w ts).2) := by
  unfold ferrymanref08_Writers_Commit_PR
  rw [rLast_eq I hl hk]
  have em : (Option.bind (α := Bool) (if (ts == (0 : Int)) = true then some (true) else (Option.bind (some s.last) (fun t16 => some (((decide (ts > t16)) && (decide (ts ≤ (1048576 : Int)))))))) (fun x14 => (Option.bind (ferrymanref08_Writers_turn_PR k (ref s) w (1 : Int) (3 : Int) ts x14) (fun t23 => some (t23.1, t23.2))))) =
      ferrymanref08_Writers_turn_PR k (ref s) w (before 3) 3 ts (decide (ts = 0 ∨ (s.last < ts ∧ ts ≤ 1048576))) := by
    have eid : ∀ o : Option (Int × ferrymanref08_Writers), Option.bind o (fun t23 => some (t23.1, t23.2)) = o := by intro o; cases o <;> rfl
    by_cases h : ts = 0
    · subst h; simp only [beq_self_eq_true, if_true, Option.bind_some, true_or, decide_true]; exact eid _
    · have h' : (ts == 0) = false := by simpa using h
      simp only [h', Bool.false_eq_true, if_false, Option.bind_some, h, false_or, Bool.decide_and, gt_iff_lt]; exact eid _
  rw [em, rturn_eq s hl]
  unfold commitF
  by_cases h : mayF s.l w 3 = 0
  · rw [if_pos h, if_pos h]
    by_cases hc : ts ≠ 0 ∧ (ts ≤ s.last ∨ 1048576 < ts)
    · rw [if_pos hc, if_neg (by simp; omega)]
    · rw [if_neg hc, if_pos (by simp; omega)]; rfl
  · rw [if_neg h, if_neg h]
theorem rfall_eq {s : status_Writers} (I : Inv s) (hl : s.l.length ≤ 1000) (k : Nat) (w is : Int) (his : is = 2 ∨ is = 4) : ferrymanref08_Writers_turn_PR k (ref s) w (before is) is 0 true = some ((turnF s w is).1, ref (turnF s w is).2) := by
  rw [rturn_eq s hl]
  unfold turnF
  by_cases h : mayF s.l w is = 0
  · obtain ⟨⟨h1, h2⟩, h3⟩ := may_in h
    have ht : (wa s.l w).ts = 0 := by
      by_cases e : (wa s.l w).ts = 0
      · exact e
      · exact absurd ((I.ts w h1 h2).2.2 e) (by rcases his with rfl | rfl <;> (rw [h3]; decide))
    rw [if_pos h, if_pos h, if_pos rfl, ht]
  · rw [if_neg h, if_neg h]
theorem like_l0 (s : status_Writers) (hs : s.l.length ≤ 900) : ∀ (j k : Nat) (w : Int), -1 ≤ w → w + j = (s.l.length : Int) + 2 → j < k →
    ferrymanlaw08_like_PO_PR_l0 s (ref s) k w = some (.inr ()) := by
  intro j
  induction j with
  | zero =>
    intro k w h0 h1 h2
    obtain ⟨k, rfl⟩ : ∃ k', k = k' + 1 := ⟨k - 1, by omega⟩
    have : ¬ (w ≤ (s.l.length : Int) + 1) := by omega
    rw [ferrymanlaw08_like_PO_PR_l0, rHigh_eq s (by omega)]
    simp [this]
  | succ j ih =>
    intro k w h0 h1 h2
    obtain ⟨k, rfl⟩ : ∃ k', k = k' + 1 := ⟨k - 1, by omega⟩
    have hw1 : w ≤ (s.l.length : Int) + 1 := by omega
    have := ih k (w + 1) (by omega) (by omega) (by omega)
    rw [ferrymanlaw08_like_PO_PR_l0, rHigh_eq s (by omega), Of_eq k s _ (by omega), rOf_eq s (by omega), wr (x := w + 1) (by omega) (by omega)]
    simp only [hw1, decide_true, if_true, Option.bind_some, bne_self_eq_false, Bool.or_self, Bool.false_eq_true, if_false]
    exact this
theorem like_eq {s : status_Writers} (I : Inv s) (hs : s.l.length ≤ 900) {k : Nat} (hk : s.l.length + 6 ≤ k) : ferrymanlaw08_like_PO_PR k s (ref s) = some true := by
  unfold ferrymanlaw08_like_PO_PR
  have el : status_Writers_Last_PO k s = some s.last := rfl
  have hz := bz_len s.l s.l.length 0
  rw [High_eq k s (by omega), rHigh_eq s (by omega), Active_eq k s (by omega) (by omega), rActive_eq s (by omega) (by omega), el, rLast_eq I (by omega) (by omega), Busy_eq k s (by omega) (by omega), rBusy_eq s (by omega) (by omega)]
  have h0 := like_l0 s hs (s.l.length + 3) k (-1) (by omega) (by omega) (by omega)
  have hi := Ints_self k (bz s.l 0 s.l.length) (by omega) (by omega)
  simp only [Option.bind_some, bne_self_eq_false, Bool.false_eq_true, if_false, hi, Bool.not_true, h0, Sum.elim_inr]
theorem plays_l6 : ∀ (j k i : Nat) (l : List Int), l.length ≤ 1000 → i + j = l.length → j < k → ferrymanlaw08_StatusPlays_l6 k l (i : Int) = some () := by
  intro j
  induction j with
  | zero =>
    intro k i l h0 h1 h2
    obtain ⟨k, rfl⟩ : ∃ k', k = k' + 1 := ⟨k - 1, by omega⟩
    have : ¬ ((i : Int) < (l.length : Int)) := by omega
    simp [ferrymanlaw08_StatusPlays_l6, this]
  | succ j ih =>
    intro k i l h0 h1 h2
    obtain ⟨k, rfl⟩ : ∃ k', k = k' + 1 := ⟨k - 1, by omega⟩
    have hi1 : (i : Int) < (l.length : Int) := by omega
    have hi0 : (0 : Int) ≤ (i : Int) := by omega
    have := ih k (i + 1) (l.set (i : Int).toNat (-7)) (by simp; omega) (by simp; omega) (by omega)
    rw [show ((i + 1 : Nat) : Int) = (i : Int) + 1 by omega] at this
    rw [ferrymanlaw08_StatusPlays_l6, wr (x := (i : Int) + 1) (by omega) (by omega)]
    simp only [hi1, hi0, decide_true, and_self, if_true, Option.bind_some]
    exact this
theorem do_le' (x : ferrymanlaw08_Step) (s : status_Writers) : s.l.length ≤ (doF x s).2.2.l.length ∧ (doF x s).2.2.l.length ≤ s.l.length + 1 := by
  have := do_len x s
  split at this <;> omega
theorem rbegin_eq (s : status_Writers) (hl : s.l.length ≤ 1000) (k : Nat) : ferrymanref08_Writers_Begin_PR k (ref s) = some ((beginF s).1, ref (beginF s).2) := by
  unfold ferrymanref08_Writers_Begin_PR
  rw [if_pos (by rw [ref_len]; simp; omega), if_pos (by rw [List.nil_append, ref_len]; simp; omega), List.nil_append]
  simp [ref, beginF, cv]
theorem rstep_eq {s : status_Writers} (I : Inv s) (hl : s.l.length ≤ 900) {k : Nat} (hk : s.l.length < k) (x : ferrymanlaw08_Step) :
    (Option.bind (α := Int × Int × List ferrymanref08_Writer) (if (x.What == (0 : Int)) = true then (Option.bind (ferrymanref08_Writers_Begin_PR k (ref s)) (fun t10932 => some (t10932.1, (0 : Int), t10932.2.L))) else (Option.bind (α := Int × List ferrymanref08_Writer) (if (x.What == (1 : Int)) = true then (Option.bind (ferrymanref08_Writers_Commit_PR k (ref s) (x.W) (x.TS)) (fun t11152 => some (t11152.1, t11152.2.L))) else (Option.bind (α := Int × List ferrymanref08_Writer) (if (x.What == (2 : Int)) = true then (Option.bind (ferrymanref08_Writers_Fall_PR k (ref s) (x.W)) (fun t11259 => some (t11259.1, t11259.2.L))) else (Option.bind (α := Int × List ferrymanref08_Writer) (if (x.What == (3 : Int)) = true then (Option.bind (ferrymanref08_Writers_Fallen_PR k (ref s) (x.W)) (fun t11311 => some (t11311.1, t11311.2.L))) else (Option.bind (ferrymanref08_Writers_Last_PR k (ref s)) (fun t11334 => (Option.bind (ferrymanref08_Writers_Commit_PR k (ref s) (x.W) (IntKind.i64.wrap (t11334 + (1 : Int)))) (fun t11339 => some (t11339.1, t11339.2.L)))))) (fun ⟨x11304, x11305⟩ => some (x11304, x11305)))) (fun ⟨x11252, x11253⟩ => some (x11252, x11253)))) (fun ⟨x11145, x11146⟩ => some ((0 : Int), x11145, x11146)))) (fun ⟨x10924, x10925, x10926⟩ => some (x10924, x10925, x10926)))
    = some ((doF x s).1, (doF x s).2.1, (ref (doF x s).2.2).L) := by
  have e2 : ferrymanref08_Writers_Fall_PR k (ref s) x.W = some ((turnF s x.W 2).1, ref (turnF s x.W 2).2) := by
    have := rfall_eq I (by omega) k x.W 2 (.inl rfl)
    unfold ferrymanref08_Writers_Fall_PR
    rw [show (1 : Int) = before 2 from rfl, this]; rfl
  have e3 : ferrymanref08_Writers_Fallen_PR k (ref s) x.W = some ((turnF s x.W 4).1, ref (turnF s x.W 4).2) := by
    have := rfall_eq I (by omega) k x.W 4 (.inr rfl)
    unfold ferrymanref08_Writers_Fallen_PR
    have eb : ferrymanref08_Writers_turn_PR k (ref s) x.W 2 4 0 true = ferrymanref08_Writers_turn_PR k (ref s) x.W (before 4) 4 0 true := rfl
    rw [eb, this]; rfl
  have l0 := I.last0
  have lM := I.lastM
  rw [rbegin_eq s (by omega), rcommit_eq I (by omega) hk x.W x.TS, e2, e3, rLast_eq I (by omega) hk, Option.bind_some (a := s.last), wr (x := s.last + 1) (by omega) (by omega), rcommit_eq I (by omega) hk x.W (s.last + 1)]
  unfold doF
  by_cases h0 : x.What = 0
  · simp [h0]
  · by_cases h1 : x.What = 1
    · simp [h1]
    · by_cases h2 : x.What = 2
      · simp [h2]
      · by_cases h3 : x.What = 3
        · simp [h3]
        · simp [h0, h1, h2, h3]
theorem plays_l4 (a : List ferrymanlaw08_Step) (ha : a.length ≤ 120) : ∀ (j k i : Nat) (s : status_Writers), i + j = a.length → s.l.length + 2 * j + 9 < k → Inv s → s.l.length + j ≤ 900 →
    ∃ s', Inv s' ∧ s'.l.length ≤ s.l.length + j ∧ ferrymanlaw08_StatusPlays_l4 a k (i : Int) (ref s).L s.l s.last = some (.inr ((ref s').L, s'.l, s'.last)) := by
  intro j
  induction j with
  | zero =>
    intro k i s h1 h2 I h3
    obtain ⟨k, rfl⟩ : ∃ k', k = k' + 1 := ⟨k - 1, by omega⟩
    have : ¬ ((i : Int) < (a.length : Int)) := by omega
    exact ⟨s, I, by omega, by simp [ferrymanlaw08_StatusPlays_l4, this]⟩
  | succ j ih =>
    intro k i s h1 h2 I h3
    obtain ⟨k, rfl⟩ : ∃ k', k = k' + 1 := ⟨k - 1, by omega⟩
    have hi1 : (i : Int) < (a.length : Int) := by omega
    have hi0 : (0 : Int) ≤ (i : Int) := by omega
    have hd := do_le' (rd a (i : Int)) s
    have I2 := inv_do (x := rd a (i : Int)) I
    obtain ⟨s', I', hl', hv⟩ := ih k (i + 1) (doF (rd a (i : Int)) s).2.2 (by omega) (by omega) I2 (by omega)
    rw [show ((i + 1 : Nat) : Int) = (i : Int) + 1 by omega] at hv
    refine ⟨s', I', by omega, ?_⟩
    have hr := rstep_eq I (by omega) (k := k) (by omega) (rd a (i : Int))
    have hs : (⟨s.l, s.last⟩ : status_Writers) = s := rfl
    have hx : (⟨(ref s).L⟩ : ferrymanref08_Writers) = ref s := rfl
    have hcp : ferrymanref08_Writers_Copy_PR k (ref s) = some (ref s) := rfl
    rw [ferrymanlaw08_StatusPlays_l4, hs, hx, Copy_eq k s (by omega), hcp, do_eq k _ s (by omega) ⟨I.last0, I.lastM⟩, wr (x := (i : Int) + 1) (by omega) (by omega), hr]
    generalize hD : doF (rd a (i : Int)) s = D at hv hd I2 ⊢
    have hxD : (⟨(ref D.2.2).L⟩ : ferrymanref08_Writers) = ref D.2.2 := rfl
    have e1 := like_eq I2 (by omega) (k := k) (by omega)
    have e2 := like_eq I (by omega) (k := k) (by omega)
    have eb := Busy_eq k D.2.2 (by omega) (by omega)
    have hz := bz_len D.2.2.l D.2.2.l.length 0
    have e6 := plays_l6 (bz D.2.2.l 0 D.2.2.l.length).length k 0 (bz D.2.2.l 0 D.2.2.l.length) (by omega) (by omega) (by omega)
    rw [show ((0 : Nat) : Int) = 0 from rfl] at e6
    simp only [hi1, hi0, decide_true, and_self, if_true, Option.bind_some, bne_self_eq_false, Bool.or_self, Bool.false_eq_true, if_false, hxD, e1, e2, Bool.not_true, eb, e6]
    exact hv
theorem pure_StatusPlays (a0 : (List ferrymanlaw08_Step)) (_ : (wfSl wf_ferrymanlaw08_Step) a0) : ∃ k, ferrymanlaw08_StatusPlays k a0 = some true := by
  refine ⟨700, ?_⟩
  unfold ferrymanlaw08_StatusPlays
  rw [works_at (by omega), Option.bind_some]
  by_cases h : a0.length ≤ 120
  · have h1 : ¬ ((a0.length : Int) > 120) := by omega
    simp only [h1, decide_false, Bool.false_eq_true, if_false]
    obtain ⟨s, I, hl, e0⟩ := plays_l4 a0 h a0.length 700 0 ⟨[], 0⟩ (by omega) (by simp; omega) inv_new (by simp; omega)
    have hl' : s.l.length ≤ 120 := by simp at hl; omega
    have hn : status_New 700 = some ⟨[], 0⟩ := rfl
    have hn' : ferrymanref08_New 700 = some ⟨[]⟩ := rfl
    rw [hn, hn', Option.bind_some, Option.bind_some]
    have e0' : ferrymanlaw08_StatusPlays_l4 a0 700 0 [] [] 0 = some (.inr ((ref s).L, s.l, s.last)) := e0
    have e1 := like_eq I (by omega) (k := 700) (by omega)
    have e1' : ferrymanlaw08_like_PO_PR 700 ⟨s.l, s.last⟩ ⟨(ref s).L⟩ = some true := e1
    simp only [e0', Option.bind_some, Sum.elim_inr, e1', if_true]
  · have h1 : (decide ((a0.length : Int) > (120 : Int))) = true := by simp; omega
    rw [if_pos h1]
end Go.Proofs.YtbdelepfpnneoaaDoor
