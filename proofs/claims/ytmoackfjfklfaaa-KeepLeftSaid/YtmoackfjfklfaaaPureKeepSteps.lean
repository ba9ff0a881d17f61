/-  The plain law KeepSteps. -/
import Derived.Test.YtmoackfjfklfaaaPureKeepMore
import Derived.Test.YtmoackfjfklfaaaGt7LKeepSteps
namespace Go.Proofs.Ytmoackfjfklfaaa
open Go Go.RowKit
set_option linter.unusedVariables false
set_option linter.unusedSimpArgs false
/-- What the reference's Legal tells, in closed form: from place i on. -/
def okFrom (l : List api_Version) (i : Nat) : Bool := decide (1 ≤ (rd l (i : Int)).TS) && (decide (i = 0) || decide ((rd l (i : Int)).TS < (rd l ((i : Int) - 1)).TS))
theorem legal_l0_eq (l : List api_Version) (hl : l.length ≤ 1000000) : ∀ (j k i : Nat), i + j = l.length → j < k →
    ferrymanref11_Legal_l0 l k (i : Int) = some (if (List.range' i j).all (okFrom l) then .inr () else .inl false) := by
  intro j
  induction j with
  | zero =>
    intro k i h1 h2
    obtain ⟨k, rfl⟩ : ∃ k', k = k' + 1 := ⟨k - 1, by omega⟩
    rw [ferrymanref11_Legal_l0.eq_2]
    have : ¬ ((i : Int) < (l.length : Int)) := by omega
    simp [this]
  | succ j ih =>
    intro k i h1 h2
    obtain ⟨k, rfl⟩ : ∃ k', k = k' + 1 := ⟨k - 1, by omega⟩
    have hi1 : (i : Int) < (l.length : Int) := by omega
    have hi0 : (0 : Int) ≤ (i : Int) := by omega
    have hb := ih k (i + 1) (by omega) (by omega)
    rw [show ((i + 1 : Nat) : Int) = (i : Int) + 1 by omega] at hb
    rw [ferrymanref11_Legal_l0.eq_2, wr (x := (i : Int) + 1) (by omega) (by omega), wr (x := (i : Int) - 1) (by omega) (by omega), List.range'_succ, List.all_cons]
    simp only [hi1, hi0, decide_true, and_self, if_true, hb]
    by_cases h0 : (rd l (i : Int)).TS < 1
    · have h9 : okFrom l i = false := by simp [okFrom]; omega
      simp [h0, h9]
    · have h0' : 1 ≤ (rd l (i : Int)).TS := by omega
      by_cases h3 : (i : Int) > 0
      · have h4 : (0 : Int) ≤ (i : Int) - 1 ∧ (i : Int) - 1 < (l.length : Int) := by omega
        have h5 : ¬ i = 0 := by omega
        simp only [h0, h3, decide_true, decide_false, if_true, Bool.false_eq_true, if_false, and_self, h4, Option.bind_some]
        by_cases h6 : (rd l (i : Int)).TS < (rd l ((i : Int) - 1)).TS
        · have h7 : ¬ ((rd l (i : Int)).TS ≥ (rd l ((i : Int) - 1)).TS) := by omega
          have h9 : okFrom l i = true := by simp [okFrom, h0', h6]
          rw [h9, Bool.true_and]; simp [h7]
        · have h7 : ((rd l (i : Int)).TS ≥ (rd l ((i : Int) - 1)).TS) := by omega
          have h9 : okFrom l i = false := by simp [okFrom, h6, h5]
          rw [h9]; simp [h7]
      · have h5 : i = 0 := by omega
        have h9 : okFrom l i = true := by subst h5; unfold okFrom; rw [decide_eq_true h0']; rfl
        have h5' : ¬ 0 < i := by omega
        rw [h9, Bool.true_and]; simp [h0, h3, h5']
theorem Legal_eq0 (l : List api_Version) (k : Nat) (hl : l.length ≤ 1000000) (hk : l.length < k) : ferrymanref11_Legal k l = some ((List.range' 0 l.length).all (okFrom l)) := by
  have h := legal_l0_eq l hl l.length k 0 (by omega) hk
  rw [show ((0 : Nat) : Int) = 0 from rfl] at h
  simp only [ferrymanref11_Legal, h, Option.bind_some]
  split <;> rename_i e <;> simp [e]
theorem okFrom_cons (v : api_Version) (t : List api_Version) (i : Nat) : okFrom (v :: t) (i + 1) = (okFrom t i && (decide (0 < i) || decide ((rd t (i : Int)).TS < v.TS))) := by
  have e1 : rd (v :: t) ((i + 1 : Nat) : Int) = rd t (i : Int) := by simp [rd, show ((i : Int) + 1).toNat = i + 1 by omega]
  have e2 : rd (v :: t) (((i + 1 : Nat) : Int) - 1) = if i = 0 then v else rd t ((i : Int) - 1) := by
    rw [show (((i + 1 : Nat) : Int) - 1) = (i : Int) by omega]
    cases i with
    | zero => rfl
    | succ i => simp [rd, show ((i : Int) + 1).toNat = i + 1 by omega]
  unfold okFrom
  rw [e1, e2]
  cases i with
  | zero => simp
  | succ i => simp
theorem legal_all : ∀ l : List api_Version, (List.range' 0 l.length).all (okFrom l) = legal l := by
  intro l
  induction l with
  | nil => rfl
  | cons v t ih =>
    rw [List.length_cons, List.range'_succ, List.all_cons]
    have e0 : okFrom (v :: t) 0 = decide (1 ≤ v.TS) := by simp [okFrom, rd]
    rw [e0]
    have es : (List.range' (0 + 1) t.length).all (okFrom (v :: t)) = (List.range' 0 t.length).all (fun i => okFrom (v :: t) (i + 1)) := by
      rw [← List.map_add_range' (s := 0) (a := 1), List.all_map]
      refine congrArg _ (funext fun i => ?_)
      show okFrom (v :: t) (1 + i) = _
      rw [Nat.add_comm]
    rw [es]
    cases t with
    | nil => simp [legal]
    | cons u s =>
      rw [legal, ← ih]
      rw [List.length_cons, List.range'_succ, List.all_cons, List.all_cons]
      have e1 : okFrom (v :: u :: s) (0 + 1) = (okFrom (u :: s) 0 && decide (u.TS < v.TS)) := by rw [okFrom_cons]; simp [rd]
      have e2 : (List.range' (0 + 1) s.length).all (fun i => okFrom (v :: u :: s) (i + 1)) = (List.range' (0 + 1) s.length).all (okFrom (u :: s)) := by
        rw [Bool.eq_iff_iff, List.all_eq_true, List.all_eq_true]
        refine forall_congr' fun i => forall_congr' fun hi => ?_
        have : 0 < i := by simp at hi; omega
        rw [okFrom_cons]; simp [this]
      rw [e1, e2]
      cases decide (1 ≤ v.TS) <;> cases okFrom (u :: s) 0 <;> cases decide (u.TS < v.TS) <;> simp
theorem Legal_eq (l : List api_Version) (k : Nat) (hl : l.length ≤ 1000000) (hk : l.length < k) : ferrymanref11_Legal k l = some (legal l) := by
  rw [Legal_eq0 l k hl hk, legal_all]
/-! ### The reading backwards -/
def back : List api_Version → Int → Option Int
  | [], x => some x
  | v :: t, x => (back t x).bind fun y => if v.TS ≤ y then none else some v.TS
theorem legal_back : ∀ l : List api_Version, (back l 0).isSome = legal l ∧ ∀ y, back l 0 = some y → y = (match l with | [] => 0 | v :: _ => v.TS)
  | [] => ⟨rfl, fun y h => by cases h; rfl⟩
  | [v] => by
    simp only [back, Option.bind_some, legal]
    by_cases h : v.TS ≤ 0
    · have : ¬ (1 ≤ v.TS) := by omega
      simp [h, this]
    · have : 1 ≤ v.TS := by omega
      simp [h, this]
  | v :: u :: t => by
    obtain ⟨h1, h2⟩ := legal_back (u :: t)
    rw [back, legal]
    cases hb : back (u :: t) 0 with
    | none =>
      rw [hb] at h1
      have : legal (u :: t) = false := by rw [← h1]; rfl
      simp [this]
    | some y =>
      have hy := h2 y hb
      simp only at hy
      have hleg : legal (u :: t) = true := by rw [← h1, hb]; rfl
      have hu : 1 ≤ u.TS := by
        cases t with
        | nil => simpa [legal] using hleg
        | cons w t => simp [legal] at hleg; exact hleg.1.1
      simp only [Option.bind_some, hleg, Bool.and_true]
      subst hy
      by_cases h : v.TS ≤ u.TS
      · have : ¬ (u.TS < v.TS) := by omega
        simp [h, this]
      · have h3 : u.TS < v.TS := by omega
        have h4 : 1 ≤ v.TS := by omega
        simp [h, h3, h4]
theorem back_l0 (l : List api_Version) (hl : l.length ≤ 1000000) (kk : Nat) : ∀ (i k : Nat) (x : Int), i ≤ l.length → i < k →
    slices_Backward_api_Version_api_Version_1_l0 l (keep_Legal_b0 kk) k ((i : Int) - 1) (.inl x) = some (match back (l.take i) x with | some y => .inr (.inl y) | none => .inl (.inr ())) := by
  intro i
  induction i with
  | zero =>
    intro k x _ h
    obtain ⟨k, rfl⟩ : ∃ k', k = k' + 1 := ⟨k - 1, by omega⟩
    rw [slices_Backward_api_Version_api_Version_1_l0.eq_2]
    simp [back]
  | succ i ih =>
    intro k x h1 h2
    obtain ⟨k, rfl⟩ : ∃ k', k = k' + 1 := ⟨k - 1, by omega⟩
    have hi : i < l.length := by omega
    have hi1 : (i : Int) < (l.length : Int) := by omega
    have hi0 : (0 : Int) ≤ (i : Int) := by omega
    rw [slices_Backward_api_Version_api_Version_1_l0.eq_2, show ((i + 1 : Nat) : Int) - 1 = (i : Int) by omega, wr (x := (i : Int) - 1) (by omega) (by omega)]
    have hge : (i : Int) ≥ 0 := hi0
    simp only [hge, hi0, hi1, decide_true, and_self, if_true, toL, Option.bind_some, keep_Legal_b0, rdN hi]
    have hb : ∀ (t : List api_Version) (v : api_Version) (x : Int), back (t ++ [v]) x = if v.TS ≤ x then none else back t v.TS := by
      intro t
      induction t with
      | nil => intro v x; simp only [List.nil_append, back, Option.bind_some]
      | cons u t ih => intro v x; rw [List.cons_append, back, ih]; split <;> rfl
    rw [List.take_succ_eq_append_getElem hi, hb]
    by_cases h : l[i].TS ≤ x
    · simp [h, isNorm]
    · have := ih k l[i].TS (by omega) (by omega)
      simp only [h, decide_false, Bool.false_eq_true, if_false, Option.bind_some, isNorm, Bool.not_true, this]
theorem keepLegal_eq (l : List api_Version) (k : Nat) (hl : l.length ≤ 1000000) (hk : l.length < k) : keep_Legal k l = some (legal l) := by
  have h := back_l0 l hl k l.length k 0 (Nat.le_refl _) hk
  rw [List.take_length] at h
  simp only [keep_Legal, slices_Backward_api_Version_api_Version, Option.bind_some, slices_Backward_api_Version_api_Version_1]
  rw [wr (by omega) (by omega), h]
  have hb := (legal_back l).1
  cases e : back l 0 with
  | none => rw [e] at hb; simp [← hb]
  | some y => rw [e] at hb; simp [← hb]
/-! ### Same -/
theorem same_l0 (a b : List api_Version) (hl : a.length ≤ 1000000) (h : a = b) : ∀ (j k i : Nat), i + j = a.length → j < k → ferrymanref11_Same_l0 a b k (i : Int) = some (.inr ()) := by
  subst h
  intro j
  induction j with
  | zero =>
    intro k i h1 h2
    obtain ⟨k, rfl⟩ : ∃ k', k = k' + 1 := ⟨k - 1, by omega⟩
    rw [ferrymanref11_Same_l0.eq_2]
    have : ¬ ((i : Int) < (a.length : Int)) := by omega
    simp [this]
  | succ j ih =>
    intro k i h1 h2
    obtain ⟨k, rfl⟩ : ∃ k', k = k' + 1 := ⟨k - 1, by omega⟩
    have hi1 : (i : Int) < (a.length : Int) := by omega
    have hi0 : (0 : Int) ≤ (i : Int) := by omega
    have hb := ih k (i + 1) (by omega) (by omega)
    rw [show ((i + 1 : Nat) : Int) = (i : Int) + 1 by omega] at hb
    rw [ferrymanref11_Same_l0.eq_2, wr (x := (i : Int) + 1) (by omega) (by omega)]
    simp [hi1, hi0, hb]
theorem Same_refl (a : List api_Version) (k : Nat) (hl : a.length ≤ 1000000) (hk : a.length < k) : ferrymanref11_Same k a a = some true := by
  have h := same_l0 a a hl rfl a.length k 0 (by omega) hk
  rw [show ((0 : Nat) : Int) = 0 from rfl] at h
  simp [ferrymanref11_Same, h]
theorem kept_kept : ∀ (l : List api_Version) (f n : Int), f ≤ n → kept (kept l f) n = kept l n
  | [], _, _, _ => rfl
  | v :: t, f, n, h => by
    have ih := kept_kept t f n h
    simp only [kept]
    by_cases h1 : v.TS ≤ f
    · have h2 : v.TS ≤ n := by omega
      cases ht : v.Tomb <;> simp [h1, h2, ht, kept]
    · simp [h1, kept, ih]
theorem legal_kept : ∀ (l : List api_Version) (f : Int), legal l = true → legal (kept l f) = true
  | [], _, _ => rfl
  | [v], f, h => by
    simp only [kept]
    by_cases h1 : v.TS ≤ f
    · cases ht : v.Tomb <;> simp [h1, legal]; simpa [legal] using h
    · simp [h1]; exact h
  | v :: u :: t, f, h => by
    have h' : (1 ≤ v.TS ∧ u.TS < v.TS) ∧ legal (u :: t) = true := by simpa [legal] using h
    have ih := legal_kept (u :: t) f h'.2
    rw [kept]
    by_cases h1 : v.TS ≤ f
    · cases ht : v.Tomb <;> simp [h1, legal]; exact h'.1.1
    · simp only [h1, if_false]
      simp only [kept] at ih ⊢
      by_cases h2 : u.TS ≤ f
      · cases ht : u.Tomb <;> simp [h2, ht, legal] at ih ⊢ <;> first | exact h'.1.1 | exact ⟨h'.1, ih⟩ | exact ⟨⟨h'.1.1, h'.1.2⟩, ih⟩
      · simp only [h2, if_false] at ih ⊢
        simp [legal, h'.1.1, h'.1.2, ih]
theorem pure_KeepSteps (a0 : (List api_Version)) (a1 : Int) (a2 : Int) (_ : (wfSl wf_api_Version) a0) (_ : (wfInt .i64) a1) (_ : (wfInt .i64) a2) : ∃ k, ferrymanlaw11_KeepSteps k a0 a1 a2 = some true := by
  refine ⟨2000, ?_⟩
  unfold ferrymanlaw11_KeepSteps
  rw [awake_eq 2000 (by omega)]
  by_cases h1 : (a0.length : Int) > 300
  · simp [h1]
  by_cases h2 : a2 < a1
  · simp [h2]
  have hl : a0.length ≤ 300 := by omega
  have hkl : ∀ n, (kept a0 n).length ≤ 300 := fun n => by rw [kept_take, List.length_take]; omega
  rw [Legal_eq a0 2000 (by omega) (by omega), Kept_eq a0 a1 2000 (by omega) (by omega), Kept_eq a0 a2 2000 (by omega) (by omega)]
  cases hlg : legal a0
  · simp [h1, h2]
  have hk := hkl a1
  simp only [h1, h2, decide_false, Bool.false_eq_true, Bool.or_self, if_false, Option.bind_some, Bool.not_true]
  rw [keepLegal_eq (kept a0 a1) 2000 (by omega) (by omega), Legal_eq (kept a0 a1) 2000 (by omega) (by omega), legal_kept a0 a1 hlg,
    Kept_eq (kept a0 a1) a2 2000 (by omega) (by omega), Kept_eq (kept a0 a1) a1 2000 (by omega) (by omega), kept_kept a0 a1 a2 (by omega), kept_kept a0 a1 a1 (by omega)]
  have hk2 := hkl a2
  simp only [Option.bind_some, if_true]
  rw [Same_refl (kept a0 a2) 2000 (by omega) (by omega), Same_refl (kept a0 a1) 2000 (by omega) (by omega)]
  rfl
end Go.Proofs.Ytmoackfjfklfaaa
