/-  The plain law KeepTells. -/
import Derived.Test.YtmoackfjfklfaaaOpnt9
import Derived.Test.YtmoackfjfklfaaaGt9LKeepTells
namespace Go.Proofs.Ytmoackfjfklfaaa
open Go Go.RowKit
set_option linter.unusedVariables false
set_option linter.unusedSimpArgs false

theorem wr {x : Int} (h : -9223372036854775808 ≤ x) (h' : x ≤ 9223372036854775807) : IntKind.i64.wrap x = x := by
  simp [IntKind.wrap, IntKind.bits, IntKind.signed]
  omega
theorem rdN {α : Type} [Inhabited α] {l : List α} {i : Nat} (h : i < l.length) : rd l (i : Int) = l[i] := by
  simp [rd, List.getD_eq_getElem?_getD, List.getElem?_eq_getElem h]

abbrev Ver := api_Version
def dflt : Ver := ⟨0, 0, false, []⟩
def seen : List Ver → Int → Ver × Bool
  | [], _ => (dflt, false)
  | v :: t, n => if v.TS ≤ n then (if v.Tomb then (dflt, false) else (v, true)) else seen t n
def kept : List Ver → Int → List Ver
  | [], _ => []
  | v :: t, n => if v.TS ≤ n then (if v.Tomb then [] else [v]) else v :: kept t n
def kpos : List Ver → Int → Nat
  | [], _ => 0
  | v :: t, n => if v.TS ≤ n then (if v.Tomb then 0 else 1) else kpos t n + 1
theorem kept_take : ∀ (l : List Ver) (n : Int), kept l n = l.take (kpos l n)
  | [], _ => rfl
  | v :: t, n => by
    simp only [kept, kpos]
    split
    · split <;> rfl
    · rw [List.take_succ_cons, kept_take t n]
theorem kpos_le : ∀ (l : List Ver) (n : Int), kpos l n ≤ l.length
  | [], _ => Nat.le_refl _
  | v :: t, n => by
    have := kpos_le t n
    simp only [kpos, List.length_cons]
    split
    · split <;> omega
    · omega

def resSeen : List Ver → Int → ((Unit ⊕ (Int × Int × Bool × Str)) ⊕ (Unit ⊕ (Int × Int × Bool × Str)))
  | [], _ => .inr (.inl ())
  | v :: t, n => if v.TS ≤ n then (if v.Tomb then .inl (.inl ()) else .inl (.inr (v.Writer, v.TS, v.Tomb, v.Value))) else resSeen t n
theorem seen_l0 (l : List Ver) (n : Int) (kk : Nat) (hl : l.length ≤ 1000000) : ∀ (j k i : Nat), i + j = l.length → j < k →
    keep_till_1_l0 l n (keep_Seen_b0 l kk) k (i : Int) (.inl ()) = some (resSeen (l.drop i) n) := by
  intro j
  induction j with
  | zero =>
    intro k i h1 h2
    obtain ⟨k, rfl⟩ : ∃ k', k = k' + 1 := ⟨k - 1, by omega⟩
    rw [keep_till_1_l0.eq_2, List.drop_of_length_le (by omega)]
    have : ¬ ((i : Int) < (l.length : Int)) := by omega
    simp [this, resSeen]
  | succ j ih =>
    intro k i h1 h2
    obtain ⟨k, rfl⟩ : ∃ k', k = k' + 1 := ⟨k - 1, by omega⟩
    have hi : i < l.length := by omega
    have hi1 : (i : Int) < (l.length : Int) := by omega
    have hi0 : (0 : Int) ≤ (i : Int) := by omega
    rw [keep_till_1_l0.eq_2, List.drop_eq_getElem_cons hi, resSeen, wr (by omega) (by omega)]
    have ih' := ih k (i + 1) (by omega) (by omega)
    rw [show ((i + 1 : Nat) : Int) = (i : Int) + 1 by omega] at ih'
    simp only [hi1, hi0, decide_true, and_self, if_true, toL, Option.bind_some, keep_Seen_b0, rdN hi]
    by_cases hn : l[i].TS ≤ n
    · cases ht : l[i].Tomb <;> simp [hn, ht, isNorm]
    · simp [hn, isNorm, ih']
theorem Seen_eq (l : List Ver) (n : Int) (k : Nat) (hl : l.length ≤ 1000000) (hk : l.length < k) : keep_Seen k l n = some (seen l n) := by
  have h := seen_l0 l n k hl l.length k 0 (by omega) hk
  simp only [keep_Seen, keep_till, Option.bind_some, keep_till_1]
  rw [show ((0 : Nat) : Int) = 0 from rfl] at h
  rw [h]
  simp only [Option.bind_some, List.drop_zero]
  have key : ∀ l : List Ver, (Sum.elim (fun r' => some r') (fun x79 => some x79) (resSeen l n)).bind (fun o168o => Sum.elim (fun _ => some ((⟨(0 : Int), (0 : Int), false, ([] : Str)⟩ : api_Version), false)) (fun ⟨x164, x165, x166, x167⟩ => some ((⟨x164, x165, x166, x167⟩ : api_Version), true)) o168o) = some (seen l n) := by
    intro l
    induction l with
    | nil => rfl
    | cons v t ih =>
      simp only [resSeen, seen]
      split
      · split <;> rfl
      · exact ih
  exact key l

def resKept : List Ver → Int → Int → ((Int ⊕ Unit) ⊕ (Int ⊕ Unit))
  | [], _, z => .inr (.inl z)
  | v :: t, n, z => if v.TS ≤ n then .inl (.inl (z - (t.length + 1) + (if v.Tomb then 0 else 1))) else resKept t n z
theorem kept_l0 (l : List Ver) (n : Int) (kk : Nat) (hl : l.length ≤ 1000000) : ∀ (j k i : Nat), i + j = l.length → j < k →
    keep_till_1_l0 l n (keep_Kept_b0 l kk) k (i : Int) (.inl (l.length : Int)) = some (resKept (l.drop i) n l.length) := by
  intro j
  induction j with
  | zero =>
    intro k i h1 h2
    obtain ⟨k, rfl⟩ : ∃ k', k = k' + 1 := ⟨k - 1, by omega⟩
    rw [keep_till_1_l0.eq_2, List.drop_of_length_le (by omega)]
    have : ¬ ((i : Int) < (l.length : Int)) := by omega
    simp [this, resKept]
  | succ j ih =>
    intro k i h1 h2
    obtain ⟨k, rfl⟩ : ∃ k', k = k' + 1 := ⟨k - 1, by omega⟩
    have hi : i < l.length := by omega
    have hi1 : (i : Int) < (l.length : Int) := by omega
    have hi0 : (0 : Int) ≤ (i : Int) := by omega
    have hlen : ((l.drop (i + 1)).length : Int) = l.length - i - 1 := by rw [List.length_drop]; omega
    rw [keep_till_1_l0.eq_2, List.drop_eq_getElem_cons hi, resKept, wr (by omega) (by omega)]
    have ih' := ih k (i + 1) (by omega) (by omega)
    rw [show ((i + 1 : Nat) : Int) = (i : Int) + 1 by omega] at ih'
    simp only [hi1, hi0, decide_true, and_self, if_true, toL, Option.bind_some, keep_Kept_b0, rdN hi, hlen]
    by_cases hn : l[i].TS ≤ n
    · have hw := wr (x := (i : Int) + 1) (by omega) (by omega)
      cases ht : l[i].Tomb <;> simp [hn, ht, isNorm, hw] <;> omega
    · simp [hn, isNorm, ih']
theorem Kept_eq (l : List Ver) (n : Int) (k : Nat) (hl : l.length ≤ 1000000) (hk : l.length < k) : keep_Kept k l n = some (kept l n) := by
  have h := kept_l0 l n k hl l.length k 0 (by omega) hk
  simp only [keep_Kept, keep_till, Option.bind_some, keep_till_1]
  rw [show ((0 : Nat) : Int) = 0 from rfl] at h
  rw [h]
  simp only [Option.bind_some, List.drop_zero]
  have key : ∀ t : List Ver, ∃ x, resKept t n l.length = x ∧ Sum.elim (fun r' => some r') (fun x79 => some x79) x = some (Sum.inl ((l.length : Int) - t.length + kpos t n) : Int ⊕ Unit) := by
    intro t
    induction t with
    | nil => exact ⟨_, rfl, by simp [resKept, kpos]⟩
    | cons v t ih =>
      refine ⟨_, rfl, ?_⟩
      simp only [resKept, kpos]
      split
      · cases v.Tomb <;> simp <;> omega
      · obtain ⟨_, rfl, e⟩ := ih
        rw [e]; simp; omega
  obtain ⟨_, rfl, e⟩ := key l
  rw [e]
  have hp := kpos_le l n
  have e2 : (l.length : Int) - l.length + kpos l n = kpos l n := by omega
  simp only [Option.bind_some, Sum.elim_inl, e2]
  rw [if_pos ⟨by omega, by omega, by omega⟩]
  simp only [slices_Clone_api_Version_api_Version, Int.toNat_natCast, List.nil_append, List.length_nil, Nat.zero_add]
  rw [if_pos (by rw [List.length_take]; omega), kept_take]
  rfl
def clash (l : List Ver) (n : Int) : Bool := match l with
  | [] => false
  | v :: _ => decide (v.TS > n)
theorem Clash_eq (l : List Ver) (n : Int) (k : Nat) : keep_Clash k l n = some (clash l n) := by
  cases l with
  | nil => rfl
  | cons v t =>
    have h : (((v :: t : List Ver).length : Int) > 0) := by simp
    have h2 : (0 : Int) < ((v :: t : List Ver).length : Int) := h
    simp only [keep_Clash, h, h2, decide_true, if_true, Int.le_refl, and_self, Option.bind_some, clash]
    rfl
theorem awake_eq (k : Nat) (hk : 50 ≤ k) : ferrymanlaw11_awake k = some true :=
  OLe.up (f := fun k => ferrymanlaw11_awake k) (fun k => ferrymanlaw11_awake.mono) hk true (by decide +kernel)
/-- Whether a list may be is told, one way or the other. -/
def legal : List Ver → Bool
  | [] => true
  | [v] => decide (1 ≤ v.TS)
  | v :: u :: t => decide (1 ≤ v.TS) && decide (u.TS < v.TS) && legal (u :: t)
theorem seen_kept : ∀ (l : List Ver) (f s : Int), f ≤ s → seen (kept l f) s = seen l s
  | [], _, _, _ => rfl
  | v :: t, f, s, h => by
    have ih := seen_kept t f s h
    simp only [kept]
    by_cases h1 : v.TS ≤ f
    · have h2 : v.TS ≤ s := by omega
      cases ht : v.Tomb <;> simp [h1, h2, ht, seen]
    · simp [h1, seen, ih]
theorem clash_kept : ∀ (l : List Ver) (f s : Int), f ≤ s → clash (kept l f) s = clash l s
  | [], _, _, _ => rfl
  | v :: t, f, s, h => by
    simp only [kept]
    by_cases h1 : v.TS ≤ f
    · have h2 : ¬ (v.TS > s) := by omega
      cases ht : v.Tomb <;> simp [h1, ht, clash] <;> omega
    · simp [h1, clash]

/-- What the reference's Legal tells, in closed form: from place i on. -/
def okFrom (l : List api_Version) (i : Nat) : Bool := decide (1 ≤ (rd l (i : Int)).TS) && (decide (i = 0) || decide ((rd l (i : Int)).TS < (rd l ((i : Int) - 1)).TS))
theorem legal_l0_eq (l : List api_Version) (hl : l.length ≤ 1000000) : ∀ (j k i : Nat), i + j = l.length → j < k →
    ferrymanref11_Legal_l0 l k (i : Int) = some (if (List.range' i j).all (okFrom l) then .inr () else .inl false) := by
  intro j
  induction j with
  | zero =>
    intro k i h1 h2
    obtain ⟨k, rfl⟩ : ∃ k', k = k' + 1 := ⟨k - 1, by omega⟩
    rw [ferrymanref11_Legal_l0.eq_2]
    have : ¬ ((i : Int) < (l.length : Int)) := by omega
    simp [this]
  | succ j ih =>
    intro k i h1 h2
    obtain ⟨k, rfl⟩ : ∃ k', k = k' + 1 := ⟨k - 1, by omega⟩
    have hi1 : (i : Int) < (l.length : Int) := by omega
    have hi0 : (0 : Int) ≤ (i : Int) := by omega
    have hb := ih k (i + 1) (by omega) (by omega)
    rw [show ((i + 1 : Nat) : Int) = (i : Int) + 1 by omega] at hb
    rw [ferrymanref11_Legal_l0.eq_2, wr (x := (i : Int) + 1) (by omega) (by omega), wr (x := (i : Int) - 1) (by omega) (by omega), List.range'_succ, List.all_cons]
    simp only [hi1, hi0, decide_true, and_self, if_true, hb]
    by_cases h0 : (rd l (i : Int)).TS < 1
    · have h9 : okFrom l i = false := by simp [okFrom]; omega
      simp [h0, h9]
    · have h0' : 1 ≤ (rd l (i : Int)).TS := by omega
      by_cases h3 : (i : Int) > 0
      · have h4 : (0 : Int) ≤ (i : Int) - 1 ∧ (i : Int) - 1 < (l.length : Int) := by omega
        have h5 : ¬ i = 0 := by omega
        simp only [h0, h3, decide_true, decide_false, if_true, Bool.false_eq_true, if_false, and_self, h4, Option.bind_some]
        by_cases h6 : (rd l (i : Int)).TS < (rd l ((i : Int) - 1)).TS
        · have h7 : ¬ ((rd l (i : Int)).TS ≥ (rd l ((i : Int) - 1)).TS) := by omega
          have h9 : okFrom l i = true := by simp [okFrom, h0', h6]
          rw [h9, Bool.true_and]; simp [h7]
        · have h7 : ((rd l (i : Int)).TS ≥ (rd l ((i : Int) - 1)).TS) := by omega
          have h9 : okFrom l i = false := by simp [okFrom, h6, h5]
          rw [h9]; simp [h7]
      · have h5 : i = 0 := by omega
        have h9 : okFrom l i = true := by subst h5; unfold okFrom; rw [decide_eq_true h0']; rfl
        have h5' : ¬ 0 < i := by omega
        rw [h9, Bool.true_and]; simp [h0, h3, h5']
theorem Legal_eq0 (l : List api_Version) (k : Nat) (hl : l.length ≤ 1000000) (hk : l.length < k) : ferrymanref11_Legal k l = some ((List.range' 0 l.length).all (okFrom l)) := by
  have h := legal_l0_eq l hl l.length k 0 (by omega) hk
  rw [show ((0 : Nat) : Int) = 0 from rfl] at h
  simp only [ferrymanref11_Legal, h, Option.bind_some]
  split <;> rename_i e <;> simp [e]
theorem okFrom_cons (v : api_Version) (t : List api_Version) (i : Nat) : okFrom (v :: t) (i + 1) = (okFrom t i && (decide (0 < i) || decide ((rd t (i : Int)).TS < v.TS))) := by
  have e1 : rd (v :: t) ((i + 1 : Nat) : Int) = rd t (i : Int) := by simp [rd, show ((i : Int) + 1).toNat = i + 1 by omega]
  have e2 : rd (v :: t) (((i + 1 : Nat) : Int) - 1) = if i = 0 then v else rd t ((i : Int) - 1) := by
    rw [show (((i + 1 : Nat) : Int) - 1) = (i : Int) by omega]
    cases i with
    | zero => rfl
    | succ i => simp [rd, show ((i : Int) + 1).toNat = i + 1 by omega]
  unfold okFrom
  rw [e1, e2]
  cases i with
  | zero => simp
  | succ i => simp
theorem legal_all : ∀ l : List api_Version, (List.range' 0 l.length).all (okFrom l) = legal l := by
  intro l
  induction l with
  | nil => rfl
  | cons v t ih =>
    rw [List.length_cons, List.range'_succ, List.all_cons]
    have e0 : okFrom (v :: t) 0 = decide (1 ≤ v.TS) := by simp [okFrom, rd]
    rw [e0]
    have es : (List.range' (0 + 1) t.length).all (okFrom (v :: t)) = (List.range' 0 t.length).all (fun i => okFrom (v :: t) (i + 1)) := by
      rw [← List.map_add_range' (s := 0) (a := 1), List.all_map]
      refine congrArg _ (funext fun i => ?_)
      show okFrom (v :: t) (1 + i) = _
      rw [Nat.add_comm]
    rw [es]
    cases t with
    | nil => simp [legal]
    | cons u s =>
      rw [legal, ← ih]
      rw [List.length_cons, List.range'_succ, List.all_cons, List.all_cons]
      have e1 : okFrom (v :: u :: s) (0 + 1) = (okFrom (u :: s) 0 && decide (u.TS < v.TS)) := by rw [okFrom_cons]; simp [rd]
      have e2 : (List.range' (0 + 1) s.length).all (fun i => okFrom (v :: u :: s) (i + 1)) = (List.range' (0 + 1) s.length).all (okFrom (u :: s)) := by
        rw [Bool.eq_iff_iff, List.all_eq_true, List.all_eq_true]
        refine forall_congr' fun i => forall_congr' fun hi => ?_
        have : 0 < i := by simp at hi; omega
        rw [okFrom_cons]; simp [this]
      rw [e1, e2]
      cases decide (1 ≤ v.TS) <;> cases okFrom (u :: s) 0 <;> cases decide (u.TS < v.TS) <;> simp
theorem Legal_eq (l : List api_Version) (k : Nat) (hl : l.length ≤ 1000000) (hk : l.length < k) : ferrymanref11_Legal k l = some (legal l) := by
  rw [Legal_eq0 l k hl hk, legal_all]
/-! ### The reading backwards -/
def back : List api_Version → Int → Option Int
  | [], x => some x
  | v :: t, x => (back t x).bind fun y => if v.TS ≤ y then none else some v.TS
theorem legal_back : ∀ l : List api_Version, (back l 0).isSome = legal l ∧ ∀ y, back l 0 = some y → y = (match l with | [] => 0 | v :: _ => v.TS)
  | [] => ⟨rfl, fun y h => by cases h; rfl⟩
  | [v] => by
    simp only [back, Option.bind_some, legal]
    by_cases h : v.TS ≤ 0
    · have : ¬ (1 ≤ v.TS) := by omega
      simp [h, this]
    · have : 1 ≤ v.TS := by omega
      simp [h, this]
  | v :: u :: t => by
    obtain ⟨h1, h2⟩ := legal_back (u :: t)
    rw [back, legal]
    cases hb : back (u :: t) 0 with
    | none =>
      rw [hb] at h1
      have : legal (u :: t) = false := by rw [← h1]; rfl
      simp [this]
    | some y =>
      have hy := h2 y hb
      simp only at hy
      have hleg : legal (u :: t) = true := by rw [← h1, hb]; rfl
      have hu : 1 ≤ u.TS := by
        cases t with
        | nil => simpa [legal] using hleg
        | cons w t => simp [legal] at hleg; exact hleg.1.1
      simp only [Option.bind_some, hleg, Bool.and_true]
      subst hy
      by_cases h : v.TS ≤ u.TS
      · have : ¬ (u.TS < v.TS) := by omega
        simp [h, this]
      · have h3 : u.TS < v.TS := by omega
        have h4 : 1 ≤ v.TS := by omega
        simp [h, h3, h4]
theorem back_l0 (l : List api_Version) (hl : l.length ≤ 1000000) (kk : Nat) : ∀ (i k : Nat) (x : Int), i ≤ l.length → i < k →
    slices_Backward_api_Version_api_Version_1_l0 l (keep_Legal_b0 kk) k ((i : Int) - 1) (.inl x) = some (match back (l.take i) x with | some y => .inr (.inl y) | none => .inl (.inr ())) := by
  intro i
  induction i with
  | zero =>
    intro k x _ h
    obtain ⟨k, rfl⟩ : ∃ k', k = k' + 1 := ⟨k - 1, by omega⟩
    rw [slices_Backward_api_Version_api_Version_1_l0.eq_2]
    simp [back]
  | succ i ih =>
    intro k x h1 h2
    obtain ⟨k, rfl⟩ : ∃ k', k = k' + 1 := ⟨k - 1, by omega⟩
    have hi : i < l.length := by omega
    have hi1 : (i : Int) < (l.length : Int) := by omega
    have hi0 : (0 : Int) ≤ (i : Int) := by omega
    rw [slices_Backward_api_Version_api_Version_1_l0.eq_2, show ((i + 1 : Nat) : Int) - 1 = (i : Int) by omega, wr (x := (i : Int) - 1) (by omega) (by omega)]
    have hge : (i : Int) ≥ 0 := hi0
    simp only [hge, hi0, hi1, decide_true, and_self, if_true, toL, Option.bind_some, keep_Legal_b0, rdN hi]
    have hb : ∀ (t : List api_Version) (v : api_Version) (x : Int), back (t ++ [v]) x = if v.TS ≤ x then none else back t v.TS := by
      intro t
      induction t with
      | nil => intro v x; simp only [List.nil_append, back, Option.bind_some]
      | cons u t ih => intro v x; rw [List.cons_append, back, ih]; split <;> rfl
    rw [List.take_succ_eq_append_getElem hi, hb]
    by_cases h : l[i].TS ≤ x
    · simp [h, isNorm]
    · have := ih k l[i].TS (by omega) (by omega)
      simp only [h, decide_false, Bool.false_eq_true, if_false, Option.bind_some, isNorm, Bool.not_true, this]
theorem keepLegal_eq (l : List api_Version) (k : Nat) (hl : l.length ≤ 1000000) (hk : l.length < k) : keep_Legal k l = some (legal l) := by
  have h := back_l0 l hl k l.length k 0 (Nat.le_refl _) hk
  rw [List.take_length] at h
  simp only [keep_Legal, slices_Backward_api_Version_api_Version, Option.bind_some, slices_Backward_api_Version_api_Version_1]
  rw [wr (by omega) (by omega), h]
  have hb := (legal_back l).1
  cases e : back l 0 with
  | none => rw [e] at hb; simp [← hb]
  | some y => rw [e] at hb; simp [← hb]
/-! ### Same -/
theorem same_l0 (a b : List api_Version) (hl : a.length ≤ 1000000) (h : a = b) : ∀ (j k i : Nat), i + j = a.length → j < k → ferrymanref11_Same_l0 a b k (i : Int) = some (.inr ()) := by
  subst h
  intro j
  induction j with
  | zero =>
    intro k i h1 h2
    obtain ⟨k, rfl⟩ : ∃ k', k = k' + 1 := ⟨k - 1, by omega⟩
    rw [ferrymanref11_Same_l0.eq_2]
    have : ¬ ((i : Int) < (a.length : Int)) := by omega
    simp [this]
  | succ j ih =>
    intro k i h1 h2
    obtain ⟨k, rfl⟩ : ∃ k', k = k' + 1 := ⟨k - 1, by omega⟩
    have hi1 : (i : Int) < (a.length : Int) := by omega
    have hi0 : (0 : Int) ≤ (i : Int) := by omega
    have hb := ih k (i + 1) (by omega) (by omega)
    rw [show ((i + 1 : Nat) : Int) = (i : Int) + 1 by omega] at hb
    rw [ferrymanref11_Same_l0.eq_2, wr (x := (i : Int) + 1) (by omega) (by omega)]
    simp [hi1, hi0, hb]
theorem Same_refl (a : List api_Version) (k : Nat) (hl : a.length ≤ 1000000) (hk : a.length < k) : ferrymanref11_Same k a a = some true := by
  have h := same_l0 a a hl rfl a.length k 0 (by omega) hk
  rw [show ((0 : Nat) : Int) = 0 from rfl] at h
  simp [ferrymanref11_Same, h]

/-! ### The document's functions -/
def upN : List Ver → Int → Nat
  | [], _ => 0
  | v :: t, n => if v.TS ≤ n then 0 else upN t n + 1
theorem upN_le : ∀ (l : List Ver) (n : Int), upN l n ≤ l.length
  | [], _ => Nat.le_refl _
  | v :: t, n => by have := upN_le t n; simp only [upN, List.length_cons]; split <;> omega
theorem upto_l0 (l : List Ver) (n : Int) (hl : l.length ≤ 1000000) : ∀ (j k i : Nat), i + j = l.length → j < k → ∃ r, ferrymanref11_upto_l0 l n k (i : Int) = some r ∧ Sum.elim (fun r' => some r') (fun _ => some (l.length : Int)) r = some ((i + upN (l.drop i) n : Nat) : Int) := by
  intro j
  induction j with
  | zero =>
    intro k i h1 h2
    obtain ⟨k, rfl⟩ : ∃ k', k = k' + 1 := ⟨k - 1, by omega⟩
    rw [ferrymanref11_upto_l0.eq_2, List.drop_of_length_le (by omega)]
    have : ¬ ((i : Int) < (l.length : Int)) := by omega
    refine ⟨.inr (), by simp only [this, decide_false, Bool.false_eq_true, if_false], ?_⟩
    simp only [Sum.elim_inr, upN, Option.some.injEq]; omega
  | succ j ih =>
    intro k i h1 h2
    obtain ⟨k, rfl⟩ : ∃ k', k = k' + 1 := ⟨k - 1, by omega⟩
    have hi : i < l.length := by omega
    have hi1 : (i : Int) < (l.length : Int) := by omega
    have hi0 : (0 : Int) ≤ (i : Int) := by omega
    obtain ⟨r, hr, he⟩ := ih k (i + 1) (by omega) (by omega)
    rw [show ((i + 1 : Nat) : Int) = (i : Int) + 1 by omega] at hr
    rw [ferrymanref11_upto_l0.eq_2, List.drop_eq_getElem_cons hi, wr (x := (i : Int) + 1) (by omega) (by omega)]
    simp only [hi1, hi0, decide_true, and_self, if_true, rdN hi]
    by_cases hn : l[i].TS ≤ n
    · exact ⟨.inl (i : Int), by simp only [hn, decide_true, if_true], by simp [upN, hn]⟩
    · refine ⟨r, by simp only [hn, decide_false, Bool.false_eq_true, if_false, hr], ?_⟩
      rw [he]; simp only [upN, hn, if_false, Option.some.injEq]; omega
theorem upto_def (l : List Ver) (n : Int) (k : Nat) (hl : l.length ≤ 1000000) (hk : l.length < k) : ferrymanref11_upto k l n = some ((upN l n : Nat) : Int) := by
  obtain ⟨r, hr, he⟩ := upto_l0 l n hl l.length k 0 (by omega) hk
  rw [show ((0 : Nat) : Int) = 0 from rfl] at hr
  simp only [ferrymanref11_upto, hr, Option.bind_some]
  rw [he]; simp
theorem seen_up : ∀ (l : List Ver) (n : Int), seen l n = if h : upN l n < l.length then (if (l[upN l n]).Tomb then (dflt, false) else (l[upN l n], true)) else (dflt, false)
  | [], _ => by simp [seen, upN]
  | v :: t, n => by
    have ih := seen_up t n
    simp only [seen, upN]
    by_cases hn : v.TS ≤ n
    · simp [hn]
    · simp only [hn, if_false, ih, List.length_cons, Nat.add_lt_add_iff_right, List.getElem_cons_succ]
theorem refSeen_def (l : List Ver) (n : Int) (k : Nat) (hl : l.length ≤ 1000000) (hk : l.length < k) : ferrymanref11_Seen k l n = some (seen l n) := by
  have hu := upN_le l n
  simp only [ferrymanref11_Seen, upto_def l n k hl hk, Option.bind_some]
  rw [seen_up]
  by_cases h : upN l n < l.length
  · have h1 : (((upN l n : Nat) : Int) == (l.length : Int)) = false := by simp; omega
    have h2 : 0 ≤ ((upN l n : Nat) : Int) ∧ ((upN l n : Nat) : Int) < (l.length : Int) := by omega
    simp only [h1, Bool.false_eq_true, if_false, h2, and_self, if_true, Option.bind_some, rdN h, h, dite_true]
    cases (l[upN l n]).Tomb <;> rfl
  · have h1 : (((upN l n : Nat) : Int) == (l.length : Int)) = true := by simp; omega
    simp only [h1, if_true, Option.bind_some, h, dite_false]; rfl
theorem kept_up : ∀ (l : List Ver) (n : Int), kept l n = l.take (upN l n) ++ (if h : upN l n < l.length then (if (l[upN l n]).Tomb then [] else [l[upN l n]]) else [])
  | [], _ => by simp [kept, upN]
  | v :: t, n => by
    have ih := kept_up t n
    simp only [kept, upN]
    by_cases hn : v.TS ≤ n
    · simp [hn]
    · simp only [hn, if_false, List.take_succ_cons, List.cons_append, List.length_cons, Nat.add_lt_add_iff_right, List.getElem_cons_succ]
      rw [← ih]
theorem refKept_l0 (l : List Ver) (u : Nat) (hl : l.length ≤ 1000000) : ∀ (j k i : Nat), i + j = l.length → j < k → i ≤ u → ferrymanref11_Kept_l0 l (u : Int) k (l.take i) (i : Int) = some (l.take u ++ (if h : u < l.length then (if (l[u]).Tomb then [] else [l[u]]) else [])) := by
  intro j
  induction j with
  | zero =>
    intro k i h1 h2 h3
    obtain ⟨k, rfl⟩ : ∃ k', k = k' + 1 := ⟨k - 1, by omega⟩
    have : ¬ ((i : Int) < (l.length : Int)) := by omega
    rw [ferrymanref11_Kept_l0.eq_2]
    simp only [this, decide_false, Bool.false_and, Bool.false_eq_true, if_false]
    rw [dif_neg (by omega), List.append_nil, List.take_of_length_le (by omega), List.take_of_length_le (by omega)]
  | succ j ih =>
    intro k i h1 h2 h3
    obtain ⟨k, rfl⟩ : ∃ k', k = k' + 1 := ⟨k - 1, by omega⟩
    have hi : i < l.length := by omega
    have hi1 : (i : Int) < (l.length : Int) := by omega
    have hi0 : (0 : Int) ≤ (i : Int) := by omega
    have hiu : (i : Int) ≤ (u : Int) := by omega
    have hlen : (l.take i).length + ([l[i]] : List Ver).length ≤ 3518437208883 := by rw [List.length_take]; simp; omega
    have e1 : l.take i ++ [l[i]] = l.take (i + 1) := by rw [List.take_succ_eq_append_getElem hi]
    rw [ferrymanref11_Kept_l0.eq_2, wr (x := (i : Int) + 1) (by omega) (by omega)]
    simp only [hi1, hi0, hiu, decide_true, Bool.and_self, and_self, if_true, rdN hi]
    by_cases h4 : i < u
    · have h5 : (i : Int) < (u : Int) := by omega
      have ih' := ih k (i + 1) (by omega) (by omega) (by omega)
      rw [show ((i + 1 : Nat) : Int) = (i : Int) + 1 by omega] at ih'
      simp only [h5, decide_true, if_true, Option.bind_some]
      rw [if_pos hlen]
      simp only [Option.bind_some, e1, ih']
    · obtain rfl : i = u := by omega
      have h5 : ¬ (i : Int) < (i : Int) := by omega
      obtain ⟨k, rfl⟩ : ∃ k', k = k' + 1 := ⟨k - 1, by omega⟩
      have h6 : ¬ ((i : Int) + 1 ≤ (i : Int)) := by omega
      simp only [h5, decide_false, Bool.false_eq_true, if_false, Option.bind_some, dif_pos hi]
      cases ht : l[i].Tomb
      · simp only [Bool.not_false, if_true]
        rw [if_pos hlen]
        simp only [Option.bind_some, ferrymanref11_Kept_l0.eq_2, h6, decide_false, Bool.and_false, Bool.false_eq_true, if_false]
      · simp only [Bool.not_true, Bool.false_eq_true, if_false, Option.bind_some, ferrymanref11_Kept_l0.eq_2, h6, decide_false, Bool.and_false, if_true, List.append_nil]
theorem refKept_def (l : List Ver) (n : Int) (k : Nat) (hl : l.length ≤ 1000000) (hk : l.length + 1 < k) : ferrymanref11_Kept k l n = some (kept l n) := by
  have h := refKept_l0 l (upN l n) hl l.length k 0 (by omega) (by omega) (by omega)
  rw [show ((0 : Nat) : Int) = 0 from rfl, List.take_zero] at h
  simp only [ferrymanref11_Kept, upto_def l n k hl (by omega), Option.bind_some, h]
  rw [kept_up]
/-! ### Whether two lists are the same: the two functions are one -/
theorem same_eq_l0 (a b : List Ver) : ∀ (k : Nat) (x : Int), slices_Equal_api_Version_api_Version_l0 a b k x = ferrymanref11_Same_l0 a b k x := by
  intro k
  induction k with
  | zero => intro x; rfl
  | succ k ih => intro x; rw [slices_Equal_api_Version_api_Version_l0.eq_2, ferrymanref11_Same_l0.eq_2]; simp only [ih]
theorem same_eq (a b : List Ver) (k : Nat) : keep_Same k a b = ferrymanref11_Same k a b := by
  simp only [keep_Same, slices_Equal_api_Version_api_Version, ferrymanref11_Same, same_eq_l0]
  cases (if ((a.length : Int) != (b.length : Int)) = true then some false else (Option.bind (ferrymanref11_Same_l0 a b k (0 : Int)) (fun o137o => Sum.elim (fun r' => some r') (fun _ => some true) o137o))) <;> rfl
theorem same_some_l0 (a b : List Ver) (hl : a.length ≤ 1000000) (he : a.length = b.length) : ∀ (j k i : Nat), i + j = a.length → j < k → ∃ r, ferrymanref11_Same_l0 a b k (i : Int) = some r := by
  intro j
  induction j with
  | zero =>
    intro k i h1 h2
    obtain ⟨k, rfl⟩ : ∃ k', k = k' + 1 := ⟨k - 1, by omega⟩
    have : ¬ ((i : Int) < (a.length : Int)) := by omega
    rw [ferrymanref11_Same_l0.eq_2]
    exact ⟨.inr (), by simp only [this, decide_false, Bool.false_eq_true, if_false]⟩
  | succ j ih =>
    intro k i h1 h2
    obtain ⟨k, rfl⟩ : ∃ k', k = k' + 1 := ⟨k - 1, by omega⟩
    have hi1 : (i : Int) < (a.length : Int) := by omega
    have hi2 : (i : Int) < (b.length : Int) := by omega
    have hi0 : (0 : Int) ≤ (i : Int) := by omega
    obtain ⟨r, hr⟩ := ih k (i + 1) (by omega) (by omega)
    rw [show ((i + 1 : Nat) : Int) = (i : Int) + 1 by omega] at hr
    rw [ferrymanref11_Same_l0.eq_2, wr (x := (i : Int) + 1) (by omega) (by omega)]
    simp only [hi1, hi2, hi0, decide_true, and_self, if_true, hr]
    split <;> exact ⟨_, rfl⟩
theorem same_some (a b : List Ver) (k : Nat) (hl : a.length ≤ 1000000) (hk : a.length < k) : ∃ r, ferrymanref11_Same k a b = some r := by
  unfold ferrymanref11_Same
  by_cases he : a.length = b.length
  · obtain ⟨r, hr⟩ := same_some_l0 a b hl he a.length k 0 (by omega) hk
    rw [show ((0 : Nat) : Int) = 0 from rfl] at hr
    rw [hr]
    split
    · exact ⟨_, rfl⟩
    · cases r <;> exact ⟨_, rfl⟩
  · have : ((a.length : Int) != (b.length : Int)) = true := by simp; omega
    simp only [this, if_true]; exact ⟨_, rfl⟩
/-! ### The law -/
theorem own_def (l : List Ver) (k : Nat) (hl : l.length ≤ 1000000) : ferrymanlaw11_own k l = some l := by
  unfold ferrymanlaw11_own
  rw [wr (by omega) (by omega), if_pos (by omega), if_pos (by simp; omega)]; simp
theorem clash_eq (l : List Ver) (n : Int) (k : Nat) : keep_Clash k l n = some (clash l n) ∧ ferrymanref11_Clash k l n = some (clash l n) := by
  cases l with
  | nil => exact ⟨rfl, rfl⟩
  | cons v t =>
    have h : (((v :: t : List Ver).length : Int) > 0) := by simp
    have h2 : (0 : Int) < ((v :: t : List Ver).length : Int) := h
    have h3 : rd (v :: t : List Ver) 0 = v := rfl
    constructor
    · simp only [keep_Clash, h, h2, decide_true, if_true, Int.le_refl, and_self, Option.bind_some, clash, h3]
    · simp only [ferrymanref11_Clash, h, h2, decide_true, if_true, Int.le_refl, and_self, Option.bind_some, clash, h3]
theorem spoil_l4 (l : List Ver) (hl : l.length ≤ 1000000) : ∀ (j k i : Nat) (x : List Ver), x.length = l.length → i + j = l.length → j < k → ∃ y, ferrymanlaw11_KeepTells_l4 k x (i : Int) = some y ∧ y.length = l.length := by
  intro j
  induction j with
  | zero =>
    intro k i x hx h1 h2
    obtain ⟨k, rfl⟩ : ∃ k', k = k' + 1 := ⟨k - 1, by omega⟩
    have : ¬ ((i : Int) < (x.length : Int)) := by omega
    rw [ferrymanlaw11_KeepTells_l4.eq_2]
    exact ⟨x, by simp only [this, decide_false, Bool.false_eq_true, if_false], hx⟩
  | succ j ih =>
    intro k i x hx h1 h2
    obtain ⟨k, rfl⟩ : ∃ k', k = k' + 1 := ⟨k - 1, by omega⟩
    have hi1 : (i : Int) < (x.length : Int) := by omega
    have hi0 : (0 : Int) ≤ (i : Int) := by omega
    rw [ferrymanlaw11_KeepTells_l4.eq_2, wr (x := (i : Int) + 1) (by omega) (by omega)]
    simp only [hi1, hi0, decide_true, and_self, if_true, Option.bind_some]
    have := ih k (i + 1) (List.set x (i : Int).toNat ⟨0, 0, false, [115, 112, 111, 105, 108, 116]⟩) (by rw [List.length_set]; exact hx) (by omega) (by omega)
    rwa [show ((i + 1 : Nat) : Int) = (i : Int) + 1 by omega] at this
theorem kept_len (l : List Ver) (n : Int) : (kept l n).length ≤ l.length := by
  rw [kept_take, List.length_take]; omega
theorem round_l2 (l : List Ver) (n : Int) (hl : l.length ≤ 300) (k : Nat) (hk : 400 < k) (i : Int) (hi : i < 2) (h0 : 0 ≤ i) : ferrymanlaw11_KeepTells_l2 l n l (k + 1) i = ferrymanlaw11_KeepTells_l2 l n l k (i + 1) := by
  have hkl := kept_len l n
  obtain ⟨y, hy, hyl⟩ := spoil_l4 (kept l n) (by omega) (kept l n).length k 0 (kept l n) rfl (by omega) (by omega)
  rw [show ((0 : Nat) : Int) = 0 from rfl] at hy
  rw [ferrymanlaw11_KeepTells_l2.eq_2, wr (by omega) (by omega)]
  simp only [hi, decide_true, if_true, Kept_eq l n k (by omega) (by omega), refKept_def l n k (by omega) (by omega), Option.bind_some, Same_refl (kept l n) k (by omega) (by omega), Bool.not_true, Bool.false_eq_true, if_false, hy]
  rw [if_pos (by omega)]
theorem pure_KeepTells (a0 : (List api_Version)) (a1 : (List api_Version)) (a2 : Int) (_ : (wfSl wf_api_Version) a0) (_ : (wfSl wf_api_Version) a1) (_ : (wfInt .i64) a2) : ∃ k, ferrymanlaw11_KeepTells k a0 a1 a2 = some true := by
  obtain ⟨k, hk⟩ : ∃ k, k = 1000 := ⟨_, rfl⟩
  refine ⟨k + 3, ?_⟩
  have ha := awake_eq (k + 3) (by omega)
  unfold ferrymanlaw11_KeepTells
  by_cases h : ((decide ((a0.length : Int) > (300 : Int))) || (decide ((a1.length : Int) > (300 : Int)))) = true
  · simp only [h, if_true, ha, Option.bind_some]
  · have h0 : a0.length ≤ 300 := by
      simp only [Bool.or_eq_true, decide_eq_true_eq, not_or] at h; omega
    obtain ⟨r, hr⟩ := same_some a0 a1 (k + 3) (by omega) (by omega)
    have hl2 : ferrymanlaw11_KeepTells_l2 a0 a2 a0 (k + 3) 0 = some (.inr ()) := by
      rw [round_l2 a0 a2 h0 (k + 2) (by omega) 0 (by omega) (by omega), round_l2 a0 a2 h0 (k + 1) (by omega) (0 + 1) (by omega) (by omega), ferrymanlaw11_KeepTells_l2.eq_2]
      rfl
    have hb : ∀ v : Ver, ((v.Writer == v.Writer) && ((v.TS == v.TS) && ((v.Tomb == v.Tomb) && (v.Value == v.Value)))) = true := fun v => by simp
    simp only [h, if_false, Bool.false_eq_true, own_def a0 (k + 3) (by omega), Option.bind_some, hl2, Sum.elim_inr, Seen_eq a0 a2 (k + 3) (by omega) (by omega), refSeen_def a0 a2 (k + 3) (by omega) (by omega), hb, BEq.rfl, Bool.and_self, if_true,
      keepLegal_eq a0 (k + 3) (by omega) (by omega), Legal_eq a0 (k + 3) (by omega) (by omega), (clash_eq a0 a2 (k + 3)).1, (clash_eq a0 a2 (k + 3)).2, same_eq, hr, Same_refl a0 (k + 3) (by omega) (by omega), ha]
end Go.Proofs.Ytmoackfjfklfaaa
