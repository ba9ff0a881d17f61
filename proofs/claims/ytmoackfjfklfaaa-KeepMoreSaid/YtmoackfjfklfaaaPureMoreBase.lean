/-  The plain laws of layer 11: what its functions tell, in closed form. -/
import Derived.Test.YtmoackfjfklfaaaOpnm1
namespace Go.Proofs.Ytmoackfjfklfaaa
open Go Go.RowKit
set_option linter.unusedVariables false
set_option linter.unusedSimpArgs false

theorem wr {x : Int} (h : -9223372036854775808 ≤ x) (h' : x ≤ 9223372036854775807) : IntKind.i64.wrap x = x := by
  simp [IntKind.wrap, IntKind.bits, IntKind.signed]
  omega
theorem rdN {α : Type} [Inhabited α] {l : List α} {i : Nat} (h : i < l.length) : rd l (i : Int) = l[i] := by
  simp [rd, List.getD_eq_getElem?_getD, List.getElem?_eq_getElem h]

abbrev Ver := api_Version
def dflt : Ver := ⟨0, 0, false, []⟩
def seen : List Ver → Int → Ver × Bool
  | [], _ => (dflt, false)
  | v :: t, n => if v.TS ≤ n then (if v.Tomb then (dflt, false) else (v, true)) else seen t n
def kept : List Ver → Int → List Ver
  | [], _ => []
  | v :: t, n => if v.TS ≤ n then (if v.Tomb then [] else [v]) else v :: kept t n
def kpos : List Ver → Int → Nat
  | [], _ => 0
  | v :: t, n => if v.TS ≤ n then (if v.Tomb then 0 else 1) else kpos t n + 1
theorem kept_take : ∀ (l : List Ver) (n : Int), kept l n = l.take (kpos l n)
  | [], _ => rfl
  | v :: t, n => by
    simp only [kept, kpos]
    split
    · split <;> rfl
    · rw [List.take_succ_cons, kept_take t n]
theorem kpos_le : ∀ (l : List Ver) (n : Int), kpos l n ≤ l.length
  | [], _ => Nat.le_refl _
  | v :: t, n => by
    have := kpos_le t n
    simp only [kpos, List.length_cons]
    split
    · split <;> omega
    · omega

def resSeen : List Ver → Int → ((Unit ⊕ (Int × Int × Bool × Str)) ⊕ (Unit ⊕ (Int × Int × Bool × Str)))
  | [], _ => .inr (.inl ())
  | v :: t, n => if v.TS ≤ n then (if v.Tomb then .inl (.inl ()) else .inl (.inr (v.Writer, v.TS, v.Tomb, v.Value))) else resSeen t n
theorem seen_l0 (l : List Ver) (n : Int) (kk : Nat) (hl : l.length ≤ 1000000) : ∀ (j k i : Nat), i + j = l.length → j < k →
    keep_till_1_l0 l n (keep_Seen_b0 l kk) k (i : Int) (.inl ()) = some (resSeen (l.drop i) n) := by
  intro j
  induction j with
  | zero =>
    intro k i h1 h2
    obtain ⟨k, rfl⟩ : ∃ k', k = k' + 1 := ⟨k - 1, by omega⟩
    rw [keep_till_1_l0.eq_2, List.drop_of_length_le (by omega)]
    have : ¬ ((i : Int) < (l.length : Int)) := by omega
    simp [this, resSeen]
  | succ j ih =>
    intro k i h1 h2
    obtain ⟨k, rfl⟩ : ∃ k', k = k' + 1 := ⟨k - 1, by omega⟩
    have hi : i < l.length := by omega
    have hi1 : (i : Int) < (l.length : Int) := by omega
    have hi0 : (0 : Int) ≤ (i : Int) := by omega
    rw [keep_till_1_l0.eq_2, List.drop_eq_getElem_cons hi, resSeen, wr (by omega) (by omega)]
    have ih' := ih k (i + 1) (by omega) (by omega)
    rw [show ((i + 1 : Nat) : Int) = (i : Int) + 1 by omega] at ih'
    simp only [hi1, hi0, decide_true, and_self, if_true, toL, Option.bind_some, keep_Seen_b0, rdN hi]
    by_cases hn : l[i].TS ≤ n
    · cases ht : l[i].Tomb <;> simp [hn, ht, isNorm]
    · simp [hn, isNorm, ih']
theorem Seen_eq (l : List Ver) (n : Int) (k : Nat) (hl : l.length ≤ 1000000) (hk : l.length < k) : keep_Seen k l n = some (seen l n) := by
  have h := seen_l0 l n k hl l.length k 0 (by omega) hk
  simp only [keep_Seen, keep_till, Option.bind_some, keep_till_1]
  rw [show ((0 : Nat) : Int) = 0 from rfl] at h
  rw [h]
  simp only [Option.bind_some, List.drop_zero]
  have key : ∀ l : List Ver, (Sum.elim (fun r' => some r') (fun x79 => some x79) (resSeen l n)).bind (fun o168o => Sum.elim (fun _ => some ((⟨(0 : Int), (0 : Int), false, ([] : Str)⟩ : api_Version), false)) (fun ⟨x164, x165, x166, x167⟩ => some ((⟨x164, x165, x166, x167⟩ : api_Version), true)) o168o) = some (seen l n) := by
    intro l
    induction l with
    | nil => rfl
    | cons v t ih =>
      simp only [resSeen, seen]
      split
      · split <;> rfl
      · exact ih
  exact key l

def resKept : List Ver → Int → Int → ((Int ⊕ Unit) ⊕ (Int ⊕ Unit))
  | [], _, z => .inr (.inl z)
  | v :: t, n, z => if v.TS ≤ n then .inl (.inl (z - (t.length + 1) + (if v.Tomb then 0 else 1))) else resKept t n z
theorem kept_l0 (l : List Ver) (n : Int) (kk : Nat) (hl : l.length ≤ 1000000) : ∀ (j k i : Nat), i + j = l.length → j < k →
    keep_till_1_l0 l n (keep_Kept_b0 l kk) k (i : Int) (.inl (l.length : Int)) = some (resKept (l.drop i) n l.length) := by
  intro j
  induction j with
  | zero =>
    intro k i h1 h2
    obtain ⟨k, rfl⟩ : ∃ k', k = k' + 1 := ⟨k - 1, by omega⟩
    rw [keep_till_1_l0.eq_2, List.drop_of_length_le (by omega)]
    have : ¬ ((i : Int) < (l.length : Int)) := by omega
    simp [this, resKept]
  | succ j ih =>
    intro k i h1 h2
    obtain ⟨k, rfl⟩ : ∃ k', k = k' + 1 := ⟨k - 1, by omega⟩
    have hi : i < l.length := by omega
    have hi1 : (i : Int) < (l.length : Int) := by omega
    have hi0 : (0 : Int) ≤ (i : Int) := by omega
    have hlen : ((l.drop (i + 1)).length : Int) = l.length - i - 1 := by rw [List.length_drop]; omega
    rw [keep_till_1_l0.eq_2, List.drop_eq_getElem_cons hi, resKept, wr (by omega) (by omega)]
    have ih' := ih k (i + 1) (by omega) (by omega)
    rw [show ((i + 1 : Nat) : Int) = (i : Int) + 1 by omega] at ih'
    simp only [hi1, hi0, decide_true, and_self, if_true, toL, Option.bind_some, keep_Kept_b0, rdN hi, hlen]
    by_cases hn : l[i].TS ≤ n
    · have hw := wr (x := (i : Int) + 1) (by omega) (by omega)
      cases ht : l[i].Tomb <;> simp [hn, ht, isNorm, hw] <;> omega
    · simp [hn, isNorm, ih']
theorem Kept_eq (l : List Ver) (n : Int) (k : Nat) (hl : l.length ≤ 1000000) (hk : l.length < k) : keep_Kept k l n = some (kept l n) := by
  have h := kept_l0 l n k hl l.length k 0 (by omega) hk
  simp only [keep_Kept, keep_till, Option.bind_some, keep_till_1]
  rw [show ((0 : Nat) : Int) = 0 from rfl] at h
  rw [h]
  simp only [Option.bind_some, List.drop_zero]
  have key : ∀ t : List Ver, ∃ x, resKept t n l.length = x ∧ Sum.elim (fun r' => some r') (fun x79 => some x79) x = some (Sum.inl ((l.length : Int) - t.length + kpos t n) : Int ⊕ Unit) := by
    intro t
    induction t with
    | nil => exact ⟨_, rfl, by simp [resKept, kpos]⟩
    | cons v t ih =>
      refine ⟨_, rfl, ?_⟩
      simp only [resKept, kpos]
      split
      · cases v.Tomb <;> simp <;> omega
      · obtain ⟨_, rfl, e⟩ := ih
        rw [e]; simp; omega
  obtain ⟨_, rfl, e⟩ := key l
  rw [e]
  have hp := kpos_le l n
  have e2 : (l.length : Int) - l.length + kpos l n = kpos l n := by omega
  simp only [Option.bind_some, Sum.elim_inl, e2]
  rw [if_pos ⟨by omega, by omega, by omega⟩]
  simp only [slices_Clone_api_Version_api_Version, Int.toNat_natCast, List.nil_append, List.length_nil, Nat.zero_add]
  rw [if_pos (by rw [List.length_take]; omega), kept_take]
  rfl
def clash (l : List Ver) (n : Int) : Bool := match l with
  | [] => false
  | v :: _ => decide (v.TS > n)
theorem Clash_eq (l : List Ver) (n : Int) (k : Nat) : keep_Clash k l n = some (clash l n) := by
  cases l with
  | nil => rfl
  | cons v t =>
    have h : (((v :: t : List Ver).length : Int) > 0) := by simp
    have h2 : (0 : Int) < ((v :: t : List Ver).length : Int) := h
    simp only [keep_Clash, h, h2, decide_true, if_true, Int.le_refl, and_self, Option.bind_some, clash]
    rfl
theorem awake_eq (k : Nat) (hk : 50 ≤ k) : ferrymanlaw11_awake k = some true :=
  OLe.up (f := fun k => ferrymanlaw11_awake k) (fun k => ferrymanlaw11_awake.mono) hk true (by decide +kernel)
/-- Whether a list may be is told, one way or the other. -/
def legal : List Ver → Bool
  | [] => true
  | [v] => decide (1 ≤ v.TS)
  | v :: u :: t => decide (1 ≤ v.TS) && decide (u.TS < v.TS) && legal (u :: t)
theorem seen_kept : ∀ (l : List Ver) (f s : Int), f ≤ s → seen (kept l f) s = seen l s
  | [], _, _, _ => rfl
  | v :: t, f, s, h => by
    have ih := seen_kept t f s h
    simp only [kept]
    by_cases h1 : v.TS ≤ f
    · have h2 : v.TS ≤ s := by omega
      cases ht : v.Tomb <;> simp [h1, h2, ht, seen]
    · simp [h1, seen, ih]
theorem clash_kept : ∀ (l : List Ver) (f s : Int), f ≤ s → clash (kept l f) s = clash l s
  | [], _, _, _ => rfl
  | v :: t, f, s, h => by
    simp only [kept]
    by_cases h1 : v.TS ≤ f
    · have h2 : ¬ (v.TS > s) := by omega
      cases ht : v.Tomb <;> simp [h1, ht, clash] <;> omega
    · simp [h1, clash]
theorem legal_l0 (l : List api_Version) (hl : l.length ≤ 1000000) : ∀ (j k i : Nat), i + j = l.length → j < k → ∃ b, ferrymanref11_Legal_l0 l k (i : Int) = some b := by
  intro j
  induction j with
  | zero =>
    intro k i h1 h2
    obtain ⟨k, rfl⟩ : ∃ k', k = k' + 1 := ⟨k - 1, by omega⟩
    rw [ferrymanref11_Legal_l0.eq_2]
    have : ¬ ((i : Int) < (l.length : Int)) := by omega
    simp [this]
  | succ j ih =>
    intro k i h1 h2
    obtain ⟨k, rfl⟩ : ∃ k', k = k' + 1 := ⟨k - 1, by omega⟩
    have hi : i < l.length := by omega
    have hi1 : (i : Int) < (l.length : Int) := by omega
    have hi0 : (0 : Int) ≤ (i : Int) := by omega
    obtain ⟨b, hb⟩ := ih k (i + 1) (by omega) (by omega)
    rw [show ((i + 1 : Nat) : Int) = (i : Int) + 1 by omega] at hb
    rw [ferrymanref11_Legal_l0.eq_2, wr (x := (i : Int) + 1) (by omega) (by omega), wr (x := (i : Int) - 1) (by omega) (by omega)]
    simp only [hi1, hi0, decide_true, and_self, if_true, hb]
    by_cases h0 : (rd l (i : Int)).TS < 1
    · simp [h0]
    · by_cases h3 : (i : Int) > 0
      · have h4 : (0 : Int) ≤ (i : Int) - 1 ∧ (i : Int) - 1 < (l.length : Int) := by omega
        simp only [h0, h3, decide_true, decide_false, if_true, Bool.false_eq_true, if_false, and_self, h4, Option.bind_some]
        split
        · exact ⟨_, rfl⟩
        · exact ⟨_, rfl⟩
      · have h5 : ¬ (0 < i) := by omega
        simp [h0, h3, h5]
theorem Legal_def (l : List api_Version) (k : Nat) (hl : l.length ≤ 1000000) (hk : l.length < k) : ∃ b, ferrymanref11_Legal k l = some b := by
  obtain ⟨b, hb⟩ := legal_l0 l hl l.length k 0 (by omega) hk
  rw [show ((0 : Nat) : Int) = 0 from rfl] at hb
  simp only [ferrymanref11_Legal, hb, Option.bind_some]
  cases b <;> exact ⟨_, rfl⟩
end Go.Proofs.Ytmoackfjfklfaaa
