/-  Loops over lists, plainly. No program of its own. -/
import Derived.Test.YtcngjjlhdlbogaaDoorSlF
namespace Go.Proofs.YtcngjjlhdlbogaaDoor
open Go
/-- A loop over a list that may end early. -/
def runL {α σ R : Type} (step : α → σ → σ ⊕ R) (fin : σ → R) : List α → σ → R
  | [], s => fin s
  | x :: l, s => match step x s with
    | .inl s' => runL step fin l s'
    | .inr r => r
theorem wr {x : Int} (h : -9223372036854775808 ≤ x) (h' : x ≤ 9223372036854775807) : IntKind.i64.wrap x = x := by
  simp [IntKind.wrap, IntKind.bits, IntKind.signed]
  omega
theorem wr1 {i : Nat} (h : i + 1 ≤ 9223372036854775807) : IntKind.i64.wrap ((i : Int) + 1) = ((i + 1 : Nat) : Int) := by rw [wr (by omega) (by omega)]; rfl
theorem rdN {α : Type} [Inhabited α] {l : List α} {i : Nat} (h : i < l.length) : rd l (i : Int) = l[i] := by
  simp [rd, List.getD_eq_getElem?_getD, List.getElem?_eq_getElem h]
theorem inR {α : Type} {l : List α} {i : Nat} (h : i < l.length) : 0 ≤ (i : Int) ∧ (i : Int) < (l.length : Int) := by omega
theorem notR {α : Type} {l : List α} : ¬ ((l.length : Int) < (l.length : Int)) := by omega
theorem loop_run {α σ R : Type} {a : List α} (F : Nat → Int → σ → Option R) (Inv : Nat → σ → Prop) (step : α → σ → σ ⊕ R) (fin : σ → R) (K0 : Nat) (ha : a.length ≤ 9223372036854775807)
    (hend : ∀ k s, Inv a.length s → K0 ≤ k → F (k + 1) (a.length : Int) s = some (fin s))
    (hstep : ∀ k i s (h : i < a.length), Inv i s → K0 ≤ k → (∀ s', step a[i] s = .inl s' → F (k + 1) (i : Int) s = F k (IntKind.i64.wrap ((i : Int) + 1)) s' ∧ Inv (i + 1) s') ∧ (∀ r, step a[i] s = .inr r → F (k + 1) (i : Int) s = some r)) :
    ∀ (n k i : Nat) (s : σ), i + n = a.length → n + K0 < k → Inv i s → F k (i : Int) s = some (runL step fin (a.drop i) s) := by
  intro n
  induction n with
  | zero =>
    intro k i s hi hk hI
    obtain ⟨k, rfl⟩ : ∃ q, k = q + 1 := ⟨k - 1, by omega⟩
    obtain rfl : i = a.length := by omega
    rw [List.drop_of_length_le (Nat.le_refl _)]
    exact hend k s hI (by omega)
  | succ n ih =>
    intro k i s hi hk hI
    obtain ⟨k, rfl⟩ : ∃ q, k = q + 1 := ⟨k - 1, by omega⟩
    have hlt : i < a.length := by omega
    obtain ⟨h1, h2⟩ := hstep k i s hlt hI (by omega)
    rw [List.drop_eq_getElem_cons hlt]
    unfold runL
    cases hs : step a[i] s with
    | inl s' =>
      obtain ⟨e, hI'⟩ := h1 s' hs
      rw [e, wr1 (by omega)]
      exact ih k (i + 1) s' (by omega) (by omega) hI'
    | inr r => exact h2 r hs
theorem loop_run0 {α σ R : Type} {a : List α} (F : Nat → Int → σ → Option R) (Inv : Nat → σ → Prop) (step : α → σ → σ ⊕ R) (fin : σ → R) (K0 : Nat) (ha : a.length ≤ 9223372036854775807)
    (hend : ∀ k s, Inv a.length s → K0 ≤ k → F (k + 1) (a.length : Int) s = some (fin s))
    (hstep : ∀ k i s (h : i < a.length), Inv i s → K0 ≤ k → (∀ s', step a[i] s = .inl s' → F (k + 1) (i : Int) s = F k (IntKind.i64.wrap ((i : Int) + 1)) s' ∧ Inv (i + 1) s') ∧ (∀ r, step a[i] s = .inr r → F (k + 1) (i : Int) s = some r))
    {k : Nat} {s : σ} (hk : a.length + K0 < k) (hI : Inv 0 s) : F k 0 s = some (runL step fin a s) :=
  loop_run F Inv step fin K0 ha hend hstep a.length k 0 s (by omega) hk hI
end Go.Proofs.YtcngjjlhdlbogaaDoor
