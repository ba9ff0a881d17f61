/-  What is told from some number of rounds on. No program of its own. -/
import Derived.Test.YtcngjjlhdlbogaaDoorSlQ
namespace Go.Proofs.YtcngjjlhdlbogaaDoor
open Go
set_option linter.unusedVariables false
set_option linter.unusedSimpArgs false
/-- From some number of rounds on f tells v. -/
def Ev {α : Type} (f : Nat → Option α) (v : α) : Prop := ∃ K, ∀ k, K ≤ k → f k = some v
namespace Ev
variable {α β : Type} {f : Nat → Option α} {v : α}
theorem mk' (K : Nat) (h : ∀ k, K ≤ k → f k = some v) : Ev f v := ⟨K, h⟩
theorem pure (v : α) : Ev (fun _ => some v) v := ⟨0, fun _ _ => rfl⟩
theorem ex (h : Ev f v) : ∃ k, f k = some v := h.elim fun K h => ⟨K, h K (Nat.le_refl _)⟩
theorem bind {g : Nat → α → Option β} {w : β} (h : Ev f v) (h2 : Ev (fun k => g k v) w) : Ev (fun k => (f k).bind (g k)) w := by
  obtain ⟨K, h⟩ := h
  obtain ⟨L, h2⟩ := h2
  exact ⟨max K L, fun k hk => by
    show (f k).bind (g k) = some w
    rw [h k (by omega)]; exact h2 k (by omega)⟩
theorem congr {g : Nat → Option α} (h : Ev g v) (e : ∀ k, f k = g k) : Ev f v := h.elim fun K h => ⟨K, fun k hk => (e k).trans (h k hk)⟩
theorem eq {w : α} (h : Ev f v) (e : v = w) : Ev f w := e ▸ h
theorem shift (n : Nat) (h : Ev (fun k => f (k + n)) v) : Ev f v := by
  obtain ⟨K, h⟩ := h
  refine ⟨K + n, fun k hk => ?_⟩
  have h' : f (k - n + n) = some v := h (k - n) (by omega)
  rwa [Nat.sub_add_cancel (by omega)] at h'
theorem unique {w : α} (h : Ev f v) (h2 : Ev f w) : v = w := by
  obtain ⟨K, h⟩ := h
  obtain ⟨L, h2⟩ := h2
  exact Option.some.inj ((h (max K L) (by omega)).symm.trans (h2 (max K L) (by omega)))
theorem ite {c : Prop} [Decidable c] {g : Nat → Option α} (h : c → Ev f v) (h2 : ¬ c → Ev g v) : Ev (fun k => if c then f k else g k) v := by
  by_cases hc : c
  · exact (h hc).congr fun k => if_pos hc
  · exact (h2 hc).congr fun k => if_neg hc
theorem chk {c : Prop} [Decidable c] (hc : c) (h : Ev f v) : Ev (fun k => if c then f k else none) v := h.congr fun k => if_pos hc
theorem pos {c : Prop} [Decidable c] {g : Nat → Option α} (hc : c) (h : Ev f v) : Ev (fun k => if c then f k else g k) v := h.congr fun k => if_pos hc
theorem neg {c : Prop} [Decidable c] {g : Nat → Option α} (hc : ¬ c) (h : Ev f v) : Ev (fun k => if c then g k else f k) v := h.congr fun k => if_neg hc
end Ev
/-- A loop over a list by its places. -/
theorem Ev_loop {α σ R : Type} {a : List α} (F : Nat → Int → σ → Option R) (Inv : Nat → σ → Prop) (step : α → σ → σ ⊕ R) (fin : σ → R) (ha : a.length ≤ 9223372036854775806)
    (hend : ∀ s, Inv a.length s → ∃ K, ∀ k, K ≤ k → F (k + 1) (a.length : Int) s = some (fin s))
    (hstep : ∀ i s (h : i < a.length), Inv i s → ∃ K, ∀ k, K ≤ k → (∀ s', step a[i] s = .inl s' → F (k + 1) (i : Int) s = F k (((i + 1 : Nat)) : Int) s' ∧ Inv (i + 1) s') ∧ (∀ r, step a[i] s = .inr r → F (k + 1) (i : Int) s = some r)) :
    ∀ (n i : Nat) (s : σ), i + n = a.length → Inv i s → Ev (fun k => F k (i : Int) s) (runL step fin (a.drop i) s) := by
  intro n
  induction n with
  | zero =>
    intro i s hi hI
    obtain rfl : i = a.length := by omega
    rw [List.drop_of_length_le (Nat.le_refl _)]
    obtain ⟨K, h⟩ := hend s hI
    exact Ev.shift 1 ⟨K, fun k hk => h k hk⟩
  | succ n ih =>
    intro i s hi hI
    have hlt : i < a.length := by omega
    obtain ⟨K, h⟩ := hstep i s hlt hI
    rw [List.drop_eq_getElem_cons hlt]
    unfold runL
    cases hs : step a[i] s with
    | inl s' =>
      obtain ⟨_, hI'⟩ := (h K (Nat.le_refl _)).1 s' hs
      obtain ⟨L, h2⟩ := ih (i + 1) s' (by omega) hI'
      exact Ev.shift 1 ⟨max K L, fun k hk => by
        show F (k + 1) (i : Int) s = _
        rw [((h k (by omega)).1 s' hs).1]; exact h2 k (by omega)⟩
    | inr r => exact Ev.shift 1 ⟨K, fun k hk => (h k hk).2 r hs⟩
theorem Ev_loop0 {α σ R : Type} {a : List α} (F : Nat → Int → σ → Option R) (Inv : Nat → σ → Prop) (step : α → σ → σ ⊕ R) (fin : σ → R) (ha : a.length ≤ 9223372036854775806)
    (hend : ∀ s, Inv a.length s → ∃ K, ∀ k, K ≤ k → F (k + 1) (a.length : Int) s = some (fin s))
    (hstep : ∀ i s (h : i < a.length), Inv i s → ∃ K, ∀ k, K ≤ k → (∀ s', step a[i] s = .inl s' → F (k + 1) (i : Int) s = F k (((i + 1 : Nat)) : Int) s' ∧ Inv (i + 1) s') ∧ (∀ r, step a[i] s = .inr r → F (k + 1) (i : Int) s = some r))
    {s : σ} (hI : Inv 0 s) : Ev (fun k => F k 0 s) (runL step fin a s) := Ev_loop F Inv step fin ha hend hstep a.length 0 s (by omega) hI
end Go.Proofs.YtcngjjlhdlbogaaDoor
