/-  The plain laws of layer 5: what its functions tell, in closed form. -/
import Derived.Test.YtgnbccjpgoeplaaPureLatchNames
import Derived.Test.YtgnbccjpgoeplaaSlO
namespace Go.Proofs.Ytgnbccjpgoeplaa
open Go Go.RowKit
set_option linter.unusedVariables false
set_option linter.unusedSimpArgs false
theorem wr {x : Int} (h : -9223372036854775808 ≤ x) (h' : x ≤ 9223372036854775807) : IntKind.i64.wrap x = x := by
  simp [IntKind.wrap, IntKind.bits, IntKind.signed]
  omega
abbrev Lt := List (latch_Name × Int)
def tryF (l : Lt) (n : latch_Name) (t : Int) : Bool × Lt := if (mget l n).isSome = true ∧ (mget l n).getD 0 ≠ t then (false, l) else (true, mput l n t)
def dropF (l : Lt) (n : latch_Name) (t : Int) : Bool × Lt := if mget l n = some t then (true, mdel l n) else (false, l)
def stepF (l : Lt) (s : ferrymanlaw05_Step) : Lt := if s.Drop = true then (dropF l s.N s.Task).2 else (tryF l s.N s.Task).2
theorem Owner_eq (k : Nat) (l : Lt) (n : latch_Name) : latch_Latches_Owner_PO k ⟨l⟩ n = some ((mget l n).getD 0, (mget l n).isSome) := rfl
theorem Try_eq (k : Nat) (l : Lt) (n : latch_Name) (t : Int) : latch_Latches_Try_PO k ⟨l⟩ n t = some ((tryF l n t).1, ⟨(tryF l n t).2⟩) := by
  unfold latch_Latches_Try_PO tryF
  rw [Owner_eq, Option.bind_some]
  by_cases h : (mget l n).isSome = true ∧ (mget l n).getD 0 ≠ t
  · rw [if_pos h, if_pos (by simpa using h)]
  · rw [if_neg h, if_neg (by simpa using h)]; rfl
theorem Drop_eq (k : Nat) (l : Lt) (n : latch_Name) (t : Int) : latch_Latches_Drop_PO k ⟨l⟩ n t = some ((dropF l n t).1, ⟨(dropF l n t).2⟩) := by
  unfold latch_Latches_Drop_PO dropF
  rw [Owner_eq, Option.bind_some]
  cases hm : mget l n with
  | none => simp
  | some u =>
    by_cases h : u = t
    · subst h; simp
    · simp [h]
theorem rd_get {α : Type} [Inhabited α] {l : List α} {i : Nat} (h : i < l.length) : rd l (i : Int) = l[i] := by
  simp [rd, List.getD_eq_getElem?_getD, List.getElem?_eq_getElem h]
theorem run_l0_eq (a : List ferrymanlaw05_Step) (ha : a.length ≤ 100000) : ∀ (n k i : Nat) (l : Lt), i + n = a.length → n < k → ferrymanlaw05_run_l0 a k (i : Int) l = some ((a.drop i).foldl stepF l) := by
  intro n
  induction n with
  | zero =>
    intro k i l hi hk
    obtain ⟨k, rfl⟩ : ∃ q, k = q + 1 := ⟨k - 1, by omega⟩
    rw [ferrymanlaw05_run_l0.eq_2, if_neg (by simp; omega), List.drop_of_length_le (by omega)]; rfl
  | succ n ih =>
    intro k i l hi hk
    obtain ⟨k, rfl⟩ : ∃ q, k = q + 1 := ⟨k - 1, by omega⟩
    have hlt : i < a.length := by omega
    have hr : 0 ≤ (i : Int) ∧ (i : Int) < (a.length : Int) := by omega
    have hw : IntKind.i64.wrap ((i : Int) + 1) = ((i + 1 : Nat) : Int) := by rw [wr (by omega) (by omega)]; rfl
    rw [ferrymanlaw05_run_l0.eq_2, if_pos (by simpa using hr.2), List.drop_eq_getElem_cons hlt, List.foldl_cons]
    simp only [if_pos hr, rd_get hlt, Drop_eq, Try_eq, Option.bind_some, hw]
    rw [← ih k (i + 1) _ (by omega) (by omega)]
    unfold stepF
    cases hd : (a[i]).Drop <;> simp
def runF (a : List ferrymanlaw05_Step) : Lt := a.foldl stepF []
theorem run_eq {a : List ferrymanlaw05_Step} (ha : a.length ≤ 100000) {k : Nat} (hk : a.length < k) : ferrymanlaw05_run k a = some ⟨runF a⟩ := by
  unfold ferrymanlaw05_run
  show Option.bind (some (⟨[]⟩ : latch_Latches)) _ = _
  rw [Option.bind_some]
  have h := run_l0_eq a ha a.length k 0 [] (by omega) hk
  rw [show ((0 : Nat) : Int) = (0 : Int) from rfl, List.drop_zero] at h
  rw [h]; rfl
theorem try_nodup {l : Lt} {n : latch_Name} {t : Int} (h : (l.map (·.1)).Nodup) : ((tryF l n t).2.map (·.1)).Nodup := by
  unfold tryF
  split
  · exact h
  · exact mput_nodup h
theorem drop_nodup {l : Lt} {n : latch_Name} {t : Int} (h : (l.map (·.1)).Nodup) : ((dropF l n t).2.map (·.1)).Nodup := by
  unfold dropF
  split
  · exact mdel_nodup h
  · exact h
theorem step_nodup {l : Lt} {s : ferrymanlaw05_Step} (h : (l.map (·.1)).Nodup) : ((stepF l s).map (·.1)).Nodup := by
  unfold stepF
  split
  · exact drop_nodup h
  · exact try_nodup h
theorem fold_nodup : ∀ (a : List ferrymanlaw05_Step) {l : Lt}, (l.map (·.1)).Nodup → ((a.foldl stepF l).map (·.1)).Nodup
  | [], _, h => h
  | s :: a, _, h => fold_nodup a (step_nodup h)
theorem run_nodup (a : List ferrymanlaw05_Step) : ((runF a).map (·.1)).Nodup := fold_nodup a (by simp)
theorem try_length {l : Lt} {n : latch_Name} {t : Int} : (tryF l n t).2.length ≤ l.length + 1 := by
  unfold tryF
  split
  · exact Nat.le_succ _
  · rw [mput_length]; split <;> omega
theorem drop_length {l : Lt} {n : latch_Name} {t : Int} : (dropF l n t).2.length ≤ l.length := by
  unfold dropF
  split
  · exact mdel_sub.length_le
  · exact Nat.le_refl _
theorem step_length {l : Lt} {s : ferrymanlaw05_Step} : (stepF l s).length ≤ l.length + 1 := by
  unfold stepF
  split
  · exact Nat.le_succ_of_le drop_length
  · exact try_length
theorem fold_length : ∀ (a : List ferrymanlaw05_Step) {l : Lt}, (a.foldl stepF l).length ≤ l.length + a.length
  | [], _ => Nat.le_refl _
  | s :: a, l => by
    have h1 := fold_length a (l := stepF l s)
    have h2 := step_length (l := l) (s := s)
    simp only [List.foldl_cons, List.length_cons]
    omega
theorem run_length (a : List ferrymanlaw05_Step) : (runF a).length ≤ a.length := by
  have := fold_length a (l := [])
  simpa [runF] using this
theorem mget_try (l : Lt) (n m : latch_Name) (t : Int) : mget (tryF l n t).2 m = if (tryF l n t).1 = true ∧ n = m then some t else mget l m := by
  unfold tryF
  split
  · simp
  · simp only [mget_mput, true_and]
theorem mget_drop {l : Lt} (h : (l.map (·.1)).Nodup) (n m : latch_Name) (t : Int) : mget (dropF l n t).2 m = if (dropF l n t).1 = true ∧ n = m then none else mget l m := by
  unfold dropF
  split
  · simp only [mget_mdel h, true_and]
  · simp
theorem eqN (x y : latch_Name) : ((x.Kind == y.Kind) && (x.ID == y.ID)) = decide (x = y) := by
  obtain ⟨a, b⟩ := x
  obtain ⟨c, d⟩ := y
  by_cases h : a = c
  · by_cases h2 : b = d
    · subst h h2; simp
    · simp [h2]
  · simp [h]
end Go.Proofs.Ytgnbccjpgoeplaa
