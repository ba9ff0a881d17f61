/-  The plain law LatchOne. -/
import Derived.Test.YtgnbccjpgoeplaaPureBase
import Derived.Test.YtgnbccjpgoeplaaGl1LLatchOne
namespace Go.Proofs.Ytgnbccjpgoeplaa
open Go Go.RowKit
set_option linter.unusedVariables false
set_option linter.unusedSimpArgs false
theorem one_drop {l : Lt} (hn : (l.map (·.1)).Nodup) (m n : latch_Name) (t task : Int) (ht : (mget l m).isSome = true → (mget l m).getD 0 = task) :
    (decide (n = m) && !((dropF l n t).1 == ((mget l m).isSome && (task == t)))) = false ∧ (mget (dropF l n t).2 m).isSome = ((mget l m).isSome && !(decide (n = m) && (dropF l n t).1)) ∧ ((mget (dropF l n t).2 m).isSome = true → (mget (dropF l n t).2 m).getD 0 = task) := by
  rw [mget_drop hn]
  by_cases h : n = m
  · subst h
    unfold dropF
    cases hm : mget l n with
    | none => simp
    | some u =>
      have hu : u = task := by simpa [hm] using ht
      subst hu
      by_cases c : u = t
      · subst c; simp
      · simp [c]
  · simp only [h, decide_false, Bool.false_and, and_false, if_false, Bool.not_false, Bool.and_true, true_and]
    exact ht
theorem one_try {l : Lt} (hn : (l.map (·.1)).Nodup) (m n : latch_Name) (t task : Int) (ht : (mget l m).isSome = true → (mget l m).getD 0 = task) :
    (decide (n = m) && !((tryF l n t).1 == (!(mget l m).isSome || (task == t)))) = false ∧ (mget (tryF l n t).2 m).isSome = ((mget l m).isSome || (decide (n = m) && (tryF l n t).1)) ∧ ((mget (tryF l n t).2 m).isSome = true → (mget (tryF l n t).2 m).getD 0 = if n = m ∧ (tryF l n t).1 = true then t else task) := by
  rw [mget_try]
  by_cases h : n = m
  · subst h
    unfold tryF
    cases hm : mget l n with
    | none => simp
    | some u =>
      have hu : u = task := by simpa [hm] using ht
      subst hu
      by_cases c : u = t
      · subst c; simp
      · simp [c]
  · simp only [h, decide_false, Bool.false_and, and_false, false_and, if_false, Bool.or_false, true_and]
    exact ht
theorem one_loop (a : List ferrymanlaw05_Step) (m : latch_Name) (ha : a.length ≤ 1000) : ∀ (n k i : Nat) (task : Int) (held : Bool) (l : Lt), i + n = a.length → n < k → (l.map (·.1)).Nodup → held = (mget l m).isSome → ((mget l m).isSome = true → (mget l m).getD 0 = task) →
    ferrymanlaw05_LatchOne_l0 a m k task held (i : Int) l = some (.inr ()) := by
  intro n
  induction n with
  | zero =>
    intro k i task held l hi hk hn hh ht
    obtain ⟨k, rfl⟩ : ∃ q, k = q + 1 := ⟨k - 1, by omega⟩
    rw [ferrymanlaw05_LatchOne_l0.eq_2, if_neg (by simp; omega)]
  | succ n ih =>
    intro k i task held l hi hk hn hh ht
    obtain ⟨k, rfl⟩ : ∃ q, k = q + 1 := ⟨k - 1, by omega⟩
    have hlt : i < a.length := by omega
    have hr : 0 ≤ (i : Int) ∧ (i : Int) < (a.length : Int) := by omega
    have hw : IntKind.i64.wrap ((i : Int) + 1) = ((i + 1 : Nat) : Int) := by rw [wr (by omega) (by omega)]; rfl
    rw [ferrymanlaw05_LatchOne_l0.eq_2, if_pos (by simpa using hr.2), if_pos hr]
    simp only [rd_get hlt, Drop_eq, Try_eq, Owner_eq, Option.bind_some, hw, eqN]
    subst hh
    have key : ∀ (o : Option Int) (h' : Bool) (t' : Int), o.isSome = h' → (o.isSome = true → o.getD 0 = t') → (((!(o.isSome == h')) || (o.isSome && (o.getD 0 != t'))) || ((!o.isSome) && (o.getD 0 != (0 : Int)))) = false := by
      intro o h' t' h1 h2
      subst h1
      cases o with
      | none => simp
      | some u => simpa using h2
    cases hd : (a[i]).Drop with
    | true =>
      obtain ⟨h1, h2, h3⟩ := one_drop hn m (a[i]).N (a[i]).Task task ht
      simp only [if_true, h1, Bool.false_eq_true, if_false, key _ _ _ h2 h3]
      exact ih k (i + 1) task _ _ (by omega) (by omega) (drop_nodup hn) h2.symm h3
    | false =>
      obtain ⟨h1, h2, h3⟩ := one_try hn m (a[i]).N (a[i]).Task task ht
      simp only [Bool.false_eq_true, if_false, h1]
      by_cases c : (decide (a[i].N = m) && (tryF l a[i].N a[i].Task).1) = true
      · have c' : a[i].N = m ∧ (tryF l a[i].N a[i].Task).1 = true := by simpa using c
        rw [if_pos c'] at h3
        rw [c, Bool.or_true] at h2
        simp only [c, if_true, Option.bind_some, key _ _ _ h2 h3, Bool.false_eq_true, if_false]
        exact ih k (i + 1) _ _ _ (by omega) (by omega) (try_nodup hn) h2.symm h3
      · have c' : ¬ (a[i].N = m ∧ (tryF l a[i].N a[i].Task).1 = true) := by simpa using c
        rw [if_neg c'] at h3
        have c2 : (decide (a[i].N = m) && (tryF l a[i].N a[i].Task).1) = false := by simpa using c
        rw [c2, Bool.or_false] at h2
        simp only [c2, Bool.false_eq_true, if_false, Option.bind_some, key _ _ _ h2 h3]
        exact ih k (i + 1) _ _ _ (by omega) (by omega) (try_nodup hn) h2.symm h3
theorem pure_LatchOne (a0 : (List ferrymanlaw05_Step)) (a1 : latch_Name) (_ : (wfSl wf_ferrymanlaw05_Step) a0) (_ : wf_latch_Name a1) : ∃ k, ferrymanlaw05_LatchOne k a0 a1 = some true := by
  by_cases hl : a0.length ≤ 300
  · refine ⟨a0.length + 21, ?_⟩
    have e1 : ¬ ((a0.length : Int) > 300) := by omega
    unfold ferrymanlaw05_LatchOne
    rw [awake_up (by omega)]
    simp only [e1, decide_false, Bool.false_eq_true, if_false, Option.bind_some, Bool.not_true]
    show Option.bind (some (⟨[]⟩ : latch_Latches)) _ = _
    have h0 := one_loop a0 a1 (by omega) a0.length (a0.length + 21) 0 0 false [] (by omega) (by omega) (by simp) rfl (by simp)
    rw [show ((0 : Nat) : Int) = (0 : Int) from rfl] at h0
    simp only [Option.bind_some, h0, Sum.elim_inr]
  · refine ⟨20, ?_⟩
    have e1 : (a0.length : Int) > 300 := by omega
    unfold ferrymanlaw05_LatchOne
    rw [awake_up (by omega)]
    simp [e1]
end Go.Proofs.Ytgnbccjpgoeplaa
