/-  The plain law LatchSums. -/
import Derived.Test.YtgnbccjpgoeplaaPureBase
import Derived.Test.YtgnbccjpgoeplaaGl1LLatchSums
namespace Go.Proofs.Ytgnbccjpgoeplaa
open Go Go.RowKit
set_option linter.unusedVariables false
set_option linter.unusedSimpArgs false
theorem wrN (n : Nat) (h : n ≤ 100000) : IntKind.i64.wrap ((n : Int) + 1) = ((n + 1 : Nat) : Int) := by rw [wr (by omega) (by omega)]; rfl
theorem known_loop (a : List ferrymanlaw05_Step) (ha : a.length ≤ 1000) (i : Nat) (hi : i < a.length) (l : Lt) : ∀ (n k j : Nat) (b : Bool), j + n = i → n < k →
    ferrymanlaw05_LatchSums_l7 a (i : Int) k b (j : Int) l = some (b || ((a.take i).drop j).any (fun s => s.Task == a[i].Task), l) := by
  intro n
  induction n with
  | zero =>
    intro k j b hj hk
    obtain ⟨k, rfl⟩ : ∃ q, k = q + 1 := ⟨k - 1, by omega⟩
    have : (a.take i).drop j = [] := List.drop_of_length_le (by simp; omega)
    rw [ferrymanlaw05_LatchSums_l7.eq_2, if_neg (by simp; omega), this]; simp
  | succ n ih =>
    intro k j b hj hk
    obtain ⟨k, rfl⟩ : ∃ q, k = q + 1 := ⟨k - 1, by omega⟩
    have hjl : j < a.length := by omega
    have hr : 0 ≤ (j : Int) ∧ (j : Int) < (a.length : Int) := by omega
    have hr2 : 0 ≤ (i : Int) ∧ (i : Int) < (a.length : Int) := by omega
    have hlt : j < (a.take i).length := by simp; omega
    have hg : (a.take i)[j] = a[j] := by simp
    rw [ferrymanlaw05_LatchSums_l7.eq_2, if_pos (by simp; omega), List.drop_eq_getElem_cons hlt, List.any_cons, hg]
    simp only [if_pos hr, if_pos hr2, rd_get hjl, rd_get hi, wrN j (by omega)]
    cases b with
    | true => simp only [if_true, Option.bind_some]; rw [ih k (j + 1) true (by omega) (by omega)]; simp
    | false => simp only [Bool.false_eq_true, if_false, Option.bind_some]; rw [ih k (j + 1) _ (by omega) (by omega)]; simp
theorem own_loop (a : List ferrymanlaw05_Step) (i : Nat) (hi : i < a.length) (own : List latch_Name) (ho : own.length ≤ 1000) (l : Lt) (h : ∀ x ∈ own, mget l x = some a[i].Task) : ∀ (n k j : Nat), j + n = own.length → n < k →
    ferrymanlaw05_LatchSums_l8 a (i : Int) own k (j : Int) l = some (.inr l) := by
  intro n
  induction n with
  | zero =>
    intro k j hj hk
    obtain ⟨k, rfl⟩ : ∃ q, k = q + 1 := ⟨k - 1, by omega⟩
    rw [ferrymanlaw05_LatchSums_l8.eq_2, if_neg (by simp; omega)]
  | succ n ih =>
    intro k j hj hk
    obtain ⟨k, rfl⟩ : ∃ q, k = q + 1 := ⟨k - 1, by omega⟩
    have hjl : j < own.length := by omega
    have hr : 0 ≤ (j : Int) ∧ (j : Int) < (own.length : Int) := by omega
    have hr2 : 0 ≤ (i : Int) ∧ (i : Int) < (a.length : Int) := by omega
    rw [ferrymanlaw05_LatchSums_l8.eq_2, if_pos (by simp; omega)]
    simp only [if_pos hr, if_pos hr2, rd_get hjl, rd_get hi, wrN j (by omega), Owner_eq, Option.bind_some, h _ (List.getElem_mem hjl)]
    simp only [Option.isSome_some, Bool.not_true, Bool.false_eq_true, if_false, Option.getD_some, bne_self_eq_false, Option.bind_some]
    exact ih k (j + 1) (by omega) (by omega)
theorem countP_or {α : Type} (p q : α → Bool) : ∀ l : List α, (∀ x ∈ l, ¬ (p x = true ∧ q x = true)) → l.countP (fun x => p x || q x) = l.countP p + l.countP q
  | [], _ => rfl
  | x :: l, h => by
    have h1 := countP_or p q l (fun y hy => h y (List.mem_cons_of_mem _ hy))
    have h2 := h x List.mem_cons_self
    simp only [List.countP_cons, h1]
    cases hp : p x <;> cases hq : q x <;> simp_all <;> omega
def heldF (l : Lt) (t : Int) : List latch_Name := isort ltName (l.filterMap fun p : latch_Name × Int => if p.2 == t then some p.1 else none)
theorem Held_eq (k : Nat) {l : Lt} (hn : (l.map (·.1)).Nodup) (hl : l.length ≤ 1000) (t : Int) : latch_Latches_Held_PO k ⟨l⟩ t = some (heldF l t) := by
  unfold latch_Latches_Held_PO
  rw [if_pos ⟨hn, by show l.length ≤ _; omega⟩]; rfl
theorem held_mem {l : Lt} (hn : (l.map (·.1)).Nodup) {t : Int} {x : latch_Name} (h : x ∈ heldF l t) : mget l x = some t := by
  unfold heldF at h
  rw [(isort_perm _).mem_iff, List.mem_filterMap] at h
  obtain ⟨p, hp, he⟩ := h
  by_cases c : p.2 = t
  · have hx : p.1 = x := by simpa [c] using he
    have := mem_mget hn hp
    rw [hx, c] at this; exact this
  · simp [c] at he
theorem held_length (l : Lt) (t : Int) : (heldF l t).length = l.countP (fun p => t == p.2) := by
  unfold heldF
  rw [(isort_perm _).length_eq]
  induction l with
  | nil => rfl
  | cons p l ih =>
    rw [List.filterMap_cons, List.countP_cons]
    by_cases c : p.2 = t
    · have e1 : (p.2 == t) = true := by simp [c]
      have e2 : (t == p.2) = true := by simp [c]
      simp only [e1, e2, if_true, List.length_cons, ih]
    · have e1 : (p.2 == t) = false := by simp [c]
      have e2 : (t == p.2) = false := by simp; exact fun e => c e.symm
      simp only [e1, e2, Bool.false_eq_true, if_false, ih, Nat.add_zero]
theorem sums_loop (a : List ferrymanlaw05_Step) (ha : a.length ≤ 300) {l : Lt} (hn : (l.map (·.1)).Nodup) (hl : l.length ≤ 300) : ∀ (n k i : Nat), i + n = a.length → n + 1000 < k →
    ferrymanlaw05_LatchSums_l4 a k (((l.countP fun p => (a.take i).any fun s => s.Task == p.2 : Nat)) : Int) (i : Int) l = some (.inr (((l.countP fun p => a.any fun s => s.Task == p.2 : Nat) : Int), l)) := by
  intro n
  induction n with
  | zero =>
    intro k i hi hk
    obtain ⟨k, rfl⟩ : ∃ q, k = q + 1 := ⟨k - 1, by omega⟩
    rw [ferrymanlaw05_LatchSums_l4.eq_2, if_neg (by simp; omega), List.take_of_length_le (by omega)]
  | succ n ih =>
    intro k i hi hk
    obtain ⟨k, rfl⟩ : ∃ q, k = q + 1 := ⟨k - 1, by omega⟩
    have hlt : i < a.length := by omega
    have hr : 0 ≤ (i : Int) ∧ (i : Int) < (a.length : Int) := by omega
    have h7 := known_loop a (by omega) i hlt l i k 0 false (by omega) (by omega)
    rw [show ((0 : Nat) : Int) = (0 : Int) from rfl, List.drop_zero, Bool.false_or] at h7
    rw [ferrymanlaw05_LatchSums_l4.eq_2, if_pos (by simp; omega), h7]
    simp only [Option.bind_some, if_pos hr, rd_get hlt, wrN i (by omega), Held_eq k hn (by omega)]
    have htake : a.take (i + 1) = a.take i ++ [a[i]] := by rw [List.take_add_one, List.getElem?_eq_getElem hlt]; rfl
    cases hk7 : (a.take i).any fun s => s.Task == a[i].Task with
    | true =>
      simp only [if_true]
      have hc : (l.countP fun p => (a.take (i + 1)).any fun s => s.Task == p.2) = l.countP fun p => (a.take i).any fun s => s.Task == p.2 := by
        apply List.countP_congr
        intro p hp
        obtain ⟨s, hs, he⟩ := List.any_eq_true.1 hk7
        simp only [htake, List.any_append, List.any_cons, List.any_nil, Bool.or_false, Bool.or_eq_true]
        constructor
        · rintro (h | h)
          · exact h
          · refine List.any_eq_true.2 ⟨s, hs, ?_⟩
            have e1 : s.Task = a[i].Task := by simpa using he
            have e2 : a[i].Task = p.2 := by simpa using h
            simp [e1, e2]
        · intro h; exact .inl h
      rw [← hc]
      exact ih k (i + 1) (by omega) (by omega)
    | false =>
      simp only [Bool.false_eq_true, if_false, Option.bind_some]
      have h8 := own_loop a i hlt (heldF l a[i].Task) (by rw [held_length]; have := List.countP_le_length (l := l) (p := fun p => a[i].Task == p.2); omega) l (fun x hx => held_mem hn hx) (heldF l a[i].Task).length k 0 (by omega) (by rw [held_length]; have := List.countP_le_length (l := l) (p := fun p => a[i].Task == p.2); omega)
      rw [show ((0 : Nat) : Int) = (0 : Int) from rfl] at h8
      rw [h8]
      simp only [Option.bind_some, Sum.elim_inr]
      have hor := countP_or (fun p : latch_Name × Int => (a.take i).any fun s => s.Task == p.2) (fun p => a[i].Task == p.2) l (fun p hp ⟨h1, h2⟩ => by
        obtain ⟨s, hs, he⟩ := List.any_eq_true.1 h1
        have e1 : s.Task = p.2 := by simpa using he
        have e2 : a[i].Task = p.2 := by simpa using h2
        have := (List.any_eq_true (p := fun s : ferrymanlaw05_Step => s.Task == a[i].Task)).2 ⟨s, hs, by simp [e1, e2]⟩
        rw [hk7] at this; cases this)
      have hsum : l.countP (fun p => (a.take (i + 1)).any fun s => s.Task == p.2) = l.countP (fun p => (a.take i).any fun s => s.Task == p.2) + (heldF l a[i].Task).length := by
        rw [held_length, ← hor]
        apply List.countP_congr
        intro p hp
        simp only [htake, List.any_append, List.any_cons, List.any_nil, Bool.or_false]
      have hw : IntKind.i64.wrap (((l.countP fun p => (a.take i).any fun s => s.Task == p.2 : Nat) : Int) + ((heldF l a[i].Task).length : Int)) = ((l.countP fun p => (a.take (i + 1)).any fun s => s.Task == p.2 : Nat) : Int) := by
        have h1 := List.countP_le_length (l := l) (p := fun p => (a.take (i + 1)).any fun s => s.Task == p.2)
        rw [hsum] at h1 ⊢
        rw [wr (by omega) (by omega)]
        omega
      rw [hw]
      exact ih k (i + 1) (by omega) (by omega)
theorem fold_tasks (P : Int → Prop) : ∀ (a : List ferrymanlaw05_Step) {l : Lt}, (l.map (·.1)).Nodup → (∀ p ∈ l, P p.2) → (∀ s ∈ a, P s.Task) → ∀ p ∈ a.foldl stepF l, P p.2
  | [], _, _, h, _ => h
  | s :: a, l, hn, h, hs => by
    refine fold_tasks P a (step_nodup hn) (fun p hp => ?_) (fun x hx => hs x (List.mem_cons_of_mem _ hx))
    unfold stepF at hp
    split at hp
    · unfold dropF at hp
      split at hp
      · exact h p ((mdel_mem hn p).1 hp).1
      · exact h p hp
    · unfold tryF at hp
      split at hp
      · exact h p hp
      · rcases (mput_mem hn p).1 hp with rfl | ⟨h', _⟩
        · exact hs s List.mem_cons_self
        · exact h p h'
theorem pure_LatchSums (a0 : (List ferrymanlaw05_Step)) (_ : (wfSl wf_ferrymanlaw05_Step) a0) : ∃ k, ferrymanlaw05_LatchSums k a0 = some true := by
  by_cases hl : a0.length ≤ 300
  · refine ⟨a0.length + 1021, ?_⟩
    have e1 : ¬ ((a0.length : Int) > 300) := by omega
    unfold ferrymanlaw05_LatchSums
    rw [awake_up (by omega), run_eq (by omega) (by omega)]
    simp only [e1, decide_false, Bool.false_eq_true, if_false, Option.bind_some, Bool.not_true]
    have hn := run_nodup a0
    have hln := run_length a0
    have ht : ∀ p ∈ runF a0, ∃ s ∈ a0, s.Task = p.2 := fun p hp => fold_tasks (fun t => ∃ s ∈ a0, s.Task = t) a0 (by simp) (by simp) (fun s hs => ⟨s, hs, rfl⟩) p hp
    generalize runF a0 = l at hn hln ht
    have h0 := sums_loop a0 hl hn (by omega) a0.length (a0.length + 1021) 0 (by omega) (by omega)
    rw [show ((0 : Nat) : Int) = (0 : Int) from rfl] at h0
    have hz : (l.countP fun p => (a0.take 0).any fun s => s.Task == p.2) = 0 := by simp
    rw [hz] at h0
    rw [show ((0 : Nat) : Int) = (0 : Int) from rfl] at h0
    rw [h0]
    have hall : (l.countP fun p => a0.any fun s => s.Task == p.2) = l.length := by
      rw [List.countP_eq_length]
      intro p hp
      obtain ⟨s, hs, he⟩ := ht p hp
      exact List.any_eq_true.2 ⟨s, hs, by simp [he]⟩
    simp [latch_Latches_All_PO, hall]
  · refine ⟨20, ?_⟩
    have e1 : (a0.length : Int) > 300 := by omega
    unfold ferrymanlaw05_LatchSums
    rw [awake_up (by omega)]
    simp [e1]
end Go.Proofs.Ytgnbccjpgoeplaa
