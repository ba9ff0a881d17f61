/-  The plain law LatchPlays. -/
import Derived.Test.YtgnbccjpgoeplaaPureLatchSums
import Derived.Test.YtgnbccjpgoeplaaGl1LLatchPlays
namespace Go.Proofs.Ytgnbccjpgoeplaa
open Go Go.RowKit
set_option linter.unusedVariables false
set_option linter.unusedSimpArgs false
def toN (n : latch_Name) : ferrymanref05_Name := ⟨n.Kind, n.ID⟩
def toH (p : latch_Name × Int) : ferrymanref05_Hold := ⟨toN p.1, p.2⟩
def lessR (a b : ferrymanref05_Name) : Bool := (decide (a.Kind < b.Kind)) || ((a.Kind == b.Kind) && (decide (a.ID < b.ID)))
theorem lessR_iff (a b : ferrymanref05_Name) : lessR a b = true ↔ a.Kind < b.Kind ∨ a.Kind = b.Kind ∧ a.ID < b.ID := by simp [lessR]
theorem toN_inj {x y : latch_Name} (h : toN x = toN y) : x = y := by
  cases x; cases y; simp [toN] at h; simp [h]
theorem lessR_toN (x y : latch_Name) : lessR (toN x) (toN y) = ltName x y := by
  rw [Bool.eq_iff_iff, lessR_iff, ltName_iff]; rfl
theorem lessR_total {a b : ferrymanref05_Name} (h1 : lessR a b = false) (h2 : lessR b a = false) : a = b := by
  have h1' : ¬ (a.Kind < b.Kind ∨ a.Kind = b.Kind ∧ a.ID < b.ID) := by rw [← lessR_iff, h1]; simp
  have h2' : ¬ (b.Kind < a.Kind ∨ b.Kind = a.Kind ∧ b.ID < a.ID) := by rw [← lessR_iff, h2]; simp
  cases a; cases b
  simp only [ferrymanref05_Name.mk.injEq] at *
  omega
theorem lessR_asymm {a b : ferrymanref05_Name} (h : lessR a b = true) : lessR b a = false := by
  rw [← Bool.not_eq_true, lessR_iff]
  rw [lessR_iff] at h
  omega
theorem lessR_trans {a b c : ferrymanref05_Name} (h : lessR a b = true) (k : lessR b c = true) : lessR a c = true := by
  rw [lessR_iff] at *
  omega
structure Rel (l : Lt) (L : List ferrymanref05_Hold) : Prop where
  nd : (l.map (·.1)).Nodup
  perm : L.Perm (l.map toH)
  sorted : L.Pairwise fun a b => lessR a.N b.N = true
theorem Rel.len {l : Lt} {L : List ferrymanref05_Hold} (R : Rel l L) : L.length = l.length := by simpa using R.perm.length_eq
theorem Rel.mem {l : Lt} {L : List ferrymanref05_Hold} (R : Rel l L) (n : latch_Name) (t : Int) : (⟨toN n, t⟩ : ferrymanref05_Hold) ∈ L ↔ mget l n = some t := by
  rw [R.perm.mem_iff, List.mem_map]
  constructor
  · rintro ⟨p, hp, he⟩
    simp only [toH, ferrymanref05_Hold.mk.injEq] at he
    have := mem_mget R.nd hp
    rw [toN_inj he.1, he.2] at this; exact this
  · intro h; exact ⟨(n, t), mget_mem h, rfl⟩
theorem Rel.all {l : Lt} {L : List ferrymanref05_Hold} (R : Rel l L) {h : ferrymanref05_Hold} (hh : h ∈ L) : ∃ n, h.N = toN n ∧ mget l n = some h.Task := by
  rw [R.perm.mem_iff, List.mem_map] at hh
  obtain ⟨p, hp, rfl⟩ := hh
  exact ⟨p.1, rfl, mem_mget R.nd hp⟩
theorem eqR (x y : ferrymanref05_Name) : ((x.Kind == y.Kind) && (x.ID == y.ID)) = true ↔ x = y := by
  cases x; cases y; simp
/-- Owner. -/
theorem owner_loop (L : List ferrymanref05_Hold) (n : ferrymanref05_Name) (hL : L.length ≤ 1000) : ∀ (q k i : Nat), i + q = L.length → q < k →
    ferrymanref05_Latches_Owner_PO_l0 ⟨L⟩ n k (i : Int) = some (match (L.drop i).find? (fun h => (h.N.Kind == n.Kind) && (h.N.ID == n.ID)) with | some h => .inl (h.Task, true) | none => .inr ()) := by
  intro q
  induction q with
  | zero =>
    intro k i hi hk
    obtain ⟨k, rfl⟩ : ∃ q, k = q + 1 := ⟨k - 1, by omega⟩
    rw [ferrymanref05_Latches_Owner_PO_l0.eq_2, if_neg (by simp only [decide_eq_true_eq]; omega), List.drop_of_length_le (by omega)]; rfl
  | succ q ih =>
    intro k i hi hk
    obtain ⟨k, rfl⟩ : ∃ q, k = q + 1 := ⟨k - 1, by omega⟩
    have hlt : i < L.length := by omega
    have hr : 0 ≤ (i : Int) ∧ (i : Int) < (L.length : Int) := by omega
    rw [ferrymanref05_Latches_Owner_PO_l0.eq_2, if_pos (by simp only [decide_eq_true_eq]; exact hr.2), List.drop_eq_getElem_cons hlt, List.find?_cons]
    simp only [if_pos hr, rd_get hlt, wrN i (by omega)]
    cases hc : ((L[i].N.Kind == n.Kind) && (L[i].N.ID == n.ID)) with
    | true => simp
    | false => simp only [Bool.false_eq_true, if_false]; exact ih k (i + 1) (by omega) (by omega)
theorem rOwner_eq {l : Lt} {L : List ferrymanref05_Hold} (R : Rel l L) (hL : L.length ≤ 1000) {k : Nat} (hk : 1000 < k) (n : latch_Name) : ferrymanref05_Latches_Owner_PO k ⟨L⟩ (toN n) = some ((mget l n).getD 0, (mget l n).isSome) := by
  unfold ferrymanref05_Latches_Owner_PO
  have h0 := owner_loop L (toN n) hL L.length k 0 (by omega) (by omega)
  rw [show ((0 : Nat) : Int) = (0 : Int) from rfl, List.drop_zero] at h0
  rw [h0, Option.bind_some]
  cases hf : L.find? (fun h => (h.N.Kind == (toN n).Kind) && (h.N.ID == (toN n).ID)) with
  | none =>
    have : mget l n = none := by
      cases hm : mget l n with
      | none => rfl
      | some t =>
        have h1 := (R.mem n t).2 hm
        have h2 := List.find?_eq_none.1 hf _ h1
        simp at h2
    rw [this]; rfl
  | some h =>
    have h1 := List.find?_some hf
    have h2 := List.mem_of_find?_eq_some hf
    have h3 : h.N = toN n := (eqR _ _).1 h1
    have : mget l n = some h.Task := (R.mem n h.Task).1 (by rw [← h3]; exact h2)
    rw [this]; rfl
/-- Drop. -/
theorem drop_loop (L : List ferrymanref05_Hold) (n : ferrymanref05_Name) (hL : L.length ≤ 1000) : ∀ (q k i : Nat) (o : List ferrymanref05_Hold), i + q = L.length → q < k → o.length ≤ i →
    ferrymanref05_Latches_Drop_PO_l0 ⟨L⟩ n k o (i : Int) = some (o ++ (L.drop i).filter (fun h => !((h.N.Kind == n.Kind) && (h.N.ID == n.ID)))) := by
  intro q
  induction q with
  | zero =>
    intro k i o hi hk ho
    obtain ⟨k, rfl⟩ : ∃ q, k = q + 1 := ⟨k - 1, by omega⟩
    rw [ferrymanref05_Latches_Drop_PO_l0.eq_2, if_neg (by simp only [decide_eq_true_eq]; omega), List.drop_of_length_le (by omega)]; simp
  | succ q ih =>
    intro k i o hi hk ho
    obtain ⟨k, rfl⟩ : ∃ q, k = q + 1 := ⟨k - 1, by omega⟩
    have hlt : i < L.length := by omega
    have hr : 0 ≤ (i : Int) ∧ (i : Int) < (L.length : Int) := by omega
    rw [ferrymanref05_Latches_Drop_PO_l0.eq_2, if_pos (by simp only [decide_eq_true_eq]; exact hr.2), List.drop_eq_getElem_cons hlt, List.filter_cons]
    simp only [if_pos hr, rd_get hlt, wrN i (by omega)]
    cases hc : ((L[i].N.Kind == n.Kind) && (L[i].N.ID == n.ID)) with
    | true => simp only [Bool.not_true, Bool.false_eq_true, if_false, Option.bind_some]; exact ih k (i + 1) o (by omega) (by omega) (by omega)
    | false =>
      simp only [Bool.not_false, if_true, Option.bind_some]
      rw [if_pos (by simp; omega), Option.bind_some, Option.bind_some, ih k (i + 1) _ (by omega) (by omega) (by simp; omega), List.append_assoc]; rfl
theorem mdel_filter {l : Lt} (hn : (l.map (·.1)).Nodup) (n : latch_Name) : mdel l n = l.filter (fun p => decide (p.1 ≠ n)) := by
  induction l with
  | nil => rfl
  | cons p l ih =>
    obtain ⟨a, u⟩ := p
    simp only [List.map_cons, List.nodup_cons] at hn
    rw [mdel_cons, List.filter_cons]
    by_cases h : a = n
    · subst h
      simp only [if_true, ne_eq, not_true, decide_false, Bool.false_eq_true, if_false]
      symm
      rw [List.filter_eq_self]
      intro q hq
      have : q.1 ≠ a := fun e => hn.1 (e ▸ List.mem_map_of_mem hq)
      simpa using this
    · rw [if_neg h, if_pos (by simpa using h), ih hn.2]
theorem rDrop_eq {l : Lt} {L : List ferrymanref05_Hold} (R : Rel l L) (hL : L.length ≤ 1000) {k : Nat} (hk : 1000 < k) (n : latch_Name) (t : Int) : ∃ L', ferrymanref05_Latches_Drop_PO k ⟨L⟩ (toN n) t = some ((dropF l n t).1, ⟨L'⟩) ∧ Rel (dropF l n t).2 L' := by
  unfold ferrymanref05_Latches_Drop_PO
  rw [rOwner_eq R hL hk, Option.bind_some]
  by_cases h : mget l n = some t
  · have e1 : dropF l n t = (true, mdel l n) := by unfold dropF; rw [if_pos h]
    have h0 := drop_loop L (toN n) hL L.length k 0 [] (by omega) (by omega) (by simp)
    rw [show ((0 : Nat) : Int) = (0 : Int) from rfl, List.drop_zero, List.nil_append] at h0
    refine ⟨L.filter (fun h => !((h.N.Kind == (toN n).Kind) && (h.N.ID == (toN n).ID))), ?_, ?_⟩
    · rw [h, e1, h0]; simp
    · rw [e1]
      refine ⟨mdel_nodup R.nd, ?_, R.sorted.filter _⟩
      rw [mdel_filter R.nd]
      refine (R.perm.filter _).trans ?_
      rw [List.filter_map]
      apply List.Perm.of_eq
      congr 1
      apply List.filter_congr
      intro p hp
      have := eqN p.1 n
      simp only [Function.comp, toH, toN]
      rw [this]
      by_cases c : p.1 = n <;> simp [c]
  · have e1 : dropF l n t = (false, l) := by unfold dropF; rw [if_neg h]
    refine ⟨L, ?_, by rw [e1]; exact R⟩
    rw [e1]
    cases hm : mget l n with
    | none => simp
    | some u =>
      have : u ≠ t := fun e => h (by rw [hm, e])
      simp [this]
/-- Try. -/
theorem at_loop (L : List ferrymanref05_Hold) (n : ferrymanref05_Name) (hL : L.length ≤ 1000) : ∀ (q k i : Nat), i + q = L.length → q < k →
    ferrymanref05_Latches_Try_PO_l0 ⟨L⟩ n k (i : Int) = some (((i + ((L.drop i).takeWhile fun h => lessR h.N n).length : Nat)) : Int) := by
  intro q
  induction q with
  | zero =>
    intro k i hi hk
    obtain ⟨k, rfl⟩ : ∃ q, k = q + 1 := ⟨k - 1, by omega⟩
    have e1 : ¬ ((i : Int) < (L.length : Int)) := by omega
    rw [ferrymanref05_Latches_Try_PO_l0.eq_2, List.drop_of_length_le (by omega)]
    simp [e1]
  | succ q ih =>
    intro k i hi hk
    obtain ⟨k, rfl⟩ : ∃ q, k = q + 1 := ⟨k - 1, by omega⟩
    have hlt : i < L.length := by omega
    have hr : 0 ≤ (i : Int) ∧ (i : Int) < (L.length : Int) := by omega
    have hl : ferrymanref05_less k L[i].N n = some (lessR L[i].N n) := rfl
    rw [ferrymanref05_Latches_Try_PO_l0.eq_2, List.drop_eq_getElem_cons hlt, List.takeWhile_cons]
    simp only [hr.2, decide_true, if_true, if_pos hr, rd_get hlt, wrN i (by omega), hl, Option.bind_some]
    cases hc : lessR L[i].N n with
    | true =>
      simp only [if_true, Option.bind_some]
      rw [ih k (i + 1) (by omega) (by omega)]
      have e : ∀ z : Nat, i + 1 + z = i + (z + 1) := fun z => by omega
      rw [e]; rfl
    | false => simp
theorem ins_sorted {n : ferrymanref05_Name} {t : Int} : ∀ {L : List ferrymanref05_Hold}, L.Pairwise (fun a b => lessR a.N b.N = true) → (∀ h ∈ L, h.N ≠ n) →
    (L.takeWhile (fun h => lessR h.N n) ++ ⟨n, t⟩ :: L.dropWhile fun h => lessR h.N n).Pairwise (fun a b => lessR a.N b.N = true)
  | [], _, _ => by simp
  | a :: L, hs, hne => by
    have hs' := List.pairwise_cons.1 hs
    rw [List.takeWhile_cons, List.dropWhile_cons]
    cases hc : lessR a.N n with
    | true =>
      simp only [if_true, List.cons_append]
      refine List.pairwise_cons.2 ⟨fun b hb => ?_, ins_sorted hs'.2 fun h hh => hne h (List.mem_cons_of_mem _ hh)⟩
      rcases List.mem_append.1 hb with hb | hb
      · exact hs'.1 b ((List.takeWhile_sublist _).subset hb)
      · rcases List.mem_cons.1 hb with rfl | hb
        · exact hc
        · exact hs'.1 b ((List.dropWhile_sublist _).subset hb)
    | false =>
      simp only [Bool.false_eq_true, if_false, List.nil_append]
      have hna : lessR n a.N = true := by
        cases hx : lessR n a.N with
        | true => rfl
        | false => exact absurd (lessR_total hc hx) (hne a List.mem_cons_self)
      refine List.pairwise_cons.2 ⟨fun b hb => ?_, hs⟩
      rcases List.mem_cons.1 hb with rfl | hb
      · exact hna
      · exact lessR_trans hna (hs'.1 b hb)
theorem mput_same {l : Lt} {n : latch_Name} {t : Int} (h : mget l n = some t) : mput l n t = l := by
  induction l with
  | nil => simp at h
  | cons p l ih =>
    obtain ⟨a, u⟩ := p
    rw [mget_cons] at h
    rw [mput_cons]
    by_cases c : a = n
    · subst c; rw [if_pos rfl] at h ⊢; cases h; rfl
    · rw [if_neg c] at h ⊢; rw [ih h]
theorem mput_new {l : Lt} {n : latch_Name} {t : Int} (h : mget l n = none) : mput l n t = l ++ [(n, t)] := by
  induction l with
  | nil => rfl
  | cons p l ih =>
    obtain ⟨a, u⟩ := p
    rw [mget_cons] at h
    rw [mput_cons]
    by_cases c : a = n
    · rw [if_pos c] at h; cases h
    · rw [if_neg c] at h ⊢; rw [ih h]; rfl
theorem take_tw {α : Type} (p : α → Bool) : ∀ L : List α, L.take (L.takeWhile p).length = L.takeWhile p
  | [] => rfl
  | a :: L => by
    rw [List.takeWhile_cons]
    cases h : p a with
    | true => simp [take_tw p L]
    | false => simp
theorem drop_tw {α : Type} (p : α → Bool) : ∀ L : List α, L.drop (L.takeWhile p).length = L.dropWhile p
  | [] => rfl
  | a :: L => by
    rw [List.takeWhile_cons, List.dropWhile_cons]
    cases h : p a with
    | true => simp [drop_tw p L]
    | false => simp
theorem rTry_eq {l : Lt} {L : List ferrymanref05_Hold} (R : Rel l L) (hL : L.length ≤ 999) {k : Nat} (hk : 1000 < k) (n : latch_Name) (t : Int) : ∃ L', ferrymanref05_Latches_Try_PO k ⟨L⟩ (toN n) t = some ((tryF l n t).1, ⟨L'⟩) ∧ Rel (tryF l n t).2 L' := by
  unfold ferrymanref05_Latches_Try_PO
  rw [rOwner_eq R (by omega) hk, Option.bind_some]
  cases hm : mget l n with
  | some u =>
    refine ⟨L, ?_, ?_⟩
    · by_cases c : u = t
      · simp [tryF, hm, c]
      · simp [tryF, hm, c]
    · by_cases c : u = t
      · subst c
        have : (tryF l n u).2 = l := by simp [tryF, hm, mput_same hm]
        rw [this]; exact R
      · have : (tryF l n t).2 = l := by simp [tryF, hm, c]
        rw [this]; exact R
  | none =>
    have h0 := at_loop L (toN n) (by omega) L.length k 0 (by omega) (by omega)
    rw [show ((0 : Nat) : Int) = (0 : Int) from rfl, List.drop_zero, Nat.zero_add] at h0
    have hle : (L.takeWhile fun h => lessR h.N (toN n)).length ≤ L.length := (List.takeWhile_sublist _).length_le
    have ht := take_tw (fun h : ferrymanref05_Hold => lessR h.N (toN n)) L
    have hd := drop_tw (fun h : ferrymanref05_Hold => lessR h.N (toN n)) L
    refine ⟨L.takeWhile (fun h => lessR h.N (toN n)) ++ ⟨toN n, t⟩ :: L.dropWhile fun h => lessR h.N (toN n), ?_, ?_⟩
    · have e2 : (tryF l n t).1 = true := by simp [tryF, hm]
      have hdl : (L.dropWhile fun h => lessR h.N (toN n)).length ≤ L.length := (List.dropWhile_sublist _).length_le
      rw [e2, h0]
      simp only [Option.isSome_none, Bool.false_eq_true, if_false, Option.bind_some, Int.toNat_natCast, ht, hd, List.nil_append]
      have hr : (0 : Int) ≤ ((L.takeWhile fun h => lessR h.N (toN n)).length : Int) ∧ ((L.takeWhile fun h => lessR h.N (toN n)).length : Int) ≤ (L.length : Int) := by omega
      rw [if_pos hr, if_pos (by simp only [List.length_nil]; omega), if_pos hr, if_pos (by simp only [List.length_nil]; omega), Option.bind_some, if_pos (by simp only [List.length_cons, List.length_nil]; omega), if_pos (by simp only [List.length_append, List.length_cons, List.length_nil]; omega)]
      simp [toN]
    · have e2 : (tryF l n t).2 = l ++ [(n, t)] := by simp [tryF, hm, mput_new hm]
      rw [e2]
      refine ⟨?_, ?_, ins_sorted R.sorted fun h hh e => ?_⟩
      · rw [← mput_new hm]; exact mput_nodup R.nd
      · have p1 : (L.takeWhile (fun h => lessR h.N (toN n)) ++ ⟨toN n, t⟩ :: L.dropWhile fun h => lessR h.N (toN n)).Perm (⟨toN n, t⟩ :: L) := by
          refine List.perm_middle.trans ?_
          rw [List.takeWhile_append_dropWhile]
        refine p1.trans ((R.perm.cons _).trans ?_)
        rw [List.map_append]
        exact (List.perm_append_singleton _ _).symm
      · obtain ⟨m, h1, h2⟩ := R.all hh
        rw [e] at h1
        rw [← toN_inj h1, hm] at h2; cases h2
/-- Held. -/
theorem rheld_loop (L : List ferrymanref05_Hold) (t : Int) (hL : L.length ≤ 1000) : ∀ (q k i : Nat) (o : List ferrymanref05_Name), i + q = L.length → q < k → o.length ≤ i →
    ferrymanref05_Latches_Held_PO_l0 ⟨L⟩ t k o (i : Int) = some (o ++ ((L.drop i).filter (fun h => h.Task == t)).map (·.N)) := by
  intro q
  induction q with
  | zero =>
    intro k i o hi hk ho
    obtain ⟨k, rfl⟩ : ∃ q, k = q + 1 := ⟨k - 1, by omega⟩
    rw [ferrymanref05_Latches_Held_PO_l0.eq_2, if_neg (by simp only [decide_eq_true_eq]; omega), List.drop_of_length_le (by omega)]; simp
  | succ q ih =>
    intro k i o hi hk ho
    obtain ⟨k, rfl⟩ : ∃ q, k = q + 1 := ⟨k - 1, by omega⟩
    have hlt : i < L.length := by omega
    have hr : 0 ≤ (i : Int) ∧ (i : Int) < (L.length : Int) := by omega
    rw [ferrymanref05_Latches_Held_PO_l0.eq_2, if_pos (by simp only [decide_eq_true_eq]; exact hr.2), List.drop_eq_getElem_cons hlt, List.filter_cons]
    simp only [if_pos hr, rd_get hlt, wrN i (by omega)]
    cases hc : (L[i].Task == t) with
    | false => simp only [Bool.false_eq_true, if_false, Option.bind_some]; exact ih k (i + 1) o (by omega) (by omega) (by omega)
    | true =>
      simp only [if_true, Option.bind_some]
      rw [if_pos (by simp; omega), Option.bind_some, Option.bind_some, ih k (i + 1) _ (by omega) (by omega) (by simp; omega), List.append_assoc]; rfl
theorem rHeld_eq {l : Lt} {L : List ferrymanref05_Hold} (R : Rel l L) (hL : L.length ≤ 1000) {k : Nat} (hk : 1000 < k) (t : Int) : ferrymanref05_Latches_Held_PO k ⟨L⟩ t = some ((heldF l t).map toN) := by
  unfold ferrymanref05_Latches_Held_PO
  have h0 := rheld_loop L t hL L.length k 0 [] (by omega) (by omega) (by simp)
  rw [show ((0 : Nat) : Int) = (0 : Int) from rfl, List.drop_zero, List.nil_append] at h0
  rw [h0, Option.bind_some]
  congr 1
  refine sorted_eq (lt := lessR) (fun x y h1 h2 => lessR_total h1 h2) ?_ ?_ ?_
  · refine ((R.perm.filter _).map _).trans ?_
    unfold heldF
    refine List.Perm.trans ?_ ((isort_perm _).symm.map _)
    rw [List.filter_map, List.map_map]
    apply List.Perm.of_eq
    clear R h0
    induction l with
    | nil => rfl
    | cons p l ih =>
      rw [List.filter_cons, List.filterMap_cons]
      by_cases c : p.2 = t
      · have e1 : ((fun h : ferrymanref05_Hold => h.Task == t) ∘ toH) p = true := by simp [toH, c]
        have e2 : (p.2 == t) = true := by simp [c]
        rw [e1, e2, if_pos rfl, if_pos rfl, List.map_cons, List.map_cons, ih]; rfl
      · have e1 : ((fun h : ferrymanref05_Hold => h.Task == t) ∘ toH) p = false := by simp [toH, c]
        have e2 : (p.2 == t) = false := by simp [c]
        rw [e1, e2]
        exact ih
  · rw [List.pairwise_map]
    refine (R.sorted.filter _).imp fun h => ?_
    rw [lessR_asymm h]; rfl
  · rw [List.pairwise_map]
    unfold heldF
    refine (isort_sorted cfName_swo _).imp fun h => ?_
    rw [lessR_toN]; exact h
theorem names_loop (a : List latch_Name) (ha : a.length ≤ 1000) : ∀ (q k i : Nat) (o : List ferrymanref05_Name), i + q = a.length → q < k → o.length ≤ i →
    ferrymanlaw05_names_l0 a k o (i : Int) = some (o ++ (a.drop i).map toN) := by
  intro q
  induction q with
  | zero =>
    intro k i o hi hk ho
    obtain ⟨k, rfl⟩ : ∃ q, k = q + 1 := ⟨k - 1, by omega⟩
    rw [ferrymanlaw05_names_l0.eq_2, if_neg (by simp only [decide_eq_true_eq]; omega), List.drop_of_length_le (by omega)]; simp
  | succ q ih =>
    intro k i o hi hk ho
    obtain ⟨k, rfl⟩ : ∃ q, k = q + 1 := ⟨k - 1, by omega⟩
    have hlt : i < a.length := by omega
    have hr : 0 ≤ (i : Int) ∧ (i : Int) < (a.length : Int) := by omega
    rw [ferrymanlaw05_names_l0.eq_2, if_pos (by simp only [decide_eq_true_eq]; exact hr.2), List.drop_eq_getElem_cons hlt, List.map_cons]
    simp only [if_pos hr, rd_get hlt, wrN i (by omega)]
    rw [if_pos (by simp; omega), ih k (i + 1) _ (by omega) (by omega) (by simp; omega), List.append_assoc]; rfl
theorem names_eq {a : List latch_Name} (ha : a.length ≤ 1000) {k : Nat} (hk : 1000 < k) : ferrymanlaw05_names k a = some (a.map toN) := by
  unfold ferrymanlaw05_names
  have h0 := names_loop a ha a.length k 0 [] (by omega) (by omega) (by simp)
  rw [show ((0 : Nat) : Int) = (0 : Int) from rfl, List.drop_zero, List.nil_append] at h0
  rw [h0]; rfl
theorem same_loop (a : List ferrymanref05_Name) (ha : a.length ≤ 1000) : ∀ (q k i : Nat), i + q = a.length → q < k → ferrymanref05_Names_l0 a a k (i : Int) = some (.inr ()) := by
  intro q
  induction q with
  | zero =>
    intro k i hi hk
    obtain ⟨k, rfl⟩ : ∃ q, k = q + 1 := ⟨k - 1, by omega⟩
    rw [ferrymanref05_Names_l0.eq_2, if_neg (by simp only [decide_eq_true_eq]; omega)]
  | succ q ih =>
    intro k i hi hk
    obtain ⟨k, rfl⟩ : ∃ q, k = q + 1 := ⟨k - 1, by omega⟩
    have hr : 0 ≤ (i : Int) ∧ (i : Int) < (a.length : Int) := by omega
    rw [ferrymanref05_Names_l0.eq_2, if_pos (by simp only [decide_eq_true_eq]; exact hr.2)]
    simp only [if_pos hr, wrN i (by omega), beq_self_eq_true, Bool.and_self, Bool.not_true, Bool.false_eq_true, if_false]
    exact ih k (i + 1) (by omega) (by omega)
theorem same_eq {a : List ferrymanref05_Name} (ha : a.length ≤ 1000) {k : Nat} (hk : 1000 < k) : ferrymanref05_Names k a a = some true := by
  unfold ferrymanref05_Names
  have h0 := same_loop a ha a.length k 0 (by omega) (by omega)
  rw [show ((0 : Nat) : Int) = (0 : Int) from rfl] at h0
  simp [h0]
theorem spoil7 (u : Lt) : ∀ (q k i : Nat) (o : List latch_Name), o.length ≤ 1000 → i + q = o.length → q < k → ferrymanlaw05_LatchPlays_l7 u k o (i : Int) = some u := by
  intro q
  induction q with
  | zero =>
    intro k i o ho hi hk
    obtain ⟨k, rfl⟩ : ∃ q, k = q + 1 := ⟨k - 1, by omega⟩
    rw [ferrymanlaw05_LatchPlays_l7.eq_2, if_neg (by simp only [decide_eq_true_eq]; omega)]
  | succ q ih =>
    intro k i o ho hi hk
    obtain ⟨k, rfl⟩ : ∃ q, k = q + 1 := ⟨k - 1, by omega⟩
    have hr : 0 ≤ (i : Int) ∧ (i : Int) < (o.length : Int) := by omega
    rw [ferrymanlaw05_LatchPlays_l7.eq_2, if_pos (by simp only [decide_eq_true_eq]; exact hr.2)]
    simp only [if_pos hr, wrN i (by omega), Option.bind_some]
    exact ih k (i + 1) _ (by simpa using ho) (by simp; omega) (by omega)
theorem spoil8 (u : Lt) : ∀ (q k i : Nat) (o : List latch_Name), o.length ≤ 1000 → i + q = o.length → q < k → ferrymanlaw05_LatchPlays_l8 u k o (i : Int) = some u := by
  intro q
  induction q with
  | zero =>
    intro k i o ho hi hk
    obtain ⟨k, rfl⟩ : ∃ q, k = q + 1 := ⟨k - 1, by omega⟩
    rw [ferrymanlaw05_LatchPlays_l8.eq_2, if_neg (by simp only [decide_eq_true_eq]; omega)]
  | succ q ih =>
    intro k i o ho hi hk
    obtain ⟨k, rfl⟩ : ∃ q, k = q + 1 := ⟨k - 1, by omega⟩
    have hr : 0 ≤ (i : Int) ∧ (i : Int) < (o.length : Int) := by omega
    rw [ferrymanlaw05_LatchPlays_l8.eq_2, if_pos (by simp only [decide_eq_true_eq]; exact hr.2)]
    simp only [if_pos hr, wrN i (by omega), Option.bind_some]
    exact ih k (i + 1) _ (by simpa using ho) (by simp; omega) (by omega)
theorem heldF_le (l : Lt) (t : Int) : (heldF l t).length ≤ l.length := by rw [held_length]; exact List.countP_le_length
theorem rCopy_eq {L : List ferrymanref05_Hold} (hL : L.length ≤ 1000) (k : Nat) : ferrymanref05_Latches_Copy_PO k ⟨L⟩ = some ⟨L⟩ := by
  unfold ferrymanref05_Latches_Copy_PO
  rw [if_pos (by simp; omega)]; rfl
theorem plays_loop (a : List ferrymanlaw05_Step) (ha : a.length ≤ 300) : ∀ (q k i : Nat) (l : Lt) (L : List ferrymanref05_Hold), i + q = a.length → q + 2000 < k → Rel l L → l.length ≤ i →
    ferrymanlaw05_LatchPlays_l4 a k (i : Int) L l = some (.inr ()) := by
  intro q
  induction q with
  | zero =>
    intro k i l L hi hk R hll
    obtain ⟨k, rfl⟩ : ∃ q, k = q + 1 := ⟨k - 1, by omega⟩
    rw [ferrymanlaw05_LatchPlays_l4.eq_2, if_neg (by simp only [decide_eq_true_eq]; omega)]
  | succ q ih =>
    intro k i l L hi hk R hll
    obtain ⟨k, rfl⟩ : ∃ q, k = q + 1 := ⟨k - 1, by omega⟩
    have hlt : i < a.length := by omega
    have h0l : 0 < a.length := by omega
    have hr : 0 ≤ (i : Int) ∧ (i : Int) < (a.length : Int) := by omega
    have hr0 : (0 : Int) ≤ 0 ∧ (0 : Int) < (a.length : Int) := by omega
    have hlen := R.len
    have hrd0 : rd a (0 : Int) = a[0] := rd_get h0l
    have htoN : (⟨(a[i].N.Kind), (a[i].N.ID)⟩ : ferrymanref05_Name) = toN a[i].N := rfl
    -- behind the step
    have key : ∀ (x : Bool × Lt) (L' : List ferrymanref05_Hold), Rel x.2 L' → x.2.length ≤ i + 1 → ((x.2 = (stepF l a[i])) → True) := fun _ _ _ _ _ => trivial
    rw [ferrymanlaw05_LatchPlays_l4.eq_2, if_pos (by simp only [decide_eq_true_eq]; exact hr.2)]
    simp only [if_pos hr, if_pos hr0, rd_get hlt, hrd0, wrN i (by omega), rCopy_eq (show L.length ≤ 1000 by omega), show latch_Latches_Copy_PO k ⟨l⟩ = some ⟨l⟩ from rfl, Option.bind_some, Drop_eq, Try_eq, Owner_eq, htoN]
    cases hd : (a[i]).Drop with
    | true =>
      obtain ⟨L', e1, R'⟩ := rDrop_eq R (by omega) (show 1000 < k by omega) a[i].N a[i].Task
      have hl' : (dropF l a[i].N a[i].Task).2.length ≤ i + 1 := Nat.le_succ_of_le (Nat.le_trans drop_length hll)
      have hlen' := R'.len
      generalize dropF l a[i].N a[i].Task = x at e1 R' hl' hlen'
      have hh1 := heldF_le x.2 a[i].Task
      have hh2 := heldF_le l a[0].Task
      have hh3 := heldF_le x.2 a[0].Task
      simp only [if_true, e1, Option.bind_some, rOwner_eq R' (by omega) (show 1000 < k by omega), Owner_eq, bne_self_eq_false, beq_self_eq_true, Bool.not_true, Bool.or_self, Bool.false_eq_true, if_false, latch_Latches_All_PO, hlen', hlen,
        Held_eq k R'.nd (show x.2.length ≤ 1000 by omega), Held_eq k R.nd (show l.length ≤ 1000 by omega), rHeld_eq R' (by omega) (show 1000 < k by omega), rHeld_eq R (by omega) (show 1000 < k by omega), names_eq (show (heldF x.2 a[i].Task).length ≤ 1000 by omega) (show 1000 < k by omega), names_eq (show (heldF l a[0].Task).length ≤ 1000 by omega) (show 1000 < k by omega), names_eq (show (heldF x.2 a[0].Task).length ≤ 1000 by omega) (show 1000 < k by omega), same_eq (show ((heldF x.2 a[i].Task).map toN).length ≤ 1000 by simp; omega) (show 1000 < k by omega), same_eq (show ((heldF l a[0].Task).map toN).length ≤ 1000 by simp; omega) (show 1000 < k by omega), same_eq (show ((heldF x.2 a[0].Task).map toN).length ≤ 1000 by simp; omega) (show 1000 < k by omega)]
      have s7 := spoil7 x.2 (heldF x.2 a[i].Task).length k 0 (heldF x.2 a[i].Task) (by omega) (by omega) (by omega)
      have s8 := spoil8 x.2 (heldF x.2 a[i].Task).length k 0 (heldF x.2 a[i].Task) (by omega) (by omega) (by omega)
      rw [show ((0 : Nat) : Int) = (0 : Int) from rfl] at s7 s8
      simp only [s7, s8, Option.bind_some, ih k (i + 1) _ _ (by omega) (by omega) R' hl', ite_self]
    | false =>
      obtain ⟨L', e1, R'⟩ := rTry_eq R (by omega) (show 1000 < k by omega) a[i].N a[i].Task
      have hl' : (tryF l a[i].N a[i].Task).2.length ≤ i + 1 := Nat.le_trans try_length (by omega)
      have hlen' := R'.len
      generalize tryF l a[i].N a[i].Task = x at e1 R' hl' hlen'
      have hh1 := heldF_le x.2 a[i].Task
      have hh2 := heldF_le l a[0].Task
      have hh3 := heldF_le x.2 a[0].Task
      simp only [Bool.false_eq_true, if_false, e1, Option.bind_some, rOwner_eq R' (by omega) (show 1000 < k by omega), Owner_eq, bne_self_eq_false, beq_self_eq_true, Bool.not_true, Bool.or_self, if_true, latch_Latches_All_PO, hlen', hlen,
        Held_eq k R'.nd (show x.2.length ≤ 1000 by omega), Held_eq k R.nd (show l.length ≤ 1000 by omega), rHeld_eq R' (by omega) (show 1000 < k by omega), rHeld_eq R (by omega) (show 1000 < k by omega), names_eq (show (heldF x.2 a[i].Task).length ≤ 1000 by omega) (show 1000 < k by omega), names_eq (show (heldF l a[0].Task).length ≤ 1000 by omega) (show 1000 < k by omega), names_eq (show (heldF x.2 a[0].Task).length ≤ 1000 by omega) (show 1000 < k by omega), same_eq (show ((heldF x.2 a[i].Task).map toN).length ≤ 1000 by simp; omega) (show 1000 < k by omega), same_eq (show ((heldF l a[0].Task).map toN).length ≤ 1000 by simp; omega) (show 1000 < k by omega), same_eq (show ((heldF x.2 a[0].Task).map toN).length ≤ 1000 by simp; omega) (show 1000 < k by omega)]
      have s7 := spoil7 x.2 (heldF x.2 a[i].Task).length k 0 (heldF x.2 a[i].Task) (by omega) (by omega) (by omega)
      have s8 := spoil8 x.2 (heldF x.2 a[i].Task).length k 0 (heldF x.2 a[i].Task) (by omega) (by omega) (by omega)
      rw [show ((0 : Nat) : Int) = (0 : Int) from rfl] at s7 s8
      simp only [s7, s8, Option.bind_some, ih k (i + 1) _ _ (by omega) (by omega) R' hl', ite_self]
theorem pure_LatchPlays (a0 : (List ferrymanlaw05_Step)) (_ : (wfSl wf_ferrymanlaw05_Step) a0) : ∃ k, ferrymanlaw05_LatchPlays k a0 = some true := by
  by_cases hl : a0.length ≤ 300
  · refine ⟨a0.length + 2021, ?_⟩
    have e1 : ¬ ((a0.length : Int) > 300) := by omega
    unfold ferrymanlaw05_LatchPlays
    rw [awake_up (by omega)]
    simp only [e1, decide_false, Bool.false_eq_true, if_false, Option.bind_some]
    show Option.bind (some (⟨[]⟩ : latch_Latches)) _ = _
    have h0 := plays_loop a0 hl a0.length (a0.length + 2021) 0 [] [] (by omega) (by omega) ⟨by simp, by simp, by simp⟩ (by simp)
    rw [show ((0 : Nat) : Int) = (0 : Int) from rfl] at h0
    simp only [Option.bind_some, h0, Sum.elim_inr]
  · refine ⟨20, ?_⟩
    have e1 : (a0.length : Int) > 300 := by omega
    unfold ferrymanlaw05_LatchPlays
    rw [awake_up (by omega)]
    simp [e1]
end Go.Proofs.Ytgnbccjpgoeplaa
