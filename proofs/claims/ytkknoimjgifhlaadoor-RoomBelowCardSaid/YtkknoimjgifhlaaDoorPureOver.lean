/-  A history that is gone over: it always comes to an end. -/
import Derived.Test.YtkknoimjgifhlaaDoorPureModel3
namespace Go.Proofs.YtkknoimjgifhlaaDoor
open Go Go.RowKit
set_option linter.unusedVariables false
set_option linter.unusedSimpArgs false
set_option maxRecDepth 100000
abbrev Run := replay_run
/-! ### answers that are compared -/
theorem eqp_l0 (a b : List api_Pair) (hl : a.length = b.length) (hb : a.length ≤ 9223372036854775807) : ∀ (j i : Nat), i + j = a.length → ∃ r, ∀ k, j < k → slices_Equal_api_Pair_api_Pair_l0 a b k (i : Int) = some r := by
  intro j
  induction j with
  | zero =>
    intro i hi
    refine ⟨.inr (), fun k hk => ?_⟩
    obtain ⟨k, rfl⟩ : ∃ k', k = k' + 1 := ⟨k - 1, by omega⟩
    rw [slices_Equal_api_Pair_api_Pair_l0.eq_2]
    have : ¬ ((i : Int) < (a.length : Int)) := by omega
    simp [this]
  | succ j ih =>
    intro i hi
    obtain ⟨r, hr⟩ := ih (i + 1) (by omega)
    have h1 : i < a.length := by omega
    have h2 : i < b.length := by omega
    have h3 : (i : Int) < (a.length : Int) := by omega
    by_cases hc : (a[i].Key == b[i].Key && a[i].Value == b[i].Value) = true
    · refine ⟨r, fun k hk => ?_⟩
      obtain ⟨k, rfl⟩ : ∃ k', k = k' + 1 := ⟨k - 1, by omega⟩
      rw [slices_Equal_api_Pair_api_Pair_l0.eq_2]
      simp only [h3, decide_true, if_true, inR h1, inR h2, and_self, rdN h1, rdN h2, hc, Bool.not_true, Bool.false_eq_true, if_false, wr1 (i := i) (by omega)]
      exact hr k (by omega)
    · refine ⟨.inl false, fun k hk => ?_⟩
      obtain ⟨k, rfl⟩ : ∃ k', k = k' + 1 := ⟨k - 1, by omega⟩
      rw [slices_Equal_api_Pair_api_Pair_l0.eq_2]
      simp only [h3, decide_true, if_true, inR h1, inR h2, and_self, rdN h1, rdN h2]
      have hc' := Bool.eq_false_iff.2 hc
      rw [if_pos (by rw [hc']; rfl)]
theorem mSame_ev (a b : api_Answer) (hb : a.Pairs.length ≤ 9223372036854775807) : ∃ v, Ev (fun k => model_Same k a b) v := by
  unfold model_Same
  by_cases c : ((a.Err == b.Err) && (a.Found == b.Found) && sbin .eql a.Value b.Value) = true
  · by_cases hl : a.Pairs.length = b.Pairs.length
    · obtain ⟨r, hr⟩ := eqp_l0 a.Pairs b.Pairs hl hb a.Pairs.length 0 (by omega)
      have h2 : Ev (fun k => slices_Equal_api_Pair_api_Pair k a.Pairs b.Pairs) (Sum.elim (fun r' => r') (fun _ => true) r) := by
        refine ⟨a.Pairs.length + 1, fun k hk => ?_⟩
        show slices_Equal_api_Pair_api_Pair k a.Pairs b.Pairs = _
        unfold slices_Equal_api_Pair_api_Pair
        rw [if_neg (by simp [hl])]
        show Option.bind (slices_Equal_api_Pair_api_Pair_l0 a.Pairs b.Pairs k ((0 : Nat) : Int)) _ = _
        rw [hr k (by omega)]
        cases r <;> rfl
      exact ⟨_, Ev.bind (Ev.pos c (h2.bind (Ev.pure _))) (Ev.pure _)⟩
    · have h2 : Ev (fun k => slices_Equal_api_Pair_api_Pair k a.Pairs b.Pairs) false := ⟨0, fun k _ => by
        show slices_Equal_api_Pair_api_Pair k a.Pairs b.Pairs = _
        unfold slices_Equal_api_Pair_api_Pair
        rw [if_pos (by simp; omega)]⟩
      exact ⟨_, Ev.bind (Ev.pos c (h2.bind (Ev.pure _))) (Ev.pure _)⟩
  · exact ⟨_, Ev.bind (Ev.neg c (Ev.pure _)) (Ev.pure _)⟩
/-! ### the recorder -/
structure RecOk (T i : Nat) (r : event_Recorder) : Prop where
  len : r.tasks.length = T
  at_ : ∀ t (h : t < r.tasks.length), 0 ≤ r.tasks[t].at_ ∧ r.tasks[t].at_ ≤ 2
  cl : ∀ t (h : t < r.tasks.length), 0 ≤ r.tasks[t].calls ∧ r.tasks[t].calls ≤ (i : Int)
  ll : r.l.length ≤ i
theorem rdI {α : Type} [Inhabited α] {l : List α} {x : Int} (h0 : 0 ≤ x) (h1 : x < (l.length : Int)) : rd l x = l[x.toNat]'(by omega) := by
  obtain ⟨n, rfl⟩ := Int.eq_ofNat_of_zero_le h0
  rw [rdN (by omega)]; rfl
theorem Under_ev {T i : Nat} {r : event_Recorder} (R : RecOk T i r) (t : Int) (k : Nat) : event_Recorder_Under_POO k r t = some (if 0 ≤ t ∧ t < (r.tasks.length : Int) ∧ (rd r.tasks t).at_ ≠ 0 then ((rd r.tasks t).calls, ((rd r.tasks t).at_ == (2 : Int)), true) else (0, false, false)) := by
  unfold event_Recorder_Under_POO
  by_cases c : 0 ≤ t ∧ t < (r.tasks.length : Int)
  · have c1 : ¬ ((decide (t < (0 : Int)) || decide (t ≥ (r.tasks.length : Int))) = true) := by simp; omega
    rw [if_neg c1, if_pos c]
    by_cases d : (rd r.tasks t).at_ = 0
    · simp [c.1, c.2, d]
    · have : ((rd r.tasks t).at_ == (0 : Int)) = false := by simpa using d
      simp only [Option.bind_some, this, Bool.false_eq_true, if_false]
      rw [if_pos c, if_pos ⟨c.1, c.2, d⟩]
  · have c1 : (decide (t < (0 : Int)) || decide (t ≥ (r.tasks.length : Int))) = true := by simp; omega
    have c2 : ¬ (0 ≤ t ∧ t < (r.tasks.length : Int) ∧ (rd r.tasks t).at_ ≠ 0) := fun h => c ⟨h.1, h.2.1⟩
    rw [if_pos c1, if_neg c2]; rfl
/-- What a recorder comes to. -/
theorem put_ev {T i : Nat} {r : event_Recorder} (R : RecOk T i r) (hi : i ≤ 100000) (t want : Int) (hw : 0 ≤ want ∧ want ≤ 2) (e : api_Event) (he : e.Answer.Pairs.length ≤ 2199023255552) :
    ∃ o r', (∀ k, event_Recorder_put_POO k r t want e = some (o, r')) ∧ (o ≠ 0 → r' = r) ∧ RecOk T (i + 1) r' ∧ (o = 0 → 0 ≤ t ∧ t < (T : Int) ∧ (rd r.tasks t).at_ = want ∧ ∀ u : Nat, u < T → (rd r'.tasks (u : Int)).at_ = if (u : Int) = t then (if want = 2 then 0 else want + 1) else (rd r.tasks (u : Int)).at_) := by
  have R1 : RecOk T (i + 1) r := ⟨R.len, R.at_, fun t h => by have := R.cl t h; omega, by have := R.ll; omega⟩
  by_cases c : 0 ≤ t ∧ t < (r.tasks.length : Int)
  · have c1 : ¬ ((decide (t < (0 : Int)) || decide (t ≥ (r.tasks.length : Int))) = true) := by simp; omega
    by_cases d : (rd r.tasks t).at_ = want
    · obtain ⟨n, rfl⟩ := Int.eq_ofNat_of_zero_le c.1
      have hn : n < r.tasks.length := by omega
      have hT := R.len
      have a1 := R.at_ n hn
      have a2 := R.cl n hn
      have a3 := R.ll
      rw [rdN hn] at d
      have hown : ∀ (k : Nat) (w : Int) (cl : Int), event_own k ⟨e.What, w, cl, ⟨e.Answer.Err, e.Answer.Found, e.Answer.Value, e.Answer.Pairs⟩⟩ = some ⟨e.What, w, cl, ⟨e.Answer.Err, e.Answer.Found, e.Answer.Value, e.Answer.Pairs⟩⟩ := fun k w cl => by
        simp only [event_own, slices_Clone_api_Pair_api_Pair]
        rw [if_pos (by simp; omega)]; rfl
      have hset : ∀ x : event_task, (r.tasks.set n x).length = r.tasks.length := fun x => by simp
      by_cases w2 : want = 2
      · refine ⟨0, ⟨r.tasks.set n ⟨0, r.tasks[n].calls + 1⟩, r.l ++ [⟨e.What, (n : Int), r.tasks[n].calls, ⟨e.Answer.Err, e.Answer.Found, e.Answer.Value, e.Answer.Pairs⟩⟩]⟩, fun k => ?_, fun h => absurd rfl h, ?_, fun _ => ⟨by omega, by omega, by rw [rdN hn]; exact d, fun u hu => ?_⟩⟩
        · unfold event_Recorder_put_POO
          rw [if_neg c1, if_pos c, rdN hn, if_neg (by simp [d]), if_pos c, hown]
          simp only [Option.bind_some]
          rw [if_pos (by simp; omega), wr (x := r.tasks[n].at_ + 1) (by omega) (by omega)]
          have g1 : rd (r.tasks.set (n : Int).toNat ⟨r.tasks[n].at_ + 1, r.tasks[n].calls⟩) (n : Int) = ⟨r.tasks[n].at_ + 1, r.tasks[n].calls⟩ := by rw [rdN (by simpa using hn)]; simp
          rw [g1]
          have g2 : decide (r.tasks[n].at_ + 1 > 2) = true := by simp; omega
          simp only [g2, if_true, Option.bind_some]
          have g3 : rd ((r.tasks.set (n : Int).toNat ⟨r.tasks[n].at_ + 1, r.tasks[n].calls⟩).set (n : Int).toNat ⟨0, r.tasks[n].calls⟩) (n : Int) = ⟨0, r.tasks[n].calls⟩ := by rw [rdN (by simpa using hn)]; simp
          rw [g3, wr (x := r.tasks[n].calls + 1) (by omega) (by omega)]
          simp [List.set_set]
        · refine ⟨by simp [hT], fun u hu => ?_, fun u hu => ?_, by simp; omega⟩
          · simp only [List.getElem_set]; split
            · simp
            · exact R.at_ u (by simpa using hu)
          · simp only [List.getElem_set]; split
            · simp; omega
            · have := R.cl u (by simpa using hu); simp; omega
        · rw [rdN (by simp; omega), rdN (by omega)]
          simp only [List.getElem_set]
          by_cases eq : n = u
          · subst eq; simp [w2]
          · have : ¬ (u : Int) = (n : Int) := by omega
            simp [eq, this]
      · refine ⟨0, ⟨r.tasks.set n ⟨want + 1, r.tasks[n].calls⟩, r.l ++ [⟨e.What, (n : Int), r.tasks[n].calls, ⟨e.Answer.Err, e.Answer.Found, e.Answer.Value, e.Answer.Pairs⟩⟩]⟩, fun k => ?_, fun h => absurd rfl h, ?_, fun _ => ⟨by omega, by omega, by rw [rdN hn]; exact d, fun u hu => ?_⟩⟩
        · unfold event_Recorder_put_POO
          rw [if_neg c1, if_pos c, rdN hn, if_neg (by simp [d]), if_pos c, hown]
          simp only [Option.bind_some]
          rw [if_pos (by simp; omega), wr (x := r.tasks[n].at_ + 1) (by omega) (by omega)]
          have g1 : rd (r.tasks.set (n : Int).toNat ⟨r.tasks[n].at_ + 1, r.tasks[n].calls⟩) (n : Int) = ⟨r.tasks[n].at_ + 1, r.tasks[n].calls⟩ := by rw [rdN (by simpa using hn)]; simp
          rw [g1]
          have g2 : decide (r.tasks[n].at_ + 1 > 2) = false := by simp; omega
          simp only [g2, Bool.false_eq_true, if_false, Option.bind_some]
          simp [d]
        · refine ⟨by simp [hT], fun u hu => ?_, fun u hu => ?_, by simp; omega⟩
          · simp only [List.getElem_set]; split
            · simp; omega
            · exact R.at_ u (by simpa using hu)
          · simp only [List.getElem_set]; split
            · simp; omega
            · have := R.cl u (by simpa using hu); simp; omega
        · rw [rdN (by simp; omega), rdN (by omega)]
          simp only [List.getElem_set]
          by_cases eq : n = u
          · subst eq; simp [w2]
          · have : ¬ (u : Int) = (n : Int) := by omega
            simp [eq, this]
    · refine ⟨7, r, fun k => ?_, fun _ => rfl, R1, fun h => by cases h⟩
      unfold event_Recorder_put_POO
      rw [if_neg c1, if_pos c, if_pos (by simpa using d)]
  · refine ⟨1, r, fun k => ?_, fun _ => rfl, R1, fun h => by cases h⟩
    have c1 : (decide (t < (0 : Int)) || decide (t ≥ (r.tasks.length : Int))) = true := by simp; omega
    unfold event_Recorder_put_POO
    rw [if_pos c1]
end Go.Proofs.YtkknoimjgifhlaaDoor
