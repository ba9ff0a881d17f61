/-  A step of a history that is gone over. -/
import Derived.Test.YtkknoimjgifhlaaDoorPureOver
namespace Go.Proofs.YtkknoimjgifhlaaDoor
open Go Go.RowKit
set_option linter.unusedVariables false
set_option linter.unusedSimpArgs false
set_option maxRecDepth 100000
abbrev Progs := List (List api_Call)
def okCall (p : Progs) (t c : Int) : Prop := 0 ≤ t ∧ t < (p.length : Int) ∧ 0 ≤ c ∧ c < ((rd p t).length : Int)
structure RI (T : Nat) (p : Progs) (i : Nat) (x : Run) : Prop where
  pr : x.programs = p
  rc : RecOk T i x.r
  la : x.last.length = T
  iv : Inv i x.m
  dl : x.done.length ≤ i
  dn : ∀ d ∈ x.done, okCall p d.Task d.Call ∧ d.Answer.Pairs.length ≤ i
  ls : ∀ u : Nat, u < T → (rd x.r.tasks (u : Int)).at_ = 2 → 0 ≤ rd x.last (u : Int) ∧ rd x.last (u : Int) < (x.done.length : Int)
theorem call_ev (x : Run) (e : api_Event) (k : Nat) : ∃ c : api_Call, (okCall x.programs e.Task e.Call → c = rd (rd x.programs e.Task) e.Call) ∧ ∃ b : Bool, (b = true ↔ okCall x.programs e.Task e.Call) ∧ ∀ k, replay_run_call_PRpoo_poooo_OO k x e = some (c, b) := by
  by_cases h : okCall x.programs e.Task e.Call
  · refine ⟨rd (rd x.programs e.Task) e.Call, fun _ => rfl, true, by simp [h], fun k => ?_⟩
    obtain ⟨h1, h2, h3, h4⟩ := h
    unfold replay_run_call_PRpoo_poooo_OO
    have c1 : ¬ (((decide (e.Task < (0 : Int)) || decide (e.Task ≥ (x.programs.length : Int))) || decide (e.Call < (0 : Int))) = true) := by simp; omega
    have c2 : decide (e.Call ≥ ((rd x.programs e.Task).length : Int)) = false := by simp; omega
    rw [if_neg c1, if_pos ⟨h1, h2⟩, c2]
    simp only [Option.bind_some, Bool.false_eq_true, if_false]
    rw [if_pos ⟨h1, h2⟩, if_pos ⟨h3, h4⟩]
  · refine ⟨⟨0, 0, [], [], [], 0, 0⟩, fun g => absurd g h, false, by simp [h], fun k => ?_⟩
    unfold replay_run_call_PRpoo_poooo_OO
    by_cases c1 : ((decide (e.Task < (0 : Int)) || decide (e.Task ≥ (x.programs.length : Int))) || decide (e.Call < (0 : Int))) = true
    · rw [if_pos c1]; rfl
    · rw [if_neg c1]
      simp only [Bool.or_eq_true, decide_eq_true_eq, not_or] at c1
      have c2 : decide (e.Call ≥ ((rd x.programs e.Task).length : Int)) = true := by
        simp only [decide_eq_true_eq]
        exact Int.not_lt.1 fun g => h ⟨by omega, by omega, by omega, g⟩
      rw [if_pos ⟨by omega, by omega⟩, c2]; rfl
theorem Ev.all {α : Type} {f : Nat → Option α} {v : α} (h : ∀ k, f k = some v) : Ev f v := ⟨0, fun k _ => h k⟩
/-- What a step leaves, by what the event is. -/
def Turns (p : Progs) (T : Nat) (x : Run) (e : api_Event) (x' : Run) : Prop :=
  ((rd x.r.tasks e.Task).at_ = e.What - 1 ∧ ∀ u : Nat, u < T → (rd x'.r.tasks (u : Int)).at_ = if (u : Int) = e.Task then (if e.What = 3 then 0 else e.What) else (rd x.r.tasks (u : Int)).at_) ∧ 0 ≤ e.Task ∧ e.Task < (T : Int) ∧
  (e.What = 1 ∧ x'.m = x.m ∧ x'.done = x.done ∧ x'.last = x.last ∨
   e.What = 2 ∧ x'.m = (doS x.m e.Task (rd (rd p e.Task) e.Call)).2 ∧ (∃ d : replay_Done, d.Task = e.Task ∧ d.Call = e.Call ∧ d.Back = -1 ∧ x'.done = x.done ++ [d]) ∧ x'.last = x.last.set e.Task.toNat (x.done.length : Int) ∨
   e.What = 3 ∧ x'.m = x.m ∧ x'.last = x.last ∧ ∃ (j : Nat) (h : j < x.done.length) (b : Int), rd x.last e.Task = (j : Int) ∧ 0 ≤ b ∧ x'.done = x.done.set j ⟨x.done[j].Task, x.done[j].Call, x.done[j].Answer, x.done[j].Mark, b⟩)
theorem step_ev {T : Nat} {p : Progs} {i : Nat} {x : Run} (R : RI T p i x) (hi : i ≤ 10000) (hp : p.length ≤ T) (at_ : Int) (e : api_Event) (he : e.Answer.Pairs.length ≤ 100000) :
    ∃ (o : Int) (x' : Run), Ev (fun k => replay_run_step_PRpoo_poooo_OO k x at_ e) (o, x') ∧ (o ≠ 4 → RI T p (i + 1) x' ∧ (0 ≤ at_ → Turns p T x e x')) := by
  obtain ⟨pr, rc, la, iv, dl, dn, ls⟩ := R
  obtain ⟨c, hc, b, hb, hcall⟩ := call_ev x e 0
  rw [pr] at hc hb
  unfold replay_run_step_PRpoo_poooo_OO
  obtain ⟨s, hs⟩ := mSame_ev e.Answer ⟨0, false, [], []⟩ (by omega)
  -- is it of the programs?
  obtain ⟨z, hz, hz2⟩ : ∃ z : Bool, Ev (fun k => (if (((!b) || (decide (e.What < (1 : Int)))) || (decide (e.What > (3 : Int)))) = true then some (true) else (Option.bind (α := Bool) (if (e.What != (3 : Int)) = true then (Option.bind (model_Same k e.Answer (⟨(0 : Int), false, ([] : Str), ([] : (List api_Pair))⟩ : api_Answer)) (fun t53 => some ((!t53)))) else some (false)) (fun x51 => some (x51))))) z ∧ (z = false → b = true ∧ 1 ≤ e.What ∧ e.What ≤ 3) := by
    by_cases c1 : (((!b) || (decide (e.What < (1 : Int)))) || (decide (e.What > (3 : Int)))) = true
    · exact ⟨true, Ev.pos c1 (Ev.pure _), fun h => by cases h⟩
    · have c2 := c1
      simp only [Bool.or_eq_true, decide_eq_true_eq, not_or] at c2
      have c3 : b = true ∧ 1 ≤ e.What ∧ e.What ≤ 3 := ⟨by simpa using c2.1.1, by omega, by omega⟩
      by_cases c4 : (e.What != (3 : Int)) = true
      · exact ⟨!s, Ev.neg c1 (Ev.bind (v := !s) (Ev.pos c4 (hs.bind (Ev.pure _))) (Ev.pure _)), fun _ => c3⟩
      · exact ⟨false, Ev.neg c1 (Ev.bind (v := false) (Ev.neg c4 (Ev.pure _)) (Ev.pure _)), fun _ => c3⟩
  cases z with
  | true => exact ⟨4, x, Ev.bind (Ev.all hcall) (Ev.bind hz (Ev.pos rfl (Ev.pure _))), fun h => absurd rfl h⟩
  | false =>
    obtain ⟨b1, w1, w3⟩ := hz2 rfl
    have ok := hb.1 b1
    have hcc := hc ok
    obtain ⟨t0, t1, _, _⟩ := ok
    have htT : e.Task < (T : Int) := by omega
    -- what is recorded
    obtain ⟨t67, hun, d, ts, ll, hd, rok, hd2⟩ : ∃ t67 : Int × Bool × Bool, (∀ k, event_Recorder_Under_POO k x.r e.Task = some t67) ∧ ∃ (d : Bool) (ts : List event_task) (ll : List api_Event), Ev (fun k => (if ((e.What != (1 : Int)) && ((!t67.2.2) || (t67.1 != e.Call))) = true then some (true, x.r.tasks, x.r.l) else (if 0 ≤ e.What ∧ e.What < (4 : Int) then (if (e.What == (1 : Int)) = true then (Option.bind (replay_steps_1_POO k x.r e) (fun t231 => some ((t231.1 != (0 : Int)), t231.2.tasks, t231.2.l))) else (if (e.What == (2 : Int)) = true then (Option.bind (replay_steps_2_POO k x.r e) (fun t243 => some ((t243.1 != (0 : Int)), t243.2.tasks, t243.2.l))) else (if (e.What == (3 : Int)) = true then (Option.bind (replay_steps_3_POO k x.r e) (fun t255 => some ((t255.1 != (0 : Int)), t255.2.tasks, t255.2.l))) else none))) else none))) (d, ts, ll) ∧ RecOk T (i + 1) ⟨ts, ll⟩ ∧
        (d = false → (rd x.r.tasks e.Task).at_ = e.What - 1 ∧ ∀ u : Nat, u < T → (rd ts (u : Int)).at_ = if (u : Int) = e.Task then (if e.What = 3 then 0 else e.What) else (rd x.r.tasks (u : Int)).at_) := by
      have R1 : RecOk T (i + 1) ⟨x.r.tasks, x.r.l⟩ := ⟨rc.len, rc.at_, fun t h => ⟨(rc.cl t h).1, Int.le_trans (rc.cl t h).2 (by omega)⟩, by have := rc.ll; show x.r.l.length ≤ i + 1; omega⟩
      generalize hu : (if 0 ≤ e.Task ∧ e.Task < (x.r.tasks.length : Int) ∧ (rd x.r.tasks e.Task).at_ ≠ 0 then ((rd x.r.tasks e.Task).calls, ((rd x.r.tasks e.Task).at_ == (2 : Int)), true) else (0, false, false)) = u
      have hun : ∀ k, event_Recorder_Under_POO k x.r e.Task = some u := fun k => by rw [Under_ev rc e.Task k, hu]
      by_cases c1 : ((e.What != (1 : Int)) && ((!u.2.2) || (u.1 != e.Call))) = true
      · exact ⟨u, hun, true, _, _, Ev.pos c1 (Ev.pure _), R1, fun h => by cases h⟩
      · have fin : ∀ (want : Int) (v : api_Event) (hv : v.Answer.Pairs.length ≤ 100000), 0 ≤ want ∧ want ≤ 2 → e.What = want + 1 → ∃ (o : Int) (r' : event_Recorder), (∀ k, event_Recorder_put_POO k x.r e.Task want v = some (o, r')) ∧ RecOk T (i + 1) r' ∧ ((o != (0 : Int)) = false → (rd x.r.tasks e.Task).at_ = e.What - 1 ∧ ∀ u : Nat, u < T → (rd r'.tasks (u : Int)).at_ = if (u : Int) = e.Task then (if e.What = 3 then 0 else e.What) else (rd x.r.tasks (u : Int)).at_) := fun want v hv hw hW => by
          obtain ⟨o, r', h1, _, h3, h4⟩ := put_ev rc (by omega) e.Task want hw v (by omega)
          refine ⟨o, r', h1, h3, fun h => ?_⟩
          have ho : o = 0 := by simpa using h
          obtain ⟨_, _, g3, g4⟩ := h4 ho
          refine ⟨by omega, fun u hu => ?_⟩
          rw [g4 u hu]
          by_cases q : (u : Int) = e.Task
          · rw [if_pos q, if_pos q]
            by_cases q2 : want = 2
            · rw [if_pos q2, if_pos (by omega)]
            · rw [if_neg q2, if_neg (by omega)]; omega
          · rw [if_neg q, if_neg q]
        have c0 : 0 ≤ e.What ∧ e.What < 4 := by omega
        by_cases q1 : e.What = 1
        · obtain ⟨o, r', h1, h3, h4⟩ := fin 0 ⟨1, 0, 0, ⟨0, false, [], []⟩⟩ (by simp) (by omega) (by omega)
          refine ⟨u, hun, (o != (0 : Int)), r'.tasks, r'.l, (Ev.neg c1 (Ev.pos c0 (Ev.pos (by simpa using q1) ?_))), h3, h4⟩
          exact (Ev.all (v := (o, r')) fun k => by simp [replay_steps_1_POO, event_Recorder_Invoke_POO, h1]).bind (Ev.pure _)
        by_cases q2 : e.What = 2
        · obtain ⟨o, r', h1, h3, h4⟩ := fin 1 ⟨2, 0, 0, ⟨0, false, [], []⟩⟩ (by simp) (by omega) (by omega)
          refine ⟨u, hun, (o != (0 : Int)), r'.tasks, r'.l, (Ev.neg c1 (Ev.pos c0 (Ev.neg (by simpa using q1) (Ev.pos (by simpa using q2) ?_)))), h3, h4⟩
          exact (Ev.all (v := (o, r')) fun k => by simp [replay_steps_2_POO, event_Recorder_Mark_POO, h1]).bind (Ev.pure _)
        · have q3 : e.What = 3 := by omega
          obtain ⟨o, r', h1, h3, h4⟩ := fin 2 ⟨3, 0, 0, ⟨e.Answer.Err, e.Answer.Found, e.Answer.Value, e.Answer.Pairs⟩⟩ he (by omega) (by omega)
          refine ⟨u, hun, (o != (0 : Int)), r'.tasks, r'.l, (Ev.neg c1 (Ev.pos c0 (Ev.neg (by simpa using q1) (Ev.neg (by simpa using q2) (Ev.pos (by simpa using q3) ?_))))), h3, h4⟩
          exact (Ev.all (v := (o, r')) fun k => by simp [replay_steps_3_POO, event_Recorder_Return_POO, h1]).bind (Ev.pure _)
    cases d with
    | true =>
      refine ⟨4, ⟨x.programs, ⟨ts, ll⟩, x.m, x.done, x.last⟩, Ev.bind (Ev.all hcall) (Ev.bind hz (Ev.neg (by simp) (Ev.bind (Ev.all hun) (Ev.bind hd ?_)))), fun h => absurd rfl h⟩
      exact Ev.pos rfl (Ev.pure _)
    | false =>
      obtain ⟨g1, g2⟩ := hd2 rfl
      have iv1 := iv.mono (n' := i + 1) (by omega)
      have dn1 : ∀ d ∈ x.done, okCall p d.Task d.Call ∧ d.Answer.Pairs.length ≤ i + 1 := fun d hd => by have := dn d hd; exact ⟨this.1, by omega⟩
      by_cases q1 : e.What = 1
      · have RI1 : RI T p (i + 1) ⟨x.programs, ⟨ts, ll⟩, x.m, x.done, x.last⟩ := ⟨pr, rok, la, iv1, by show x.done.length ≤ i + 1; omega, dn1, fun u hu h2 => by
          have h := g2 u hu
          have h2 : (rd ts (u : Int)).at_ = 2 := h2
          rw [h] at h2
          by_cases q : (u : Int) = e.Task
          · rw [if_pos q, if_neg (by omega)] at h2; omega
          · rw [if_neg q] at h2; exact ls u hu h2⟩
        have hu2 := Under_ev rok e.Task
        by_cases q : ((if 0 ≤ e.Task ∧ e.Task < ((⟨ts, ll⟩ : event_Recorder).tasks.length : Int) ∧ (rd (⟨ts, ll⟩ : event_Recorder).tasks e.Task).at_ ≠ 0 then ((rd (⟨ts, ll⟩ : event_Recorder).tasks e.Task).calls, ((rd (⟨ts, ll⟩ : event_Recorder).tasks e.Task).at_ == (2 : Int)), true) else (0, false, false)).1 != e.Call) = true
        · refine ⟨4, ⟨x.programs, ⟨ts, ll⟩, x.m, x.done, x.last⟩, Ev.bind (Ev.all hcall) (Ev.bind hz (Ev.neg (by simp) (Ev.bind (Ev.all hun) (Ev.bind hd ?_)))), fun h => absurd rfl h⟩
          exact Ev.neg (by simp) (Ev.pos (by simpa using q1) (Ev.bind (Ev.all hu2) (Ev.pos q (Ev.pure _))))
        · refine ⟨0, ⟨x.programs, ⟨ts, ll⟩, x.m, x.done, x.last⟩, Ev.bind (Ev.all hcall) (Ev.bind hz (Ev.neg (by simp) (Ev.bind (Ev.all hun) (Ev.bind hd ?_)))), fun _ => ⟨RI1, fun _ => ⟨⟨g1, g2⟩, t0, htT, .inl ⟨q1, rfl, rfl, rfl⟩⟩⟩⟩
          exact Ev.neg (by simp) (Ev.pos (by simpa using q1) (Ev.bind (Ev.all hu2) (Ev.neg q (Ev.pure _))))
      by_cases q2 : e.What = 2
      · have hp2 := doS_pairs iv e.Task c
        have htl : 0 ≤ e.Task ∧ e.Task < (x.last.length : Int) := by rw [la]; exact ⟨t0, htT⟩
        refine ⟨0, ⟨x.programs, ⟨ts, ll⟩, (doS x.m e.Task c).2, x.done ++ [⟨e.Task, e.Call, ⟨(doS x.m e.Task c).1.Err, (doS x.m e.Task c).1.Found, (doS x.m e.Task c).1.Value, (doS x.m e.Task c).1.Pairs⟩, at_, -1⟩], x.last.set e.Task.toNat (x.done.length : Int)⟩, Ev.bind (Ev.all hcall) (Ev.bind hz (Ev.neg (by simp) (Ev.bind (Ev.all hun) (Ev.bind hd ?_)))), fun _ => ⟨?_, fun _ => ⟨⟨g1, g2⟩, t0, htT, .inr (.inl ⟨q2, by rw [hcc], ⟨_, rfl, rfl, rfl, rfl⟩, rfl⟩)⟩⟩⟩
        · refine Ev.neg (by simp) (Ev.neg (by simpa using q1) (Ev.pos (by simpa using q2) (Ev.pos htl (Ev.bind (Ev.pure _) (Ev.bind (do_ev iv (by omega) e.Task c) (Ev.pos (by simp; omega) (Ev.pure _)))))))
        · refine ⟨pr, rok, by simp [la], iv.do_ e.Task c, by simp; omega, fun d hd => ?_, fun u hu h2 => ?_⟩
          · rcases List.mem_append.1 hd with h | h
            · exact dn1 d h
            · simp only [List.mem_singleton] at h
              subst h
              exact ⟨hb.1 b1, by show (doS x.m e.Task c).1.Pairs.length ≤ i + 1; omega⟩
          · have h := g2 u hu
            have h2 : (rd ts (u : Int)).at_ = 2 := h2
            rw [h] at h2
            have hlen : u < (x.last.set e.Task.toNat (x.done.length : Int)).length := by simp [la, hu]
            show 0 ≤ rd (x.last.set e.Task.toNat (x.done.length : Int)) (u : Int) ∧ rd (x.last.set e.Task.toNat (x.done.length : Int)) (u : Int) < ((x.done ++ [_]).length : Int)
            rw [rdN hlen, List.getElem_set, List.length_append, List.length_singleton]
            by_cases q : (u : Int) = e.Task
            · rw [if_pos (by omega)]; omega
            · rw [if_neg q] at h2
              have := ls u hu h2
              rw [if_neg (by omega)]
              rw [rdN (by omega)] at this
              omega
      · have q3 : e.What = 3 := by omega
        have htl : 0 ≤ e.Task ∧ e.Task < (x.last.length : Int) := by rw [la]; exact ⟨t0, htT⟩
        obtain ⟨n, hn⟩ := Int.eq_ofNat_of_zero_le t0
        have hnT : n < T := by omega
        have hlast := ls n hnT (by rw [← hn, g1]; omega)
        rw [← hn] at hlast
        obtain ⟨m, hm⟩ := Int.eq_ofNat_of_zero_le hlast.1
        have hm2 : m < x.done.length := by omega
        generalize hset : x.done.set (rd x.last e.Task).toNat ⟨(rd x.done (rd x.last e.Task)).Task, (rd x.done (rd x.last e.Task)).Call, ⟨(rd x.done (rd x.last e.Task)).Answer.Err, (rd x.done (rd x.last e.Task)).Answer.Found, (rd x.done (rd x.last e.Task)).Answer.Value, (rd x.done (rd x.last e.Task)).Answer.Pairs⟩, (rd x.done (rd x.last e.Task)).Mark, at_⟩ = D
        have hD : D.length = x.done.length := by rw [← hset]; simp
        have hDs : D = x.done.set m ⟨x.done[m].Task, x.done[m].Call, x.done[m].Answer, x.done[m].Mark, at_⟩ := by rw [← hset, hm, rdN hm2]; rfl
        have hDm : ∀ d ∈ D, okCall p d.Task d.Call ∧ d.Answer.Pairs.length ≤ i + 1 := fun d hd => by
          rw [← hset] at hd
          rcases List.mem_or_eq_of_mem_set hd with h | h
          · exact dn1 d h
          · subst h
            have := dn1 (x.done[m]) (List.getElem_mem hm2)
            rw [hm, rdN hm2]; exact this
        obtain ⟨s2, hs2⟩ := mSame_ev (rd D (rd x.last e.Task)).Answer e.Answer (by
          rw [hm, rdN (by omega)]
          have := (hDm _ (List.getElem_mem (by omega : m < D.length))).2; omega)
        have RI3 : RI T p (i + 1) ⟨x.programs, ⟨ts, ll⟩, x.m, D, x.last⟩ := ⟨pr, rok, la, iv1, by show D.length ≤ i + 1; omega, hDm, fun u hu h2 => by
          have h := g2 u hu
          have h2 : (rd ts (u : Int)).at_ = 2 := h2
          rw [h] at h2
          by_cases q : (u : Int) = e.Task
          · rw [if_pos q, if_pos q3] at h2; omega
          · rw [if_neg q] at h2
            have := ls u hu h2
            show 0 ≤ rd x.last (u : Int) ∧ rd x.last (u : Int) < (D.length : Int)
            omega⟩
        cases s2 with
        | true =>
          refine ⟨0, ⟨x.programs, ⟨ts, ll⟩, x.m, D, x.last⟩, Ev.bind (Ev.all hcall) (Ev.bind hz (Ev.neg (by simp) (Ev.bind (Ev.all hun) (Ev.bind hd ?_)))), fun _ => ⟨RI3, fun h0 => ⟨⟨g1, g2⟩, t0, htT, .inr (.inr ⟨q3, rfl, rfl, m, hm2, at_, hm, h0, hDs⟩)⟩⟩⟩
          refine Ev.neg (by simp) (Ev.neg (by simpa using q1) (Ev.neg (by simpa using q2) (Ev.pos (by simpa using q3) (Ev.pos htl (Ev.pos hlast ?_)))))
          exact Ev.bind (Ev.pure _) (Ev.bind hs2 (Ev.neg (by simp) (Ev.pure _)))
        | false =>
          refine ⟨7, ⟨x.programs, ⟨ts, ll⟩, x.m, D, x.last⟩, Ev.bind (Ev.all hcall) (Ev.bind hz (Ev.neg (by simp) (Ev.bind (Ev.all hun) (Ev.bind hd ?_)))), fun _ => ⟨RI3, fun h0 => ⟨⟨g1, g2⟩, t0, htT, .inr (.inr ⟨q3, rfl, rfl, m, hm2, at_, hm, h0, hDs⟩)⟩⟩⟩
          refine Ev.neg (by simp) (Ev.neg (by simpa using q1) (Ev.neg (by simpa using q2) (Ev.pos (by simpa using q3) (Ev.pos htl (Ev.pos hlast ?_)))))
          exact Ev.bind (Ev.pure _) (Ev.bind hs2 (Ev.pos (by simp) (Ev.pure _)))
end Go.Proofs.YtkknoimjgifhlaaDoor
