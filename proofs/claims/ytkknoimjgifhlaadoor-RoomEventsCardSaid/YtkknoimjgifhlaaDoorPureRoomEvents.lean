/-  The plain law RoomEvents. -/
import Derived.Test.YtkknoimjgifhlaaDoorPureSums
import Derived.Test.YtkknoimjgifhlaaDoorGr1LRoomEvents
namespace Go.Proofs.YtkknoimjgifhlaaDoor
open Go Go.RowKit
set_option linter.unusedVariables false
set_option linter.unusedSimpArgs false
set_option maxRecDepth 100000
def sA (c : api_Config) (p : Progs) (x : Run) : Int := retS x.m (keysS x.m) + (sums c p (newS c) x.done).1
def sB (c : api_Config) (p : Progs) (x : Run) : Int := ((keysS x.m).length : Int) + (sums c p (newS c) x.done).2
theorem now_ev (c : api_Config) (hm : mayB c = true) (p : Progs) (L : List api_Event) {T : Nat} {n : Nat} (hn : n ≤ 900) {x : Run} (R : RI T p n x) (ho : Ev (fun k => replay_over_v k c p L) (.inr (.inr x))) : Ev (fun k => room_Now k c p L) (sA c p x, sB c p x, 0) := by
  have hm2 := hm
  simp only [mayB, Bool.and_eq_true, decide_eq_true_eq] at hm2
  have hA : Ev (fun k => replay_Answers k c p L) x.done := Ev.bind ho (Ev.pure _)
  have hM : Ev (fun k => replay_Model_v k c p L) (.inr (.inr x.m)) := Ev.bind ho (Ev.pure _)
  have hret := Ret_ev R.iv (by omega)
  have hkey : Ev (fun k => model_Model_Keys_POOOO k x.m) (keysS x.m) := ⟨0, fun k _ => Keys_eq R.iv (by omega) k⟩
  have hnew : Ev (fun k => model_New_v k c) (.inr (newS c)) := ⟨9, fun k hk => by show model_New_v k c = _; rw [New_eq k hk c, hm]; rfl⟩
  have hdl := R.dl
  have hr := ret_le R.iv (by omega)
  have hkl := keysS_len x.m
  have hrl := R.iv.rl
  have hs := now_sums c (by omega) p x.done (by omega) (fun d hd => (R.dn d hd).1) x.done.length 0 0 (newS c) (retS x.m (keysS x.m)) ((keysS x.m).length : Int) (by omega) (Inv.new c) (by omega) hr.1 (by omega) (by omega) (by omega)
  rw [List.drop_zero] at hs
  unfold room_Now
  refine Ev.bind hM (Ev.bind hret (Ev.bind hkey (Ev.bind hnew (Ev.bind hA ?_))))
  exact Ev.bind hs (Ev.pure _)
theorem ov_over {c : api_Config} {p : Progs} {x0 y : Run} {L : List api_Event} (hb : Ev (fun k => replay_begun_v k c p) (.inr (.inl x0))) (h : Ev (OV L 0 x0) (.inr (tup y))) : Ev (fun k => replay_over_v k c p L) (.inr (.inr y)) := by
  unfold replay_over_v
  exact Ev.bind hb (Ev.bind h (Ev.pure _))
theorem events_l0 (c : api_Config) (hm : mayB c = true) (p : Progs) (l : List api_Event) (hl : l.length ≤ 800) (hA : ∀ e ∈ l, e.Answer.Pairs.length ≤ 100000) {T : Nat} (hp : p.length ≤ T) {x0 : Run} (R0 : RI T p 0 x0) (hb : Ev (fun k => replay_begun_v k c p) (.inr (.inl x0)))
    (hall : ∀ n, n ≤ l.length → ∃ y, RI T p n y ∧ Ev (OV (l.take n) 0 x0) (.inr (tup y))) :
    ∀ (j n : Nat) (x : Run), n + j = l.length → RI T p n x → Ev (OV (l.take n) 0 x0) (.inr (tup x)) → Ev (fun k => ferrymanlaw30_RoomEvents_l0 c p l k (sA c p x) (sB c p x) ((n + 1 : Nat) : Int)) (.inr ()) := by
  have hm2 := hm
  simp only [mayB, Bool.and_eq_true, decide_eq_true_eq] at hm2
  intro j
  induction j with
  | zero =>
    intro n x hn R h
    refine Ev.shift 1 ⟨0, fun k hk => ?_⟩
    show ferrymanlaw30_RoomEvents_l0 c p l (k + 1) _ _ ((n + 1 : Nat) : Int) = _
    rw [ferrymanlaw30_RoomEvents_l0.eq_2]
    have : ¬ (((n + 1 : Nat) : Int) ≤ (l.length : Int)) := by omega
    simp only [this, decide_false, Bool.false_eq_true, if_false]
  | succ j ih =>
    intro n x hn R h
    have hlt : n < l.length := by omega
    obtain ⟨z, _, hz⟩ := hall (n + 1) (by omega)
    obtain ⟨u, v, ru, rv, tt, hu, hv⟩ := ov_pre hp l (by omega) hA n hlt n 0 x0 z (by omega) R0 hz
    have e : tup u = tup x := by have := evU hu h; simpa using this
    have em : u.m = x.m := by simp only [tup, Prod.mk.injEq] at e; exact e.2.2.2.2.2
    have ed : u.done = x.done := by simp only [tup, Prod.mk.injEq] at e; exact e.2.1
    have hnow := now_ev c hm p (l.take (n + 1)) (by omega) rv (ov_over hb hv)
    refine Ev.shift 1 (Ev.congr (g := fun k => _) ?_ (fun k => by rw [ferrymanlaw30_RoomEvents_l0.eq_2]))
    have h1 : (((n + 1 : Nat) : Int)) ≤ (l.length : Int) := by omega
    have ew : IntKind.i64.wrap (((n + 1 : Nat) : Int) - 1) = (n : Int) := by rw [wr (by omega) (by omega)]; omega
    have en : (((n + 1 : Nat) : Int)).toNat = n + 1 := rfl
    rw [ew, rdN hlt, wr1 (i := n + 1) (by omega), en]
    refine Ev.pos (by simpa using h1) (Ev.pos ⟨by omega, h1⟩ (Ev.bind hnow ?_))
    have hr : 0 ≤ (n : Int) ∧ (n : Int) < (l.length : Int) := by omega
    refine Ev.bind (v := false) (Ev.neg (by simp) (Ev.pos hr ((Ev.pure _).eq ?_))) ?_
    · by_cases c1 : l[n].What = 1
      · have := tt.1 c1
        have a1 : sA c p x = sA c p v := by unfold sA; rw [this.1, this.2, em, ed]
        have a2 : sB c p x = sB c p v := by unfold sB; rw [this.1, this.2, em, ed]
        simp [a1, a2]
      · simp [c1]
    refine Ev.bind (v := false) (Ev.neg (by simp) (Ev.pos hr ((Ev.pure _).eq ?_))) ?_
    · by_cases c3 : l[n].What = 3
      · obtain ⟨m1, q, hq, b, hb0, hD⟩ := tt.2 c3
        have hdl := ru.dl
        have := sums_set c (by omega) p u.done 0 (newS c) q hq b (Inv.new c) (by omega) hb0
        rw [← hD, ed] at this
        have a1 : ¬ (sA c p v > sA c p x) := by unfold sA; rw [m1, em]; omega
        have a2 : ¬ (sB c p v > sB c p x) := by unfold sB; rw [m1, em]; omega
        simp only [a1, a2, decide_false, Bool.or_self, Bool.and_false]
      · simp [c3]
    refine Ev.neg (by simp) ?_
    exact ih (n + 1) v (by omega) rv hv
theorem pure_RoomEvents (a0 : api_Config) (a1 : (List (List api_Call))) (a2 : (List api_Event)) (_ : wf_api_Config a0) (w1 : (wfSl (wfSl wf_api_Call)) a1) (w2 : (wfSl wf_api_Event) a2) : ∃ k, ferrymanlaw30_RoomEvents k a0 a1 a2 = some true := by
  refine Ev.ex (f := fun k => ferrymanlaw30_RoomEvents k a0 a1 a2) ?_
  have b1 : a1.length ≤ 9223372036854775807 := Nat.le_trans w1.1 (by decide)
  have b3 : ∀ q ∈ a1, q.length ≤ 9223372036854775807 := fun q hq => Nat.le_trans (w1.2 q hq).1 (by decide)
  have b2 : a2.length ≤ 9223372036854775807 := Nat.le_trans w2.1 (by decide)
  unfold ferrymanlaw30_RoomEvents
  refine works_ev.bind ?_
  obtain ⟨x, hx, hx2⟩ := long_ev a1 a2 b1 b3 b2
  refine Ev.bind (v := x) (Ev.neg (by simp) (hx.bind (Ev.pure _))) ?_
  by_cases c1 : (x || (decide ((a2.length : Int) > (120 : Int)))) = true
  · exact Ev.pos c1 (works_ev.bind (Ev.pure _))
  refine Ev.neg c1 ?_
  have hx0 : x = false := by cases x <;> simp_all
  subst hx0
  obtain ⟨l1, l2⟩ := hx2 rfl
  have bad : ∀ e : Int, e ≠ 0 → Ev (fun k => room_Now k a0 a1 a2) (0, 0, e) → Ev (fun k => Option.bind (room_Now k a0 a1 a2) (fun t25 => (if (t25.2.2 != (0 : Int)) = true then some true else (Option.bind (room_Now k a0 a1 ([] : (List api_Event))) (fun t29 => (Option.bind (ferrymanlaw30_RoomEvents_l0 a0 a1 a2 k t29.1 t29.2.1 (1 : Int)) (fun o449o => Sum.elim (fun r' => some r') (fun _ => some true) o449o))))))) true := fun e he h => Ev.bind h (Ev.pos (by simpa using he) (Ev.pure _))
  rcases beg_ev a0 a1 with hb | ⟨hm, hp, x0, R0, hb⟩
  · have ho : Ev (fun k => replay_over_v k a0 a1 a2) (.inl ()) := by unfold replay_over_v; exact Ev.bind hb (Ev.pure _)
    have hM : Ev (fun k => replay_Model_v k a0 a1 a2) (.inl ()) := Ev.bind ho (Ev.pure _)
    exact bad 1 (by decide) (Ev.bind hM (Ev.pure _))
  · rcases ov_all hp a2 (by omega) l2 a2.length 0 x0 (by omega) R0 with h | ⟨y, hy, h⟩
    · have ho : Ev (fun k => replay_over_v k a0 a1 a2) (.inr (.inl ())) := by unfold replay_over_v; exact Ev.bind hb (Ev.bind h (Ev.pure _))
      have hM : Ev (fun k => replay_Model_v k a0 a1 a2) (.inr (.inl ())) := Ev.bind ho (Ev.pure _)
      exact bad 4 (by decide) (Ev.bind hM (Ev.pure _))
    · have hall : ∀ q n, n + q = a2.length → ∃ y, RI a0.Tasks.toNat a1 n y ∧ Ev (OV (a2.take n) 0 x0) (.inr (tup y)) := by
        intro q
        induction q with
        | zero => intro n hn; obtain rfl : n = a2.length := by omega
                  exact ⟨y, hy, by rw [List.take_length]; exact h⟩
        | succ q ih =>
          intro n hn
          obtain ⟨z, _, hz⟩ := ih (n + 1) (by omega)
          obtain ⟨u, v, ru, rv, tt, hu, hv⟩ := ov_pre hp a2 (by omega) l2 n (by omega) n 0 x0 z (by omega) R0 hz
          exact ⟨u, ru, hu⟩
      have hnow := now_ev a0 hm a1 a2 (by omega) hy (ov_over hb h)
      refine Ev.bind hnow (Ev.neg (by simp) ?_)
      have e0 := ov_end ([] : List api_Event) x0
      have hnow0 := now_ev a0 hm a1 [] (by omega) R0 (ov_over hb e0)
      refine Ev.bind hnow0 ?_
      have h0 : Ev (OV (a2.take 0) 0 x0) (.inr (tup x0)) := by rw [List.take_zero]; exact e0
      have hfin := events_l0 a0 hm a1 a2 (by omega) l2 hp R0 hb (fun n hn => hall (a2.length - n) n (by omega)) a2.length 0 x0 (by omega) R0 h0
      exact Ev.bind hfin (Ev.pure _)
end Go.Proofs.YtkknoimjgifhlaaDoor
