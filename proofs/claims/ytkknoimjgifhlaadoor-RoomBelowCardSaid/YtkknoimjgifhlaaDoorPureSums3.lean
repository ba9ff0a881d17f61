/-  The sums behind a history: what each call that is under way asks for. (Ground of RoomEvents and RoomBelow.) -/
import Derived.Test.YtkknoimjgifhlaaDoorPureHist3
namespace Go.Proofs.YtkknoimjgifhlaaDoor
open Go Go.RowKit
set_option linter.unusedVariables false
set_option linter.unusedSimpArgs false
set_option maxRecDepth 100000
def askS (c : api_Config) (x : api_Call) (took : Int) : Int × Int := if x.Kind = 3 ∨ x.Kind = 4 then (2, 1) else if x.Kind = 9 then (c.Depth + 1, 0) else (took, took)
theorem ask_ev (c : api_Config) (hc : 0 ≤ c.Depth ∧ c.Depth ≤ 100) (x : api_Call) (took : Int) (k : Nat) : room_Now_1 k x took c = some (askS c x took) := by
  unfold askS
  by_cases h3 : x.Kind = 3
  · simp [room_Now_1, h3]
  by_cases h4 : x.Kind = 4
  · simp [room_Now_1, h4]
  by_cases h9 : x.Kind = 9
  · simp [room_Now_1, h9, wr (x := c.Depth + 1) (by omega) (by omega)]
  · simp [room_Now_1, h3, h4, h9]
def tookS (m : Mod) (t : Int) (x : api_Call) : Int := imax 0 (retS m (keysS m) - retS (doS m t x).2 (keysS (doS m t x).2))
/-- What is added for calls under way: by calls in their row, from a model on. -/
def sums (c : api_Config) (p : Progs) : Mod → List replay_Done → Int × Int
  | _, [] => (0, 0)
  | m, d :: t =>
    let x := rd (rd p d.Task) d.Call
    let r := sums c p (doS m d.Task x).2 t
    if d.Back < 0 then ((askS c x (tookS m d.Task x)).1 + r.1, (askS c x (tookS m d.Task x)).2 + r.2) else r
theorem ret_le {n : Nat} {m : Mod} (I : Inv n m) (hn : n ≤ 2000) : 0 ≤ retS m (keysS m) ∧ retS m (keysS m) ≤ 4100000 := by
  have h := retS_bound I (keysS m)
  have h2 := keysS_len m
  have h3 := I.rl
  have h4 : ((keysS m).length : Int) * ((n : Int) + 1) ≤ 2000 * 2001 := Int.mul_le_mul (by omega) (by omega) (by omega) (by omega)
  omega
theorem took_le {n : Nat} {m : Mod} (I : Inv n m) (hn : n < 2000) (t : Int) (x : api_Call) : 0 ≤ tookS m t x ∧ tookS m t x ≤ 4100000 := by
  have h := ret_le I (by omega)
  have h2 := ret_le (I.do_ t x) (by omega)
  unfold tookS imax; split <;> omega
theorem ask_le {n : Nat} {m : Mod} (I : Inv n m) (hn : n < 2000) (c : api_Config) (hc : 0 ≤ c.Depth ∧ c.Depth ≤ 100) (t : Int) (x : api_Call) :
    0 ≤ (askS c x (tookS m t x)).1 ∧ (askS c x (tookS m t x)).1 ≤ 4100000 ∧ 0 ≤ (askS c x (tookS m t x)).2 ∧ (askS c x (tookS m t x)).2 ≤ 4100000 := by
  have h := took_le I hn t x
  unfold askS
  split
  · simp
  split
  · simp; omega
  · simp; omega
theorem sums_le (c : api_Config) (hc : 0 ≤ c.Depth ∧ c.Depth ≤ 100) (p : Progs) : ∀ (D : List replay_Done) (n : Nat) (m : Mod), Inv n m → n + D.length < 2000 → 0 ≤ (sums c p m D).1 ∧ (sums c p m D).1 ≤ 4100000 * (D.length : Int) ∧ 0 ≤ (sums c p m D).2 ∧ (sums c p m D).2 ≤ 4100000 * (D.length : Int)
  | [], n, m, I, hn => by simp [sums]
  | d :: t, n, m, I, hn => by
    simp only [List.length_cons] at hn
    have h := sums_le c hc p t (n + 1) _ (I.do_ d.Task (rd (rd p d.Task) d.Call)) (by omega)
    have h2 := ask_le I (by omega) c hc d.Task (rd (rd p d.Task) d.Call)
    have e : ((d :: t).length : Int) = (t.length : Int) + 1 := by simp
    rw [e]
    unfold sums
    dsimp only
    split <;> (first | omega | (dsimp only; omega))
theorem now_sums (c : api_Config) (hc : 0 ≤ c.Depth ∧ c.Depth ≤ 100) (p : Progs) (D : List replay_Done) (hD : D.length ≤ 1000) (hk : ∀ d ∈ D, okCall p d.Task d.Call) : ∀ (j i : Nat) (n : Nat) (m : Mod) (s a : Int), i + j = D.length → Inv n m → n + j < 2000 → 0 ≤ s → s ≤ 4100000 * ((i : Int) + 1) → 0 ≤ a → a ≤ 4100000 * ((i : Int) + 1) →
    Ev (fun k => room_Now_l0 c p D k s a (i : Int) m) (s + (sums c p m (D.drop i)).1, a + (sums c p m (D.drop i)).2) := by
  intro j
  induction j with
  | zero =>
    intro i n m s a hi I hn _ _ _ _
    refine Ev.shift 1 ⟨0, fun k hk => ?_⟩
    show room_Now_l0 c p D (k + 1) s a (i : Int) m = _
    rw [room_Now_l0.eq_2, List.drop_of_length_le (by omega)]
    have : ¬ ((i : Int) < (D.length : Int)) := by omega
    simp [this, sums]
  | succ j ih =>
    intro i n m s a hi I hn hs0 hs1 ha0 ha1
    have hlt : i < D.length := by omega
    have h3 : (i : Int) < (D.length : Int) := by omega
    obtain ⟨t0, t1, c0, c1⟩ := hk _ (List.getElem_mem hlt)
    refine Ev.shift 1 (Ev.congr (g := fun k => _) ?_ (fun k => by rw [room_Now_l0.eq_2]))
    rw [wr1 (i := i) (by omega), rdN hlt, List.drop_eq_getElem_cons hlt]
    have I' := I.do_ D[i].Task (rd (rd p D[i].Task) D[i].Call)
    have hq := ask_le I (by omega) c hc D[i].Task (rd (rd p D[i].Task) D[i].Call)
    have hr1 := ret_le I (by omega)
    have hr2 := ret_le I' (by omega)
    have hw : IntKind.i64.wrap (retS m (keysS m) - retS (doS m D[i].Task (rd (rd p D[i].Task) D[i].Call)).2 (keysS (doS m D[i].Task (rd (rd p D[i].Task) D[i].Call)).2)) = retS m (keysS m) - retS (doS m D[i].Task (rd (rd p D[i].Task) D[i].Call)).2 (keysS (doS m D[i].Task (rd (rd p D[i].Task) D[i].Call)).2) := wr (by omega) (by omega)
    have head : ∀ v : Int × Int, ((if D[i].Back < 0 then (s + (askS c (rd (rd p D[i].Task) D[i].Call) (tookS m D[i].Task (rd (rd p D[i].Task) D[i].Call))).1, a + (askS c (rd (rd p D[i].Task) D[i].Call) (tookS m D[i].Task (rd (rd p D[i].Task) D[i].Call))).2) else (s, a)) = v) →
        Ev (fun k => (if 0 ≤ (i : Int) ∧ (i : Int) < (D.length : Int) then (if 0 ≤ D[i].Task ∧ D[i].Task < (p.length : Int) then (if 0 ≤ D[i].Call ∧ D[i].Call < ((rd p D[i].Task).length : Int) then (Option.bind (α := Int) (Option.bind (model_Model_Retained_POOOO k m) (fun t2218 => some (t2218))) (fun x2217 => (Option.bind (model_Model_Do_POOOO k m D[i].Task (rd (rd p D[i].Task) D[i].Call)) (fun t2267 => (Option.bind (model_Model_Retained_POOOO k t2267.2) (fun t2301 => (Option.bind (room_Now_1 k (rd (rd p D[i].Task) D[i].Call) (imax (0 : Int) (IntKind.i64.wrap (x2217 - t2301))) c) (fun t2306 => (Option.bind (α := Int × Int) (if (decide (D[i].Back < (0 : Int))) = true then some ((IntKind.i64.wrap (s + t2306.1)), (IntKind.i64.wrap (a + t2306.2))) else some (s, a)) (fun ⟨x2313, x2314⟩ => some (x2313, x2314, t2267.2))))))))))) else none) else none) else none)) (v.1, v.2, (doS m D[i].Task (rd (rd p D[i].Task) D[i].Call)).2) := fun v hv => by
      refine Ev.pos (inR hlt) (Ev.pos ⟨t0, t1⟩ (Ev.pos ⟨c0, c1⟩ ?_))
      refine Ev.bind (v := retS m (keysS m)) ((Ret_ev I (by omega)).bind (Ev.pure _)) ?_
      refine Ev.bind (do_ev I (by omega) _ _) ?_
      refine Ev.bind (Ret_ev I' (by omega)) ?_
      rw [hw]
      refine Ev.bind (Ev.all (fun k => ask_ev c hc _ _ k)) ?_
      refine Ev.bind (v := v) ?_ (Ev.pure _)
      by_cases hb : D[i].Back < 0
      · rw [if_pos hb] at hv
        refine Ev.pos (by simpa using hb) ?_
        have e1 : IntKind.i64.wrap (s + (askS c (rd (rd p D[i].Task) D[i].Call) (tookS m D[i].Task (rd (rd p D[i].Task) D[i].Call))).1) = v.1 := by rw [wr (by omega) (by omega), ← hv]
        have e2 : IntKind.i64.wrap (a + (askS c (rd (rd p D[i].Task) D[i].Call) (tookS m D[i].Task (rd (rd p D[i].Task) D[i].Call))).2) = v.2 := by rw [wr (by omega) (by omega), ← hv]
        refine (Ev.pure (v.1, v.2)).congr (fun k => ?_)
        show some (IntKind.i64.wrap (s + (askS c _ (tookS m D[i].Task _)).1), IntKind.i64.wrap (a + (askS c _ (tookS m D[i].Task _)).2)) = _
        rw [e1, e2]
      · rw [if_neg hb] at hv
        refine Ev.neg (by simpa using hb) ?_
        rw [← hv]; exact Ev.pure _
    refine Ev.pos (by simpa using h3) ?_
    by_cases hb : D[i].Back < 0
    · refine Ev.bind (head _ (if_pos hb)) ?_
      refine (ih (i + 1) (n + 1) _ _ _ (by omega) I' (by omega) (by omega) (by omega) (by omega) (by omega)).eq ?_
      simp only [sums, hb, if_true]
      congr 1 <;> omega
    · refine Ev.bind (head _ (if_neg hb)) ?_
      refine (ih (i + 1) (n + 1) _ _ _ (by omega) I' (by omega) (by omega) (by omega) (by omega) (by omega)).eq ?_
      simp only [sums, hb, if_false]
end Go.Proofs.YtkknoimjgifhlaaDoor
