/-  The plain law ModelVacuums. -/
import Derived.Test.YtcngjjlhdlbogaaDoorPureVac
import Derived.Test.YtcngjjlhdlbogaaDoorOpnm1
import Derived.Test.YtcngjjlhdlbogaaDoorGm1LModelVacuums
namespace Go.Proofs.YtcngjjlhdlbogaaDoor
open Go Go.RowKit
set_option linter.unusedVariables false
set_option linter.unusedSimpArgs false
set_option maxRecDepth 100000
theorem vac_do {m : Mod} (hT : 1 ≤ m.c.Tasks) : doS m 0 ⟨8, 0, [], [], [], 0, 0⟩ = (ans 0, vacS m) := by
  have h : refS m 0 ⟨8, 0, [], [], [], 0, 0⟩ = 0 := by
    unfold refS
    rw [if_neg (by dsimp only; omega), if_neg (by simp), if_neg (by simp [needsB])]
    simp [fitsB]
  unfold doS
  rw [if_neg (by simpa using h)]
  simp [actS]
theorem vacs_l0 (c : api_Config) (hT : 1 ≤ c.Tasks) (a : List Turn) (v : List Int) : ∀ (j i p : Nat) (m n : Mod), i + j = a.length → a.length ≤ 100000 → Inv p m → Inv p n → Ok m → Ok n → Ky m → m.c = c → Vc m n → p + 2 * j ≤ 999990 →
    ∃ r, Ev (fun k => ferrymanlaw16_ModelVacuums_l0 a v k (i : Int) n m) r ∧ (r = .inl true ∨ r = .inr ()) := by
  intro j
  induction j with
  | zero =>
    intro i p m n hi hb I J O Q K hc V hp
    refine ⟨.inr (), Ev.shift 1 ⟨0, fun k hk => ?_⟩, .inr rfl⟩
    show ferrymanlaw16_ModelVacuums_l0 a v (k + 1) (i : Int) n m = _
    rw [ferrymanlaw16_ModelVacuums_l0.eq_2]
    have : ¬ ((i : Int) < (a.length : Int)) := by omega
    simp [this]
  | succ j ih =>
    intro i p m n hi hb I J O Q K hc V hp
    have hlt : i < a.length := by omega
    have h3 : (i : Int) < (a.length : Int) := by omega
    by_cases hk : a[i].Call.Kind = 8
    · obtain ⟨r, hr, hr2⟩ := ih (i + 1) p m n (by omega) hb I J O Q K hc V (by omega)
      refine ⟨r, Ev.shift 1 (Ev.congr (g := fun k => _) ?_ (fun k => by rw [ferrymanlaw16_ModelVacuums_l0.eq_2])), hr2⟩
      rw [wr1 (i := i) (by omega), rdN hlt]
      exact Ev.pos (by simpa using h3) (Ev.pos (inR hlt) (Ev.pos (by simpa using hk) hr))
    obtain ⟨b, hb1⟩ : ∃ b : Bool, Ev (fun k => (if (decide ((i : Int) < (v.length : Int))) = true then (if 0 ≤ (i : Int) ∧ (i : Int) < (v.length : Int) then some (((Int.tmod (rd v (i : Int)) (2 : Int)) == (1 : Int))) else none) else some (false))) b := by
      by_cases h : (i : Int) < (v.length : Int)
      · exact ⟨_, Ev.pos (by simpa using h) (Ev.pos ⟨by omega, h⟩ (Ev.pure _))⟩
      · exact ⟨_, Ev.neg (by simpa using h) (Ev.pure _)⟩
    obtain ⟨n1, hn1, J1, Q1, V1⟩ : ∃ n1, Ev (fun k => (if b = true then (Option.bind (model_Model_Do_POOOO k n (0 : Int) (⟨(8 : Int), (0 : Int), ([] : Str), ([] : Str), ([] : Str), (0 : Int), (0 : Int)⟩ : api_Call)) (fun t9684 => some (t9684.2))) else some n)) n1 ∧ Inv (p + 1) n1 ∧ Ok n1 ∧ Vc m n1 := by
      cases b with
      | false => exact ⟨n, Ev.neg (by simp) (Ev.pure _), J.mono (by omega), Q, V⟩
      | true =>
        refine ⟨vacS n, Ev.pos rfl (Ev.bind (v := (ans 0, vacS n)) ?_ (Ev.pure _)), J.vac, Q.vac, V.vac J Q⟩
        exact (do_ev J (by omega) 0 _).eq (vac_do (by rw [V.c, hc]; exact hT))
    have I' := I.do_ a[i].Task a[i].Call
    have J' := J1.do_ a[i].Task a[i].Call
    have O' := Ok.do_ I O a[i].Task a[i].Call
    have Q' := Ok.do_ J1 Q1 a[i].Task a[i].Call
    have K' := K.do_ a[i].Task a[i].Call
    have hc' : (doS m a[i].Task a[i].Call).2.c = c := (doS_c _ _ _).trans hc
    have hpairs := doS_pairs I a[i].Task a[i].Call
    have hboth : Ev (fun k => (Option.bind (model_Model_Do_POOOO k m (a[i].Task) (a[i].Call)) (fun t11699 => (Option.bind (model_Model_Do_POOOO k n1 (a[i].Task) (a[i].Call)) (fun t11721 => some (t11699.1.Err, t11699.1.Found, t11699.1.Value, t11699.1.Pairs, t11721.1.Err, t11721.1.Found, t11721.1.Value, t11721.1.Pairs, t11721.2, t11699.2))))))
        ((doS m a[i].Task a[i].Call).1.Err, (doS m a[i].Task a[i].Call).1.Found, (doS m a[i].Task a[i].Call).1.Value, (doS m a[i].Task a[i].Call).1.Pairs, (doS n1 a[i].Task a[i].Call).1.Err, (doS n1 a[i].Task a[i].Call).1.Found, (doS n1 a[i].Task a[i].Call).1.Value, (doS n1 a[i].Task a[i].Call).1.Pairs, (doS n1 a[i].Task a[i].Call).2, (doS m a[i].Task a[i].Call).2) :=
      (do_ev I (by omega) a[i].Task a[i].Call).bind ((do_ev J1 (by omega) a[i].Task a[i].Call).bind (Ev.pure _))
    have hkb : ¬ ((a[i].Call.Kind == (8 : Int)) = true) := by simpa using hk
    by_cases hf : (doS m a[i].Task a[i].Call).1.Err = 34
    · refine ⟨.inl true, Ev.shift 1 (Ev.congr (g := fun k => _) ?_ (fun k => by rw [ferrymanlaw16_ModelVacuums_l0.eq_2])), .inl rfl⟩
      rw [wr1 (i := i) (by omega), rdN hlt]
      refine Ev.pos (by simpa using h3) (Ev.pos (inR hlt) (Ev.neg hkb (Ev.bind hb1 (Ev.bind hn1 (Ev.pos (inR hlt) (Ev.pos (inR hlt) (Ev.pos (inR hlt) (Ev.pos (inR hlt) (Ev.bind hboth ?_)))))))))
      exact Ev.pos (by simpa using hf) (Ev.pure _)
    obtain ⟨e, V'⟩ := V1.do_ I J1 O Q1 K a[i].Task a[i].Call hk hf
    obtain ⟨r, hr, hr2⟩ := ih (i + 1) (p + 2) _ _ (by omega) hb (I'.mono (by omega)) J' O' Q' K' hc' V' (by omega)
    refine ⟨r, Ev.shift 1 (Ev.congr (g := fun k => _) ?_ (fun k => by rw [ferrymanlaw16_ModelVacuums_l0.eq_2])), hr2⟩
    rw [wr1 (i := i) (by omega), rdN hlt]
    refine Ev.pos (by simpa using h3) (Ev.pos (inR hlt) (Ev.neg hkb (Ev.bind hb1 (Ev.bind hn1 (Ev.pos (inR hlt) (Ev.pos (inR hlt) (Ev.pos (inR hlt) (Ev.pos (inR hlt) (Ev.bind hboth ?_)))))))))
    have hret := V'.ret I' J' O' Q'
    have hact := V'.act
    have hclk := V'.ck
    generalize doS m a[i].Task a[i].Call = x at *
    generalize doS n1 a[i].Task a[i].Call = y at *
    obtain ⟨x1, m'⟩ := x
    obtain ⟨y1, n'⟩ := y
    dsimp only at *
    subst e
    refine Ev.neg (by simpa using hf) ?_
    refine Ev.bind (v := true) ⟨y1.Pairs.length + 1, fun k hk => (Answers_eq y1 y1 (by omega) k (by omega)).trans (by simp)⟩ ?_
    refine Ev.bind (v := false) (Ev.neg (by simp) (Ev.bind (v := m'.clock) ⟨0, fun k _ => rfl⟩ (Ev.bind (v := n'.clock) ⟨0, fun k _ => rfl⟩ ((Ev.pure _).eq (by simp [hclk]))))) ?_
    refine Ev.bind (v := false) (Ev.neg (by simp) (Ev.bind (Active_ev I' (by omega)) (Ev.bind (Active_ev J' (by omega)) ((Ev.pure _).eq (by simp [hact]))))) ?_
    refine Ev.bind (v := false) (Ev.neg (by simp) (Ev.bind (Ret_ev J' (by omega)) (Ev.bind (Ret_ev I' (by omega)) ((Ev.pure _).eq (by simp; omega))))) ?_
    exact Ev.neg (by simp) hr
theorem pure_ModelVacuums (a0 : api_Config) (a1 : (List ferrymanlaw16_Turn)) (a2 : (List Int)) (_ : wf_api_Config a0) (w1 : (wfSl wf_ferrymanlaw16_Turn) a1) (_ : (wfSl (wfInt .u8)) a2) : ∃ k, ferrymanlaw16_ModelVacuums k a0 a1 a2 = some true := by
  refine Ev.ex (f := fun k => ferrymanlaw16_ModelVacuums k a0 a1 a2) ?_
  have b1 : a1.length ≤ 9223372036854775807 := Nat.le_trans w1.1 (by decide)
  unfold ferrymanlaw16_ModelVacuums
  refine works_ev.bind ?_
  obtain ⟨x, hx, hx2⟩ := large_ev a1 b1
  refine Ev.bind (v := x) (Ev.neg (by simp) (hx.bind (Ev.pure _))) ?_
  cases x with
  | true => exact Ev.pos rfl (works_ev.bind (Ev.pure _))
  | false =>
    have l1 := hx2 rfl
    refine Ev.neg (by simp) ?_
    refine Ev.bind ⟨9, fun k hk => New_eq k hk a0⟩ ?_
    cases hm : mayB a0 with
    | false => exact Ev.bind ⟨9, fun k hk => New_eq k hk a0⟩ (by rw [hm]; exact Ev.pure _)
    | true =>
      have hm2 := hm
      simp only [mayB, Bool.and_eq_true, decide_eq_true_eq] at hm2
      have O0 : Ok (newS a0) := ⟨fun p hp => (by cases hp), fun p hp => (by cases hp)⟩
      have K0 : Ky (newS a0) := by show (0 : Int) ≤ a0.Keys; omega
      have V0 : Vc (newS a0) (newS a0) := ⟨rfl, rfl, rfl, rfl, rfl, fun y => ⟨0, ⟨Int.le_refl _, fun x hx => (by cases hx)⟩, rfl⟩⟩
      obtain ⟨r, hr, hr2⟩ := vacs_l0 a0 (by omega) a1 a2 a1.length 0 0 (newS a0) (newS a0) (by omega) (by omega) (Inv.new a0) (Inv.new a0) O0 O0 K0 rfl V0 (by omega)
      refine Ev.bind ⟨9, fun k hk => New_eq k hk a0⟩ ?_
      rw [hm]
      refine Ev.bind hr ?_
      rcases hr2 with rfl | rfl
      · exact Ev.pure _
      · exact Ev.pure _
end Go.Proofs.YtcngjjlhdlbogaaDoor
