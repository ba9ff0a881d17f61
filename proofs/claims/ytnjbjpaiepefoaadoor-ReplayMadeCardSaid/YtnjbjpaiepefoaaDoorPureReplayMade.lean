/-  The plain law ReplayMade. -/
import Derived.Test.YtnjbjpaiepefoaaDoorOpnp2
import Derived.Test.YtnjbjpaiepefoaaDoorGp2LReplayMade
import Derived.Test.YtnjbjpaiepefoaaDoorPureMade2
namespace Go.Proofs.YtnjbjpaiepefoaaDoor
open Go Go.RowKit
set_option linter.unusedVariables false
set_option linter.unusedSimpArgs false
set_option maxRecDepth 100000
theorem ovEq_AO : OvEq Yt := fun L k i x => by rw [Yt.eq_2]
section
variable {c : Qo} {p : Progs} {L : List QG} {T : Nat} {x0 : Run}
theorem Answers_AO_ev (hb : Ev (fun k => ZH k c p) (.inr (.inl x0))) (R : RI T p 0 x0) (hp : p.length ≤ T) (hl : L.length ≤ 1000) (hA : ∀ e ∈ L, e.Answer.Pairs.length ≤ 100000) {y : Core} (h : overC p L 0 (coreOf x0) = some y) :
    Ev (fun k => Yu k c p L) y.done := by
  rcases ov_all hp Yt ovEq_AO L hl hA L.length 0 x0 (by omega) R with ⟨h1, g⟩ | ⟨y', hy, h1, g⟩
  · have h2 : overC p L 0 (coreOf x0) = none := h1
    rw [h] at h2; cases h2
  · have h2 : overC p L 0 (coreOf x0) = some (coreOf y') := h1
    rw [h] at h2
    have e : y = coreOf y' := Option.some.inj h2
    rw [e]
    have hov : Ev (fun k => Yy k c p L) (.inr (.inr y')) := by
      unfold Yy
      exact hb.bind (g.bind (Ev.pure _))
    unfold Yu
    exact hov.bind (Ev.pure _)
end
theorem madeL_all (P : Qf → Prop) : ∀ (D : List ZL) (l : List QG), (∀ e ∈ l, P e.Answer) → (∀ d ∈ D, P d.Answer) → ∀ e ∈ madeL D l, P e.Answer
  | [], _, h, _ => h
  | d :: D, l, h, g => madeL_all P D (putA l d) (fun e he => by
      unfold putA at he
      split at he
      · rcases List.mem_or_eq_of_mem_set he with h1 | h1
        · exact h e h1
        · rw [h1]; exact g d List.mem_cons_self
      · exact h e he) fun z hz => g z (List.mem_cons_of_mem _ hz)
theorem pure_ReplayMade (a0 : Qo) (a1 : (List (List QW))) (a2 : (List QG)) (a3 : Int) (a4 : Int) (a5 : Qf) (_ : X9 a0) (w1 : (wfSl (wfSl VO)) a1) (w2 : (wfSl VW) a2) (_ : (wfInt .i64) a3) (_ : (wfInt .i64) a4) (w5 : VA a5) : ∃ k, YY k a0 a1 a2 a3 a4 a5 = some true := by
  refine Ev.ex (f := fun k => YY k a0 a1 a2 a3 a4 a5) ?_
  have mx : maxLen ≤ 9223372036854775807 := by decide
  obtain ⟨b, hb, hb2⟩ := large_ev a1 a2 (Nat.le_trans w1.1 mx) (fun e he => Nat.le_trans (w1.2 e he).1 mx) (Nat.le_trans w2.1 mx) (fun e he => Nat.le_trans (w2.2 e he).2.2.2.2.2.2.1 mx)
  obtain ⟨b', hb', hb2'⟩ := large_ev [] [⟨0, 0, 0, a5⟩] (by simp) (by simp) (by simp) (fun e he => by simp at he; subst he; exact Nat.le_trans w5.2.2.2.1 mx)
  unfold YY
  refine works_ev.bind (Ev.bind (v := b) (Ev.neg (by simp) (hb.bind (Ev.pure _))) (Ev.bind (v := b || b') ?_ ?_))
  · cases b
    · exact Ev.neg (by simp) (hb'.bind (Ev.pure _))
    · exact Ev.pos rfl (Ev.pure _)
  by_cases h : (b || b') = true
  · exact Ev.pos h (works_ev.bind (Ev.pure _))
  refine Ev.neg h ?_
  simp only [Bool.or_eq_true, not_or, Bool.not_eq_true] at h
  obtain ⟨hl0, hA0⟩ := hb2 h.1
  obtain ⟨_, hO0⟩ := hb2' h.2
  have hl : a2.length ≤ 1000 := by omega
  have hA : ∀ e ∈ a2, e.Answer.Pairs.length ≤ 100000 := fun e he => by have := hA0 e he; omega
  have hO : a5.Pairs.length ≤ 100000 := by have := hO0 ⟨0, 0, 0, a5⟩ (by simp); simp only at this; omega
  rcases beg_ev a0 a1 with hbeg | ⟨hm, hpT, x0, R, _, hbeg⟩
  · have hM : Ev (fun k => Yz k a0 a1 a2) (.inl ()) := by unfold Yz; exact (over_v_no hbeg).bind (Ev.pure _)
    exact hM.bind ((Check_no hbeg).bind (Ev.eq (Ev.pure _) (by decide)))
  rcases over_v_ev hbeg R hpT hl hA with ⟨h, g⟩ | ⟨y, Ry, h, g⟩
  · have hM : Ev (fun k => Yz k a0 a1 a2) (.inr (.inl ())) := by unfold Yz; exact g.bind (Ev.pure _)
    obtain ⟨q, o, hq, q0, ho⟩ := check_form a1 a2 0 (coreOf x0) (by omega) h
    have hC := Check_ev hbeg R hpT hl hA
    rw [hq] at hC
    refine hM.bind (hC.bind (Ev.eq (Ev.pure _) ?_))
    have hq1 : (q == (-1 : Int)) = false := by simp; omega
    show (((o != (0 : Int)) || false) && ((o == (1 : Int)) == (q == (-1 : Int)))) = true
    rw [hq1]
    rcases ho with rfl | rfl <;> rfl
  have hM : Ev (fun k => Yz k a0 a1 a2) (.inr (.inr y.m)) := by unfold Yz; exact g.bind (Ev.pure _)
  have K0 := KInv0 (L := a2) R
  obtain ⟨Kend, _, _⟩ := stay hpT a2 0 _ (coreOf y) (by simp) (Nat.zero_le _) K0 h
  generalize hDD : y.done = D at *
  have hDc : (coreOf y).done = D := hDD
  have hD : D.length ≤ 1000 := by have := Ry.dl; rw [hDD] at this; omega
  have hrt : RtAt D a2 := by have := Kend.rt; rw [hDc] at this; exact this
  have hbk : ∀ d ∈ D, d.Back < (a2.length : Int) := by have := Kend.bk; rw [hDc] at this; exact this
  have hpr : D.Pairwise (fun a b => 0 ≤ a.Back → a.Back ≠ b.Back) := by have := Kend.pair; rw [hDc] at this; exact this
  have hda : ∀ d ∈ D, d.Answer.Pairs.length ≤ 100000 := fun d hd => by have := (Ry.dn d (by rw [hDD]; exact hd)).2; omega
  have hmade := made_some hl (by omega) hbk (by have := Answers_ev (c := a0) (p := a1) (L := a2) g; rw [hDD] at this; exact this)
  have hkey := madeL_key D a2 hrt
  have hlen := madeL_len D a2
  have hA' := madeL_all (fun a => a.Pairs.length ≤ 100000) D a2 hA hda
  have htold := madeL_told D a2 hpr hrt
  generalize madeL D a2 = L' at *
  have hl' : L'.length ≤ 1000 := by omega
  have hov : overC a1 L' 0 (coreOf x0) = some (coreOf y) := by rw [overC_key a1 L' a2 0 _ hkey]; exact h
  have hck : checkC a1 L' 0 (coreOf x0) = .inr () := check_ok hpT L' 0 _ (coreOf y) (by simp) (K0.to hkey.symm) hov (by rw [hDc]; exact htold)
  have hC := Check_ev hbeg R hpT hl' hA'
  rw [hck] at hC
  refine hM.bind (hmade.bind (hC.bind (Ev.neg (by decide) ?_)))
  obtain ⟨m, hm, m1, m2⟩ := u64_pick a4 (n := L'.length + 1) (by omega) (by omega)
  have ew : IntKind.i64.wrap ((L'.length : Int) + (1 : Int)) = ((L'.length + 1 : Nat) : Int) := by rw [wr (by omega) (by omega)]; omega
  try dsimp only
  rw [ew, m2]
  refine Ev.chk m1 (Ev.chk ⟨by omega, by omega⟩ ?_)
  have hC2 := Check_ev (L := L'.take m) hbeg R hpT (by simp; omega) (fun e he => hA' e (List.mem_of_mem_take he))
  rw [check_take a1 L' m 0 _ hck] at hC2
  refine Ev.bind hC2 (Ev.neg (by decide) ?_)
  have hAO := Answers_AO_ev hbeg R hpT hl' hA' hov
  rw [hDc] at hAO
  refine hAO.bind ?_
  by_cases hz : D.length = 0
  · exact Ev.pos (by simp [hz]) (Ev.pure _)
  refine Ev.neg (by simpa using hz) ?_
  obtain ⟨n, hn, n1, n2⟩ := u64_pick a3 (n := D.length) (by omega) (by omega)
  try dsimp only
  rw [n2, rdN hn]
  refine Ev.chk n1 (Ev.chk ⟨by omega, by omega⟩ ?_)
  refine Ev.bind (v := decide (D[n].Back < 0) || decide (a5 = D[n].Answer)) ?_ ?_
  · by_cases hq : D[n].Back < 0
    · exact Ev.eq (Ev.pos (by simpa using hq) (Ev.pure _)) (by simp [hq])
    · exact Ev.eq (Ev.neg (by simpa using hq) ((mSame_ev a5 D[n].Answer (by omega)).bind (Ev.pure _))) (by simp [hq])
  by_cases hs : (decide (D[n].Back < 0) || decide (a5 = D[n].Answer)) = true
  · exact Ev.pos hs (Ev.pure _)
  refine Ev.neg hs ?_
  simp only [Bool.or_eq_true, decide_eq_true_eq, not_or] at hs
  obtain ⟨hs0, hs1⟩ := hs
  have hmem := List.getElem_mem hn
  have hb0 := hbk _ hmem
  obtain ⟨r1, r2⟩ := hrt _ hmem (by omega)
  obtain ⟨bk, hbkn⟩ := Int.eq_ofNat_of_zero_le (show 0 ≤ D[n].Back by omega)
  try dsimp only
  simp only [hbkn] at *
  have r1 : bk < a2.length := by first | exact r1 | omega
  have hbL : bk < L'.length := by omega
  refine Ev.chk ⟨by omega, by omega⟩ (Ev.bind (Ev.pure _) ?_)
  generalize hL2 : List.set L' (bk : Int).toNat (⟨(rd L' (bk : Int)).What, (rd L' (bk : Int)).Task, (rd L' (bk : Int)).Call, ⟨a5.Err, a5.Found, a5.Value, a5.Pairs⟩⟩ : QG) = L2
  have hq3 : L'[bk].What = 3 := (what_key hkey hbL r1).trans r2
  have e2 : L2 = L'.set bk ⟨L'[bk].What, L'[bk].Task, L'[bk].Call, a5⟩ := by rw [← hL2, rdN hbL]; rfl
  have len2 : L2.length = L'.length := by rw [e2, List.length_set]
  have g2 : ∀ (j : Nat) (h : j < L2.length) (h' : j < L'.length), j ≠ bk → L2[j] = L'[j] := fun j h h' hj => by simp only [e2]; rw [List.getElem_set, if_neg (by omega)]
  have g3 : ∀ h : bk < L2.length, L2[bk] = ⟨L'[bk].What, L'[bk].Task, L'[bk].Call, a5⟩ := fun h => by simp only [e2]; rw [List.getElem_set, if_pos rfl]
  have hkey2 : L2.map key = L'.map key := by
    rw [e2]
    refine map_set_self key hbL ?_
    unfold key
    simp only [hq3, if_true]
  have hA2 : ∀ e ∈ L2, e.Answer.Pairs.length ≤ 100000 := fun e he => by
    rw [e2] at he
    rcases List.mem_or_eq_of_mem_set he with h1 | h1
    · exact hA' e h1
    · rw [h1]; exact hO
  have hov2 : overC a1 L2 0 (coreOf x0) = some (coreOf y) := by rw [overC_key a1 L2 L' 0 _ hkey2]; exact hov
  have hb2 : bk < L2.length := by omega
  have hbad : checkC a1 L2 0 (coreOf x0) = .inl ((bk : Int), 7) := by
    refine check_bad hpT hb2 (by rw [g3 hb2]; exact hq3) L2 0 _ (coreOf y) (by simp) (Nat.zero_le _) (K0.to (hkey2.trans hkey).symm) hov2 (fun j hj => ?_) fun d hd hdb => ?_
    · rw [hDc]
      intro hj2 hw d hd hdb
      have hj' : j < L'.length := by omega
      rw [g2 j hj2 hj' (by omega)] at hw ⊢
      exact htold j hj' hw d hd hdb
    · rw [hDc] at hd
      obtain ⟨j, hj, rfl⟩ := List.getElem_of_mem hd
      have hi := Kend.inj
      simp only [hDc] at hi
      obtain rfl : j = n := hi j n hj hn (by omega) (by omega)
      rw [g3 hb2]
      exact fun e => hs1 e.symm
  have hC3 := Check_ev (L := L2) hbeg R hpT (by omega) hA2
  rw [hbad] at hC3
  refine hC3.bind (Ev.chk ⟨by omega, by omega⟩ ?_)
  have tk : L2.take bk = L'.take bk := by
    rw [e2]
    apply List.ext_getElem
    · simp
    · intro j h1 h2
      simp only [List.getElem_take, List.getElem_set]
      rw [if_neg (by simp at h1; omega)]
  have hC4 := Check_ev (L := L2.take bk) hbeg R hpT (by simp; omega) (fun e he => hA2 e (List.mem_of_mem_take he))
  rw [tk, check_take a1 L' bk 0 _ hck, ← tk] at hC4
  refine Ev.bind hC4 (Ev.eq (Ev.pure _) ?_)
  show (((((bk : Int) == (bk : Int)) && ((7 : Int) == (7 : Int))) && ((-1 : Int) == (-1 : Int))) && ((0 : Int) == (0 : Int))) = true
  simp
end Go.Proofs.YtnjbjpaiepefoaaDoor
