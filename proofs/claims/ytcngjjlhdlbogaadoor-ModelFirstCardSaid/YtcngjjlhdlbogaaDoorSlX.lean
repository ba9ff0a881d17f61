/-  Rows of one's own whose elements lead to further rows of one's own. No program of its own. -/
import Derived.Test.YtcngjjlhdlbogaaDoorSlI
import Derived.LoopNIn
namespace Go.Proofs.YtcngjjlhdlbogaaDoor
open Go
set_option linter.unusedVariables false
set_option linter.unusedSimpArgs false

/-- A slice that is read, of a block that may be written. -/
def SlRw {α : Type} (ρ : Rep α) (M : Hp) (v : Value) (l : List α) : Prop :=
  ∃ (A : Option Addr) (c : Nat), v = .slice A l.length c ∧ l.length ≤ c ∧ (0 < l.length → ∃ b off cs t, A = some ⟨b, off, none⟩ ∧ M b = some (.cells cs t (0, 0)) ∧
    ∀ i x, l[i]? = some x → ∃ vs : List Value, ρ.R M x vs ∧ ∀ j v, vs[j]? = some v → cs[off + i * ρ.sz + j]? = some v)
section
variable {α : Type} {ρ : Rep α} {M M' H : Hp} {v : Value} {l : List α} {A : Option Addr} {n c : Nat}
theorem SlRw.form (h : SlRw ρ M v l) : ∃ A c, v = .slice A l.length c ∧ l.length ≤ c := let ⟨A, c, e, hc, _⟩ := h; ⟨A, c, e, hc⟩
theorem SlRw.r (h : SlRw ρ M v l) : SlR ρ M v l := let ⟨A, c, e, hc, hr⟩ := h; ⟨A, c, e, hc, fun h0 => let ⟨b, off, cs, t, h1, h2, h3⟩ := hr h0; ⟨b, off, cs, t, _, h1, h2, h3⟩⟩
theorem SlRw.mono (h : SlRw ρ M v l) (hM : M.le M') : SlRw ρ M' v l := let ⟨A, c, e, hc, hr⟩ := h; ⟨A, c, e, hc, fun h0 => let ⟨b, off, cs, t, h1, h2, h3⟩ := hr h0; ⟨b, off, cs, t, h1, hM _ _ h2, fun i x hx => let ⟨vs, h4, h5⟩ := h3 i x hx; ⟨vs, ρ.mono hM h4, h5⟩⟩⟩
theorem SlRw.nil (A : Option Addr) (c : Nat) : SlRw ρ M (.slice A 0 c) [] := ⟨A, c, rfl, Nat.zero_le _, fun h => absurd h (by simp)⟩
theorem SlW.wk {r : Rep α} (h : SlW ρ M H v l) (hsz : ρ.sz = r.sz := by rfl) (hw : ∀ M x cs, ρ.R M x cs → r.R M x cs := by rintro M x cs ⟨v, h, e⟩; exact ⟨v, h.r, e⟩) : SlW r M H v l :=
  let ⟨A, c, e, hc, hr⟩ := h; ⟨A, c, e, hc, fun h0 => let ⟨b, off, cs, t, fr, h1, h2, h3⟩ := hr h0; ⟨b, off, cs, t, fr, h1, h2, fun i x hx => let ⟨vs, h4, h5⟩ := h3 i x hx; ⟨vs, hw _ _ _ h4, by rw [← hsz]; exact h5⟩⟩⟩
end

/-- A row of one's own; all that its elements lead to is one's own, too. -/
def Nst {α : Type} (r : Rep α) (t : TypeId) (v : Value) (l : List α) : Asr :=
  ⟨fun _ g => ∃ h1 h2 : Hp, h1.disj h2 ∧ g = h1.union h2 ∧ RowAt r t h2 h1 v l, fun _ h => h⟩
theorem flat_nst {α : Type} {r : Rep α} {t : TypeId} {v : Value} {l : List α} : ∀ M M' h : Hp, (Nst r t v l).sat M h → (Nst r t v l).sat M' h := fun _ _ _ h => h

section
variable {α : Type} {r : Rep α} {t : TypeId} {v : Value} {l : List α} {w : World} {M F : Hp} {Γ : List Asr}
theorem St.nst_nil (S : St w M F Γ) (r : Rep α) (t : TypeId) : St w M F (Nst r t (.slice none 0 0) [] :: Γ) := by
  obtain ⟨g, hs, h1, h2, h3, h4, h5, h6⟩ := S.ex
  exact ⟨g, ⟨Hp.emp, g, Hp.emp_disj _, (Hp.emp_union _).symm, ⟨Hp.emp, Hp.emp, Hp.emp_disj _, (Hp.emp_union _).symm, .inl ⟨rfl, rfl⟩⟩, hs⟩, h1, h2, h3, h4, h5, h6⟩
theorem nst_sat {M g H : Hp} (ha : (Nst r t v l).sat M g) (hH : g.le H) : SlR r H v l := by
  obtain ⟨h1, h2, hd, rfl, hr⟩ := ha
  exact SlW.mono (RowAt.read hr (Hp.le_trans (Hp.le_union_left _ _) hH)) (Hp.le_trans (Hp.le_union_right hd) hH) (Hp.le_refl _)
theorem St.nst_read (S : St w M F Γ) (i : Nat) (hi : Γ[i]? = some (Nst r t v l)) : SlW r (Hp.of w) (Hp.of w) v l := by
  obtain ⟨h1, ha, hle, _⟩ := S.change i hi
  exact nst_sat ha hle
theorem St.nst_freeze (S : St w M F Γ) (i : Nat) (hi : Γ[i]? = some (Nst r t v l)) : ∃ M', M.le M' ∧ SlR r M' v l ∧ St w M' F (Γ.eraseIdx i) := by
  obtain ⟨M', g, hM, ha, hle, S'⟩ := S.freeze i hi
  exact ⟨M', hM, nst_sat ha hle, S'⟩
theorem Sats.nst {M h : Hp} {Δ : List Asr} (hs : Sats M Δ h) (hd : M.disj h) (i : Nat) (hi : Δ[i]? = some (Nst r t v l)) : SlR r (M.union h) v l := by
  obtain ⟨h1, h2, _, e, ha, _⟩ := hs.focus i hi
  subst e
  exact SlR.mono (nst_sat ha (Hp.le_union_left h1 h2)) (Hp.le_union_right hd)
/-- A row alone, with what its elements lead to as what is frozen; all else belongs to others. -/
theorem St.nst_local (S : St w M F Γ) (i : Nat) (hi : Γ[i]? = some (Nst r t v l)) :
    ∃ h2 G : Hp, St w h2 G [Row r t v l] ∧ ∀ (w' : World) (M' : Hp) (v' : Value) (l' : List α), St w' M' G [Row r t v' l'] → St w' M F (Γ.set i (Nst r t v' l')) := by
  obtain ⟨q, hq, d1, d2, d3, l1, l2, l3⟩ := S.ex
  obtain ⟨ga, gb, hd, e, ha, hr, hf⟩ := hq.focus i hi
  subst e
  obtain ⟨h1, h2, hd12, rfl, hrow⟩ := ha
  have d2' := Hp.disj_union.1 d2
  have d3' := Hp.disj_union.1 d3
  have dM := Hp.disj_union.1 d2'.1
  have dF := Hp.disj_union.1 d3'.1
  have db := Hp.union_disj.1 hd
  have lga := Hp.le_trans (Hp.le_union_left _ _) l3
  have lgb := Hp.le_trans (Hp.le_union_right hd) l3
  refine ⟨h2, (M.union F).union gb, ⟨h1, ⟨h1, Hp.emp, Hp.disj_emp _, (Hp.union_emp _).symm, hrow, trivial⟩, ?_, Hp.disj_symm hd12, ?_, Hp.le_trans (Hp.le_union_right hd12) lga, ?_, Hp.le_trans (Hp.le_union_left _ _) lga⟩, ?_⟩
  · exact Hp.disj_union.2 ⟨Hp.disj_union.2 ⟨Hp.disj_symm dM.2, Hp.disj_symm dF.2⟩, db.2⟩
  · exact Hp.union_disj.2 ⟨Hp.union_disj.2 ⟨dM.1, dF.1⟩, Hp.disj_symm db.1⟩
  · exact Hp.union_le (Hp.union_le l1 l2) lgb
  · intro w' M' v' l' S'
    obtain ⟨q', ⟨g1, g2, hd', e', hrow', _⟩, k1, k2, k3, k4, k5, k6⟩ := S'.ex
    subst e'
    have k1' := Hp.disj_union.1 k1
    have k1'' := Hp.disj_union.1 k1'.1
    have k2' := Hp.disj_union.1 k2
    have k3' := Hp.disj_union.1 k3
    have k3a := Hp.union_disj.1 k3'.1
    have k3b := Hp.union_disj.1 k3a.1
    have dnew : (g1.union M').disj gb := Hp.union_disj.2 ⟨Hp.disj_symm k3a.2, k1'.2⟩
    have ld : ∀ {x y z : Hp}, (x.union y).union z = (x.union y).union z := rfl
    have lM : M.le (Hp.of w') := Hp.le_trans (Hp.le_trans (Hp.le_union_left M F) (Hp.le_union_left _ gb)) k5
    have lF : F.le (Hp.of w') := Hp.le_trans (Hp.le_trans (Hp.le_union_right d1) (Hp.le_union_left _ gb)) k5
    have dMFg : (M.union F).disj gb := Hp.union_disj.2 ⟨d2'.2, d3'.2⟩
    have lb : gb.le (Hp.of w') := Hp.le_trans (Hp.le_union_right dMFg) k5
    refine ⟨(g1.union M').union gb, hf M (Nst r t v' l') _ (Hp.le_refl _) dnew ⟨g1, M', Hp.disj_symm k2'.1, rfl, hrow'⟩, d1, ?_, ?_, lM, lF, ?_⟩
    · exact Hp.disj_union.2 ⟨Hp.disj_union.2 ⟨k3b.1, Hp.disj_symm k1''.1⟩, d2'.2⟩
    · exact Hp.disj_union.2 ⟨Hp.disj_union.2 ⟨k3b.2, Hp.disj_symm k1''.2⟩, d3'.2⟩
    · exact Hp.union_le (Hp.union_le (Hp.le_trans (Hp.le_union_left _ _) k6) k4) lb
/-- .. with flat things beside it. -/
theorem St.nst_part {Γ1 Γ2 : List Asr} (S : St w M F (Nst r t v l :: (Γ1 ++ Γ2))) (h1f : FlatG Γ1) :
    ∃ h2 G : Hp, St w h2 G (Row r t v l :: Γ1) ∧ ∀ (w' : World) (M' : Hp) (v' : Value) (l' : List α) (Γ' : List Asr), FlatG Γ' → St w' M' G (Row r t v' l' :: Γ') → St w' M F (Nst r t v' l' :: (Γ' ++ Γ2)) := by
  obtain ⟨q, ⟨ga, gb, hd, e, ⟨h1, h2, hd12, e2, hrow⟩, hs⟩, d1, d2, d3, l1, l2, l3⟩ := S.ex
  subst e2; subst e
  obtain ⟨gc, gd, hcd, e3, hs1, hs2⟩ := hs.split
  subst e3
  have d2' := Hp.disj_union.1 d2
  have d3' := Hp.disj_union.1 d3
  have dM := Hp.disj_union.1 d2'.1
  have dF := Hp.disj_union.1 d3'.1
  have dMc := Hp.disj_union.1 d2'.2
  have dFc := Hp.disj_union.1 d3'.2
  have db := Hp.union_disj.1 hd
  have db1 := Hp.disj_union.1 db.1
  have db2 := Hp.disj_union.1 db.2
  have lga := Hp.le_trans (Hp.le_union_left _ _) l3
  have lgb := Hp.le_trans (Hp.le_union_right hd) l3
  have lc := Hp.le_trans (Hp.le_union_left _ _) lgb
  have lgd := Hp.le_trans (Hp.le_union_right hcd) lgb
  refine ⟨h2, (M.union F).union gd, ⟨h1.union gc, ⟨h1, gc, db1.1, rfl, hrow, h1f _ _ _ hs1⟩, ?_, ?_, ?_, Hp.le_trans (Hp.le_union_right hd12) lga, ?_, ?_⟩, ?_⟩
  · exact Hp.disj_union.2 ⟨Hp.disj_union.2 ⟨Hp.disj_symm dM.2, Hp.disj_symm dF.2⟩, db2.2⟩
  · exact Hp.disj_union.2 ⟨Hp.disj_symm hd12, db2.1⟩
  · exact Hp.union_disj.2 ⟨Hp.union_disj.2 ⟨Hp.disj_union.2 ⟨dM.1, dMc.1⟩, Hp.disj_union.2 ⟨dF.1, dFc.1⟩⟩, Hp.disj_union.2 ⟨Hp.disj_symm db1.2, Hp.disj_symm hcd⟩⟩
  · exact Hp.union_le (Hp.union_le l1 l2) lgd
  · exact Hp.union_le (Hp.le_trans (Hp.le_union_left _ _) lga) lc
  · intro w' M' v' l' Γ' hfl S'
    obtain ⟨q', ⟨g1, g2, hd', e', hrow', hs'⟩, k1, k2, k3, k4, k5, k6⟩ := S'.ex
    subst e'
    have k1' := Hp.disj_union.1 k1
    have k1'' := Hp.disj_union.1 k1'.1
    have k2' := Hp.disj_union.1 k2
    have k3a := Hp.union_disj.1 k3
    have k3b := Hp.union_disj.1 k3a.1
    have kM := Hp.disj_union.1 k3b.1
    have kF := Hp.disj_union.1 k3b.2
    have kd := Hp.disj_union.1 k3a.2
    have lM : M.le (Hp.of w') := Hp.le_trans (Hp.le_trans (Hp.le_union_left M F) (Hp.le_union_left _ gd)) k5
    have lF : F.le (Hp.of w') := Hp.le_trans (Hp.le_trans (Hp.le_union_right d1) (Hp.le_union_left _ gd)) k5
    have dMFg : (M.union F).disj gd := Hp.union_disj.2 ⟨dMc.2, dFc.2⟩
    have lb : gd.le (Hp.of w') := Hp.le_trans (Hp.le_union_right dMFg) k5
    have d2d : g2.disj gd := Hp.disj_symm kd.2
    have da : (g1.union M').disj (g2.union gd) := Hp.union_disj.2 ⟨Hp.disj_union.2 ⟨hd', Hp.disj_symm kd.1⟩, Hp.disj_union.2 ⟨k2'.2, k1'.2⟩⟩
    refine ⟨(g1.union M').union (g2.union gd), ⟨_, _, da, rfl, ⟨g1, M', Hp.disj_symm k2'.1, rfl, hrow'⟩, Sats.append d2d (hfl _ _ _ hs') hs2⟩, d1, ?_, ?_, lM, lF, ?_⟩
    · exact Hp.disj_union.2 ⟨Hp.disj_union.2 ⟨kM.1, Hp.disj_symm k1''.1⟩, Hp.disj_union.2 ⟨kM.2, dMc.2⟩⟩
    · exact Hp.disj_union.2 ⟨Hp.disj_union.2 ⟨kF.1, Hp.disj_symm k1''.2⟩, Hp.disj_union.2 ⟨kF.2, dFc.2⟩⟩
    · exact Hp.union_le (Hp.union_le (Hp.le_trans (Hp.le_union_left _ _) k6) k4) (Hp.union_le (Hp.le_trans (Hp.le_union_right hd') k6) lb)
/-- A literal of one element, whose row becomes a part of it. -/
theorem St.nst_one {β : Type} {ri : Rep β} {ti : TypeId} {hv : Value} {L : List β} {b : Nat} {cs : Array Value} {x : α} (S : St w M F Γ) (i : Nat) (hi : Γ[i]? = some (Blk b (.cells cs t (0, 0)))) (j : Nat) (hj : (Γ.eraseIdx i)[j]? = some (Row ri ti hv L))
    (hfl : ∀ (M M' : Hp) (x : β) (cs : List Value), ri.R M x cs → ri.R M' x cs) (hR : ∀ h : Hp, SlRw ri h hv L → r.R h x cs.toList) (hsz : cs.size = r.sz) : St w M F (Nst r t (.slice (some ⟨b, 0, none⟩) 1 1) [x] :: ((Γ.eraseIdx i).eraseIdx j)) := by
  refine S.sub fun {q} hq => ?_
  obtain ⟨h1, h2, hd, e, ha, hr, _⟩ := hq.focus i hi
  subst e
  obtain ⟨g1, g2, hd2, e2, hb, hr2, _⟩ := hr.focus j hj
  subst e2
  have dd := Hp.disj_union.1 hd
  refine ⟨(h1.union g1).union g2, by rw [Hp.union_assoc]; exact Hp.le_refl _, h1.union g1, g2, Hp.union_disj.2 ⟨dd.2, hd2⟩, rfl, ⟨h1, g1, dd.1, rfl, .inr ⟨b, 1, cs, rfl, Nat.le_refl _, ha, by rw [Nat.one_mul]; exact hsz, ?_, by decide⟩⟩, hr2⟩
  have hs : SlRw ri g1 hv L := by
    rcases hb with ⟨rfl, rfl⟩ | ⟨b', cap, cs', rfl, h2, h3, h4, h5, h9⟩
    · exact SlRw.nil _ _
    · refine ⟨_, _, rfl, h2, fun h0 => ⟨b', 0, cs', ti, rfl, h3, fun i x hx => ?_⟩⟩
      obtain ⟨vs, h6, h7⟩ := h5.2 i x hx
      refine ⟨vs, hfl _ _ _ _ h6, fun j u hu => ?_⟩
      have := h7 j u hu
      rw [List.getElem?_take] at this
      split at this
      · rw [Nat.zero_add]; simpa using this
      · cases this
  have hc := Cells.one (hR g1 hs)
  have e1 : cs.toList.take ([x].length * r.sz) = cs.toList := List.take_of_length_le (by simp [hsz])
  rw [e1]; exact hc
end

section
variable {rn : Rd} {P : Program} {N : Nat} {ops : Array Oper} {Q : Post} {rest : List Oper} {ρ : Rho} {w : World} {M F : Hp} {Γ Γ1 Γ2 : List Asr} {d : Nat} {x y : Operand} {v u z : Value} {ty t e T : TypeId} {ps : String} {af : Array Edge} {b o n sz bytes : Nat} {agg : Bool}
/-- append of a row, whose elements' rows go along. -/
theorem W_nappend {α : Type} {r : Rep α} {l l2 : List α} {t' : TypeId} (S : St w M F (Nst r e u l2 :: Γ)) (i : Nat) (hi : Γ[i]? = some (Nst r e v l)) (hx : evR ρ x = v) (hy : evR ρ y = u)
    (hu : P.underlying t = some (.slice e)) (hu' : P.underlying t' = some (.slice e)) (Ty : IsTy P e agg z r.sz bytes) (hz : z.cells.size = r.sz) (hsz : 0 < r.sz) (hb0 : 0 < bytes)
    (hlim : (l.length + l2.length) * bytes ≤ 140737488355328) (hd : Nat.blt d N = true)
    (K : ∀ v' w', Ext w w' → St w' M F (Γ.set i (Nst r e v' (l ++ l2))) → Wl rn P N ops Q rest (upd ρ d v') w') : Wl rn P N ops Q (⟨some d, .call ⟨.builtin .append, #[x, y], #[t, t']⟩, T, ps, af, none⟩ :: rest) ρ w := by
  obtain ⟨q, ⟨ga, gb, hd1, e1, ⟨b1, b2, hb12, e2, hrow2⟩, hs⟩, d1, d2, d3, l1, l2', l3⟩ := S.ex
  subst e2; subst e1
  obtain ⟨gc, gd, hcd, e3, ⟨a1, a2, ha12, e4, hrow⟩, hr, hf⟩ := hs.focus i hi
  subst e4; subst e3
  have d2' := Hp.disj_union.1 d2
  have d3' := Hp.disj_union.1 d3
  have dMc := Hp.disj_union.1 d2'.2
  have dFc := Hp.disj_union.1 d3'.2
  have dM := Hp.disj_union.1 dMc.1
  have dF := Hp.disj_union.1 dFc.1
  have dac := Hp.disj_union.1 hd1
  have da12 := Hp.disj_union.1 dac.1
  have dcd := Hp.union_disj.1 hcd
  have lga := Hp.le_trans (Hp.le_union_left _ _) l3
  have lgb := Hp.le_trans (Hp.le_union_right hd1) l3
  have lc := Hp.le_trans (Hp.le_union_left _ _) lgb
  have lgd := Hp.le_trans (Hp.le_union_right hcd) lgb
  -- what is frozen for the while: all that both lead to, and the second one's own block
  have dab : a2.disj (b1.union b2) := Hp.disj_symm da12.2
  have leb : (b1.union b2).le (a2.union (b1.union b2)) := Hp.le_union_right dab
  have S1 : St w (a2.union (b1.union b2)) ((M.union F).union gd) [Row r e v l] := ⟨a1, ⟨a1, Hp.emp, Hp.disj_emp _, (Hp.union_emp _).symm, by
      rcases hrow with h | ⟨b, cap, cs, h1, h2, h3, h4, h5, h9⟩
      · exact .inl h
      · exact .inr ⟨b, cap, cs, h1, h2, h3, h4, h5.mono (Hp.le_union_left _ _), h9⟩, trivial⟩,
    Hp.disj_union.2 ⟨Hp.disj_union.2 ⟨Hp.union_disj.2 ⟨Hp.disj_symm dM.2, Hp.disj_symm d2'.1⟩, Hp.union_disj.2 ⟨Hp.disj_symm dF.2, Hp.disj_symm d3'.1⟩⟩, Hp.union_disj.2 ⟨dcd.2, dac.2⟩⟩,
    Hp.union_disj.2 ⟨Hp.disj_symm ha12, da12.1⟩,
    Hp.union_disj.2 ⟨Hp.union_disj.2 ⟨dM.1, dF.1⟩, Hp.disj_symm dcd.1⟩,
    Hp.union_le (Hp.le_trans (Hp.le_union_right ha12) lc) lga, Hp.union_le (Hp.union_le l1 l2') lgd, Hp.le_trans (Hp.le_union_left _ _) lc⟩
  have hu2 : SlW r (a2.union (b1.union b2)) (Hp.of w) u l2 := SlW.mono (RowAt.read hrow2 (Hp.le_refl _)) (Hp.le_trans (Hp.le_union_right hb12) leb) (Hp.le_trans (Hp.le_union_left _ _) lga)
  obtain ⟨cs, hsrc, hC⟩ := src_of_read (P := P) hu2 hsz
  obtain ⟨v', w', hrun, hE, S'⟩ := run_append (T' := T) (ts := #[t, t']) S1 0 rfl hu (.inl (by simpa using hu')) rfl Ty hz hsz hsrc hC rfl hlim hb0
  refine Wl_val v' rfl rfl hd (w' := w') ?_ hE (K v' w' hE ?_)
  · simp only [execOp, resolve, invoke, builtin, Sem.run_bind, Sem.run_pure, Result.andThen_ok, List.map_toArray, List.map_cons, List.map_nil, hx, hy, hrun]
  · obtain ⟨q', ⟨g1, g2, hd', e', hrow', _⟩, k1, k2, k3, k4, k5, k6⟩ := S'.ex
    subst e'
    have k1' := Hp.disj_union.1 k1
    have k1'' := Hp.disj_union.1 k1'.1
    have k2' := Hp.disj_union.1 k2
    have k3a := Hp.union_disj.1 k3
    have k3b := Hp.union_disj.1 k3a.1
    have kM := Hp.disj_union.1 k3b.1
    have kF := Hp.disj_union.1 k3b.2
    have kd := Hp.disj_union.1 k3a.2
    have lM : M.le (Hp.of w') := Hp.le_trans (Hp.le_trans (Hp.le_union_left M F) (Hp.le_union_left _ gd)) k5
    have lF : F.le (Hp.of w') := Hp.le_trans (Hp.le_trans (Hp.le_union_right d1) (Hp.le_union_left _ gd)) k5
    have dMFg : (M.union F).disj gd := Hp.union_disj.2 ⟨dMc.2, dFc.2⟩
    have lb : gd.le (Hp.of w') := Hp.le_trans (Hp.le_union_right dMFg) k5
    have dnew : (g1.union (a2.union (b1.union b2))).disj gd := Hp.union_disj.2 ⟨Hp.disj_symm kd.1, k1'.2⟩
    refine ⟨_, hf M (Nst r e v' (l ++ l2)) _ (Hp.le_refl _) dnew ⟨g1, _, Hp.disj_symm k2'.1, rfl, hrow'⟩, d1, ?_, ?_, lM, lF, ?_⟩
    · exact Hp.disj_union.2 ⟨Hp.disj_union.2 ⟨kM.1, Hp.disj_symm k1''.1⟩, dMc.2⟩
    · exact Hp.disj_union.2 ⟨Hp.disj_union.2 ⟨kF.1, Hp.disj_symm k1''.2⟩, dFc.2⟩
    · exact Hp.union_le (Hp.union_le (Hp.le_trans (Hp.le_union_left _ _) k6) k4) lb
/-- A store into an element: into its own cells. -/
theorem W_nrowstore {α : Type} [Inhabited α] {r : Rep α} {l : List α} {q : Int} (S : St w M F Γ) (i : Nat) (hi : Γ[i]? = some (Nst r e v l)) {A : Option Addr} {nn cc : Nat} (hv : v = .slice A nn cc) (ee : A = some ⟨b, o, none⟩) (hq0 : 0 ≤ q) (hq : q < (l.length : Int)) (off : Nat) (Ty : IsTy P ty agg z n bytes)
    (hx : evR ρ x = .pointer (some ⟨b, o + q.toNat * r.sz + off, none⟩)) (hy : evR ρ y = u) (us : List Value) (hu : u.cells.toList = us) (hn : us.length = n) (h1 : us.all (·.oneCell') = true) (hl : Nat.ble (off + us.length) r.sz = true) (x' : α) (hnew : ∀ (M : Hp) cs, r.R M (rd l q) cs → r.R M x' (overL cs off us)) {l' : List α} (hl' : l.set q.toNat x' = l')
    (K : ∀ w', Ext w w' → St w' M F (Γ.set i (Nst r e v l')) → Wl rn P N ops Q rest ρ w') : Wl rn P N ops Q (⟨none, .store ty x y, T, ps, af, none⟩ :: rest) ρ w := by
  subst hu hl'
  obtain ⟨h2, G, S0, back⟩ := S.nst_local i hi
  have hql : q.toNat < l.length := by omega
  have hrd : l[q.toNat]? = some (rd l q) := by simp [rd, List.getD_eq_getElem?_getD, List.getElem?_eq_getElem hql]
  have h1' : ∀ c ∈ u.cells.toList, c.oneCell' = true := fun c hc => List.all_eq_true.1 h1 c hc
  obtain ⟨cs, hb, ho, hfit, _⟩ := S0.row_set (w' := w) 0 rfl hv ee q.toNat off _ hrd u.cells.toList (by simpa using hl) h1' (hnew h2)
  obtain ⟨w', hr, hb', hoth, hE⟩ := run_storeVar (P := P) (off := o + q.toNat * r.sz + off) Ty hb (v := u) (by simpa using hn) h1' (by rw [← hn]; exact hfit)
  obtain ⟨cs2, hb2, _, _, hS⟩ := S0.row_set (w' := w') 0 rfl hv ee q.toNat off _ hrd u.cells.toList (by simpa using hl) h1' (hnew h2)
  rw [hb] at hb2; cases hb2
  refine Wl_unit rfl rfl (w' := w') ?_ hE (K w' hE (back _ _ _ _ (hS hb' hoth)))
  simp only [execOp, Instr.storeAt, Instr.sureAddr, hx, hy, Sem.run_bind, Sem.run_pure, Result.andThen_ok, hr]
/-- A call that takes such a row, and gives one back: it sees what the elements lead to as frozen. -/
theorem W_callNst {α : Type} {r : Rep α} {l l' : List α} {f : FuncId} {as : List Operand} {ts : Array TypeId} {args : List Value} {Γ1' : List Asr} (Fn : IsFn P f) (C : ∀ h2 : Hp, Con P f args.toArray h2 (Row r t v l :: Γ1) (fun u M' Γ' => ∃ (A : Option Addr) (c : Nat), u = .slice A l'.length c ∧ Γ' = Row r t (.slice A l'.length c) l' :: Γ1')) (h1f : FlatG Γ1) (h1f' : FlatG Γ1') (S : St w M F (Nst r t v l :: (Γ1 ++ Γ2))) (ha : as.map (evR ρ) = args) (hd : Nat.blt d N = true)
    (K : ∀ (A : Option Addr) (c : Nat) w', Ext w w' → St w' M F (Nst r t (.slice A l'.length c) l' :: (Γ1' ++ Γ2)) → Wl rn P N ops Q rest (upd ρ d (.slice A l'.length c)) w') : Wl rn P N ops Q (⟨some d, .call ⟨.value (.func f), as.toArray, ts⟩, T, ps, af, none⟩ :: rest) ρ w := by
  subst ha
  obtain ⟨fn, hf, hb, hn⟩ := Fn.ex
  obtain ⟨h2, G, S0, back⟩ := S.nst_part h1f
  have S0' : St w h2 G ((Row r t v l :: Γ1) ++ []) := by rw [List.append_nil]; exact S0
  refine Wl_call (R := fun u w' => ∃ (A : Option Addr) (c : Nat), u = .slice A l'.length c ∧ Ext w w' ∧ St w' M F (Nst r t (.slice A l'.length c) l' :: (Γ1' ++ Γ2))) rfl (x_call hf hb hn) (fun _ _ ⟨_, _, _, h, _⟩ => h) ?_ hd ?_
  · refine Calls.mono ((C h2).at S0') ?_
    rintro e w' ⟨u, he, M', Γ', hM, hE, S', A, c, rfl, rfl⟩
    rw [List.append_nil] at S'
    exact ⟨_, he, A, c, rfl, hE, back _ _ _ _ _ h1f' S'⟩
  · rintro u w' ⟨A, c, rfl, hE, S'⟩
    exact K A c w' hE S'
end

/-! ### .. whose elements' rows may have been written over: told by how long they are -/
/-- What is asked of an element: one of its cells leads to its row; another row there makes another element. -/
structure Led {α β : Type} (r : Rep α) (ri : Rep β) (get : α → List β) (q : Nat) : Prop where
  led : ∀ {M : Hp} {x : α} {cs : List Value}, r.R M x cs → ∃ v, SlRw ri M v (get x) ∧ cs[q]? = some v ∧ ∀ (M' : Hp) (L : List β), SlRw ri M' v L → ∃ x', r.R M' x' cs ∧ get x' = L
/-- Rows of texts alone. -/
structure Texts {β : Type} (ri : Rep β) : Prop where
  of : ∀ {M : Hp} {x : β} {cs : List Value}, ri.R M x cs → ∀ v ∈ cs, ∃ s : Str, v = .string (bs s)
  to : ∀ cs : List Value, cs.length = ri.sz → (∀ v ∈ cs, ∃ s : Str, v = .string (bs s)) → ∃ x, ∀ M, ri.R M x cs
def Shp {α β : Type} (get : α → List β) (l l' : List α) : Prop := l'.length = l.length ∧ ∀ (i : Nat) (x x' : α), l[i]? = some x → l'[i]? = some x' → (get x').length = (get x).length
def Nss {α β : Type} (r : Rep α) (get : α → List β) (t : TypeId) (v : Value) (l : List α) : Asr :=
  ⟨fun _ g => ∃ (l' : List α) (h1 h2 : Hp), Shp get l l' ∧ h1.disj h2 ∧ g = h1.union h2 ∧ RowAt r t h2 h1 v l', fun _ h => h⟩
theorem flat_nss {α β : Type} {r : Rep α} {get : α → List β} {t : TypeId} {v : Value} {l : List α} : ∀ M M' h : Hp, (Nss r get t v l).sat M h → (Nss r get t v l).sat M' h := fun _ _ _ h => h
section
variable {α β : Type} {r : Rep α} {ri : Rep β} {get : α → List β} {t : TypeId} {v : Value} {l : List α} {w : World} {M F : Hp} {Γ : List Asr}
theorem Shp.refl (l : List α) : Shp get l l := ⟨rfl, fun i x x' h k => by rw [h] at k; cases k; rfl⟩
theorem St.nst_nss (S : St w M F Γ) (i : Nat) (hi : Γ[i]? = some (Nst r t v l)) (get : α → List β) : St w M F (Γ.set i (Nss r get t v l)) := by
  obtain ⟨h1, ⟨a, b, hd, e, hr⟩, hle, hch⟩ := S.change i hi
  exact hch w _ h1 ⟨l, a, b, Shp.refl l, hd, e, hr⟩ hle (fun c o h _ => h) (fun c o h => .inl (by rw [h]; simp))
theorem St.nss_open (S : St w M F Γ) (i : Nat) (hi : Γ[i]? = some (Nss r get t v l)) : ∃ l', Shp get l l' ∧ St w M F (Γ.set i (Nst r t v l')) := by
  obtain ⟨h1, ⟨l', a, b, hs, hd, e, hr⟩, hle, hch⟩ := S.change i hi
  exact ⟨l', hs, hch w _ h1 ⟨a, b, hd, e, hr⟩ hle (fun c o h _ => h) (fun c o h => .inl (by rw [h]; simp))⟩
theorem St.nss_close {l' : List α} (S : St w M F Γ) (i : Nat) (hi : Γ[i]? = some (Nst r t v l')) (hs : Shp get l l') : St w M F (Γ.set i (Nss r get t v l)) := by
  obtain ⟨h1, ⟨a, b, hd, e, hr⟩, hle, hch⟩ := S.change i hi
  exact hch w _ h1 ⟨l', a, b, hs, hd, e, hr⟩ hle (fun c o h _ => h) (fun c o h => .inl (by rw [h]; simp))
theorem Shp.at [Inhabited α] {l l' : List α} {k : Int} (h : Shp get l l') (h0 : 0 ≤ k) (h1 : k < (l.length : Int)) : (get (rd l' k)).length = (get (rd l k)).length := by
  have hq : k.toNat < l.length := by omega
  have hq' : k.toNat < l'.length := by rw [h.1]; exact hq
  have e1 : l[k.toNat]? = some (rd l k) := by simp [rd, List.getD_eq_getElem?_getD, List.getElem?_eq_getElem hq]
  have e2 : l'[k.toNat]? = some (rd l' k) := by simp [rd, List.getD_eq_getElem?_getD, List.getElem?_eq_getElem hq']
  exact h.2 _ _ _ e1 e2
/-- A text in place of another one, in what a row leads to: what was told of rows of texts is told again, of other texts. -/
theorem slrw_turn {h h' : Hp} {b2 p : Nat} {cs2 : Array Value} {t2 : TypeId} {s : Str} {hv : Value} {L : List β} (X : Texts ri) (hb : h b2 = some (.cells cs2 t2 (0, 0))) (hb' : h' b2 = some (.cells (cs2.setIfInBounds p (.string (bs s))) t2 (0, 0))) (ho : ∀ c, c ≠ b2 → h' c = h c)
    (hs : SlRw ri h hv L) : ∃ L', SlRw ri h' hv L' ∧ L'.length = L.length := by
  obtain ⟨A, c, rfl, hc, hr⟩ := hs
  by_cases h0 : 0 < L.length
  · obtain ⟨b, off, cs, t, rfl, hbb, hx⟩ := hr h0
    have key : ∃ cs' : Array Value, h' b = some (.cells cs' t (0, 0)) ∧ ∀ (q : Nat) (u : Value), cs[q]? = some u → ∃ u', cs'[q]? = some u' ∧ ((∃ z : Str, u = .string (bs z)) → ∃ z : Str, u' = .string (bs z)) := by
      by_cases e : b = b2
      · subst e
        rw [hb] at hbb; cases hbb
        refine ⟨_, hb', fun q u hu => ?_⟩
        rw [Array.getElem?_setIfInBounds]
        by_cases eq : p = q
        · subst eq
          have := (Array.getElem?_eq_some_iff.1 hu).1
          rw [if_pos rfl, if_pos this]
          exact ⟨_, rfl, fun _ => ⟨s, rfl⟩⟩
        · rw [if_neg eq]; exact ⟨u, hu, id⟩
      · exact ⟨cs, by rw [ho b e]; exact hbb, fun q u hu => ⟨u, hu, id⟩⟩
    obtain ⟨cs', hb2, hcell⟩ := key
    have el : ∀ i, i < L.length → ∃ x', ∃ vs : List Value, (∀ M, ri.R M x' vs) ∧ ∀ (j : Nat) (v : Value), vs[j]? = some v → cs'[off + i * ri.sz + j]? = some v := by
      intro i hi
      obtain ⟨vs, h1, h2⟩ := hx i L[i] (List.getElem?_eq_getElem hi)
      have hlen := ri.len h1
      have htx := X.of h1
      have ex : ∀ j, j < vs.length → ∃ u', cs'[off + i * ri.sz + j]? = some u' ∧ ∃ z : Str, u' = .string (bs z) := fun j hj => by
        obtain ⟨u', k1, k2⟩ := hcell _ _ (h2 j vs[j] (List.getElem?_eq_getElem hj))
        exact ⟨u', k1, k2 (htx _ (List.getElem_mem hj))⟩
      let vs' : List Value := (List.range vs.length).map fun j => (cs'[off + i * ri.sz + j]?).getD undef
      have hv' : ∀ j, j < vs.length → vs'[j]? = cs'[off + i * ri.sz + j]? := fun j hj => by
        obtain ⟨u', k1, _⟩ := ex j hj
        simp [vs', List.getElem?_map, List.getElem?_range hj, k1]
      have hl' : vs'.length = ri.sz := by simp [vs', hlen]
      obtain ⟨x', hx'⟩ := X.to vs' hl' (fun v hv => by
        obtain ⟨j, hj, rfl⟩ := List.getElem_of_mem hv
        have hj' : j < vs.length := by rw [hlen, ← hl']; exact hj
        obtain ⟨u', k1, k2⟩ := ex j hj'
        have := hv' j hj'
        rw [List.getElem?_eq_getElem hj, k1] at this
        injection this with this
        rw [this]; exact k2)
      refine ⟨x', vs', hx', fun j v hj => ?_⟩
      have hj' : j < vs.length := by rw [hlen, ← hl']; exact (List.getElem?_eq_some_iff.1 hj).1
      rw [← hv' j hj']; exact hj
    have all : ∀ n, n ≤ L.length → ∃ L' : List β, L'.length = n ∧ ∀ (i : Nat) (x : β), L'[i]? = some x → ∃ vs : List Value, ri.R h' x vs ∧ ∀ (j : Nat) (v : Value), vs[j]? = some v → cs'[off + i * ri.sz + j]? = some v := by
      intro n
      induction n with
      | zero => exact fun _ => ⟨[], rfl, fun i x h => by simp at h⟩
      | succ n ih =>
        intro hn
        obtain ⟨L', e, hL⟩ := ih (by omega)
        obtain ⟨x', vs, k1, k2⟩ := el n (by omega)
        refine ⟨L' ++ [x'], by simp [e], fun i x hix => ?_⟩
        rw [List.getElem?_append] at hix
        split at hix
        · exact hL i x hix
        · next hge =>
          have hi : i = n := by
            have := (List.getElem?_eq_some_iff.1 hix).1
            simp at this; omega
          subst hi
          rw [e, Nat.sub_self] at hix
          simp at hix; subst hix
          exact ⟨vs, k1 _, k2⟩
    obtain ⟨L', e, hL⟩ := all L.length (Nat.le_refl _)
    exact ⟨L', ⟨_, c, by rw [e], by rw [e]; exact hc, fun _ => ⟨b, off, cs', t, rfl, hb2, hL⟩⟩, e⟩
  · obtain rfl : L = [] := List.eq_nil_of_length_eq_zero (by omega)
    exact ⟨[], SlRw.nil _ _, rfl⟩
/-- .. and of the whole row. -/
theorem row_turn {q : Nat} {h h' h1 : Hp} {b2 p : Nat} {cs2 : Array Value} {t2 : TypeId} {s : Str} {l : List α} (D : Led r ri get q) (X : Texts ri) (hb : h b2 = some (.cells cs2 t2 (0, 0))) (hb' : h' b2 = some (.cells (cs2.setIfInBounds p (.string (bs s))) t2 (0, 0))) (ho : ∀ c, c ≠ b2 → h' c = h c)
    (hr : RowAt r t h h1 v l) : ∃ l', Shp get l l' ∧ RowAt r t h' h1 v l' := by
  rcases hr with ⟨rfl, rfl⟩ | ⟨b, cap, cs, rfl, h2, h3, h4, h5, h9⟩
  · exact ⟨[], Shp.refl _, .inl ⟨rfl, rfl⟩⟩
  · have el : ∀ i (hi : i < l.length), ∃ x', ∃ vs : List Value, r.R h' x' vs ∧ (get x').length = (get l[i]).length ∧ ∀ (j : Nat) (v : Value), vs[j]? = some v → (cs.toList.take (l.length * r.sz))[i * r.sz + j]? = some v := by
      intro i hi
      obtain ⟨vs, k1, k2⟩ := h5.2 i l[i] (List.getElem?_eq_getElem hi)
      obtain ⟨hv, k3, _, k4⟩ := D.led k1
      obtain ⟨L', k5, k6⟩ := slrw_turn X hb hb' ho k3
      obtain ⟨x', k7, k8⟩ := k4 _ _ k5
      exact ⟨x', vs, k7, by rw [k8, k6], k2⟩
    have all : ∀ n, n ≤ l.length → ∃ l' : List α, l'.length = n ∧ ∀ (i : Nat) (x : α), l'[i]? = some x → (∃ y, l[i]? = some y ∧ (get x).length = (get y).length) ∧ ∃ vs : List Value, r.R h' x vs ∧ ∀ (j : Nat) (v : Value), vs[j]? = some v → (cs.toList.take (l.length * r.sz))[i * r.sz + j]? = some v := by
      intro n
      induction n with
      | zero => exact fun _ => ⟨[], rfl, fun i x h => by simp at h⟩
      | succ n ih =>
        intro hn
        obtain ⟨l', e, hL⟩ := ih (by omega)
        obtain ⟨x', vs, k1, k2, k3⟩ := el n (by omega)
        refine ⟨l' ++ [x'], by simp [e], fun i x hix => ?_⟩
        rw [List.getElem?_append] at hix
        split at hix
        · exact hL i x hix
        · next hge =>
          have hi : i = n := by
            have := (List.getElem?_eq_some_iff.1 hix).1
            simp at this; omega
          subst hi
          rw [e, Nat.sub_self] at hix
          simp at hix; subst hix
          exact ⟨⟨_, List.getElem?_eq_getElem (by omega), k2⟩, vs, k1, k3⟩
    obtain ⟨l', e, hL⟩ := all l.length (Nat.le_refl _)
    refine ⟨l', ⟨e, fun i x x' hx hx' => ?_⟩, .inr ⟨b, cap, cs, by rw [e], by rw [e]; exact h2, h3, h4, ⟨?_, fun i x hx => ?_⟩, h9⟩⟩
    · obtain ⟨⟨y, hy, hyl⟩, _⟩ := hL i x' hx'
      rw [hx] at hy; cases hy; exact hyl
    · rw [e]; exact h5.1
    · rw [e]; exact (hL i x hx).2
end
theorem gset {α : Type} {l : List α} {i : Nat} {a b : α} (h : l[i]? = some a) : (l.set i b)[i]? = some b := by
  rw [List.getElem?_set_self (List.getElem?_eq_some_iff.1 h).1]
section
variable {rn : Rd} {P : Program} {N : Nat} {ops : Array Oper} {Q : Post} {rest : List Oper} {ρ : Rho} {w : World} {M F : Hp} {Γ : List Asr} {d : Nat} {x y : Operand} {v u z : Value} {ty t e T : TypeId} {ps : String} {af : Array Edge} {b o n bytes : Nat} {agg : Bool}
/-- A store into an element's own cells, of which no more is told than how long its row is. -/
theorem W_nssstore {α β : Type} [Inhabited α] {r : Rep α} {get : α → List β} {l : List α} {q : Int} (S : St w M F Γ) (i : Nat) (hi : Γ[i]? = some (Nss r get e v l)) {A : Option Addr} {nn cc : Nat} (hv : v = .slice A nn cc) (ee : A = some ⟨b, o, none⟩) (hq0 : 0 ≤ q) (hq : q < (l.length : Int)) (off : Nat) (Ty : IsTy P ty agg z n bytes)
    (hx : evR ρ x = .pointer (some ⟨b, o + q.toNat * r.sz + off, none⟩)) (hy : evR ρ y = u) (us : List Value) (hu : u.cells.toList = us) (hn : us.length = n) (h1 : us.all (·.oneCell') = true) (hl : Nat.ble (off + us.length) r.sz = true) (f : α → α) (hnew : ∀ (M : Hp) x cs, r.R M x cs → r.R M (f x) (overL cs off us)) (hget : ∀ x, get (f x) = get x)
    (K : ∀ w', Ext w w' → St w' M F (Γ.set i (Nss r get e v l)) → Wl rn P N ops Q rest ρ w') : Wl rn P N ops Q (⟨none, .store ty x y, T, ps, af, none⟩ :: rest) ρ w := by
  obtain ⟨l', hs, S1⟩ := S.nss_open i hi
  have hql : q.toNat < l'.length := by rw [hs.1]; omega
  refine W_nrowstore S1 i (gset hi) hv ee hq0 (by rw [hs.1]; exact hq) off Ty hx hy us hu hn h1 hl (f (rd l' q)) (fun M cs h => hnew M _ cs h) rfl (fun w' E S2 => K w' E ?_)
  rw [List.set_set] at S2
  have S3 := S2.nss_close (l := l) (get := get) i (gset hi) ⟨by rw [List.length_set]; exact hs.1, fun j x x' hx hx' => ?_⟩
  · rw [List.set_set] at S3; exact S3
  · rw [List.getElem?_set] at hx'
    split at hx'
    · next e =>
      subst e
      injection hx' with hx'
      have hrd : l'[q.toNat]? = some (rd l' q) := by simp [rd, List.getD_eq_getElem?_getD, List.getElem?_eq_getElem hql]
      rw [← hx', hget]
      exact hs.2 _ _ _ hx hrd
    · exact hs.2 _ _ _ hx hx'
/-- A text that is stored into what an element leads to. -/
theorem W_nssin {α β : Type} [Inhabited α] [Inhabited β] {r : Rep α} {ri : Rep β} {get : α → List β} {l l' : List α} {k j : Int} {q : Nat} (S : St w M F Γ) (i : Nat) (hi : Γ[i]? = some (Nst r e v l')) (hsh : Shp get l l') {A A2 : Option Addr} {nn cc n2 c2 b2 o2 : Nat} (hv : v = .slice A nn cc) (ee : A = some ⟨b, o, none⟩) (h0 : 0 ≤ k) (h1 : k < (l'.length : Int))
    (D : Led r ri get q) (X : Texts ri) {cs : Array Value} {tt : TypeId} {fr : Nat × Nat} (hb : Hp.of w b = some (.cells cs tt fr)) (hc : cs[o + k.toNat * r.sz + q]? = some (.slice A2 n2 c2)) (hqs : q < r.sz) (ee2 : A2 = some ⟨b2, o2, none⟩) (j0 : 0 ≤ j) (j1 : j < (n2 : Int)) (off : Nat) (hoff : Nat.blt off ri.sz = true) (Ty : IsTy P ty false z 1 bytes)
    (hx : evR ρ x = .pointer (some ⟨b2, o2 + j.toNat * ri.sz + off, none⟩)) (s : Str) (hy : evR ρ y = .string (bs s))
    (K : ∀ w', Ext w w' → St w' M F (Γ.set i (Nss r get e v l)) → Wl rn P N ops Q rest ρ w') : Wl rn P N ops Q (⟨none, .store ty x y, T, ps, af, none⟩ :: rest) ρ w := by
  obtain ⟨h2, G, S0, back⟩ := S.nst_local i hi
  obtain ⟨qh, ⟨h1', he, hd, e1, hrow, _⟩, k1, k2, k3, k4, k5, k6⟩ := S0.ex
  subst e1
  have hkl : k.toNat < l'.length := by omega
  -- the element's row
  obtain ⟨bb, cap, cs0, ev, hcap, hbb, hsz, hC, h9⟩ : ∃ bb cap cs0, v = .slice (some ⟨bb, 0, none⟩) l'.length cap ∧ l'.length ≤ cap ∧ h1' bb = some (.cells cs0 e (0, 0)) ∧ cs0.size = cap * r.sz ∧ Cells r h2 l' (cs0.toList.take (l'.length * r.sz)) ∧ cap < 9223372036854775808 := by
    rcases hrow with ⟨_, h⟩ | h
    · rw [h] at hkl; simp at hkl
    · exact h
  have eb : b = bb ∧ o = 0 := by
    rw [hv] at ev; injection ev with ev _ _; rw [ee] at ev; injection ev with ev; injection ev with a1 a2; exact ⟨a1, a2⟩
  obtain ⟨rfl, rfl⟩ := eb
  have hcs : cs = cs0 := by
    have := k6 _ _ (Hp.le_union_left h1' he b _ hbb)
    rw [hb] at this; injection this with this; injection this with this _ _
  subst hcs
  obtain ⟨vs, hR, hvs⟩ := hC.2 k.toNat l'[k.toNat] (List.getElem?_eq_getElem hkl)
  obtain ⟨hv2, hs2, hq2, _⟩ := D.led hR
  have eh : hv2 = .slice A2 n2 c2 := by
    have h := hvs q hv2 hq2
    rw [List.getElem?_take] at h
    split at h
    · rw [Array.getElem?_toList] at h
      rw [Nat.zero_add, h] at hc
      injection hc
    · cases h
  subst eh
  obtain ⟨A3, c3, e3, hc3, hr3⟩ := hs2
  injection e3 with e31 e32 e33
  subst e31 e32 e33
  obtain ⟨b3, o3, cs3, t3, e4, hb3, hx3⟩ := hr3 (by omega)
  rw [ee2] at e4; injection e4 with e4; injection e4 with a1 a2 _
  subst a1 a2
  have hjl : j.toNat < (get l'[k.toNat]).length := by omega
  obtain ⟨vs3, hR3, hvs3⟩ := hx3 j.toNat _ (List.getElem?_eq_getElem hjl)
  have hoff' : off < ri.sz := by simpa using hoff
  have hfit : o2 + j.toNat * ri.sz + off < cs3.size := by
    have hl3 := ri.len hR3
    exact (Array.getElem?_eq_some_iff.1 (hvs3 off vs3[off] (List.getElem?_eq_getElem (by omega)))).1
  have hw3 : w.heap[b2]? = some (.cells cs3 t3 (0, 0)) := Hp.of_get (k4 _ _ hb3)
  obtain ⟨w', hrun, hb', hoth, hE⟩ := run_storeVar (P := P) (off := o2 + j.toNat * ri.sz + off) Ty hw3 (v := .string (bs s)) rfl (fun x hx => by simp [Value.cells] at hx; subst hx; rfl) (by omega)
  have hover : over cs3 (o2 + j.toNat * ri.sz + off) [Value.string (bs s)] = cs3.setIfInBounds (o2 + j.toNat * ri.sz + off) (.string (bs s)) := by
    apply Array.ext_getElem?
    intro m
    rw [over_get, Array.getElem?_setIfInBounds]
    by_cases hm : o2 + j.toNat * ri.sz + off = m
    · subst hm; simp [hfit]
    · rw [if_neg hm, if_neg (by simp; omega)]
  -- the heaps behind it
  let h2' : Hp := fun c => if c = b2 then some (.cells (cs3.setIfInBounds (o2 + j.toNat * ri.sz + off) (.string (bs s))) t3 (0, 0)) else h2 c
  obtain ⟨l'', hsh2, hrow2⟩ := row_turn (h' := h2') (p := o2 + j.toNat * ri.sz + off) (s := s) D X hb3 (by simp [h2']) (fun c hc => by simp [h2', hc]) hrow
  have hdom : ∀ {m : Hp}, h2.disj m → h2'.disj m := fun {m} h c => by
    rcases h c with h | h
    · by_cases e : c = b2
      · subst e; rw [hb3] at h; cases h
      · exact .inl (by simp [h2', e, h])
    · exact .inr h
  have hkeep : ∀ {m : Hp}, m.le (Hp.of w) → h2.disj m → m.le (Hp.of w') := fun {m} hl hd c o hm => by
    have hne : c ≠ b2 := fun e => by
      subst e
      rcases hd c with h | h
      · rw [hb3] at h; cases h
      · rw [hm] at h; cases h
    exact (Hp.of_congr (hoth c hne)).trans (hl _ _ hm)
  have hx' : (execOp (evR ρ) ⟨none, .store ty x y, T, ps, af, none⟩).run P w = .ok .skip w' := by
    simp only [execOp, Instr.storeAt, Instr.sureAddr, hx, hy, Sem.run_bind, Sem.run_pure, Result.andThen_ok, hrun]
  refine Wl_unit rfl rfl (w' := w') hx' hE (K w' hE ?_)
  have S2 : St w' h2' G [Row r e v l''] := ⟨h1'.union he, ⟨h1', he, hd, rfl, hrow2, trivial⟩, hdom k1, hdom k2, k3, fun c o hm => by
    by_cases ec : c = b2
    · subst ec
      simp only [h2', if_true] at hm
      rw [← hover] at hm
      cases hm
      exact Hp.of_mk hb'
    · simp only [h2', ec, if_false] at hm
      exact (Hp.of_congr (hoth c ec)).trans (k4 _ _ hm), hkeep k5 k1, hkeep k6 k2⟩
  have S3 := back _ _ _ _ S2
  have S4 := S3.nss_close (l := l) (get := get) i (gset hi) ⟨hsh2.1.trans hsh.1, fun m x x' hm hm' => by
    have hml : m < l'.length := by rw [hsh.1]; exact (List.getElem?_eq_some_iff.1 hm).1
    rw [hsh2.2 m _ _ (List.getElem?_eq_getElem hml) hm']
    exact hsh.2 m _ _ hm (List.getElem?_eq_getElem hml)⟩
  rw [List.set_set] at S4; exact S4
end
/-! ### A loop, round by round -/
def Rnds (r : Rd) (P : Program) (N : Nat) (c : Code) (Q : Post) (m : Nat) (ρ : Rho) (w : World) : Prop := ∀ a, Reg r N a ρ w → Code.roundsIn (Fw r.lp) 0 P c (lift r N Q) m a w
theorem Wp_rounds {r : Rd} {P : Program} {N : Nat} {c : Code} {Q : Post} {ρ : Rho} {w : World} (m : Nat) (h : Rnds r P N c Q m ρ w) : Wp r P N (.loop c) Q ρ w := fun a ha => wpIn_loop_rounds m (h a ha)
theorem Rnds_succ {r : Rd} {P : Program} {N : Nat} {c : Code} {Q : Post} {m : Nat} {ρ : Rho} {w : World} (h : Wp r P N c (thenR (fun ρ w => Rnds r P N c Q m ρ w) Q) ρ w) : Rnds r P N c Q (m + 1) ρ w := fun a ha => by
  rw [roundsIn_succ]
  exact Code.wpIn_mono (fun e a w ⟨ρ, hr, q⟩ => by
    cases e <;> first | exact q a hr | exact ⟨ρ, hr, q⟩) (h a ha)
end Go.Proofs.YtcngjjlhdlbogaaDoor
