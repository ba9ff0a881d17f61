import Derived.Test.YtnjbjpaiepefoaaDoorGp2B
import Derived.Test.YtnjbjpaiepefoaaDoorGp2P0
import Derived.Test.YtnjbjpaiepefoaaDoorGp2P1
import Derived.Test.YtnjbjpaiepefoaaDoorGp2P3
import Derived.Test.YtnjbjpaiepefoaaDoorGp2P4
namespace Go.Proofs.YtnjbjpaiepefoaaDoor
open Go
set_option linter.unusedVariables false
set_option linter.unusedSimpArgs false
set_option maxHeartbeats 80000000
set_option maxRecDepth 100000
def Yz (k : Nat) (a0 : Qo) (a1 : (List (List QW))) (a2 : (List QG)) : Option ((Unit) ⊕ (Unit) ⊕ (QM)) :=
 (Option.bind (Z4 k a0 a1 a2) (fun t4 => (Sum.elim (fun t6 => some (Sum.inl ())) (Sum.elim (fun t7 => some (Sum.inr (Sum.inl ()))) (fun t8 => some (Sum.inr (Sum.inr t8.m))))) t4))
theorem Yz.mono {k : Nat} {a0 : Qo} {a1 : (List (List QW))} {a2 : (List QG)} : OLe (Yz k a0 a1 a2) (Yz (k + 1) a0 a1 a2) := by
 unfold Yz
 have m1 := @Z4.mono
 exact mo
theorem Yz.con (k : Nat) (M : Hp) (a0 : Qo) (A1 : Option Addr) (c1 : Nat) (a1 : (List (List QW))) (A2 : Option Addr) (c2 : Nat) (a2 : (List QG)) (r : (Unit) ⊕ (Unit) ⊕ (QM)) (hr1 : SlR (rSl ZV) M (.slice A1 a1.length c1) a1) (hr2 : SlR QK M (.slice A2 a2.length c2) a2) (hg0 : ∃ gt fr, M 0 = some (.cells cz1 gt fr)) (hg1 : ∃ gt fr, M 1 = some (.cells cz3 gt fr)) (h : Yz k a0 a1 a2 = some r) : Con Tryd.prog 23 #[.agg #[vI a0.Tasks, vI a0.Active, vI a0.Keys, vI a0.Depth, vI a0.TS, vI a0.KeyLen, vI a0.ValLen, vI a0.Fan], .slice A1 a1.length c1, .slice A2 a2.length c2] M [] (fun v M' Γ' => (Sum.elim (fun x => v = .tuple cz17 ∧ Γ' = []) (Sum.elim (fun x => v = .tuple cz18 ∧ Γ' = []) (fun x => ∃ (bq1 : Nat) (Aq3 : Option Addr) (cq4 : Nat) (Aq6 : Option Addr) (cq7 : Nat) (Aq9 : Option Addr) (cq10 : Nat) (Aq12 : Option Addr) (cq13 : Nat) (vsq15 : List (Str × Value)), v = .tuple #[pt bq1 0, vI 0] ∧ YP Qm M' x.rows vsq15 ∧ Γ' = [B95 bq1 x Aq3 Aq6 Aq9 cq10 Aq12, QV QH (Value.int .i64) Aq3 x.names, QV (Value.int .i64) (Value.int .i64) Aq6 x.many, Row QP 122 (.slice Aq9 x.txs.length cq10) x.txs, QV encS (fun v : Value => v) Aq12 vsq15]))) r) := by
 refine Qa Tryd.func23 rfl Tryd.ntmps23 Tryd.results23 rfl ?_
 intro w F rn S hrn
 have E := Ext.refl w
 have HM := Hp.le_refl M
 have H := h
 unfold Yz at H
 refine QE (QA ?_)
 refine YO S #[vI a0.Tasks, vI a0.Active, vI a0.Keys, vI a0.Depth, vI a0.TS, vI a0.KeyLen, vI a0.ValLen, vI a0.Fan] rfl rfl rfl ?_
 intro b1 w2 E' S
 replace E := E.trans E'
 refine W_v (.pointer none) (QD rfl) rfl (W_v (vI 0) (QD rfl) rfl (QB (tn (QE (QA (W_v (.agg #[vI a0.Tasks, vI a0.Active, vI a0.Keys, vI a0.Depth, vI a0.TS, vI a0.KeyLen, vI a0.ValLen, vI a0.Fan]) (Qh (S.blk 0 rfl) ty23 rfl (QI rfl) rfl rfl) rfl (W_v (.slice A1 a1.length c1) (QC rfl) rfl (W_v (.slice A2 a2.length c2) (QC rfl) rfl ?_))))))))
 obtain ⟨t4, ht5, H⟩ := QX H
 rcases t4 with t6 | t7 | t8
 ·skip
  replace H := elimL H
  refine Z2 fn30 (Z4.con k M a0 A1 c1 a1 A2 c2 a2 (Sum.inl t6) hr1 hr2 hg0 hg1 ht5) (Γ1 := []) (Γ2 := [_]) S rfl rfl (by rintro _ _ _ ⟨rfl, rfl⟩; exact Qd) ?_
  rintro _ w9 _ Γ' E' S ⟨rfl, rfl⟩
  replace E := E.trans E'
  replace S : St w9 M F [_] := S
  refine W_v (.tuple cz17) (QC rfl) rfl (W_v (.pointer none) (QQ rfl rfl) rfl (W_v (vI 1) (QQ rfl rfl) rfl (W_v (.pointer none) (QD rfl) rfl (W_v (vI 1) (QD rfl) rfl (QB (tn (QE (QE (QA (W_v (vI 1) (QC rfl) rfl (W_v (.bool true) (QT rfl rfl rfl rfl) rfl (QB (tn (QL rfl (QE ?_)))))))))))))))
  refine QA (W_v (vI 1) (QC rfl) rfl (W_v (.pointer none) (QD rfl) rfl (W_v (vI 1) (QD rfl) rfl (QB (tn ?_)))))
  refine QY ?_
  refine tr (?_)
  obtain rfl := Option.some.inj H
  exact ⟨_, _, _, fun w1 e1 => QO (vs := [.pointer none, vI 1]) (FA.cons (rfl) (FA.cons (rfl) (FA.nil))), HM, E, S.pick [] (by decide), ⟨rfl, rfl⟩⟩
 ·skip
  replace H := elimR H
  replace H := elimL H
  refine Z2 fn30 (Z4.con k M a0 A1 c1 a1 A2 c2 a2 (Sum.inr (Sum.inl t7)) hr1 hr2 hg0 hg1 ht5) (Γ1 := []) (Γ2 := [_]) S rfl rfl (by rintro _ _ _ ⟨rfl, rfl⟩; exact Qd) ?_
  rintro _ w12 _ Γ' E' S ⟨rfl, rfl⟩
  replace E := E.trans E'
  replace S : St w12 M F [_] := S
  refine W_v (.tuple cz18) (QC rfl) rfl (W_v (.pointer none) (QQ rfl rfl) rfl (W_v (vI 4) (QQ rfl rfl) rfl (W_v (.pointer none) (QD rfl) rfl (W_v (vI 4) (QD rfl) rfl (QB (tn (QE (QE (QA (W_v (vI 4) (QC rfl) rfl (W_v (.bool true) (QT rfl rfl rfl rfl) rfl (QB (tn (QL rfl (QE ?_)))))))))))))))
  refine QA (W_v (vI 4) (QC rfl) rfl (W_v (.pointer none) (QD rfl) rfl (W_v (vI 4) (QD rfl) rfl (QB (tn ?_)))))
  refine QY ?_
  refine tr (?_)
  obtain rfl := Option.some.inj H
  exact ⟨_, _, _, fun w1 e1 => QO (vs := [.pointer none, vI 4]) (FA.cons (rfl) (FA.cons (rfl) (FA.nil))), HM, E, S.pick [] (by decide), ⟨rfl, rfl⟩⟩
 ·skip
  replace H := elimR H
  replace H := elimR H
  refine ZZ fn30 (Z4.con k M a0 A1 c1 a1 A2 c2 a2 (Sum.inr (Sum.inr t8)) hr1 hr2 hg0 hg1 ht5) (Γ1 := []) (Γ2 := [_]) S rfl rfl ?_
  rintro _ w50 M51 Γ' hM52 E' S ⟨b15, A17, c18, b20, A22, c23, A25, c26, b28, A30, c31, A33, c34, A36, c37, A39, c40, vs42, A44, c45, A47, c48, rfl, hs19, hm43, rfl⟩
  replace HM := Hp.le_trans HM hM52
  replace E := E.trans E'
  replace S : St w50 M51 F [_, _, _, _, _, _, _, _, _, _, _, _] := S
  refine W_v (.tuple #[pt b15 0, vI 0]) (QC rfl) rfl (W_v (pt b15 0) (QQ rfl rfl) rfl (W_v (vI 0) (QQ rfl rfl) rfl (W_v (pt b15 0) (QD rfl) rfl (W_v (vI 0) (QD rfl) rfl (QB (tn (QE (QE (QA (W_v (vI 0) (QC rfl) rfl (W_v (.bool false) (QT rfl rfl rfl rfl) rfl (QB (tn (QJ rfl (Qg ?_)))))))))))))))
  refine tn (QE (QA (W_v (pt b15 0) (QC rfl) rfl (W_v (pt b15 0) (Qy rfl) rfl (W_v (pt b15 2) (QF (o := 0) (off := 2) Tryd.underlying107 rfl ty39 rfl rfl) rfl (W_v (pt b28 0) (QR (S.blk 0 rfl) ty39 rfl rfl) rfl (W_v (pt b28 0) (QD rfl) rfl (W_v (vI 0) (QD rfl) rfl (QB (tn ?_))))))))))
  refine QY ?_
  obtain rfl := Option.some.inj H
  exact ⟨_, _, _, fun w1 e1 => QO (vs := [pt b28 0, vI 0]) (FA.cons (rfl) (FA.cons (rfl) (FA.nil))), HM, E, S.pick [4, 5, 6, 7, 8] (by decide), ⟨b28, A30, c31, A33, c34, A36, c37, A39, c40, vs42, rfl, hm43, rfl⟩⟩
def Yt (a2 : (List QG)) : Nat → Int → List (List QW) → List ZL → List Int → List Z3 → List QG → QM → Option (((Unit) ⊕ (Unit) ⊕ (ZX)) ⊕ (List (List QW) × List ZL × List Int × List Z3 × List QG × QM))
 | 0, _, _, _, _, _, _, _ => none
 | k + 1, x232, x233, x237, x241, x245, x249, x253 => (if (decide (x232 < (a2.length : Int))) = true then (if 0 ≤ x232 ∧ x232 < (a2.length : Int) then (Option.bind (ZA k (⟨x233, (⟨x245, x249⟩ : Qb), x253, x237, x241⟩ : ZX) x232 (rd a2 x232)) (fun t380 => (if (t380.1 == (4 : Int)) = true then some (.inl (Sum.inr (Sum.inl ()))) else Yt a2 k (IntKind.i64.wrap (x232 + (1 : Int))) t380.2.programs t380.2.done t380.2.last t380.2.r.tasks t380.2.r.l t380.2.m))) else none) else some (.inr (x233, x237, x241, x245, x249, x253)))
theorem Yt.mono {a2 : (List QG)} : ∀ {kl : Nat} {x0 x1 x2 x3 x4 x5 x6}, OLe (Yt a2 kl x0 x1 x2 x3 x4 x5 x6) (Yt a2 (kl + 1) x0 x1 x2 x3 x4 x5 x6) := by
 intro kl
 induction kl with
 | zero => intros; exact OLe.none
 | succ kl ih =>
  intros
  rw [Yt.eq_2, Yt.eq_2]
  have m1 := @ZA.mono
  exact mo
def Yy (k : Nat) (a0 : Qo) (a1 : (List (List QW))) (a2 : (List QG)) : Option ((Unit) ⊕ (Unit) ⊕ (ZX)) :=
 (Option.bind (ZH k a0 a1) (fun t4 => (Sum.elim (fun t6 => some (Sum.inl ())) (Sum.elim (fun t7 => (Option.bind (Yt a2 k (0 : Int) t7.programs t7.done t7.last t7.r.tasks t7.r.l t7.m) (fun o357o => Sum.elim (fun r' => some r') (fun ⟨x322, x326, x330, x334, x338, x342⟩ => some (Sum.inr (Sum.inr (⟨x322, (⟨x334, x338⟩ : Qb), x342, x326, x330⟩ : ZX)))) o357o))) (Sum.elim (fun t8 => some (Sum.inl ())) (Sum.elim (fun t9 => some (Sum.inl ())) (fun t10 => some (Sum.inl ())))))) t4))
theorem Yy.mono {k : Nat} {a0 : Qo} {a1 : (List (List QW))} {a2 : (List QG)} : OLe (Yy k a0 a1 a2) (Yy (k + 1) a0 a1 a2) := by
 unfold Yy
 have m1 := @ZH.mono
 have m2 := @Yt.mono
 exact mo
theorem Yy.con (k : Nat) (M : Hp) (a0 : Qo) (A1 : Option Addr) (c1 : Nat) (a1 : (List (List QW))) (A2 : Option Addr) (c2 : Nat) (a2 : (List QG)) (r : (Unit) ⊕ (Unit) ⊕ (ZX)) (hr1 : SlR (rSl ZV) M (.slice A1 a1.length c1) a1) (hg0 : ∃ gt fr, M 0 = some (.cells cz1 gt fr)) (hg1 : ∃ gt fr, M 1 = some (.cells cz3 gt fr)) (h : Yy k a0 a1 a2 = some r) : Con Tryd.prog 30 #[.agg #[vI a0.Tasks, vI a0.Active, vI a0.Keys, vI a0.Depth, vI a0.TS, vI a0.KeyLen, vI a0.ValLen, vI a0.Fan], .slice A1 a1.length c1, .slice A2 a2.length c2] M [Row QK 55 (.slice A2 a2.length c2) a2] (fun v M' Γ' => (Sum.elim (fun x => v = .tuple cz17 ∧ Γ' = [Row QK 55 (.slice A2 a2.length c2) a2]) (Sum.elim (fun x => v = .tuple cz18 ∧ Γ' = [Row QK 55 (.slice A2 a2.length c2) a2]) (fun x => ∃ (bq1 : Nat) (Aq3 : Option Addr) (cq4 : Nat) (bq6 : Nat) (Aq8 : Option Addr) (cq9 : Nat) (Aq11 : Option Addr) (cq12 : Nat) (bq14 : Nat) (Aq16 : Option Addr) (cq17 : Nat) (Aq19 : Option Addr) (cq20 : Nat) (Aq22 : Option Addr) (cq23 : Nat) (Aq25 : Option Addr) (cq26 : Nat) (vsq28 : List (Str × Value)) (Aq30 : Option Addr) (cq31 : Nat) (Aq33 : Option Addr) (cq34 : Nat), v = .tuple #[pt bq1 0, vI 0] ∧ SlR (rSl ZV) M' (.slice Aq3 x.programs.length cq4) x.programs ∧ YP Qm M' x.m.rows vsq28 ∧ Γ' = [B107 bq1 x Aq3 cq4 bq6 bq14 Aq30 cq31 Aq33 cq34, Blk bq6 (.cells #[.slice Aq8 x.r.tasks.length cq9, .slice Aq11 x.r.l.length cq12] 144 (0, 0)), Row Qx 161 (.slice Aq8 x.r.tasks.length cq9) x.r.tasks, Row QK 55 (.slice Aq11 x.r.l.length cq12) x.r.l, B95 bq14 x.m Aq16 Aq19 Aq22 cq23 Aq25, QV QH (Value.int .i64) Aq16 x.m.names, QV (Value.int .i64) (Value.int .i64) Aq19 x.m.many, Row QP 122 (.slice Aq22 x.m.txs.length cq23) x.m.txs, QV encS (fun v : Value => v) Aq25 vsq28, Row Q0 69 (.slice Aq30 x.done.length cq31) x.done, Row (rInt .i64) 3 (.slice Aq33 x.last.length cq34) x.last, Row QK 55 (.slice A2 a2.length c2) a2]))) r) := by
 refine Qa Tryd.func30 rfl Tryd.ntmps30 Tryd.results30 rfl ?_
 intro w F rn S hrn
 have E := Ext.refl w
 have HM := Hp.le_refl M
 have H := h
 unfold Yy at H
 refine QE (QA ?_)
 refine YO S #[vI a0.Tasks, vI a0.Active, vI a0.Keys, vI a0.Depth, vI a0.TS, vI a0.KeyLen, vI a0.ValLen, vI a0.Fan] rfl rfl rfl ?_
 intro b1 w2 E' S
 replace E := E.trans E'
 refine W_v (.pointer none) (QD rfl) rfl (W_v (vI 0) (QD rfl) rfl (QB (tn (QE (QA (W_v (.agg #[vI a0.Tasks, vI a0.Active, vI a0.Keys, vI a0.Depth, vI a0.TS, vI a0.KeyLen, vI a0.ValLen, vI a0.Fan]) (Qh (S.blk 0 rfl) ty23 rfl (QI rfl) rfl rfl) rfl (W_v (.slice A1 a1.length c1) (QC rfl) rfl ?_)))))))
 obtain ⟨t4, ht5, H⟩ := QX H
 rcases t4 with t6 | t7 | t8 | t9 | t10
 ·skip
  replace H := elimL H
  refine Z2 fn27 (ZH.con k M a0 A1 c1 a1 (Sum.inl t6) hr1 ht5) (Γ1 := []) (Γ2 := [_, _]) S rfl rfl (by rintro _ _ _ ⟨rfl, rfl⟩; exact Qd) ?_
  rintro _ w11 _ Γ' E' S ⟨rfl, rfl⟩
  replace E := E.trans E'
  replace S : St w11 M F [_, _] := S
  refine W_v (.tuple cz16) (QC rfl) rfl (W_v (.pointer none) (QQ rfl rfl) rfl (W_v (.bool false) (QQ rfl rfl) rfl (W_v (.pointer none) (QD rfl) rfl (W_v (.bool false) (QD rfl) rfl (QB (tn (QE (QE (QA (W_v (.bool false) (QC rfl) rfl (W_v (.bool true) (Yx (b := false) rfl) rfl (QB (tn (QL rfl (QE ?_)))))))))))))))
  refine QA (W_v (.pointer none) (QD rfl) rfl (W_v (vI 1) (QD rfl) rfl (QB (tn ?_))))
  refine QY ?_
  refine tr (?_)
  obtain rfl := Option.some.inj H
  exact ⟨_, _, _, fun w1 e1 => QO (vs := [.pointer none, vI 1]) (FA.cons (rfl) (FA.cons (rfl) (FA.nil))), HM, E, S.pick [1] (by decide), ⟨rfl, rfl⟩⟩
 ·skip
  replace H := elimR H
  replace H := elimL H
  refine ZZ fn27 (ZH.con k M a0 A1 c1 a1 (Sum.inr (Sum.inl t7)) hr1 ht5) (Γ1 := []) (Γ2 := [_, _]) S rfl rfl ?_
  rintro _ w49 M50 Γ' hM51 E' S ⟨b14, A16, c17, b19, A21, c22, A24, c25, b27, A29, c30, A32, c33, A35, c36, A38, c39, vs41, A43, c44, A46, c47, rfl, hs18, hm42, rfl⟩
  replace hg0 := gup hg0 hM51
  replace hg1 := gup hg1 hM51
  replace HM := Hp.le_trans HM hM51
  replace E := E.trans E'
  replace S : St w49 M50 F [_, _, _, _, _, _, _, _, _, _, _, _, _] := S
  refine W_v (.tuple #[pt b14 0, .bool true]) (QC rfl) rfl (W_v (pt b14 0) (QQ rfl rfl) rfl (W_v (.bool true) (QQ rfl rfl) rfl (W_v (pt b14 0) (QD rfl) rfl (W_v (.bool true) (QD rfl) rfl (QB (tn (QE (QE (QA (W_v (.bool true) (QC rfl) rfl (W_v (.bool false) (Yx (b := true) rfl) rfl (QB (tn (QJ rfl (Qg ?_)))))))))))))))
  refine tn (QE (QE (QA (W_v (.slice A2 a2.length c2) (QC rfl) rfl (W_v (vI (a2.length : Int)) (Qt (n := a2.length) Tryd.underlying25 rfl) rfl (W_v (vI 0) (QC rfl) rfl (QB (tn ?_))))))))
  obtain ⟨o357, o357h, o357H⟩ := QX H
  refine Ya (fun ρ w' => ∃ (x322 : List (List QW)) (x326 : List ZL) (x330 : List Int) (x334 : List Z3) (x338 : List QG) (x342 : QM) (A323 : Option Addr) (c324 : Nat) (A327 : Option Addr) (c328 : Nat) (A331 : Option Addr) (c332 : Nat) (A335 : Option Addr) (c336 : Nat) (A339 : Option Addr) (c340 : Nat) (A343 : Option Addr) (c344 : Nat) (A346 : Option Addr) (c347 : Nat) (A349 : Option Addr) (c350 : Nat) (A352 : Option Addr) (c353 : Nat) (vs355 : List (Str × Value)) (Mj : Hp), .inr (x322, x326, x330, x334, x338, x342) = o357 ∧ Qs ρ [(8, pt b14 0)] ∧ M50.le Mj ∧ Ext w w' ∧ St w' Mj F [QV encS (fun v : Value => v) A352 vs355, Row QP 122 (.slice A349 x342.txs.length c350) x342.txs, QV (Value.int .i64) (Value.int .i64) A346 x342.many, QV QH (Value.int .i64) A343 x342.names, Row QK 55 (.slice A339 x338.length c340) x338, Row Qx 161 (.slice A335 x334.length c336) x334, Row (rInt .i64) 3 (.slice A331 x330.length c332) x330, Row Q0 69 (.slice A327 x326.length c328) x326, Blk b14 (.cells #[.slice A323 x322.length c324, pt b19 0, pt b27 0, .slice A327 x326.length c328, .slice A331 x330.length c332] 107 (0, 0)), Blk b19 (.cells #[.slice A335 x334.length c336, .slice A339 x338.length c340] 144 (0, 0)), B95 b27 x342 A343 A346 A349 c350 A352, Row QK 55 (.slice A2 a2.length c2) a2] ∧ SlR (rSl ZV) Mj (.slice A323 x322.length c324) x322 ∧ YP Qm Mj x342.rows vs355) ?_ ?_
  ·skip
   refine Y0 (fun n ρ w' => ∃ (x232 : Int) (x233 : List (List QW)) (x237 : List ZL) (x241 : List Int) (x245 : List Z3) (x249 : List QG) (x253 : QM) (A234 : Option Addr) (c235 : Nat) (A238 : Option Addr) (c239 : Nat) (A242 : Option Addr) (c243 : Nat) (A246 : Option Addr) (c247 : Nat) (A250 : Option Addr) (c251 : Nat) (A254 : Option Addr) (c255 : Nat) (A257 : Option Addr) (c258 : Nat) (A260 : Option Addr) (c261 : Nat) (A263 : Option Addr) (c264 : Nat) (vs266 : List (Str × Value)) (Mj : Hp), Yt a2 n x232 x233 x237 x241 x245 x249 x253 = some o357 ∧ Qs ρ [(8, pt b14 0), (20, .slice A2 a2.length c2), (21, vI (a2.length : Int)), (22, vI x232)] ∧ M50.le Mj ∧ Ext w w' ∧ St w' Mj F [QV encS (fun v : Value => v) A263 vs266, Row QP 122 (.slice A260 x253.txs.length c261) x253.txs, QV (Value.int .i64) (Value.int .i64) A257 x253.many, QV QH (Value.int .i64) A254 x253.names, Row QK 55 (.slice A250 x249.length c251) x249, Row Qx 161 (.slice A246 x245.length c247) x245, Row (rInt .i64) 3 (.slice A242 x241.length c243) x241, Row Q0 69 (.slice A238 x237.length c239) x237, Blk b14 (.cells #[.slice A234 x233.length c235, pt b19 0, pt b27 0, .slice A238 x237.length c239, .slice A242 x241.length c243] 107 (0, 0)), Blk b19 (.cells #[.slice A246 x245.length c247, .slice A250 x249.length c251] 144 (0, 0)), B95 b27 x253 A254 A257 A260 c261 A263, Row QK 55 (.slice A2 a2.length c2) a2] ∧ SlR (rSl ZV) Mj (.slice A234 x233.length c235) x233 ∧ YP Qm Mj x253.rows vs266) k ?_ ?_
   ·skip
    exact ⟨(0 : Int), t7.programs, t7.done, t7.last, t7.r.tasks, t7.r.l, t7.m, A16, c17, A43, c44, A46, c47, A21, c22, A24, c25, A29, c30, A32, c33, A35, c36, A38, c39, vs41, M50, o357h, ⟨rfl, rfl, rfl, rfl, trivial⟩, (Hp.le_refl M50), E, S.pick [8, 7, 6, 5, 3, 2, 10, 9, 0, 1, 4, 12] (by decide), hs18, hm42⟩
   ·intro n
    rintro ρ w358 ⟨x232, x233, x237, x241, x245, x249, x253, A234, c235, A238, c239, A242, c243, A246, c247, A250, c251, A254, c255, A257, c258, A260, c261, A263, c264, vs266, M359, H, hρ, hM360, E, S, hs236, hm267⟩
    rw [QN hρ]
    replace hg0 := gup hg0 hM360
    replace hg1 := gup hg1 hM360
    replace HM := Hp.le_trans HM hM360
    cases n with
    | zero => cases H
    | succ k =>
     rw [Yt.eq_2] at H
     refine QE (QA (W_v (.bool (decide (x232 < (a2.length : Int)))) (QT rfl rfl rfl rfl) rfl (QB (tn (QE ?_)))))
     rcases Zh H with ⟨hb361, H⟩ | ⟨hb361, H⟩
     ·refine QL (congrArg Value.bool hb361) ?_
      refine Qg (tn (QE ?_))
      refine Z0 ?_
      refine QE (QA (W_v (vI x232) (QC rfl) rfl ?_))
      obtain ⟨⟨p362, p363⟩, H⟩ := Zt H
      obtain ⟨b364, o365, cs366, _, _, ee371, hb367, vs368, hR369, hc370⟩ := SlW.at' (S.row_read 11 rfl) p362 p363
      obtain ⟨v375, hs374, rfl⟩ := hR369
      obtain ⟨A372, c373, rfl, _⟩ := hs374.form
      refine W_v (.pointer (some ⟨b364, o365 + x232.toNat * 7, none⟩)) (Qe Tryd.underlying25 ty55 (slA ee371) rfl p362 p363) rfl (W_v (.agg #[vU ((rd a2 x232).What), vI ((rd a2 x232).Task), vI ((rd a2 x232).Call), vI ((rd a2 x232).Answer.Err), .bool ((rd a2 x232).Answer.Found), vS ((rd a2 x232).Answer.Value), .slice A372 ((rd a2 x232).Answer.Pairs).length c373]) (Qh (Hp.of_get hb367) ty55 rfl (XC hc370 0 rfl) rfl rfl) rfl ?_)
      refine Zu S cz5 ty55 rfl rfl ?_
      intro b376 w377 E' S
      replace E := E.trans E'
      refine W_v (vI x232) (QD rfl) rfl ?_
      refine Q5 S 0 rfl ty55 rfl rfl [vU ((rd a2 x232).What), vI ((rd a2 x232).Task), vI ((rd a2 x232).Call), vI ((rd a2 x232).Answer.Err), .bool ((rd a2 x232).Answer.Found), vS ((rd a2 x232).Answer.Value), .slice A372 ((rd a2 x232).Answer.Pairs).length c373] rfl rfl rfl #[vU ((rd a2 x232).What), vI ((rd a2 x232).Task), vI ((rd a2 x232).Call), vI ((rd a2 x232).Answer.Err), .bool ((rd a2 x232).Answer.Found), vS ((rd a2 x232).Answer.Value), .slice A372 ((rd a2 x232).Answer.Pairs).length c373] (by as_aux_lemma => kernel_rfl) rfl ?_
      intro w379 E' S
      replace E := E.trans E'
      refine QB (tn (QE (QA (W_v (pt b14 0) (QC rfl) rfl (W_v (vI x232) (QC rfl) rfl (W_v (.agg #[vU ((rd a2 x232).What), vI ((rd a2 x232).Task), vI ((rd a2 x232).Call), vI ((rd a2 x232).Answer.Err), .bool ((rd a2 x232).Answer.Found), vS ((rd a2 x232).Answer.Value), .slice A372 ((rd a2 x232).Answer.Pairs).length c373]) (Qh (S.blk 0 rfl) ty55 rfl (QI rfl) rfl rfl) rfl ?_))))))
      obtain ⟨t380, ht381, H⟩ := QX H
      replace S : St w379 M359 F [_, _, _, _, _, _, _, _, _, _, _, _, _] := S.pick [9, 10, 6, 5, 11, 4, 3, 2, 1, 8, 7, 0, 12] (by decide)
      refine ZZ fn53 (ZA.con k M359 A234 c235 A246 c247 A250 c251 A254 c255 A257 c258 A260 c261 A263 c264 vs266 A238 c239 A242 c243 (⟨x233, (⟨x245, x249⟩ : Qb), x253, x237, x241⟩ : ZX) x232 A372 c373 (rd a2 x232) b19 b27 b14 t380 hs236 hm267 hs374 hg0 hg1 ht381) (Γ1 := [_, _, _, _, _, _, _, _, _, _, _]) (Γ2 := [_, _]) S rfl rfl ?_
      rintro _ w411 M412 Γ' hM413 E' S ⟨A382, c383, A385, c386, A388, c389, A391, c392, A394, c395, A397, c398, A400, c401, vs403, A405, c406, A408, c409, rfl, hs384, hm404, rfl⟩
      replace HM := Hp.le_trans HM hM413
      replace hM360 := Hp.le_trans hM360 hM413
      replace E := E.trans E'
      replace S : St w411 M412 F [_, _, _, _, _, _, _, _, _, _, _, _, _] := S
      refine W_v (.bool (t380.1 == (4 : Int))) (QT rfl rfl rfl rfl) rfl (QB (tn ?_))
      rcases Zh H with ⟨hb414, H⟩ | ⟨hb414, H⟩
      ·refine QL (congrArg Value.bool hb414) ?_
       refine QE (QA (W_v (.pointer none) (QD rfl) rfl (W_v (vI 4) (QD rfl) rfl (QB (tn ?_)))))
       refine QY ?_
       refine br (tr (tr (br (tr (tr (?_))))))
       obtain rfl := Option.some.inj H
       have H := o357H
       replace H := elimL H
       obtain rfl := Option.some.inj H
       exact ⟨_, _, _, fun w1 e1 => QO (vs := [.pointer none, vI 4]) (FA.cons (rfl) (FA.cons (rfl) (FA.nil))), HM, E, S.pick [12] (by decide), ⟨rfl, rfl⟩⟩
      refine QJ (congrArg Value.bool hb414) (Qg (bn (tn (QA (W_v (vI (IntKind.i64.wrap (x232 + (1 : Int)))) (QT rfl rfl rfl rfl) rfl (W_v (vI (IntKind.i64.wrap (x232 + (1 : Int)))) (QC rfl) rfl (QB (tn ?_))))))))
      exact ⟨k, Nat.lt_succ_self k, ⟨(IntKind.i64.wrap (x232 + (1 : Int))), t380.2.programs, t380.2.done, t380.2.last, t380.2.r.tasks, t380.2.r.l, t380.2.m, A382, c383, A405, c406, A408, c409, A385, c386, A388, c389, A391, c392, A394, c395, A397, c398, A400, c401, vs403, M412, H, ⟨rfl, rfl, rfl, rfl, trivial⟩, hM360, E, S.pick [8, 7, 6, 5, 3, 2, 10, 9, 0, 1, 4, 12] (by decide), hs384, hm404⟩⟩
     refine QJ (congrArg Value.bool hb361) ?_
     refine Yo ?_
     refine tx (tx (bsm (?_)))
     refine tn ?_
     exact ⟨x233, x237, x241, x245, x249, x253, A234, c235, A238, c239, A242, c243, A246, c247, A250, c251, A254, c255, A257, c258, A260, c261, A263, c264, vs266, M359, Option.some.inj H, ⟨rfl, trivial⟩, hM360, E, S.pick [0, 1, 2, 3, 4, 5, 6, 7, 8, 9, 10, 11] (by decide), hs236, hm267⟩
  rintro ρ w415 ⟨x322, x326, x330, x334, x338, x342, A323, c324, A327, c328, A331, c332, A335, c336, A339, c340, A343, c344, A346, c347, A349, c350, A352, c353, vs355, M416, rfl, hρ, hM417, E, S, hs325, hm356⟩
  rw [QN hρ]
  replace HM := Hp.le_trans HM hM417
  have H := o357H
  replace H := elimR H
  refine tn ?_
  as_aux_lemma =>
  refine QE (QA (W_v (pt b14 0) (QC rfl) rfl (W_v (pt b14 0) (QD rfl) rfl (W_v (vI 0) (QD rfl) rfl (QB (tn ?_))))))
  refine QY ?_
  obtain rfl := Option.some.inj H
  exact ⟨_, _, _, fun w1 e1 => QO (vs := [pt b14 0, vI 0]) (FA.cons (rfl) (FA.cons (rfl) (FA.nil))), HM, E, S.pick [8, 9, 5, 4, 10, 3, 2, 1, 0, 7, 6, 11] (by decide), ⟨b14, A323, c324, b19, A335, c336, A339, c340, b27, A343, c344, A346, c347, A349, c350, A352, c353, vs355, A327, c328, A331, c332, rfl, hs325, hm356, rfl⟩⟩
 ·skip
  replace H := elimR H
  replace H := elimR H
  replace H := elimL H
  refine ZZ fn27 (ZH.con k M a0 A1 c1 a1 (Sum.inr (Sum.inr (Sum.inl t8))) hr1 ht5) (Γ1 := []) (Γ2 := [_, _]) S rfl rfl ?_
  rintro _ w445 M446 Γ' hM447 E' S ⟨b418, A420, c421, b423, A425, c426, A428, c429, A431, c432, A434, c435, vs437, A439, c440, A442, c443, rfl, hs422, hm438, rfl⟩
  replace HM := Hp.le_trans HM hM447
  replace E := E.trans E'
  replace S : St w445 M446 F [_, _, _, _, _, _, _, _, _, _] := S
  refine W_v (.tuple #[pt b418 0, .bool false]) (QC rfl) rfl (W_v (pt b418 0) (QQ rfl rfl) rfl (W_v (.bool false) (QQ rfl rfl) rfl (W_v (pt b418 0) (QD rfl) rfl (W_v (.bool false) (QD rfl) rfl (QB (tn (QE (QE (QA (W_v (.bool false) (QC rfl) rfl (W_v (.bool true) (Yx (b := false) rfl) rfl (QB (tn (QL rfl (QE ?_)))))))))))))))
  refine QA (W_v (.pointer none) (QD rfl) rfl (W_v (vI 1) (QD rfl) rfl (QB (tn ?_))))
  refine QY ?_
  refine tr (?_)
  obtain rfl := Option.some.inj H
  exact ⟨_, _, _, fun w1 e1 => QO (vs := [.pointer none, vI 1]) (FA.cons (rfl) (FA.cons (rfl) (FA.nil))), HM, E, S.pick [9] (by decide), ⟨rfl, rfl⟩⟩
 ·skip
  replace H := elimR H
  replace H := elimR H
  replace H := elimR H
  replace H := elimL H
  refine ZZ fn27 (ZH.con k M a0 A1 c1 a1 (Sum.inr (Sum.inr (Sum.inr (Sum.inl t9)))) hr1 ht5) (Γ1 := []) (Γ2 := [_, _]) S rfl rfl ?_
  rintro _ w459 M460 Γ' hM461 E' S ⟨b448, A450, c451, A453, c454, A456, c457, rfl, hs452, rfl⟩
  replace HM := Hp.le_trans HM hM461
  replace E := E.trans E'
  replace S : St w459 M460 F [_, _, _, _, _] := S
  refine W_v (.tuple #[pt b448 0, .bool false]) (QC rfl) rfl (W_v (pt b448 0) (QQ rfl rfl) rfl (W_v (.bool false) (QQ rfl rfl) rfl (W_v (pt b448 0) (QD rfl) rfl (W_v (.bool false) (QD rfl) rfl (QB (tn (QE (QE (QA (W_v (.bool false) (QC rfl) rfl (W_v (.bool true) (Yx (b := false) rfl) rfl (QB (tn (QL rfl (QE ?_)))))))))))))))
  refine QA (W_v (.pointer none) (QD rfl) rfl (W_v (vI 1) (QD rfl) rfl (QB (tn ?_))))
  refine QY ?_
  refine tr (?_)
  obtain rfl := Option.some.inj H
  exact ⟨_, _, _, fun w1 e1 => QO (vs := [.pointer none, vI 1]) (FA.cons (rfl) (FA.cons (rfl) (FA.nil))), HM, E, S.pick [4] (by decide), ⟨rfl, rfl⟩⟩
 ·skip
  replace H := elimR H
  replace H := elimR H
  replace H := elimR H
  replace H := elimR H
  refine ZZ fn27 (ZH.con k M a0 A1 c1 a1 (Sum.inr (Sum.inr (Sum.inr (Sum.inr t10)))) hr1 ht5) (Γ1 := []) (Γ2 := [_, _]) S rfl rfl ?_
  rintro _ w481 M482 Γ' hM483 E' S ⟨b462, A464, c465, b467, A469, c470, A472, c473, A475, c476, A478, c479, rfl, hs466, rfl⟩
  replace HM := Hp.le_trans HM hM483
  replace E := E.trans E'
  replace S : St w481 M482 F [_, _, _, _, _, _, _, _] := S
  refine W_v (.tuple #[pt b462 0, .bool false]) (QC rfl) rfl (W_v (pt b462 0) (QQ rfl rfl) rfl (W_v (.bool false) (QQ rfl rfl) rfl (W_v (pt b462 0) (QD rfl) rfl (W_v (.bool false) (QD rfl) rfl (QB (tn (QE (QE (QA (W_v (.bool false) (QC rfl) rfl (W_v (.bool true) (Yx (b := false) rfl) rfl (QB (tn (QL rfl (QE ?_)))))))))))))))
  refine QA (W_v (.pointer none) (QD rfl) rfl (W_v (vI 1) (QD rfl) rfl (QB (tn ?_))))
  refine QY ?_
  refine tr (?_)
  obtain rfl := Option.some.inj H
  exact ⟨_, _, _, fun w1 e1 => QO (vs := [.pointer none, vI 1]) (FA.cons (rfl) (FA.cons (rfl) (FA.nil))), HM, E, S.pick [7] (by decide), ⟨rfl, rfl⟩⟩
def Yu (k : Nat) (a0 : Qo) (a1 : (List (List QW))) (a2 : (List QG)) : Option ((List ZL)) :=
 (Option.bind (Yy k a0 a1 a2) (fun t4 => (Sum.elim (fun t6 => some ([] : List ZL)) (Sum.elim (fun t7 => some ([] : List ZL)) (fun t8 => some t8.done))) t4))
theorem Yu.mono {k : Nat} {a0 : Qo} {a1 : (List (List QW))} {a2 : (List QG)} : OLe (Yu k a0 a1 a2) (Yu (k + 1) a0 a1 a2) := by
 unfold Yu
 have m1 := @Yy.mono
 exact mo
theorem Yu.con (k : Nat) (M : Hp) (a0 : Qo) (A1 : Option Addr) (c1 : Nat) (a1 : (List (List QW))) (A2 : Option Addr) (c2 : Nat) (a2 : (List QG)) (r : (List ZL)) (hr1 : SlR (rSl ZV) M (.slice A1 a1.length c1) a1) (hg0 : ∃ gt fr, M 0 = some (.cells cz1 gt fr)) (hg1 : ∃ gt fr, M 1 = some (.cells cz3 gt fr)) (h : Yu k a0 a1 a2 = some r) : Con Tryd.prog 24 #[.agg #[vI a0.Tasks, vI a0.Active, vI a0.Keys, vI a0.Depth, vI a0.TS, vI a0.KeyLen, vI a0.ValLen, vI a0.Fan], .slice A1 a1.length c1, .slice A2 a2.length c2] M [Row QK 55 (.slice A2 a2.length c2) a2] (fun v M' Γ' => ∃ (Aq1 : Option Addr) (cq2 : Nat), v = .slice Aq1 r.length cq2 ∧ Γ' = [Row Q0 69 (.slice Aq1 r.length cq2) r, Row QK 55 (.slice A2 a2.length c2) a2]) := by
 refine Qa Tryd.func24 rfl Tryd.ntmps24 Tryd.results24 rfl ?_
 intro w F rn S hrn
 have E := Ext.refl w
 have HM := Hp.le_refl M
 have H := h
 unfold Yu at H
 refine QE (QA ?_)
 refine YO S #[vI a0.Tasks, vI a0.Active, vI a0.Keys, vI a0.Depth, vI a0.TS, vI a0.KeyLen, vI a0.ValLen, vI a0.Fan] rfl rfl rfl ?_
 intro b1 w2 E' S
 replace E := E.trans E'
 refine W_v (.slice none 0 0) (QD rfl) rfl (QB (tn (QE (QA (W_v (.agg #[vI a0.Tasks, vI a0.Active, vI a0.Keys, vI a0.Depth, vI a0.TS, vI a0.KeyLen, vI a0.ValLen, vI a0.Fan]) (Qh (S.blk 0 rfl) ty23 rfl (QI rfl) rfl rfl) rfl (W_v (.slice A1 a1.length c1) (QC rfl) rfl (W_v (.slice A2 a2.length c2) (QC rfl) rfl ?_)))))))
 obtain ⟨t4, ht5, H⟩ := QX H
 rcases t4 with t6 | t7 | t8
 ·skip
  replace H := elimL H
  replace S : St w2 M F [_, _] := S.pick [1, 0] (by decide)
  refine ZZ fn30 (Yy.con k M a0 A1 c1 a1 A2 c2 a2 (Sum.inl t6) hr1 hg0 hg1 ht5) (Γ1 := [_]) (Γ2 := [_]) S rfl rfl ?_
  rintro _ w9 M10 Γ' hM11 E' S ⟨rfl, rfl⟩
  replace HM := Hp.le_trans HM hM11
  replace E := E.trans E'
  replace S : St w9 M10 F [_, _] := S
  refine W_v (.tuple cz17) (QC rfl) rfl (W_v (.pointer none) (QQ rfl rfl) rfl (W_v (vI 1) (QQ rfl rfl) rfl (W_v (.pointer none) (QD rfl) rfl (W_v (vI 1) (QD rfl) rfl (QB (tn (QE (QE (QA (W_v (vI 1) (QC rfl) rfl (W_v (.bool true) (QT rfl rfl rfl rfl) rfl (QB (tn (QL rfl (QE ?_)))))))))))))))
  refine QA (W_v (.slice none 0 0) (QD rfl) rfl (QB (tn ?_)))
  refine QY ?_
  refine tr (?_)
  obtain rfl := Option.some.inj H
  replace S := S.row_nil Q0 69
  exact ⟨_, _, _, fun w1 e1 => QO (vs := [.slice none ([] : List ZL).length 0]) (FA.cons (rfl) (FA.nil)), HM, E, S.pick [0, 1] (by decide), ⟨none, 0, rfl, rfl⟩⟩
 ·skip
  replace H := elimR H
  replace H := elimL H
  replace S : St w2 M F [_, _] := S.pick [1, 0] (by decide)
  refine ZZ fn30 (Yy.con k M a0 A1 c1 a1 A2 c2 a2 (Sum.inr (Sum.inl t7)) hr1 hg0 hg1 ht5) (Γ1 := [_]) (Γ2 := [_]) S rfl rfl ?_
  rintro _ w13 M14 Γ' hM15 E' S ⟨rfl, rfl⟩
  replace HM := Hp.le_trans HM hM15
  replace E := E.trans E'
  replace S : St w13 M14 F [_, _] := S
  refine W_v (.tuple cz18) (QC rfl) rfl (W_v (.pointer none) (QQ rfl rfl) rfl (W_v (vI 4) (QQ rfl rfl) rfl (W_v (.pointer none) (QD rfl) rfl (W_v (vI 4) (QD rfl) rfl (QB (tn (QE (QE (QA (W_v (vI 4) (QC rfl) rfl (W_v (.bool true) (QT rfl rfl rfl rfl) rfl (QB (tn (QL rfl (QE ?_)))))))))))))))
  refine QA (W_v (.slice none 0 0) (QD rfl) rfl (QB (tn ?_)))
  refine QY ?_
  refine tr (?_)
  obtain rfl := Option.some.inj H
  replace S := S.row_nil Q0 69
  exact ⟨_, _, _, fun w1 e1 => QO (vs := [.slice none ([] : List ZL).length 0]) (FA.cons (rfl) (FA.nil)), HM, E, S.pick [0, 1] (by decide), ⟨none, 0, rfl, rfl⟩⟩
 ·skip
  replace H := elimR H
  replace H := elimR H
  replace S : St w2 M F [_, _] := S.pick [1, 0] (by decide)
  refine ZZ fn30 (Yy.con k M a0 A1 c1 a1 A2 c2 a2 (Sum.inr (Sum.inr t8)) hr1 hg0 hg1 ht5) (Γ1 := [_]) (Γ2 := [_]) S rfl rfl ?_
  rintro _ w52 M53 Γ' hM54 E' S ⟨b17, A19, c20, b22, A24, c25, A27, c28, b30, A32, c33, A35, c36, A38, c39, A41, c42, vs44, A46, c47, A49, c50, rfl, hs21, hm45, rfl⟩
  replace HM := Hp.le_trans HM hM54
  replace E := E.trans E'
  replace S : St w52 M53 F [_, _, _, _, _, _, _, _, _, _, _, _, _] := S
  refine W_v (.tuple #[pt b17 0, vI 0]) (QC rfl) rfl (W_v (pt b17 0) (QQ rfl rfl) rfl (W_v (vI 0) (QQ rfl rfl) rfl (W_v (pt b17 0) (QD rfl) rfl (W_v (vI 0) (QD rfl) rfl (QB (tn (QE (QE (QA (W_v (vI 0) (QC rfl) rfl (W_v (.bool false) (QT rfl rfl rfl rfl) rfl (QB (tn (QJ rfl (Qg ?_)))))))))))))))
  refine tn (QE (QA (W_v (pt b17 0) (QC rfl) rfl (W_v (pt b17 0) (Qy rfl) rfl (W_v (pt b17 3) (QF (o := 0) (off := 3) Tryd.underlying107 rfl ty62 rfl rfl) rfl (W_v (.slice A46 t8.done.length c47) (QR (S.blk 0 rfl) ty62 rfl rfl) rfl (W_v (.slice A46 t8.done.length c47) (QD rfl) rfl (QB (tn ?_)))))))))
  refine QY ?_
  obtain rfl := Option.some.inj H
  exact ⟨_, _, _, fun w1 e1 => QO (vs := [.slice A46 t8.done.length c47]) (FA.cons (rfl) (FA.nil)), HM, E, S.pick [9, 11] (by decide), ⟨A46, c47, rfl, rfl⟩⟩
def YY (k : Nat) (a0 : Qo) (a1 : (List (List QW))) (a2 : (List QG)) (a3 : Int) (a4 : Int) (a5 : Qf) : Option (Bool) :=
 (Option.bind (ZP k ) (fun t7 => (Option.bind (α := Bool) (if (!t7) = true then some (true) else (Option.bind (ZW k a1 a2) (fun t19 => some (t19)))) (fun x17 => (Option.bind (α := Bool) (if x17 = true then some (true) else (Option.bind (ZW k ([] : (List (List QW))) ([(⟨(0 : Int), (0 : Int), (0 : Int), ⟨a5.Err, a5.Found, a5.Value, a5.Pairs⟩⟩ : QG)] : List QG)) (fun t41 => some (t41)))) (fun x36 => (if x36 = true then (Option.bind (ZP k ) (fun t46 => some t46)) else (Option.bind (Yz k a0 a1 a2) (fun t49 => (Sum.elim (fun t51 => (Option.bind (Zi k a0 a1 a2) (fun t57 => some (((t57.2 != (0 : Int)) || false) && ((t57.2 == (1 : Int)) == (t57.1 == (-1 : Int))))))) (Sum.elim (fun t52 => (Option.bind (Zi k a0 a1 a2) (fun t65 => some (((t65.2 != (0 : Int)) || false) && ((t65.2 == (1 : Int)) == (t65.1 == (-1 : Int))))))) (fun t53 => (Option.bind (YQ k a0 a1 a2) (fun t89 => (Option.bind (Zi k a0 a1 t89) (fun t97 => (if ((t97.1 != (-1 : Int)) || (t97.2 != (0 : Int))) = true then some false else (if (IntKind.u64.wrap (IntKind.i64.wrap ((t89.length : Int) + (1 : Int)))) ≠ 0 then (if 0 ≤ (IntKind.i64.wrap (Int.tmod (IntKind.u64.wrap a4) (IntKind.u64.wrap (IntKind.i64.wrap ((t89.length : Int) + (1 : Int)))))) ∧ (IntKind.i64.wrap (Int.tmod (IntKind.u64.wrap a4) (IntKind.u64.wrap (IntKind.i64.wrap ((t89.length : Int) + (1 : Int)))))) ≤ (t89.length : Int) then (Option.bind (Zi k a0 a1 (List.take (IntKind.i64.wrap (Int.tmod (IntKind.u64.wrap a4) (IntKind.u64.wrap (IntKind.i64.wrap ((t89.length : Int) + (1 : Int)))))).toNat t89)) (fun t114 => (if ((t114.1 != (-1 : Int)) || (t114.2 != (0 : Int))) = true then some false else (Option.bind (Yu k a0 a1 t89) (fun t119 => (if ((t119.length : Int) == (0 : Int)) = true then some true else (if (IntKind.u64.wrap (t119.length : Int)) ≠ 0 then (if 0 ≤ (IntKind.i64.wrap (Int.tmod (IntKind.u64.wrap a3) (IntKind.u64.wrap (t119.length : Int)))) ∧ (IntKind.i64.wrap (Int.tmod (IntKind.u64.wrap a3) (IntKind.u64.wrap (t119.length : Int)))) < (t119.length : Int) then (Option.bind (α := Bool) (if (decide ((rd t119 (IntKind.i64.wrap (Int.tmod (IntKind.u64.wrap a3) (IntKind.u64.wrap (t119.length : Int))))).Back < (0 : Int))) = true then some (true) else (Option.bind (Y4 k a5 ((rd t119 (IntKind.i64.wrap (Int.tmod (IntKind.u64.wrap a3) (IntKind.u64.wrap (t119.length : Int))))).Answer)) (fun t156 => some (t156)))) (fun x154 => (if x154 = true then some true else (if 0 ≤ (rd t119 (IntKind.i64.wrap (Int.tmod (IntKind.u64.wrap a3) (IntKind.u64.wrap (t119.length : Int))))).Back ∧ (rd t119 (IntKind.i64.wrap (Int.tmod (IntKind.u64.wrap a3) (IntKind.u64.wrap (t119.length : Int))))).Back < (t89.length : Int) then (Option.bind (α := List QG) (some (List.set t89 ((rd t119 (IntKind.i64.wrap (Int.tmod (IntKind.u64.wrap a3) (IntKind.u64.wrap (t119.length : Int))))).Back).toNat (⟨(rd t89 ((rd t119 (IntKind.i64.wrap (Int.tmod (IntKind.u64.wrap a3) (IntKind.u64.wrap (t119.length : Int))))).Back)).What, (rd t89 ((rd t119 (IntKind.i64.wrap (Int.tmod (IntKind.u64.wrap a3) (IntKind.u64.wrap (t119.length : Int))))).Back)).Task, (rd t89 ((rd t119 (IntKind.i64.wrap (Int.tmod (IntKind.u64.wrap a3) (IntKind.u64.wrap (t119.length : Int))))).Back)).Call, ⟨a5.Err, a5.Found, a5.Value, a5.Pairs⟩⟩ : QG))) (fun x176 => (Option.bind (Zi k a0 a1 x176) (fun t180 => (if 0 ≤ (rd t119 (IntKind.i64.wrap (Int.tmod (IntKind.u64.wrap a3) (IntKind.u64.wrap (t119.length : Int))))).Back ∧ (rd t119 (IntKind.i64.wrap (Int.tmod (IntKind.u64.wrap a3) (IntKind.u64.wrap (t119.length : Int))))).Back ≤ (x176.length : Int) then (Option.bind (Zi k a0 a1 (List.take ((rd t119 (IntKind.i64.wrap (Int.tmod (IntKind.u64.wrap a3) (IntKind.u64.wrap (t119.length : Int))))).Back).toNat x176)) (fun t194 => some ((((t180.1 == (rd t119 (IntKind.i64.wrap (Int.tmod (IntKind.u64.wrap a3) (IntKind.u64.wrap (t119.length : Int))))).Back) && (t180.2 == (7 : Int))) && (t194.1 == (-1 : Int))) && (t194.2 == (0 : Int))))) else none))))) else none)))) else none) else none))))))) else none) else none))))))))) t49)))))))))
theorem YY.mono {k : Nat} {a0 : Qo} {a1 : (List (List QW))} {a2 : (List QG)} {a3 : Int} {a4 : Int} {a5 : Qf} : OLe (YY k a0 a1 a2 a3 a4 a5) (YY (k + 1) a0 a1 a2 a3 a4 a5) := by
 unfold YY
 have m1 := @ZW.mono
 have m2 := @YQ.mono
 have m3 := @ZP.mono
 have m4 := @Y4.mono
 have m5 := @Yu.mono
 have m6 := @Zi.mono
 have m7 := @Yz.mono
 exact mo
theorem YY.con (k : Nat) (M : Hp) (a0 : Qo) (A1 : Option Addr) (c1 : Nat) (a1 : (List (List QW))) (A2 : Option Addr) (c2 : Nat) (a2 : (List QG)) (a3 : Int) (a4 : Int) (A5_0 : Option Addr) (c5_0 : Nat) (a5 : Qf) (r : Bool) (hr1 : SlR (rSl ZV) M (.slice A1 a1.length c1) a1) (hr2 : SlR QK M (.slice A2 a2.length c2) a2) (hr5_0 : SlR Qr M (.slice A5_0 a5.Pairs.length c5_0) a5.Pairs) (hg0 : ∃ gt fr, M 0 = some (.cells cz1 gt fr)) (hg1 : ∃ gt fr, M 1 = some (.cells cz3 gt fr)) (h : YY k a0 a1 a2 a3 a4 a5 = some r) : Con Tryd.prog 7 #[.agg #[vI a0.Tasks, vI a0.Active, vI a0.Keys, vI a0.Depth, vI a0.TS, vI a0.KeyLen, vI a0.ValLen, vI a0.Fan], .slice A1 a1.length c1, .slice A2 a2.length c2, vI a3, vI a4, .agg #[vI a5.Err, .bool a5.Found, vS a5.Value, .slice A5_0 a5.Pairs.length c5_0]] M [] (fun v M' Γ' => v = .bool r ∧ Γ' = []) := by
 refine Qa Tryd.func7 rfl Tryd.ntmps7 Tryd.results7 rfl ?_
 intro w F rn S hrn
 have E := Ext.refl w
 have HM := Hp.le_refl M
 have H := h
 unfold YY at H
 refine QE (QA ?_)
 refine YO S #[vI a0.Tasks, vI a0.Active, vI a0.Keys, vI a0.Depth, vI a0.TS, vI a0.KeyLen, vI a0.ValLen, vI a0.Fan] rfl rfl rfl ?_
 intro b1 w2 E' S
 replace E := E.trans E'
 refine YO S #[vI a5.Err, .bool a5.Found, vS a5.Value, .slice A5_0 a5.Pairs.length c5_0] rfl rfl rfl ?_
 intro b4 w5 E' S
 replace E := E.trans E'
 refine W_v (.bool false) (QD rfl) rfl (QB (tn (QE (QE (QA ?_)))))
 obtain ⟨t7, ht8, H⟩ := QX H
 refine YJ fn9 (ZP.con k M  t7 hg0 hg1 ht8) S rfl rfl (by rintro _ _ _ ⟨_, rfl⟩; exact Qd) ?_
 rintro _ w9 _ Γ' E' S ⟨rfl, rfl⟩
 replace E := E.trans E'
 refine W_v (.bool (!t7)) (Yx (b := t7) rfl) rfl (W_v (.bool (!t7)) (QC rfl) rfl ?_)
 obtain ⟨o18, o18h, o18H⟩ := QX H
 refine ZI 4 (fun ρ w' => ∃ (x17 : Bool), (x17) = o18 ∧ Qs ρ [(1, .slice A1 a1.length c1), (2, .slice A2 a2.length c2), (3, vI a3), (4, vI a4), (6, pt b1 0), (11, pt b4 0), (30, .bool x17)] ∧ Ext w w' ∧ St w' M F [B34 b4 a5 A5_0 c5_0, B23 b1 a0]) ?_ ?_
 ·have H := o18h
  rcases Zh H with ⟨hb16, H⟩ | ⟨hb16, H⟩
  ·skip
   refine Qk (skF hb16) rfl (Qk (skF hb16) rfl (Qk (skF hb16) rfl (W_v (.bool true) (QZ (k := true) (congrArg Value.bool hb16) rfl) rfl (QB ?_))))
   exact ⟨true, Option.some.inj H, ⟨rfl, rfl, rfl, rfl, rfl, rfl, rfl, trivial⟩, E, S.pick [0, 1] (by decide)⟩
  ·skip
   refine QU (congrArg some hb16) (W_v (.slice A1 a1.length c1) (QC rfl) rfl (QU (congrArg some hb16) (W_v (.slice A2 a2.length c2) (QC rfl) rfl (QU (congrArg some hb16) ?_))))
   obtain ⟨t19, ht20, H⟩ := QX H
   refine YJ fn8 (ZW.con k M A1 c1 a1 A2 c2 a2 t19 hr1 hr2 ht20) S rfl rfl (by rintro _ _ _ ⟨_, rfl⟩; exact Qd) ?_
   rintro _ w21 _ Γ' E' S ⟨rfl, rfl⟩
   replace E := E.trans E'
   refine W_v (.bool t19) (QZ (k := false) (congrArg Value.bool hb16) rfl) rfl (QB ?_)
   exact ⟨t19, Option.some.inj H, ⟨rfl, rfl, rfl, rfl, rfl, rfl, rfl, trivial⟩, E, S.pick [0, 1] (by decide)⟩
 as_aux_lemma =>
 rintro ρ w22 ⟨x17, rfl, hρ, E, S⟩
 rw [QN hρ]
 have H := o18H
 refine W_v (.bool x17) (QC rfl) rfl ?_
 obtain ⟨o37, o37h, o37H⟩ := QX H
 refine ZI 5 (fun ρ w' => ∃ (x36 : Bool), (x36) = o37 ∧ Qs ρ [(1, .slice A1 a1.length c1), (2, .slice A2 a2.length c2), (3, vI a3), (4, vI a4), (6, pt b1 0), (11, pt b4 0), (36, .bool x36)] ∧ Ext w w' ∧ St w' M F [B34 b4 a5 A5_0 c5_0, B23 b1 a0]) ?_ ?_
 ·have H := o37h
  rcases Zh H with ⟨hb35, H⟩ | ⟨hb35, H⟩
  ·skip
   refine Qk (skF hb35) rfl (Qk (skF hb35) rfl (Qk (skF hb35) rfl (Qk (skF hb35) rfl (W_v (.bool true) (QZ (k := true) (congrArg Value.bool hb35) rfl) rfl (QB ?_)))))
   exact ⟨true, Option.some.inj H, ⟨rfl, rfl, rfl, rfl, rfl, rfl, rfl, trivial⟩, E, S.pick [0, 1] (by decide)⟩
  ·skip
   refine QU (congrArg some hb35) (W_v (.agg #[vI a5.Err, .bool a5.Found, vS a5.Value, .slice A5_0 a5.Pairs.length c5_0]) (Qh (S.blk 0 rfl) ty34 rfl (QI rfl) rfl rfl) rfl (QU (congrArg some hb35) (W_v (.agg #[vU 0, vI 0, vI 0, vI a5.Err, .bool a5.Found, vS a5.Value, .slice A5_0 a5.Pairs.length c5_0]) (ZN (pl := [(0, 1), (1, 1), (2, 1), (3, 4)]) #[vU 0, vI 0, vI 0, vI a5.Err, .bool a5.Found, vS a5.Value, .slice A5_0 a5.Pairs.length c5_0] Tryd.underlying55 ty55 (by as_aux_lemma => kernel_rfl) rfl (by as_aux_lemma => kernel_rfl)) rfl (QU (congrArg some hb35) ?_))))
   refine Y6 S #[vU 0, vI 0, vI 0, vI a5.Err, .bool a5.Found, vS a5.Value, .slice A5_0 a5.Pairs.length c5_0] Tryd.underlying25 ty55 rfl rfl cz5 (by as_aux_lemma => kernel_rfl) (by as_aux_lemma => kernel_rfl) rfl ?_
   intro b38 w39 E' S
   replace E := E.trans E'
   replace S := S.blk_row (r := QK) (l := ([(⟨(0 : Int), (0 : Int), (0 : Int), ⟨a5.Err, a5.Found, a5.Value, a5.Pairs⟩⟩ : QG)] : List QG)) 0 rfl 1 (Nat.le_refl 1) rfl (Cells.cons (vs := [vU 0, vI 0, vI 0, vI a5.Err, .bool a5.Found, vS a5.Value, .slice A5_0 a5.Pairs.length c5_0]) (⟨_, hr5_0, rfl⟩) Cells.nil)
   refine QU (congrArg some hb35) ?_
   obtain ⟨t41, ht42, H⟩ := QX H
   refine XX 1 fn8 (fun h9 hs9 hd9 => ZW.con k _ none 0 ([] : (List (List QW))) (some ⟨b38, 0, none⟩) 1 ([(⟨(0 : Int), (0 : Int), (0 : Int), ⟨a5.Err, a5.Found, a5.Value, a5.Pairs⟩⟩ : QG)] : List QG) t41 (SlW.nil _ _) (Sats.row hs9 hd9 0 rfl) ht42) S rfl rfl (by rintro _ _ _ ⟨_, rfl⟩; exact Qd) ?_
   rintro _ w43 _ Γ' E' S ⟨rfl, rfl⟩
   replace E := E.trans E'
   refine W_v (.bool t41) (QZ (k := false) (congrArg Value.bool hb35) rfl) rfl (QB ?_)
   exact ⟨t41, Option.some.inj H, ⟨rfl, rfl, rfl, rfl, rfl, rfl, rfl, trivial⟩, E, S.pick [1, 2] (by decide)⟩
 as_aux_lemma =>
 rintro ρ w44 ⟨x36, rfl, hρ, E, S⟩
 rw [QN hρ]
 have H := o37H
 refine QB (tn ?_)
 rcases Zh H with ⟨hb45, H⟩ | ⟨hb45, H⟩
 ·refine QL (congrArg Value.bool hb45) ?_
  refine QE (QA ?_)
  obtain ⟨t46, ht47, H⟩ := QX H
  refine YJ fn9 (ZP.con k M  t46 hg0 hg1 ht47) S rfl rfl (by rintro _ _ _ ⟨_, rfl⟩; exact Qd) ?_
  rintro _ w48 _ Γ' E' S ⟨rfl, rfl⟩
  replace E := E.trans E'
  refine W_v (.bool t46) (QD rfl) rfl (QB (tn ?_))
  refine QY ?_
  refine tr (?_)
  obtain rfl := Option.some.inj H
  exact ⟨_, _, _, fun w1 e1 => QO (vs := [.bool t46]) (FA.cons (rfl) (FA.nil)), HM, E, S.pick [] (by decide), ⟨rfl, rfl⟩⟩
 refine QJ (congrArg Value.bool hb45) (Qg (tn (QE (QA (W_v (.agg #[vI a0.Tasks, vI a0.Active, vI a0.Keys, vI a0.Depth, vI a0.TS, vI a0.KeyLen, vI a0.ValLen, vI a0.Fan]) (Qh (S.blk 1 rfl) ty23 rfl (QI rfl) rfl rfl) rfl (W_v (.slice A1 a1.length c1) (QC rfl) rfl (W_v (.slice A2 a2.length c2) (QC rfl) rfl ?_)))))))
 obtain ⟨t49, ht50, H⟩ := QX H
 rcases t49 with t51 | t52 | t53
 ·skip
  replace H := elimL H
  refine Z2 fn23 (Yz.con k M a0 A1 c1 a1 A2 c2 a2 (Sum.inl t51) hr1 hr2 hg0 hg1 ht50) (Γ1 := []) (Γ2 := [_, _]) S rfl rfl (by rintro _ _ _ ⟨rfl, rfl⟩; exact Qd) ?_
  rintro _ w54 _ Γ' E' S ⟨rfl, rfl⟩
  replace E := E.trans E'
  replace S : St w54 M F [_, _] := S
  refine W_v (.tuple cz17) (QC rfl) rfl (W_v (.pointer none) (QQ rfl rfl) rfl (W_v (vI 1) (QQ rfl rfl) rfl (W_v (.pointer none) (QD rfl) rfl (W_v (vI 1) (QD rfl) rfl (QB (tn (QE (QE (QA (W_v (vI 1) (QC rfl) rfl (W_v (.bool true) (QT rfl rfl rfl rfl) rfl (QB (tn (QL rfl (QE ?_)))))))))))))))
  refine QA (W_v (.agg #[vI a0.Tasks, vI a0.Active, vI a0.Keys, vI a0.Depth, vI a0.TS, vI a0.KeyLen, vI a0.ValLen, vI a0.Fan]) (Qh (S.blk 1 rfl) ty23 rfl (QI rfl) rfl rfl) rfl (W_v (.slice A1 a1.length c1) (QC rfl) rfl (W_v (.slice A2 a2.length c2) (QC rfl) rfl ?_)))
  obtain ⟨t57, ht58, H⟩ := QX H
  refine YJ fn20 (Zi.con k M a0 A1 c1 a1 A2 c2 a2 t57 hr1 hr2 hg0 hg1 ht58) S rfl rfl (by rintro _ _ _ ⟨_, rfl⟩; exact Qd) ?_
  rintro _ w59 _ Γ' E' S ⟨rfl, rfl⟩
  replace E := E.trans E'
  refine W_v (.tuple #[vI t57.1, vI t57.2]) (QC rfl) rfl (W_v (vI t57.1) (QQ rfl rfl) rfl (W_v (vI t57.2) (QQ rfl rfl) rfl (W_v (vI t57.1) (QD rfl) rfl (W_v (vI t57.2) (QD rfl) rfl (QB (tn (QE (QA (W_v (vI t57.2) (QC rfl) rfl (W_v (.bool (t57.2 != (0 : Int))) (QT rfl rfl rfl rfl) rfl (W_v (.bool (t57.2 != (0 : Int))) (QC rfl) rfl ?_)))))))))))
  refine ZI 3 (fun ρ w' => Qs ρ [(15, vI t57.1), (16, vI t57.2), (59, .bool ((t57.2 != (0 : Int)) || false))] ∧ w59 = w') ?_ ?_
  ·rcases Qw (t57.2 != (0 : Int)) with hb60 | hb60
   ·skip
    refine Qk (skT hb60) rfl (Qk (skT hb60) rfl (W_v (.bool false) (QZ (k := false) (congrArg Value.bool hb60) rfl) rfl (QB ?_)))
    exact ⟨⟨rfl, rfl, (by first | rfl | (rw [hb60]; rfl) | (simp only [hb60]; rfl)), trivial⟩, rfl⟩
   ·skip
    refine QU (congrArg some hb60) (W_v (.pointer none) (QC rfl) rfl (QU (congrArg some hb60) (W_v (.bool true) (Xd (r := true) rfl rfl (Vs Tryd.underlying39)) rfl (W_v (.bool true) (QZ (k := true) (congrArg Value.bool hb60) rfl) rfl (QB ?_)))))
    exact ⟨⟨rfl, rfl, (by first | rfl | (rw [hb60]; rfl) | (simp only [hb60]; rfl)), trivial⟩, rfl⟩
  rintro ρ _ ⟨hρ, rfl⟩
  rw [QN hρ]
  refine W_v (.bool ((t57.2 != (0 : Int)) || false)) (QC rfl) rfl ?_
  refine ZI 6 (fun ρ w' => Qs ρ [(66, .bool (((t57.2 != (0 : Int)) || false) && ((t57.2 == (1 : Int)) == (t57.1 == (-1 : Int)))))] ∧ w59 = w') ?_ ?_
  ·rcases Qw ((t57.2 != (0 : Int)) || false) with hb61 | hb61
   ·skip
    refine Qk (skT hb61) rfl (Qk (skT hb61) rfl (Qk (skT hb61) rfl (Qk (skT hb61) rfl (Qk (skT hb61) rfl (W_v (.bool false) (QZ (k := false) (congrArg Value.bool hb61) rfl) rfl (QB ?_))))))
    exact ⟨⟨(by first | rfl | (rw [hb61]; rfl) | (simp only [hb61]; rfl)), trivial⟩, rfl⟩
   ·skip
    refine QU (congrArg some hb61) (W_v (vI t57.2) (QC rfl) rfl (QU (congrArg some hb61) (W_v (.bool (t57.2 == (1 : Int))) (QT rfl rfl rfl rfl) rfl (QU (congrArg some hb61) (W_v (vI t57.1) (QC rfl) rfl (QU (congrArg some hb61) (W_v (.bool (t57.1 == (-1 : Int))) (QT rfl rfl rfl rfl) rfl (QU (congrArg some hb61) (W_v (.bool ((t57.2 == (1 : Int)) == (t57.1 == (-1 : Int)))) (Jf Tryd.underlying4 rfl rfl) rfl (W_v (.bool ((t57.2 == (1 : Int)) == (t57.1 == (-1 : Int)))) (QZ (k := true) (congrArg Value.bool hb61) rfl) rfl (QB ?_)))))))))))
    exact ⟨⟨(by first | rfl | (rw [hb61]; rfl) | (simp only [hb61]; rfl)), trivial⟩, rfl⟩
  rintro ρ _ ⟨hρ, rfl⟩
  rw [QN hρ]
  refine W_v (.bool (((t57.2 != (0 : Int)) || false) && ((t57.2 == (1 : Int)) == (t57.1 == (-1 : Int))))) (QD rfl) rfl (QB (tn ?_))
  refine QY ?_
  refine tr (?_)
  obtain rfl := Option.some.inj H
  exact ⟨_, _, _, fun w1 e1 => QO (vs := [.bool (((t57.2 != (0 : Int)) || false) && ((t57.2 == (1 : Int)) == (t57.1 == (-1 : Int))))]) (FA.cons (rfl) (FA.nil)), HM, E, S.pick [] (by decide), ⟨rfl, rfl⟩⟩
 ·skip
  replace H := elimR H
  replace H := elimL H
  refine Z2 fn23 (Yz.con k M a0 A1 c1 a1 A2 c2 a2 (Sum.inr (Sum.inl t52)) hr1 hr2 hg0 hg1 ht50) (Γ1 := []) (Γ2 := [_, _]) S rfl rfl (by rintro _ _ _ ⟨rfl, rfl⟩; exact Qd) ?_
  rintro _ w62 _ Γ' E' S ⟨rfl, rfl⟩
  replace E := E.trans E'
  replace S : St w62 M F [_, _] := S
  refine W_v (.tuple cz18) (QC rfl) rfl (W_v (.pointer none) (QQ rfl rfl) rfl (W_v (vI 4) (QQ rfl rfl) rfl (W_v (.pointer none) (QD rfl) rfl (W_v (vI 4) (QD rfl) rfl (QB (tn (QE (QE (QA (W_v (vI 4) (QC rfl) rfl (W_v (.bool true) (QT rfl rfl rfl rfl) rfl (QB (tn (QL rfl (QE ?_)))))))))))))))
  refine QA (W_v (.agg #[vI a0.Tasks, vI a0.Active, vI a0.Keys, vI a0.Depth, vI a0.TS, vI a0.KeyLen, vI a0.ValLen, vI a0.Fan]) (Qh (S.blk 1 rfl) ty23 rfl (QI rfl) rfl rfl) rfl (W_v (.slice A1 a1.length c1) (QC rfl) rfl (W_v (.slice A2 a2.length c2) (QC rfl) rfl ?_)))
  obtain ⟨t65, ht66, H⟩ := QX H
  refine YJ fn20 (Zi.con k M a0 A1 c1 a1 A2 c2 a2 t65 hr1 hr2 hg0 hg1 ht66) S rfl rfl (by rintro _ _ _ ⟨_, rfl⟩; exact Qd) ?_
  rintro _ w67 _ Γ' E' S ⟨rfl, rfl⟩
  replace E := E.trans E'
  refine W_v (.tuple #[vI t65.1, vI t65.2]) (QC rfl) rfl (W_v (vI t65.1) (QQ rfl rfl) rfl (W_v (vI t65.2) (QQ rfl rfl) rfl (W_v (vI t65.1) (QD rfl) rfl (W_v (vI t65.2) (QD rfl) rfl (QB (tn (QE (QA (W_v (vI t65.2) (QC rfl) rfl (W_v (.bool (t65.2 != (0 : Int))) (QT rfl rfl rfl rfl) rfl (W_v (.bool (t65.2 != (0 : Int))) (QC rfl) rfl ?_)))))))))))
  refine ZI 3 (fun ρ w' => Qs ρ [(15, vI t65.1), (16, vI t65.2), (59, .bool ((t65.2 != (0 : Int)) || false))] ∧ w67 = w') ?_ ?_
  ·rcases Qw (t65.2 != (0 : Int)) with hb68 | hb68
   ·skip
    refine Qk (skT hb68) rfl (Qk (skT hb68) rfl (W_v (.bool false) (QZ (k := false) (congrArg Value.bool hb68) rfl) rfl (QB ?_)))
    exact ⟨⟨rfl, rfl, (by first | rfl | (rw [hb68]; rfl) | (simp only [hb68]; rfl)), trivial⟩, rfl⟩
   ·skip
    refine QU (congrArg some hb68) (W_v (.pointer none) (QC rfl) rfl (QU (congrArg some hb68) (W_v (.bool true) (Xd (r := true) rfl rfl (Vs Tryd.underlying39)) rfl (W_v (.bool true) (QZ (k := true) (congrArg Value.bool hb68) rfl) rfl (QB ?_)))))
    exact ⟨⟨rfl, rfl, (by first | rfl | (rw [hb68]; rfl) | (simp only [hb68]; rfl)), trivial⟩, rfl⟩
  rintro ρ _ ⟨hρ, rfl⟩
  rw [QN hρ]
  refine W_v (.bool ((t65.2 != (0 : Int)) || false)) (QC rfl) rfl ?_
  refine ZI 6 (fun ρ w' => Qs ρ [(66, .bool (((t65.2 != (0 : Int)) || false) && ((t65.2 == (1 : Int)) == (t65.1 == (-1 : Int)))))] ∧ w67 = w') ?_ ?_
  ·rcases Qw ((t65.2 != (0 : Int)) || false) with hb69 | hb69
   ·skip
    refine Qk (skT hb69) rfl (Qk (skT hb69) rfl (Qk (skT hb69) rfl (Qk (skT hb69) rfl (Qk (skT hb69) rfl (W_v (.bool false) (QZ (k := false) (congrArg Value.bool hb69) rfl) rfl (QB ?_))))))
    exact ⟨⟨(by first | rfl | (rw [hb69]; rfl) | (simp only [hb69]; rfl)), trivial⟩, rfl⟩
   ·skip
    refine QU (congrArg some hb69) (W_v (vI t65.2) (QC rfl) rfl (QU (congrArg some hb69) (W_v (.bool (t65.2 == (1 : Int))) (QT rfl rfl rfl rfl) rfl (QU (congrArg some hb69) (W_v (vI t65.1) (QC rfl) rfl (QU (congrArg some hb69) (W_v (.bool (t65.1 == (-1 : Int))) (QT rfl rfl rfl rfl) rfl (QU (congrArg some hb69) (W_v (.bool ((t65.2 == (1 : Int)) == (t65.1 == (-1 : Int)))) (Jf Tryd.underlying4 rfl rfl) rfl (W_v (.bool ((t65.2 == (1 : Int)) == (t65.1 == (-1 : Int)))) (QZ (k := true) (congrArg Value.bool hb69) rfl) rfl (QB ?_)))))))))))
    exact ⟨⟨(by first | rfl | (rw [hb69]; rfl) | (simp only [hb69]; rfl)), trivial⟩, rfl⟩
  rintro ρ _ ⟨hρ, rfl⟩
  rw [QN hρ]
  refine W_v (.bool (((t65.2 != (0 : Int)) || false) && ((t65.2 == (1 : Int)) == (t65.1 == (-1 : Int))))) (QD rfl) rfl (QB (tn ?_))
  refine QY ?_
  refine tr (?_)
  obtain rfl := Option.some.inj H
  exact ⟨_, _, _, fun w1 e1 => QO (vs := [.bool (((t65.2 != (0 : Int)) || false) && ((t65.2 == (1 : Int)) == (t65.1 == (-1 : Int))))]) (FA.cons (rfl) (FA.nil)), HM, E, S.pick [] (by decide), ⟨rfl, rfl⟩⟩
 ·skip
  replace H := elimR H
  replace H := elimR H
  refine ZZ fn23 (Yz.con k M a0 A1 c1 a1 A2 c2 a2 (Sum.inr (Sum.inr t53)) hr1 hr2 hg0 hg1 ht50) (Γ1 := []) (Γ2 := [_, _]) S rfl rfl ?_
  rintro _ w86 M87 Γ' hM88 E' S ⟨b70, A72, c73, A75, c76, A78, c79, A81, c82, vs84, rfl, hm85, rfl⟩
  replace hg0 := gup hg0 hM88
  replace hg1 := gup hg1 hM88
  replace HM := Hp.le_trans HM hM88
  replace hr1 := SlR.mono hr1 hM88
  replace hr2 := SlR.mono hr2 hM88
  replace hr5_0 := SlR.mono hr5_0 hM88
  replace E := E.trans E'
  replace S : St w86 M87 F [_, _, _, _, _, _, _] := S
  refine W_v (.tuple #[pt b70 0, vI 0]) (QC rfl) rfl (W_v (pt b70 0) (QQ rfl rfl) rfl (W_v (vI 0) (QQ rfl rfl) rfl (W_v (pt b70 0) (QD rfl) rfl (W_v (vI 0) (QD rfl) rfl (QB (tn (QE (QE (QA (W_v (vI 0) (QC rfl) rfl (W_v (.bool false) (QT rfl rfl rfl rfl) rfl (QB (tn (QJ rfl (Qg ?_)))))))))))))))
  refine tn (QE (QA (W_v (.agg #[vI a0.Tasks, vI a0.Active, vI a0.Keys, vI a0.Depth, vI a0.TS, vI a0.KeyLen, vI a0.ValLen, vI a0.Fan]) (Qh (S.blk 6 rfl) ty23 rfl (QI rfl) rfl rfl) rfl (W_v (.slice A1 a1.length c1) (QC rfl) rfl (W_v (.slice A2 a2.length c2) (QC rfl) rfl ?_)))))
  obtain ⟨t89, ht90, H⟩ := QX H
  refine ZZ fn19 (YQ.con k M87 a0 A1 c1 a1 A2 c2 a2 t89 hr1 hr2 hg0 hg1 ht90) (Γ1 := []) (Γ2 := [_, _, _, _, _, _, _]) S rfl rfl ?_
  rintro _ w94 M95 Γ' hM96 E' S ⟨A91, c92, rfl, rfl⟩
  replace hg0 := gup hg0 hM96
  replace hg1 := gup hg1 hM96
  replace HM := Hp.le_trans HM hM96
  replace hr1 := SlR.mono hr1 hM96
  replace hr5_0 := SlR.mono hr5_0 hM96
  replace E := E.trans E'
  refine W_v (.slice A91 t89.length c92) (QD rfl) rfl (QB (tn (QE (QA (W_v (.agg #[vI a0.Tasks, vI a0.Active, vI a0.Keys, vI a0.Depth, vI a0.TS, vI a0.KeyLen, vI a0.ValLen, vI a0.Fan]) (Qh (S.blk 7 rfl) ty23 rfl (QI rfl) rfl rfl) rfl (W_v (.slice A1 a1.length c1) (QC rfl) rfl (W_v (.slice A91 t89.length c92) (QC rfl) rfl ?_)))))))
  obtain ⟨t97, ht98, H⟩ := QX H
  refine XX 1 fn20 (fun h9 hs9 hd9 => Zi.con k _ a0 A1 c1 a1 A91 c92 t89 t97 (SlR.mono hr1 (Hp.le_union_left _ _)) (Sats.row hs9 hd9 0 rfl) (let ⟨gt, fr, h8⟩ := hg0; ⟨gt, fr, Hp.le_union_left _ _ _ _ h8⟩) (let ⟨gt, fr, h8⟩ := hg1; ⟨gt, fr, Hp.le_union_left _ _ _ _ h8⟩) ht98) S rfl rfl (by rintro _ _ _ ⟨_, rfl⟩; exact Qd) ?_
  rintro _ w99 _ Γ' E' S ⟨rfl, rfl⟩
  replace E := E.trans E'
  refine W_v (.tuple #[vI t97.1, vI t97.2]) (QC rfl) rfl (W_v (vI t97.1) (QQ rfl rfl) rfl (W_v (vI t97.2) (QQ rfl rfl) rfl (W_v (vI t97.1) (QD rfl) rfl (W_v (vI t97.2) (QD rfl) rfl (QB (tn ?_))))))
  as_aux_lemma =>
  refine QE (QE (QA (W_v (vI t97.1) (QC rfl) rfl (W_v (.bool (t97.1 != (-1 : Int))) (QT rfl rfl rfl rfl) rfl (W_v (.bool (t97.1 != (-1 : Int))) (QC rfl) rfl ?_)))))
  refine ZI 3 (fun ρ w' => Qs ρ [(1, .slice A1 a1.length c1), (3, vI a3), (4, vI a4), (6, pt b1 0), (11, pt b4 0), (17, .slice A91 t89.length c92), (83, .bool ((t97.1 != (-1 : Int)) || (t97.2 != (0 : Int))))] ∧ w99 = w') ?_ ?_
  ·rcases Qw (t97.1 != (-1 : Int)) with hb100 | hb100
   ·skip
    refine QU (congrArg some hb100) (W_v (vI t97.2) (QC rfl) rfl (QU (congrArg some hb100) (W_v (.bool (t97.2 != (0 : Int))) (QT rfl rfl rfl rfl) rfl (W_v (.bool (t97.2 != (0 : Int))) (QZ (k := false) (congrArg Value.bool hb100) rfl) rfl (QB ?_)))))
    exact ⟨⟨rfl, rfl, rfl, rfl, rfl, rfl, (by first | rfl | (rw [hb100]; rfl) | (simp only [hb100]; rfl)), trivial⟩, rfl⟩
   ·skip
    refine Qk (skF hb100) rfl (Qk (skF hb100) rfl (W_v (.bool true) (QZ (k := true) (congrArg Value.bool hb100) rfl) rfl (QB ?_)))
    exact ⟨⟨rfl, rfl, rfl, rfl, rfl, rfl, (by first | rfl | (rw [hb100]; rfl) | (simp only [hb100]; rfl)), trivial⟩, rfl⟩
  as_aux_lemma =>
  rintro ρ _ ⟨hρ, rfl⟩
  rw [QN hρ]
  refine QB (tn ?_)
  rcases Zh H with ⟨hb101, H⟩ | ⟨hb101, H⟩
  ·refine QL (congrArg Value.bool hb101) ?_
   refine QE (QA (W_v (.bool false) (QD rfl) rfl (QB (tn ?_))))
   refine QY ?_
   refine tr (?_)
   obtain rfl := Option.some.inj H
   exact ⟨_, _, _, fun w1 e1 => QO (vs := [.bool false]) (FA.cons (rfl) (FA.nil)), HM, E, S.pick [] (by decide), ⟨rfl, rfl⟩⟩
  refine QJ (congrArg Value.bool hb101) (Qg (tn (QE (QA (W_v (vI a4) (QC rfl) rfl (W_v (.int .u64 (IntKind.u64.wrap a4)) (XD Tryd.underlying3 Tryd.underlying43 rfl) rfl (W_v (.slice A91 t89.length c92) (QC rfl) rfl (W_v (vI (t89.length : Int)) (Qt (n := t89.length) Tryd.underlying25 rfl) rfl (W_v (vI (IntKind.i64.wrap ((t89.length : Int) + (1 : Int)))) (QT rfl rfl rfl rfl) rfl (W_v (.int .u64 (IntKind.u64.wrap (IntKind.i64.wrap ((t89.length : Int) + (1 : Int))))) (XD Tryd.underlying3 Tryd.underlying43 rfl) rfl ?_))))))))))
  obtain ⟨p102, H⟩ := Zt H
  refine W_v (.int .u64 (Int.tmod (IntKind.u64.wrap a4) (IntKind.u64.wrap (IntKind.i64.wrap ((t89.length : Int) + (1 : Int)))))) (Je rfl rfl p102) rfl (W_v (vI (IntKind.i64.wrap (Int.tmod (IntKind.u64.wrap a4) (IntKind.u64.wrap (IntKind.i64.wrap ((t89.length : Int) + (1 : Int))))))) (XD Tryd.underlying43 Tryd.underlying3 rfl) rfl (W_v (vI (IntKind.i64.wrap (Int.tmod (IntKind.u64.wrap a4) (IntKind.u64.wrap (IntKind.i64.wrap ((t89.length : Int) + (1 : Int))))))) (QD rfl) rfl (QB (tn (QE ?_)))))
  refine Ql (S := fun w' => ∃ Mx, M95.le Mx ∧ St w' Mx F [Row QK 55 (.slice A91 t89.length c92) t89, B95 b70 t53 A72 A75 A78 c79 A81, QV QH (Value.int .i64) A72 t53.names, QV (Value.int .i64) (Value.int .i64) A75 t53.many, Row QP 122 (.slice A78 t53.txs.length c79) t53.txs, QV encS (fun v : Value => v) A81 vs84, B34 b4 a5 A5_0 c5_0, B23 b1 a0]) (L := 11) mixed ?_
  intro w109 hw110 E'
  replace S := S.heap hw110
  replace E := E.trans E'
  have D1 : ∃ Mx, Hp.le M95 Mx ∧ St _ Mx F [_, _, _, _, _, _, _, _] := ⟨_, Hp.le_refl _, S.pick [0, 1, 2, 3, 4, 5, 6, 7] (by decide)⟩
  refine Wt 0 rfl rfl rfl (.agg #[vI a0.Tasks, vI a0.Active, vI a0.Keys, vI a0.Depth, vI a0.TS, vI a0.KeyLen, vI a0.ValLen, vI a0.Fan]) rfl (fun w' h' => Qh (Qj h' 7 rfl) ty23 rfl (QI rfl) rfl rfl) D1 (Wt 1 rfl rfl rfl (.slice A1 a1.length c1) rfl (fun w' h' => QC rfl) D1 (Wt 2 rfl rfl rfl (.slice A91 t89.length c92) rfl (fun w' h' => QC rfl) D1 (Wt 3 rfl rfl rfl (vI (IntKind.i64.wrap (Int.tmod (IntKind.u64.wrap a4) (IntKind.u64.wrap (IntKind.i64.wrap ((t89.length : Int) + (1 : Int))))))) rfl (fun w' h' => QC rfl) D1 ?_)))
  obtain ⟨⟨p111, p112⟩, H⟩ := Zt H
  have hx113 := @V1 _ _ _ _ _ _ _ _ _ (S.row_read 0 rfl) p111 p112
  refine Wt 4 rfl rfl rfl (.slice A91 (List.take (IntKind.i64.wrap (Int.tmod (IntKind.u64.wrap a4) (IntKind.u64.wrap (IntKind.i64.wrap ((t89.length : Int) + (1 : Int)))))).toNat t89).length c92) rfl (fun w' h' => hx113 Tryd.underlying25 ty55 rfl rfl) D1 ?_
  refine Wo 5 rfl ?_
  obtain ⟨t114, ht115, H⟩ := QX H
  refine XX 1 fn20 (fun h9 hs9 hd9 => Zi.con k _ a0 A1 c1 a1 A91 c92 (List.take (IntKind.i64.wrap (Int.tmod (IntKind.u64.wrap a4) (IntKind.u64.wrap (IntKind.i64.wrap ((t89.length : Int) + (1 : Int)))))).toNat t89) t114 (SlR.mono hr1 (Hp.le_union_left _ _)) (Vp (Sats.row hs9 hd9 0 rfl) p111 p112) (let ⟨gt, fr, h8⟩ := hg0; ⟨gt, fr, Hp.le_union_left _ _ _ _ h8⟩) (let ⟨gt, fr, h8⟩ := hg1; ⟨gt, fr, Hp.le_union_left _ _ _ _ h8⟩) ht115) S rfl rfl (by rintro _ _ _ ⟨_, rfl⟩; exact Qd) ?_
  rintro _ w116 _ Γ' E' S ⟨rfl, rfl⟩
  replace E := E.trans E'
  refine QB (YC ⟨.inr ⟨M95, Hp.le_refl M95, (S.pick [0, 1, 2, 3, 4, 5, 6, 7] (by decide))⟩, ?_⟩)
  have D2 : ∃ Mx, Hp.le M95 Mx ∧ St _ Mx F [_, _, _, _, _, _, _, _] := ⟨_, Hp.le_refl _, S.pick [0, 1, 2, 3, 4, 5, 6, 7] (by decide)⟩
  refine Wt 6 rfl rfl rfl (.tuple #[vI t114.1, vI t114.2]) rfl (fun w' h' => QC rfl) D2 (Wt 7 rfl rfl rfl (vI t114.1) rfl (fun w' h' => QQ rfl rfl) D2 (Wt 8 rfl rfl rfl (vI t114.2) rfl (fun w' h' => QQ rfl rfl) D2 (Wt 9 rfl rfl rfl (vI t114.1) rfl (fun w' h' => QD rfl) D2 (Wt 10 rfl rfl rfl (vI t114.2) rfl (fun w' h' => QD rfl) D2 ?_))))
  refine Wz ?_
  refine tn ?_
  as_aux_lemma =>
  refine QE (QE (QA (W_v (vI t114.1) (QC rfl) rfl (W_v (.bool (t114.1 != (-1 : Int))) (QT rfl rfl rfl rfl) rfl (W_v (.bool (t114.1 != (-1 : Int))) (QC rfl) rfl ?_)))))
  refine ZI 3 (fun ρ w' => Qs ρ [(1, .slice A1 a1.length c1), (3, vI a3), (6, pt b1 0), (11, pt b4 0), (17, .slice A91 t89.length c92), (106, .bool ((t114.1 != (-1 : Int)) || (t114.2 != (0 : Int))))] ∧ w116 = w') ?_ ?_
  ·rcases Qw (t114.1 != (-1 : Int)) with hb117 | hb117
   ·skip
    refine QU (congrArg some hb117) (W_v (vI t114.2) (QC rfl) rfl (QU (congrArg some hb117) (W_v (.bool (t114.2 != (0 : Int))) (QT rfl rfl rfl rfl) rfl (W_v (.bool (t114.2 != (0 : Int))) (QZ (k := false) (congrArg Value.bool hb117) rfl) rfl (QB ?_)))))
    exact ⟨⟨rfl, rfl, rfl, rfl, rfl, (by first | rfl | (rw [hb117]; rfl) | (simp only [hb117]; rfl)), trivial⟩, rfl⟩
   ·skip
    refine Qk (skF hb117) rfl (Qk (skF hb117) rfl (W_v (.bool true) (QZ (k := true) (congrArg Value.bool hb117) rfl) rfl (QB ?_)))
    exact ⟨⟨rfl, rfl, rfl, rfl, rfl, (by first | rfl | (rw [hb117]; rfl) | (simp only [hb117]; rfl)), trivial⟩, rfl⟩
  as_aux_lemma =>
  rintro ρ _ ⟨hρ, rfl⟩
  rw [QN hρ]
  refine QB (tn ?_)
  rcases Zh H with ⟨hb118, H⟩ | ⟨hb118, H⟩
  ·refine QL (congrArg Value.bool hb118) ?_
   refine QE (QA (W_v (.bool false) (QD rfl) rfl (QB (tn ?_))))
   refine QY ?_
   refine tr (?_)
   obtain rfl := Option.some.inj H
   exact ⟨_, _, _, fun w1 e1 => QO (vs := [.bool false]) (FA.cons (rfl) (FA.nil)), HM, E, S.pick [] (by decide), ⟨rfl, rfl⟩⟩
  refine QJ (congrArg Value.bool hb118) (Qg (tn (QE (QA (W_v (.agg #[vI a0.Tasks, vI a0.Active, vI a0.Keys, vI a0.Depth, vI a0.TS, vI a0.KeyLen, vI a0.ValLen, vI a0.Fan]) (Qh (S.blk 7 rfl) ty23 rfl (QI rfl) rfl rfl) rfl (W_v (.slice A1 a1.length c1) (QC rfl) rfl (W_v (.slice A91 t89.length c92) (QC rfl) rfl ?_)))))))
  obtain ⟨t119, ht120, H⟩ := QX H
  refine ZZ fn24 (Yu.con k M95 a0 A1 c1 a1 A91 c92 t89 t119 hr1 hg0 hg1 ht120) (Γ1 := [_]) (Γ2 := [_, _, _, _, _, _, _]) S rfl rfl ?_
  rintro _ w124 M125 Γ' hM126 E' S ⟨A121, c122, rfl, rfl⟩
  replace hg0 := gup hg0 hM126
  replace hg1 := gup hg1 hM126
  replace HM := Hp.le_trans HM hM126
  replace hr1 := SlR.mono hr1 hM126
  replace hr5_0 := SlR.mono hr5_0 hM126
  replace E := E.trans E'
  replace S : St w124 M125 F [_, _, _, _, _, _, _, _, _] := S
  refine W_v (.slice A121 t119.length c122) (QD rfl) rfl (QB (tn (QE (QE (QA (W_v (.slice A121 t119.length c122) (QC rfl) rfl (W_v (vI (t119.length : Int)) (Qt (n := t119.length) Tryd.underlying62 rfl) rfl (W_v (.bool ((t119.length : Int) == (0 : Int))) (QT rfl rfl rfl rfl) rfl (QB (tn ?_))))))))))
  rcases Zh H with ⟨hb127, H⟩ | ⟨hb127, H⟩
  ·refine QL (congrArg Value.bool hb127) ?_
   refine QE (QA (W_v (.bool true) (QD rfl) rfl (QB (tn ?_))))
   refine QY ?_
   refine tr (?_)
   obtain rfl := Option.some.inj H
   exact ⟨_, _, _, fun w1 e1 => QO (vs := [.bool true]) (FA.cons (rfl) (FA.nil)), HM, E, S.pick [] (by decide), ⟨rfl, rfl⟩⟩
  refine QJ (congrArg Value.bool hb127) (Qg (tn ?_))
  as_aux_lemma =>
  refine QE (QA (W_v (.slice A121 t119.length c122) (QC rfl) rfl (W_v (vI a3) (QC rfl) rfl (W_v (.int .u64 (IntKind.u64.wrap a3)) (XD Tryd.underlying3 Tryd.underlying43 rfl) rfl (W_v (.slice A121 t119.length c122) (QC rfl) rfl (W_v (vI (t119.length : Int)) (Qt (n := t119.length) Tryd.underlying62 rfl) rfl (W_v (.int .u64 (IntKind.u64.wrap (t119.length : Int))) (XD Tryd.underlying3 Tryd.underlying43 rfl) rfl ?_)))))))
  obtain ⟨p128, H⟩ := Zt H
  refine W_v (.int .u64 (Int.tmod (IntKind.u64.wrap a3) (IntKind.u64.wrap (t119.length : Int)))) (Je rfl rfl p128) rfl (W_v (vI (IntKind.i64.wrap (Int.tmod (IntKind.u64.wrap a3) (IntKind.u64.wrap (t119.length : Int))))) (XD Tryd.underlying43 Tryd.underlying3 rfl) rfl ?_)
  obtain ⟨⟨p129, p130⟩, H⟩ := Zt H
  obtain ⟨b131, o132, cs133, _, _, ee138, hb134, vs135, hR136, hc137⟩ := SlW.at' (S.row_read 0 rfl) p129 p130
  obtain ⟨v142, hs141, rfl⟩ := hR136
  obtain ⟨A139, c140, rfl, _⟩ := hs141.form
  refine W_v (.pointer (some ⟨b131, o132 + (IntKind.i64.wrap (Int.tmod (IntKind.u64.wrap a3) (IntKind.u64.wrap (t119.length : Int)))).toNat * 8, none⟩)) (Qe Tryd.underlying62 ty69 (slA ee138) rfl p129 p130) rfl (W_v (.agg #[vI ((rd t119 (IntKind.i64.wrap (Int.tmod (IntKind.u64.wrap a3) (IntKind.u64.wrap (t119.length : Int))))).Task), vI ((rd t119 (IntKind.i64.wrap (Int.tmod (IntKind.u64.wrap a3) (IntKind.u64.wrap (t119.length : Int))))).Call), vI ((rd t119 (IntKind.i64.wrap (Int.tmod (IntKind.u64.wrap a3) (IntKind.u64.wrap (t119.length : Int))))).Answer.Err), .bool ((rd t119 (IntKind.i64.wrap (Int.tmod (IntKind.u64.wrap a3) (IntKind.u64.wrap (t119.length : Int))))).Answer.Found), vS ((rd t119 (IntKind.i64.wrap (Int.tmod (IntKind.u64.wrap a3) (IntKind.u64.wrap (t119.length : Int))))).Answer.Value), .slice A139 ((rd t119 (IntKind.i64.wrap (Int.tmod (IntKind.u64.wrap a3) (IntKind.u64.wrap (t119.length : Int))))).Answer.Pairs).length c140, vI ((rd t119 (IntKind.i64.wrap (Int.tmod (IntKind.u64.wrap a3) (IntKind.u64.wrap (t119.length : Int))))).Mark), vI ((rd t119 (IntKind.i64.wrap (Int.tmod (IntKind.u64.wrap a3) (IntKind.u64.wrap (t119.length : Int))))).Back)]) (Qh (Hp.of_get hb134) ty69 rfl (XC hc137 0 rfl) rfl rfl) rfl ?_)
  refine Zu S #[vI 0, vI 0, vI 0, .bool false, vS ([] : Str), .slice none 0 0, vI 0, vI 0] ty69 rfl rfl ?_
  intro b143 w144 E' S
  replace E := E.trans E'
  refine Q5 S 0 rfl ty69 rfl rfl [vI ((rd t119 (IntKind.i64.wrap (Int.tmod (IntKind.u64.wrap a3) (IntKind.u64.wrap (t119.length : Int))))).Task), vI ((rd t119 (IntKind.i64.wrap (Int.tmod (IntKind.u64.wrap a3) (IntKind.u64.wrap (t119.length : Int))))).Call), vI ((rd t119 (IntKind.i64.wrap (Int.tmod (IntKind.u64.wrap a3) (IntKind.u64.wrap (t119.length : Int))))).Answer.Err), .bool ((rd t119 (IntKind.i64.wrap (Int.tmod (IntKind.u64.wrap a3) (IntKind.u64.wrap (t119.length : Int))))).Answer.Found), vS ((rd t119 (IntKind.i64.wrap (Int.tmod (IntKind.u64.wrap a3) (IntKind.u64.wrap (t119.length : Int))))).Answer.Value), .slice A139 ((rd t119 (IntKind.i64.wrap (Int.tmod (IntKind.u64.wrap a3) (IntKind.u64.wrap (t119.length : Int))))).Answer.Pairs).length c140, vI ((rd t119 (IntKind.i64.wrap (Int.tmod (IntKind.u64.wrap a3) (IntKind.u64.wrap (t119.length : Int))))).Mark), vI ((rd t119 (IntKind.i64.wrap (Int.tmod (IntKind.u64.wrap a3) (IntKind.u64.wrap (t119.length : Int))))).Back)] rfl rfl rfl #[vI ((rd t119 (IntKind.i64.wrap (Int.tmod (IntKind.u64.wrap a3) (IntKind.u64.wrap (t119.length : Int))))).Task), vI ((rd t119 (IntKind.i64.wrap (Int.tmod (IntKind.u64.wrap a3) (IntKind.u64.wrap (t119.length : Int))))).Call), vI ((rd t119 (IntKind.i64.wrap (Int.tmod (IntKind.u64.wrap a3) (IntKind.u64.wrap (t119.length : Int))))).Answer.Err), .bool ((rd t119 (IntKind.i64.wrap (Int.tmod (IntKind.u64.wrap a3) (IntKind.u64.wrap (t119.length : Int))))).Answer.Found), vS ((rd t119 (IntKind.i64.wrap (Int.tmod (IntKind.u64.wrap a3) (IntKind.u64.wrap (t119.length : Int))))).Answer.Value), .slice A139 ((rd t119 (IntKind.i64.wrap (Int.tmod (IntKind.u64.wrap a3) (IntKind.u64.wrap (t119.length : Int))))).Answer.Pairs).length c140, vI ((rd t119 (IntKind.i64.wrap (Int.tmod (IntKind.u64.wrap a3) (IntKind.u64.wrap (t119.length : Int))))).Mark), vI ((rd t119 (IntKind.i64.wrap (Int.tmod (IntKind.u64.wrap a3) (IntKind.u64.wrap (t119.length : Int))))).Back)] (by as_aux_lemma => kernel_rfl) rfl ?_
  intro w146 E' S
  replace E := E.trans E'
  refine QB (tn (QE (QE (QA (W_v (pt b143 7) (QF (o := 0) (off := 7) Tryd.underlying69 rfl ty3 rfl rfl) rfl (W_v (vI ((rd t119 (IntKind.i64.wrap (Int.tmod (IntKind.u64.wrap a3) (IntKind.u64.wrap (t119.length : Int))))).Back)) (QR (S.blk 0 rfl) ty3 rfl rfl) rfl (W_v (.bool (decide ((rd t119 (IntKind.i64.wrap (Int.tmod (IntKind.u64.wrap a3) (IntKind.u64.wrap (t119.length : Int))))).Back < (0 : Int)))) (QT rfl rfl rfl rfl) rfl (W_v (.bool (decide ((rd t119 (IntKind.i64.wrap (Int.tmod (IntKind.u64.wrap a3) (IntKind.u64.wrap (t119.length : Int))))).Back < (0 : Int)))) (QC rfl) rfl ?_))))))))
  obtain ⟨o155, o155h, o155H⟩ := QX H
  refine ZI 5 (fun ρ w' => ∃ (x154 : Bool), (x154) = o155 ∧ Qs ρ [(1, .slice A1 a1.length c1), (6, pt b1 0), (11, pt b4 0), (17, .slice A91 t89.length c92), (23, pt b143 0), (132, .bool x154)] ∧ Ext w w' ∧ St w' M125 F [B69 b143 (rd t119 (IntKind.i64.wrap (Int.tmod (IntKind.u64.wrap a3) (IntKind.u64.wrap (t119.length : Int))))) A139 c140, Row QK 55 (.slice A91 t89.length c92) t89, B34 b4 a5 A5_0 c5_0, B23 b1 a0]) ?_ ?_
  ·have H := o155h
   rcases Zh H with ⟨hb153, H⟩ | ⟨hb153, H⟩
   ·skip
    refine Qk (skF hb153) rfl (Qk (skF hb153) rfl (Qk (skF hb153) rfl (Qk (skF hb153) rfl (W_v (.bool true) (QZ (k := true) (congrArg Value.bool hb153) rfl) rfl (QB ?_)))))
    exact ⟨true, Option.some.inj H, ⟨rfl, rfl, rfl, rfl, rfl, rfl, trivial⟩, E, S.pick [0, 2, 8, 9] (by decide)⟩
   ·skip
    refine QU (congrArg some hb153) (W_v (.agg #[vI a5.Err, .bool a5.Found, vS a5.Value, .slice A5_0 a5.Pairs.length c5_0]) (Qh (S.blk 8 rfl) ty34 rfl (QI rfl) rfl rfl) rfl (QU (congrArg some hb153) (W_v (pt b143 2) (QF (o := 0) (off := 2) Tryd.underlying69 rfl ty34 rfl rfl) rfl (QU (congrArg some hb153) (W_v (.agg #[vI ((rd t119 (IntKind.i64.wrap (Int.tmod (IntKind.u64.wrap a3) (IntKind.u64.wrap (t119.length : Int))))).Answer.Err), .bool ((rd t119 (IntKind.i64.wrap (Int.tmod (IntKind.u64.wrap a3) (IntKind.u64.wrap (t119.length : Int))))).Answer.Found), vS ((rd t119 (IntKind.i64.wrap (Int.tmod (IntKind.u64.wrap a3) (IntKind.u64.wrap (t119.length : Int))))).Answer.Value), .slice A139 ((rd t119 (IntKind.i64.wrap (Int.tmod (IntKind.u64.wrap a3) (IntKind.u64.wrap (t119.length : Int))))).Answer.Pairs).length c140]) (Qh (S.blk 0 rfl) ty34 rfl (QI rfl) rfl rfl) rfl (QU (congrArg some hb153) ?_))))))
    obtain ⟨t156, ht157, H⟩ := QX H
    refine YJ fn12 (Y4.con k M125 A5_0 c5_0 a5 A139 c140 ((rd t119 (IntKind.i64.wrap (Int.tmod (IntKind.u64.wrap a3) (IntKind.u64.wrap (t119.length : Int))))).Answer) t156 hr5_0 hs141 ht157) S rfl rfl (by rintro _ _ _ ⟨_, rfl⟩; exact Qd) ?_
    rintro _ w158 _ Γ' E' S ⟨rfl, rfl⟩
    replace E := E.trans E'
    refine W_v (.bool t156) (QZ (k := false) (congrArg Value.bool hb153) rfl) rfl (QB ?_)
    exact ⟨t156, Option.some.inj H, ⟨rfl, rfl, rfl, rfl, rfl, rfl, trivial⟩, E, S.pick [0, 2, 8, 9] (by decide)⟩
  as_aux_lemma =>
  rintro ρ w159 ⟨x154, rfl, hρ, E, S⟩
  rw [QN hρ]
  have H := o155H
  refine QB (tn ?_)
  rcases Zh H with ⟨hb160, H⟩ | ⟨hb160, H⟩
  ·refine QL (congrArg Value.bool hb160) ?_
   refine QE (QA (W_v (.bool true) (QD rfl) rfl (QB (tn ?_))))
   refine QY ?_
   refine tr (?_)
   obtain rfl := Option.some.inj H
   exact ⟨_, _, _, fun w1 e1 => QO (vs := [.bool true]) (FA.cons (rfl) (FA.nil)), HM, E, S.pick [] (by decide), ⟨rfl, rfl⟩⟩
  refine QJ (congrArg Value.bool hb160) (Qg (tn (QE (QA (W_v (.slice A91 t89.length c92) (QC rfl) rfl (W_v (pt b143 7) (QF (o := 0) (off := 7) Tryd.underlying69 rfl ty3 rfl rfl) rfl (W_v (vI ((rd t119 (IntKind.i64.wrap (Int.tmod (IntKind.u64.wrap a3) (IntKind.u64.wrap (t119.length : Int))))).Back)) (QR (S.blk 0 rfl) ty3 rfl rfl) rfl (W_v (.agg #[vI a5.Err, .bool a5.Found, vS a5.Value, .slice A5_0 a5.Pairs.length c5_0]) (Qh (S.blk 2 rfl) ty34 rfl (QI rfl) rfl rfl) rfl ?_))))))))
  obtain ⟨⟨p161, p162⟩, H⟩ := Zt H
  obtain ⟨b163, o164, cs165, _, _, ee170, hb166, vs167, hR168, hc169⟩ := SlW.at' (S.row_read 1 rfl) p161 p162
  obtain ⟨v174, hs173, rfl⟩ := hR168
  obtain ⟨A171, c172, rfl, _⟩ := hs173.form
  refine W_v (.pointer (some ⟨b163, o164 + ((rd t119 (IntKind.i64.wrap (Int.tmod (IntKind.u64.wrap a3) (IntKind.u64.wrap (t119.length : Int))))).Back).toNat * 7, none⟩)) (Qe Tryd.underlying25 ty55 (slA ee170) rfl p161 p162) rfl (W_v (.pointer (some ⟨b163, o164 + ((rd t119 (IntKind.i64.wrap (Int.tmod (IntKind.u64.wrap a3) (IntKind.u64.wrap (t119.length : Int))))).Back).toNat * 7 + 3, none⟩)) (QF (o := o164 + ((rd t119 (IntKind.i64.wrap (Int.tmod (IntKind.u64.wrap a3) (IntKind.u64.wrap (t119.length : Int))))).Back).toNat * 7) (off := 3) Tryd.underlying55 rfl ty34 rfl rfl) rfl ?_)
  obtain ⟨x176, he177, H⟩ := QX H
  replace he177 := Option.some.inj he177
  refine XE S 1 rfl rfl ee170 (by first | exact p161 | simpa using p161) (by first | exact p162 | simpa using p162) 3 ty34 rfl rfl [vI a5.Err, .bool a5.Found, vS a5.Value, .slice A5_0 a5.Pairs.length c5_0] rfl rfl rfl rfl (⟨(rd t89 ((rd t119 (IntKind.i64.wrap (Int.tmod (IntKind.u64.wrap a3) (IntKind.u64.wrap (t119.length : Int))))).Back)).What, (rd t89 ((rd t119 (IntKind.i64.wrap (Int.tmod (IntKind.u64.wrap a3) (IntKind.u64.wrap (t119.length : Int))))).Back)).Task, (rd t89 ((rd t119 (IntKind.i64.wrap (Int.tmod (IntKind.u64.wrap a3) (IntKind.u64.wrap (t119.length : Int))))).Back)).Call, ⟨a5.Err, a5.Found, a5.Value, a5.Pairs⟩⟩ : QG) (by rintro _ ⟨_, h6, rfl⟩; exact ⟨_, hr5_0, rfl⟩) he177 ?_
  intro w175 E' S
  replace E := E.trans E'
  have hs178 : Value.slice A91 t89.length c92 = Value.slice A91 x176.length c92 := by rw [← he177, List.length_set]
  try unfold B23 at S
  try unfold B34 at S
  try unfold B69 at S
  try rw [hs178] at S
  try rw [hs178]
  have p179 : (rd t119 (IntKind.i64.wrap (Int.tmod (IntKind.u64.wrap a3) (IntKind.u64.wrap (t119.length : Int))))).Back < (x176.length : Int) := by rw [← he177, List.length_set]; exact p162
  refine QB (tn ?_)
  as_aux_lemma =>
  refine QE (QA (W_v (.agg #[vI a0.Tasks, vI a0.Active, vI a0.Keys, vI a0.Depth, vI a0.TS, vI a0.KeyLen, vI a0.ValLen, vI a0.Fan]) (Qh (S.blk 3 rfl) ty23 rfl (QI rfl) rfl rfl) rfl (W_v (.slice A1 a1.length c1) (QC rfl) rfl (W_v (.slice A91 x176.length c92) (QC rfl) rfl ?_))))
  replace S : St w175 M125 F [_, _, _, _] := S.pick [1, 0, 2, 3] (by decide)
  obtain ⟨t180, ht181, H⟩ := QX H
  refine XX 1 fn20 (fun h9 hs9 hd9 => Zi.con k _ a0 A1 c1 a1 A91 c92 x176 t180 (SlR.mono hr1 (Hp.le_union_left _ _)) (Sats.row hs9 hd9 0 rfl) (let ⟨gt, fr, h8⟩ := hg0; ⟨gt, fr, Hp.le_union_left _ _ _ _ h8⟩) (let ⟨gt, fr, h8⟩ := hg1; ⟨gt, fr, Hp.le_union_left _ _ _ _ h8⟩) ht181) S rfl rfl (by rintro _ _ _ ⟨_, rfl⟩; exact Qd) ?_
  rintro _ w182 _ Γ' E' S ⟨rfl, rfl⟩
  replace E := E.trans E'
  refine W_v (.tuple #[vI t180.1, vI t180.2]) (QC rfl) rfl (W_v (vI t180.1) (QQ rfl rfl) rfl (W_v (vI t180.2) (QQ rfl rfl) rfl (W_v (vI t180.1) (QD rfl) rfl (W_v (vI t180.2) (QD rfl) rfl (QB (tn (QE ?_)))))))
  refine Ql (S := fun w' => ∃ Mx, M125.le Mx ∧ St w' Mx F [Row QK 55 (.slice A91 x176.length c92) x176, B69 b143 (rd t119 (IntKind.i64.wrap (Int.tmod (IntKind.u64.wrap a3) (IntKind.u64.wrap (t119.length : Int))))) A139 c140, B34 b4 a5 A5_0 c5_0, B23 b1 a0]) (L := 12) mixed ?_
  intro w189 hw190 E'
  replace S := S.heap hw190
  replace E := E.trans E'
  have D3 : ∃ Mx, Hp.le M125 Mx ∧ St _ Mx F [_, _, _, _] := ⟨_, Hp.le_refl _, S.pick [0, 1, 2, 3] (by decide)⟩
  refine Wt 0 rfl rfl rfl (.agg #[vI a0.Tasks, vI a0.Active, vI a0.Keys, vI a0.Depth, vI a0.TS, vI a0.KeyLen, vI a0.ValLen, vI a0.Fan]) rfl (fun w' h' => Qh (Qj h' 3 rfl) ty23 rfl (QI rfl) rfl rfl) D3 (Wt 1 rfl rfl rfl (.slice A1 a1.length c1) rfl (fun w' h' => QC rfl) D3 (Wt 2 rfl rfl rfl (.slice A91 x176.length c92) rfl (fun w' h' => QC rfl) D3 (Wt 3 rfl rfl rfl (pt b143 7) rfl (fun w' h' => QF (o := 0) (off := 7) Tryd.underlying69 rfl ty3 rfl rfl) D3 (Wt 4 rfl rfl rfl (vI ((rd t119 (IntKind.i64.wrap (Int.tmod (IntKind.u64.wrap a3) (IntKind.u64.wrap (t119.length : Int))))).Back)) rfl (fun w' h' => QR (Qj h' 1 rfl) ty3 rfl rfl) D3 ?_))))
  obtain ⟨⟨p191, p192⟩, H⟩ := Zt H
  have hx193 := @V1 _ _ _ _ _ _ _ _ _ (S.row_read 0 rfl) p191 p192
  refine Wt 5 rfl rfl rfl (.slice A91 (List.take ((rd t119 (IntKind.i64.wrap (Int.tmod (IntKind.u64.wrap a3) (IntKind.u64.wrap (t119.length : Int))))).Back).toNat x176).length c92) rfl (fun w' h' => hx193 Tryd.underlying25 ty55 rfl rfl) D3 ?_
  refine Wo 6 rfl ?_
  obtain ⟨t194, ht195, H⟩ := QX H
  refine XX 1 fn20 (fun h9 hs9 hd9 => Zi.con k _ a0 A1 c1 a1 A91 c92 (List.take ((rd t119 (IntKind.i64.wrap (Int.tmod (IntKind.u64.wrap a3) (IntKind.u64.wrap (t119.length : Int))))).Back).toNat x176) t194 (SlR.mono hr1 (Hp.le_union_left _ _)) (Vp (Sats.row hs9 hd9 0 rfl) p191 p192) (let ⟨gt, fr, h8⟩ := hg0; ⟨gt, fr, Hp.le_union_left _ _ _ _ h8⟩) (let ⟨gt, fr, h8⟩ := hg1; ⟨gt, fr, Hp.le_union_left _ _ _ _ h8⟩) ht195) S rfl rfl (by rintro _ _ _ ⟨_, rfl⟩; exact Qd) ?_
  rintro _ w196 _ Γ' E' S ⟨rfl, rfl⟩
  replace E := E.trans E'
  refine QB (YC ⟨.inr ⟨M125, Hp.le_refl M125, (S.pick [0, 1, 2, 3] (by decide))⟩, ?_⟩)
  have D4 : ∃ Mx, Hp.le M125 Mx ∧ St _ Mx F [_, _, _, _] := ⟨_, Hp.le_refl _, S.pick [0, 1, 2, 3] (by decide)⟩
  refine Wt 7 rfl rfl rfl (.tuple #[vI t194.1, vI t194.2]) rfl (fun w' h' => QC rfl) D4 (Wt 8 rfl rfl rfl (vI t194.1) rfl (fun w' h' => QQ rfl rfl) D4 (Wt 9 rfl rfl rfl (vI t194.2) rfl (fun w' h' => QQ rfl rfl) D4 (Wt 10 rfl rfl rfl (vI t194.1) rfl (fun w' h' => QD rfl) D4 (Wt 11 rfl rfl rfl (vI t194.2) rfl (fun w' h' => QD rfl) D4 ?_))))
  refine Wz ?_
  refine tn ?_
  as_aux_lemma =>
  refine QE (QA (W_v (vI t180.1) (QC rfl) rfl (W_v (pt b143 7) (QF (o := 0) (off := 7) Tryd.underlying69 rfl ty3 rfl rfl) rfl (W_v (vI ((rd t119 (IntKind.i64.wrap (Int.tmod (IntKind.u64.wrap a3) (IntKind.u64.wrap (t119.length : Int))))).Back)) (QR (S.blk 1 rfl) ty3 rfl rfl) rfl (W_v (.bool (t180.1 == (rd t119 (IntKind.i64.wrap (Int.tmod (IntKind.u64.wrap a3) (IntKind.u64.wrap (t119.length : Int))))).Back)) (QT rfl rfl rfl rfl) rfl (W_v (.bool (t180.1 == (rd t119 (IntKind.i64.wrap (Int.tmod (IntKind.u64.wrap a3) (IntKind.u64.wrap (t119.length : Int))))).Back)) (QC rfl) rfl ?_))))))
  refine ZI 3 (fun ρ w' => Qs ρ [(20, vI t194.1), (21, vI t194.2), (163, .bool ((t180.1 == (rd t119 (IntKind.i64.wrap (Int.tmod (IntKind.u64.wrap a3) (IntKind.u64.wrap (t119.length : Int))))).Back) && (t180.2 == (7 : Int))))] ∧ w196 = w') ?_ ?_
  ·rcases Qw (t180.1 == (rd t119 (IntKind.i64.wrap (Int.tmod (IntKind.u64.wrap a3) (IntKind.u64.wrap (t119.length : Int))))).Back) with hb197 | hb197
   ·skip
    refine Qk (skT hb197) rfl (Qk (skT hb197) rfl (W_v (.bool false) (QZ (k := false) (congrArg Value.bool hb197) rfl) rfl (QB ?_)))
    exact ⟨⟨rfl, rfl, (by first | rfl | (rw [hb197]; rfl) | (simp only [hb197]; rfl)), trivial⟩, rfl⟩
   ·skip
    refine QU (congrArg some hb197) (W_v (vI t180.2) (QC rfl) rfl (QU (congrArg some hb197) (W_v (.bool (t180.2 == (7 : Int))) (QT rfl rfl rfl rfl) rfl (W_v (.bool (t180.2 == (7 : Int))) (QZ (k := true) (congrArg Value.bool hb197) rfl) rfl (QB ?_)))))
    exact ⟨⟨rfl, rfl, (by first | rfl | (rw [hb197]; rfl) | (simp only [hb197]; rfl)), trivial⟩, rfl⟩
  as_aux_lemma =>
  rintro ρ _ ⟨hρ, rfl⟩
  rw [QN hρ]
  refine W_v (.bool ((t180.1 == (rd t119 (IntKind.i64.wrap (Int.tmod (IntKind.u64.wrap a3) (IntKind.u64.wrap (t119.length : Int))))).Back) && (t180.2 == (7 : Int)))) (QC rfl) rfl ?_
  refine ZI 3 (fun ρ w' => Qs ρ [(21, vI t194.2), (167, .bool (((t180.1 == (rd t119 (IntKind.i64.wrap (Int.tmod (IntKind.u64.wrap a3) (IntKind.u64.wrap (t119.length : Int))))).Back) && (t180.2 == (7 : Int))) && (t194.1 == (-1 : Int))))] ∧ w196 = w') ?_ ?_
  ·rcases Qw ((t180.1 == (rd t119 (IntKind.i64.wrap (Int.tmod (IntKind.u64.wrap a3) (IntKind.u64.wrap (t119.length : Int))))).Back) && (t180.2 == (7 : Int))) with hb198 | hb198
   ·skip
    refine Qk (skT hb198) rfl (Qk (skT hb198) rfl (W_v (.bool false) (QZ (k := false) (congrArg Value.bool hb198) rfl) rfl (QB ?_)))
    exact ⟨⟨rfl, (by first | rfl | (rw [hb198]; rfl) | (simp only [hb198]; rfl)), trivial⟩, rfl⟩
   ·skip
    refine QU (congrArg some hb198) (W_v (vI t194.1) (QC rfl) rfl (QU (congrArg some hb198) (W_v (.bool (t194.1 == (-1 : Int))) (QT rfl rfl rfl rfl) rfl (W_v (.bool (t194.1 == (-1 : Int))) (QZ (k := true) (congrArg Value.bool hb198) rfl) rfl (QB ?_)))))
    exact ⟨⟨rfl, (by first | rfl | (rw [hb198]; rfl) | (simp only [hb198]; rfl)), trivial⟩, rfl⟩
  rintro ρ _ ⟨hρ, rfl⟩
  rw [QN hρ]
  refine W_v (.bool (((t180.1 == (rd t119 (IntKind.i64.wrap (Int.tmod (IntKind.u64.wrap a3) (IntKind.u64.wrap (t119.length : Int))))).Back) && (t180.2 == (7 : Int))) && (t194.1 == (-1 : Int)))) (QC rfl) rfl ?_
  refine ZI 3 (fun ρ w' => Qs ρ [(171, .bool ((((t180.1 == (rd t119 (IntKind.i64.wrap (Int.tmod (IntKind.u64.wrap a3) (IntKind.u64.wrap (t119.length : Int))))).Back) && (t180.2 == (7 : Int))) && (t194.1 == (-1 : Int))) && (t194.2 == (0 : Int))))] ∧ w196 = w') ?_ ?_
  ·rcases Qw (((t180.1 == (rd t119 (IntKind.i64.wrap (Int.tmod (IntKind.u64.wrap a3) (IntKind.u64.wrap (t119.length : Int))))).Back) && (t180.2 == (7 : Int))) && (t194.1 == (-1 : Int))) with hb199 | hb199
   ·skip
    refine Qk (skT hb199) rfl (Qk (skT hb199) rfl (W_v (.bool false) (QZ (k := false) (congrArg Value.bool hb199) rfl) rfl (QB ?_)))
    exact ⟨⟨(by first | rfl | (rw [hb199]; rfl) | (simp only [hb199]; rfl)), trivial⟩, rfl⟩
   ·skip
    refine QU (congrArg some hb199) (W_v (vI t194.2) (QC rfl) rfl (QU (congrArg some hb199) (W_v (.bool (t194.2 == (0 : Int))) (QT rfl rfl rfl rfl) rfl (W_v (.bool (t194.2 == (0 : Int))) (QZ (k := true) (congrArg Value.bool hb199) rfl) rfl (QB ?_)))))
    exact ⟨⟨(by first | rfl | (rw [hb199]; rfl) | (simp only [hb199]; rfl)), trivial⟩, rfl⟩
  rintro ρ _ ⟨hρ, rfl⟩
  rw [QN hρ]
  refine W_v (.bool ((((t180.1 == (rd t119 (IntKind.i64.wrap (Int.tmod (IntKind.u64.wrap a3) (IntKind.u64.wrap (t119.length : Int))))).Back) && (t180.2 == (7 : Int))) && (t194.1 == (-1 : Int))) && (t194.2 == (0 : Int)))) (QD rfl) rfl (QB (tn ?_))
  refine QY ?_
  obtain rfl := Option.some.inj H
  exact ⟨_, _, _, fun w1 e1 => QO (vs := [.bool ((((t180.1 == (rd t119 (IntKind.i64.wrap (Int.tmod (IntKind.u64.wrap a3) (IntKind.u64.wrap (t119.length : Int))))).Back) && (t180.2 == (7 : Int))) && (t194.1 == (-1 : Int))) && (t194.2 == (0 : Int)))]) (FA.cons (rfl) (FA.nil)), HM, E, S.pick [] (by decide), ⟨rfl, rfl⟩⟩
end Go.Proofs.YtnjbjpaiepefoaaDoor
