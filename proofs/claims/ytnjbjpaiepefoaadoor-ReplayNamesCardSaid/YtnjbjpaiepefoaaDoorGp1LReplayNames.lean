import Derived.Test.YtnjbjpaiepefoaaDoorGp1B
import Derived.Test.YtnjbjpaiepefoaaDoorGp1LReplayNamesP0
import Derived.Test.YtnjbjpaiepefoaaDoorGp1LReplayNamesP4
namespace Go.Proofs.YtnjbjpaiepefoaaDoor
open Go
set_option linter.unusedVariables false
set_option linter.unusedSimpArgs false
set_option maxHeartbeats 80000000
set_option maxRecDepth 100000
def Zu (t5 : ZB) (x4537 : List QU) (x4542 : List QU) (t4580 : (List QF)) (t4588 : QF) (x4610 : List Qp) : Nat → Int → Option ((Bool) ⊕ (Unit))
 | 0, _ => none
 | k + 1, x4890 => (if (decide (x4890 < (x4610.length : Int))) = true then (if 0 ≤ x4890 ∧ x4890 < (x4610.length : Int) then (if ([] : List QF).length + (t4580 ++ ([t4588] : List QF)).length ≤ 1759218604441 then (Option.bind (ZA k (1 : Int) (0 : Int) cz11) (fun t5123 => (Option.bind (ZA k (1 : Int) (1 : Int) (rd x4610 x4890)) (fun t5131 => (if t5123.length + t5131.length ≤ 1759218604441 then (Option.bind (Yz k (t5123 ++ t5131)) (fun t5150 => (if (([] : List QF) ++ (t4580 ++ ([t4588] : List QF))).length + t5150.length ≤ 1759218604441 then (Option.bind (Ze k t5 ([x4537, x4542] : List (List QU)) ((([] : List QF) ++ (t4580 ++ ([t4588] : List QF))) ++ t5150)) (fun t5166 => (if ((!t5166.1) || (t5166.2 != (0 : Int))) = true then some (.inl false) else Zu t5 x4537 x4542 t4580 t4588 x4610 k (IntKind.i64.wrap (x4890 + (1 : Int)))))) else none))) else none))))) else none) else none) else some (.inr ()))
theorem Zu.mono {t5 : ZB} {x4537 : List QU} {x4542 : List QU} {t4580 : (List QF)} {t4588 : QF} {x4610 : List Qp} : ∀ {kl : Nat} {x0}, OLe (Zu t5 x4537 x4542 t4580 t4588 x4610 kl x0) (Zu t5 x4537 x4542 t4580 t4588 x4610 (kl + 1) x0) := by
 intro kl
 induction kl with
 | zero => intros; exact OLe.none
 | succ kl ih =>
  intros
  rw [Zu.eq_2, Zu.eq_2]
  have m1 := @Yz.mono
  have m2 := @ZA.mono
  have m3 := @Ze.mono
  exact mo
def Zb (t5 : ZB) (t8 : (List (List QU))) (x3570 : List St66) : Nat → Int → Option ((Bool) ⊕ (Unit))
 | 0, _ => none
 | k + 1, x3888 => (if (decide (x3888 < (x3570.length : Int))) = true then (if 0 ≤ x3888 ∧ x3888 < (x3570.length : Int) then (Option.bind (YU k t5 t8 ((rd x3570 x3888).l)) (fun t4069 => (Option.bind (YT k t5 t8 ((rd x3570 x3888).l)) (fun t4072 => (Sum.elim (fun t4074 => (Option.bind (α := Bool) (if ((((t4069.1 != (rd x3570 x3888).at_) || (t4069.2 != (4 : Int))) || false) || true) = true then some (true) else (Option.bind (Zp k t5 t8 ((rd x3570 x3888).l)) (fun t4103 => some (((t4103.length : Int) != (0 : Int)))))) (fun x4100 => (if x4100 = true then some (.inl false) else Zb t5 t8 x3570 k (IntKind.i64.wrap (x3888 + (1 : Int))))))) (Sum.elim (fun t4075 => (Option.bind (α := Bool) (if ((((t4069.1 != (rd x3570 x3888).at_) || (t4069.2 != (4 : Int))) || false) || false) = true then some (true) else (Option.bind (Zp k t5 t8 ((rd x3570 x3888).l)) (fun t4141 => some (((t4141.length : Int) != (0 : Int)))))) (fun x4138 => (if x4138 = true then some (.inl false) else Zb t5 t8 x3570 k (IntKind.i64.wrap (x3888 + (1 : Int))))))) (fun t4076 => (Option.bind (α := Bool) (if ((((t4069.1 != (rd x3570 x3888).at_) || (t4069.2 != (4 : Int))) || true) || true) = true then some (true) else (Option.bind (Zp k t5 t8 ((rd x3570 x3888).l)) (fun t4195 => some (((t4195.length : Int) != (0 : Int)))))) (fun x4192 => (if x4192 = true then some (.inl false) else Zb t5 t8 x3570 k (IntKind.i64.wrap (x3888 + (1 : Int))))))))) t4072)))) else none) else some (.inr ()))
theorem Zb.mono {t5 : ZB} {t8 : (List (List QU))} {x3570 : List St66} : ∀ {kl : Nat} {x0}, OLe (Zb t5 t8 x3570 kl x0) (Zb t5 t8 x3570 (kl + 1) x0) := by
 intro kl
 induction kl with
 | zero => intros; exact OLe.none
 | succ kl ih =>
  intros
  rw [Zb.eq_2, Zb.eq_2]
  have m1 := @Zp.mono
  have m2 := @YU.mono
  have m3 := @YT.mono
  exact mo
def Zc (x53 : List St59) : Nat → Int → Option ((Bool) ⊕ (Unit))
 | 0, _ => none
 | k + 1, x419 => (if (decide (x419 < (x53.length : Int))) = true then (if 0 ≤ x419 ∧ x419 < (x53.length : Int) then (Option.bind (YU k ((rd x53 x419).c) ((rd x53 x419).p) ([] : (List QF))) (fun t624 => (Option.bind (YT k ((rd x53 x419).c) ((rd x53 x419).p) ([] : (List QF))) (fun t627 => (Sum.elim (fun t629 => (Option.bind (Ze k ((rd x53 x419).c) ((rd x53 x419).p) ([] : (List QF))) (fun t635 => (Option.bind (Yg k ((rd x53 x419).c) ((rd x53 x419).p)) (fun t638 => (Option.bind (α := Bool) (if (((((t638 || (t624.1 != (-1 : Int))) || (t624.2 != (1 : Int))) || false) || false) || (t635.2 != (1 : Int))) = true then some (true) else (Option.bind (Zp k ((rd x53 x419).c) ((rd x53 x419).p) ([] : (List QF))) (fun t666 => some (((t666.length : Int) != (0 : Int)))))) (fun x663 => (if x663 = true then some (.inl false) else Zc x53 k (IntKind.i64.wrap (x419 + (1 : Int))))))))))) (Sum.elim (fun t630 => (Option.bind (Ze k ((rd x53 x419).c) ((rd x53 x419).p) ([] : (List QF))) (fun t681 => (Option.bind (Yg k ((rd x53 x419).c) ((rd x53 x419).p)) (fun t684 => (Option.bind (α := Bool) (if (((((t684 || (t624.1 != (-1 : Int))) || (t624.2 != (1 : Int))) || false) || true) || (t681.2 != (1 : Int))) = true then some (true) else (Option.bind (Zp k ((rd x53 x419).c) ((rd x53 x419).p) ([] : (List QF))) (fun t712 => some (((t712.length : Int) != (0 : Int)))))) (fun x709 => (if x709 = true then some (.inl false) else Zc x53 k (IntKind.i64.wrap (x419 + (1 : Int))))))))))) (fun t631 => (Option.bind (Ze k ((rd x53 x419).c) ((rd x53 x419).p) ([] : (List QF))) (fun t743 => (Option.bind (Yg k ((rd x53 x419).c) ((rd x53 x419).p)) (fun t746 => (Option.bind (α := Bool) (if (((((t746 || (t624.1 != (-1 : Int))) || (t624.2 != (1 : Int))) || true) || true) || (t743.2 != (1 : Int))) = true then some (true) else (Option.bind (Zp k ((rd x53 x419).c) ((rd x53 x419).p) ([] : (List QF))) (fun t774 => some (((t774.length : Int) != (0 : Int)))))) (fun x771 => (if x771 = true then some (.inl false) else Zc x53 k (IntKind.i64.wrap (x419 + (1 : Int))))))))))))) t627)))) else none) else some (.inr ()))
theorem Zc.mono {x53 : List St59} : ∀ {kl : Nat} {x0}, OLe (Zc x53 kl x0) (Zc x53 (kl + 1) x0) := by
 intro kl
 induction kl with
 | zero => intros; exact OLe.none
 | succ kl ih =>
  intros
  rw [Zc.eq_2, Zc.eq_2]
  have m1 := @Zp.mono
  have m2 := @YU.mono
  have m3 := @Ze.mono
  have m4 := @Yg.mono
  have m5 := @YT.mono
  exact mo
def YL (k : Nat)  : Option (Bool) :=
 (Option.bind (Yf k ) (fun t1 => (if (cond (cond (!t1) true false) true false) = true then some false else (Option.bind (ZZ k (2 : Int)) (fun t5 => (Option.bind (YV k ) (fun t8 => (if 0 ≤ (65 : Int) ∧ (65 : Int) ≤ (65 : Int) ∧ (65 : Int) * 80 ≤ 140737488355328 ∧ (65 : Int) ≤ 9223372036854775807 then (Option.bind (α := List St59) (some ([(⟨⟨t5.Tasks, t5.Active, t5.Keys, t5.Depth, t5.TS, t5.KeyLen, t5.ValLen, (9 : Int)⟩, t8⟩ : St59), (⟨⟨t5.Tasks, t5.Active, t5.Keys, t5.Depth, t5.TS, t5.KeyLen, t5.ValLen, t5.Fan⟩, cz4⟩ : St59), (⟨⟨t5.Tasks, t5.Active, t5.Keys, t5.Depth, t5.TS, t5.KeyLen, t5.ValLen, t5.Fan⟩, ([(List.replicate (65 : Int).toNat cz22)] : List (List QU))⟩ : St59)] : List St59)) (fun x53 => (Option.bind (Zc x53 k (0 : Int)) (fun o601o => Sum.elim (fun r' => some r') (fun _ => (Option.bind (Yg k t5 ([] : (List (List QU)))) (fun t833 => (Option.bind (α := Bool) (if (!t833) = true then some (true) else (if 0 ≤ (64 : Int) ∧ (64 : Int) ≤ (64 : Int) ∧ (64 : Int) * 80 ≤ 140737488355328 ∧ (64 : Int) ≤ 9223372036854775807 then (Option.bind (Yg k t5 ([(List.replicate (64 : Int).toNat cz22), ([] : (List QU))] : List (List QU))) (fun t868 => some ((!t868)))) else none)) (fun x853 => (if x853 = true then some false else (Option.bind (Zg k cz11) (fun t875 => (if 0 ≤ (1 : Int) ∧ (1 : Int) ≤ (t875.length : Int) then (if 0 ≤ (1 : Int) ∧ (1 : Int) ≤ (t875.length : Int) then (if 0 ≤ (2 : Int) ∧ (2 : Int) ≤ (t875.length : Int) then (Option.bind (α := List QF × List QF) (if ([] : List QF).length + t875.length ≤ 1759218604441 then (Option.bind (Qf k (1 : Int) (0 : Int) (2 : Int) cz11) (fun t2882 => (if (([] : List QF) ++ t875).length + ([t2882] : List QF).length ≤ 1759218604441 then some (((([] : List QF) ++ t875) ++ ([t2882] : List QF)), ([] : List QF)) else none))) else none) (fun ⟨x2863, x2867⟩ => (if x2867.length + (List.take (1 : Int).toNat t875).length ≤ 1759218604441 then (if (x2867 ++ (List.take (1 : Int).toNat t875)).length + (List.drop (2 : Int).toNat t875).length ≤ 1759218604441 then (Option.bind (Qf k (1 : Int) (2 : Int) (0 : Int) cz11) (fun t3353 => (Option.bind (α := List QF × List QF) (Option.bind (Qf k (1 : Int) (-1 : Int) (0 : Int) cz11) (fun t3438 => some (([t3353] : List QF), ([t3438] : List QF)))) (fun ⟨x3427, x3431⟩ => (Option.bind (α := List St66) (some ([(⟨x2863, (12 : Int)⟩ : St66), (⟨(List.drop (1 : Int).toNat t875), (0 : Int)⟩ : St66), (⟨((x2867 ++ (List.take (1 : Int).toNat t875)) ++ (List.drop (2 : Int).toNat t875)), (1 : Int)⟩ : St66), (⟨x3427, (0 : Int)⟩ : St66), (⟨x3431, (0 : Int)⟩ : St66)] : List St66)) (fun x3570 => (Option.bind (Zb t5 t8 x3570 k (0 : Int)) (fun o4046o => Sum.elim (fun r' => some r') (fun _ => (Option.bind (Ze k t5 t8 t875) (fun t4210 => (if 0 ≤ (25 : Int) ∧ (25 : Int) ≤ (25 : Int) ∧ (25 : Int) * 80 ≤ 140737488355328 ∧ (25 : Int) ≤ 9223372036854775807 then (Option.bind (Ze k t5 t8 (List.replicate (25 : Int).toNat cz19)) (fun t4232 => (Option.bind (Qf k (3 : Int) (0 : Int) (0 : Int) cz11) (fun t4252 => (Option.bind (Ze k t5 t8 ([t4252] : List QF)) (fun t4263 => (Option.bind (Ze k t5 t8 ([] : (List QF))) (fun t4266 => (if 0 ≤ (11 : Int) ∧ (11 : Int) ≤ (t875.length : Int) then (Option.bind (Zp k t5 t8 (List.take (11 : Int).toNat t875)) (fun t4290 => (Option.bind (α := Bool) (if ((((((t4210.2 != (4 : Int)) || (t4232.2 != (40 : Int))) || (t4263.2 != (4 : Int))) || (!t4266.1)) || (t4266.2 != (0 : Int))) || ((t4290.length : Int) != (4 : Int))) = true then some (true) else (if 0 ≤ (3 : Int) ∧ (3 : Int) < (t4290.length : Int) then some (((rd t4290 (3 : Int)).Back != (-1 : Int))) else none)) (fun x4332 => (Option.bind (α := Bool) (if x4332 = true then some (true) else (if 0 ≤ (3 : Int) ∧ (3 : Int) < (t4290.length : Int) then some (((rd t4290 (3 : Int)).Mark != (10 : Int))) else none)) (fun x4378 => (Option.bind (α := Bool) (if x4378 = true then some (true) else (if 0 ≤ (2 : Int) ∧ (2 : Int) < (t4290.length : Int) then some (((rd t4290 (2 : Int)).Back != (8 : Int))) else none)) (fun x4424 => (Option.bind (α := Bool) (if x4424 = true then some (true) else (if 0 ≤ (1 : Int) ∧ (1 : Int) < (t4290.length : Int) then some (((rd t4290 (1 : Int)).Task != (0 : Int))) else none)) (fun x4470 => (Option.bind (α := Bool) (if x4470 = true then some (true) else (if 0 ≤ (1 : Int) ∧ (1 : Int) < (t4290.length : Int) then some (((rd t4290 (1 : Int)).Call != (1 : Int))) else none)) (fun x4516 => (if x4516 = true then some false else (Option.bind (α := List QU) (some ([cz5, (⟨(3 : Int), (1 : Int), ([97] : Str), ([] : Str), ([49] : Str), (0 : Int), (0 : Int)⟩ : QU), (⟨(6 : Int), (1 : Int), ([] : Str), ([] : Str), ([] : Str), (0 : Int), (0 : Int)⟩ : QU)] : List QU)) (fun x4537 => (Option.bind (α := List QU) (some cz2) (fun x4542 => (Option.bind (ZA k (0 : Int) (0 : Int) cz11) (fun t4553 => (Option.bind (ZA k (0 : Int) (1 : Int) cz11) (fun t4561 => (if t4553.length + t4561.length ≤ 1759218604441 then (Option.bind (Yz k (t4553 ++ t4561)) (fun t4580 => (Option.bind (Qf k (1 : Int) (0 : Int) (2 : Int) cz11) (fun t4588 => (if t4580.length + ([t4588] : List QF).length ≤ 1759218604441 then (Option.bind (α := List Qp) (some ([cz11, (⟨(0 : Int), true, ([49] : Str), ([] : (List Qu))⟩ : Qp)] : List Qp)) (fun x4610 => (Option.bind (Zu t5 x4537 x4542 t4580 t4588 x4610 k (0 : Int)) (fun o5029o => Sum.elim (fun r' => some r') (fun _ => some true) o5029o)))) else none))))) else none)))))))))))))))))))))) else none))))))))) else none)))) o4046o)))))))) else none) else none))) else none) else none) else none))))))))) o601o)))) else none))))))))
theorem YL.mono {k : Nat}  : OLe (YL k ) (YL (k + 1) ) := by
 unfold YL
 have m1 := @Yz.mono
 have m2 := @Zc.mono
 have m3 := @Zb.mono
 have m4 := @Zu.mono
 have m5 := @Qf.mono
 have m6 := @Zg.mono
 have m7 := @ZZ.mono
 have m8 := @YV.mono
 have m9 := @ZA.mono
 have m10 := @Yf.mono
 have m11 := @Zp.mono
 have m12 := @Ze.mono
 have m13 := @Yg.mono
 exact mo
theorem YL.con (k : Nat) (M : Hp)  (r : Bool)  (hg0 : ∃ gt fr, M 0 = some (.cells cz1 gt fr)) (hg1 : ∃ gt fr, M 1 = some (.cells cz6 gt fr)) (h : YL k  = some r) : Con Tryd.prog 6 #[] M [] (fun v M' Γ' => v = .bool r ∧ Γ' = []) := by
 refine Qc Tryd.func6 rfl Tryd.ntmps6 Tryd.results6 rfl ?_
 intro w F rn S hrn
 have E := Ext.refl w
 have HM := Hp.le_refl M
 have H := h
 unfold YL at H
 refine QE (QA (W_v (.bool false) (QD rfl) rfl (QB (tn (QE (QE (QA ?_)))))))
 obtain ⟨t1, ht2, H⟩ := QW H
 refine YM fn9 (Yf.con k M  t1 hg0 hg1 ht2) S rfl rfl (by rintro _ _ _ ⟨_, rfl⟩; exact Qd) ?_
 rintro _ w3 _ Γ' E' S ⟨rfl, rfl⟩
 replace E := E.trans E'
 refine W_v (.bool (!t1)) (Yy (b := t1) rfl) rfl (W_v (.bool (!t1)) (QC rfl) rfl (W_v (.bool (cond (!t1) true false)) (U0 rfl rfl rfl) rfl (W_v (.bool (cond (!t1) true false)) (QC rfl) rfl (W_v (.bool (cond (cond (!t1) true false) true false)) (U0 rfl rfl rfl) rfl (QB (tn ?_))))))
 rcases Zw H with ⟨hb4, H⟩ | ⟨hb4, H⟩
 ·refine QN (congrArg Value.bool hb4) ?_
  refine QE (QA (W_v (.bool false) (QD rfl) rfl (QB (tn ?_))))
  refine QZ ?_
  refine tr (?_)
  obtain rfl := Option.some.inj H
  exact ⟨_, _, _, fun w1 e1 => QO (vs := [.bool false]) (FA.cons (rfl) (FA.nil)), HM, E, S.pick [] (by decide), ⟨rfl, rfl⟩⟩
 refine QK (congrArg Value.bool hb4) (Qk (tn (QE (QA ?_))))
 obtain ⟨t5, ht6, H⟩ := QW H
 refine YM fn21 (ZZ.con k M (2 : Int) t5  ht6) S rfl rfl (by rintro _ _ _ ⟨_, rfl⟩; exact Qd) ?_
 rintro _ w7 _ Γ' E' S ⟨rfl, rfl⟩
 replace E := E.trans E'
 obtain ⟨t8, ht9, H⟩ := QW H
 refine ZU fn22 (YV.con k M  t8  ht9) (Γ1 := []) (Γ2 := []) S rfl rfl ?_
 rintro _ w13 M14 Γ' hM15 E' S ⟨A10, c11, rfl, rfl⟩
 replace hg0 := gup hg0 hM15
 replace hg1 := gup hg1 hM15
 replace HM := Hp.le_trans HM hM15
 replace E := E.trans E'
 refine Z1 S cz18 ty23 rfl rfl ?_
 intro b16 w17 E' S
 replace E := E.trans E'
 refine Q0 S 0 rfl ty23 rfl rfl [vI t5.Tasks, vI t5.Active, vI t5.Keys, vI t5.Depth, vI t5.TS, vI t5.KeyLen, vI t5.ValLen, vI t5.Fan] rfl rfl rfl #[vI t5.Tasks, vI t5.Active, vI t5.Keys, vI t5.Depth, vI t5.TS, vI t5.KeyLen, vI t5.ValLen, vI t5.Fan] (by as_aux_lemma => kernel_rfl) rfl ?_
 intro w19 E' S
 replace E := E.trans E'
 refine W_v (.slice A10 t8.length c11) (QD rfl) rfl (QB (tn ?_))
 as_aux_lemma =>
 refine QE (QA (W_v (.agg #[vI t5.Tasks, vI t5.Active, vI t5.Keys, vI t5.Depth, vI t5.TS, vI t5.KeyLen, vI t5.ValLen, vI t5.Fan]) (Qi (S.blk 0 rfl) ty23 rfl (QI rfl) rfl rfl) rfl ?_))
 refine Z1 S cz18 ty23 rfl rfl ?_
 intro b20 w21 E' S
 replace E := E.trans E'
 refine Q0 S 0 rfl ty23 rfl rfl [vI t5.Tasks, vI t5.Active, vI t5.Keys, vI t5.Depth, vI t5.TS, vI t5.KeyLen, vI t5.ValLen, vI t5.Fan] rfl rfl rfl #[vI t5.Tasks, vI t5.Active, vI t5.Keys, vI t5.Depth, vI t5.TS, vI t5.KeyLen, vI t5.ValLen, vI t5.Fan] (by as_aux_lemma => kernel_rfl) rfl ?_
 intro w23 E' S
 replace E := E.trans E'
 refine QB (tn (QE (QA (W_v (pt b20 7) (QG (o := 0) (off := 7) Tryd.underlying23 rfl ty3 rfl rfl) rfl ?_))))
 refine Q0 S 0 rfl ty3 rfl rfl [vI 9] rfl rfl rfl #[vI t5.Tasks, vI t5.Active, vI t5.Keys, vI t5.Depth, vI t5.TS, vI t5.KeyLen, vI t5.ValLen, vI 9] rfl rfl ?_
 intro w24 E' S
 replace E := E.trans E'
 refine QB (tn (QE (QA ?_)))
 obtain ⟨⟨p25, p26, p27, p28⟩, H⟩ := YN H
 refine X7 (r := ZT) S cz22 Tryd.underlying44 ty47 rfl (by decide) (fun _ => rfl) rfl rfl p25 p26 p27 p28 rfl ?_
 intro b29 w30 E' S
 replace E := E.trans E'
 obtain ⟨M32, hM33, hf34, S⟩ := S.row_freeze 0 rfl
 replace hg0 := gup hg0 hM33
 replace hg1 := gup hg1 hM33
 replace HM := Hp.le_trans HM hM33
 refine Zt S #[.slice (some ⟨b29, 0, none⟩) (List.replicate (65 : Int).toNat cz22).length ((65 : Int).toNat)] Tryd.underlying24 ty44 rfl rfl #[.slice none 0 0] (by as_aux_lemma => kernel_rfl) (by as_aux_lemma => kernel_rfl) rfl ?_
 intro b35 w36 E' S
 replace E := E.trans E'
 replace S := S.blk_row (r := (rSl ZT)) (l := ([(List.replicate (65 : Int).toNat cz22)] : List (List QU))) 0 rfl 1 (Nat.le_refl 1) rfl (Cells.cons (vs := [.slice (some ⟨b29, 0, none⟩) (List.replicate (65 : Int).toNat cz22).length ((65 : Int).toNat)]) (⟨_, hf34, rfl⟩) Cells.nil)
 refine W_v (.slice (some ⟨b35, 0, none⟩) ([(List.replicate (65 : Int).toNat cz22)] : List (List QU)).length 1) (QD rfl) rfl (QB (tn (QE (QE (QA (W_v (.agg #[vI t5.Tasks, vI t5.Active, vI t5.Keys, vI t5.Depth, vI t5.TS, vI t5.KeyLen, vI t5.ValLen, vI 9]) (Qi (S.blk 1 rfl) ty23 rfl (QI rfl) rfl rfl) rfl (W_v (.slice A10 t8.length c11) (QC rfl) rfl (W_v (.agg #[vI t5.Tasks, vI t5.Active, vI t5.Keys, vI t5.Depth, vI t5.TS, vI t5.KeyLen, vI t5.ValLen, vI 9, .slice A10 t8.length c11]) (Qr (pl := [(0, 8), (8, 1)]) #[vI t5.Tasks, vI t5.Active, vI t5.Keys, vI t5.Depth, vI t5.TS, vI t5.KeyLen, vI t5.ValLen, vI 9, .slice A10 t8.length c11] Tryd.underlying59 ty59 (by as_aux_lemma => kernel_rfl) rfl (by as_aux_lemma => kernel_rfl)) rfl (W_v (.agg #[vI t5.Tasks, vI t5.Active, vI t5.Keys, vI t5.Depth, vI t5.TS, vI t5.KeyLen, vI t5.ValLen, vI t5.Fan]) (Qi (S.blk 2 rfl) ty23 rfl (QI rfl) rfl rfl) rfl ?_)))))))))
 refine Zt S #[.slice none 0 0, .slice none 0 0, .slice none 0 0] Tryd.underlying24 ty44 rfl rfl #[.slice none 0 0, .slice none 0 0, .slice none 0 0] (by as_aux_lemma => kernel_rfl) (by as_aux_lemma => kernel_rfl) rfl ?_
 intro b38 w39 E' S
 replace E := E.trans E'
 replace S := S.blk_row (r := (rSl ZT)) (l := cz4) 0 rfl 3 (Nat.le_refl 3) rfl (Cells.cons (vs := [.slice none 0 0]) (⟨_, (SlW.nil _ _), rfl⟩) (Cells.cons (vs := [.slice none 0 0]) (⟨_, (SlW.nil _ _), rfl⟩) (Cells.cons (vs := [.slice none 0 0]) (⟨_, (SlW.nil _ _), rfl⟩) Cells.nil)))
 refine W_v (.agg #[vI t5.Tasks, vI t5.Active, vI t5.Keys, vI t5.Depth, vI t5.TS, vI t5.KeyLen, vI t5.ValLen, vI t5.Fan, .slice (some ⟨b38, 0, none⟩) cz4.length 3]) (Qr (pl := [(0, 8), (8, 1)]) #[vI t5.Tasks, vI t5.Active, vI t5.Keys, vI t5.Depth, vI t5.TS, vI t5.KeyLen, vI t5.ValLen, vI t5.Fan, .slice (some ⟨b38, 0, none⟩) cz4.length 3] Tryd.underlying59 ty59 (by as_aux_lemma => kernel_rfl) rfl (by as_aux_lemma => kernel_rfl)) rfl (W_v (.agg #[vI t5.Tasks, vI t5.Active, vI t5.Keys, vI t5.Depth, vI t5.TS, vI t5.KeyLen, vI t5.ValLen, vI t5.Fan]) (Qi (S.blk 3 rfl) ty23 rfl (QI rfl) rfl rfl) rfl (W_v (.slice (some ⟨b35, 0, none⟩) ([(List.replicate (65 : Int).toNat cz22)] : List (List QU)).length 1) (QC rfl) rfl (W_v (.agg #[vI t5.Tasks, vI t5.Active, vI t5.Keys, vI t5.Depth, vI t5.TS, vI t5.KeyLen, vI t5.ValLen, vI t5.Fan, .slice (some ⟨b35, 0, none⟩) ([(List.replicate (65 : Int).toNat cz22)] : List (List QU)).length 1]) (Qr (pl := [(0, 8), (8, 1)]) #[vI t5.Tasks, vI t5.Active, vI t5.Keys, vI t5.Depth, vI t5.TS, vI t5.KeyLen, vI t5.ValLen, vI t5.Fan, .slice (some ⟨b35, 0, none⟩) ([(List.replicate (65 : Int).toNat cz22)] : List (List QU)).length 1] Tryd.underlying59 ty59 (by as_aux_lemma => kernel_rfl) rfl (by as_aux_lemma => kernel_rfl)) rfl ?_)))
 obtain ⟨M41, hM42, hf43, S⟩ := S.row_freeze 4 rfl
 replace hg0 := gup hg0 hM42
 replace hg1 := gup hg1 hM42
 replace HM := Hp.le_trans HM hM42
 obtain ⟨M44, hM45, hf46, S⟩ := S.row_freeze 0 rfl
 replace hg0 := gup hg0 hM45
 replace hg1 := gup hg1 hM45
 replace HM := Hp.le_trans HM hM45
 replace hf43 := SlR.mono hf43 hM45
 obtain ⟨M47, hM48, hf49, S⟩ := S.row_freeze 0 rfl
 replace hg0 := gup hg0 hM48
 replace hg1 := gup hg1 hM48
 replace HM := Hp.le_trans HM hM48
 replace hf43 := SlR.mono hf43 hM48
 replace hf46 := SlR.mono hf46 hM48
 refine Zt S #[vI t5.Tasks, vI t5.Active, vI t5.Keys, vI t5.Depth, vI t5.TS, vI t5.KeyLen, vI t5.ValLen, vI 9, .slice A10 t8.length c11, vI t5.Tasks, vI t5.Active, vI t5.Keys, vI t5.Depth, vI t5.TS, vI t5.KeyLen, vI t5.ValLen, vI t5.Fan, .slice (some ⟨b38, 0, none⟩) cz4.length 3, vI t5.Tasks, vI t5.Active, vI t5.Keys, vI t5.Depth, vI t5.TS, vI t5.KeyLen, vI t5.ValLen, vI t5.Fan, .slice (some ⟨b35, 0, none⟩) ([(List.replicate (65 : Int).toNat cz22)] : List (List QU)).length 1] Tryd.underlying60 ty59 rfl rfl #[vI 0, vI 0, vI 0, vI 0, vI 0, vI 0, vI 0, vI 0, .slice none 0 0, vI 0, vI 0, vI 0, vI 0, vI 0, vI 0, vI 0, vI 0, .slice none 0 0, vI 0, vI 0, vI 0, vI 0, vI 0, vI 0, vI 0, vI 0, .slice none 0 0] (by as_aux_lemma => kernel_rfl) (by as_aux_lemma => kernel_rfl) rfl ?_
 intro b50 w51 E' S
 replace E := E.trans E'
 replace S := S.blk_row (r := Vt) (l := ([(⟨⟨t5.Tasks, t5.Active, t5.Keys, t5.Depth, t5.TS, t5.KeyLen, t5.ValLen, (9 : Int)⟩, t8⟩ : St59), (⟨⟨t5.Tasks, t5.Active, t5.Keys, t5.Depth, t5.TS, t5.KeyLen, t5.ValLen, t5.Fan⟩, cz4⟩ : St59), (⟨⟨t5.Tasks, t5.Active, t5.Keys, t5.Depth, t5.TS, t5.KeyLen, t5.ValLen, t5.Fan⟩, ([(List.replicate (65 : Int).toNat cz22)] : List (List QU))⟩ : St59)] : List St59)) 0 rfl 3 (Nat.le_refl 3) rfl (Cells.cons (vs := [vI t5.Tasks, vI t5.Active, vI t5.Keys, vI t5.Depth, vI t5.TS, vI t5.KeyLen, vI t5.ValLen, vI 9, .slice A10 t8.length c11]) (⟨_, hf43, rfl⟩) (Cells.cons (vs := [vI t5.Tasks, vI t5.Active, vI t5.Keys, vI t5.Depth, vI t5.TS, vI t5.KeyLen, vI t5.ValLen, vI t5.Fan, .slice (some ⟨b38, 0, none⟩) cz4.length 3]) (⟨_, hf46, rfl⟩) (Cells.cons (vs := [vI t5.Tasks, vI t5.Active, vI t5.Keys, vI t5.Depth, vI t5.TS, vI t5.KeyLen, vI t5.ValLen, vI t5.Fan, .slice (some ⟨b35, 0, none⟩) ([(List.replicate (65 : Int).toNat cz22)] : List (List QU)).length 1]) (⟨_, hf49, rfl⟩) Cells.nil)))
 obtain ⟨x53, he54, H⟩ := QW H
 replace he54 := Option.some.inj he54
 try unfold B23 at S
 rw [he54] at S
 refine Eq.mpr (congrArg (fun z => Wl _ _ _ _ _ _ (upd _ _ z) _) (show Value.slice (some ⟨b50, 0, none⟩) 3 3 = Value.slice (some ⟨b50, 0, none⟩) x53.length 3 from (by rw [← he54]; rfl))) ?_
 refine W_v (vI (x53.length : Int)) (ZK (n := x53.length) Tryd.underlying60 rfl) rfl (W_v (vI 0) (QC rfl) rfl (QB (tn ?_)))
 obtain ⟨o601, o601h, o601H⟩ := QW H
 refine Ym (fun ρ w' => ∃ (Mj : Hp), .inr () = o601 ∧ Qn ρ [(1, pt b16 0), (2, .slice A10 t8.length c11)] ∧ M47.le Mj ∧ Ext w w' ∧ St w' Mj F [B23 b16 t5]) ?_ ?_
 ·skip
  refine Y6 (fun n ρ w' => ∃ (x419 : Int) (Mj : Hp), Zc x53 n x419 = some o601 ∧ Qn ρ [(1, pt b16 0), (2, .slice A10 t8.length c11), (56, .slice (some ⟨b50, 0, none⟩) x53.length 3), (57, vI (x53.length : Int)), (58, vI x419)] ∧ M47.le Mj ∧ Ext w w' ∧ St w' Mj F [Row Vt 59 (.slice (some ⟨b50, 0, none⟩) x53.length 3) x53, B23 b16 t5]) k ?_ ?_
  ·skip
   exact ⟨(0 : Int), M47, o601h, ⟨rfl, rfl, rfl, rfl, rfl, trivial⟩, (Hp.le_refl M47), E, S.pick [0, 2] (by decide)⟩
  ·intro n
   rintro ρ w602 ⟨x419, M603, H, hρ, hM604, E, S⟩
   rw [QL hρ]
   replace hg0 := gup hg0 hM604
   replace hg1 := gup hg1 hM604
   replace HM := Hp.le_trans HM hM604
   cases n with
   | zero => cases H
   | succ k =>
    rw [Zc.eq_2] at H
    refine QE (QA (W_v (.bool (decide (x419 < (x53.length : Int)))) (QV rfl rfl rfl rfl) rfl (QB (tn (QE ?_)))))
    rcases Zw H with ⟨hb605, H⟩ | ⟨hb605, H⟩
    ·refine QN (congrArg Value.bool hb605) ?_
     refine Qk (tn (QE ?_))
     refine YO ?_
     refine QE (QA ?_)
     obtain ⟨⟨p606, p607⟩, H⟩ := YN H
     obtain ⟨b608, o609, cs610, _, _, ee615, hb611, vs612, hR613, hc614⟩ := SlW.at' (S.row_read 0 rfl) p606 p607
     obtain ⟨v619, hs618, rfl⟩ := hR613
     obtain ⟨A616, c617, rfl, _⟩ := hs618.form
     refine W_v (.pointer (some ⟨b608, o609 + x419.toNat * 9, none⟩)) (Q8 Tryd.underlying60 ty59 (slA ee615) rfl p606 p607) rfl (W_v (.agg #[vI ((rd x53 x419).c.Tasks), vI ((rd x53 x419).c.Active), vI ((rd x53 x419).c.Keys), vI ((rd x53 x419).c.Depth), vI ((rd x53 x419).c.TS), vI ((rd x53 x419).c.KeyLen), vI ((rd x53 x419).c.ValLen), vI ((rd x53 x419).c.Fan), .slice A616 ((rd x53 x419).p).length c617]) (Qi (Hp.of_get hb611) ty59 rfl (XG hc614 0 rfl) rfl rfl) rfl ?_)
     refine Z1 S #[vI 0, vI 0, vI 0, vI 0, vI 0, vI 0, vI 0, vI 0, .slice none 0 0] ty59 rfl rfl ?_
     intro b620 w621 E' S
     replace E := E.trans E'
     refine Q0 S 0 rfl ty59 rfl rfl [vI ((rd x53 x419).c.Tasks), vI ((rd x53 x419).c.Active), vI ((rd x53 x419).c.Keys), vI ((rd x53 x419).c.Depth), vI ((rd x53 x419).c.TS), vI ((rd x53 x419).c.KeyLen), vI ((rd x53 x419).c.ValLen), vI ((rd x53 x419).c.Fan), .slice A616 ((rd x53 x419).p).length c617] rfl rfl rfl #[vI ((rd x53 x419).c.Tasks), vI ((rd x53 x419).c.Active), vI ((rd x53 x419).c.Keys), vI ((rd x53 x419).c.Depth), vI ((rd x53 x419).c.TS), vI ((rd x53 x419).c.KeyLen), vI ((rd x53 x419).c.ValLen), vI ((rd x53 x419).c.Fan), .slice A616 ((rd x53 x419).p).length c617] (by as_aux_lemma => kernel_rfl) rfl ?_
     intro w623 E' S
     replace E := E.trans E'
     refine QB (tn (QE (QA (W_v (pt b620 0) (QG (o := 0) (off := 0) Tryd.underlying59 rfl ty23 rfl rfl) rfl (W_v (.agg #[vI ((rd x53 x419).c.Tasks), vI ((rd x53 x419).c.Active), vI ((rd x53 x419).c.Keys), vI ((rd x53 x419).c.Depth), vI ((rd x53 x419).c.TS), vI ((rd x53 x419).c.KeyLen), vI ((rd x53 x419).c.ValLen), vI ((rd x53 x419).c.Fan)]) (Qi (S.blk 0 rfl) ty23 rfl (QI rfl) rfl rfl) rfl (W_v (pt b620 8) (QG (o := 0) (off := 8) Tryd.underlying59 rfl ty24 rfl rfl) rfl (W_v (.slice A616 ((rd x53 x419).p).length c617) (QQ (S.blk 0 rfl) ty24 rfl rfl) rfl ?_)))))))
     obtain ⟨t624, ht625, H⟩ := QW H
     refine YM fn20 (YU.con k M603 ((rd x53 x419).c) A616 c617 ((rd x53 x419).p) none 0 ([] : (List QF)) t624 hs618 (SlW.nil _ _) hg0 hg1 ht625) S rfl rfl (by rintro _ _ _ ⟨_, rfl⟩; exact Qd) ?_
     rintro _ w626 _ Γ' E' S ⟨rfl, rfl⟩
     replace E := E.trans E'
     refine W_v (.tuple #[vI t624.1, vI t624.2]) (QC rfl) rfl (W_v (vI t624.1) (QS rfl rfl) rfl (W_v (vI t624.2) (QS rfl rfl) rfl (W_v (vI t624.1) (QD rfl) rfl (W_v (vI t624.2) (QD rfl) rfl (QB (tn (QE (QA (W_v (pt b620 0) (QG (o := 0) (off := 0) Tryd.underlying59 rfl ty23 rfl rfl) rfl (W_v (.agg #[vI ((rd x53 x419).c.Tasks), vI ((rd x53 x419).c.Active), vI ((rd x53 x419).c.Keys), vI ((rd x53 x419).c.Depth), vI ((rd x53 x419).c.TS), vI ((rd x53 x419).c.KeyLen), vI ((rd x53 x419).c.ValLen), vI ((rd x53 x419).c.Fan)]) (Qi (S.blk 0 rfl) ty23 rfl (QI rfl) rfl rfl) rfl (W_v (pt b620 8) (QG (o := 0) (off := 8) Tryd.underlying59 rfl ty24 rfl rfl) rfl (W_v (.slice A616 ((rd x53 x419).p).length c617) (QQ (S.blk 0 rfl) ty24 rfl rfl) rfl ?_))))))))))))
     obtain ⟨t627, ht628, H⟩ := QW H
     rcases t627 with t629 | t630 | t631
     ·skip
      replace H := elimL H
      refine Z3 fn23 (YT.con k M603 ((rd x53 x419).c) A616 c617 ((rd x53 x419).p) none 0 ([] : (List QF)) (Sum.inl t629) hs618 (SlW.nil _ _) hg0 hg1 ht628) (Γ1 := []) (Γ2 := [_, _, _]) S rfl rfl (by rintro _ _ _ ⟨rfl, rfl⟩; exact Qd) ?_
      rintro _ w632 _ Γ' E' S ⟨rfl, rfl⟩
      replace E := E.trans E'
      replace S : St w632 M603 F [_, _, _] := S
      refine W_v (.tuple cz23) (QC rfl) rfl (W_v (.pointer none) (QS rfl rfl) rfl (W_v (vI 1) (QS rfl rfl) rfl (W_v (.pointer none) (QD rfl) rfl (W_v (vI 1) (QD rfl) rfl (QB (tn (QE (QA (W_v (pt b620 0) (QG (o := 0) (off := 0) Tryd.underlying59 rfl ty23 rfl rfl) rfl (W_v (.agg #[vI ((rd x53 x419).c.Tasks), vI ((rd x53 x419).c.Active), vI ((rd x53 x419).c.Keys), vI ((rd x53 x419).c.Depth), vI ((rd x53 x419).c.TS), vI ((rd x53 x419).c.KeyLen), vI ((rd x53 x419).c.ValLen), vI ((rd x53 x419).c.Fan)]) (Qi (S.blk 0 rfl) ty23 rfl (QI rfl) rfl rfl) rfl (W_v (pt b620 8) (QG (o := 0) (off := 8) Tryd.underlying59 rfl ty24 rfl rfl) rfl (W_v (.slice A616 ((rd x53 x419).p).length c617) (QQ (S.blk 0 rfl) ty24 rfl rfl) rfl ?_))))))))))))
      obtain ⟨t635, ht636, H⟩ := QW H
      refine YM fn10 (Ze.con k M603 ((rd x53 x419).c) A616 c617 ((rd x53 x419).p) none 0 ([] : (List QF)) t635 hs618 (SlW.nil _ _) hg0 hg1 ht636) S rfl rfl (by rintro _ _ _ ⟨_, rfl⟩; exact Qd) ?_
      rintro _ w637 _ Γ' E' S ⟨rfl, rfl⟩
      replace E := E.trans E'
      refine W_v (.tuple #[.bool t635.1, vI t635.2]) (QC rfl) rfl (W_v (.bool t635.1) (QS rfl rfl) rfl (W_v (vI t635.2) (QS rfl rfl) rfl (W_v (.bool t635.1) (QD rfl) rfl (W_v (vI t635.2) (QD rfl) rfl (QB (tn (QE (QA (W_v (pt b620 0) (QG (o := 0) (off := 0) Tryd.underlying59 rfl ty23 rfl rfl) rfl (W_v (.agg #[vI ((rd x53 x419).c.Tasks), vI ((rd x53 x419).c.Active), vI ((rd x53 x419).c.Keys), vI ((rd x53 x419).c.Depth), vI ((rd x53 x419).c.TS), vI ((rd x53 x419).c.KeyLen), vI ((rd x53 x419).c.ValLen), vI ((rd x53 x419).c.Fan)]) (Qi (S.blk 0 rfl) ty23 rfl (QI rfl) rfl rfl) rfl (W_v (pt b620 8) (QG (o := 0) (off := 8) Tryd.underlying59 rfl ty24 rfl rfl) rfl (W_v (.slice A616 ((rd x53 x419).p).length c617) (QQ (S.blk 0 rfl) ty24 rfl rfl) rfl ?_))))))))))))
      obtain ⟨t638, ht639, H⟩ := QW H
      refine YM fn14 (Yg.con k M603 ((rd x53 x419).c) A616 c617 ((rd x53 x419).p) t638 hs618 ht639) S rfl rfl (by rintro _ _ _ ⟨_, rfl⟩; exact Qd) ?_
      rintro _ w640 _ Γ' E' S ⟨rfl, rfl⟩
      replace E := E.trans E'
      refine W_v (.bool t638) (QC rfl) rfl ?_
      refine ZC 3 (fun ρ w' => Qn ρ [(1, pt b16 0), (2, .slice A10 t8.length c11), (6, pt b620 0), (8, vI t624.2), (9, .pointer none), (10, vI 1), (12, vI t635.2), (56, .slice (some ⟨b50, 0, none⟩) x53.length 3), (57, vI (x53.length : Int)), (58, vI x419), (94, .bool (t638 || (t624.1 != (-1 : Int))))] ∧ w640 = w') ?_ ?_
      ·rcases Qq t638 with hb641 | hb641
       ·skip
        refine QT (congrArg some hb641) (W_v (vI t624.1) (QC rfl) rfl (QT (congrArg some hb641) (W_v (.bool (t624.1 != (-1 : Int))) (QV rfl rfl rfl rfl) rfl (W_v (.bool (t624.1 != (-1 : Int))) (QX (k := false) (congrArg Value.bool hb641) rfl) rfl (QB ?_)))))
        exact ⟨⟨rfl, rfl, rfl, rfl, rfl, rfl, rfl, rfl, rfl, rfl, (by first | rfl | (rw [hb641]; rfl) | (simp only [hb641]; rfl)), trivial⟩, rfl⟩
       ·skip
        refine Qh (skF hb641) rfl (Qh (skF hb641) rfl (W_v (.bool true) (QX (k := true) (congrArg Value.bool hb641) rfl) rfl (QB ?_)))
        exact ⟨⟨rfl, rfl, rfl, rfl, rfl, rfl, rfl, rfl, rfl, rfl, (by first | rfl | (rw [hb641]; rfl) | (simp only [hb641]; rfl)), trivial⟩, rfl⟩
      as_aux_lemma =>
      rintro ρ _ ⟨hρ, rfl⟩
      rw [QL hρ]
      refine W_v (.bool (t638 || (t624.1 != (-1 : Int)))) (QC rfl) rfl ?_
      refine ZC 3 (fun ρ w' => Qn ρ [(1, pt b16 0), (2, .slice A10 t8.length c11), (6, pt b620 0), (9, .pointer none), (10, vI 1), (12, vI t635.2), (56, .slice (some ⟨b50, 0, none⟩) x53.length 3), (57, vI (x53.length : Int)), (58, vI x419), (98, .bool ((t638 || (t624.1 != (-1 : Int))) || (t624.2 != (1 : Int))))] ∧ w640 = w') ?_ ?_
      ·rcases Qq (t638 || (t624.1 != (-1 : Int))) with hb642 | hb642
       ·skip
        refine QT (congrArg some hb642) (W_v (vI t624.2) (QC rfl) rfl (QT (congrArg some hb642) (W_v (.bool (t624.2 != (1 : Int))) (QV rfl rfl rfl rfl) rfl (W_v (.bool (t624.2 != (1 : Int))) (QX (k := false) (congrArg Value.bool hb642) rfl) rfl (QB ?_)))))
        exact ⟨⟨rfl, rfl, rfl, rfl, rfl, rfl, rfl, rfl, rfl, (by first | rfl | (rw [hb642]; rfl) | (simp only [hb642]; rfl)), trivial⟩, rfl⟩
       ·skip
        refine Qh (skF hb642) rfl (Qh (skF hb642) rfl (W_v (.bool true) (QX (k := true) (congrArg Value.bool hb642) rfl) rfl (QB ?_)))
        exact ⟨⟨rfl, rfl, rfl, rfl, rfl, rfl, rfl, rfl, rfl, (by first | rfl | (rw [hb642]; rfl) | (simp only [hb642]; rfl)), trivial⟩, rfl⟩
      as_aux_lemma =>
      rintro ρ _ ⟨hρ, rfl⟩
      rw [QL hρ]
      refine W_v (.bool ((t638 || (t624.1 != (-1 : Int))) || (t624.2 != (1 : Int)))) (QC rfl) rfl ?_
      refine ZC 3 (fun ρ w' => Qn ρ [(1, pt b16 0), (2, .slice A10 t8.length c11), (6, pt b620 0), (10, vI 1), (12, vI t635.2), (56, .slice (some ⟨b50, 0, none⟩) x53.length 3), (57, vI (x53.length : Int)), (58, vI x419), (102, .bool (((t638 || (t624.1 != (-1 : Int))) || (t624.2 != (1 : Int))) || false))] ∧ w640 = w') ?_ ?_
      ·rcases Qq ((t638 || (t624.1 != (-1 : Int))) || (t624.2 != (1 : Int))) with hb643 | hb643
       ·skip
        refine QT (congrArg some hb643) (W_v (.pointer none) (QC rfl) rfl (QT (congrArg some hb643) (W_v (.bool false) (X3 (r := true) rfl rfl (Xt Tryd.underlying39)) rfl (W_v (.bool false) (QX (k := false) (congrArg Value.bool hb643) rfl) rfl (QB ?_)))))
        exact ⟨⟨rfl, rfl, rfl, rfl, rfl, rfl, rfl, rfl, (by first | rfl | (rw [hb643]; rfl) | (simp only [hb643]; rfl)), trivial⟩, rfl⟩
       ·skip
        refine Qh (skF hb643) rfl (Qh (skF hb643) rfl (W_v (.bool true) (QX (k := true) (congrArg Value.bool hb643) rfl) rfl (QB ?_)))
        exact ⟨⟨rfl, rfl, rfl, rfl, rfl, rfl, rfl, rfl, (by first | rfl | (rw [hb643]; rfl) | (simp only [hb643]; rfl)), trivial⟩, rfl⟩
      as_aux_lemma =>
      rintro ρ _ ⟨hρ, rfl⟩
      rw [QL hρ]
      refine W_v (.bool (((t638 || (t624.1 != (-1 : Int))) || (t624.2 != (1 : Int))) || false)) (QC rfl) rfl ?_
      refine ZC 3 (fun ρ w' => Qn ρ [(1, pt b16 0), (2, .slice A10 t8.length c11), (6, pt b620 0), (12, vI t635.2), (56, .slice (some ⟨b50, 0, none⟩) x53.length 3), (57, vI (x53.length : Int)), (58, vI x419), (106, .bool ((((t638 || (t624.1 != (-1 : Int))) || (t624.2 != (1 : Int))) || false) || false))] ∧ w640 = w') ?_ ?_
      ·rcases Qq (((t638 || (t624.1 != (-1 : Int))) || (t624.2 != (1 : Int))) || false) with hb644 | hb644
       ·skip
        refine QT (congrArg some hb644) (W_v (vI 1) (QC rfl) rfl (QT (congrArg some hb644) (W_v (.bool false) (QV rfl rfl rfl rfl) rfl (W_v (.bool false) (QX (k := false) (congrArg Value.bool hb644) rfl) rfl (QB ?_)))))
        exact ⟨⟨rfl, rfl, rfl, rfl, rfl, rfl, rfl, (by first | rfl | (rw [hb644]; rfl) | (simp only [hb644]; rfl)), trivial⟩, rfl⟩
       ·skip
        refine Qh (skF hb644) rfl (Qh (skF hb644) rfl (W_v (.bool true) (QX (k := true) (congrArg Value.bool hb644) rfl) rfl (QB ?_)))
        exact ⟨⟨rfl, rfl, rfl, rfl, rfl, rfl, rfl, (by first | rfl | (rw [hb644]; rfl) | (simp only [hb644]; rfl)), trivial⟩, rfl⟩
      as_aux_lemma =>
      rintro ρ _ ⟨hρ, rfl⟩
      rw [QL hρ]
      refine W_v (.bool ((((t638 || (t624.1 != (-1 : Int))) || (t624.2 != (1 : Int))) || false) || false)) (QC rfl) rfl ?_
      refine ZC 3 (fun ρ w' => Qn ρ [(1, pt b16 0), (2, .slice A10 t8.length c11), (6, pt b620 0), (56, .slice (some ⟨b50, 0, none⟩) x53.length 3), (57, vI (x53.length : Int)), (58, vI x419), (110, .bool (((((t638 || (t624.1 != (-1 : Int))) || (t624.2 != (1 : Int))) || false) || false) || (t635.2 != (1 : Int))))] ∧ w640 = w') ?_ ?_
      ·rcases Qq ((((t638 || (t624.1 != (-1 : Int))) || (t624.2 != (1 : Int))) || false) || false) with hb645 | hb645
       ·skip
        refine QT (congrArg some hb645) (W_v (vI t635.2) (QC rfl) rfl (QT (congrArg some hb645) (W_v (.bool (t635.2 != (1 : Int))) (QV rfl rfl rfl rfl) rfl (W_v (.bool (t635.2 != (1 : Int))) (QX (k := false) (congrArg Value.bool hb645) rfl) rfl (QB ?_)))))
        exact ⟨⟨rfl, rfl, rfl, rfl, rfl, rfl, (by first | rfl | (rw [hb645]; rfl) | (simp only [hb645]; rfl)), trivial⟩, rfl⟩
       ·skip
        refine Qh (skF hb645) rfl (Qh (skF hb645) rfl (W_v (.bool true) (QX (k := true) (congrArg Value.bool hb645) rfl) rfl (QB ?_)))
        exact ⟨⟨rfl, rfl, rfl, rfl, rfl, rfl, (by first | rfl | (rw [hb645]; rfl) | (simp only [hb645]; rfl)), trivial⟩, rfl⟩
      as_aux_lemma =>
      rintro ρ _ ⟨hρ, rfl⟩
      rw [QL hρ]
      refine W_v (.bool (((((t638 || (t624.1 != (-1 : Int))) || (t624.2 != (1 : Int))) || false) || false) || (t635.2 != (1 : Int)))) (QC rfl) rfl ?_
      obtain ⟨o664, o664h, o664H⟩ := QW H
      refine ZC 8 (fun ρ w' => ∃ (x663 : Bool) (Mj : Hp), (x663) = o664 ∧ Qn ρ [(1, pt b16 0), (2, .slice A10 t8.length c11), (56, .slice (some ⟨b50, 0, none⟩) x53.length 3), (57, vI (x53.length : Int)), (58, vI x419), (119, .bool x663)] ∧ M603.le Mj ∧ Ext w w' ∧ St w' Mj F [Row Vt 59 (.slice (some ⟨b50, 0, none⟩) x53.length 3) x53, B23 b16 t5]) ?_ ?_
      ·as_aux_lemma =>
        have H := o664h
        have LE665 := Hp.le_refl M603
        rcases Zw H with ⟨hb662, H⟩ | ⟨hb662, H⟩
        ·skip
         refine Qh (skF hb662) rfl (Qh (skF hb662) rfl (Qh (skF hb662) rfl (Qh (skF hb662) rfl (Qh (skF hb662) rfl (Qh (skF hb662) rfl (Qh (skF hb662) rfl (W_v (.bool true) (QX (k := true) (congrArg Value.bool hb662) rfl) rfl (QB ?_))))))))
         exact ⟨true, M603, Option.some.inj H, ⟨rfl, rfl, rfl, rfl, rfl, rfl, trivial⟩, (Hp.le_refl M603), E, S.pick [1, 2] (by decide)⟩
        ·skip
         refine QT (congrArg some hb662) (W_v (pt b620 0) (QG (o := 0) (off := 0) Tryd.underlying59 rfl ty23 rfl rfl) rfl (QT (congrArg some hb662) (W_v (.agg #[vI ((rd x53 x419).c.Tasks), vI ((rd x53 x419).c.Active), vI ((rd x53 x419).c.Keys), vI ((rd x53 x419).c.Depth), vI ((rd x53 x419).c.TS), vI ((rd x53 x419).c.KeyLen), vI ((rd x53 x419).c.ValLen), vI ((rd x53 x419).c.Fan)]) (Qi (S.blk 0 rfl) ty23 rfl (QI rfl) rfl rfl) rfl (QT (congrArg some hb662) (W_v (pt b620 8) (QG (o := 0) (off := 8) Tryd.underlying59 rfl ty24 rfl rfl) rfl (QT (congrArg some hb662) (W_v (.slice A616 ((rd x53 x419).p).length c617) (QQ (S.blk 0 rfl) ty24 rfl rfl) rfl (QT (congrArg some hb662) ?_))))))))
         obtain ⟨t666, ht667, H⟩ := QW H
         refine ZU fn24 (Zp.con k M603 ((rd x53 x419).c) A616 c617 ((rd x53 x419).p) none 0 ([] : (List QF)) t666 hs618 (SlW.nil _ _) hg0 hg1 ht667) (Γ1 := []) (Γ2 := [_, _, _]) S rfl rfl ?_
         rintro _ w671 M672 Γ' hM673 E' S ⟨A668, c669, rfl, rfl⟩
         replace HM := Hp.le_trans HM hM673
         replace LE665 := Hp.le_trans LE665 hM673
         replace E := E.trans E'
         refine QT (congrArg some hb662) (W_v (vI (t666.length : Int)) (ZK (n := t666.length) Tryd.underlying62 rfl) rfl (QT (congrArg some hb662) (W_v (.bool ((t666.length : Int) != (0 : Int))) (QV rfl rfl rfl rfl) rfl (W_v (.bool ((t666.length : Int) != (0 : Int))) (QX (k := false) (congrArg Value.bool hb662) rfl) rfl (QB ?_)))))
         exact ⟨((t666.length : Int) != (0 : Int)), M672, Option.some.inj H, ⟨rfl, rfl, rfl, rfl, rfl, rfl, trivial⟩, LE665, E, S.pick [2, 3] (by decide)⟩
      rintro ρ w674 ⟨x663, M675, rfl, hρ, hM676, E, S⟩
      rw [QL hρ]
      replace HM := Hp.le_trans HM hM676
      replace hM604 := Hp.le_trans hM604 hM676
      have H := o664H
      refine QB (tn ?_)
      rcases Zw H with ⟨hb677, H⟩ | ⟨hb677, H⟩
      ·refine QN (congrArg Value.bool hb677) ?_
       refine QE (QA (W_v (.bool false) (QD rfl) rfl (QB (tn ?_))))
       refine QZ ?_
       refine br (tr (tr (br (tr (tr (?_))))))
       obtain rfl := Option.some.inj H
       have H := o601H
       replace H := elimL H
       obtain rfl := Option.some.inj H
       exact ⟨_, _, _, fun w1 e1 => QO (vs := [.bool false]) (FA.cons (rfl) (FA.nil)), HM, E, S.pick [] (by decide), ⟨rfl, rfl⟩⟩
      refine QK (congrArg Value.bool hb677) (Qk (bn (tn (QA (W_v (vI (IntKind.i64.wrap (x419 + (1 : Int)))) (QV rfl rfl rfl rfl) rfl (W_v (vI (IntKind.i64.wrap (x419 + (1 : Int)))) (QC rfl) rfl (QB (tn ?_))))))))
      exact ⟨k, Nat.lt_succ_self k, ⟨(IntKind.i64.wrap (x419 + (1 : Int))), M675, H, ⟨rfl, rfl, rfl, rfl, rfl, trivial⟩, hM604, E, S.pick [0, 1] (by decide)⟩⟩
     ·skip
      replace H := elimR H
      replace H := elimL H
      refine Z3 fn23 (YT.con k M603 ((rd x53 x419).c) A616 c617 ((rd x53 x419).p) none 0 ([] : (List QF)) (Sum.inr (Sum.inl t630)) hs618 (SlW.nil _ _) hg0 hg1 ht628) (Γ1 := []) (Γ2 := [_, _, _]) S rfl rfl (by rintro _ _ _ ⟨rfl, rfl⟩; exact Qd) ?_
      rintro _ w678 _ Γ' E' S ⟨rfl, rfl⟩
      replace E := E.trans E'
      replace S : St w678 M603 F [_, _, _] := S
      refine W_v (.tuple cz24) (QC rfl) rfl (W_v (.pointer none) (QS rfl rfl) rfl (W_v (vI 4) (QS rfl rfl) rfl (W_v (.pointer none) (QD rfl) rfl (W_v (vI 4) (QD rfl) rfl (QB (tn (QE (QA (W_v (pt b620 0) (QG (o := 0) (off := 0) Tryd.underlying59 rfl ty23 rfl rfl) rfl (W_v (.agg #[vI ((rd x53 x419).c.Tasks), vI ((rd x53 x419).c.Active), vI ((rd x53 x419).c.Keys), vI ((rd x53 x419).c.Depth), vI ((rd x53 x419).c.TS), vI ((rd x53 x419).c.KeyLen), vI ((rd x53 x419).c.ValLen), vI ((rd x53 x419).c.Fan)]) (Qi (S.blk 0 rfl) ty23 rfl (QI rfl) rfl rfl) rfl (W_v (pt b620 8) (QG (o := 0) (off := 8) Tryd.underlying59 rfl ty24 rfl rfl) rfl (W_v (.slice A616 ((rd x53 x419).p).length c617) (QQ (S.blk 0 rfl) ty24 rfl rfl) rfl ?_))))))))))))
      obtain ⟨t681, ht682, H⟩ := QW H
      refine YM fn10 (Ze.con k M603 ((rd x53 x419).c) A616 c617 ((rd x53 x419).p) none 0 ([] : (List QF)) t681 hs618 (SlW.nil _ _) hg0 hg1 ht682) S rfl rfl (by rintro _ _ _ ⟨_, rfl⟩; exact Qd) ?_
      rintro _ w683 _ Γ' E' S ⟨rfl, rfl⟩
      replace E := E.trans E'
      refine W_v (.tuple #[.bool t681.1, vI t681.2]) (QC rfl) rfl (W_v (.bool t681.1) (QS rfl rfl) rfl (W_v (vI t681.2) (QS rfl rfl) rfl (W_v (.bool t681.1) (QD rfl) rfl (W_v (vI t681.2) (QD rfl) rfl (QB (tn (QE (QA (W_v (pt b620 0) (QG (o := 0) (off := 0) Tryd.underlying59 rfl ty23 rfl rfl) rfl (W_v (.agg #[vI ((rd x53 x419).c.Tasks), vI ((rd x53 x419).c.Active), vI ((rd x53 x419).c.Keys), vI ((rd x53 x419).c.Depth), vI ((rd x53 x419).c.TS), vI ((rd x53 x419).c.KeyLen), vI ((rd x53 x419).c.ValLen), vI ((rd x53 x419).c.Fan)]) (Qi (S.blk 0 rfl) ty23 rfl (QI rfl) rfl rfl) rfl (W_v (pt b620 8) (QG (o := 0) (off := 8) Tryd.underlying59 rfl ty24 rfl rfl) rfl (W_v (.slice A616 ((rd x53 x419).p).length c617) (QQ (S.blk 0 rfl) ty24 rfl rfl) rfl ?_))))))))))))
      obtain ⟨t684, ht685, H⟩ := QW H
      refine YM fn14 (Yg.con k M603 ((rd x53 x419).c) A616 c617 ((rd x53 x419).p) t684 hs618 ht685) S rfl rfl (by rintro _ _ _ ⟨_, rfl⟩; exact Qd) ?_
      rintro _ w686 _ Γ' E' S ⟨rfl, rfl⟩
      replace E := E.trans E'
      refine W_v (.bool t684) (QC rfl) rfl ?_
      refine ZC 3 (fun ρ w' => Qn ρ [(1, pt b16 0), (2, .slice A10 t8.length c11), (6, pt b620 0), (8, vI t624.2), (9, .pointer none), (10, vI 4), (12, vI t681.2), (56, .slice (some ⟨b50, 0, none⟩) x53.length 3), (57, vI (x53.length : Int)), (58, vI x419), (94, .bool (t684 || (t624.1 != (-1 : Int))))] ∧ w686 = w') ?_ ?_
      ·rcases Qq t684 with hb687 | hb687
       ·skip
        refine QT (congrArg some hb687) (W_v (vI t624.1) (QC rfl) rfl (QT (congrArg some hb687) (W_v (.bool (t624.1 != (-1 : Int))) (QV rfl rfl rfl rfl) rfl (W_v (.bool (t624.1 != (-1 : Int))) (QX (k := false) (congrArg Value.bool hb687) rfl) rfl (QB ?_)))))
        exact ⟨⟨rfl, rfl, rfl, rfl, rfl, rfl, rfl, rfl, rfl, rfl, (by first | rfl | (rw [hb687]; rfl) | (simp only [hb687]; rfl)), trivial⟩, rfl⟩
       ·skip
        refine Qh (skF hb687) rfl (Qh (skF hb687) rfl (W_v (.bool true) (QX (k := true) (congrArg Value.bool hb687) rfl) rfl (QB ?_)))
        exact ⟨⟨rfl, rfl, rfl, rfl, rfl, rfl, rfl, rfl, rfl, rfl, (by first | rfl | (rw [hb687]; rfl) | (simp only [hb687]; rfl)), trivial⟩, rfl⟩
      as_aux_lemma =>
      rintro ρ _ ⟨hρ, rfl⟩
      rw [QL hρ]
      refine W_v (.bool (t684 || (t624.1 != (-1 : Int)))) (QC rfl) rfl ?_
      refine ZC 3 (fun ρ w' => Qn ρ [(1, pt b16 0), (2, .slice A10 t8.length c11), (6, pt b620 0), (9, .pointer none), (10, vI 4), (12, vI t681.2), (56, .slice (some ⟨b50, 0, none⟩) x53.length 3), (57, vI (x53.length : Int)), (58, vI x419), (98, .bool ((t684 || (t624.1 != (-1 : Int))) || (t624.2 != (1 : Int))))] ∧ w686 = w') ?_ ?_
      ·rcases Qq (t684 || (t624.1 != (-1 : Int))) with hb688 | hb688
       ·skip
        refine QT (congrArg some hb688) (W_v (vI t624.2) (QC rfl) rfl (QT (congrArg some hb688) (W_v (.bool (t624.2 != (1 : Int))) (QV rfl rfl rfl rfl) rfl (W_v (.bool (t624.2 != (1 : Int))) (QX (k := false) (congrArg Value.bool hb688) rfl) rfl (QB ?_)))))
        exact ⟨⟨rfl, rfl, rfl, rfl, rfl, rfl, rfl, rfl, rfl, (by first | rfl | (rw [hb688]; rfl) | (simp only [hb688]; rfl)), trivial⟩, rfl⟩
       ·skip
        refine Qh (skF hb688) rfl (Qh (skF hb688) rfl (W_v (.bool true) (QX (k := true) (congrArg Value.bool hb688) rfl) rfl (QB ?_)))
        exact ⟨⟨rfl, rfl, rfl, rfl, rfl, rfl, rfl, rfl, rfl, (by first | rfl | (rw [hb688]; rfl) | (simp only [hb688]; rfl)), trivial⟩, rfl⟩
      as_aux_lemma =>
      rintro ρ _ ⟨hρ, rfl⟩
      rw [QL hρ]
      refine W_v (.bool ((t684 || (t624.1 != (-1 : Int))) || (t624.2 != (1 : Int)))) (QC rfl) rfl ?_
      refine ZC 3 (fun ρ w' => Qn ρ [(1, pt b16 0), (2, .slice A10 t8.length c11), (6, pt b620 0), (10, vI 4), (12, vI t681.2), (56, .slice (some ⟨b50, 0, none⟩) x53.length 3), (57, vI (x53.length : Int)), (58, vI x419), (102, .bool (((t684 || (t624.1 != (-1 : Int))) || (t624.2 != (1 : Int))) || false))] ∧ w686 = w') ?_ ?_
      ·rcases Qq ((t684 || (t624.1 != (-1 : Int))) || (t624.2 != (1 : Int))) with hb689 | hb689
       ·skip
        refine QT (congrArg some hb689) (W_v (.pointer none) (QC rfl) rfl (QT (congrArg some hb689) (W_v (.bool false) (X3 (r := true) rfl rfl (Xt Tryd.underlying39)) rfl (W_v (.bool false) (QX (k := false) (congrArg Value.bool hb689) rfl) rfl (QB ?_)))))
        exact ⟨⟨rfl, rfl, rfl, rfl, rfl, rfl, rfl, rfl, (by first | rfl | (rw [hb689]; rfl) | (simp only [hb689]; rfl)), trivial⟩, rfl⟩
       ·skip
        refine Qh (skF hb689) rfl (Qh (skF hb689) rfl (W_v (.bool true) (QX (k := true) (congrArg Value.bool hb689) rfl) rfl (QB ?_)))
        exact ⟨⟨rfl, rfl, rfl, rfl, rfl, rfl, rfl, rfl, (by first | rfl | (rw [hb689]; rfl) | (simp only [hb689]; rfl)), trivial⟩, rfl⟩
      as_aux_lemma =>
      rintro ρ _ ⟨hρ, rfl⟩
      rw [QL hρ]
      refine W_v (.bool (((t684 || (t624.1 != (-1 : Int))) || (t624.2 != (1 : Int))) || false)) (QC rfl) rfl ?_
      refine ZC 3 (fun ρ w' => Qn ρ [(1, pt b16 0), (2, .slice A10 t8.length c11), (6, pt b620 0), (12, vI t681.2), (56, .slice (some ⟨b50, 0, none⟩) x53.length 3), (57, vI (x53.length : Int)), (58, vI x419), (106, .bool ((((t684 || (t624.1 != (-1 : Int))) || (t624.2 != (1 : Int))) || false) || true))] ∧ w686 = w') ?_ ?_
      ·rcases Qq (((t684 || (t624.1 != (-1 : Int))) || (t624.2 != (1 : Int))) || false) with hb690 | hb690
       ·skip
        refine QT (congrArg some hb690) (W_v (vI 4) (QC rfl) rfl (QT (congrArg some hb690) (W_v (.bool true) (QV rfl rfl rfl rfl) rfl (W_v (.bool true) (QX (k := false) (congrArg Value.bool hb690) rfl) rfl (QB ?_)))))
        exact ⟨⟨rfl, rfl, rfl, rfl, rfl, rfl, rfl, (by first | rfl | (rw [hb690]; rfl) | (simp only [hb690]; rfl)), trivial⟩, rfl⟩
       ·skip
        refine Qh (skF hb690) rfl (Qh (skF hb690) rfl (W_v (.bool true) (QX (k := true) (congrArg Value.bool hb690) rfl) rfl (QB ?_)))
        exact ⟨⟨rfl, rfl, rfl, rfl, rfl, rfl, rfl, (by first | rfl | (rw [hb690]; rfl) | (simp only [hb690]; rfl)), trivial⟩, rfl⟩
      as_aux_lemma =>
      rintro ρ _ ⟨hρ, rfl⟩
      rw [QL hρ]
      refine W_v (.bool ((((t684 || (t624.1 != (-1 : Int))) || (t624.2 != (1 : Int))) || false) || true)) (QC rfl) rfl ?_
      refine ZC 3 (fun ρ w' => Qn ρ [(1, pt b16 0), (2, .slice A10 t8.length c11), (6, pt b620 0), (56, .slice (some ⟨b50, 0, none⟩) x53.length 3), (57, vI (x53.length : Int)), (58, vI x419), (110, .bool (((((t684 || (t624.1 != (-1 : Int))) || (t624.2 != (1 : Int))) || false) || true) || (t681.2 != (1 : Int))))] ∧ w686 = w') ?_ ?_
      ·rcases Qq ((((t684 || (t624.1 != (-1 : Int))) || (t624.2 != (1 : Int))) || false) || true) with hb691 | hb691
       ·skip
        refine QT (congrArg some hb691) (W_v (vI t681.2) (QC rfl) rfl (QT (congrArg some hb691) (W_v (.bool (t681.2 != (1 : Int))) (QV rfl rfl rfl rfl) rfl (W_v (.bool (t681.2 != (1 : Int))) (QX (k := false) (congrArg Value.bool hb691) rfl) rfl (QB ?_)))))
        exact ⟨⟨rfl, rfl, rfl, rfl, rfl, rfl, (by first | rfl | (rw [hb691]; rfl) | (simp only [hb691]; rfl)), trivial⟩, rfl⟩
       ·skip
        refine Qh (skF hb691) rfl (Qh (skF hb691) rfl (W_v (.bool true) (QX (k := true) (congrArg Value.bool hb691) rfl) rfl (QB ?_)))
        exact ⟨⟨rfl, rfl, rfl, rfl, rfl, rfl, (by first | rfl | (rw [hb691]; rfl) | (simp only [hb691]; rfl)), trivial⟩, rfl⟩
      as_aux_lemma =>
      rintro ρ _ ⟨hρ, rfl⟩
      rw [QL hρ]
      refine W_v (.bool (((((t684 || (t624.1 != (-1 : Int))) || (t624.2 != (1 : Int))) || false) || true) || (t681.2 != (1 : Int)))) (QC rfl) rfl ?_
      obtain ⟨o710, o710h, o710H⟩ := QW H
      refine ZC 8 (fun ρ w' => ∃ (x709 : Bool) (Mj : Hp), (x709) = o710 ∧ Qn ρ [(1, pt b16 0), (2, .slice A10 t8.length c11), (56, .slice (some ⟨b50, 0, none⟩) x53.length 3), (57, vI (x53.length : Int)), (58, vI x419), (119, .bool x709)] ∧ M603.le Mj ∧ Ext w w' ∧ St w' Mj F [Row Vt 59 (.slice (some ⟨b50, 0, none⟩) x53.length 3) x53, B23 b16 t5]) ?_ ?_
      ·as_aux_lemma =>
        have H := o710h
        have LE711 := Hp.le_refl M603
        rcases Zw H with ⟨hb708, H⟩ | ⟨hb708, H⟩
        ·skip
         refine Qh (skF hb708) rfl (Qh (skF hb708) rfl (Qh (skF hb708) rfl (Qh (skF hb708) rfl (Qh (skF hb708) rfl (Qh (skF hb708) rfl (Qh (skF hb708) rfl (W_v (.bool true) (QX (k := true) (congrArg Value.bool hb708) rfl) rfl (QB ?_))))))))
         exact ⟨true, M603, Option.some.inj H, ⟨rfl, rfl, rfl, rfl, rfl, rfl, trivial⟩, (Hp.le_refl M603), E, S.pick [1, 2] (by decide)⟩
        ·skip
         refine QT (congrArg some hb708) (W_v (pt b620 0) (QG (o := 0) (off := 0) Tryd.underlying59 rfl ty23 rfl rfl) rfl (QT (congrArg some hb708) (W_v (.agg #[vI ((rd x53 x419).c.Tasks), vI ((rd x53 x419).c.Active), vI ((rd x53 x419).c.Keys), vI ((rd x53 x419).c.Depth), vI ((rd x53 x419).c.TS), vI ((rd x53 x419).c.KeyLen), vI ((rd x53 x419).c.ValLen), vI ((rd x53 x419).c.Fan)]) (Qi (S.blk 0 rfl) ty23 rfl (QI rfl) rfl rfl) rfl (QT (congrArg some hb708) (W_v (pt b620 8) (QG (o := 0) (off := 8) Tryd.underlying59 rfl ty24 rfl rfl) rfl (QT (congrArg some hb708) (W_v (.slice A616 ((rd x53 x419).p).length c617) (QQ (S.blk 0 rfl) ty24 rfl rfl) rfl (QT (congrArg some hb708) ?_))))))))
         obtain ⟨t712, ht713, H⟩ := QW H
         refine ZU fn24 (Zp.con k M603 ((rd x53 x419).c) A616 c617 ((rd x53 x419).p) none 0 ([] : (List QF)) t712 hs618 (SlW.nil _ _) hg0 hg1 ht713) (Γ1 := []) (Γ2 := [_, _, _]) S rfl rfl ?_
         rintro _ w717 M718 Γ' hM719 E' S ⟨A714, c715, rfl, rfl⟩
         replace HM := Hp.le_trans HM hM719
         replace LE711 := Hp.le_trans LE711 hM719
         replace E := E.trans E'
         refine QT (congrArg some hb708) (W_v (vI (t712.length : Int)) (ZK (n := t712.length) Tryd.underlying62 rfl) rfl (QT (congrArg some hb708) (W_v (.bool ((t712.length : Int) != (0 : Int))) (QV rfl rfl rfl rfl) rfl (W_v (.bool ((t712.length : Int) != (0 : Int))) (QX (k := false) (congrArg Value.bool hb708) rfl) rfl (QB ?_)))))
         exact ⟨((t712.length : Int) != (0 : Int)), M718, Option.some.inj H, ⟨rfl, rfl, rfl, rfl, rfl, rfl, trivial⟩, LE711, E, S.pick [2, 3] (by decide)⟩
      rintro ρ w720 ⟨x709, M721, rfl, hρ, hM722, E, S⟩
      rw [QL hρ]
      replace HM := Hp.le_trans HM hM722
      replace hM604 := Hp.le_trans hM604 hM722
      have H := o710H
      refine QB (tn ?_)
      rcases Zw H with ⟨hb723, H⟩ | ⟨hb723, H⟩
      ·refine QN (congrArg Value.bool hb723) ?_
       refine QE (QA (W_v (.bool false) (QD rfl) rfl (QB (tn ?_))))
       refine QZ ?_
       refine br (tr (tr (br (tr (tr (?_))))))
       obtain rfl := Option.some.inj H
       have H := o601H
       replace H := elimL H
       obtain rfl := Option.some.inj H
       exact ⟨_, _, _, fun w1 e1 => QO (vs := [.bool false]) (FA.cons (rfl) (FA.nil)), HM, E, S.pick [] (by decide), ⟨rfl, rfl⟩⟩
      refine QK (congrArg Value.bool hb723) (Qk (bn (tn (QA (W_v (vI (IntKind.i64.wrap (x419 + (1 : Int)))) (QV rfl rfl rfl rfl) rfl (W_v (vI (IntKind.i64.wrap (x419 + (1 : Int)))) (QC rfl) rfl (QB (tn ?_))))))))
      exact ⟨k, Nat.lt_succ_self k, ⟨(IntKind.i64.wrap (x419 + (1 : Int))), M721, H, ⟨rfl, rfl, rfl, rfl, rfl, trivial⟩, hM604, E, S.pick [0, 1] (by decide)⟩⟩
     ·skip
      replace H := elimR H
      replace H := elimR H
      refine ZU fn23 (YT.con k M603 ((rd x53 x419).c) A616 c617 ((rd x53 x419).p) none 0 ([] : (List QF)) (Sum.inr (Sum.inr t631)) hs618 (SlW.nil _ _) hg0 hg1 ht628) (Γ1 := []) (Γ2 := [_, _, _]) S rfl rfl ?_
      rintro _ w740 M741 Γ' hM742 E' S ⟨b724, A726, c727, A729, c730, A732, c733, A735, c736, vs738, rfl, hm739, rfl⟩
      replace hg0 := gup hg0 hM742
      replace hg1 := gup hg1 hM742
      replace HM := Hp.le_trans HM hM742
      replace hM604 := Hp.le_trans hM604 hM742
      replace hs618 := SlR.mono hs618 hM742
      replace E := E.trans E'
      replace S : St w740 M741 F [_, _, _, _, _, _, _, _] := S
      refine W_v (.tuple #[pt b724 0, vI 0]) (QC rfl) rfl (W_v (pt b724 0) (QS rfl rfl) rfl (W_v (vI 0) (QS rfl rfl) rfl (W_v (pt b724 0) (QD rfl) rfl (W_v (vI 0) (QD rfl) rfl (QB (tn (QE (QA (W_v (pt b620 0) (QG (o := 0) (off := 0) Tryd.underlying59 rfl ty23 rfl rfl) rfl (W_v (.agg #[vI ((rd x53 x419).c.Tasks), vI ((rd x53 x419).c.Active), vI ((rd x53 x419).c.Keys), vI ((rd x53 x419).c.Depth), vI ((rd x53 x419).c.TS), vI ((rd x53 x419).c.KeyLen), vI ((rd x53 x419).c.ValLen), vI ((rd x53 x419).c.Fan)]) (Qi (S.blk 5 rfl) ty23 rfl (QI rfl) rfl rfl) rfl (W_v (pt b620 8) (QG (o := 0) (off := 8) Tryd.underlying59 rfl ty24 rfl rfl) rfl (W_v (.slice A616 ((rd x53 x419).p).length c617) (QQ (S.blk 5 rfl) ty24 rfl rfl) rfl ?_))))))))))))
      obtain ⟨t743, ht744, H⟩ := QW H
      refine YM fn10 (Ze.con k M741 ((rd x53 x419).c) A616 c617 ((rd x53 x419).p) none 0 ([] : (List QF)) t743 hs618 (SlW.nil _ _) hg0 hg1 ht744) S rfl rfl (by rintro _ _ _ ⟨_, rfl⟩; exact Qd) ?_
      rintro _ w745 _ Γ' E' S ⟨rfl, rfl⟩
      replace E := E.trans E'
      refine W_v (.tuple #[.bool t743.1, vI t743.2]) (QC rfl) rfl (W_v (.bool t743.1) (QS rfl rfl) rfl (W_v (vI t743.2) (QS rfl rfl) rfl (W_v (.bool t743.1) (QD rfl) rfl (W_v (vI t743.2) (QD rfl) rfl (QB (tn (QE (QA (W_v (pt b620 0) (QG (o := 0) (off := 0) Tryd.underlying59 rfl ty23 rfl rfl) rfl (W_v (.agg #[vI ((rd x53 x419).c.Tasks), vI ((rd x53 x419).c.Active), vI ((rd x53 x419).c.Keys), vI ((rd x53 x419).c.Depth), vI ((rd x53 x419).c.TS), vI ((rd x53 x419).c.KeyLen), vI ((rd x53 x419).c.ValLen), vI ((rd x53 x419).c.Fan)]) (Qi (S.blk 5 rfl) ty23 rfl (QI rfl) rfl rfl) rfl (W_v (pt b620 8) (QG (o := 0) (off := 8) Tryd.underlying59 rfl ty24 rfl rfl) rfl (W_v (.slice A616 ((rd x53 x419).p).length c617) (QQ (S.blk 5 rfl) ty24 rfl rfl) rfl ?_))))))))))))
      obtain ⟨t746, ht747, H⟩ := QW H
      refine YM fn14 (Yg.con k M741 ((rd x53 x419).c) A616 c617 ((rd x53 x419).p) t746 hs618 ht747) S rfl rfl (by rintro _ _ _ ⟨_, rfl⟩; exact Qd) ?_
      rintro _ w748 _ Γ' E' S ⟨rfl, rfl⟩
      replace E := E.trans E'
      refine W_v (.bool t746) (QC rfl) rfl ?_
      refine ZC 3 (fun ρ w' => Qn ρ [(1, pt b16 0), (2, .slice A10 t8.length c11), (6, pt b620 0), (8, vI t624.2), (9, pt b724 0), (10, vI 0), (12, vI t743.2), (56, .slice (some ⟨b50, 0, none⟩) x53.length 3), (57, vI (x53.length : Int)), (58, vI x419), (94, .bool (t746 || (t624.1 != (-1 : Int))))] ∧ w748 = w') ?_ ?_
      ·rcases Qq t746 with hb749 | hb749
       ·skip
        refine QT (congrArg some hb749) (W_v (vI t624.1) (QC rfl) rfl (QT (congrArg some hb749) (W_v (.bool (t624.1 != (-1 : Int))) (QV rfl rfl rfl rfl) rfl (W_v (.bool (t624.1 != (-1 : Int))) (QX (k := false) (congrArg Value.bool hb749) rfl) rfl (QB ?_)))))
        exact ⟨⟨rfl, rfl, rfl, rfl, rfl, rfl, rfl, rfl, rfl, rfl, (by first | rfl | (rw [hb749]; rfl) | (simp only [hb749]; rfl)), trivial⟩, rfl⟩
       ·skip
        refine Qh (skF hb749) rfl (Qh (skF hb749) rfl (W_v (.bool true) (QX (k := true) (congrArg Value.bool hb749) rfl) rfl (QB ?_)))
        exact ⟨⟨rfl, rfl, rfl, rfl, rfl, rfl, rfl, rfl, rfl, rfl, (by first | rfl | (rw [hb749]; rfl) | (simp only [hb749]; rfl)), trivial⟩, rfl⟩
      as_aux_lemma =>
      rintro ρ _ ⟨hρ, rfl⟩
      rw [QL hρ]
      refine W_v (.bool (t746 || (t624.1 != (-1 : Int)))) (QC rfl) rfl ?_
      refine ZC 3 (fun ρ w' => Qn ρ [(1, pt b16 0), (2, .slice A10 t8.length c11), (6, pt b620 0), (9, pt b724 0), (10, vI 0), (12, vI t743.2), (56, .slice (some ⟨b50, 0, none⟩) x53.length 3), (57, vI (x53.length : Int)), (58, vI x419), (98, .bool ((t746 || (t624.1 != (-1 : Int))) || (t624.2 != (1 : Int))))] ∧ w748 = w') ?_ ?_
      ·rcases Qq (t746 || (t624.1 != (-1 : Int))) with hb750 | hb750
       ·skip
        refine QT (congrArg some hb750) (W_v (vI t624.2) (QC rfl) rfl (QT (congrArg some hb750) (W_v (.bool (t624.2 != (1 : Int))) (QV rfl rfl rfl rfl) rfl (W_v (.bool (t624.2 != (1 : Int))) (QX (k := false) (congrArg Value.bool hb750) rfl) rfl (QB ?_)))))
        exact ⟨⟨rfl, rfl, rfl, rfl, rfl, rfl, rfl, rfl, rfl, (by first | rfl | (rw [hb750]; rfl) | (simp only [hb750]; rfl)), trivial⟩, rfl⟩
       ·skip
        refine Qh (skF hb750) rfl (Qh (skF hb750) rfl (W_v (.bool true) (QX (k := true) (congrArg Value.bool hb750) rfl) rfl (QB ?_)))
        exact ⟨⟨rfl, rfl, rfl, rfl, rfl, rfl, rfl, rfl, rfl, (by first | rfl | (rw [hb750]; rfl) | (simp only [hb750]; rfl)), trivial⟩, rfl⟩
      as_aux_lemma =>
      rintro ρ _ ⟨hρ, rfl⟩
      rw [QL hρ]
      refine W_v (.bool ((t746 || (t624.1 != (-1 : Int))) || (t624.2 != (1 : Int)))) (QC rfl) rfl ?_
      refine ZC 3 (fun ρ w' => Qn ρ [(1, pt b16 0), (2, .slice A10 t8.length c11), (6, pt b620 0), (10, vI 0), (12, vI t743.2), (56, .slice (some ⟨b50, 0, none⟩) x53.length 3), (57, vI (x53.length : Int)), (58, vI x419), (102, .bool (((t746 || (t624.1 != (-1 : Int))) || (t624.2 != (1 : Int))) || true))] ∧ w748 = w') ?_ ?_
      ·rcases Qq ((t746 || (t624.1 != (-1 : Int))) || (t624.2 != (1 : Int))) with hb751 | hb751
       ·skip
        refine QT (congrArg some hb751) (W_v (pt b724 0) (QC rfl) rfl (QT (congrArg some hb751) (W_v (.bool true) (X3 (r := false) rfl rfl (XH Tryd.underlying39)) rfl (W_v (.bool true) (QX (k := false) (congrArg Value.bool hb751) rfl) rfl (QB ?_)))))
        exact ⟨⟨rfl, rfl, rfl, rfl, rfl, rfl, rfl, rfl, (by first | rfl | (rw [hb751]; rfl) | (simp only [hb751]; rfl)), trivial⟩, rfl⟩
       ·skip
        refine Qh (skF hb751) rfl (Qh (skF hb751) rfl (W_v (.bool true) (QX (k := true) (congrArg Value.bool hb751) rfl) rfl (QB ?_)))
        exact ⟨⟨rfl, rfl, rfl, rfl, rfl, rfl, rfl, rfl, (by first | rfl | (rw [hb751]; rfl) | (simp only [hb751]; rfl)), trivial⟩, rfl⟩
      as_aux_lemma =>
      rintro ρ _ ⟨hρ, rfl⟩
      rw [QL hρ]
      refine W_v (.bool (((t746 || (t624.1 != (-1 : Int))) || (t624.2 != (1 : Int))) || true)) (QC rfl) rfl ?_
      refine ZC 3 (fun ρ w' => Qn ρ [(1, pt b16 0), (2, .slice A10 t8.length c11), (6, pt b620 0), (12, vI t743.2), (56, .slice (some ⟨b50, 0, none⟩) x53.length 3), (57, vI (x53.length : Int)), (58, vI x419), (106, .bool ((((t746 || (t624.1 != (-1 : Int))) || (t624.2 != (1 : Int))) || true) || true))] ∧ w748 = w') ?_ ?_
      ·rcases Qq (((t746 || (t624.1 != (-1 : Int))) || (t624.2 != (1 : Int))) || true) with hb752 | hb752
       ·skip
        refine QT (congrArg some hb752) (W_v (vI 0) (QC rfl) rfl (QT (congrArg some hb752) (W_v (.bool true) (QV rfl rfl rfl rfl) rfl (W_v (.bool true) (QX (k := false) (congrArg Value.bool hb752) rfl) rfl (QB ?_)))))
        exact ⟨⟨rfl, rfl, rfl, rfl, rfl, rfl, rfl, (by first | rfl | (rw [hb752]; rfl) | (simp only [hb752]; rfl)), trivial⟩, rfl⟩
       ·skip
        refine Qh (skF hb752) rfl (Qh (skF hb752) rfl (W_v (.bool true) (QX (k := true) (congrArg Value.bool hb752) rfl) rfl (QB ?_)))
        exact ⟨⟨rfl, rfl, rfl, rfl, rfl, rfl, rfl, (by first | rfl | (rw [hb752]; rfl) | (simp only [hb752]; rfl)), trivial⟩, rfl⟩
      as_aux_lemma =>
      rintro ρ _ ⟨hρ, rfl⟩
      rw [QL hρ]
      refine W_v (.bool ((((t746 || (t624.1 != (-1 : Int))) || (t624.2 != (1 : Int))) || true) || true)) (QC rfl) rfl ?_
      refine ZC 3 (fun ρ w' => Qn ρ [(1, pt b16 0), (2, .slice A10 t8.length c11), (6, pt b620 0), (56, .slice (some ⟨b50, 0, none⟩) x53.length 3), (57, vI (x53.length : Int)), (58, vI x419), (110, .bool (((((t746 || (t624.1 != (-1 : Int))) || (t624.2 != (1 : Int))) || true) || true) || (t743.2 != (1 : Int))))] ∧ w748 = w') ?_ ?_
      ·rcases Qq ((((t746 || (t624.1 != (-1 : Int))) || (t624.2 != (1 : Int))) || true) || true) with hb753 | hb753
       ·skip
        refine QT (congrArg some hb753) (W_v (vI t743.2) (QC rfl) rfl (QT (congrArg some hb753) (W_v (.bool (t743.2 != (1 : Int))) (QV rfl rfl rfl rfl) rfl (W_v (.bool (t743.2 != (1 : Int))) (QX (k := false) (congrArg Value.bool hb753) rfl) rfl (QB ?_)))))
        exact ⟨⟨rfl, rfl, rfl, rfl, rfl, rfl, (by first | rfl | (rw [hb753]; rfl) | (simp only [hb753]; rfl)), trivial⟩, rfl⟩
       ·skip
        refine Qh (skF hb753) rfl (Qh (skF hb753) rfl (W_v (.bool true) (QX (k := true) (congrArg Value.bool hb753) rfl) rfl (QB ?_)))
        exact ⟨⟨rfl, rfl, rfl, rfl, rfl, rfl, (by first | rfl | (rw [hb753]; rfl) | (simp only [hb753]; rfl)), trivial⟩, rfl⟩
      as_aux_lemma =>
      rintro ρ _ ⟨hρ, rfl⟩
      rw [QL hρ]
      refine W_v (.bool (((((t746 || (t624.1 != (-1 : Int))) || (t624.2 != (1 : Int))) || true) || true) || (t743.2 != (1 : Int)))) (QC rfl) rfl ?_
      obtain ⟨o772, o772h, o772H⟩ := QW H
      refine ZC 8 (fun ρ w' => ∃ (x771 : Bool) (Mj : Hp), (x771) = o772 ∧ Qn ρ [(1, pt b16 0), (2, .slice A10 t8.length c11), (56, .slice (some ⟨b50, 0, none⟩) x53.length 3), (57, vI (x53.length : Int)), (58, vI x419), (119, .bool x771)] ∧ M741.le Mj ∧ Ext w w' ∧ St w' Mj F [Row Vt 59 (.slice (some ⟨b50, 0, none⟩) x53.length 3) x53, B23 b16 t5]) ?_ ?_
      ·as_aux_lemma =>
        have H := o772h
        have LE773 := Hp.le_refl M741
        rcases Zw H with ⟨hb770, H⟩ | ⟨hb770, H⟩
        ·skip
         refine Qh (skF hb770) rfl (Qh (skF hb770) rfl (Qh (skF hb770) rfl (Qh (skF hb770) rfl (Qh (skF hb770) rfl (Qh (skF hb770) rfl (Qh (skF hb770) rfl (W_v (.bool true) (QX (k := true) (congrArg Value.bool hb770) rfl) rfl (QB ?_))))))))
         exact ⟨true, M741, Option.some.inj H, ⟨rfl, rfl, rfl, rfl, rfl, rfl, trivial⟩, (Hp.le_refl M741), E, S.pick [6, 7] (by decide)⟩
        ·skip
         refine QT (congrArg some hb770) (W_v (pt b620 0) (QG (o := 0) (off := 0) Tryd.underlying59 rfl ty23 rfl rfl) rfl (QT (congrArg some hb770) (W_v (.agg #[vI ((rd x53 x419).c.Tasks), vI ((rd x53 x419).c.Active), vI ((rd x53 x419).c.Keys), vI ((rd x53 x419).c.Depth), vI ((rd x53 x419).c.TS), vI ((rd x53 x419).c.KeyLen), vI ((rd x53 x419).c.ValLen), vI ((rd x53 x419).c.Fan)]) (Qi (S.blk 5 rfl) ty23 rfl (QI rfl) rfl rfl) rfl (QT (congrArg some hb770) (W_v (pt b620 8) (QG (o := 0) (off := 8) Tryd.underlying59 rfl ty24 rfl rfl) rfl (QT (congrArg some hb770) (W_v (.slice A616 ((rd x53 x419).p).length c617) (QQ (S.blk 5 rfl) ty24 rfl rfl) rfl (QT (congrArg some hb770) ?_))))))))
         obtain ⟨t774, ht775, H⟩ := QW H
         refine ZU fn24 (Zp.con k M741 ((rd x53 x419).c) A616 c617 ((rd x53 x419).p) none 0 ([] : (List QF)) t774 hs618 (SlW.nil _ _) hg0 hg1 ht775) (Γ1 := []) (Γ2 := [_, _, _, _, _, _, _, _]) S rfl rfl ?_
         rintro _ w779 M780 Γ' hM781 E' S ⟨A776, c777, rfl, rfl⟩
         replace HM := Hp.le_trans HM hM781
         replace LE773 := Hp.le_trans LE773 hM781
         replace E := E.trans E'
         refine QT (congrArg some hb770) (W_v (vI (t774.length : Int)) (ZK (n := t774.length) Tryd.underlying62 rfl) rfl (QT (congrArg some hb770) (W_v (.bool ((t774.length : Int) != (0 : Int))) (QV rfl rfl rfl rfl) rfl (W_v (.bool ((t774.length : Int) != (0 : Int))) (QX (k := false) (congrArg Value.bool hb770) rfl) rfl (QB ?_)))))
         exact ⟨((t774.length : Int) != (0 : Int)), M780, Option.some.inj H, ⟨rfl, rfl, rfl, rfl, rfl, rfl, trivial⟩, LE773, E, S.pick [7, 8] (by decide)⟩
      rintro ρ w782 ⟨x771, M783, rfl, hρ, hM784, E, S⟩
      rw [QL hρ]
      replace HM := Hp.le_trans HM hM784
      replace hM604 := Hp.le_trans hM604 hM784
      have H := o772H
      refine QB (tn ?_)
      rcases Zw H with ⟨hb785, H⟩ | ⟨hb785, H⟩
      ·refine QN (congrArg Value.bool hb785) ?_
       refine QE (QA (W_v (.bool false) (QD rfl) rfl (QB (tn ?_))))
       refine QZ ?_
       refine br (tr (tr (br (tr (tr (?_))))))
       obtain rfl := Option.some.inj H
       have H := o601H
       replace H := elimL H
       obtain rfl := Option.some.inj H
       exact ⟨_, _, _, fun w1 e1 => QO (vs := [.bool false]) (FA.cons (rfl) (FA.nil)), HM, E, S.pick [] (by decide), ⟨rfl, rfl⟩⟩
      refine QK (congrArg Value.bool hb785) (Qk (bn (tn (QA (W_v (vI (IntKind.i64.wrap (x419 + (1 : Int)))) (QV rfl rfl rfl rfl) rfl (W_v (vI (IntKind.i64.wrap (x419 + (1 : Int)))) (QC rfl) rfl (QB (tn ?_))))))))
      exact ⟨k, Nat.lt_succ_self k, ⟨(IntKind.i64.wrap (x419 + (1 : Int))), M783, H, ⟨rfl, rfl, rfl, rfl, rfl, trivial⟩, hM604, E, S.pick [0, 1] (by decide)⟩⟩
    refine QK (congrArg Value.bool hb605) ?_
    refine Ys ?_
    refine tx (tx (bsm (?_)))
    refine tn ?_
    exact ⟨M603, Option.some.inj H, ⟨rfl, rfl, trivial⟩, hM604, E, S.pick [1] (by decide)⟩
 rintro ρ w786 ⟨M787, rfl, hρ, hM788, E, S⟩
 rw [QL hρ]
 replace hg0 := gup hg0 hM788
 replace hg1 := gup hg1 hM788
 replace HM := Hp.le_trans HM hM788
 replace hf43 := SlR.mono hf43 hM788
 have H := o601H
 replace H := elimR H
 refine tn ?_
 as_aux_lemma =>
 refine QE (QE ?_)
 have LE830 := Hp.le_refl M787
 refine Qo (S := fun w' => ∃ Mx, M787.le Mx ∧ St w' Mx F [B23 b16 t5]) (L := 10) mixed ?_
 intro w831 hw832 E'
 replace S := S.heap hw832
 replace E := E.trans E'
 refine Wt 0 rfl rfl rfl (.agg #[vI t5.Tasks, vI t5.Active, vI t5.Keys, vI t5.Depth, vI t5.TS, vI t5.KeyLen, vI t5.ValLen, vI t5.Fan]) rfl (fun w' h' => Qi (Qg h' 0 rfl) ty23 rfl (QI rfl) rfl rfl) (⟨M787, Hp.le_refl M787, (S.pick [0] (by decide))⟩) ?_
 refine Wo 1 rfl ?_
 obtain ⟨t833, ht834, H⟩ := QW H
 refine YM fn14 (Yg.con k M787 t5 none 0 ([] : (List (List QU))) t833 (SlW.nil _ _) ht834) S rfl rfl (by rintro _ _ _ ⟨_, rfl⟩; exact Qd) ?_
 rintro _ w835 _ Γ' E' S ⟨rfl, rfl⟩
 replace E := E.trans E'
 refine QB (Zo ⟨.inr ⟨M787, Hp.le_refl M787, (S.pick [0] (by decide))⟩, ?_⟩)
 have D2 : ∃ Mx, Hp.le M787 Mx ∧ St _ Mx F [_] := ⟨_, Hp.le_refl _, S.pick [0] (by decide)⟩
 refine Wt 2 rfl rfl rfl (.bool (!t833)) rfl (fun w' h' => Yy (b := t833) rfl) D2 (Wt 3 rfl rfl rfl (.bool (!t833)) rfl (fun w' h' => QC rfl) D2 ?_)
 obtain ⟨o854, o854h, o854H⟩ := QW H
 refine Yi (fun ρ w' => ∃ (x853 : Bool) (Mj : Hp), (x853) = o854 ∧ Qn ρ [(1, pt b16 0), (2, .slice A10 t8.length c11), (130, .bool x853)] ∧ M787.le Mj ∧ Ext w w' ∧ St w' Mj F [B23 b16 t5]) 0 (Ls 10 [0, 1, 2, 3, 4, 5, 6, 7, 8, 9]) ?_ ?_
 rotate_left
 ·intro hrest
  have H := o854h
  rcases Zw H with ⟨hb852, H⟩ | ⟨hb852, H⟩
  ·skip
   have D3 : ∃ Mx, Hp.le M787 Mx ∧ St _ Mx F [_] := ⟨_, Hp.le_refl _, S.pick [0] (by decide)⟩
   refine WtN 4 rfl rfl rfl rfl (skF hb852) D3 (WtN 5 rfl rfl rfl rfl (skF hb852) D3 (WtN 6 rfl rfl rfl rfl (skF hb852) D3 (WtN 7 rfl rfl rfl rfl (skF hb852) D3 (WtN 8 rfl rfl rfl rfl (skF hb852) D3 (Wt 9 rfl rfl rfl (.bool true) rfl (fun w' h' => QX (k := true) (congrArg Value.bool hb852) rfl) D3 ?_)))))
   exact hrest _ _ ⟨true, M787, Option.some.inj H, ⟨rfl, rfl, rfl, trivial⟩, (Hp.le_refl M787), E, S.pick [0] (by decide)⟩
  ·skip
   refine WtY 4 rfl rfl rfl (.agg #[vI t5.Tasks, vI t5.Active, vI t5.Keys, vI t5.Depth, vI t5.TS, vI t5.KeyLen, vI t5.ValLen, vI t5.Fan]) rfl (congrArg some hb852) (fun w' h' => Qi (Qg h' 0 rfl) ty23 rfl (QI rfl) rfl rfl) (⟨M787, Hp.le_refl M787, (S.pick [0] (by decide))⟩) ?_
   refine Wo 5 rfl ?_
   refine QT (congrArg some hb852) ?_
   obtain ⟨⟨p855, p856, p857, p858⟩, H⟩ := YN H
   refine X7 (r := ZT) S cz22 Tryd.underlying44 ty47 rfl (by decide) (fun _ => rfl) rfl rfl p855 p856 p857 p858 rfl ?_
   intro b859 w860 E' S
   replace E := E.trans E'
   refine QB (Zo ⟨.inr ⟨M787, Hp.le_refl M787, (S.pick [1] (by decide))⟩, ?_⟩)
   refine Wo 6 rfl ?_
   refine QT (congrArg some hb852) ?_
   obtain ⟨M862, hM863, hf864, S⟩ := S.row_freeze 0 rfl
   replace HM := Hp.le_trans HM hM863
   replace LE830 := Hp.le_trans LE830 hM863
   refine Zt S #[.slice (some ⟨b859, 0, none⟩) (List.replicate (64 : Int).toNat cz22).length ((64 : Int).toNat), .slice none 0 0] Tryd.underlying24 ty44 rfl rfl #[.slice none 0 0, .slice none 0 0] (by as_aux_lemma => kernel_rfl) (by as_aux_lemma => kernel_rfl) rfl ?_
   intro b865 w866 E' S
   replace E := E.trans E'
   replace S := S.blk_row (r := (rSl ZT)) (l := ([(List.replicate (64 : Int).toNat cz22), ([] : (List QU))] : List (List QU))) 0 rfl 2 (Nat.le_refl 2) rfl (Cells.cons (vs := [.slice (some ⟨b859, 0, none⟩) (List.replicate (64 : Int).toNat cz22).length ((64 : Int).toNat)]) (⟨_, hf864, rfl⟩) (Cells.cons (vs := [.slice none 0 0]) (⟨_, (SlW.nil _ _), rfl⟩) Cells.nil))
   refine QB (Zo ⟨.inr ⟨M862, LE830, (S.pick [1] (by decide))⟩, ?_⟩)
   refine Wo 7 rfl ?_
   refine QT (congrArg some hb852) ?_
   obtain ⟨t868, ht869, H⟩ := QW H
   refine Xe 1 fn14 (fun h9 hs9 hd9 => Yg.con k _ t5 (some ⟨b865, 0, none⟩) 2 ([(List.replicate (64 : Int).toNat cz22), ([] : (List QU))] : List (List QU)) t868 (Sats.row hs9 hd9 0 rfl) ht869) S rfl rfl (by rintro _ _ _ ⟨_, rfl⟩; exact Qd) ?_
   rintro _ w870 _ Γ' E' S ⟨rfl, rfl⟩
   replace E := E.trans E'
   refine QB (Zo ⟨.inr ⟨M862, LE830, (S.pick [1] (by decide))⟩, ?_⟩)
   refine WtY 8 rfl rfl rfl (.bool (!t868)) rfl (congrArg some hb852) (fun w' h' => Yy (b := t868) rfl) (⟨M862, LE830, (S.pick [1] (by decide))⟩) (Wt 9 rfl rfl rfl (.bool (!t868)) rfl (fun w' h' => QX (k := false) (congrArg Value.bool hb852) rfl) (⟨M862, LE830, (S.pick [1] (by decide))⟩) ?_)
   exact hrest _ _ ⟨(!t868), M862, Option.some.inj H, ⟨rfl, rfl, rfl, trivial⟩, LE830, E, S.pick [1] (by decide)⟩
 rintro ρ w871 ⟨x853, M872, rfl, hρ, hM873, E, S⟩
 rw [QL hρ]
 replace hg0 := gup hg0 hM873
 replace hg1 := gup hg1 hM873
 replace HM := Hp.le_trans HM hM873
 replace hf43 := SlR.mono hf43 hM873
 have H := o854H
 refine Wz ?_
 refine tn ?_
 rcases Zw H with ⟨hb874, H⟩ | ⟨hb874, H⟩
 ·refine QN (congrArg Value.bool hb874) ?_
  refine QE (QA (W_v (.bool false) (QD rfl) rfl (QB (tn ?_))))
  refine QZ ?_
  refine tr (?_)
  obtain rfl := Option.some.inj H
  exact ⟨_, _, _, fun w1 e1 => QO (vs := [.bool false]) (FA.cons (rfl) (FA.nil)), HM, E, S.pick [] (by decide), ⟨rfl, rfl⟩⟩
 refine QK (congrArg Value.bool hb874) (Qk (tn ?_))
 as_aux_lemma =>
 refine QE (QA (W_v (.agg cz17) (Qr (pl := [(0, 1), (1, 1), (2, 1), (3, 1)]) cz17 Tryd.underlying34 ty34 (by as_aux_lemma => kernel_rfl) rfl (by as_aux_lemma => kernel_rfl)) rfl ?_))
 obtain ⟨t875, ht876, H⟩ := QW H
 refine ZU fn25 (Zg.con k M872 none 0 cz11 t875 (SlW.nil _ _) ht876) (Γ1 := []) (Γ2 := [_]) S rfl rfl ?_
 rintro _ w880 M881 Γ' hM882 E' S ⟨A877, c878, rfl, rfl⟩
 replace hg0 := gup hg0 hM882
 replace hg1 := gup hg1 hM882
 replace HM := Hp.le_trans HM hM882
 replace hf43 := SlR.mono hf43 hM882
 replace E := E.trans E'
 refine W_v (.slice A877 t875.length c878) (QD rfl) rfl (QB (tn (QE (QE ?_))))
 obtain ⟨M1780, hM1781, hf1782, S⟩ := S.row_freeze 0 rfl
 replace hg0 := gup hg0 hM1781
 replace hg1 := gup hg1 hM1781
 replace HM := Hp.le_trans HM hM1781
 replace hf43 := SlR.mono hf43 hM1781
 refine Qo (S := fun w' => ∃ Mx, M1780.le Mx ∧ St w' Mx F [B23 b16 t5]) (L := 30) mixed ?_
 intro w2677 hw2678 E'
 replace S := S.heap hw2678
 replace E := E.trans E'
 have hf1782z := hf1782
 have D5 : ∃ Mx, Hp.le M1780 Mx ∧ St _ Mx F [_] := ⟨_, Hp.le_refl _, S.pick [0] (by decide)⟩
 refine Wt 1 rfl rfl rfl (.slice A877 t875.length c878) rfl (fun w' h' => QC rfl) D5 (Wt 3 rfl rfl rfl (.agg cz17) rfl (fun w' h' => Qr (pl := [(0, 1), (1, 1), (2, 1), (3, 1)]) cz17 Tryd.underlying34 ty34 (by as_aux_lemma => kernel_rfl) rfl (by as_aux_lemma => kernel_rfl)) D5 (Wt 8 rfl rfl rfl (.slice A877 t875.length c878) rfl (fun w' h' => QC rfl) D5 ?_))
 obtain ⟨⟨p2679, p2680⟩, H⟩ := YN H
 obtain ⟨A2681, c2682, hs2683, hx2684⟩ := J2 hf1782z p2679 p2680
 refine Wt 9 rfl rfl rfl (.slice A2681 (List.drop (1 : Int).toNat t875).length c2682) rfl (fun w' h' => hx2684 Tryd.underlying25 ty55 rfl rfl) D5 (Wt 10 rfl rfl rfl (.agg #[.slice A2681 (List.drop (1 : Int).toNat t875).length c2682, vI 0]) rfl (fun w' h' => Qr (pl := [(0, 1), (1, 1)]) #[.slice A2681 (List.drop (1 : Int).toNat t875).length c2682, vI 0] Tryd.underlying66 ty66 (by as_aux_lemma => kernel_rfl) rfl (by as_aux_lemma => kernel_rfl)) D5 (Wt 12 rfl rfl rfl (.slice A877 t875.length c878) rfl (fun w' h' => QC rfl) D5 ?_))
 obtain ⟨⟨p2685, p2686⟩, H⟩ := YN H
 obtain ⟨hs2688, hx2689⟩ := J3 hf1782z p2685 p2686
 refine Wt 13 rfl rfl rfl (.slice A877 (List.take (1 : Int).toNat t875).length c878) rfl (fun w' h' => hx2689 Tryd.underlying25 ty55 rfl rfl) D5 (Wt 15 rfl rfl rfl (.slice A877 t875.length c878) rfl (fun w' h' => QC rfl) D5 ?_)
 obtain ⟨⟨p2690, p2691⟩, H⟩ := YN H
 obtain ⟨A2692, c2693, hs2694, hx2695⟩ := J2 hf1782z p2690 p2691
 refine Wt 16 rfl rfl rfl (.slice A2692 (List.drop (2 : Int).toNat t875).length c2693) rfl (fun w' h' => hx2695 Tryd.underlying25 ty55 rfl rfl) D5 (Wt 19 rfl rfl rfl (.agg cz17) rfl (fun w' h' => Qr (pl := [(0, 1), (1, 1), (2, 1), (3, 1)]) cz17 Tryd.underlying34 ty34 (by as_aux_lemma => kernel_rfl) rfl (by as_aux_lemma => kernel_rfl)) D5 (Wt 23 rfl rfl rfl (.agg cz17) rfl (fun w' h' => Qr (pl := [(0, 1), (1, 1), (2, 1), (3, 1)]) cz17 Tryd.underlying34 ty34 (by as_aux_lemma => kernel_rfl) rfl (by as_aux_lemma => kernel_rfl)) D5 (Wt 29 rfl rfl rfl (vI 0) rfl (fun w' h' => QC rfl) D5 ?_)))
 obtain ⟨o3203, o3203h, o3203H⟩ := QW H
 refine Yi (fun ρ w' => ∃ (x2863 : List QF) (x2867 : List QF) (A2864 : Option Addr) (c2865 : Nat) (A2868 : Option Addr) (c2869 : Nat) (Mj : Hp), (x2863, x2867) = o3203 ∧ Qn ρ [(1, pt b16 0), (2, .slice A10 t8.length c11), (13, .slice A877 t875.length c878), (140, .agg #[.slice A2864 x2863.length c2865, vI 12]), (143, .agg #[.slice A2681 (List.drop (1 : Int).toNat t875).length c2682, vI 0]), (144, .slice A2868 x2867.length c2869), (146, .slice A877 (List.take (1 : Int).toNat t875).length c878), (149, .slice A2692 (List.drop (2 : Int).toNat t875).length c2693), (152, .agg cz17), (156, .agg cz17), (162, vI 0)] ∧ M1780.le Mj ∧ Ext w w' ∧ St w' Mj F [Row QJ 55 (.slice A2868 x2867.length c2869) x2867, Row QJ 55 (.slice A2864 x2863.length c2865) x2863, B23 b16 t5]) 11 (Ls 30 [0, 1, 2, 3, 4, 5, 6, 7, 8, 9, 10, 11, 12, 13, 15, 16, 19, 23, 29]) ?_ ?_
 rotate_left
 ·intro hq3215
  refine Yi (fun ρ w' => ∃ (x2855 : List QF) (A2856 : Option Addr) (c2857 : Nat) (Mj : Hp), some (x2855, ([] : List QF)) = some o3203 ∧ Qn ρ [(1, pt b16 0), (2, .slice A10 t8.length c11), (13, .slice A877 t875.length c878), (140, .agg #[.slice A2856 x2855.length c2857, vI 12]), (143, .agg #[.slice A2681 (List.drop (1 : Int).toNat t875).length c2682, vI 0]), (146, .slice A877 (List.take (1 : Int).toNat t875).length c878), (149, .slice A2692 (List.drop (2 : Int).toNat t875).length c2693), (152, .agg cz17), (156, .agg cz17), (162, vI 0)] ∧ M1780.le Mj ∧ Ext w w' ∧ St w' Mj F [Row QJ 55 (.slice A2856 x2855.length c2857) x2855, B23 b16 t5]) 12 (Ls 30 [0, 1, 2, 3, 4, 5, 6, 7, 8, 9, 10, 12, 13, 15, 16, 19, 23, 29]) ?_ ?_
  ·clear o3203h
   rintro ρ w3216 ⟨x2855, A2856, c2857, M3217, H, hρ, hM3218, E, S⟩
   rw [QL hρ]
   replace HM := Hp.le_trans HM hM3218
   refine Wo 11 rfl ?_
   refine Zt S #[] Tryd.underlying25 ty55 rfl rfl #[] (by as_aux_lemma => kernel_rfl) (by as_aux_lemma => kernel_rfl) rfl ?_
   intro b3220 w3221 E' S
   replace E := E.trans E'
   replace S := S.blk_row (r := QJ) (l := ([] : List QF)) 0 rfl 0 (Nat.le_refl 0) rfl Cells.nil
   refine QB (Zo ⟨.inr ⟨M3217, hM3218, (S.pick [2] (by decide))⟩, ?_⟩)
   exact hq3215 _ _ ⟨x2855, ([] : List QF), A2856, c2857, (some ⟨b3220, 0, none⟩), 0, M3217, Option.some.inj H, ⟨rfl, rfl, rfl, rfl, rfl, rfl, rfl, rfl, rfl, rfl, rfl, trivial⟩, hM3218, E, S.pick [0, 1, 2] (by decide)⟩
  intro hq3214
  refine Yi (fun ρ w' => ∃ (x2834 : List QF) (x2838 : List QF) (x2842 : List QF) (A2835 : Option Addr) (c2836 : Nat) (A2839 : Option Addr) (c2840 : Nat) (A2843 : Option Addr) (c2844 : Nat) (Mj : Hp), (if x2834.length + x2838.length ≤ 1759218604441 then some ((x2834 ++ x2838), x2842) else none) = some o3203 ∧ Qn ρ [(1, pt b16 0), (2, .slice A10 t8.length c11), (13, .slice A877 t875.length c878), (135, .slice A2835 x2834.length c2836), (138, .slice A2839 x2838.length c2840), (143, .agg #[.slice A2681 (List.drop (1 : Int).toNat t875).length c2682, vI 0]), (144, .slice A2843 x2842.length c2844), (146, .slice A877 (List.take (1 : Int).toNat t875).length c878), (149, .slice A2692 (List.drop (2 : Int).toNat t875).length c2693), (152, .agg cz17), (156, .agg cz17), (162, vI 0)] ∧ M1780.le Mj ∧ Ext w w' ∧ St w' Mj F [Row QJ 55 (.slice A2843 x2842.length c2844) x2842, Row QJ 55 (.slice A2839 x2838.length c2840) x2838, Row QJ 55 (.slice A2835 x2834.length c2836) x2834, B23 b16 t5]) 13 (Ls 30 [0, 1, 2, 3, 4, 5, 8, 9, 10, 11, 12, 13, 15, 16, 19, 23, 29]) ?_ ?_
  ·clear o3203h
   rintro ρ w3223 ⟨x2834, x2838, x2842, A2835, c2836, A2839, c2840, A2843, c2844, M3224, H, hρ, hM3225, E, S⟩
   rw [QL hρ]
   replace HM := Hp.le_trans HM hM3225
   refine Wo 6 rfl ?_
   obtain ⟨p3227, H⟩ := YN H
   obtain ⟨src3228, hs3229, hC3230⟩ := Zx (P := Tryd.prog) (ρ := QJ) (l := x2838) (S.row_read 1 rfl) (by decide)
   refine Yn S 2 rfl rfl rfl Tryd.underlying25 (.inl Tryd.underlying25) ty55 rfl (by decide) (by decide) hs3229 hC3230 rfl (by omega) rfl ?_
   intro v3231 w3232 E' S
   replace E := E.trans E'
   obtain ⟨A3233, c3234, rfl, _⟩ := (S.row_read 2 rfl).form
   refine QB (Zo ⟨.inr ⟨M3224, hM3225, (S.pick [3] (by decide))⟩, ?_⟩)
   refine Wt 7 rfl rfl rfl (.agg #[.slice A3233 (x2834 ++ x2838).length c3234, vI 12]) rfl (fun w' h' => Qr (pl := [(0, 1), (1, 1)]) #[.slice A3233 (x2834 ++ x2838).length c3234, vI 12] Tryd.underlying66 ty66 (by as_aux_lemma => kernel_rfl) rfl (by as_aux_lemma => kernel_rfl)) (⟨M3224, hM3225, (S.pick [3] (by decide))⟩) ?_
   exact hq3215 _ _ ⟨(x2834 ++ x2838), x2842, A3233, c3234, A2843, c2844, M3224, Option.some.inj H, ⟨rfl, rfl, rfl, rfl, rfl, rfl, rfl, rfl, rfl, rfl, rfl, trivial⟩, hM3225, E, S.pick [0, 2, 3] (by decide)⟩
  intro hq3213
  refine Yi (fun ρ w' => ∃ (x2812 : List QF) (x2816 : Int) (x2817 : Int) (x2818 : Int) (x2819 : Int) (x2820 : Bool) (x2821 : Str) (x2822 : List Qu) (x2826 : List QF) (A2813 : Option Addr) (c2814 : Nat) (A2823 : Option Addr) (c2824 : Nat) (A2827 : Option Addr) (c2828 : Nat) (Mj : Hp), (if x2812.length + ([(⟨x2816, x2817, x2818, ⟨x2819, x2820, x2821, x2822⟩⟩ : QF)] : List QF).length ≤ 1759218604441 then some ((x2812 ++ ([(⟨x2816, x2817, x2818, ⟨x2819, x2820, x2821, x2822⟩⟩ : QF)] : List QF)), x2826) else none) = some o3203 ∧ Qn ρ [(1, pt b16 0), (2, .slice A10 t8.length c11), (13, .slice A877 t875.length c878), (135, .slice A2813 x2812.length c2814), (137, .agg #[vU x2816, vI x2817, vI x2818, vI x2819, .bool x2820, vS x2821, .slice A2823 x2822.length c2824]), (143, .agg #[.slice A2681 (List.drop (1 : Int).toNat t875).length c2682, vI 0]), (144, .slice A2827 x2826.length c2828), (146, .slice A877 (List.take (1 : Int).toNat t875).length c878), (149, .slice A2692 (List.drop (2 : Int).toNat t875).length c2693), (152, .agg cz17), (156, .agg cz17), (162, vI 0)] ∧ M1780.le Mj ∧ Ext w w' ∧ St w' Mj F [Row QJ 55 (.slice A2827 x2826.length c2828) x2826, Row QJ 55 (.slice A2813 x2812.length c2814) x2812, B23 b16 t5] ∧ SlR Qt Mj (.slice A2823 x2822.length c2824) x2822) 14 (Ls 30 [0, 1, 2, 3, 4, 8, 9, 10, 11, 12, 13, 15, 16, 19, 23, 29]) ?_ ?_
  ·clear o3203h
   rintro ρ w3235 ⟨x2812, x2816, x2817, x2818, x2819, x2820, x2821, x2822, x2826, A2813, c2814, A2823, c2824, A2827, c2828, M3236, H, hρ, hM3237, E, S, hs2825⟩
   rw [QL hρ]
   replace HM := Hp.le_trans HM hM3237
   refine Wo 5 rfl ?_
   refine Zt S #[vU x2816, vI x2817, vI x2818, vI x2819, .bool x2820, vS x2821, .slice A2823 x2822.length c2824] Tryd.underlying25 ty55 rfl rfl cz8 (by as_aux_lemma => kernel_rfl) (by as_aux_lemma => kernel_rfl) rfl ?_
   intro b3239 w3240 E' S
   replace E := E.trans E'
   replace S := S.blk_row (r := QJ) (l := ([(⟨x2816, x2817, x2818, ⟨x2819, x2820, x2821, x2822⟩⟩ : QF)] : List QF)) 0 rfl 1 (Nat.le_refl 1) rfl (Cells.cons (vs := [vU x2816, vI x2817, vI x2818, vI x2819, .bool x2820, vS x2821, .slice A2823 x2822.length c2824]) (⟨_, hs2825, rfl⟩) Cells.nil)
   refine QB (Zo ⟨.inr ⟨M3236, hM3237, (S.pick [3] (by decide))⟩, ?_⟩)
   exact hq3213 _ _ ⟨x2812, ([(⟨x2816, x2817, x2818, ⟨x2819, x2820, x2821, x2822⟩⟩ : QF)] : List QF), x2826, A2813, c2814, (some ⟨b3239, 0, none⟩), 1, A2827, c2828, M3236, H, ⟨rfl, rfl, rfl, rfl, rfl, rfl, rfl, rfl, rfl, rfl, rfl, rfl, trivial⟩, hM3237, E, S.pick [1, 0, 2, 3] (by decide)⟩
  intro hq3212
  refine Yi (fun ρ w' => ∃ (x2792 : List QF) (x2796 : List QF) (A2793 : Option Addr) (c2794 : Nat) (A2797 : Option Addr) (c2798 : Nat) (Mj : Hp), (if x2792.length + x2796.length ≤ 1759218604441 then some ((x2792 ++ x2796), ([] : List QF)) else none) = some o3203 ∧ Qn ρ [(1, pt b16 0), (2, .slice A10 t8.length c11), (13, .slice A877 t875.length c878), (135, .slice A2793 x2792.length c2794), (138, .slice A2797 x2796.length c2798), (143, .agg #[.slice A2681 (List.drop (1 : Int).toNat t875).length c2682, vI 0]), (146, .slice A877 (List.take (1 : Int).toNat t875).length c878), (149, .slice A2692 (List.drop (2 : Int).toNat t875).length c2693), (152, .agg cz17), (156, .agg cz17), (162, vI 0)] ∧ M1780.le Mj ∧ Ext w w' ∧ St w' Mj F [Row QJ 55 (.slice A2797 x2796.length c2798) x2796, Row QJ 55 (.slice A2793 x2792.length c2794) x2792, B23 b16 t5]) 14 (Ls 30 [0, 1, 2, 3, 4, 5, 8, 9, 10, 12, 13, 15, 16, 19, 23, 29]) ?_ ?_
  ·clear o3203h
   rintro ρ w3242 ⟨x2792, x2796, A2793, c2794, A2797, c2798, M3243, H, hρ, hM3244, E, S⟩
   rw [QL hρ]
   replace HM := Hp.le_trans HM hM3244
   refine Xl (rs := [6, 11]) (by kernel_rfl) (by decide) ?_
   simp only [List.forall_mem_cons, List.not_mem_nil, false_implies, implies_true, and_true]
   refine ⟨?_, ?_⟩
   ·refine ⟨_, rfl, ?_⟩
    obtain ⟨p3246, H⟩ := YN H
    obtain ⟨src3247, hs3248, hC3249⟩ := Zx (P := Tryd.prog) (ρ := QJ) (l := x2796) (S.row_read 0 rfl) (by decide)
    refine Yn S 1 rfl rfl rfl Tryd.underlying25 (.inl Tryd.underlying25) ty55 rfl (by decide) (by decide) hs3248 hC3249 rfl (by omega) rfl ?_
    intro v3250 w3251 E' S
    replace E := E.trans E'
    obtain ⟨A3252, c3253, rfl, _⟩ := (S.row_read 1 rfl).form
    refine QB (Zo ⟨.inr ⟨M3243, hM3244, (S.pick [2] (by decide))⟩, ?_⟩)
    refine Wt 7 rfl rfl rfl (.agg #[.slice A3252 (x2792 ++ x2796).length c3253, vI 12]) rfl (fun w' h' => Qr (pl := [(0, 1), (1, 1)]) #[.slice A3252 (x2792 ++ x2796).length c3253, vI 12] Tryd.underlying66 ty66 (by as_aux_lemma => kernel_rfl) rfl (by as_aux_lemma => kernel_rfl)) (⟨M3243, hM3244, (S.pick [2] (by decide))⟩) ?_
    exact hq3214 _ _ ⟨(x2792 ++ x2796), A3252, c3253, M3243, H, ⟨rfl, rfl, rfl, rfl, rfl, rfl, rfl, rfl, rfl, rfl, trivial⟩, hM3244, E, S.pick [1, 2] (by decide)⟩
   ·refine ⟨_, rfl, ?_⟩
    refine Zt S #[] Tryd.underlying25 ty55 rfl rfl #[] (by as_aux_lemma => kernel_rfl) (by as_aux_lemma => kernel_rfl) rfl ?_
    intro b3254 w3255 E' S
    replace E := E.trans E'
    replace S := S.blk_row (r := QJ) (l := ([] : List QF)) 0 rfl 0 (Nat.le_refl 0) rfl Cells.nil
    refine QB (Zo ⟨.inr ⟨M3243, hM3244, (S.pick [3] (by decide))⟩, ?_⟩)
    exact hq3213 _ _ ⟨x2792, x2796, ([] : List QF), A2793, c2794, A2797, c2798, (some ⟨b3254, 0, none⟩), 0, M3243, H, ⟨rfl, rfl, rfl, rfl, rfl, rfl, rfl, rfl, rfl, rfl, rfl, rfl, trivial⟩, hM3244, E, S.pick [0, 1, 2, 3] (by decide)⟩
  intro hq3211
  refine Yi (fun ρ w' => ∃ (x2776 : List QF) (x2780 : List QF) (A2777 : Option Addr) (c2778 : Nat) (A2781 : Option Addr) (c2782 : Nat) (Mj : Hp), (Option.bind (Qf k (1 : Int) (0 : Int) (2 : Int) cz11) (fun t3135 => (if x2776.length + ([t3135] : List QF).length ≤ 1759218604441 then some ((x2776 ++ ([t3135] : List QF)), x2780) else none))) = some o3203 ∧ Qn ρ [(1, pt b16 0), (2, .slice A10 t8.length c11), (13, .slice A877 t875.length c878), (135, .slice A2777 x2776.length c2778), (136, .agg cz17), (143, .agg #[.slice A2681 (List.drop (1 : Int).toNat t875).length c2682, vI 0]), (144, .slice A2781 x2780.length c2782), (146, .slice A877 (List.take (1 : Int).toNat t875).length c878), (149, .slice A2692 (List.drop (2 : Int).toNat t875).length c2693), (152, .agg cz17), (156, .agg cz17), (162, vI 0)] ∧ M1780.le Mj ∧ Ext w w' ∧ St w' Mj F [Row QJ 55 (.slice A2781 x2780.length c2782) x2780, Row QJ 55 (.slice A2777 x2776.length c2778) x2776, B23 b16 t5]) 15 (Ls 30 [0, 1, 2, 3, 8, 9, 10, 11, 12, 13, 15, 16, 19, 23, 29]) ?_ ?_
  ·clear o3203h
   rintro ρ w3257 ⟨x2776, x2780, A2777, c2778, A2781, c2782, M3258, H, hρ, hM3259, E, S⟩
   rw [QL hρ]
   replace HM := Hp.le_trans HM hM3259
   refine Wo 4 rfl ?_
   obtain ⟨t3261, ht3262, H⟩ := QW H
   refine ZU fn26 (Qf.con k M3258 (1 : Int) (0 : Int) (2 : Int) none 0 cz11 t3261 (SlW.nil _ _) ht3262) (Γ1 := []) (Γ2 := [_, _, _]) S rfl rfl ?_
   rintro _ w3266 M3267 Γ' hM3268 E' S ⟨A3263, c3264, rfl, hs3265, rfl⟩
   replace HM := Hp.le_trans HM hM3268
   replace hM3259 := Hp.le_trans hM3259 hM3268
   replace E := E.trans E'
   refine QB (Zo ⟨.inr ⟨M3267, hM3259, (S.pick [2] (by decide))⟩, ?_⟩)
   exact hq3212 _ _ ⟨x2776, t3261.What, t3261.Task, t3261.Call, t3261.Answer.Err, t3261.Answer.Found, t3261.Answer.Value, t3261.Answer.Pairs, x2780, A2777, c2778, A3263, c3264, A2781, c2782, M3267, H, ⟨rfl, rfl, rfl, rfl, rfl, rfl, rfl, rfl, rfl, rfl, rfl, rfl, trivial⟩, hM3259, E, S.pick [0, 1, 2] (by decide), hs3265⟩
  intro hq3210
  refine Yi (fun ρ w' => ∃ (x2755 : List QF) (x2759 : Int) (x2760 : Int) (x2761 : Int) (x2762 : Int) (x2763 : Bool) (x2764 : Str) (x2765 : List Qu) (A2756 : Option Addr) (c2757 : Nat) (A2766 : Option Addr) (c2767 : Nat) (Mj : Hp), (if x2755.length + ([(⟨x2759, x2760, x2761, ⟨x2762, x2763, x2764, x2765⟩⟩ : QF)] : List QF).length ≤ 1759218604441 then some ((x2755 ++ ([(⟨x2759, x2760, x2761, ⟨x2762, x2763, x2764, x2765⟩⟩ : QF)] : List QF)), ([] : List QF)) else none) = some o3203 ∧ Qn ρ [(1, pt b16 0), (2, .slice A10 t8.length c11), (13, .slice A877 t875.length c878), (135, .slice A2756 x2755.length c2757), (137, .agg #[vU x2759, vI x2760, vI x2761, vI x2762, .bool x2763, vS x2764, .slice A2766 x2765.length c2767]), (143, .agg #[.slice A2681 (List.drop (1 : Int).toNat t875).length c2682, vI 0]), (146, .slice A877 (List.take (1 : Int).toNat t875).length c878), (149, .slice A2692 (List.drop (2 : Int).toNat t875).length c2693), (152, .agg cz17), (156, .agg cz17), (162, vI 0)] ∧ M1780.le Mj ∧ Ext w w' ∧ St w' Mj F [Row QJ 55 (.slice A2756 x2755.length c2757) x2755, B23 b16 t5] ∧ SlR Qt Mj (.slice A2766 x2765.length c2767) x2765) 15 (Ls 30 [0, 1, 2, 3, 4, 8, 9, 10, 12, 13, 15, 16, 19, 23, 29]) ?_ ?_
  ·clear o3203h
   rintro ρ w3269 ⟨x2755, x2759, x2760, x2761, x2762, x2763, x2764, x2765, A2756, c2757, A2766, c2767, M3270, H, hρ, hM3271, E, S, hs2768⟩
   rw [QL hρ]
   replace HM := Hp.le_trans HM hM3271
   refine Xl (rs := [5, 11]) (by kernel_rfl) (by decide) ?_
   simp only [List.forall_mem_cons, List.not_mem_nil, false_implies, implies_true, and_true]
   refine ⟨?_, ?_⟩
   ·refine ⟨_, rfl, ?_⟩
    refine Zt S #[vU x2759, vI x2760, vI x2761, vI x2762, .bool x2763, vS x2764, .slice A2766 x2765.length c2767] Tryd.underlying25 ty55 rfl rfl cz8 (by as_aux_lemma => kernel_rfl) (by as_aux_lemma => kernel_rfl) rfl ?_
    intro b3273 w3274 E' S
    replace E := E.trans E'
    replace S := S.blk_row (r := QJ) (l := ([(⟨x2759, x2760, x2761, ⟨x2762, x2763, x2764, x2765⟩⟩ : QF)] : List QF)) 0 rfl 1 (Nat.le_refl 1) rfl (Cells.cons (vs := [vU x2759, vI x2760, vI x2761, vI x2762, .bool x2763, vS x2764, .slice A2766 x2765.length c2767]) (⟨_, hs2768, rfl⟩) Cells.nil)
    refine QB (Zo ⟨.inr ⟨M3270, hM3271, (S.pick [2] (by decide))⟩, ?_⟩)
    exact hq3211 _ _ ⟨x2755, ([(⟨x2759, x2760, x2761, ⟨x2762, x2763, x2764, x2765⟩⟩ : QF)] : List QF), A2756, c2757, (some ⟨b3273, 0, none⟩), 1, M3270, H, ⟨rfl, rfl, rfl, rfl, rfl, rfl, rfl, rfl, rfl, rfl, rfl, trivial⟩, hM3271, E, S.pick [0, 1, 2] (by decide)⟩
   ·refine ⟨_, rfl, ?_⟩
    refine Zt S #[] Tryd.underlying25 ty55 rfl rfl #[] (by as_aux_lemma => kernel_rfl) (by as_aux_lemma => kernel_rfl) rfl ?_
    intro b3276 w3277 E' S
    replace E := E.trans E'
    replace S := S.blk_row (r := QJ) (l := ([] : List QF)) 0 rfl 0 (Nat.le_refl 0) rfl Cells.nil
    refine QB (Zo ⟨.inr ⟨M3270, hM3271, (S.pick [2] (by decide))⟩, ?_⟩)
    exact hq3212 _ _ ⟨x2755, x2759, x2760, x2761, x2762, x2763, x2764, x2765, ([] : List QF), A2756, c2757, A2766, c2767, (some ⟨b3276, 0, none⟩), 0, M3270, H, ⟨rfl, rfl, rfl, rfl, rfl, rfl, rfl, rfl, rfl, rfl, rfl, rfl, trivial⟩, hM3271, E, S.pick [0, 1, 2] (by decide), hs2768⟩
  intro hq3209
  refine Yi (fun ρ w' => ∃ (x2739 : List QF) (x2743 : List QF) (A2740 : Option Addr) (c2741 : Nat) (A2744 : Option Addr) (c2745 : Nat) (Mj : Hp), (if x2739.length + t875.length ≤ 1759218604441 then (Option.bind (Qf k (1 : Int) (0 : Int) (2 : Int) cz11) (fun t3085 => (if (x2739 ++ t875).length + ([t3085] : List QF).length ≤ 1759218604441 then some (((x2739 ++ t875) ++ ([t3085] : List QF)), x2743) else none))) else none) = some o3203 ∧ Qn ρ [(1, pt b16 0), (2, .slice A10 t8.length c11), (13, .slice A877 t875.length c878), (133, .slice A2740 x2739.length c2741), (134, .slice A877 t875.length c878), (136, .agg cz17), (143, .agg #[.slice A2681 (List.drop (1 : Int).toNat t875).length c2682, vI 0]), (144, .slice A2744 x2743.length c2745), (146, .slice A877 (List.take (1 : Int).toNat t875).length c878), (149, .slice A2692 (List.drop (2 : Int).toNat t875).length c2693), (152, .agg cz17), (156, .agg cz17), (162, vI 0)] ∧ M1780.le Mj ∧ Ext w w' ∧ St w' Mj F [Row QJ 55 (.slice A2744 x2743.length c2745) x2743, Row QJ 55 (.slice A2740 x2739.length c2741) x2739, B23 b16 t5]) 16 (Ls 30 [0, 1, 3, 8, 9, 10, 11, 12, 13, 15, 16, 19, 23, 29]) ?_ ?_
  ·clear o3203h
   rintro ρ w3279 ⟨x2739, x2743, A2740, c2741, A2744, c2745, M3280, H, hρ, hM3281, E, S⟩
   rw [QL hρ]
   replace HM := Hp.le_trans HM hM3281
   replace hf1782 := SlR.mono hf1782 hM3281
   refine Wo 2 rfl ?_
   obtain ⟨p3283, H⟩ := YN H
   obtain ⟨src3284, hs3285, hC3286⟩ := Zx (P := Tryd.prog) (ρ := QJ) (l := t875) (SlR.world hf1782 S) (by decide)
   refine Yn S 1 rfl rfl rfl Tryd.underlying25 (.inl Tryd.underlying25) ty55 rfl (by decide) (by decide) hs3285 hC3286 rfl (by omega) rfl ?_
   intro v3287 w3288 E' S
   replace E := E.trans E'
   obtain ⟨A3289, c3290, rfl, _⟩ := (S.row_read 1 rfl).form
   refine QB (Zo ⟨.inr ⟨M3280, hM3281, (S.pick [2] (by decide))⟩, ?_⟩)
   exact hq3210 _ _ ⟨(x2739 ++ t875), x2743, A3289, c3290, A2744, c2745, M3280, H, ⟨rfl, rfl, rfl, rfl, rfl, rfl, rfl, rfl, rfl, rfl, rfl, rfl, trivial⟩, hM3281, E, S.pick [0, 1, 2] (by decide)⟩
  intro hq3208
  refine Yi (fun ρ w' => ∃ (x2724 : List QF) (A2725 : Option Addr) (c2726 : Nat) (Mj : Hp), (Option.bind (Qf k (1 : Int) (0 : Int) (2 : Int) cz11) (fun t3031 => (if x2724.length + ([t3031] : List QF).length ≤ 1759218604441 then some ((x2724 ++ ([t3031] : List QF)), ([] : List QF)) else none))) = some o3203 ∧ Qn ρ [(1, pt b16 0), (2, .slice A10 t8.length c11), (13, .slice A877 t875.length c878), (135, .slice A2725 x2724.length c2726), (136, .agg cz17), (143, .agg #[.slice A2681 (List.drop (1 : Int).toNat t875).length c2682, vI 0]), (146, .slice A877 (List.take (1 : Int).toNat t875).length c878), (149, .slice A2692 (List.drop (2 : Int).toNat t875).length c2693), (152, .agg cz17), (156, .agg cz17), (162, vI 0)] ∧ M1780.le Mj ∧ Ext w w' ∧ St w' Mj F [Row QJ 55 (.slice A2725 x2724.length c2726) x2724, B23 b16 t5]) 16 (Ls 30 [0, 1, 2, 3, 8, 9, 10, 12, 13, 15, 16, 19, 23, 29]) ?_ ?_
  ·clear o3203h
   rintro ρ w3291 ⟨x2724, A2725, c2726, M3292, H, hρ, hM3293, E, S⟩
   rw [QL hρ]
   replace HM := Hp.le_trans HM hM3293
   refine Xl (rs := [4, 11]) (by kernel_rfl) (by decide) ?_
   simp only [List.forall_mem_cons, List.not_mem_nil, false_implies, implies_true, and_true]
   refine ⟨?_, ?_⟩
   ·refine ⟨_, rfl, ?_⟩
    obtain ⟨t3295, ht3296, H⟩ := QW H
    refine ZU fn26 (Qf.con k M3292 (1 : Int) (0 : Int) (2 : Int) none 0 cz11 t3295 (SlW.nil _ _) ht3296) (Γ1 := []) (Γ2 := [_, _]) S rfl rfl ?_
    rintro _ w3300 M3301 Γ' hM3302 E' S ⟨A3297, c3298, rfl, hs3299, rfl⟩
    replace HM := Hp.le_trans HM hM3302
    replace hM3293 := Hp.le_trans hM3293 hM3302
    replace E := E.trans E'
    refine QB (Zo ⟨.inr ⟨M3301, hM3293, (S.pick [1] (by decide))⟩, ?_⟩)
    exact hq3209 _ _ ⟨x2724, t3295.What, t3295.Task, t3295.Call, t3295.Answer.Err, t3295.Answer.Found, t3295.Answer.Value, t3295.Answer.Pairs, A2725, c2726, A3297, c3298, M3301, H, ⟨rfl, rfl, rfl, rfl, rfl, rfl, rfl, rfl, rfl, rfl, rfl, trivial⟩, hM3293, E, S.pick [0, 1] (by decide), hs3299⟩
   ·refine ⟨_, rfl, ?_⟩
    replace H : (Option.bind (Qf k (1 : Int) (0 : Int) (2 : Int) cz11) (fun t3057 => (if x2724.length + ([t3057] : List QF).length ≤ 1759218604441 then some ((x2724 ++ ([t3057] : List QF)), ([] : List QF)) else none))) = some o3203 := by first | exact H | ((repeat' split at H) <;> (try contradiction) <;> (repeat' split) <;> first | exact H | contradiction)
    refine Zt S #[] Tryd.underlying25 ty55 rfl rfl #[] (by as_aux_lemma => kernel_rfl) (by as_aux_lemma => kernel_rfl) rfl ?_
    intro b3303 w3304 E' S
    replace E := E.trans E'
    replace S := S.blk_row (r := QJ) (l := ([] : List QF)) 0 rfl 0 (Nat.le_refl 0) rfl Cells.nil
    refine QB (Zo ⟨.inr ⟨M3292, hM3293, (S.pick [2] (by decide))⟩, ?_⟩)
    exact hq3210 _ _ ⟨x2724, ([] : List QF), A2725, c2726, (some ⟨b3303, 0, none⟩), 0, M3292, H, ⟨rfl, rfl, rfl, rfl, rfl, rfl, rfl, rfl, rfl, rfl, rfl, rfl, trivial⟩, hM3293, E, S.pick [0, 1, 2] (by decide)⟩
  intro hq3207
  refine Yi (fun ρ w' => ∃ (x2717 : List QF) (A2718 : Option Addr) (c2719 : Nat) (Mj : Hp), (if ([] : List QF).length + t875.length ≤ 1759218604441 then (Option.bind (Qf k (1 : Int) (0 : Int) (2 : Int) cz11) (fun t3011 => (if (([] : List QF) ++ t875).length + ([t3011] : List QF).length ≤ 1759218604441 then some (((([] : List QF) ++ t875) ++ ([t3011] : List QF)), x2717) else none))) else none) = some o3203 ∧ Qn ρ [(1, pt b16 0), (2, .slice A10 t8.length c11), (13, .slice A877 t875.length c878), (134, .slice A877 t875.length c878), (136, .agg cz17), (143, .agg #[.slice A2681 (List.drop (1 : Int).toNat t875).length c2682, vI 0]), (144, .slice A2718 x2717.length c2719), (146, .slice A877 (List.take (1 : Int).toNat t875).length c878), (149, .slice A2692 (List.drop (2 : Int).toNat t875).length c2693), (152, .agg cz17), (156, .agg cz17), (162, vI 0)] ∧ M1780.le Mj ∧ Ext w w' ∧ St w' Mj F [Row QJ 55 (.slice A2718 x2717.length c2719) x2717, B23 b16 t5]) 17 (Ls 30 [1, 3, 8, 9, 10, 11, 12, 13, 15, 16, 19, 23, 29]) ?_ ?_
  ·clear o3203h
   rintro ρ w3306 ⟨x2717, A2718, c2719, M3307, H, hρ, hM3308, E, S⟩
   rw [QL hρ]
   replace HM := Hp.le_trans HM hM3308
   refine Wo 0 rfl ?_
   refine Zt S #[] Tryd.underlying25 ty55 rfl rfl #[] (by as_aux_lemma => kernel_rfl) (by as_aux_lemma => kernel_rfl) rfl ?_
   intro b3310 w3311 E' S
   replace E := E.trans E'
   replace S := S.blk_row (r := QJ) (l := ([] : List QF)) 0 rfl 0 (Nat.le_refl 0) rfl Cells.nil
   refine QB (Zo ⟨.inr ⟨M3307, hM3308, (S.pick [2] (by decide))⟩, ?_⟩)
   exact hq3208 _ _ ⟨([] : List QF), x2717, (some ⟨b3310, 0, none⟩), 0, A2718, c2719, M3307, H, ⟨rfl, rfl, rfl, rfl, rfl, rfl, rfl, rfl, rfl, rfl, rfl, rfl, rfl, trivial⟩, hM3308, E, S.pick [1, 0, 2] (by decide)⟩
  intro hq3206
  refine Yi (fun ρ w' => ∃ (x2702 : List QF) (A2703 : Option Addr) (c2704 : Nat) (Mj : Hp), (if x2702.length + t875.length ≤ 1759218604441 then (Option.bind (Qf k (1 : Int) (0 : Int) (2 : Int) cz11) (fun t2946 => (if (x2702 ++ t875).length + ([t2946] : List QF).length ≤ 1759218604441 then some (((x2702 ++ t875) ++ ([t2946] : List QF)), ([] : List QF)) else none))) else none) = some o3203 ∧ Qn ρ [(1, pt b16 0), (2, .slice A10 t8.length c11), (13, .slice A877 t875.length c878), (133, .slice A2703 x2702.length c2704), (134, .slice A877 t875.length c878), (136, .agg cz17), (143, .agg #[.slice A2681 (List.drop (1 : Int).toNat t875).length c2682, vI 0]), (146, .slice A877 (List.take (1 : Int).toNat t875).length c878), (149, .slice A2692 (List.drop (2 : Int).toNat t875).length c2693), (152, .agg cz17), (156, .agg cz17), (162, vI 0)] ∧ M1780.le Mj ∧ Ext w w' ∧ St w' Mj F [Row QJ 55 (.slice A2703 x2702.length c2704) x2702, B23 b16 t5]) 17 (Ls 30 [0, 1, 3, 8, 9, 10, 12, 13, 15, 16, 19, 23, 29]) ?_ ?_
  ·clear o3203h
   rintro ρ w3313 ⟨x2702, A2703, c2704, M3314, H, hρ, hM3315, E, S⟩
   rw [QL hρ]
   replace HM := Hp.le_trans HM hM3315
   replace hf1782 := SlR.mono hf1782 hM3315
   refine Xl (rs := [2, 11]) (by kernel_rfl) (by decide) ?_
   simp only [List.forall_mem_cons, List.not_mem_nil, false_implies, implies_true, and_true]
   refine ⟨?_, ?_⟩
   ·refine ⟨_, rfl, ?_⟩
    obtain ⟨p3317, H⟩ := YN H
    obtain ⟨src3318, hs3319, hC3320⟩ := Zx (P := Tryd.prog) (ρ := QJ) (l := t875) (SlR.world hf1782 S) (by decide)
    refine Yn S 0 rfl rfl rfl Tryd.underlying25 (.inl Tryd.underlying25) ty55 rfl (by decide) (by decide) hs3319 hC3320 rfl (by omega) rfl ?_
    intro v3321 w3322 E' S
    replace E := E.trans E'
    obtain ⟨A3323, c3324, rfl, _⟩ := (S.row_read 0 rfl).form
    refine QB (Zo ⟨.inr ⟨M3314, hM3315, (S.pick [1] (by decide))⟩, ?_⟩)
    exact hq3207 _ _ ⟨(x2702 ++ t875), A3323, c3324, M3314, H, ⟨rfl, rfl, rfl, rfl, rfl, rfl, rfl, rfl, rfl, rfl, rfl, trivial⟩, hM3315, E, S.pick [0, 1] (by decide)⟩
   ·refine ⟨_, rfl, ?_⟩
    replace H : (if x2702.length + t875.length ≤ 1759218604441 then (Option.bind (Qf k (1 : Int) (0 : Int) (2 : Int) cz11) (fun t2980 => (if (x2702 ++ t875).length + ([t2980] : List QF).length ≤ 1759218604441 then some (((x2702 ++ t875) ++ ([t2980] : List QF)), ([] : List QF)) else none))) else none) = some o3203 := by first | exact H | ((repeat' split at H) <;> (try contradiction) <;> (repeat' split) <;> first | exact H | contradiction)
    refine Zt S #[] Tryd.underlying25 ty55 rfl rfl #[] (by as_aux_lemma => kernel_rfl) (by as_aux_lemma => kernel_rfl) rfl ?_
    intro b3325 w3326 E' S
    replace E := E.trans E'
    replace S := S.blk_row (r := QJ) (l := ([] : List QF)) 0 rfl 0 (Nat.le_refl 0) rfl Cells.nil
    refine QB (Zo ⟨.inr ⟨M3314, hM3315, (S.pick [2] (by decide))⟩, ?_⟩)
    exact hq3208 _ _ ⟨x2702, ([] : List QF), A2703, c2704, (some ⟨b3325, 0, none⟩), 0, M3314, H, ⟨rfl, rfl, rfl, rfl, rfl, rfl, rfl, rfl, rfl, rfl, rfl, rfl, rfl, trivial⟩, hM3315, E, S.pick [0, 1, 2] (by decide)⟩
  intro hq3205
  have H := o3203h
  refine Xl (rs := [0, 11]) (by kernel_rfl) (by decide) ?_
  simp only [List.forall_mem_cons, List.not_mem_nil, false_implies, implies_true, and_true]
  refine ⟨?_, ?_⟩
  ·refine ⟨_, rfl, ?_⟩
   refine Zt S #[] Tryd.underlying25 ty55 rfl rfl #[] (by as_aux_lemma => kernel_rfl) (by as_aux_lemma => kernel_rfl) rfl ?_
   intro b3328 w3329 E' S
   replace E := E.trans E'
   replace S := S.blk_row (r := QJ) (l := ([] : List QF)) 0 rfl 0 (Nat.le_refl 0) rfl Cells.nil
   refine QB (Zo ⟨.inr ⟨M1780, Hp.le_refl M1780, (S.pick [1] (by decide))⟩, ?_⟩)
   exact hq3205 _ _ ⟨([] : List QF), (some ⟨b3328, 0, none⟩), 0, M1780, H, ⟨rfl, rfl, rfl, rfl, rfl, rfl, rfl, rfl, rfl, rfl, rfl, rfl, trivial⟩, (Hp.le_refl M1780), E, S.pick [0, 1] (by decide)⟩
  ·refine ⟨_, rfl, ?_⟩
   replace H : (if ([] : List QF).length + t875.length ≤ 1759218604441 then (Option.bind (Qf k (1 : Int) (0 : Int) (2 : Int) cz11) (fun t2918 => (if (([] : List QF) ++ t875).length + ([t2918] : List QF).length ≤ 1759218604441 then some (((([] : List QF) ++ t875) ++ ([t2918] : List QF)), ([] : List QF)) else none))) else none) = some o3203 := by first | exact H | ((repeat' split at H) <;> (try contradiction) <;> (repeat' split) <;> first | exact H | contradiction)
   refine Zt S #[] Tryd.underlying25 ty55 rfl rfl #[] (by as_aux_lemma => kernel_rfl) (by as_aux_lemma => kernel_rfl) rfl ?_
   intro b3331 w3332 E' S
   replace E := E.trans E'
   replace S := S.blk_row (r := QJ) (l := ([] : List QF)) 0 rfl 0 (Nat.le_refl 0) rfl Cells.nil
   refine QB (Zo ⟨.inr ⟨M1780, Hp.le_refl M1780, (S.pick [1] (by decide))⟩, ?_⟩)
   exact hq3206 _ _ ⟨([] : List QF), (some ⟨b3331, 0, none⟩), 0, M1780, H, ⟨rfl, rfl, rfl, rfl, rfl, rfl, rfl, rfl, rfl, rfl, rfl, rfl, trivial⟩, (Hp.le_refl M1780), E, S.pick [0, 1] (by decide)⟩
 rintro ρ w3334 ⟨x2863, x2867, A2864, c2865, A2868, c2869, M3335, rfl, hρ, hM3336, E, S⟩
 rw [QL hρ]
 replace hg0 := gup hg0 hM3336
 replace hg1 := gup hg1 hM3336
 replace HM := Hp.le_trans HM hM3336
 replace hf43 := SlR.mono hf43 hM3336
 replace hf1782 := SlR.mono hf1782 hM3336
 replace hs2683 := SlR.mono hs2683 hM3336
 replace hs2688 := SlR.mono hs2688 hM3336
 replace hs2694 := SlR.mono hs2694 hM3336
 have H := o3203H
 refine Wo 14 rfl ?_
 obtain ⟨p3337, H⟩ := YN H
 obtain ⟨src3338, hs3339, hC3340⟩ := Zx (P := Tryd.prog) (ρ := QJ) (l := (List.take (1 : Int).toNat t875)) (SlR.world hs2688 S) (by decide)
 refine Yn S 0 rfl rfl rfl Tryd.underlying25 (.inl Tryd.underlying25) ty55 rfl (by decide) (by decide) hs3339 hC3340 rfl (by omega) rfl ?_
 intro v3341 w3342 E' S
 replace E := E.trans E'
 obtain ⟨A3343, c3344, rfl, _⟩ := (S.row_read 0 rfl).form
 refine QB (Zo ⟨.inr ⟨M3335, hM3336, (S.pick [2] (by decide))⟩, ?_⟩)
 refine Wo 17 rfl ?_
 obtain ⟨p3345, H⟩ := YN H
 obtain ⟨src3346, hs3347, hC3348⟩ := Zx (P := Tryd.prog) (ρ := QJ) (l := (List.drop (2 : Int).toNat t875)) (SlR.world hs2694 S) (by decide)
 refine Yn S 0 rfl rfl rfl Tryd.underlying25 (.inl Tryd.underlying25) ty55 rfl (by decide) (by decide) hs3347 hC3348 rfl (by omega) rfl ?_
 intro v3349 w3350 E' S
 replace E := E.trans E'
 obtain ⟨A3351, c3352, rfl, _⟩ := (S.row_read 0 rfl).form
 refine QB (Zo ⟨.inr ⟨M3335, hM3336, (S.pick [2] (by decide))⟩, ?_⟩)
 refine Wt 18 rfl rfl rfl (.agg #[.slice A3351 ((x2867 ++ (List.take (1 : Int).toNat t875)) ++ (List.drop (2 : Int).toNat t875)).length c3352, vI 1]) rfl (fun w' h' => Qr (pl := [(0, 1), (1, 1)]) #[.slice A3351 ((x2867 ++ (List.take (1 : Int).toNat t875)) ++ (List.drop (2 : Int).toNat t875)).length c3352, vI 1] Tryd.underlying66 ty66 (by as_aux_lemma => kernel_rfl) rfl (by as_aux_lemma => kernel_rfl)) (⟨M3335, hM3336, (S.pick [2] (by decide))⟩) ?_
 refine Wo 20 rfl ?_
 obtain ⟨t3353, ht3354, H⟩ := QW H
 refine ZU fn26 (Qf.con k M3335 (1 : Int) (2 : Int) (0 : Int) none 0 cz11 t3353 (SlW.nil _ _) ht3354) (Γ1 := []) (Γ2 := [_, _, _]) S rfl rfl ?_
 rintro _ w3358 M3359 Γ' hM3360 E' S ⟨A3355, c3356, rfl, hs3357, rfl⟩
 replace hg0 := gup hg0 hM3360
 replace hg1 := gup hg1 hM3360
 replace HM := Hp.le_trans HM hM3360
 replace hM3336 := Hp.le_trans hM3336 hM3360
 replace hf43 := SlR.mono hf43 hM3360
 replace hf1782 := SlR.mono hf1782 hM3360
 replace hs2683 := SlR.mono hs2683 hM3360
 replace E := E.trans E'
 refine QB (Zo ⟨.inr ⟨M3359, hM3336, (S.pick [2] (by decide))⟩, ?_⟩)
 obtain ⟨o3497, o3497h, o3497H⟩ := QW H
 refine Yi (fun ρ w' => ∃ (x3427 : List QF) (x3431 : List QF) (A3428 : Option Addr) (c3429 : Nat) (A3432 : Option Addr) (c3433 : Nat) (Mj : Hp), (x3427, x3431) = o3497 ∧ Qn ρ [(1, pt b16 0), (2, .slice A10 t8.length c11), (13, .slice A877 t875.length c878), (140, .agg #[.slice A2864 x2863.length c2865, vI 12]), (143, .agg #[.slice A2681 (List.drop (1 : Int).toNat t875).length c2682, vI 0]), (151, .agg #[.slice A3351 ((x2867 ++ (List.take (1 : Int).toNat t875)) ++ (List.drop (2 : Int).toNat t875)).length c3352, vI 1]), (155, .agg #[.slice A3428 x3427.length c3429, vI 0]), (159, .agg #[.slice A3432 x3431.length c3433, vI 0]), (162, vI 0)] ∧ M3359.le Mj ∧ Ext w w' ∧ St w' Mj F [Row QJ 55 (.slice A3432 x3431.length c3433) x3431, Row QJ 55 (.slice A3428 x3427.length c3429) x3427, Row QJ 55 (.slice A3351 ((x2867 ++ (List.take (1 : Int).toNat t875)) ++ (List.drop (2 : Int).toNat t875)).length c3352) ((x2867 ++ (List.take (1 : Int).toNat t875)) ++ (List.drop (2 : Int).toNat t875)), Row QJ 55 (.slice A2864 x2863.length c2865) x2863, B23 b16 t5]) 2 (Ls 30 [0, 1, 2, 3, 4, 5, 6, 7, 8, 9, 10, 11, 12, 13, 14, 15, 16, 17, 18, 19, 20, 21, 22, 23, 24, 25, 26, 29]) ?_ ?_
 rotate_left
 ·intro hq3503
  refine Yi (fun ρ w' => ∃ (x3419 : List QF) (A3420 : Option Addr) (c3421 : Nat) (Mj : Hp), some (([t3353] : List QF), x3419) = some o3497 ∧ Qn ρ [(1, pt b16 0), (2, .slice A10 t8.length c11), (13, .slice A877 t875.length c878), (140, .agg #[.slice A2864 x2863.length c2865, vI 12]), (143, .agg #[.slice A2681 (List.drop (1 : Int).toNat t875).length c2682, vI 0]), (151, .agg #[.slice A3351 ((x2867 ++ (List.take (1 : Int).toNat t875)) ++ (List.drop (2 : Int).toNat t875)).length c3352, vI 1]), (153, .agg #[vU t3353.What, vI t3353.Task, vI t3353.Call, vI t3353.Answer.Err, .bool t3353.Answer.Found, vS t3353.Answer.Value, .slice A3355 t3353.Answer.Pairs.length c3356]), (159, .agg #[.slice A3420 x3419.length c3421, vI 0]), (162, vI 0)] ∧ M3359.le Mj ∧ Ext w w' ∧ St w' Mj F [Row QJ 55 (.slice A3420 x3419.length c3421) x3419, Row QJ 55 (.slice A3351 ((x2867 ++ (List.take (1 : Int).toNat t875)) ++ (List.drop (2 : Int).toNat t875)).length c3352) ((x2867 ++ (List.take (1 : Int).toNat t875)) ++ (List.drop (2 : Int).toNat t875)), Row QJ 55 (.slice A2864 x2863.length c2865) x2863, B23 b16 t5]) 4 (Ls 30 [0, 1, 2, 3, 4, 5, 6, 7, 8, 9, 10, 11, 12, 13, 14, 15, 16, 17, 18, 19, 20, 23, 24, 25, 26, 29]) ?_ ?_
  ·clear o3497h
   rintro ρ w3504 ⟨x3419, A3420, c3421, M3505, H, hρ, hM3506, E, S⟩
   rw [QL hρ]
   replace HM := Hp.le_trans HM hM3506
   replace hM3336 := Hp.le_trans hM3336 hM3506
   replace hs3357 := SlR.mono hs3357 hM3506
   refine Wo 21 rfl ?_
   refine Zt S #[vU t3353.What, vI t3353.Task, vI t3353.Call, vI t3353.Answer.Err, .bool t3353.Answer.Found, vS t3353.Answer.Value, .slice A3355 t3353.Answer.Pairs.length c3356] Tryd.underlying25 ty55 rfl rfl cz8 (by as_aux_lemma => kernel_rfl) (by as_aux_lemma => kernel_rfl) rfl ?_
   intro b3508 w3509 E' S
   replace E := E.trans E'
   replace S := S.blk_row (r := QJ) (l := ([t3353] : List QF)) 0 rfl 1 (Nat.le_refl 1) rfl (Cells.cons (vs := [vU t3353.What, vI t3353.Task, vI t3353.Call, vI t3353.Answer.Err, .bool t3353.Answer.Found, vS t3353.Answer.Value, .slice A3355 t3353.Answer.Pairs.length c3356]) (⟨_, hs3357, rfl⟩) Cells.nil)
   refine QB (Zo ⟨.inr ⟨M3505, hM3336, (S.pick [4] (by decide))⟩, ?_⟩)
   refine Wt 22 rfl rfl rfl (.agg #[.slice (some ⟨b3508, 0, none⟩) ([t3353] : List QF).length 1, vI 0]) rfl (fun w' h' => Qr (pl := [(0, 1), (1, 1)]) #[.slice (some ⟨b3508, 0, none⟩) ([t3353] : List QF).length 1, vI 0] Tryd.underlying66 ty66 (by as_aux_lemma => kernel_rfl) rfl (by as_aux_lemma => kernel_rfl)) (⟨M3505, hM3336, (S.pick [4] (by decide))⟩) ?_
   exact hq3503 _ _ ⟨([t3353] : List QF), x3419, (some ⟨b3508, 0, none⟩), 1, A3420, c3421, M3505, Option.some.inj H, ⟨rfl, rfl, rfl, rfl, rfl, rfl, rfl, rfl, rfl, trivial⟩, hM3506, E, S.pick [1, 0, 2, 3, 4] (by decide)⟩
  intro hq3502
  refine Yi (fun ρ w' => ∃ (x3401 : List QF) (x3405 : Int) (x3406 : Int) (x3407 : Int) (x3408 : Int) (x3409 : Bool) (x3410 : Str) (x3411 : List Qu) (A3402 : Option Addr) (c3403 : Nat) (A3412 : Option Addr) (c3413 : Nat) (Mj : Hp), some (x3401, ([(⟨x3405, x3406, x3407, ⟨x3408, x3409, x3410, x3411⟩⟩ : QF)] : List QF)) = some o3497 ∧ Qn ρ [(1, pt b16 0), (2, .slice A10 t8.length c11), (13, .slice A877 t875.length c878), (140, .agg #[.slice A2864 x2863.length c2865, vI 12]), (143, .agg #[.slice A2681 (List.drop (1 : Int).toNat t875).length c2682, vI 0]), (151, .agg #[.slice A3351 ((x2867 ++ (List.take (1 : Int).toNat t875)) ++ (List.drop (2 : Int).toNat t875)).length c3352, vI 1]), (155, .agg #[.slice A3402 x3401.length c3403, vI 0]), (157, .agg #[vU x3405, vI x3406, vI x3407, vI x3408, .bool x3409, vS x3410, .slice A3412 x3411.length c3413]), (162, vI 0)] ∧ M3359.le Mj ∧ Ext w w' ∧ St w' Mj F [Row QJ 55 (.slice A3402 x3401.length c3403) x3401, Row QJ 55 (.slice A3351 ((x2867 ++ (List.take (1 : Int).toNat t875)) ++ (List.drop (2 : Int).toNat t875)).length c3352) ((x2867 ++ (List.take (1 : Int).toNat t875)) ++ (List.drop (2 : Int).toNat t875)), Row QJ 55 (.slice A2864 x2863.length c2865) x2863, B23 b16 t5] ∧ SlR Qt Mj (.slice A3412 x3411.length c3413) x3411) 4 (Ls 30 [0, 1, 2, 3, 4, 5, 6, 7, 8, 9, 10, 11, 12, 13, 14, 15, 16, 17, 18, 19, 20, 21, 22, 23, 24, 29]) ?_ ?_
  ·clear o3497h
   rintro ρ w3511 ⟨x3401, x3405, x3406, x3407, x3408, x3409, x3410, x3411, A3402, c3403, A3412, c3413, M3512, H, hρ, hM3513, E, S, hs3414⟩
   rw [QL hρ]
   replace HM := Hp.le_trans HM hM3513
   replace hM3336 := Hp.le_trans hM3336 hM3513
   refine Wo 25 rfl ?_
   refine Zt S #[vU x3405, vI x3406, vI x3407, vI x3408, .bool x3409, vS x3410, .slice A3412 x3411.length c3413] Tryd.underlying25 ty55 rfl rfl cz8 (by as_aux_lemma => kernel_rfl) (by as_aux_lemma => kernel_rfl) rfl ?_
   intro b3515 w3516 E' S
   replace E := E.trans E'
   replace S := S.blk_row (r := QJ) (l := ([(⟨x3405, x3406, x3407, ⟨x3408, x3409, x3410, x3411⟩⟩ : QF)] : List QF)) 0 rfl 1 (Nat.le_refl 1) rfl (Cells.cons (vs := [vU x3405, vI x3406, vI x3407, vI x3408, .bool x3409, vS x3410, .slice A3412 x3411.length c3413]) (⟨_, hs3414, rfl⟩) Cells.nil)
   refine QB (Zo ⟨.inr ⟨M3512, hM3336, (S.pick [4] (by decide))⟩, ?_⟩)
   refine Wt 26 rfl rfl rfl (.agg #[.slice (some ⟨b3515, 0, none⟩) ([(⟨x3405, x3406, x3407, ⟨x3408, x3409, x3410, x3411⟩⟩ : QF)] : List QF).length 1, vI 0]) rfl (fun w' h' => Qr (pl := [(0, 1), (1, 1)]) #[.slice (some ⟨b3515, 0, none⟩) ([(⟨x3405, x3406, x3407, ⟨x3408, x3409, x3410, x3411⟩⟩ : QF)] : List QF).length 1, vI 0] Tryd.underlying66 ty66 (by as_aux_lemma => kernel_rfl) rfl (by as_aux_lemma => kernel_rfl)) (⟨M3512, hM3336, (S.pick [4] (by decide))⟩) ?_
   exact hq3503 _ _ ⟨x3401, ([(⟨x3405, x3406, x3407, ⟨x3408, x3409, x3410, x3411⟩⟩ : QF)] : List QF), A3402, c3403, (some ⟨b3515, 0, none⟩), 1, M3512, Option.some.inj H, ⟨rfl, rfl, rfl, rfl, rfl, rfl, rfl, rfl, rfl, trivial⟩, hM3513, E, S.pick [0, 1, 2, 3, 4] (by decide)⟩
  intro hq3501
  refine Yi (fun ρ w' => ∃ (x3389 : List QF) (A3390 : Option Addr) (c3391 : Nat) (Mj : Hp), (Option.bind (Qf k (1 : Int) (-1 : Int) (0 : Int) cz11) (fun t3478 => some (x3389, ([t3478] : List QF)))) = some o3497 ∧ Qn ρ [(1, pt b16 0), (2, .slice A10 t8.length c11), (13, .slice A877 t875.length c878), (140, .agg #[.slice A2864 x2863.length c2865, vI 12]), (143, .agg #[.slice A2681 (List.drop (1 : Int).toNat t875).length c2682, vI 0]), (151, .agg #[.slice A3351 ((x2867 ++ (List.take (1 : Int).toNat t875)) ++ (List.drop (2 : Int).toNat t875)).length c3352, vI 1]), (155, .agg #[.slice A3390 x3389.length c3391, vI 0]), (156, .agg cz17), (162, vI 0)] ∧ M3359.le Mj ∧ Ext w w' ∧ St w' Mj F [Row QJ 55 (.slice A3390 x3389.length c3391) x3389, Row QJ 55 (.slice A3351 ((x2867 ++ (List.take (1 : Int).toNat t875)) ++ (List.drop (2 : Int).toNat t875)).length c3352) ((x2867 ++ (List.take (1 : Int).toNat t875)) ++ (List.drop (2 : Int).toNat t875)), Row QJ 55 (.slice A2864 x2863.length c2865) x2863, B23 b16 t5]) 5 (Ls 30 [0, 1, 2, 3, 4, 5, 6, 7, 8, 9, 10, 11, 12, 13, 14, 15, 16, 17, 18, 19, 20, 21, 22, 23, 29]) ?_ ?_
  ·clear o3497h
   rintro ρ w3518 ⟨x3389, A3390, c3391, M3519, H, hρ, hM3520, E, S⟩
   rw [QL hρ]
   replace HM := Hp.le_trans HM hM3520
   replace hM3336 := Hp.le_trans hM3336 hM3520
   refine Wo 24 rfl ?_
   obtain ⟨t3522, ht3523, H⟩ := QW H
   refine ZU fn26 (Qf.con k M3519 (1 : Int) (-1 : Int) (0 : Int) none 0 cz11 t3522 (SlW.nil _ _) ht3523) (Γ1 := []) (Γ2 := [_, _, _, _]) S rfl rfl ?_
   rintro _ w3527 M3528 Γ' hM3529 E' S ⟨A3524, c3525, rfl, hs3526, rfl⟩
   replace HM := Hp.le_trans HM hM3529
   replace hM3336 := Hp.le_trans hM3336 hM3529
   replace hM3520 := Hp.le_trans hM3520 hM3529
   replace E := E.trans E'
   refine QB (Zo ⟨.inr ⟨M3528, hM3336, (S.pick [3] (by decide))⟩, ?_⟩)
   exact hq3501 _ _ ⟨x3389, t3522.What, t3522.Task, t3522.Call, t3522.Answer.Err, t3522.Answer.Found, t3522.Answer.Value, t3522.Answer.Pairs, A3390, c3391, A3524, c3525, M3528, H, ⟨rfl, rfl, rfl, rfl, rfl, rfl, rfl, rfl, rfl, trivial⟩, hM3520, E, S.pick [0, 1, 2, 3] (by decide), hs3526⟩
  intro hq3500
  refine Yi (fun ρ w' => ∃ (x3372 : Int) (x3373 : Int) (x3374 : Int) (x3375 : Int) (x3376 : Bool) (x3377 : Str) (x3378 : List Qu) (A3379 : Option Addr) (c3380 : Nat) (Mj : Hp), some (([t3353] : List QF), ([(⟨x3372, x3373, x3374, ⟨x3375, x3376, x3377, x3378⟩⟩ : QF)] : List QF)) = some o3497 ∧ Qn ρ [(1, pt b16 0), (2, .slice A10 t8.length c11), (13, .slice A877 t875.length c878), (140, .agg #[.slice A2864 x2863.length c2865, vI 12]), (143, .agg #[.slice A2681 (List.drop (1 : Int).toNat t875).length c2682, vI 0]), (151, .agg #[.slice A3351 ((x2867 ++ (List.take (1 : Int).toNat t875)) ++ (List.drop (2 : Int).toNat t875)).length c3352, vI 1]), (153, .agg #[vU t3353.What, vI t3353.Task, vI t3353.Call, vI t3353.Answer.Err, .bool t3353.Answer.Found, vS t3353.Answer.Value, .slice A3355 t3353.Answer.Pairs.length c3356]), (157, .agg #[vU x3372, vI x3373, vI x3374, vI x3375, .bool x3376, vS x3377, .slice A3379 x3378.length c3380]), (162, vI 0)] ∧ M3359.le Mj ∧ Ext w w' ∧ St w' Mj F [Row QJ 55 (.slice A3351 ((x2867 ++ (List.take (1 : Int).toNat t875)) ++ (List.drop (2 : Int).toNat t875)).length c3352) ((x2867 ++ (List.take (1 : Int).toNat t875)) ++ (List.drop (2 : Int).toNat t875)), Row QJ 55 (.slice A2864 x2863.length c2865) x2863, B23 b16 t5] ∧ SlR Qt Mj (.slice A3379 x3378.length c3380) x3378) 6 (Ls 30 [0, 1, 2, 3, 4, 5, 6, 7, 8, 9, 10, 11, 12, 13, 14, 15, 16, 17, 18, 19, 20, 23, 24, 29]) ?_ ?_
  ·clear o3497h
   rintro ρ w3530 ⟨x3372, x3373, x3374, x3375, x3376, x3377, x3378, A3379, c3380, M3531, H, hρ, hM3532, E, S, hs3381⟩
   rw [QL hρ]
   replace HM := Hp.le_trans HM hM3532
   replace hM3336 := Hp.le_trans hM3336 hM3532
   replace hs3357 := SlR.mono hs3357 hM3532
   refine Xl (rs := [21, 25]) (by kernel_rfl) (by decide) ?_
   simp only [List.forall_mem_cons, List.not_mem_nil, false_implies, implies_true, and_true]
   refine ⟨?_, ?_⟩
   ·refine ⟨_, rfl, ?_⟩
    refine Zt S #[vU t3353.What, vI t3353.Task, vI t3353.Call, vI t3353.Answer.Err, .bool t3353.Answer.Found, vS t3353.Answer.Value, .slice A3355 t3353.Answer.Pairs.length c3356] Tryd.underlying25 ty55 rfl rfl cz8 (by as_aux_lemma => kernel_rfl) (by as_aux_lemma => kernel_rfl) rfl ?_
    intro b3534 w3535 E' S
    replace E := E.trans E'
    replace S := S.blk_row (r := QJ) (l := ([t3353] : List QF)) 0 rfl 1 (Nat.le_refl 1) rfl (Cells.cons (vs := [vU t3353.What, vI t3353.Task, vI t3353.Call, vI t3353.Answer.Err, .bool t3353.Answer.Found, vS t3353.Answer.Value, .slice A3355 t3353.Answer.Pairs.length c3356]) (⟨_, hs3357, rfl⟩) Cells.nil)
    refine QB (Zo ⟨.inr ⟨M3531, hM3336, (S.pick [3] (by decide))⟩, ?_⟩)
    refine Wt 22 rfl rfl rfl (.agg #[.slice (some ⟨b3534, 0, none⟩) ([t3353] : List QF).length 1, vI 0]) rfl (fun w' h' => Qr (pl := [(0, 1), (1, 1)]) #[.slice (some ⟨b3534, 0, none⟩) ([t3353] : List QF).length 1, vI 0] Tryd.underlying66 ty66 (by as_aux_lemma => kernel_rfl) rfl (by as_aux_lemma => kernel_rfl)) (⟨M3531, hM3336, (S.pick [3] (by decide))⟩) ?_
    exact hq3501 _ _ ⟨([t3353] : List QF), x3372, x3373, x3374, x3375, x3376, x3377, x3378, (some ⟨b3534, 0, none⟩), 1, A3379, c3380, M3531, H, ⟨rfl, rfl, rfl, rfl, rfl, rfl, rfl, rfl, rfl, trivial⟩, hM3532, E, S.pick [0, 1, 2, 3] (by decide), hs3381⟩
   ·refine ⟨_, rfl, ?_⟩
    refine Zt S #[vU x3372, vI x3373, vI x3374, vI x3375, .bool x3376, vS x3377, .slice A3379 x3378.length c3380] Tryd.underlying25 ty55 rfl rfl cz8 (by as_aux_lemma => kernel_rfl) (by as_aux_lemma => kernel_rfl) rfl ?_
    intro b3537 w3538 E' S
    replace E := E.trans E'
    replace S := S.blk_row (r := QJ) (l := ([(⟨x3372, x3373, x3374, ⟨x3375, x3376, x3377, x3378⟩⟩ : QF)] : List QF)) 0 rfl 1 (Nat.le_refl 1) rfl (Cells.cons (vs := [vU x3372, vI x3373, vI x3374, vI x3375, .bool x3376, vS x3377, .slice A3379 x3378.length c3380]) (⟨_, hs3381, rfl⟩) Cells.nil)
    refine QB (Zo ⟨.inr ⟨M3531, hM3336, (S.pick [3] (by decide))⟩, ?_⟩)
    refine Wt 26 rfl rfl rfl (.agg #[.slice (some ⟨b3537, 0, none⟩) ([(⟨x3372, x3373, x3374, ⟨x3375, x3376, x3377, x3378⟩⟩ : QF)] : List QF).length 1, vI 0]) rfl (fun w' h' => Qr (pl := [(0, 1), (1, 1)]) #[.slice (some ⟨b3537, 0, none⟩) ([(⟨x3372, x3373, x3374, ⟨x3375, x3376, x3377, x3378⟩⟩ : QF)] : List QF).length 1, vI 0] Tryd.underlying66 ty66 (by as_aux_lemma => kernel_rfl) rfl (by as_aux_lemma => kernel_rfl)) (⟨M3531, hM3336, (S.pick [3] (by decide))⟩) ?_
    exact hq3502 _ _ ⟨([(⟨x3372, x3373, x3374, ⟨x3375, x3376, x3377, x3378⟩⟩ : QF)] : List QF), (some ⟨b3537, 0, none⟩), 1, M3531, H, ⟨rfl, rfl, rfl, rfl, rfl, rfl, rfl, rfl, rfl, trivial⟩, hM3532, E, S.pick [0, 1, 2, 3] (by decide)⟩
  intro hq3499
  have H := o3497h
  have LE3540 := Hp.le_refl M3359
  refine Xl (rs := [21, 24]) (by kernel_rfl) (by decide) ?_
  simp only [List.forall_mem_cons, List.not_mem_nil, false_implies, implies_true, and_true]
  refine ⟨?_, ?_⟩
  ·refine ⟨_, rfl, ?_⟩
   refine Zt S #[vU t3353.What, vI t3353.Task, vI t3353.Call, vI t3353.Answer.Err, .bool t3353.Answer.Found, vS t3353.Answer.Value, .slice A3355 t3353.Answer.Pairs.length c3356] Tryd.underlying25 ty55 rfl rfl cz8 (by as_aux_lemma => kernel_rfl) (by as_aux_lemma => kernel_rfl) rfl ?_
   intro b3541 w3542 E' S
   replace E := E.trans E'
   replace S := S.blk_row (r := QJ) (l := ([t3353] : List QF)) 0 rfl 1 (Nat.le_refl 1) rfl (Cells.cons (vs := [vU t3353.What, vI t3353.Task, vI t3353.Call, vI t3353.Answer.Err, .bool t3353.Answer.Found, vS t3353.Answer.Value, .slice A3355 t3353.Answer.Pairs.length c3356]) (⟨_, hs3357, rfl⟩) Cells.nil)
   refine QB (Zo ⟨.inr ⟨M3359, hM3336, (S.pick [3] (by decide))⟩, ?_⟩)
   refine Wt 22 rfl rfl rfl (.agg #[.slice (some ⟨b3541, 0, none⟩) ([t3353] : List QF).length 1, vI 0]) rfl (fun w' h' => Qr (pl := [(0, 1), (1, 1)]) #[.slice (some ⟨b3541, 0, none⟩) ([t3353] : List QF).length 1, vI 0] Tryd.underlying66 ty66 (by as_aux_lemma => kernel_rfl) rfl (by as_aux_lemma => kernel_rfl)) (⟨M3359, hM3336, (S.pick [3] (by decide))⟩) ?_
   exact hq3500 _ _ ⟨([t3353] : List QF), (some ⟨b3541, 0, none⟩), 1, M3359, H, ⟨rfl, rfl, rfl, rfl, rfl, rfl, rfl, rfl, rfl, trivial⟩, (Hp.le_refl M3359), E, S.pick [0, 1, 2, 3] (by decide)⟩
  ·refine ⟨_, rfl, ?_⟩
   obtain ⟨t3544, ht3545, H⟩ := QW H
   refine ZU fn26 (Qf.con k M3359 (1 : Int) (-1 : Int) (0 : Int) none 0 cz11 t3544 (SlW.nil _ _) ht3545) (Γ1 := []) (Γ2 := [_, _, _]) S rfl rfl ?_
   rintro _ w3549 M3550 Γ' hM3551 E' S ⟨A3546, c3547, rfl, hs3548, rfl⟩
   replace HM := Hp.le_trans HM hM3551
   replace hM3336 := Hp.le_trans hM3336 hM3551
   replace LE3540 := Hp.le_trans LE3540 hM3551
   replace E := E.trans E'
   refine QB (Zo ⟨.inr ⟨M3550, hM3336, (S.pick [2] (by decide))⟩, ?_⟩)
   exact hq3499 _ _ ⟨t3544.What, t3544.Task, t3544.Call, t3544.Answer.Err, t3544.Answer.Found, t3544.Answer.Value, t3544.Answer.Pairs, A3546, c3547, M3550, H, ⟨rfl, rfl, rfl, rfl, rfl, rfl, rfl, rfl, rfl, trivial⟩, LE3540, E, S.pick [0, 1, 2] (by decide), hs3548⟩
 rintro ρ w3552 ⟨x3427, x3431, A3428, c3429, A3432, c3433, M3553, rfl, hρ, hM3554, E, S⟩
 rw [QL hρ]
 replace hg0 := gup hg0 hM3554
 replace hg1 := gup hg1 hM3554
 replace HM := Hp.le_trans HM hM3554
 replace hM3336 := Hp.le_trans hM3336 hM3554
 replace hf43 := SlR.mono hf43 hM3554
 replace hf1782 := SlR.mono hf1782 hM3554
 replace hs2683 := SlR.mono hs2683 hM3554
 have H := o3497H
 refine Wo 27 rfl ?_
 obtain ⟨M3555, hM3556, hf3557, S⟩ := S.row_freeze 3 rfl
 replace hg0 := gup hg0 hM3556
 replace hg1 := gup hg1 hM3556
 replace HM := Hp.le_trans HM hM3556
 replace hM3336 := Hp.le_trans hM3336 hM3556
 replace hf43 := SlR.mono hf43 hM3556
 replace hf1782 := SlR.mono hf1782 hM3556
 replace hs2683 := SlR.mono hs2683 hM3556
 obtain ⟨M3558, hM3559, hf3560, S⟩ := S.row_freeze 2 rfl
 replace hg0 := gup hg0 hM3559
 replace hg1 := gup hg1 hM3559
 replace HM := Hp.le_trans HM hM3559
 replace hM3336 := Hp.le_trans hM3336 hM3559
 replace hf43 := SlR.mono hf43 hM3559
 replace hf1782 := SlR.mono hf1782 hM3559
 replace hs2683 := SlR.mono hs2683 hM3559
 replace hf3557 := SlR.mono hf3557 hM3559
 obtain ⟨M3561, hM3562, hf3563, S⟩ := S.row_freeze 1 rfl
 replace hg0 := gup hg0 hM3562
 replace hg1 := gup hg1 hM3562
 replace HM := Hp.le_trans HM hM3562
 replace hM3336 := Hp.le_trans hM3336 hM3562
 replace hf43 := SlR.mono hf43 hM3562
 replace hf1782 := SlR.mono hf1782 hM3562
 replace hs2683 := SlR.mono hs2683 hM3562
 replace hf3557 := SlR.mono hf3557 hM3562
 replace hf3560 := SlR.mono hf3560 hM3562
 obtain ⟨M3564, hM3565, hf3566, S⟩ := S.row_freeze 0 rfl
 replace hg0 := gup hg0 hM3565
 replace hg1 := gup hg1 hM3565
 replace HM := Hp.le_trans HM hM3565
 replace hM3336 := Hp.le_trans hM3336 hM3565
 replace hf43 := SlR.mono hf43 hM3565
 replace hf1782 := SlR.mono hf1782 hM3565
 replace hs2683 := SlR.mono hs2683 hM3565
 replace hf3557 := SlR.mono hf3557 hM3565
 replace hf3560 := SlR.mono hf3560 hM3565
 replace hf3563 := SlR.mono hf3563 hM3565
 refine Zt S #[.slice A2864 x2863.length c2865, vI 12, .slice A2681 (List.drop (1 : Int).toNat t875).length c2682, vI 0, .slice A3351 ((x2867 ++ (List.take (1 : Int).toNat t875)) ++ (List.drop (2 : Int).toNat t875)).length c3352, vI 1, .slice A3428 x3427.length c3429, vI 0, .slice A3432 x3431.length c3433, vI 0] Tryd.underlying67 ty66 rfl rfl #[.slice none 0 0, vI 0, .slice none 0 0, vI 0, .slice none 0 0, vI 0, .slice none 0 0, vI 0, .slice none 0 0, vI 0] (by as_aux_lemma => kernel_rfl) (by as_aux_lemma => kernel_rfl) rfl ?_
 intro b3567 w3568 E' S
 replace E := E.trans E'
 replace S := S.blk_row (r := Vs) (l := ([(⟨x2863, (12 : Int)⟩ : St66), (⟨(List.drop (1 : Int).toNat t875), (0 : Int)⟩ : St66), (⟨((x2867 ++ (List.take (1 : Int).toNat t875)) ++ (List.drop (2 : Int).toNat t875)), (1 : Int)⟩ : St66), (⟨x3427, (0 : Int)⟩ : St66), (⟨x3431, (0 : Int)⟩ : St66)] : List St66)) 0 rfl 5 (Nat.le_refl 5) rfl (Cells.cons (vs := [.slice A2864 x2863.length c2865, vI 12]) (⟨_, hf3557, rfl⟩) (Cells.cons (vs := [.slice A2681 (List.drop (1 : Int).toNat t875).length c2682, vI 0]) (⟨_, hs2683, rfl⟩) (Cells.cons (vs := [.slice A3351 ((x2867 ++ (List.take (1 : Int).toNat t875)) ++ (List.drop (2 : Int).toNat t875)).length c3352, vI 1]) (⟨_, hf3560, rfl⟩) (Cells.cons (vs := [.slice A3428 x3427.length c3429, vI 0]) (⟨_, hf3563, rfl⟩) (Cells.cons (vs := [.slice A3432 x3431.length c3433, vI 0]) (⟨_, hf3566, rfl⟩) Cells.nil)))))
 obtain ⟨x3570, he3571, H⟩ := QW H
 replace he3571 := Option.some.inj he3571
 try unfold B23 at S
 rw [he3571] at S
 refine Eq.mpr (congrArg (fun z => Wl _ _ _ _ _ _ (upd _ _ z) _) (show Value.slice (some ⟨b3567, 0, none⟩) 5 5 = Value.slice (some ⟨b3567, 0, none⟩) x3570.length 5 from (by rw [← he3571]; rfl))) ?_
 refine QB (Zo ⟨.inr ⟨M3564, hM3336, (S.pick [1] (by decide))⟩, ?_⟩)
 refine Wt 28 rfl rfl rfl (vI (x3570.length : Int)) rfl (fun w' h' => ZK (n := x3570.length) Tryd.underlying67 rfl) (⟨M3564, hM3336, (S.pick [1] (by decide))⟩) ?_
 refine Wz ?_
 refine tn ?_
 obtain ⟨o4046, o4046h, o4046H⟩ := QW H
 refine Ym (fun ρ w' => ∃ (Mj : Hp), .inr () = o4046 ∧ Qn ρ [(1, pt b16 0), (2, .slice A10 t8.length c11), (13, .slice A877 t875.length c878)] ∧ M3564.le Mj ∧ Ext w w' ∧ St w' Mj F [B23 b16 t5]) ?_ ?_
 ·skip
  refine Y6 (fun n ρ w' => ∃ (x3888 : Int) (Mj : Hp), Zb t5 t8 x3570 n x3888 = some o4046 ∧ Qn ρ [(1, pt b16 0), (2, .slice A10 t8.length c11), (13, .slice A877 t875.length c878), (160, .slice (some ⟨b3567, 0, none⟩) x3570.length 5), (161, vI (x3570.length : Int)), (162, vI x3888)] ∧ M3564.le Mj ∧ Ext w w' ∧ St w' Mj F [Row Vs 66 (.slice (some ⟨b3567, 0, none⟩) x3570.length 5) x3570, B23 b16 t5]) k ?_ ?_
  ·skip
   exact ⟨(0 : Int), M3564, o4046h, ⟨rfl, rfl, rfl, rfl, rfl, rfl, trivial⟩, (Hp.le_refl M3564), E, S.pick [0, 1] (by decide)⟩
  ·intro n
   rintro ρ w4047 ⟨x3888, M4048, H, hρ, hM4049, E, S⟩
   rw [QL hρ]
   replace hg0 := gup hg0 hM4049
   replace hg1 := gup hg1 hM4049
   replace HM := Hp.le_trans HM hM4049
   replace hf43 := SlR.mono hf43 hM4049
   cases n with
   | zero => cases H
   | succ k =>
    rw [Zb.eq_2] at H
    refine QE (QA (W_v (.bool (decide (x3888 < (x3570.length : Int)))) (QV rfl rfl rfl rfl) rfl (QB (tn (QE ?_)))))
    rcases Zw H with ⟨hb4050, H⟩ | ⟨hb4050, H⟩
    ·refine QN (congrArg Value.bool hb4050) ?_
     refine Qk (tn (QE ?_))
     refine YO ?_
     refine QE (QA ?_)
     obtain ⟨⟨p4051, p4052⟩, H⟩ := YN H
     obtain ⟨b4053, o4054, cs4055, _, _, ee4060, hb4056, vs4057, hR4058, hc4059⟩ := SlW.at' (S.row_read 0 rfl) p4051 p4052
     obtain ⟨v4064, hs4063, rfl⟩ := hR4058
     obtain ⟨A4061, c4062, rfl, _⟩ := hs4063.form
     refine W_v (.pointer (some ⟨b4053, o4054 + x3888.toNat * 2, none⟩)) (Q8 Tryd.underlying67 ty66 (slA ee4060) rfl p4051 p4052) rfl (W_v (.agg #[.slice A4061 ((rd x3570 x3888).l).length c4062, vI ((rd x3570 x3888).at_)]) (Qi (Hp.of_get hb4056) ty66 rfl (XG hc4059 0 rfl) rfl rfl) rfl ?_)
     refine Z1 S #[.slice none 0 0, vI 0] ty66 rfl rfl ?_
     intro b4065 w4066 E' S
     replace E := E.trans E'
     refine Q0 S 0 rfl ty66 rfl rfl [.slice A4061 ((rd x3570 x3888).l).length c4062, vI ((rd x3570 x3888).at_)] rfl rfl rfl #[.slice A4061 ((rd x3570 x3888).l).length c4062, vI ((rd x3570 x3888).at_)] rfl rfl ?_
     intro w4068 E' S
     replace E := E.trans E'
     refine QB (tn (QE (QA (W_v (.agg #[vI t5.Tasks, vI t5.Active, vI t5.Keys, vI t5.Depth, vI t5.TS, vI t5.KeyLen, vI t5.ValLen, vI t5.Fan]) (Qi (S.blk 2 rfl) ty23 rfl (QI rfl) rfl rfl) rfl (W_v (.slice A10 t8.length c11) (QC rfl) rfl (W_v (pt b4065 0) (QG (o := 0) (off := 0) Tryd.underlying66 rfl ty25 rfl rfl) rfl (W_v (.slice A4061 ((rd x3570 x3888).l).length c4062) (QQ (S.blk 0 rfl) ty25 rfl rfl) rfl ?_)))))))
     obtain ⟨t4069, ht4070, H⟩ := QW H
     refine YM fn20 (YU.con k M4048 t5 A10 c11 t8 A4061 c4062 ((rd x3570 x3888).l) t4069 hf43 hs4063 hg0 hg1 ht4070) S rfl rfl (by rintro _ _ _ ⟨_, rfl⟩; exact Qd) ?_
     rintro _ w4071 _ Γ' E' S ⟨rfl, rfl⟩
     replace E := E.trans E'
     refine W_v (.tuple #[vI t4069.1, vI t4069.2]) (QC rfl) rfl (W_v (vI t4069.1) (QS rfl rfl) rfl (W_v (vI t4069.2) (QS rfl rfl) rfl (W_v (vI t4069.1) (QD rfl) rfl (W_v (vI t4069.2) (QD rfl) rfl (QB (tn (QE (QA (W_v (.agg #[vI t5.Tasks, vI t5.Active, vI t5.Keys, vI t5.Depth, vI t5.TS, vI t5.KeyLen, vI t5.ValLen, vI t5.Fan]) (Qi (S.blk 2 rfl) ty23 rfl (QI rfl) rfl rfl) rfl (W_v (.slice A10 t8.length c11) (QC rfl) rfl (W_v (pt b4065 0) (QG (o := 0) (off := 0) Tryd.underlying66 rfl ty25 rfl rfl) rfl (W_v (.slice A4061 ((rd x3570 x3888).l).length c4062) (QQ (S.blk 0 rfl) ty25 rfl rfl) rfl ?_))))))))))))
     obtain ⟨t4072, ht4073, H⟩ := QW H
     rcases t4072 with t4074 | t4075 | t4076
     ·skip
      replace H := elimL H
      refine Z3 fn23 (YT.con k M4048 t5 A10 c11 t8 A4061 c4062 ((rd x3570 x3888).l) (Sum.inl t4074) hf43 hs4063 hg0 hg1 ht4073) (Γ1 := []) (Γ2 := [_, _, _]) S rfl rfl (by rintro _ _ _ ⟨rfl, rfl⟩; exact Qd) ?_
      rintro _ w4077 _ Γ' E' S ⟨rfl, rfl⟩
      replace E := E.trans E'
      replace S : St w4077 M4048 F [_, _, _] := S
      refine W_v (.tuple cz23) (QC rfl) rfl (W_v (.pointer none) (QS rfl rfl) rfl (W_v (vI 1) (QS rfl rfl) rfl (W_v (.pointer none) (QD rfl) rfl (W_v (vI 1) (QD rfl) rfl (QB (tn (QE (QA (W_v (vI t4069.1) (QC rfl) rfl (W_v (pt b4065 1) (QG (o := 0) (off := 1) Tryd.underlying66 rfl ty3 rfl rfl) rfl (W_v (vI ((rd x3570 x3888).at_)) (QQ (S.blk 0 rfl) ty3 rfl rfl) rfl (W_v (.bool (t4069.1 != (rd x3570 x3888).at_)) (QV rfl rfl rfl rfl) rfl (W_v (.bool (t4069.1 != (rd x3570 x3888).at_)) (QC rfl) rfl ?_)))))))))))))
      refine ZC 3 (fun ρ w' => Qn ρ [(1, pt b16 0), (2, .slice A10 t8.length c11), (13, .slice A877 t875.length c878), (15, pt b4065 0), (18, .pointer none), (19, vI 1), (160, .slice (some ⟨b3567, 0, none⟩) x3570.length 5), (161, vI (x3570.length : Int)), (162, vI x3888), (189, .bool ((t4069.1 != (rd x3570 x3888).at_) || (t4069.2 != (4 : Int))))] ∧ w4077 = w') ?_ ?_
      ·rcases Qq (t4069.1 != (rd x3570 x3888).at_) with hb4080 | hb4080
       ·skip
        refine QT (congrArg some hb4080) (W_v (vI t4069.2) (QC rfl) rfl (QT (congrArg some hb4080) (W_v (.bool (t4069.2 != (4 : Int))) (QV rfl rfl rfl rfl) rfl (W_v (.bool (t4069.2 != (4 : Int))) (QX (k := false) (congrArg Value.bool hb4080) rfl) rfl (QB ?_)))))
        exact ⟨⟨rfl, rfl, rfl, rfl, rfl, rfl, rfl, rfl, rfl, (by first | rfl | (rw [hb4080]; rfl) | (simp only [hb4080]; rfl)), trivial⟩, rfl⟩
       ·skip
        refine Qh (skF hb4080) rfl (Qh (skF hb4080) rfl (W_v (.bool true) (QX (k := true) (congrArg Value.bool hb4080) rfl) rfl (QB ?_)))
        exact ⟨⟨rfl, rfl, rfl, rfl, rfl, rfl, rfl, rfl, rfl, (by first | rfl | (rw [hb4080]; rfl) | (simp only [hb4080]; rfl)), trivial⟩, rfl⟩
      as_aux_lemma =>
      rintro ρ _ ⟨hρ, rfl⟩
      rw [QL hρ]
      refine W_v (.bool ((t4069.1 != (rd x3570 x3888).at_) || (t4069.2 != (4 : Int)))) (QC rfl) rfl ?_
      refine ZC 3 (fun ρ w' => Qn ρ [(1, pt b16 0), (2, .slice A10 t8.length c11), (13, .slice A877 t875.length c878), (15, pt b4065 0), (19, vI 1), (160, .slice (some ⟨b3567, 0, none⟩) x3570.length 5), (161, vI (x3570.length : Int)), (162, vI x3888), (193, .bool (((t4069.1 != (rd x3570 x3888).at_) || (t4069.2 != (4 : Int))) || false))] ∧ w4077 = w') ?_ ?_
      ·rcases Qq ((t4069.1 != (rd x3570 x3888).at_) || (t4069.2 != (4 : Int))) with hb4081 | hb4081
       ·skip
        refine QT (congrArg some hb4081) (W_v (.pointer none) (QC rfl) rfl (QT (congrArg some hb4081) (W_v (.bool false) (X3 (r := true) rfl rfl (Xt Tryd.underlying39)) rfl (W_v (.bool false) (QX (k := false) (congrArg Value.bool hb4081) rfl) rfl (QB ?_)))))
        exact ⟨⟨rfl, rfl, rfl, rfl, rfl, rfl, rfl, rfl, (by first | rfl | (rw [hb4081]; rfl) | (simp only [hb4081]; rfl)), trivial⟩, rfl⟩
       ·skip
        refine Qh (skF hb4081) rfl (Qh (skF hb4081) rfl (W_v (.bool true) (QX (k := true) (congrArg Value.bool hb4081) rfl) rfl (QB ?_)))
        exact ⟨⟨rfl, rfl, rfl, rfl, rfl, rfl, rfl, rfl, (by first | rfl | (rw [hb4081]; rfl) | (simp only [hb4081]; rfl)), trivial⟩, rfl⟩
      as_aux_lemma =>
      rintro ρ _ ⟨hρ, rfl⟩
      rw [QL hρ]
      refine W_v (.bool (((t4069.1 != (rd x3570 x3888).at_) || (t4069.2 != (4 : Int))) || false)) (QC rfl) rfl ?_
      refine ZC 3 (fun ρ w' => Qn ρ [(1, pt b16 0), (2, .slice A10 t8.length c11), (13, .slice A877 t875.length c878), (15, pt b4065 0), (160, .slice (some ⟨b3567, 0, none⟩) x3570.length 5), (161, vI (x3570.length : Int)), (162, vI x3888), (197, .bool ((((t4069.1 != (rd x3570 x3888).at_) || (t4069.2 != (4 : Int))) || false) || true))] ∧ w4077 = w') ?_ ?_
      ·rcases Qq (((t4069.1 != (rd x3570 x3888).at_) || (t4069.2 != (4 : Int))) || false) with hb4082 | hb4082
       ·skip
        refine QT (congrArg some hb4082) (W_v (vI 1) (QC rfl) rfl (QT (congrArg some hb4082) (W_v (.bool true) (QV rfl rfl rfl rfl) rfl (W_v (.bool true) (QX (k := false) (congrArg Value.bool hb4082) rfl) rfl (QB ?_)))))
        exact ⟨⟨rfl, rfl, rfl, rfl, rfl, rfl, rfl, (by first | rfl | (rw [hb4082]; rfl) | (simp only [hb4082]; rfl)), trivial⟩, rfl⟩
       ·skip
        refine Qh (skF hb4082) rfl (Qh (skF hb4082) rfl (W_v (.bool true) (QX (k := true) (congrArg Value.bool hb4082) rfl) rfl (QB ?_)))
        exact ⟨⟨rfl, rfl, rfl, rfl, rfl, rfl, rfl, (by first | rfl | (rw [hb4082]; rfl) | (simp only [hb4082]; rfl)), trivial⟩, rfl⟩
      as_aux_lemma =>
      rintro ρ _ ⟨hρ, rfl⟩
      rw [QL hρ]
      refine W_v (.bool ((((t4069.1 != (rd x3570 x3888).at_) || (t4069.2 != (4 : Int))) || false) || true)) (QC rfl) rfl ?_
      obtain ⟨o4101, o4101h, o4101H⟩ := QW H
      refine ZC 8 (fun ρ w' => ∃ (x4100 : Bool) (Mj : Hp), (x4100) = o4101 ∧ Qn ρ [(1, pt b16 0), (2, .slice A10 t8.length c11), (13, .slice A877 t875.length c878), (160, .slice (some ⟨b3567, 0, none⟩) x3570.length 5), (161, vI (x3570.length : Int)), (162, vI x3888), (206, .bool x4100)] ∧ M4048.le Mj ∧ Ext w w' ∧ St w' Mj F [Row Vs 66 (.slice (some ⟨b3567, 0, none⟩) x3570.length 5) x3570, B23 b16 t5]) ?_ ?_
      ·as_aux_lemma =>
        have H := o4101h
        have LE4102 := Hp.le_refl M4048
        rcases Zw H with ⟨hb4099, H⟩ | ⟨hb4099, H⟩
        ·skip
         refine Qh (skF hb4099) rfl (Qh (skF hb4099) rfl (Qh (skF hb4099) rfl (Qh (skF hb4099) rfl (Qh (skF hb4099) rfl (Qh (skF hb4099) rfl (Qh (skF hb4099) rfl (W_v (.bool true) (QX (k := true) (congrArg Value.bool hb4099) rfl) rfl (QB ?_))))))))
         exact ⟨true, M4048, Option.some.inj H, ⟨rfl, rfl, rfl, rfl, rfl, rfl, rfl, trivial⟩, (Hp.le_refl M4048), E, S.pick [1, 2] (by decide)⟩
        ·skip
         refine QT (congrArg some hb4099) (W_v (.agg #[vI t5.Tasks, vI t5.Active, vI t5.Keys, vI t5.Depth, vI t5.TS, vI t5.KeyLen, vI t5.ValLen, vI t5.Fan]) (Qi (S.blk 2 rfl) ty23 rfl (QI rfl) rfl rfl) rfl (QT (congrArg some hb4099) (W_v (.slice A10 t8.length c11) (QC rfl) rfl (QT (congrArg some hb4099) (W_v (pt b4065 0) (QG (o := 0) (off := 0) Tryd.underlying66 rfl ty25 rfl rfl) rfl (QT (congrArg some hb4099) (W_v (.slice A4061 ((rd x3570 x3888).l).length c4062) (QQ (S.blk 0 rfl) ty25 rfl rfl) rfl (QT (congrArg some hb4099) ?_))))))))
         obtain ⟨t4103, ht4104, H⟩ := QW H
         refine ZU fn24 (Zp.con k M4048 t5 A10 c11 t8 A4061 c4062 ((rd x3570 x3888).l) t4103 hf43 hs4063 hg0 hg1 ht4104) (Γ1 := []) (Γ2 := [_, _, _]) S rfl rfl ?_
         rintro _ w4108 M4109 Γ' hM4110 E' S ⟨A4105, c4106, rfl, rfl⟩
         replace HM := Hp.le_trans HM hM4110
         replace LE4102 := Hp.le_trans LE4102 hM4110
         replace E := E.trans E'
         refine QT (congrArg some hb4099) (W_v (vI (t4103.length : Int)) (ZK (n := t4103.length) Tryd.underlying62 rfl) rfl (QT (congrArg some hb4099) (W_v (.bool ((t4103.length : Int) != (0 : Int))) (QV rfl rfl rfl rfl) rfl (W_v (.bool ((t4103.length : Int) != (0 : Int))) (QX (k := false) (congrArg Value.bool hb4099) rfl) rfl (QB ?_)))))
         exact ⟨((t4103.length : Int) != (0 : Int)), M4109, Option.some.inj H, ⟨rfl, rfl, rfl, rfl, rfl, rfl, rfl, trivial⟩, LE4102, E, S.pick [2, 3] (by decide)⟩
      as_aux_lemma =>
      rintro ρ w4111 ⟨x4100, M4112, rfl, hρ, hM4113, E, S⟩
      rw [QL hρ]
      replace HM := Hp.le_trans HM hM4113
      replace hM4049 := Hp.le_trans hM4049 hM4113
      have H := o4101H
      refine QB (tn ?_)
      rcases Zw H with ⟨hb4114, H⟩ | ⟨hb4114, H⟩
      ·refine QN (congrArg Value.bool hb4114) ?_
       refine QE (QA (W_v (.bool false) (QD rfl) rfl (QB (tn ?_))))
       refine QZ ?_
       refine br (tr (tr (br (tr (tr (?_))))))
       obtain rfl := Option.some.inj H
       have H := o4046H
       replace H := elimL H
       obtain rfl := Option.some.inj H
       exact ⟨_, _, _, fun w1 e1 => QO (vs := [.bool false]) (FA.cons (rfl) (FA.nil)), HM, E, S.pick [] (by decide), ⟨rfl, rfl⟩⟩
      refine QK (congrArg Value.bool hb4114) (Qk (bn (tn (QA (W_v (vI (IntKind.i64.wrap (x3888 + (1 : Int)))) (QV rfl rfl rfl rfl) rfl (W_v (vI (IntKind.i64.wrap (x3888 + (1 : Int)))) (QC rfl) rfl (QB (tn ?_))))))))
      exact ⟨k, Nat.lt_succ_self k, ⟨(IntKind.i64.wrap (x3888 + (1 : Int))), M4112, H, ⟨rfl, rfl, rfl, rfl, rfl, rfl, trivial⟩, hM4049, E, S.pick [0, 1] (by decide)⟩⟩
     ·skip
      replace H := elimR H
      replace H := elimL H
      refine Z3 fn23 (YT.con k M4048 t5 A10 c11 t8 A4061 c4062 ((rd x3570 x3888).l) (Sum.inr (Sum.inl t4075)) hf43 hs4063 hg0 hg1 ht4073) (Γ1 := []) (Γ2 := [_, _, _]) S rfl rfl (by rintro _ _ _ ⟨rfl, rfl⟩; exact Qd) ?_
      rintro _ w4115 _ Γ' E' S ⟨rfl, rfl⟩
      replace E := E.trans E'
      replace S : St w4115 M4048 F [_, _, _] := S
      refine W_v (.tuple cz24) (QC rfl) rfl (W_v (.pointer none) (QS rfl rfl) rfl (W_v (vI 4) (QS rfl rfl) rfl (W_v (.pointer none) (QD rfl) rfl (W_v (vI 4) (QD rfl) rfl (QB (tn (QE (QA (W_v (vI t4069.1) (QC rfl) rfl (W_v (pt b4065 1) (QG (o := 0) (off := 1) Tryd.underlying66 rfl ty3 rfl rfl) rfl (W_v (vI ((rd x3570 x3888).at_)) (QQ (S.blk 0 rfl) ty3 rfl rfl) rfl (W_v (.bool (t4069.1 != (rd x3570 x3888).at_)) (QV rfl rfl rfl rfl) rfl (W_v (.bool (t4069.1 != (rd x3570 x3888).at_)) (QC rfl) rfl ?_)))))))))))))
      refine ZC 3 (fun ρ w' => Qn ρ [(1, pt b16 0), (2, .slice A10 t8.length c11), (13, .slice A877 t875.length c878), (15, pt b4065 0), (18, .pointer none), (19, vI 4), (160, .slice (some ⟨b3567, 0, none⟩) x3570.length 5), (161, vI (x3570.length : Int)), (162, vI x3888), (189, .bool ((t4069.1 != (rd x3570 x3888).at_) || (t4069.2 != (4 : Int))))] ∧ w4115 = w') ?_ ?_
      ·rcases Qq (t4069.1 != (rd x3570 x3888).at_) with hb4118 | hb4118
       ·skip
        refine QT (congrArg some hb4118) (W_v (vI t4069.2) (QC rfl) rfl (QT (congrArg some hb4118) (W_v (.bool (t4069.2 != (4 : Int))) (QV rfl rfl rfl rfl) rfl (W_v (.bool (t4069.2 != (4 : Int))) (QX (k := false) (congrArg Value.bool hb4118) rfl) rfl (QB ?_)))))
        exact ⟨⟨rfl, rfl, rfl, rfl, rfl, rfl, rfl, rfl, rfl, (by first | rfl | (rw [hb4118]; rfl) | (simp only [hb4118]; rfl)), trivial⟩, rfl⟩
       ·skip
        refine Qh (skF hb4118) rfl (Qh (skF hb4118) rfl (W_v (.bool true) (QX (k := true) (congrArg Value.bool hb4118) rfl) rfl (QB ?_)))
        exact ⟨⟨rfl, rfl, rfl, rfl, rfl, rfl, rfl, rfl, rfl, (by first | rfl | (rw [hb4118]; rfl) | (simp only [hb4118]; rfl)), trivial⟩, rfl⟩
      as_aux_lemma =>
      rintro ρ _ ⟨hρ, rfl⟩
      rw [QL hρ]
      refine W_v (.bool ((t4069.1 != (rd x3570 x3888).at_) || (t4069.2 != (4 : Int)))) (QC rfl) rfl ?_
      refine ZC 3 (fun ρ w' => Qn ρ [(1, pt b16 0), (2, .slice A10 t8.length c11), (13, .slice A877 t875.length c878), (15, pt b4065 0), (19, vI 4), (160, .slice (some ⟨b3567, 0, none⟩) x3570.length 5), (161, vI (x3570.length : Int)), (162, vI x3888), (193, .bool (((t4069.1 != (rd x3570 x3888).at_) || (t4069.2 != (4 : Int))) || false))] ∧ w4115 = w') ?_ ?_
      ·rcases Qq ((t4069.1 != (rd x3570 x3888).at_) || (t4069.2 != (4 : Int))) with hb4119 | hb4119
       ·skip
        refine QT (congrArg some hb4119) (W_v (.pointer none) (QC rfl) rfl (QT (congrArg some hb4119) (W_v (.bool false) (X3 (r := true) rfl rfl (Xt Tryd.underlying39)) rfl (W_v (.bool false) (QX (k := false) (congrArg Value.bool hb4119) rfl) rfl (QB ?_)))))
        exact ⟨⟨rfl, rfl, rfl, rfl, rfl, rfl, rfl, rfl, (by first | rfl | (rw [hb4119]; rfl) | (simp only [hb4119]; rfl)), trivial⟩, rfl⟩
       ·skip
        refine Qh (skF hb4119) rfl (Qh (skF hb4119) rfl (W_v (.bool true) (QX (k := true) (congrArg Value.bool hb4119) rfl) rfl (QB ?_)))
        exact ⟨⟨rfl, rfl, rfl, rfl, rfl, rfl, rfl, rfl, (by first | rfl | (rw [hb4119]; rfl) | (simp only [hb4119]; rfl)), trivial⟩, rfl⟩
      as_aux_lemma =>
      rintro ρ _ ⟨hρ, rfl⟩
      rw [QL hρ]
      refine W_v (.bool (((t4069.1 != (rd x3570 x3888).at_) || (t4069.2 != (4 : Int))) || false)) (QC rfl) rfl ?_
      refine ZC 3 (fun ρ w' => Qn ρ [(1, pt b16 0), (2, .slice A10 t8.length c11), (13, .slice A877 t875.length c878), (15, pt b4065 0), (160, .slice (some ⟨b3567, 0, none⟩) x3570.length 5), (161, vI (x3570.length : Int)), (162, vI x3888), (197, .bool ((((t4069.1 != (rd x3570 x3888).at_) || (t4069.2 != (4 : Int))) || false) || false))] ∧ w4115 = w') ?_ ?_
      ·rcases Qq (((t4069.1 != (rd x3570 x3888).at_) || (t4069.2 != (4 : Int))) || false) with hb4120 | hb4120
       ·skip
        refine QT (congrArg some hb4120) (W_v (vI 4) (QC rfl) rfl (QT (congrArg some hb4120) (W_v (.bool false) (QV rfl rfl rfl rfl) rfl (W_v (.bool false) (QX (k := false) (congrArg Value.bool hb4120) rfl) rfl (QB ?_)))))
        exact ⟨⟨rfl, rfl, rfl, rfl, rfl, rfl, rfl, (by first | rfl | (rw [hb4120]; rfl) | (simp only [hb4120]; rfl)), trivial⟩, rfl⟩
       ·skip
        refine Qh (skF hb4120) rfl (Qh (skF hb4120) rfl (W_v (.bool true) (QX (k := true) (congrArg Value.bool hb4120) rfl) rfl (QB ?_)))
        exact ⟨⟨rfl, rfl, rfl, rfl, rfl, rfl, rfl, (by first | rfl | (rw [hb4120]; rfl) | (simp only [hb4120]; rfl)), trivial⟩, rfl⟩
      as_aux_lemma =>
      rintro ρ _ ⟨hρ, rfl⟩
      rw [QL hρ]
      refine W_v (.bool ((((t4069.1 != (rd x3570 x3888).at_) || (t4069.2 != (4 : Int))) || false) || false)) (QC rfl) rfl ?_
      obtain ⟨o4139, o4139h, o4139H⟩ := QW H
      refine ZC 8 (fun ρ w' => ∃ (x4138 : Bool) (Mj : Hp), (x4138) = o4139 ∧ Qn ρ [(1, pt b16 0), (2, .slice A10 t8.length c11), (13, .slice A877 t875.length c878), (160, .slice (some ⟨b3567, 0, none⟩) x3570.length 5), (161, vI (x3570.length : Int)), (162, vI x3888), (206, .bool x4138)] ∧ M4048.le Mj ∧ Ext w w' ∧ St w' Mj F [Row Vs 66 (.slice (some ⟨b3567, 0, none⟩) x3570.length 5) x3570, B23 b16 t5]) ?_ ?_
      ·as_aux_lemma =>
        have H := o4139h
        have LE4140 := Hp.le_refl M4048
        rcases Zw H with ⟨hb4137, H⟩ | ⟨hb4137, H⟩
        ·skip
         refine Qh (skF hb4137) rfl (Qh (skF hb4137) rfl (Qh (skF hb4137) rfl (Qh (skF hb4137) rfl (Qh (skF hb4137) rfl (Qh (skF hb4137) rfl (Qh (skF hb4137) rfl (W_v (.bool true) (QX (k := true) (congrArg Value.bool hb4137) rfl) rfl (QB ?_))))))))
         exact ⟨true, M4048, Option.some.inj H, ⟨rfl, rfl, rfl, rfl, rfl, rfl, rfl, trivial⟩, (Hp.le_refl M4048), E, S.pick [1, 2] (by decide)⟩
        ·skip
         refine QT (congrArg some hb4137) (W_v (.agg #[vI t5.Tasks, vI t5.Active, vI t5.Keys, vI t5.Depth, vI t5.TS, vI t5.KeyLen, vI t5.ValLen, vI t5.Fan]) (Qi (S.blk 2 rfl) ty23 rfl (QI rfl) rfl rfl) rfl (QT (congrArg some hb4137) (W_v (.slice A10 t8.length c11) (QC rfl) rfl (QT (congrArg some hb4137) (W_v (pt b4065 0) (QG (o := 0) (off := 0) Tryd.underlying66 rfl ty25 rfl rfl) rfl (QT (congrArg some hb4137) (W_v (.slice A4061 ((rd x3570 x3888).l).length c4062) (QQ (S.blk 0 rfl) ty25 rfl rfl) rfl (QT (congrArg some hb4137) ?_))))))))
         obtain ⟨t4141, ht4142, H⟩ := QW H
         refine ZU fn24 (Zp.con k M4048 t5 A10 c11 t8 A4061 c4062 ((rd x3570 x3888).l) t4141 hf43 hs4063 hg0 hg1 ht4142) (Γ1 := []) (Γ2 := [_, _, _]) S rfl rfl ?_
         rintro _ w4146 M4147 Γ' hM4148 E' S ⟨A4143, c4144, rfl, rfl⟩
         replace HM := Hp.le_trans HM hM4148
         replace LE4140 := Hp.le_trans LE4140 hM4148
         replace E := E.trans E'
         refine QT (congrArg some hb4137) (W_v (vI (t4141.length : Int)) (ZK (n := t4141.length) Tryd.underlying62 rfl) rfl (QT (congrArg some hb4137) (W_v (.bool ((t4141.length : Int) != (0 : Int))) (QV rfl rfl rfl rfl) rfl (W_v (.bool ((t4141.length : Int) != (0 : Int))) (QX (k := false) (congrArg Value.bool hb4137) rfl) rfl (QB ?_)))))
         exact ⟨((t4141.length : Int) != (0 : Int)), M4147, Option.some.inj H, ⟨rfl, rfl, rfl, rfl, rfl, rfl, rfl, trivial⟩, LE4140, E, S.pick [2, 3] (by decide)⟩
      as_aux_lemma =>
      rintro ρ w4149 ⟨x4138, M4150, rfl, hρ, hM4151, E, S⟩
      rw [QL hρ]
      replace HM := Hp.le_trans HM hM4151
      replace hM4049 := Hp.le_trans hM4049 hM4151
      have H := o4139H
      refine QB (tn ?_)
      rcases Zw H with ⟨hb4152, H⟩ | ⟨hb4152, H⟩
      ·refine QN (congrArg Value.bool hb4152) ?_
       refine QE (QA (W_v (.bool false) (QD rfl) rfl (QB (tn ?_))))
       refine QZ ?_
       refine br (tr (tr (br (tr (tr (?_))))))
       obtain rfl := Option.some.inj H
       have H := o4046H
       replace H := elimL H
       obtain rfl := Option.some.inj H
       exact ⟨_, _, _, fun w1 e1 => QO (vs := [.bool false]) (FA.cons (rfl) (FA.nil)), HM, E, S.pick [] (by decide), ⟨rfl, rfl⟩⟩
      refine QK (congrArg Value.bool hb4152) (Qk (bn (tn (QA (W_v (vI (IntKind.i64.wrap (x3888 + (1 : Int)))) (QV rfl rfl rfl rfl) rfl (W_v (vI (IntKind.i64.wrap (x3888 + (1 : Int)))) (QC rfl) rfl (QB (tn ?_))))))))
      exact ⟨k, Nat.lt_succ_self k, ⟨(IntKind.i64.wrap (x3888 + (1 : Int))), M4150, H, ⟨rfl, rfl, rfl, rfl, rfl, rfl, trivial⟩, hM4049, E, S.pick [0, 1] (by decide)⟩⟩
     ·skip
      replace H := elimR H
      replace H := elimR H
      refine ZU fn23 (YT.con k M4048 t5 A10 c11 t8 A4061 c4062 ((rd x3570 x3888).l) (Sum.inr (Sum.inr t4076)) hf43 hs4063 hg0 hg1 ht4073) (Γ1 := []) (Γ2 := [_, _, _]) S rfl rfl ?_
      rintro _ w4169 M4170 Γ' hM4171 E' S ⟨b4153, A4155, c4156, A4158, c4159, A4161, c4162, A4164, c4165, vs4167, rfl, hm4168, rfl⟩
      replace hg0 := gup hg0 hM4171
      replace hg1 := gup hg1 hM4171
      replace HM := Hp.le_trans HM hM4171
      replace hM4049 := Hp.le_trans hM4049 hM4171
      replace hf43 := SlR.mono hf43 hM4171
      replace hs4063 := SlR.mono hs4063 hM4171
      replace E := E.trans E'
      replace S : St w4169 M4170 F [_, _, _, _, _, _, _, _] := S
      refine W_v (.tuple #[pt b4153 0, vI 0]) (QC rfl) rfl (W_v (pt b4153 0) (QS rfl rfl) rfl (W_v (vI 0) (QS rfl rfl) rfl (W_v (pt b4153 0) (QD rfl) rfl (W_v (vI 0) (QD rfl) rfl (QB (tn (QE (QA (W_v (vI t4069.1) (QC rfl) rfl (W_v (pt b4065 1) (QG (o := 0) (off := 1) Tryd.underlying66 rfl ty3 rfl rfl) rfl (W_v (vI ((rd x3570 x3888).at_)) (QQ (S.blk 5 rfl) ty3 rfl rfl) rfl (W_v (.bool (t4069.1 != (rd x3570 x3888).at_)) (QV rfl rfl rfl rfl) rfl (W_v (.bool (t4069.1 != (rd x3570 x3888).at_)) (QC rfl) rfl ?_)))))))))))))
      refine ZC 3 (fun ρ w' => Qn ρ [(1, pt b16 0), (2, .slice A10 t8.length c11), (13, .slice A877 t875.length c878), (15, pt b4065 0), (18, pt b4153 0), (19, vI 0), (160, .slice (some ⟨b3567, 0, none⟩) x3570.length 5), (161, vI (x3570.length : Int)), (162, vI x3888), (189, .bool ((t4069.1 != (rd x3570 x3888).at_) || (t4069.2 != (4 : Int))))] ∧ w4169 = w') ?_ ?_
      ·rcases Qq (t4069.1 != (rd x3570 x3888).at_) with hb4172 | hb4172
       ·skip
        refine QT (congrArg some hb4172) (W_v (vI t4069.2) (QC rfl) rfl (QT (congrArg some hb4172) (W_v (.bool (t4069.2 != (4 : Int))) (QV rfl rfl rfl rfl) rfl (W_v (.bool (t4069.2 != (4 : Int))) (QX (k := false) (congrArg Value.bool hb4172) rfl) rfl (QB ?_)))))
        exact ⟨⟨rfl, rfl, rfl, rfl, rfl, rfl, rfl, rfl, rfl, (by first | rfl | (rw [hb4172]; rfl) | (simp only [hb4172]; rfl)), trivial⟩, rfl⟩
       ·skip
        refine Qh (skF hb4172) rfl (Qh (skF hb4172) rfl (W_v (.bool true) (QX (k := true) (congrArg Value.bool hb4172) rfl) rfl (QB ?_)))
        exact ⟨⟨rfl, rfl, rfl, rfl, rfl, rfl, rfl, rfl, rfl, (by first | rfl | (rw [hb4172]; rfl) | (simp only [hb4172]; rfl)), trivial⟩, rfl⟩
      as_aux_lemma =>
      rintro ρ _ ⟨hρ, rfl⟩
      rw [QL hρ]
      refine W_v (.bool ((t4069.1 != (rd x3570 x3888).at_) || (t4069.2 != (4 : Int)))) (QC rfl) rfl ?_
      refine ZC 3 (fun ρ w' => Qn ρ [(1, pt b16 0), (2, .slice A10 t8.length c11), (13, .slice A877 t875.length c878), (15, pt b4065 0), (19, vI 0), (160, .slice (some ⟨b3567, 0, none⟩) x3570.length 5), (161, vI (x3570.length : Int)), (162, vI x3888), (193, .bool (((t4069.1 != (rd x3570 x3888).at_) || (t4069.2 != (4 : Int))) || true))] ∧ w4169 = w') ?_ ?_
      ·rcases Qq ((t4069.1 != (rd x3570 x3888).at_) || (t4069.2 != (4 : Int))) with hb4173 | hb4173
       ·skip
        refine QT (congrArg some hb4173) (W_v (pt b4153 0) (QC rfl) rfl (QT (congrArg some hb4173) (W_v (.bool true) (X3 (r := false) rfl rfl (XH Tryd.underlying39)) rfl (W_v (.bool true) (QX (k := false) (congrArg Value.bool hb4173) rfl) rfl (QB ?_)))))
        exact ⟨⟨rfl, rfl, rfl, rfl, rfl, rfl, rfl, rfl, (by first | rfl | (rw [hb4173]; rfl) | (simp only [hb4173]; rfl)), trivial⟩, rfl⟩
       ·skip
        refine Qh (skF hb4173) rfl (Qh (skF hb4173) rfl (W_v (.bool true) (QX (k := true) (congrArg Value.bool hb4173) rfl) rfl (QB ?_)))
        exact ⟨⟨rfl, rfl, rfl, rfl, rfl, rfl, rfl, rfl, (by first | rfl | (rw [hb4173]; rfl) | (simp only [hb4173]; rfl)), trivial⟩, rfl⟩
      as_aux_lemma =>
      rintro ρ _ ⟨hρ, rfl⟩
      rw [QL hρ]
      refine W_v (.bool (((t4069.1 != (rd x3570 x3888).at_) || (t4069.2 != (4 : Int))) || true)) (QC rfl) rfl ?_
      refine ZC 3 (fun ρ w' => Qn ρ [(1, pt b16 0), (2, .slice A10 t8.length c11), (13, .slice A877 t875.length c878), (15, pt b4065 0), (160, .slice (some ⟨b3567, 0, none⟩) x3570.length 5), (161, vI (x3570.length : Int)), (162, vI x3888), (197, .bool ((((t4069.1 != (rd x3570 x3888).at_) || (t4069.2 != (4 : Int))) || true) || true))] ∧ w4169 = w') ?_ ?_
      ·rcases Qq (((t4069.1 != (rd x3570 x3888).at_) || (t4069.2 != (4 : Int))) || true) with hb4174 | hb4174
       ·skip
        refine QT (congrArg some hb4174) (W_v (vI 0) (QC rfl) rfl (QT (congrArg some hb4174) (W_v (.bool true) (QV rfl rfl rfl rfl) rfl (W_v (.bool true) (QX (k := false) (congrArg Value.bool hb4174) rfl) rfl (QB ?_)))))
        exact ⟨⟨rfl, rfl, rfl, rfl, rfl, rfl, rfl, (by first | rfl | (rw [hb4174]; rfl) | (simp only [hb4174]; rfl)), trivial⟩, rfl⟩
       ·skip
        refine Qh (skF hb4174) rfl (Qh (skF hb4174) rfl (W_v (.bool true) (QX (k := true) (congrArg Value.bool hb4174) rfl) rfl (QB ?_)))
        exact ⟨⟨rfl, rfl, rfl, rfl, rfl, rfl, rfl, (by first | rfl | (rw [hb4174]; rfl) | (simp only [hb4174]; rfl)), trivial⟩, rfl⟩
      as_aux_lemma =>
      rintro ρ _ ⟨hρ, rfl⟩
      rw [QL hρ]
      refine W_v (.bool ((((t4069.1 != (rd x3570 x3888).at_) || (t4069.2 != (4 : Int))) || true) || true)) (QC rfl) rfl ?_
      obtain ⟨o4193, o4193h, o4193H⟩ := QW H
      refine ZC 8 (fun ρ w' => ∃ (x4192 : Bool) (Mj : Hp), (x4192) = o4193 ∧ Qn ρ [(1, pt b16 0), (2, .slice A10 t8.length c11), (13, .slice A877 t875.length c878), (160, .slice (some ⟨b3567, 0, none⟩) x3570.length 5), (161, vI (x3570.length : Int)), (162, vI x3888), (206, .bool x4192)] ∧ M4170.le Mj ∧ Ext w w' ∧ St w' Mj F [Row Vs 66 (.slice (some ⟨b3567, 0, none⟩) x3570.length 5) x3570, B23 b16 t5]) ?_ ?_
      ·as_aux_lemma =>
        have H := o4193h
        have LE4194 := Hp.le_refl M4170
        rcases Zw H with ⟨hb4191, H⟩ | ⟨hb4191, H⟩
        ·skip
         refine Qh (skF hb4191) rfl (Qh (skF hb4191) rfl (Qh (skF hb4191) rfl (Qh (skF hb4191) rfl (Qh (skF hb4191) rfl (Qh (skF hb4191) rfl (Qh (skF hb4191) rfl (W_v (.bool true) (QX (k := true) (congrArg Value.bool hb4191) rfl) rfl (QB ?_))))))))
         exact ⟨true, M4170, Option.some.inj H, ⟨rfl, rfl, rfl, rfl, rfl, rfl, rfl, trivial⟩, (Hp.le_refl M4170), E, S.pick [6, 7] (by decide)⟩
        ·skip
         refine QT (congrArg some hb4191) (W_v (.agg #[vI t5.Tasks, vI t5.Active, vI t5.Keys, vI t5.Depth, vI t5.TS, vI t5.KeyLen, vI t5.ValLen, vI t5.Fan]) (Qi (S.blk 7 rfl) ty23 rfl (QI rfl) rfl rfl) rfl (QT (congrArg some hb4191) (W_v (.slice A10 t8.length c11) (QC rfl) rfl (QT (congrArg some hb4191) (W_v (pt b4065 0) (QG (o := 0) (off := 0) Tryd.underlying66 rfl ty25 rfl rfl) rfl (QT (congrArg some hb4191) (W_v (.slice A4061 ((rd x3570 x3888).l).length c4062) (QQ (S.blk 5 rfl) ty25 rfl rfl) rfl (QT (congrArg some hb4191) ?_))))))))
         obtain ⟨t4195, ht4196, H⟩ := QW H
         refine ZU fn24 (Zp.con k M4170 t5 A10 c11 t8 A4061 c4062 ((rd x3570 x3888).l) t4195 hf43 hs4063 hg0 hg1 ht4196) (Γ1 := []) (Γ2 := [_, _, _, _, _, _, _, _]) S rfl rfl ?_
         rintro _ w4200 M4201 Γ' hM4202 E' S ⟨A4197, c4198, rfl, rfl⟩
         replace HM := Hp.le_trans HM hM4202
         replace LE4194 := Hp.le_trans LE4194 hM4202
         replace E := E.trans E'
         refine QT (congrArg some hb4191) (W_v (vI (t4195.length : Int)) (ZK (n := t4195.length) Tryd.underlying62 rfl) rfl (QT (congrArg some hb4191) (W_v (.bool ((t4195.length : Int) != (0 : Int))) (QV rfl rfl rfl rfl) rfl (W_v (.bool ((t4195.length : Int) != (0 : Int))) (QX (k := false) (congrArg Value.bool hb4191) rfl) rfl (QB ?_)))))
         exact ⟨((t4195.length : Int) != (0 : Int)), M4201, Option.some.inj H, ⟨rfl, rfl, rfl, rfl, rfl, rfl, rfl, trivial⟩, LE4194, E, S.pick [7, 8] (by decide)⟩
      as_aux_lemma =>
      rintro ρ w4203 ⟨x4192, M4204, rfl, hρ, hM4205, E, S⟩
      rw [QL hρ]
      replace HM := Hp.le_trans HM hM4205
      replace hM4049 := Hp.le_trans hM4049 hM4205
      have H := o4193H
      refine QB (tn ?_)
      rcases Zw H with ⟨hb4206, H⟩ | ⟨hb4206, H⟩
      ·refine QN (congrArg Value.bool hb4206) ?_
       refine QE (QA (W_v (.bool false) (QD rfl) rfl (QB (tn ?_))))
       refine QZ ?_
       refine br (tr (tr (br (tr (tr (?_))))))
       obtain rfl := Option.some.inj H
       have H := o4046H
       replace H := elimL H
       obtain rfl := Option.some.inj H
       exact ⟨_, _, _, fun w1 e1 => QO (vs := [.bool false]) (FA.cons (rfl) (FA.nil)), HM, E, S.pick [] (by decide), ⟨rfl, rfl⟩⟩
      refine QK (congrArg Value.bool hb4206) (Qk (bn (tn (QA (W_v (vI (IntKind.i64.wrap (x3888 + (1 : Int)))) (QV rfl rfl rfl rfl) rfl (W_v (vI (IntKind.i64.wrap (x3888 + (1 : Int)))) (QC rfl) rfl (QB (tn ?_))))))))
      exact ⟨k, Nat.lt_succ_self k, ⟨(IntKind.i64.wrap (x3888 + (1 : Int))), M4204, H, ⟨rfl, rfl, rfl, rfl, rfl, rfl, trivial⟩, hM4049, E, S.pick [0, 1] (by decide)⟩⟩
    refine QK (congrArg Value.bool hb4050) ?_
    refine Ys ?_
    refine tx (tx (bsm (?_)))
    refine tn ?_
    exact ⟨M4048, Option.some.inj H, ⟨rfl, rfl, rfl, trivial⟩, hM4049, E, S.pick [1] (by decide)⟩
 rintro ρ w4207 ⟨M4208, rfl, hρ, hM4209, E, S⟩
 rw [QL hρ]
 replace hg0 := gup hg0 hM4209
 replace hg1 := gup hg1 hM4209
 replace HM := Hp.le_trans HM hM4209
 replace hf43 := SlR.mono hf43 hM4209
 replace hf1782 := SlR.mono hf1782 hM4209
 have H := o4046H
 replace H := elimR H
 refine tn ?_
 as_aux_lemma =>
 refine QE (QA (W_v (.agg #[vI t5.Tasks, vI t5.Active, vI t5.Keys, vI t5.Depth, vI t5.TS, vI t5.KeyLen, vI t5.ValLen, vI t5.Fan]) (Qi (S.blk 0 rfl) ty23 rfl (QI rfl) rfl rfl) rfl (W_v (.slice A10 t8.length c11) (QC rfl) rfl (W_v (.slice A877 t875.length c878) (QC rfl) rfl ?_))))
 obtain ⟨t4210, ht4211, H⟩ := QW H
 refine YM fn10 (Ze.con k M4208 t5 A10 c11 t8 A877 c878 t875 t4210 hf43 hf1782 hg0 hg1 ht4211) S rfl rfl (by rintro _ _ _ ⟨_, rfl⟩; exact Qd) ?_
 rintro _ w4212 _ Γ' E' S ⟨rfl, rfl⟩
 replace E := E.trans E'
 refine W_v (.tuple #[.bool t4210.1, vI t4210.2]) (QC rfl) rfl (W_v (.bool t4210.1) (QS rfl rfl) rfl (W_v (vI t4210.2) (QS rfl rfl) rfl (W_v (.bool t4210.1) (QD rfl) rfl (W_v (vI t4210.2) (QD rfl) rfl (QB (tn (QE ?_)))))))
 refine Qo (S := fun w' => ∃ Mx, M4208.le Mx ∧ St w' Mx F [B23 b16 t5]) (L := 9) mixed ?_
 intro w4223 hw4224 E'
 replace S := S.heap hw4224
 replace E := E.trans E'
 have D6 : ∃ Mx, Hp.le M4208 Mx ∧ St _ Mx F [_] := ⟨_, Hp.le_refl _, S.pick [0] (by decide)⟩
 refine Wt 0 rfl rfl rfl (.agg #[vI t5.Tasks, vI t5.Active, vI t5.Keys, vI t5.Depth, vI t5.TS, vI t5.KeyLen, vI t5.ValLen, vI t5.Fan]) rfl (fun w' h' => Qi (Qg h' 0 rfl) ty23 rfl (QI rfl) rfl rfl) D6 (Wt 1 rfl rfl rfl (.slice A10 t8.length c11) rfl (fun w' h' => QC rfl) D6 ?_)
 refine Wo 2 rfl ?_
 obtain ⟨⟨p4225, p4226, p4227, p4228⟩, H⟩ := YN H
 refine X7 (r := QJ) S cz19 Tryd.underlying25 ty55 rfl (by decide) (fun _ => ⟨_, SlW.nil _ _, rfl⟩) rfl rfl p4225 p4226 p4227 p4228 rfl ?_
 intro b4229 w4230 E' S
 replace E := E.trans E'
 refine QB (Zo ⟨.inr ⟨M4208, Hp.le_refl M4208, (S.pick [1] (by decide))⟩, ?_⟩)
 refine Wo 3 rfl ?_
 obtain ⟨t4232, ht4233, H⟩ := QW H
 refine Xe 1 fn10 (fun h9 hs9 hd9 => Ze.con k _ t5 A10 c11 t8 (some ⟨b4229, 0, none⟩) ((25 : Int).toNat) (List.replicate (25 : Int).toNat cz19) t4232 (SlR.mono hf43 (Hp.le_union_left _ _)) (Sats.row hs9 hd9 0 rfl) (let ⟨gt, fr, h8⟩ := hg0; ⟨gt, fr, Hp.le_union_left _ _ _ _ h8⟩) (let ⟨gt, fr, h8⟩ := hg1; ⟨gt, fr, Hp.le_union_left _ _ _ _ h8⟩) ht4233) S rfl rfl (by rintro _ _ _ ⟨_, rfl⟩; exact Qd) ?_
 rintro _ w4234 _ Γ' E' S ⟨rfl, rfl⟩
 replace E := E.trans E'
 refine QB (Zo ⟨.inr ⟨M4208, Hp.le_refl M4208, (S.pick [1] (by decide))⟩, ?_⟩)
 have D7 : ∃ Mx, Hp.le M4208 Mx ∧ St _ Mx F [_] := ⟨_, Hp.le_refl _, S.pick [1] (by decide)⟩
 refine Wt 4 rfl rfl rfl (.tuple #[.bool t4232.1, vI t4232.2]) rfl (fun w' h' => QC rfl) D7 (Wt 5 rfl rfl rfl (.bool t4232.1) rfl (fun w' h' => QS rfl rfl) D7 (Wt 6 rfl rfl rfl (vI t4232.2) rfl (fun w' h' => QS rfl rfl) D7 (Wt 7 rfl rfl rfl (.bool t4232.1) rfl (fun w' h' => QD rfl) D7 (Wt 8 rfl rfl rfl (vI t4232.2) rfl (fun w' h' => QD rfl) D7 ?_))))
 refine Wz ?_
 refine tn (QE ?_)
 have LE4249 := Hp.le_refl M4208
 refine Qo (S := fun w' => ∃ Mx, M4208.le Mx ∧ St w' Mx F [Row QJ 55 (.slice (some ⟨b4229, 0, none⟩) (List.replicate (25 : Int).toNat cz19).length ((25 : Int).toNat)) (List.replicate (25 : Int).toNat cz19), B23 b16 t5]) (L := 11) mixed ?_
 intro w4250 hw4251 E'
 replace S := S.heap hw4251
 replace E := E.trans E'
 have hf1782z := hf1782
 have D8 : ∃ Mx, Hp.le M4208 Mx ∧ St _ Mx F [_, _] := ⟨_, Hp.le_refl _, S.pick [0, 1] (by decide)⟩
 refine Wt 0 rfl rfl rfl (.agg #[vI t5.Tasks, vI t5.Active, vI t5.Keys, vI t5.Depth, vI t5.TS, vI t5.KeyLen, vI t5.ValLen, vI t5.Fan]) rfl (fun w' h' => Qi (Qg h' 1 rfl) ty23 rfl (QI rfl) rfl rfl) D8 (Wt 1 rfl rfl rfl (.slice A10 t8.length c11) rfl (fun w' h' => QC rfl) D8 (Wt 2 rfl rfl rfl (.agg cz17) rfl (fun w' h' => Qr (pl := [(0, 1), (1, 1), (2, 1), (3, 1)]) cz17 Tryd.underlying34 ty34 (by as_aux_lemma => kernel_rfl) rfl (by as_aux_lemma => kernel_rfl)) D8 ?_))
 refine Wo 3 rfl ?_
 obtain ⟨t4252, ht4253, H⟩ := QW H
 refine ZU fn26 (Qf.con k M4208 (3 : Int) (0 : Int) (0 : Int) none 0 cz11 t4252 (SlW.nil _ _) ht4253) (Γ1 := []) (Γ2 := [_, _]) S rfl rfl ?_
 rintro _ w4257 M4258 Γ' hM4259 E' S ⟨A4254, c4255, rfl, hs4256, rfl⟩
 replace hg0 := gup hg0 hM4259
 replace hg1 := gup hg1 hM4259
 replace HM := Hp.le_trans HM hM4259
 replace LE4249 := Hp.le_trans LE4249 hM4259
 replace hf43 := SlR.mono hf43 hM4259
 replace hf1782 := SlR.mono hf1782 hM4259
 replace E := E.trans E'
 refine QB (Zo ⟨.inr ⟨M4258, LE4249, (S.pick [0, 1] (by decide))⟩, ?_⟩)
 refine Wo 4 rfl ?_
 refine Zt S #[vU t4252.What, vI t4252.Task, vI t4252.Call, vI t4252.Answer.Err, .bool t4252.Answer.Found, vS t4252.Answer.Value, .slice A4254 t4252.Answer.Pairs.length c4255] Tryd.underlying25 ty55 rfl rfl cz8 (by as_aux_lemma => kernel_rfl) (by as_aux_lemma => kernel_rfl) rfl ?_
 intro b4260 w4261 E' S
 replace E := E.trans E'
 replace S := S.blk_row (r := QJ) (l := ([t4252] : List QF)) 0 rfl 1 (Nat.le_refl 1) rfl (Cells.cons (vs := [vU t4252.What, vI t4252.Task, vI t4252.Call, vI t4252.Answer.Err, .bool t4252.Answer.Found, vS t4252.Answer.Value, .slice A4254 t4252.Answer.Pairs.length c4255]) (⟨_, hs4256, rfl⟩) Cells.nil)
 refine QB (Zo ⟨.inr ⟨M4258, LE4249, (S.pick [1, 2] (by decide))⟩, ?_⟩)
 refine Wo 5 rfl ?_
 obtain ⟨t4263, ht4264, H⟩ := QW H
 refine Xe 1 fn10 (fun h9 hs9 hd9 => Ze.con k _ t5 A10 c11 t8 (some ⟨b4260, 0, none⟩) 1 ([t4252] : List QF) t4263 (SlR.mono hf43 (Hp.le_union_left _ _)) (Sats.row hs9 hd9 0 rfl) (let ⟨gt, fr, h8⟩ := hg0; ⟨gt, fr, Hp.le_union_left _ _ _ _ h8⟩) (let ⟨gt, fr, h8⟩ := hg1; ⟨gt, fr, Hp.le_union_left _ _ _ _ h8⟩) ht4264) S rfl rfl (by rintro _ _ _ ⟨_, rfl⟩; exact Qd) ?_
 rintro _ w4265 _ Γ' E' S ⟨rfl, rfl⟩
 replace E := E.trans E'
 refine QB (Zo ⟨.inr ⟨M4258, LE4249, (S.pick [1, 2] (by decide))⟩, ?_⟩)
 refine Wt 6 rfl rfl rfl (.tuple #[.bool t4263.1, vI t4263.2]) rfl (fun w' h' => QC rfl) (⟨M4258, LE4249, (S.pick [1, 2] (by decide))⟩) (Wt 7 rfl rfl rfl (.bool t4263.1) rfl (fun w' h' => QS rfl rfl) (⟨M4258, LE4249, (S.pick [1, 2] (by decide))⟩) (Wt 8 rfl rfl rfl (vI t4263.2) rfl (fun w' h' => QS rfl rfl) (⟨M4258, LE4249, (S.pick [1, 2] (by decide))⟩) (Wt 9 rfl rfl rfl (.bool t4263.1) rfl (fun w' h' => QD rfl) (⟨M4258, LE4249, (S.pick [1, 2] (by decide))⟩) (Wt 10 rfl rfl rfl (vI t4263.2) rfl (fun w' h' => QD rfl) (⟨M4258, LE4249, (S.pick [1, 2] (by decide))⟩) ?_))))
 refine Wz ?_
 refine tn ?_
 as_aux_lemma =>
 refine QE (QA (W_v (.agg #[vI t5.Tasks, vI t5.Active, vI t5.Keys, vI t5.Depth, vI t5.TS, vI t5.KeyLen, vI t5.ValLen, vI t5.Fan]) (Qi (S.blk 2 rfl) ty23 rfl (QI rfl) rfl rfl) rfl (W_v (.slice A10 t8.length c11) (QC rfl) rfl ?_)))
 obtain ⟨t4266, ht4267, H⟩ := QW H
 refine YM fn10 (Ze.con k M4258 t5 A10 c11 t8 none 0 ([] : (List QF)) t4266 hf43 (SlW.nil _ _) hg0 hg1 ht4267) S rfl rfl (by rintro _ _ _ ⟨_, rfl⟩; exact Qd) ?_
 rintro _ w4268 _ Γ' E' S ⟨rfl, rfl⟩
 replace E := E.trans E'
 refine W_v (.tuple #[.bool t4266.1, vI t4266.2]) (QC rfl) rfl (W_v (.bool t4266.1) (QS rfl rfl) rfl (W_v (vI t4266.2) (QS rfl rfl) rfl (W_v (.bool t4266.1) (QD rfl) rfl (W_v (vI t4266.2) (QD rfl) rfl (QB (tn (QE ?_)))))))
 have LE4282 := Hp.le_refl M4258
 refine Qo (S := fun w' => ∃ Mx, M4258.le Mx ∧ St w' Mx F [Row QJ 55 (.slice (some ⟨b4260, 0, none⟩) ([t4252] : List QF).length 1) ([t4252] : List QF), Row QJ 55 (.slice (some ⟨b4229, 0, none⟩) (List.replicate (25 : Int).toNat cz19).length ((25 : Int).toNat)) (List.replicate (25 : Int).toNat cz19), B23 b16 t5]) (L := 6) mixed ?_
 intro w4283 hw4284 E'
 replace S := S.heap hw4284
 replace E := E.trans E'
 have hf1782z := hf1782
 have D9 : ∃ Mx, Hp.le M4258 Mx ∧ St _ Mx F [_, _, _] := ⟨_, Hp.le_refl _, S.pick [0, 1, 2] (by decide)⟩
 refine Wt 0 rfl rfl rfl (.agg #[vI t5.Tasks, vI t5.Active, vI t5.Keys, vI t5.Depth, vI t5.TS, vI t5.KeyLen, vI t5.ValLen, vI t5.Fan]) rfl (fun w' h' => Qi (Qg h' 2 rfl) ty23 rfl (QI rfl) rfl rfl) D9 (Wt 1 rfl rfl rfl (.slice A10 t8.length c11) rfl (fun w' h' => QC rfl) D9 (Wt 2 rfl rfl rfl (.slice A877 t875.length c878) rfl (fun w' h' => QC rfl) D9 ?_))
 obtain ⟨⟨p4285, p4286⟩, H⟩ := YN H
 obtain ⟨hs4288, hx4289⟩ := J3 hf1782z p4285 p4286
 refine Wt 3 rfl rfl rfl (.slice A877 (List.take (11 : Int).toNat t875).length c878) rfl (fun w' h' => hx4289 Tryd.underlying25 ty55 rfl rfl) D9 ?_
 refine Wo 4 rfl ?_
 obtain ⟨t4290, ht4291, H⟩ := QW H
 refine ZU fn24 (Zp.con k M4258 t5 A10 c11 t8 A877 c878 (List.take (11 : Int).toNat t875) t4290 hf43 hs4288 hg0 hg1 ht4291) (Γ1 := []) (Γ2 := [_, _, _]) S rfl rfl ?_
 rintro _ w4295 M4296 Γ' hM4297 E' S ⟨A4292, c4293, rfl, rfl⟩
 replace hg0 := gup hg0 hM4297
 replace hg1 := gup hg1 hM4297
 replace HM := Hp.le_trans HM hM4297
 replace LE4282 := Hp.le_trans LE4282 hM4297
 replace E := E.trans E'
 refine QB (Zo ⟨.inr ⟨M4296, LE4282, (S.pick [1, 2, 3] (by decide))⟩, ?_⟩)
 refine Wt 5 rfl rfl rfl (.slice A4292 t4290.length c4293) rfl (fun w' h' => QD rfl) (⟨M4296, LE4282, (S.pick [1, 2, 3] (by decide))⟩) ?_
 refine Wz ?_
 refine tn ?_
 as_aux_lemma =>
 refine QE (QE (QA (W_v (vI t4210.2) (QC rfl) rfl (W_v (.bool (t4210.2 != (4 : Int))) (QV rfl rfl rfl rfl) rfl (W_v (.bool (t4210.2 != (4 : Int))) (QC rfl) rfl ?_)))))
 refine ZC 3 (fun ρ w' => Qn ρ [(1, pt b16 0), (25, vI t4263.2), (26, .bool t4266.1), (27, vI t4266.2), (28, .slice A4292 t4290.length c4293), (247, .bool ((t4210.2 != (4 : Int)) || (t4232.2 != (40 : Int))))] ∧ w4295 = w') ?_ ?_
 ·rcases Qq (t4210.2 != (4 : Int)) with hb4298 | hb4298
  ·skip
   refine QT (congrArg some hb4298) (W_v (vI t4232.2) (QC rfl) rfl (QT (congrArg some hb4298) (W_v (.bool (t4232.2 != (40 : Int))) (QV rfl rfl rfl rfl) rfl (W_v (.bool (t4232.2 != (40 : Int))) (QX (k := false) (congrArg Value.bool hb4298) rfl) rfl (QB ?_)))))
   exact ⟨⟨rfl, rfl, rfl, rfl, rfl, (by first | rfl | (rw [hb4298]; rfl) | (simp only [hb4298]; rfl)), trivial⟩, rfl⟩
  ·skip
   refine Qh (skF hb4298) rfl (Qh (skF hb4298) rfl (W_v (.bool true) (QX (k := true) (congrArg Value.bool hb4298) rfl) rfl (QB ?_)))
   exact ⟨⟨rfl, rfl, rfl, rfl, rfl, (by first | rfl | (rw [hb4298]; rfl) | (simp only [hb4298]; rfl)), trivial⟩, rfl⟩
 as_aux_lemma =>
 rintro ρ _ ⟨hρ, rfl⟩
 rw [QL hρ]
 refine W_v (.bool ((t4210.2 != (4 : Int)) || (t4232.2 != (40 : Int)))) (QC rfl) rfl ?_
 refine ZC 3 (fun ρ w' => Qn ρ [(1, pt b16 0), (26, .bool t4266.1), (27, vI t4266.2), (28, .slice A4292 t4290.length c4293), (251, .bool (((t4210.2 != (4 : Int)) || (t4232.2 != (40 : Int))) || (t4263.2 != (4 : Int))))] ∧ w4295 = w') ?_ ?_
 ·rcases Qq ((t4210.2 != (4 : Int)) || (t4232.2 != (40 : Int))) with hb4299 | hb4299
  ·skip
   refine QT (congrArg some hb4299) (W_v (vI t4263.2) (QC rfl) rfl (QT (congrArg some hb4299) (W_v (.bool (t4263.2 != (4 : Int))) (QV rfl rfl rfl rfl) rfl (W_v (.bool (t4263.2 != (4 : Int))) (QX (k := false) (congrArg Value.bool hb4299) rfl) rfl (QB ?_)))))
   exact ⟨⟨rfl, rfl, rfl, rfl, (by first | rfl | (rw [hb4299]; rfl) | (simp only [hb4299]; rfl)), trivial⟩, rfl⟩
  ·skip
   refine Qh (skF hb4299) rfl (Qh (skF hb4299) rfl (W_v (.bool true) (QX (k := true) (congrArg Value.bool hb4299) rfl) rfl (QB ?_)))
   exact ⟨⟨rfl, rfl, rfl, rfl, (by first | rfl | (rw [hb4299]; rfl) | (simp only [hb4299]; rfl)), trivial⟩, rfl⟩
 as_aux_lemma =>
 rintro ρ _ ⟨hρ, rfl⟩
 rw [QL hρ]
 refine W_v (.bool (((t4210.2 != (4 : Int)) || (t4232.2 != (40 : Int))) || (t4263.2 != (4 : Int)))) (QC rfl) rfl ?_
 refine ZC 3 (fun ρ w' => Qn ρ [(1, pt b16 0), (27, vI t4266.2), (28, .slice A4292 t4290.length c4293), (255, .bool ((((t4210.2 != (4 : Int)) || (t4232.2 != (40 : Int))) || (t4263.2 != (4 : Int))) || (!t4266.1)))] ∧ w4295 = w') ?_ ?_
 ·rcases Qq (((t4210.2 != (4 : Int)) || (t4232.2 != (40 : Int))) || (t4263.2 != (4 : Int))) with hb4300 | hb4300
  ·skip
   refine QT (congrArg some hb4300) (W_v (.bool t4266.1) (QC rfl) rfl (QT (congrArg some hb4300) (W_v (.bool (!t4266.1)) (Yy (b := t4266.1) rfl) rfl (W_v (.bool (!t4266.1)) (QX (k := false) (congrArg Value.bool hb4300) rfl) rfl (QB ?_)))))
   exact ⟨⟨rfl, rfl, rfl, (by first | rfl | (rw [hb4300]; rfl) | (simp only [hb4300]; rfl)), trivial⟩, rfl⟩
  ·skip
   refine Qh (skF hb4300) rfl (Qh (skF hb4300) rfl (W_v (.bool true) (QX (k := true) (congrArg Value.bool hb4300) rfl) rfl (QB ?_)))
   exact ⟨⟨rfl, rfl, rfl, (by first | rfl | (rw [hb4300]; rfl) | (simp only [hb4300]; rfl)), trivial⟩, rfl⟩
 as_aux_lemma =>
 rintro ρ _ ⟨hρ, rfl⟩
 rw [QL hρ]
 refine W_v (.bool ((((t4210.2 != (4 : Int)) || (t4232.2 != (40 : Int))) || (t4263.2 != (4 : Int))) || (!t4266.1))) (QC rfl) rfl ?_
 refine ZC 3 (fun ρ w' => Qn ρ [(1, pt b16 0), (28, .slice A4292 t4290.length c4293), (259, .bool (((((t4210.2 != (4 : Int)) || (t4232.2 != (40 : Int))) || (t4263.2 != (4 : Int))) || (!t4266.1)) || (t4266.2 != (0 : Int))))] ∧ w4295 = w') ?_ ?_
 ·rcases Qq ((((t4210.2 != (4 : Int)) || (t4232.2 != (40 : Int))) || (t4263.2 != (4 : Int))) || (!t4266.1)) with hb4301 | hb4301
  ·skip
   refine QT (congrArg some hb4301) (W_v (vI t4266.2) (QC rfl) rfl (QT (congrArg some hb4301) (W_v (.bool (t4266.2 != (0 : Int))) (QV rfl rfl rfl rfl) rfl (W_v (.bool (t4266.2 != (0 : Int))) (QX (k := false) (congrArg Value.bool hb4301) rfl) rfl (QB ?_)))))
   exact ⟨⟨rfl, rfl, (by first | rfl | (rw [hb4301]; rfl) | (simp only [hb4301]; rfl)), trivial⟩, rfl⟩
  ·skip
   refine Qh (skF hb4301) rfl (Qh (skF hb4301) rfl (W_v (.bool true) (QX (k := true) (congrArg Value.bool hb4301) rfl) rfl (QB ?_)))
   exact ⟨⟨rfl, rfl, (by first | rfl | (rw [hb4301]; rfl) | (simp only [hb4301]; rfl)), trivial⟩, rfl⟩
 as_aux_lemma =>
 rintro ρ _ ⟨hρ, rfl⟩
 rw [QL hρ]
 refine W_v (.bool (((((t4210.2 != (4 : Int)) || (t4232.2 != (40 : Int))) || (t4263.2 != (4 : Int))) || (!t4266.1)) || (t4266.2 != (0 : Int)))) (QC rfl) rfl ?_
 refine ZC 4 (fun ρ w' => Qn ρ [(1, pt b16 0), (28, .slice A4292 t4290.length c4293), (264, .bool ((((((t4210.2 != (4 : Int)) || (t4232.2 != (40 : Int))) || (t4263.2 != (4 : Int))) || (!t4266.1)) || (t4266.2 != (0 : Int))) || ((t4290.length : Int) != (4 : Int))))] ∧ w4295 = w') ?_ ?_
 ·rcases Qq (((((t4210.2 != (4 : Int)) || (t4232.2 != (40 : Int))) || (t4263.2 != (4 : Int))) || (!t4266.1)) || (t4266.2 != (0 : Int))) with hb4302 | hb4302
  ·skip
   refine QT (congrArg some hb4302) (W_v (.slice A4292 t4290.length c4293) (QC rfl) rfl (QT (congrArg some hb4302) (W_v (vI (t4290.length : Int)) (ZK (n := t4290.length) Tryd.underlying62 rfl) rfl (QT (congrArg some hb4302) (W_v (.bool ((t4290.length : Int) != (4 : Int))) (QV rfl rfl rfl rfl) rfl (W_v (.bool ((t4290.length : Int) != (4 : Int))) (QX (k := false) (congrArg Value.bool hb4302) rfl) rfl (QB ?_)))))))
   exact ⟨⟨rfl, rfl, (by first | rfl | (rw [hb4302]; rfl) | (simp only [hb4302]; rfl)), trivial⟩, rfl⟩
  ·skip
   refine Qh (skF hb4302) rfl (Qh (skF hb4302) rfl (Qh (skF hb4302) rfl (W_v (.bool true) (QX (k := true) (congrArg Value.bool hb4302) rfl) rfl (QB ?_))))
   exact ⟨⟨rfl, rfl, (by first | rfl | (rw [hb4302]; rfl) | (simp only [hb4302]; rfl)), trivial⟩, rfl⟩
 as_aux_lemma =>
 rintro ρ _ ⟨hρ, rfl⟩
 rw [QL hρ]
 refine W_v (.bool ((((((t4210.2 != (4 : Int)) || (t4232.2 != (40 : Int))) || (t4263.2 != (4 : Int))) || (!t4266.1)) || (t4266.2 != (0 : Int))) || ((t4290.length : Int) != (4 : Int)))) (QC rfl) rfl ?_
 obtain ⟨o4333, o4333h, o4333H⟩ := QW H
 refine ZC 6 (fun ρ w' => ∃ (x4332 : Bool), (x4332) = o4333 ∧ Qn ρ [(1, pt b16 0), (28, .slice A4292 t4290.length c4293), (271, .bool x4332)] ∧ Ext w w' ∧ St w' M4296 F [Row ZH 69 (.slice A4292 t4290.length c4293) t4290, B23 b16 t5]) ?_ ?_
 ·have H := o4333h
  rcases Zw H with ⟨hb4331, H⟩ | ⟨hb4331, H⟩
  ·skip
   refine Qh (skF hb4331) rfl (Qh (skF hb4331) rfl (Qh (skF hb4331) rfl (Qh (skF hb4331) rfl (Qh (skF hb4331) rfl (W_v (.bool true) (QX (k := true) (congrArg Value.bool hb4331) rfl) rfl (QB ?_))))))
   exact ⟨true, Option.some.inj H, ⟨rfl, rfl, rfl, trivial⟩, E, S.pick [0, 3] (by decide)⟩
  ·skip
   refine QT (congrArg some hb4331) (W_v (.slice A4292 t4290.length c4293) (QC rfl) rfl (QT (congrArg some hb4331) ?_))
   obtain ⟨⟨p4334, p4335⟩, H⟩ := YN H
   obtain ⟨b4336, o4337, cs4338, _, _, ee4343, hb4339, vs4340, hR4341, hc4342⟩ := SlW.at' (S.row_read 0 rfl) p4334 p4335
   obtain ⟨v4347, hs4346, rfl⟩ := hR4341
   obtain ⟨A4344, c4345, rfl, _⟩ := hs4346.form
   refine W_v (.pointer (some ⟨b4336, o4337 + (3 : Int).toNat * 8, none⟩)) (Q8 Tryd.underlying62 ty69 (slA ee4343) rfl p4334 p4335) rfl (QT (congrArg some hb4331) (W_v (.pointer (some ⟨b4336, o4337 + (3 : Int).toNat * 8 + 7, none⟩)) (QG (o := o4337 + (3 : Int).toNat * 8) (off := 7) Tryd.underlying69 rfl ty3 rfl rfl) rfl (QT (congrArg some hb4331) (W_v (vI ((rd t4290 (3 : Int)).Back)) (QQ (Hp.of_get hb4339) ty3 rfl (hc4342 7 _ rfl)) rfl (QT (congrArg some hb4331) (W_v (.bool ((rd t4290 (3 : Int)).Back != (-1 : Int))) (QV rfl rfl rfl rfl) rfl (W_v (.bool ((rd t4290 (3 : Int)).Back != (-1 : Int))) (QX (k := false) (congrArg Value.bool hb4331) rfl) rfl (QB ?_))))))))
   exact ⟨((rd t4290 (3 : Int)).Back != (-1 : Int)), Option.some.inj H, ⟨rfl, rfl, rfl, trivial⟩, E, S.pick [0, 3] (by decide)⟩
 as_aux_lemma =>
 rintro ρ w4348 ⟨x4332, rfl, hρ, E, S⟩
 rw [QL hρ]
 have H := o4333H
 refine W_v (.bool x4332) (QC rfl) rfl ?_
 obtain ⟨o4379, o4379h, o4379H⟩ := QW H
 refine ZC 6 (fun ρ w' => ∃ (x4378 : Bool), (x4378) = o4379 ∧ Qn ρ [(1, pt b16 0), (28, .slice A4292 t4290.length c4293), (278, .bool x4378)] ∧ Ext w w' ∧ St w' M4296 F [Row ZH 69 (.slice A4292 t4290.length c4293) t4290, B23 b16 t5]) ?_ ?_
 ·have H := o4379h
  rcases Zw H with ⟨hb4377, H⟩ | ⟨hb4377, H⟩
  ·skip
   refine Qh (skF hb4377) rfl (Qh (skF hb4377) rfl (Qh (skF hb4377) rfl (Qh (skF hb4377) rfl (Qh (skF hb4377) rfl (W_v (.bool true) (QX (k := true) (congrArg Value.bool hb4377) rfl) rfl (QB ?_))))))
   exact ⟨true, Option.some.inj H, ⟨rfl, rfl, rfl, trivial⟩, E, S.pick [0, 1] (by decide)⟩
  ·skip
   refine QT (congrArg some hb4377) (W_v (.slice A4292 t4290.length c4293) (QC rfl) rfl (QT (congrArg some hb4377) ?_))
   obtain ⟨⟨p4380, p4381⟩, H⟩ := YN H
   obtain ⟨b4382, o4383, cs4384, _, _, ee4389, hb4385, vs4386, hR4387, hc4388⟩ := SlW.at' (S.row_read 0 rfl) p4380 p4381
   obtain ⟨v4393, hs4392, rfl⟩ := hR4387
   obtain ⟨A4390, c4391, rfl, _⟩ := hs4392.form
   refine W_v (.pointer (some ⟨b4382, o4383 + (3 : Int).toNat * 8, none⟩)) (Q8 Tryd.underlying62 ty69 (slA ee4389) rfl p4380 p4381) rfl (QT (congrArg some hb4377) (W_v (.pointer (some ⟨b4382, o4383 + (3 : Int).toNat * 8 + 6, none⟩)) (QG (o := o4383 + (3 : Int).toNat * 8) (off := 6) Tryd.underlying69 rfl ty3 rfl rfl) rfl (QT (congrArg some hb4377) (W_v (vI ((rd t4290 (3 : Int)).Mark)) (QQ (Hp.of_get hb4385) ty3 rfl (hc4388 6 _ rfl)) rfl (QT (congrArg some hb4377) (W_v (.bool ((rd t4290 (3 : Int)).Mark != (10 : Int))) (QV rfl rfl rfl rfl) rfl (W_v (.bool ((rd t4290 (3 : Int)).Mark != (10 : Int))) (QX (k := false) (congrArg Value.bool hb4377) rfl) rfl (QB ?_))))))))
   exact ⟨((rd t4290 (3 : Int)).Mark != (10 : Int)), Option.some.inj H, ⟨rfl, rfl, rfl, trivial⟩, E, S.pick [0, 1] (by decide)⟩
 as_aux_lemma =>
 rintro ρ w4394 ⟨x4378, rfl, hρ, E, S⟩
 rw [QL hρ]
 have H := o4379H
 refine W_v (.bool x4378) (QC rfl) rfl ?_
 obtain ⟨o4425, o4425h, o4425H⟩ := QW H
 refine ZC 6 (fun ρ w' => ∃ (x4424 : Bool), (x4424) = o4425 ∧ Qn ρ [(1, pt b16 0), (28, .slice A4292 t4290.length c4293), (285, .bool x4424)] ∧ Ext w w' ∧ St w' M4296 F [Row ZH 69 (.slice A4292 t4290.length c4293) t4290, B23 b16 t5]) ?_ ?_
 ·have H := o4425h
  rcases Zw H with ⟨hb4423, H⟩ | ⟨hb4423, H⟩
  ·skip
   refine Qh (skF hb4423) rfl (Qh (skF hb4423) rfl (Qh (skF hb4423) rfl (Qh (skF hb4423) rfl (Qh (skF hb4423) rfl (W_v (.bool true) (QX (k := true) (congrArg Value.bool hb4423) rfl) rfl (QB ?_))))))
   exact ⟨true, Option.some.inj H, ⟨rfl, rfl, rfl, trivial⟩, E, S.pick [0, 1] (by decide)⟩
  ·skip
   refine QT (congrArg some hb4423) (W_v (.slice A4292 t4290.length c4293) (QC rfl) rfl (QT (congrArg some hb4423) ?_))
   obtain ⟨⟨p4426, p4427⟩, H⟩ := YN H
   obtain ⟨b4428, o4429, cs4430, _, _, ee4435, hb4431, vs4432, hR4433, hc4434⟩ := SlW.at' (S.row_read 0 rfl) p4426 p4427
   obtain ⟨v4439, hs4438, rfl⟩ := hR4433
   obtain ⟨A4436, c4437, rfl, _⟩ := hs4438.form
   refine W_v (.pointer (some ⟨b4428, o4429 + (2 : Int).toNat * 8, none⟩)) (Q8 Tryd.underlying62 ty69 (slA ee4435) rfl p4426 p4427) rfl (QT (congrArg some hb4423) (W_v (.pointer (some ⟨b4428, o4429 + (2 : Int).toNat * 8 + 7, none⟩)) (QG (o := o4429 + (2 : Int).toNat * 8) (off := 7) Tryd.underlying69 rfl ty3 rfl rfl) rfl (QT (congrArg some hb4423) (W_v (vI ((rd t4290 (2 : Int)).Back)) (QQ (Hp.of_get hb4431) ty3 rfl (hc4434 7 _ rfl)) rfl (QT (congrArg some hb4423) (W_v (.bool ((rd t4290 (2 : Int)).Back != (8 : Int))) (QV rfl rfl rfl rfl) rfl (W_v (.bool ((rd t4290 (2 : Int)).Back != (8 : Int))) (QX (k := false) (congrArg Value.bool hb4423) rfl) rfl (QB ?_))))))))
   exact ⟨((rd t4290 (2 : Int)).Back != (8 : Int)), Option.some.inj H, ⟨rfl, rfl, rfl, trivial⟩, E, S.pick [0, 1] (by decide)⟩
 as_aux_lemma =>
 rintro ρ w4440 ⟨x4424, rfl, hρ, E, S⟩
 rw [QL hρ]
 have H := o4425H
 refine W_v (.bool x4424) (QC rfl) rfl ?_
 obtain ⟨o4471, o4471h, o4471H⟩ := QW H
 refine ZC 6 (fun ρ w' => ∃ (x4470 : Bool), (x4470) = o4471 ∧ Qn ρ [(1, pt b16 0), (28, .slice A4292 t4290.length c4293), (292, .bool x4470)] ∧ Ext w w' ∧ St w' M4296 F [Row ZH 69 (.slice A4292 t4290.length c4293) t4290, B23 b16 t5]) ?_ ?_
 ·have H := o4471h
  rcases Zw H with ⟨hb4469, H⟩ | ⟨hb4469, H⟩
  ·skip
   refine Qh (skF hb4469) rfl (Qh (skF hb4469) rfl (Qh (skF hb4469) rfl (Qh (skF hb4469) rfl (Qh (skF hb4469) rfl (W_v (.bool true) (QX (k := true) (congrArg Value.bool hb4469) rfl) rfl (QB ?_))))))
   exact ⟨true, Option.some.inj H, ⟨rfl, rfl, rfl, trivial⟩, E, S.pick [0, 1] (by decide)⟩
  ·skip
   refine QT (congrArg some hb4469) (W_v (.slice A4292 t4290.length c4293) (QC rfl) rfl (QT (congrArg some hb4469) ?_))
   obtain ⟨⟨p4472, p4473⟩, H⟩ := YN H
   obtain ⟨b4474, o4475, cs4476, _, _, ee4481, hb4477, vs4478, hR4479, hc4480⟩ := SlW.at' (S.row_read 0 rfl) p4472 p4473
   obtain ⟨v4485, hs4484, rfl⟩ := hR4479
   obtain ⟨A4482, c4483, rfl, _⟩ := hs4484.form
   refine W_v (.pointer (some ⟨b4474, o4475 + (1 : Int).toNat * 8, none⟩)) (Q8 Tryd.underlying62 ty69 (slA ee4481) rfl p4472 p4473) rfl (QT (congrArg some hb4469) (W_v (.pointer (some ⟨b4474, o4475 + (1 : Int).toNat * 8, none⟩)) (QG (o := o4475 + (1 : Int).toNat * 8) (off := 0) Tryd.underlying69 rfl ty3 rfl rfl) rfl (QT (congrArg some hb4469) (W_v (vI ((rd t4290 (1 : Int)).Task)) (QQ (Hp.of_get hb4477) ty3 rfl (hc4480 0 _ rfl)) rfl (QT (congrArg some hb4469) (W_v (.bool ((rd t4290 (1 : Int)).Task != (0 : Int))) (QV rfl rfl rfl rfl) rfl (W_v (.bool ((rd t4290 (1 : Int)).Task != (0 : Int))) (QX (k := false) (congrArg Value.bool hb4469) rfl) rfl (QB ?_))))))))
   exact ⟨((rd t4290 (1 : Int)).Task != (0 : Int)), Option.some.inj H, ⟨rfl, rfl, rfl, trivial⟩, E, S.pick [0, 1] (by decide)⟩
 as_aux_lemma =>
 rintro ρ w4486 ⟨x4470, rfl, hρ, E, S⟩
 rw [QL hρ]
 have H := o4471H
 refine W_v (.bool x4470) (QC rfl) rfl ?_
 obtain ⟨o4517, o4517h, o4517H⟩ := QW H
 refine ZC 6 (fun ρ w' => ∃ (x4516 : Bool), (x4516) = o4517 ∧ Qn ρ [(1, pt b16 0), (299, .bool x4516)] ∧ Ext w w' ∧ St w' M4296 F [B23 b16 t5]) ?_ ?_
 ·have H := o4517h
  rcases Zw H with ⟨hb4515, H⟩ | ⟨hb4515, H⟩
  ·skip
   refine Qh (skF hb4515) rfl (Qh (skF hb4515) rfl (Qh (skF hb4515) rfl (Qh (skF hb4515) rfl (Qh (skF hb4515) rfl (W_v (.bool true) (QX (k := true) (congrArg Value.bool hb4515) rfl) rfl (QB ?_))))))
   exact ⟨true, Option.some.inj H, ⟨rfl, rfl, trivial⟩, E, S.pick [1] (by decide)⟩
  ·skip
   refine QT (congrArg some hb4515) (W_v (.slice A4292 t4290.length c4293) (QC rfl) rfl (QT (congrArg some hb4515) ?_))
   obtain ⟨⟨p4518, p4519⟩, H⟩ := YN H
   obtain ⟨b4520, o4521, cs4522, _, _, ee4527, hb4523, vs4524, hR4525, hc4526⟩ := SlW.at' (S.row_read 0 rfl) p4518 p4519
   obtain ⟨v4531, hs4530, rfl⟩ := hR4525
   obtain ⟨A4528, c4529, rfl, _⟩ := hs4530.form
   refine W_v (.pointer (some ⟨b4520, o4521 + (1 : Int).toNat * 8, none⟩)) (Q8 Tryd.underlying62 ty69 (slA ee4527) rfl p4518 p4519) rfl (QT (congrArg some hb4515) (W_v (.pointer (some ⟨b4520, o4521 + (1 : Int).toNat * 8 + 1, none⟩)) (QG (o := o4521 + (1 : Int).toNat * 8) (off := 1) Tryd.underlying69 rfl ty3 rfl rfl) rfl (QT (congrArg some hb4515) (W_v (vI ((rd t4290 (1 : Int)).Call)) (QQ (Hp.of_get hb4523) ty3 rfl (hc4526 1 _ rfl)) rfl (QT (congrArg some hb4515) (W_v (.bool ((rd t4290 (1 : Int)).Call != (1 : Int))) (QV rfl rfl rfl rfl) rfl (W_v (.bool ((rd t4290 (1 : Int)).Call != (1 : Int))) (QX (k := false) (congrArg Value.bool hb4515) rfl) rfl (QB ?_))))))))
   exact ⟨((rd t4290 (1 : Int)).Call != (1 : Int)), Option.some.inj H, ⟨rfl, rfl, trivial⟩, E, S.pick [1] (by decide)⟩
 as_aux_lemma =>
 rintro ρ w4532 ⟨x4516, rfl, hρ, E, S⟩
 rw [QL hρ]
 have H := o4517H
 refine QB (tn ?_)
 rcases Zw H with ⟨hb4533, H⟩ | ⟨hb4533, H⟩
 ·refine QN (congrArg Value.bool hb4533) ?_
  refine QE (QA (W_v (.bool false) (QD rfl) rfl (QB (tn ?_))))
  refine QZ ?_
  refine tr (?_)
  obtain rfl := Option.some.inj H
  exact ⟨_, _, _, fun w1 e1 => QO (vs := [.bool false]) (FA.cons (rfl) (FA.nil)), HM, E, S.pick [] (by decide), ⟨rfl, rfl⟩⟩
 refine QK (congrArg Value.bool hb4533) (Qk (tn (QE (QA (W_v (.agg cz10) (Qr (pl := [(0, 1), (1, 1), (2, 1), (3, 1), (4, 1), (5, 1), (6, 1)]) cz10 Tryd.underlying47 ty47 (by as_aux_lemma => kernel_rfl) rfl (by as_aux_lemma => kernel_rfl)) rfl (W_v (.agg #[vU 3, vI 1, vS ([97] : Str), vS ([] : Str), vS ([49] : Str), vI 0, vU 0]) (Qr (pl := [(0, 1), (1, 1), (2, 1), (3, 1), (4, 1), (5, 1), (6, 1)]) #[vU 3, vI 1, vS ([97] : Str), vS ([] : Str), vS ([49] : Str), vI 0, vU 0] Tryd.underlying47 ty47 (by as_aux_lemma => kernel_rfl) rfl (by as_aux_lemma => kernel_rfl)) rfl (W_v (.agg #[vU 6, vI 1, vS ([] : Str), vS ([] : Str), vS ([] : Str), vI 0, vU 0]) (Qr (pl := [(0, 1), (1, 1), (2, 1), (3, 1), (4, 1), (5, 1), (6, 1)]) #[vU 6, vI 1, vS ([] : Str), vS ([] : Str), vS ([] : Str), vI 0, vU 0] Tryd.underlying47 ty47 (by as_aux_lemma => kernel_rfl) rfl (by as_aux_lemma => kernel_rfl)) rfl ?_)))))))
 refine Zt S #[vU 1, vI 0, vS ([] : Str), vS ([] : Str), vS ([] : Str), vI 0, vU 0, vU 3, vI 1, vS ([97] : Str), vS ([] : Str), vS ([49] : Str), vI 0, vU 0, vU 6, vI 1, vS ([] : Str), vS ([] : Str), vS ([] : Str), vI 0, vU 0] Tryd.underlying44 ty47 rfl rfl #[vU 0, vI 0, vS ([] : Str), vS ([] : Str), vS ([] : Str), vI 0, vU 0, vU 0, vI 0, vS ([] : Str), vS ([] : Str), vS ([] : Str), vI 0, vU 0, vU 0, vI 0, vS ([] : Str), vS ([] : Str), vS ([] : Str), vI 0, vU 0] (by as_aux_lemma => kernel_rfl) (by as_aux_lemma => kernel_rfl) rfl ?_
 intro b4534 w4535 E' S
 replace E := E.trans E'
 replace S := S.blk_row (r := ZT) (l := ([cz5, (⟨(3 : Int), (1 : Int), ([97] : Str), ([] : Str), ([49] : Str), (0 : Int), (0 : Int)⟩ : QU), (⟨(6 : Int), (1 : Int), ([] : Str), ([] : Str), ([] : Str), (0 : Int), (0 : Int)⟩ : QU)] : List QU)) 0 rfl 3 (Nat.le_refl 3) rfl (Cells.cons (vs := [vU 1, vI 0, vS ([] : Str), vS ([] : Str), vS ([] : Str), vI 0, vU 0]) (rfl) (Cells.cons (vs := [vU 3, vI 1, vS ([97] : Str), vS ([] : Str), vS ([49] : Str), vI 0, vU 0]) (rfl) (Cells.cons (vs := [vU 6, vI 1, vS ([] : Str), vS ([] : Str), vS ([] : Str), vI 0, vU 0]) (rfl) Cells.nil)))
 obtain ⟨x4537, he4538, H⟩ := QW H
 replace he4538 := Option.some.inj he4538
 try unfold B23 at S
 rw [he4538] at S
 refine Eq.mpr (congrArg (fun z => Wl _ _ _ _ _ _ (upd _ _ z) _) (show Value.slice (some ⟨b4534, 0, none⟩) 3 3 = Value.slice (some ⟨b4534, 0, none⟩) x4537.length 3 from (by rw [← he4538]; rfl))) ?_
 refine W_v (.agg cz10) (Qr (pl := [(0, 1), (1, 1), (2, 1), (3, 1), (4, 1), (5, 1), (6, 1)]) cz10 Tryd.underlying47 ty47 (by as_aux_lemma => kernel_rfl) rfl (by as_aux_lemma => kernel_rfl)) rfl (W_v (.agg cz7) (Qr (pl := [(0, 1), (1, 1), (2, 1), (3, 1), (4, 1), (5, 1), (6, 1)]) cz7 Tryd.underlying47 ty47 (by as_aux_lemma => kernel_rfl) rfl (by as_aux_lemma => kernel_rfl)) rfl ?_)
 refine Zt S #[vU 1, vI 0, vS ([] : Str), vS ([] : Str), vS ([] : Str), vI 0, vU 0, vU 2, vI 1, vS ([97] : Str), vS ([] : Str), vS ([] : Str), vI 0, vU 0] Tryd.underlying44 ty47 rfl rfl cz3 (by as_aux_lemma => kernel_rfl) (by as_aux_lemma => kernel_rfl) rfl ?_
 intro b4539 w4540 E' S
 replace E := E.trans E'
 replace S := S.blk_row (r := ZT) (l := cz2) 0 rfl 2 (Nat.le_refl 2) rfl (Cells.cons (vs := [vU 1, vI 0, vS ([] : Str), vS ([] : Str), vS ([] : Str), vI 0, vU 0]) (rfl) (Cells.cons (vs := [vU 2, vI 1, vS ([97] : Str), vS ([] : Str), vS ([] : Str), vI 0, vU 0]) (rfl) Cells.nil))
 obtain ⟨x4542, he4543, H⟩ := QW H
 replace he4543 := Option.some.inj he4543
 try unfold B23 at S
 rw [he4543] at S
 refine Eq.mpr (congrArg (fun z => Wl _ _ _ _ _ _ (upd _ _ z) _) (show Value.slice (some ⟨b4539, 0, none⟩) 2 2 = Value.slice (some ⟨b4539, 0, none⟩) x4542.length 2 from (by rw [← he4543]; rfl))) ?_
 obtain ⟨M4544, hM4545, hf4546, S⟩ := S.row_freeze 1 rfl
 replace hg0 := gup hg0 hM4545
 replace hg1 := gup hg1 hM4545
 replace HM := Hp.le_trans HM hM4545
 obtain ⟨M4547, hM4548, hf4549, S⟩ := S.row_freeze 0 rfl
 replace hg0 := gup hg0 hM4548
 replace hg1 := gup hg1 hM4548
 replace HM := Hp.le_trans HM hM4548
 replace hf4546 := SlR.mono hf4546 hM4548
 refine Zt S #[.slice (some ⟨b4534, 0, none⟩) x4537.length 3, .slice (some ⟨b4539, 0, none⟩) x4542.length 2] Tryd.underlying24 ty44 rfl rfl #[.slice none 0 0, .slice none 0 0] (by as_aux_lemma => kernel_rfl) (by as_aux_lemma => kernel_rfl) rfl ?_
 intro b4550 w4551 E' S
 replace E := E.trans E'
 replace S := S.blk_row (r := (rSl ZT)) (l := ([x4537, x4542] : List (List QU))) 0 rfl 2 (Nat.le_refl 2) rfl (Cells.cons (vs := [.slice (some ⟨b4534, 0, none⟩) x4537.length 3]) (⟨_, hf4546, rfl⟩) (Cells.cons (vs := [.slice (some ⟨b4539, 0, none⟩) x4542.length 2]) (⟨_, hf4549, rfl⟩) Cells.nil))
 refine W_v (.slice (some ⟨b4550, 0, none⟩) ([x4537, x4542] : List (List QU)).length 2) (QD rfl) rfl (QB (tn ?_))
 as_aux_lemma =>
 refine QE (QA (W_v (.agg cz17) (Qr (pl := [(0, 1), (1, 1), (2, 1), (3, 1)]) cz17 Tryd.underlying34 ty34 (by as_aux_lemma => kernel_rfl) rfl (by as_aux_lemma => kernel_rfl)) rfl ?_))
 obtain ⟨t4553, ht4554, H⟩ := QW H
 refine ZU fn18 (ZA.con k M4547 (0 : Int) (0 : Int) none 0 cz11 t4553 (SlW.nil _ _) ht4554) (Γ1 := []) (Γ2 := [_, _]) S rfl rfl ?_
 rintro _ w4558 M4559 Γ' hM4560 E' S ⟨A4555, c4556, rfl, rfl⟩
 replace hg0 := gup hg0 hM4560
 replace hg1 := gup hg1 hM4560
 replace HM := Hp.le_trans HM hM4560
 replace E := E.trans E'
 refine W_v (.agg cz17) (Qr (pl := [(0, 1), (1, 1), (2, 1), (3, 1)]) cz17 Tryd.underlying34 ty34 (by as_aux_lemma => kernel_rfl) rfl (by as_aux_lemma => kernel_rfl)) rfl ?_
 obtain ⟨t4561, ht4562, H⟩ := QW H
 refine ZU fn18 (ZA.con k M4559 (0 : Int) (1 : Int) none 0 cz11 t4561 (SlW.nil _ _) ht4562) (Γ1 := []) (Γ2 := [_, _, _]) S rfl rfl ?_
 rintro _ w4566 M4567 Γ' hM4568 E' S ⟨A4563, c4564, rfl, rfl⟩
 replace hg0 := gup hg0 hM4568
 replace hg1 := gup hg1 hM4568
 replace HM := Hp.le_trans HM hM4568
 replace E := E.trans E'
 obtain ⟨p4569, H⟩ := YN H
 obtain ⟨src4570, hs4571, hC4572⟩ := Zx (P := Tryd.prog) (ρ := QJ) (l := t4561) (S.row_read 0 rfl) (by decide)
 refine Yn S 1 rfl rfl rfl Tryd.underlying25 (.inl Tryd.underlying25) ty55 rfl (by decide) (by decide) hs4571 hC4572 rfl (by omega) rfl ?_
 intro v4573 w4574 E' S
 replace E := E.trans E'
 obtain ⟨A4575, c4576, rfl, _⟩ := (S.row_read 1 rfl).form
 obtain ⟨M4577, hM4578, hf4579, S⟩ := S.row_freeze 1 rfl
 replace hg0 := gup hg0 hM4578
 replace hg1 := gup hg1 hM4578
 replace HM := Hp.le_trans HM hM4578
 obtain ⟨t4580, ht4581, H⟩ := QW H
 refine ZU fn17 (Yz.con k M4577 A4575 c4576 (t4553 ++ t4561) t4580 hf4579 ht4581) (Γ1 := []) (Γ2 := [_, _, _]) S rfl rfl ?_
 rintro _ w4585 M4586 Γ' hM4587 E' S ⟨A4582, c4583, rfl, rfl⟩
 replace hg0 := gup hg0 hM4587
 replace hg1 := gup hg1 hM4587
 replace HM := Hp.le_trans HM hM4587
 replace E := E.trans E'
 refine W_v (.agg cz17) (Qr (pl := [(0, 1), (1, 1), (2, 1), (3, 1)]) cz17 Tryd.underlying34 ty34 (by as_aux_lemma => kernel_rfl) rfl (by as_aux_lemma => kernel_rfl)) rfl ?_
 obtain ⟨t4588, ht4589, H⟩ := QW H
 refine ZU fn26 (Qf.con k M4586 (1 : Int) (0 : Int) (2 : Int) none 0 cz11 t4588 (SlW.nil _ _) ht4589) (Γ1 := []) (Γ2 := [_, _, _, _]) S rfl rfl ?_
 rintro _ w4593 M4594 Γ' hM4595 E' S ⟨A4590, c4591, rfl, hs4592, rfl⟩
 replace hg0 := gup hg0 hM4595
 replace hg1 := gup hg1 hM4595
 replace HM := Hp.le_trans HM hM4595
 replace E := E.trans E'
 refine Zt S #[vU t4588.What, vI t4588.Task, vI t4588.Call, vI t4588.Answer.Err, .bool t4588.Answer.Found, vS t4588.Answer.Value, .slice A4590 t4588.Answer.Pairs.length c4591] Tryd.underlying25 ty55 rfl rfl cz8 (by as_aux_lemma => kernel_rfl) (by as_aux_lemma => kernel_rfl) rfl ?_
 intro b4596 w4597 E' S
 replace E := E.trans E'
 replace S := S.blk_row (r := QJ) (l := ([t4588] : List QF)) 0 rfl 1 (Nat.le_refl 1) rfl (Cells.cons (vs := [vU t4588.What, vI t4588.Task, vI t4588.Call, vI t4588.Answer.Err, .bool t4588.Answer.Found, vS t4588.Answer.Value, .slice A4590 t4588.Answer.Pairs.length c4591]) (⟨_, hs4592, rfl⟩) Cells.nil)
 obtain ⟨p4599, H⟩ := YN H
 obtain ⟨src4600, hs4601, hC4602⟩ := Zx (P := Tryd.prog) (ρ := QJ) (l := ([t4588] : List QF)) (S.row_read 0 rfl) (by decide)
 refine Yn S 1 rfl rfl rfl Tryd.underlying25 (.inl Tryd.underlying25) ty55 rfl (by decide) (by decide) hs4601 hC4602 rfl (by omega) rfl ?_
 intro v4603 w4604 E' S
 replace E := E.trans E'
 obtain ⟨A4605, c4606, rfl, _⟩ := (S.row_read 1 rfl).form
 refine W_v (.slice A4605 (t4580 ++ ([t4588] : List QF)).length c4606) (QD rfl) rfl (QB (tn ?_))
 as_aux_lemma =>
 refine QE (QE (QA (W_v (.agg cz17) (Qr (pl := [(0, 1), (1, 1), (2, 1), (3, 1)]) cz17 Tryd.underlying34 ty34 (by as_aux_lemma => kernel_rfl) rfl (by as_aux_lemma => kernel_rfl)) rfl (W_v (.agg #[vI 0, .bool true, vS ([49] : Str), .slice none 0 0]) (Qr (pl := [(0, 1), (1, 1), (2, 1), (3, 1)]) #[vI 0, .bool true, vS ([49] : Str), .slice none 0 0] Tryd.underlying34 ty34 (by as_aux_lemma => kernel_rfl) rfl (by as_aux_lemma => kernel_rfl)) rfl ?_))))
 refine Zt S #[vI 0, .bool false, vS ([] : Str), .slice none 0 0, vI 0, .bool true, vS ([49] : Str), .slice none 0 0] Tryd.underlying37 ty34 rfl rfl #[vI 0, .bool false, vS ([] : Str), .slice none 0 0, vI 0, .bool false, vS ([] : Str), .slice none 0 0] (by as_aux_lemma => kernel_rfl) (by as_aux_lemma => kernel_rfl) rfl ?_
 intro b4607 w4608 E' S
 replace E := E.trans E'
 replace S := S.blk_row (r := X4) (l := ([cz11, (⟨(0 : Int), true, ([49] : Str), ([] : (List Qu))⟩ : Qp)] : List Qp)) 0 rfl 2 (Nat.le_refl 2) rfl (Cells.cons (vs := [vI 0, .bool false, vS ([] : Str), .slice none 0 0]) (⟨_, (SlW.nil _ _), rfl⟩) (Cells.cons (vs := [vI 0, .bool true, vS ([49] : Str), .slice none 0 0]) (⟨_, (SlW.nil _ _), rfl⟩) Cells.nil))
 obtain ⟨x4610, he4611, H⟩ := QW H
 replace he4611 := Option.some.inj he4611
 try unfold B23 at S
 rw [he4611] at S
 refine Eq.mpr (congrArg (fun z => Wl _ _ _ _ _ _ (upd _ _ z) _) (show Value.slice (some ⟨b4607, 0, none⟩) 2 2 = Value.slice (some ⟨b4607, 0, none⟩) x4610.length 2 from (by rw [← he4611]; rfl))) ?_
 refine W_v (vI (x4610.length : Int)) (ZK (n := x4610.length) Tryd.underlying37 rfl) rfl (W_v (vI 0) (QC rfl) rfl (QB (tn ?_)))
 obtain ⟨o5029, o5029h, o5029H⟩ := QW H
 refine Ym (fun ρ w' => ∃ (Mj : Hp), .inr () = o5029 ∧ Qn ρ [] ∧ M4594.le Mj ∧ Ext w w' ∧ St w' Mj F []) ?_ ?_
 ·skip
  refine Y6 (fun n ρ w' => ∃ (x4890 : Int) (Mj : Hp), Zu t5 x4537 x4542 t4580 t4588 x4610 n x4890 = some o5029 ∧ Qn ρ [(1, pt b16 0), (29, .slice (some ⟨b4550, 0, none⟩) ([x4537, x4542] : List (List QU)).length 2), (30, .slice A4605 (t4580 ++ ([t4588] : List QF)).length c4606), (320, .slice (some ⟨b4607, 0, none⟩) x4610.length 2), (321, vI (x4610.length : Int)), (322, vI x4890)] ∧ M4594.le Mj ∧ Ext w w' ∧ St w' Mj F [Row X4 34 (.slice (some ⟨b4607, 0, none⟩) x4610.length 2) x4610, Row QJ 55 (.slice A4605 (t4580 ++ ([t4588] : List QF)).length c4606) (t4580 ++ ([t4588] : List QF)), Row (rSl ZT) 44 (.slice (some ⟨b4550, 0, none⟩) ([x4537, x4542] : List (List QU)).length 2) ([x4537, x4542] : List (List QU)), B23 b16 t5]) k ?_ ?_
  ·skip
   exact ⟨(0 : Int), M4594, o5029h, ⟨rfl, rfl, rfl, rfl, rfl, rfl, trivial⟩, (Hp.le_refl M4594), E, S.pick [0, 2, 4, 5] (by decide)⟩
  ·intro n
   rintro ρ w5030 ⟨x4890, M5031, H, hρ, hM5032, E, S⟩
   rw [QL hρ]
   replace hg0 := gup hg0 hM5032
   replace hg1 := gup hg1 hM5032
   replace HM := Hp.le_trans HM hM5032
   cases n with
   | zero => cases H
   | succ k =>
    rw [Zu.eq_2] at H
    refine QE (QA (W_v (.bool (decide (x4890 < (x4610.length : Int)))) (QV rfl rfl rfl rfl) rfl (QB (tn (QE ?_)))))
    rcases Zw H with ⟨hb5033, H⟩ | ⟨hb5033, H⟩
    ·refine QN (congrArg Value.bool hb5033) ?_
     refine Qk (tn (QE ?_))
     refine YO ?_
     refine QE (QA ?_)
     obtain ⟨⟨p5034, p5035⟩, H⟩ := YN H
     obtain ⟨b5036, o5037, cs5038, _, _, ee5043, hb5039, vs5040, hR5041, hc5042⟩ := SlW.at' (S.row_read 0 rfl) p5034 p5035
     obtain ⟨v5047, hs5046, rfl⟩ := hR5041
     obtain ⟨A5044, c5045, rfl, _⟩ := hs5046.form
     refine W_v (.pointer (some ⟨b5036, o5037 + x4890.toNat * 4, none⟩)) (Q8 Tryd.underlying37 ty34 (slA ee5043) rfl p5034 p5035) rfl (W_v (.agg #[vI ((rd x4610 x4890).Err), .bool ((rd x4610 x4890).Found), vS ((rd x4610 x4890).Value), .slice A5044 ((rd x4610 x4890).Pairs).length c5045]) (Qi (Hp.of_get hb5039) ty34 rfl (XG hc5042 0 rfl) rfl rfl) rfl ?_)
     refine Z1 S cz17 ty34 rfl rfl ?_
     intro b5048 w5049 E' S
     replace E := E.trans E'
     refine Q0 S 0 rfl ty34 rfl rfl [vI ((rd x4610 x4890).Err), .bool ((rd x4610 x4890).Found), vS ((rd x4610 x4890).Value), .slice A5044 ((rd x4610 x4890).Pairs).length c5045] rfl rfl rfl #[vI ((rd x4610 x4890).Err), .bool ((rd x4610 x4890).Found), vS ((rd x4610 x4890).Value), .slice A5044 ((rd x4610 x4890).Pairs).length c5045] rfl rfl ?_
     intro w5051 E' S
     replace E := E.trans E'
     refine QB (tn (QE ?_))
     have LE5109 := Hp.le_refl M5031
     refine Qo (S := fun w' => ∃ Mx, M5031.le Mx ∧ St w' Mx F [B34 b5048 (rd x4610 x4890) A5044 c5045, Row X4 34 (.slice (some ⟨b4607, 0, none⟩) x4610.length 2) x4610, Row QJ 55 (.slice A4605 (t4580 ++ ([t4588] : List QF)).length c4606) (t4580 ++ ([t4588] : List QF)), Row (rSl ZT) 44 (.slice (some ⟨b4550, 0, none⟩) ([x4537, x4542] : List (List QU)).length 2) ([x4537, x4542] : List (List QU)), B23 b16 t5]) (L := 18) mixed ?_
     intro w5110 hw5111 E'
     replace S := S.heap hw5111
     replace E := E.trans E'
     have D10 : ∃ Mx, Hp.le M5031 Mx ∧ St _ Mx F [_, _, _, _, _] := ⟨_, Hp.le_refl _, S.pick [0, 1, 2, 3, 4] (by decide)⟩
     refine Wt 0 rfl rfl rfl (.agg #[vI t5.Tasks, vI t5.Active, vI t5.Keys, vI t5.Depth, vI t5.TS, vI t5.KeyLen, vI t5.ValLen, vI t5.Fan]) rfl (fun w' h' => Qi (Qg h' 4 rfl) ty23 rfl (QI rfl) rfl rfl) D10 (Wt 1 rfl rfl rfl (.slice (some ⟨b4550, 0, none⟩) ([x4537, x4542] : List (List QU)).length 2) rfl (fun w' h' => QC rfl) D10 (Wt 3 rfl rfl rfl (.slice A4605 (t4580 ++ ([t4588] : List QF)).length c4606) rfl (fun w' h' => QC rfl) D10 (Wt 5 rfl rfl rfl (.agg cz17) rfl (fun w' h' => Qr (pl := [(0, 1), (1, 1), (2, 1), (3, 1)]) cz17 Tryd.underlying34 ty34 (by as_aux_lemma => kernel_rfl) rfl (by as_aux_lemma => kernel_rfl)) D10 (Wt 7 rfl rfl rfl (.agg #[vI ((rd x4610 x4890).Err), .bool ((rd x4610 x4890).Found), vS ((rd x4610 x4890).Value), .slice A5044 ((rd x4610 x4890).Pairs).length c5045]) rfl (fun w' h' => Qi (Qg h' 0 rfl) ty34 rfl (QI rfl) rfl rfl) D10 ?_))))
     refine Wo 2 rfl ?_
     refine Zt S #[] Tryd.underlying25 ty55 rfl rfl #[] (by as_aux_lemma => kernel_rfl) (by as_aux_lemma => kernel_rfl) rfl ?_
     intro b5112 w5113 E' S
     replace E := E.trans E'
     replace S := S.blk_row (r := QJ) (l := ([] : List QF)) 0 rfl 0 (Nat.le_refl 0) rfl Cells.nil
     refine QB (Zo ⟨.inr ⟨M5031, Hp.le_refl M5031, (S.pick [1, 2, 3, 4, 5] (by decide))⟩, ?_⟩)
     refine Wo 4 rfl ?_
     obtain ⟨p5115, H⟩ := YN H
     obtain ⟨src5116, hs5117, hC5118⟩ := Zx (P := Tryd.prog) (ρ := QJ) (l := (t4580 ++ ([t4588] : List QF))) (S.row_read 3 rfl) (by decide)
     refine Yn S 0 rfl rfl rfl Tryd.underlying25 (.inl Tryd.underlying25) ty55 rfl (by decide) (by decide) hs5117 hC5118 rfl (by omega) rfl ?_
     intro v5119 w5120 E' S
     replace E := E.trans E'
     obtain ⟨A5121, c5122, rfl, _⟩ := (S.row_read 0 rfl).form
     refine QB (Zo ⟨.inr ⟨M5031, Hp.le_refl M5031, (S.pick [1, 2, 3, 4, 5] (by decide))⟩, ?_⟩)
     refine Wo 6 rfl ?_
     obtain ⟨t5123, ht5124, H⟩ := QW H
     refine ZU fn18 (ZA.con k M5031 (1 : Int) (0 : Int) none 0 cz11 t5123 (SlW.nil _ _) ht5124) (Γ1 := []) (Γ2 := [_, _, _, _, _, _]) S rfl rfl ?_
     rintro _ w5128 M5129 Γ' hM5130 E' S ⟨A5125, c5126, rfl, rfl⟩
     replace hg0 := gup hg0 hM5130
     replace hg1 := gup hg1 hM5130
     replace HM := Hp.le_trans HM hM5130
     replace hM5032 := Hp.le_trans hM5032 hM5130
     replace LE5109 := Hp.le_trans LE5109 hM5130
     replace hs5046 := SlR.mono hs5046 hM5130
     replace E := E.trans E'
     refine QB (Zo ⟨.inr ⟨M5129, LE5109, (S.pick [2, 3, 4, 5, 6] (by decide))⟩, ?_⟩)
     refine Wo 8 rfl ?_
     obtain ⟨t5131, ht5132, H⟩ := QW H
     refine ZU fn18 (ZA.con k M5129 (1 : Int) (1 : Int) A5044 c5045 (rd x4610 x4890) t5131 hs5046 ht5132) (Γ1 := []) (Γ2 := [_, _, _, _, _, _, _]) S rfl rfl ?_
     rintro _ w5136 M5137 Γ' hM5138 E' S ⟨A5133, c5134, rfl, rfl⟩
     replace hg0 := gup hg0 hM5138
     replace hg1 := gup hg1 hM5138
     replace HM := Hp.le_trans HM hM5138
     replace hM5032 := Hp.le_trans hM5032 hM5138
     replace LE5109 := Hp.le_trans LE5109 hM5138
     replace E := E.trans E'
     refine QB (Zo ⟨.inr ⟨M5137, LE5109, (S.pick [3, 4, 5, 6, 7] (by decide))⟩, ?_⟩)
     refine Wo 9 rfl ?_
     obtain ⟨p5139, H⟩ := YN H
     obtain ⟨src5140, hs5141, hC5142⟩ := Zx (P := Tryd.prog) (ρ := QJ) (l := t5131) (S.row_read 0 rfl) (by decide)
     refine Yn S 1 rfl rfl rfl Tryd.underlying25 (.inl Tryd.underlying25) ty55 rfl (by decide) (by decide) hs5141 hC5142 rfl (by omega) rfl ?_
     intro v5143 w5144 E' S
     replace E := E.trans E'
     obtain ⟨A5145, c5146, rfl, _⟩ := (S.row_read 1 rfl).form
     refine QB (Zo ⟨.inr ⟨M5137, LE5109, (S.pick [3, 4, 5, 6, 7] (by decide))⟩, ?_⟩)
     refine Wo 10 rfl ?_
     obtain ⟨M5147, hM5148, hf5149, S⟩ := S.row_freeze 1 rfl
     replace hg0 := gup hg0 hM5148
     replace hg1 := gup hg1 hM5148
     replace HM := Hp.le_trans HM hM5148
     replace hM5032 := Hp.le_trans hM5032 hM5148
     replace LE5109 := Hp.le_trans LE5109 hM5148
     obtain ⟨t5150, ht5151, H⟩ := QW H
     refine ZU fn17 (Yz.con k M5147 A5145 c5146 (t5123 ++ t5131) t5150 hf5149 ht5151) (Γ1 := []) (Γ2 := [_, _, _, _, _, _, _]) S rfl rfl ?_
     rintro _ w5155 M5156 Γ' hM5157 E' S ⟨A5152, c5153, rfl, rfl⟩
     replace hg0 := gup hg0 hM5157
     replace hg1 := gup hg1 hM5157
     replace HM := Hp.le_trans HM hM5157
     replace hM5032 := Hp.le_trans hM5032 hM5157
     replace LE5109 := Hp.le_trans LE5109 hM5157
     replace E := E.trans E'
     refine QB (Zo ⟨.inr ⟨M5156, LE5109, (S.pick [3, 4, 5, 6, 7] (by decide))⟩, ?_⟩)
     refine Wo 11 rfl ?_
     obtain ⟨p5158, H⟩ := YN H
     obtain ⟨src5159, hs5160, hC5161⟩ := Zx (P := Tryd.prog) (ρ := QJ) (l := t5150) (S.row_read 0 rfl) (by decide)
     refine Yn S 2 rfl rfl rfl Tryd.underlying25 (.inl Tryd.underlying25) ty55 rfl (by decide) (by decide) hs5160 hC5161 rfl (by omega) rfl ?_
     intro v5162 w5163 E' S
     replace E := E.trans E'
     obtain ⟨A5164, c5165, rfl, _⟩ := (S.row_read 2 rfl).form
     refine QB (Zo ⟨.inr ⟨M5156, LE5109, (S.pick [3, 4, 5, 6, 7] (by decide))⟩, ?_⟩)
     refine Wo 12 rfl ?_
     replace S : St w5163 M5156 F [_, _, _, _, _, _, _, _] := S.pick [6, 2, 0, 1, 3, 4, 5, 7] (by decide)
     obtain ⟨t5166, ht5167, H⟩ := QW H
     refine Xe 2 fn10 (fun h9 hs9 hd9 => Ze.con k _ t5 (some ⟨b4550, 0, none⟩) 2 ([x4537, x4542] : List (List QU)) A5164 c5165 ((([] : List QF) ++ (t4580 ++ ([t4588] : List QF))) ++ t5150) t5166 (Sats.row hs9 hd9 0 rfl) (Sats.row hs9 hd9 1 rfl) (let ⟨gt, fr, h8⟩ := hg0; ⟨gt, fr, Hp.le_union_left _ _ _ _ h8⟩) (let ⟨gt, fr, h8⟩ := hg1; ⟨gt, fr, Hp.le_union_left _ _ _ _ h8⟩) ht5167) S rfl rfl (by rintro _ _ _ ⟨_, rfl⟩; exact Qd) ?_
     rintro _ w5168 _ Γ' E' S ⟨rfl, rfl⟩
     replace E := E.trans E'
     refine QB (Zo ⟨.inr ⟨M5156, LE5109, (S.pick [4, 5, 6, 0, 7] (by decide))⟩, ?_⟩)
     refine Wt 13 rfl rfl rfl (.tuple #[.bool t5166.1, vI t5166.2]) rfl (fun w' h' => QC rfl) (⟨M5156, LE5109, (S.pick [4, 5, 6, 0, 7] (by decide))⟩) (Wt 14 rfl rfl rfl (.bool t5166.1) rfl (fun w' h' => QS rfl rfl) (⟨M5156, LE5109, (S.pick [4, 5, 6, 0, 7] (by decide))⟩) (Wt 15 rfl rfl rfl (vI t5166.2) rfl (fun w' h' => QS rfl rfl) (⟨M5156, LE5109, (S.pick [4, 5, 6, 0, 7] (by decide))⟩) (Wt 16 rfl rfl rfl (.bool t5166.1) rfl (fun w' h' => QD rfl) (⟨M5156, LE5109, (S.pick [4, 5, 6, 0, 7] (by decide))⟩) (Wt 17 rfl rfl rfl (vI t5166.2) rfl (fun w' h' => QD rfl) (⟨M5156, LE5109, (S.pick [4, 5, 6, 0, 7] (by decide))⟩) ?_))))
     refine Wz ?_
     refine tn ?_
     as_aux_lemma =>
     refine QE (QA (W_v (.bool t5166.1) (QC rfl) rfl (W_v (.bool (!t5166.1)) (Yy (b := t5166.1) rfl) rfl (W_v (.bool (!t5166.1)) (QC rfl) rfl ?_))))
     refine ZC 3 (fun ρ w' => Qn ρ [(1, pt b16 0), (29, .slice (some ⟨b4550, 0, none⟩) ([x4537, x4542] : List (List QU)).length 2), (30, .slice A4605 (t4580 ++ ([t4588] : List QF)).length c4606), (320, .slice (some ⟨b4607, 0, none⟩) x4610.length 2), (321, vI (x4610.length : Int)), (322, vI x4890), (347, .bool ((!t5166.1) || (t5166.2 != (0 : Int))))] ∧ w5168 = w') ?_ ?_
     ·rcases Qq (!t5166.1) with hb5169 | hb5169
      ·skip
       refine QT (congrArg some hb5169) (W_v (vI t5166.2) (QC rfl) rfl (QT (congrArg some hb5169) (W_v (.bool (t5166.2 != (0 : Int))) (QV rfl rfl rfl rfl) rfl (W_v (.bool (t5166.2 != (0 : Int))) (QX (k := false) (congrArg Value.bool hb5169) rfl) rfl (QB ?_)))))
       exact ⟨⟨rfl, rfl, rfl, rfl, rfl, rfl, (by first | rfl | (rw [hb5169]; rfl) | (simp only [hb5169]; rfl)), trivial⟩, rfl⟩
      ·skip
       refine Qh (skF hb5169) rfl (Qh (skF hb5169) rfl (W_v (.bool true) (QX (k := true) (congrArg Value.bool hb5169) rfl) rfl (QB ?_)))
       exact ⟨⟨rfl, rfl, rfl, rfl, rfl, rfl, (by first | rfl | (rw [hb5169]; rfl) | (simp only [hb5169]; rfl)), trivial⟩, rfl⟩
     rintro ρ _ ⟨hρ, rfl⟩
     rw [QL hρ]
     refine QB (tn ?_)
     rcases Zw H with ⟨hb5170, H⟩ | ⟨hb5170, H⟩
     ·refine QN (congrArg Value.bool hb5170) ?_
      refine QE (QA (W_v (.bool false) (QD rfl) rfl (QB (tn ?_))))
      refine QZ ?_
      refine br (tr (tr (br (tr (tr (?_))))))
      obtain rfl := Option.some.inj H
      have H := o5029H
      replace H := elimL H
      obtain rfl := Option.some.inj H
      exact ⟨_, _, _, fun w1 e1 => QO (vs := [.bool false]) (FA.cons (rfl) (FA.nil)), HM, E, S.pick [] (by decide), ⟨rfl, rfl⟩⟩
     refine QK (congrArg Value.bool hb5170) (Qk (bn (tn (QA (W_v (vI (IntKind.i64.wrap (x4890 + (1 : Int)))) (QV rfl rfl rfl rfl) rfl (W_v (vI (IntKind.i64.wrap (x4890 + (1 : Int)))) (QC rfl) rfl (QB (tn ?_))))))))
     exact ⟨k, Nat.lt_succ_self k, ⟨(IntKind.i64.wrap (x4890 + (1 : Int))), M5156, H, ⟨rfl, rfl, rfl, rfl, rfl, rfl, trivial⟩, hM5032, E, S.pick [5, 6, 0, 7] (by decide)⟩⟩
    refine QK (congrArg Value.bool hb5033) ?_
    refine Ys ?_
    refine tx (tx (bsm (?_)))
    refine tn ?_
    exact ⟨M5031, Option.some.inj H, trivial, hM5032, E, S.pick [] (by decide)⟩
 rintro ρ w5171 ⟨M5172, rfl, hρ, hM5173, E, S⟩
 rw [QL hρ]
 replace HM := Hp.le_trans HM hM5173
 have H := o5029H
 replace H := elimR H
 refine tn ?_
 as_aux_lemma =>
 refine QE (QA (W_v (.bool true) (QD rfl) rfl (QB (tn ?_))))
 refine QZ ?_
 obtain rfl := Option.some.inj H
 exact ⟨_, _, _, fun w1 e1 => QO (vs := [.bool true]) (FA.cons (rfl) (FA.nil)), HM, E, S.pick [] (by decide), ⟨rfl, rfl⟩⟩
end Go.Proofs.YtnjbjpaiepefoaaDoor
