import Derived.Test.YtnjbjpaiepefoaaDoorGp1B
namespace Go.Proofs.YtnjbjpaiepefoaaDoor
open Go
set_option linter.unusedVariables false
set_option linter.unusedSimpArgs false
set_option maxHeartbeats 80000000
set_option maxRecDepth 100000
def XL (a0 : ZB) : Nat → Int → Option ((Bool) ⊕ (Unit))
 | 0, _ => none
 | k + 1, x23 => (if (decide (x23 < (8 : Int))) = true then (Option.bind (α := List XD) (some ([(⟨(a0.Tasks), (1 : Int), (6 : Int)⟩ : XD), (⟨(a0.Active), (1 : Int), (8 : Int)⟩ : XD), (⟨(a0.Keys), (1 : Int), (64 : Int)⟩ : XD), (⟨(a0.Depth), (2 : Int), (8 : Int)⟩ : XD), (⟨(a0.TS), (1 : Int), (1048576 : Int)⟩ : XD), (⟨(a0.KeyLen), (1 : Int), (64 : Int)⟩ : XD), (⟨(a0.ValLen), (0 : Int), (256 : Int)⟩ : XD), (⟨(a0.Fan), (3 : Int), (8 : Int)⟩ : XD)] : List XD)) (fun x38 => (if 0 ≤ x23 ∧ x23 < (8 : Int) then (if ((decide ((rd x38 x23).n < (rd x38 x23).low)) || (decide ((rd x38 x23).n > (rd x38 x23).high))) = true then some (.inl false) else XL a0 k (IntKind.i64.wrap (x23 + (1 : Int)))) else none))) else some (.inr ()))
theorem XL.mono {a0 : ZB} : ∀ {kl : Nat} {x0}, OLe (XL a0 kl x0) (XL a0 (kl + 1) x0) := by
 intro kl
 induction kl with
 | zero => intros; exact OLe.none
 | succ kl ih =>
  intros
  rw [XL.eq_2, XL.eq_2]
  exact mo
def XF (k : Nat) (a0 : ZB) : Option (Bool) :=
 (Option.bind (XL a0 k (0 : Int)) (fun o35o => Sum.elim (fun r' => some r') (fun _ => some true) o35o))
theorem XF.mono {k : Nat} {a0 : ZB} : OLe (XF k a0) (XF (k + 1) a0) := by
 unfold XF
 have m1 := @XL.mono
 exact mo
theorem XF.con (k : Nat) (M : Hp) (a0 : ZB) (r : Bool)  (h : XF k a0 = some r) : Con Tryd.prog 45 #[.agg #[vI a0.Tasks, vI a0.Active, vI a0.Keys, vI a0.Depth, vI a0.TS, vI a0.KeyLen, vI a0.ValLen, vI a0.Fan]] M [] (fun v M' Γ' => v = .bool r ∧ Γ' = []) := by
 refine Qc Tryd.func45 rfl Tryd.ntmps45 Tryd.results45 rfl ?_
 intro w F rn S hrn
 have E := Ext.refl w
 have HM := Hp.le_refl M
 have H := h
 unfold XF at H
 refine QE (QA ?_)
 refine Yc S #[vI a0.Tasks, vI a0.Active, vI a0.Keys, vI a0.Depth, vI a0.TS, vI a0.KeyLen, vI a0.ValLen, vI a0.Fan] rfl rfl rfl ?_
 intro b1 w2 E' S
 replace E := E.trans E'
 refine W_v (.bool false) (QD rfl) rfl (QB (tn (QE (QE (QA (W_v (pt b1 0) (QG (o := 0) (off := 0) Tryd.underlying23 rfl ty3 rfl rfl) rfl (W_v (vI a0.Tasks) (QQ (S.blk 0 rfl) ty3 rfl rfl) rfl (W_v (.agg #[vI (a0.Tasks), vI 1, vI 6]) (Qr (pl := [(0, 1), (1, 1), (2, 1)]) #[vI (a0.Tasks), vI 1, vI 6] Tryd.underlying129 ty129 (by as_aux_lemma => kernel_rfl) rfl (by as_aux_lemma => kernel_rfl)) rfl (W_v (pt b1 1) (QG (o := 0) (off := 1) Tryd.underlying23 rfl ty3 rfl rfl) rfl (W_v (vI a0.Active) (QQ (S.blk 0 rfl) ty3 rfl rfl) rfl (W_v (.agg #[vI (a0.Active), vI 1, vI 8]) (Qr (pl := [(0, 1), (1, 1), (2, 1)]) #[vI (a0.Active), vI 1, vI 8] Tryd.underlying129 ty129 (by as_aux_lemma => kernel_rfl) rfl (by as_aux_lemma => kernel_rfl)) rfl (W_v (pt b1 2) (QG (o := 0) (off := 2) Tryd.underlying23 rfl ty3 rfl rfl) rfl (W_v (vI a0.Keys) (QQ (S.blk 0 rfl) ty3 rfl rfl) rfl (W_v (.agg #[vI (a0.Keys), vI 1, vI 64]) (Qr (pl := [(0, 1), (1, 1), (2, 1)]) #[vI (a0.Keys), vI 1, vI 64] Tryd.underlying129 ty129 (by as_aux_lemma => kernel_rfl) rfl (by as_aux_lemma => kernel_rfl)) rfl (W_v (pt b1 3) (QG (o := 0) (off := 3) Tryd.underlying23 rfl ty3 rfl rfl) rfl ?_)))))))))))))))
 refine W_v (vI a0.Depth) (QQ (S.blk 0 rfl) ty3 rfl rfl) rfl (W_v (.agg #[vI (a0.Depth), vI 2, vI 8]) (Qr (pl := [(0, 1), (1, 1), (2, 1)]) #[vI (a0.Depth), vI 2, vI 8] Tryd.underlying129 ty129 (by as_aux_lemma => kernel_rfl) rfl (by as_aux_lemma => kernel_rfl)) rfl (W_v (pt b1 4) (QG (o := 0) (off := 4) Tryd.underlying23 rfl ty3 rfl rfl) rfl (W_v (vI a0.TS) (QQ (S.blk 0 rfl) ty3 rfl rfl) rfl (W_v (.agg #[vI (a0.TS), vI 1, vI 1048576]) (Qr (pl := [(0, 1), (1, 1), (2, 1)]) #[vI (a0.TS), vI 1, vI 1048576] Tryd.underlying129 ty129 (by as_aux_lemma => kernel_rfl) rfl (by as_aux_lemma => kernel_rfl)) rfl (W_v (pt b1 5) (QG (o := 0) (off := 5) Tryd.underlying23 rfl ty3 rfl rfl) rfl (W_v (vI a0.KeyLen) (QQ (S.blk 0 rfl) ty3 rfl rfl) rfl (W_v (.agg #[vI (a0.KeyLen), vI 1, vI 64]) (Qr (pl := [(0, 1), (1, 1), (2, 1)]) #[vI (a0.KeyLen), vI 1, vI 64] Tryd.underlying129 ty129 (by as_aux_lemma => kernel_rfl) rfl (by as_aux_lemma => kernel_rfl)) rfl (W_v (pt b1 6) (QG (o := 0) (off := 6) Tryd.underlying23 rfl ty3 rfl rfl) rfl (W_v (vI a0.ValLen) (QQ (S.blk 0 rfl) ty3 rfl rfl) rfl (W_v (.agg #[vI (a0.ValLen), vI 0, vI 256]) (Qr (pl := [(0, 1), (1, 1), (2, 1)]) #[vI (a0.ValLen), vI 0, vI 256] Tryd.underlying129 ty129 (by as_aux_lemma => kernel_rfl) rfl (by as_aux_lemma => kernel_rfl)) rfl (W_v (pt b1 7) (QG (o := 0) (off := 7) Tryd.underlying23 rfl ty3 rfl rfl) rfl (W_v (vI a0.Fan) (QQ (S.blk 0 rfl) ty3 rfl rfl) rfl (W_v (.agg #[vI (a0.Fan), vI 3, vI 8]) (Qr (pl := [(0, 1), (1, 1), (2, 1)]) #[vI (a0.Fan), vI 3, vI 8] Tryd.underlying129 ty129 (by as_aux_lemma => kernel_rfl) rfl (by as_aux_lemma => kernel_rfl)) rfl (W_v (.agg #[vI (a0.Tasks), vI 1, vI 6, vI (a0.Active), vI 1, vI 8, vI (a0.Keys), vI 1, vI 64, vI (a0.Depth), vI 2, vI 8, vI (a0.TS), vI 1, vI 1048576, vI (a0.KeyLen), vI 1, vI 64, vI (a0.ValLen), vI 0, vI 256, vI (a0.Fan), vI 3, vI 8]) (Ul #[vI (a0.Tasks), vI 1, vI 6, vI (a0.Active), vI 1, vI 8, vI (a0.Keys), vI 1, vI 64, vI (a0.Depth), vI 2, vI 8, vI (a0.TS), vI 1, vI 1048576, vI (a0.KeyLen), vI 1, vI 64, vI (a0.ValLen), vI 0, vI 256, vI (a0.Fan), vI 3, vI 8] Tryd.underlying130 ty130 ty129 rfl (by kernel_rfl)) rfl (W_v (vI 0) (QC rfl) rfl ?_)))))))))))))))
 refine QB (tn ?_)
 obtain ⟨o35, o35h, o35H⟩ := QW H
 refine Ym (fun ρ w' => .inr () = o35 ∧ Qn ρ [] ∧ Ext w w' ∧ St w' M F []) ?_ ?_
 ·skip
  refine Y6 (fun n ρ w' => ∃ (x23 : Int), XL a0 n x23 = some o35 ∧ Qn ρ [(29, .agg #[vI (a0.Tasks), vI 1, vI 6, vI (a0.Active), vI 1, vI 8, vI (a0.Keys), vI 1, vI 64, vI (a0.Depth), vI 2, vI 8, vI (a0.TS), vI 1, vI 1048576, vI (a0.KeyLen), vI 1, vI 64, vI (a0.ValLen), vI 0, vI 256, vI (a0.Fan), vI 3, vI 8]), (30, vI x23)] ∧ Ext w w' ∧ St w' M F []) k ?_ ?_
  ·skip
   exact ⟨(0 : Int), o35h, ⟨rfl, rfl, trivial⟩, E, S.pick [] (by decide)⟩
  ·intro n
   rintro ρ w36 ⟨x23, H, hρ, E, S⟩
   rw [QL hρ]
   cases n with
   | zero => cases H
   | succ k =>
    rw [XL.eq_2] at H
    refine QE (QA (W_v (.bool (decide (x23 < (8 : Int)))) (QV rfl rfl rfl rfl) rfl (QB (tn (QE ?_)))))
    rcases Zw H with ⟨hb37, H⟩ | ⟨hb37, H⟩
    ·refine QN (congrArg Value.bool hb37) ?_
     refine Qk (tn (QE ?_))
     refine YO ?_
     refine QE (QA ?_)
     obtain ⟨x38, he39, H⟩ := QW H
     replace he39 := Option.some.inj he39
     obtain ⟨⟨p40, p41⟩, H⟩ := YN H
     refine W_v (.agg #[vI ((rd x38 x23).n), vI ((rd x38 x23).low), vI ((rd x38 x23).high)]) ((by rw [← he39]; exact Uk Tryd.underlying130 ty129 rfl rfl p40 p41 (by obtain ⟨q, hq⟩ := Int.eq_ofNat_of_zero_le p40; have h9 : q = 0 ∨ q = 1 ∨ q = 2 ∨ q = 3 ∨ q = 4 ∨ q = 5 ∨ q = 6 ∨ q = 7 := (by omega); rcases h9 with rfl | rfl | rfl | rfl | rfl | rfl | rfl | rfl <;> (rw [hq] <;> rfl)))) rfl ?_
     refine Z1 S #[vI 0, vI 0, vI 0] ty129 rfl rfl ?_
     intro b42 w43 E' S
     replace E := E.trans E'
     refine Q0 S 0 rfl ty129 rfl rfl [vI ((rd x38 x23).n), vI ((rd x38 x23).low), vI ((rd x38 x23).high)] rfl rfl rfl #[vI ((rd x38 x23).n), vI ((rd x38 x23).low), vI ((rd x38 x23).high)] rfl rfl ?_
     intro w45 E' S
     replace E := E.trans E'
     refine QB (tn (QE (QA (W_v (pt b42 0) (QG (o := 0) (off := 0) Tryd.underlying129 rfl ty3 rfl rfl) rfl (W_v (vI ((rd x38 x23).n)) (QQ (S.blk 0 rfl) ty3 rfl rfl) rfl (W_v (pt b42 1) (QG (o := 0) (off := 1) Tryd.underlying129 rfl ty3 rfl rfl) rfl (W_v (vI ((rd x38 x23).low)) (QQ (S.blk 0 rfl) ty3 rfl rfl) rfl (W_v (.bool (decide ((rd x38 x23).n < (rd x38 x23).low))) (QV rfl rfl rfl rfl) rfl (W_v (.bool (decide ((rd x38 x23).n < (rd x38 x23).low))) (QC rfl) rfl ?_)))))))))
     refine ZC 6 (fun ρ w' => Qn ρ [(29, .agg #[vI (a0.Tasks), vI 1, vI 6, vI (a0.Active), vI 1, vI 8, vI (a0.Keys), vI 1, vI 64, vI (a0.Depth), vI 2, vI 8, vI (a0.TS), vI 1, vI 1048576, vI (a0.KeyLen), vI 1, vI 64, vI (a0.ValLen), vI 0, vI 256, vI (a0.Fan), vI 3, vI 8]), (30, vI x23), (44, .bool ((decide ((rd x38 x23).n < (rd x38 x23).low)) || (decide ((rd x38 x23).n > (rd x38 x23).high))))] ∧ w45 = w') ?_ ?_
     ·rcases Qq (decide ((rd x38 x23).n < (rd x38 x23).low)) with hb46 | hb46
      ·skip
       refine QT (congrArg some hb46) (W_v (pt b42 0) (QG (o := 0) (off := 0) Tryd.underlying129 rfl ty3 rfl rfl) rfl (QT (congrArg some hb46) (W_v (vI ((rd x38 x23).n)) (QQ (S.blk 0 rfl) ty3 rfl rfl) rfl (QT (congrArg some hb46) (W_v (pt b42 2) (QG (o := 0) (off := 2) Tryd.underlying129 rfl ty3 rfl rfl) rfl (QT (congrArg some hb46) (W_v (vI ((rd x38 x23).high)) (QQ (S.blk 0 rfl) ty3 rfl rfl) rfl (QT (congrArg some hb46) (W_v (.bool (decide ((rd x38 x23).n > (rd x38 x23).high))) (QV rfl rfl rfl rfl) rfl (W_v (.bool (decide ((rd x38 x23).n > (rd x38 x23).high))) (QX (k := false) (congrArg Value.bool hb46) rfl) rfl (QB ?_)))))))))))
       exact ⟨⟨rfl, rfl, (by first | rfl | (rw [hb46]; rfl) | (simp only [hb46]; rfl)), trivial⟩, rfl⟩
      ·skip
       refine Qh (skF hb46) rfl (Qh (skF hb46) rfl (Qh (skF hb46) rfl (Qh (skF hb46) rfl (Qh (skF hb46) rfl (W_v (.bool true) (QX (k := true) (congrArg Value.bool hb46) rfl) rfl (QB ?_))))))
       exact ⟨⟨rfl, rfl, (by first | rfl | (rw [hb46]; rfl) | (simp only [hb46]; rfl)), trivial⟩, rfl⟩
     rintro ρ _ ⟨hρ, rfl⟩
     rw [QL hρ]
     refine QB (tn ?_)
     rcases Zw H with ⟨hb47, H⟩ | ⟨hb47, H⟩
     ·refine QN (congrArg Value.bool hb47) ?_
      refine QE (QA (W_v (.bool false) (QD rfl) rfl (QB (tn ?_))))
      refine QZ ?_
      refine br (tr (tr (br (tr (tr (?_))))))
      obtain rfl := Option.some.inj H
      have H := o35H
      replace H := elimL H
      obtain rfl := Option.some.inj H
      exact ⟨_, _, _, fun w1 e1 => QO (vs := [.bool false]) (FA.cons (rfl) (FA.nil)), HM, E, S.pick [] (by decide), ⟨rfl, rfl⟩⟩
     refine QK (congrArg Value.bool hb47) (Qk (bn (tn (QA (W_v (vI (IntKind.i64.wrap (x23 + (1 : Int)))) (QV rfl rfl rfl rfl) rfl (W_v (vI (IntKind.i64.wrap (x23 + (1 : Int)))) (QC rfl) rfl (QB (tn ?_))))))))
     exact ⟨k, Nat.lt_succ_self k, ⟨(IntKind.i64.wrap (x23 + (1 : Int))), H, ⟨rfl, rfl, trivial⟩, E, S.pick [] (by decide)⟩⟩
    refine QK (congrArg Value.bool hb37) ?_
    refine Ys ?_
    refine tx (tx (bsm (?_)))
    refine tn ?_
    exact ⟨Option.some.inj H, trivial, E, S.pick [] (by decide)⟩
 rintro ρ w48 ⟨rfl, hρ, E, S⟩
 rw [QL hρ]
 have H := o35H
 replace H := elimR H
 refine tn ?_
 as_aux_lemma =>
 refine QE (QA (W_v (.bool true) (QD rfl) rfl (QB (tn ?_))))
 refine QZ ?_
 obtain rfl := Option.some.inj H
 exact ⟨_, _, _, fun w1 e1 => QO (vs := [.bool true]) (FA.cons (rfl) (FA.nil)), HM, E, S.pick [] (by decide), ⟨rfl, rfl⟩⟩
def Y0 (k : Nat) (a0 : (List QU)) : Option (Bool) :=
 some (decide ((a0.length : Int) > (64 : Int)))
theorem Y0.mono {k : Nat} {a0 : (List QU)} : OLe (Y0 k a0) (Y0 (k + 1) a0) := by
 unfold Y0
 exact mo
theorem Y0.con (k : Nat) (M : Hp) (A0 : Option Addr) (c0 : Nat) (a0 : (List QU)) (r : Bool) (hr0 : SlR ZT M (.slice A0 a0.length c0) a0) (h : Y0 k a0 = some r) : Con Tryd.prog 47 #[.slice A0 a0.length c0] M [] (fun v M' Γ' => v = .bool r ∧ Γ' = []) := by
 refine Qc Tryd.func47 rfl Tryd.ntmps47 Tryd.results47 rfl ?_
 intro w F rn S hrn
 have E := Ext.refl w
 have HM := Hp.le_refl M
 have H := h
 unfold Y0 at H
 refine QE (QA (W_v (.bool false) (QD rfl) rfl (QB (tn (QE (QA (W_v (.slice A0 a0.length c0) (QC rfl) rfl (W_v (vI (a0.length : Int)) (ZK (n := a0.length) Tryd.underlying44 rfl) rfl (W_v (.bool (decide ((a0.length : Int) > (64 : Int)))) (QV rfl rfl rfl rfl) rfl (W_v (.bool (decide ((a0.length : Int) > (64 : Int)))) (QD rfl) rfl (QB (tn ?_))))))))))))
 refine QZ ?_
 obtain rfl := Option.some.inj H
 exact ⟨_, _, _, fun w1 e1 => QO (vs := [.bool (decide ((a0.length : Int) > (64 : Int)))]) (FA.cons (rfl) (FA.nil)), HM, E, S.pick [] (by decide), ⟨rfl, rfl⟩⟩
def ZF (a0 : (List (List QU))) : Nat → Int → Option ((Int) ⊕ (Unit))
 | 0, _ => none
 | k + 1, x45 => (if (decide (x45 < (a0.length : Int))) = true then (if 0 ≤ x45 ∧ x45 < (a0.length : Int) then (Option.bind (Y0 k (rd a0 x45)) (fun t84 => (if t84 = true then some (.inl x45) else ZF a0 k (IntKind.i64.wrap (x45 + (1 : Int)))))) else none) else some (.inr ()))
theorem ZF.mono {a0 : (List (List QU))} : ∀ {kl : Nat} {x0}, OLe (ZF a0 kl x0) (ZF a0 (kl + 1) x0) := by
 intro kl
 induction kl with
 | zero => intros; exact OLe.none
 | succ kl ih =>
  intros
  rw [ZF.eq_2, ZF.eq_2]
  have m1 := @Y0.mono
  exact mo
def ZL (k : Nat) (a0 : (List (List QU))) : Option (Int) :=
 (Option.bind (ZF a0 k (0 : Int)) (fun o67o => Sum.elim (fun r' => some r') (fun _ => some (-1 : Int)) o67o))
theorem ZL.mono {k : Nat} {a0 : (List (List QU))} : OLe (ZL k a0) (ZL (k + 1) a0) := by
 unfold ZL
 have m1 := @ZF.mono
 exact mo
theorem ZL.con (k : Nat) (M : Hp) (A0 : Option Addr) (c0 : Nat) (a0 : (List (List QU))) (r : Int) (hr0 : SlR (rSl ZT) M (.slice A0 a0.length c0) a0) (h : ZL k a0 = some r) : Con Tryd.prog 65 #[.slice A0 a0.length c0, .func (.func 47) #[] #[]] M [] (fun v M' Γ' => v = vI r ∧ Γ' = []) := by
 refine Qc Tryd.func65 rfl Tryd.ntmps65 Tryd.results65 rfl ?_
 intro w F rn S hrn
 have E := Ext.refl w
 have HM := Hp.le_refl M
 have H := h
 unfold ZL at H
 refine QE (QA (W_v (vI 0) (QD rfl) rfl (QB (tn (QE (QE (QA (W_v (.slice A0 a0.length c0) (QC rfl) rfl (W_v (vI (a0.length : Int)) (ZK (n := a0.length) Tryd.underlying24 rfl) rfl (W_v (vI 0) (QC rfl) rfl (QB (tn ?_))))))))))))
 obtain ⟨o67, o67h, o67H⟩ := QW H
 refine Ym (fun ρ w' => .inr () = o67 ∧ Qn ρ [] ∧ Ext w w' ∧ St w' M F []) ?_ ?_
 ·skip
  refine Y6 (fun n ρ w' => ∃ (x45 : Int), ZF a0 n x45 = some o67 ∧ Qn ρ [(0, .slice A0 a0.length c0), (1, .func (.func 47) #[] #[]), (7, vI (a0.length : Int)), (8, vI x45)] ∧ Ext w w' ∧ St w' M F []) k ?_ ?_
  ·skip
   exact ⟨(0 : Int), o67h, ⟨rfl, rfl, rfl, rfl, trivial⟩, E, S.pick [] (by decide)⟩
  ·intro n
   rintro ρ w68 ⟨x45, H, hρ, E, S⟩
   rw [QL hρ]
   cases n with
   | zero => cases H
   | succ k =>
    rw [ZF.eq_2] at H
    refine QE (QA (W_v (.bool (decide (x45 < (a0.length : Int)))) (QV rfl rfl rfl rfl) rfl (QB (tn (QE ?_)))))
    rcases Zw H with ⟨hb69, H⟩ | ⟨hb69, H⟩
    ·refine QN (congrArg Value.bool hb69) ?_
     refine Qk (tn (QE ?_))
     refine YO ?_
     refine QE (QA (W_v (vI x45) (QC rfl) rfl (W_v (vI x45) (QD rfl) rfl (QB (tn (QE (QA (W_v (.func (.func 47) #[] #[]) (QC rfl) rfl (W_v (.slice A0 a0.length c0) (QC rfl) rfl (W_v (vI x45) (QC rfl) rfl ?_))))))))))
     obtain ⟨⟨p70, p71⟩, H⟩ := YN H
     obtain ⟨b72, o73, cs74, _, _, ee79, hb75, vs76, hR77, hc78⟩ := SlW.at' hr0 p70 p71
     obtain ⟨v83, hs82, rfl⟩ := hR77
     obtain ⟨A80, c81, rfl, _⟩ := hs82.form
     refine W_v (.pointer (some ⟨b72, o73 + x45.toNat * 1, none⟩)) (Q8 Tryd.underlying24 ty44 (slA ee79) rfl p70 p71) rfl (W_v (.slice A80 (rd a0 x45).length c81) (QQ (S.frz hb75) ty44 rfl (hc78 0 _ rfl)) rfl ?_)
     obtain ⟨t84, ht85, H⟩ := QW H
     refine XP (fs := []) (cap := []) fn47 rfl (Y0.con k M A80 c81 (rd a0 x45) t84 hs82 ht85) (Γ1 := []) (Γ2 := []) S rfl rfl (by rintro _ _ _ ⟨rfl, rfl⟩; exact Qd) ?_
     rintro _ w86 _ Γ' E' S ⟨rfl, rfl⟩
     replace E := E.trans E'
     replace S : St w86 M F [] := S
     refine QB (tn ?_)
     rcases Zw H with ⟨hb89, H⟩ | ⟨hb89, H⟩
     ·refine QN (congrArg Value.bool hb89) ?_
      refine QE (QA (W_v (vI x45) (QC rfl) rfl (W_v (vI x45) (QD rfl) rfl (QB (tn ?_)))))
      refine QZ ?_
      refine br (tr (tr (br (tr (tr (?_))))))
      obtain rfl := Option.some.inj H
      have H := o67H
      replace H := elimL H
      obtain rfl := Option.some.inj H
      exact ⟨_, _, _, fun w1 e1 => QO (vs := [vI x45]) (FA.cons (rfl) (FA.nil)), HM, E, S.pick [] (by decide), ⟨rfl, rfl⟩⟩
     refine QK (congrArg Value.bool hb89) (Qk (bn (tn (QA (W_v (vI (IntKind.i64.wrap (x45 + (1 : Int)))) (QV rfl rfl rfl rfl) rfl (W_v (vI (IntKind.i64.wrap (x45 + (1 : Int)))) (QC rfl) rfl (QB (tn ?_))))))))
     exact ⟨k, Nat.lt_succ_self k, ⟨(IntKind.i64.wrap (x45 + (1 : Int))), H, ⟨rfl, rfl, rfl, rfl, trivial⟩, E, S.pick [] (by decide)⟩⟩
    refine QK (congrArg Value.bool hb69) ?_
    refine Ys ?_
    refine tx (tx (bsm (?_)))
    refine tn ?_
    exact ⟨Option.some.inj H, trivial, E, S.pick [] (by decide)⟩
 rintro ρ w90 ⟨rfl, hρ, E, S⟩
 rw [QL hρ]
 have H := o67H
 replace H := elimR H
 refine tn ?_
 as_aux_lemma =>
 refine QE (QA (W_v (vI (-1)) (QD rfl) rfl (QB (tn ?_))))
 refine QZ ?_
 obtain rfl := Option.some.inj H
 exact ⟨_, _, _, fun w1 e1 => QO (vs := [vI (-1)]) (FA.cons (rfl) (FA.nil)), HM, E, S.pick [] (by decide), ⟨rfl, rfl⟩⟩
def ZG (k : Nat) (a0 : (List (List QU))) : Option (Bool) :=
 (Option.bind (ZL k a0) (fun t1 => some (decide (t1 ≥ (0 : Int)))))
theorem ZG.mono {k : Nat} {a0 : (List (List QU))} : OLe (ZG k a0) (ZG (k + 1) a0) := by
 unfold ZG
 have m1 := @ZL.mono
 exact mo
theorem ZG.con (k : Nat) (M : Hp) (A0 : Option Addr) (c0 : Nat) (a0 : (List (List QU))) (r : Bool) (hr0 : SlR (rSl ZT) M (.slice A0 a0.length c0) a0) (h : ZG k a0 = some r) : Con Tryd.prog 46 #[.slice A0 a0.length c0, .func (.func 47) #[] #[]] M [] (fun v M' Γ' => v = .bool r ∧ Γ' = []) := by
 refine Qc Tryd.func46 rfl Tryd.ntmps46 Tryd.results46 rfl ?_
 intro w F rn S hrn
 have E := Ext.refl w
 have HM := Hp.le_refl M
 have H := h
 unfold ZG at H
 refine QE (QA (W_v (.bool false) (QD rfl) rfl (QB (tn (QE (QA (W_v (.slice A0 a0.length c0) (QC rfl) rfl (W_v (.func (.func 47) #[] #[]) (QC rfl) rfl ?_))))))))
 obtain ⟨t1, ht2, H⟩ := QW H
 refine Z3 fn65 (ZL.con k M A0 c0 a0 t1 hr0 ht2) (Γ1 := []) (Γ2 := []) S rfl rfl (by rintro _ _ _ ⟨rfl, rfl⟩; exact Qd) ?_
 rintro _ w3 _ Γ' E' S ⟨rfl, rfl⟩
 replace E := E.trans E'
 replace S : St w3 M F [] := S
 refine W_v (.bool (decide (t1 ≥ (0 : Int)))) (QV rfl rfl rfl rfl) rfl (W_v (.bool (decide (t1 ≥ (0 : Int)))) (QD rfl) rfl (QB (tn ?_)))
 refine QZ ?_
 obtain rfl := Option.some.inj H
 exact ⟨_, _, _, fun w1 e1 => QO (vs := [.bool (decide (t1 ≥ (0 : Int)))]) (FA.cons (rfl) (FA.nil)), HM, E, S.pick [] (by decide), ⟨rfl, rfl⟩⟩
def Yg (k : Nat) (a0 : ZB) (a1 : (List (List QU))) : Option (Bool) :=
 (Option.bind (XF k a0) (fun t4 => (Option.bind (α := Bool) (if (t4 && (decide ((a1.length : Int) ≤ a0.Tasks))) = true then (Option.bind (ZG k a1) (fun t21 => some ((!t21)))) else some (false)) (fun x19 => some x19))))
theorem Yg.mono {k : Nat} {a0 : ZB} {a1 : (List (List QU))} : OLe (Yg k a0 a1) (Yg (k + 1) a0 a1) := by
 unfold Yg
 have m1 := @ZG.mono
 have m2 := @XF.mono
 exact mo
theorem Yg.con (k : Nat) (M : Hp) (a0 : ZB) (A1 : Option Addr) (c1 : Nat) (a1 : (List (List QU))) (r : Bool) (hr1 : SlR (rSl ZT) M (.slice A1 a1.length c1) a1) (h : Yg k a0 a1 = some r) : Con Tryd.prog 14 #[.agg #[vI a0.Tasks, vI a0.Active, vI a0.Keys, vI a0.Depth, vI a0.TS, vI a0.KeyLen, vI a0.ValLen, vI a0.Fan], .slice A1 a1.length c1] M [] (fun v M' Γ' => v = .bool r ∧ Γ' = []) := by
 refine Qc Tryd.func14 rfl Tryd.ntmps14 Tryd.results14 rfl ?_
 intro w F rn S hrn
 have E := Ext.refl w
 have HM := Hp.le_refl M
 have H := h
 unfold Yg at H
 refine QE (QA ?_)
 refine Yc S #[vI a0.Tasks, vI a0.Active, vI a0.Keys, vI a0.Depth, vI a0.TS, vI a0.KeyLen, vI a0.ValLen, vI a0.Fan] rfl rfl rfl ?_
 intro b1 w2 E' S
 replace E := E.trans E'
 refine W_v (.bool false) (QD rfl) rfl (QB (tn (QE (QA (W_v (.agg #[vI a0.Tasks, vI a0.Active, vI a0.Keys, vI a0.Depth, vI a0.TS, vI a0.KeyLen, vI a0.ValLen, vI a0.Fan]) (Qi (S.blk 0 rfl) ty23 rfl (QI rfl) rfl rfl) rfl ?_)))))
 obtain ⟨t4, ht5, H⟩ := QW H
 refine YM fn45 (XF.con k M a0 t4  ht5) S rfl rfl (by rintro _ _ _ ⟨_, rfl⟩; exact Qd) ?_
 rintro _ w6 _ Γ' E' S ⟨rfl, rfl⟩
 replace E := E.trans E'
 refine W_v (.bool t4) (QC rfl) rfl ?_
 refine ZC 6 (fun ρ w' => Qn ρ [(1, .slice A1 a1.length c1), (13, .bool (t4 && (decide ((a1.length : Int) ≤ a0.Tasks))))] ∧ w6 = w') ?_ ?_
 ·rcases Qq t4 with hb7 | hb7
  ·skip
   refine Qh (skT hb7) rfl (Qh (skT hb7) rfl (Qh (skT hb7) rfl (Qh (skT hb7) rfl (Qh (skT hb7) rfl (W_v (.bool false) (QX (k := false) (congrArg Value.bool hb7) rfl) rfl (QB ?_))))))
   exact ⟨⟨rfl, (by first | rfl | (rw [hb7]; rfl) | (simp only [hb7]; rfl)), trivial⟩, rfl⟩
  ·skip
   refine QT (congrArg some hb7) (W_v (.slice A1 a1.length c1) (QC rfl) rfl (QT (congrArg some hb7) (W_v (vI (a1.length : Int)) (ZK (n := a1.length) Tryd.underlying24 rfl) rfl (QT (congrArg some hb7) (W_v (pt b1 0) (QG (o := 0) (off := 0) Tryd.underlying23 rfl ty3 rfl rfl) rfl (QT (congrArg some hb7) (W_v (vI a0.Tasks) (QQ (S.blk 0 rfl) ty3 rfl rfl) rfl (QT (congrArg some hb7) (W_v (.bool (decide ((a1.length : Int) ≤ a0.Tasks))) (QV rfl rfl rfl rfl) rfl (W_v (.bool (decide ((a1.length : Int) ≤ a0.Tasks))) (QX (k := true) (congrArg Value.bool hb7) rfl) rfl (QB ?_)))))))))))
   exact ⟨⟨rfl, (by first | rfl | (rw [hb7]; rfl) | (simp only [hb7]; rfl)), trivial⟩, rfl⟩
 rintro ρ _ ⟨hρ, rfl⟩
 rw [QL hρ]
 refine W_v (.bool (t4 && (decide ((a1.length : Int) ≤ a0.Tasks)))) (QC rfl) rfl ?_
 obtain ⟨o20, o20h, o20H⟩ := QW H
 refine ZC 4 (fun ρ w' => ∃ (x19 : Bool), (x19) = o20 ∧ Qn ρ [(18, .bool x19)] ∧ Ext w w' ∧ St w' M F []) ?_ ?_
 ·have H := o20h
  rcases Zw H with ⟨hb18, H⟩ | ⟨hb18, H⟩
  ·skip
   refine QT (congrArg some hb18) (W_v (.slice A1 a1.length c1) (QC rfl) rfl (QT (congrArg some hb18) ?_))
   obtain ⟨t21, ht22, H⟩ := QW H
   refine Z3 fn46 (ZG.con k M A1 c1 a1 t21 hr1 ht22) (Γ1 := []) (Γ2 := [_]) S rfl rfl (by rintro _ _ _ ⟨rfl, rfl⟩; exact Qd) ?_
   rintro _ w23 _ Γ' E' S ⟨rfl, rfl⟩
   replace E := E.trans E'
   replace S : St w23 M F [_] := S
   refine QT (congrArg some hb18) (W_v (.bool (!t21)) (Yy (b := t21) rfl) rfl (W_v (.bool (!t21)) (QX (k := true) (congrArg Value.bool hb18) rfl) rfl (QB ?_)))
   exact ⟨(!t21), Option.some.inj H, ⟨rfl, trivial⟩, E, S.pick [] (by decide)⟩
  ·skip
   refine Qh (skT hb18) rfl (Qh (skT hb18) rfl (Qh (skT hb18) rfl (W_v (.bool false) (QX (k := false) (congrArg Value.bool hb18) rfl) rfl (QB ?_))))
   exact ⟨false, Option.some.inj H, ⟨rfl, trivial⟩, E, S.pick [] (by decide)⟩
 rintro ρ w26 ⟨x19, rfl, hρ, E, S⟩
 rw [QL hρ]
 have H := o20H
 refine W_v (.bool x19) (QD rfl) rfl (QB (tn ?_))
 refine QZ ?_
 obtain rfl := Option.some.inj H
 exact ⟨_, _, _, fun w1 e1 => QO (vs := [.bool x19]) (FA.cons (rfl) (FA.nil)), HM, E, S.pick [] (by decide), ⟨rfl, rfl⟩⟩
def ZY (a0 : (List Qu)) (a1 : (List Qu)) : Nat → Int → Option ((Bool) ⊕ (Unit))
 | 0, _ => none
 | k + 1, x92 => (if (decide (x92 < (a0.length : Int))) = true then (if 0 ≤ x92 ∧ x92 < (a0.length : Int) then (if 0 ≤ x92 ∧ x92 < (a1.length : Int) then (if (!(((rd a0 x92).Key == (rd a1 x92).Key) && ((rd a0 x92).Value == (rd a1 x92).Value))) = true then some (.inl false) else ZY a0 a1 k (IntKind.i64.wrap (x92 + (1 : Int)))) else none) else none) else some (.inr ()))
theorem ZY.mono {a0 : (List Qu)} {a1 : (List Qu)} : ∀ {kl : Nat} {x0}, OLe (ZY a0 a1 kl x0) (ZY a0 a1 (kl + 1) x0) := by
 intro kl
 induction kl with
 | zero => intros; exact OLe.none
 | succ kl ih =>
  intros
  rw [ZY.eq_2, ZY.eq_2]
  exact mo
def Zh (k : Nat) (a0 : (List Qu)) (a1 : (List Qu)) : Option (Bool) :=
 (if ((a0.length : Int) != (a1.length : Int)) = true then some false else (Option.bind (ZY a0 a1 k (0 : Int)) (fun o137o => Sum.elim (fun r' => some r') (fun _ => some true) o137o)))
theorem Zh.mono {k : Nat} {a0 : (List Qu)} {a1 : (List Qu)} : OLe (Zh k a0 a1) (Zh (k + 1) a0 a1) := by
 unfold Zh
 have m1 := @ZY.mono
 exact mo
theorem Zh.con (k : Nat) (M : Hp) (A0 : Option Addr) (c0 : Nat) (a0 : (List Qu)) (A1 : Option Addr) (c1 : Nat) (a1 : (List Qu)) (r : Bool) (hr0 : SlR Qt M (.slice A0 a0.length c0) a0) (hr1 : SlR Qt M (.slice A1 a1.length c1) a1) (h : Zh k a0 a1 = some r) : Con Tryd.prog 44 #[.slice A0 a0.length c0, .slice A1 a1.length c1] M [] (fun v M' Γ' => v = .bool r ∧ Γ' = []) := by
 refine Qc Tryd.func44 rfl Tryd.ntmps44 Tryd.results44 rfl ?_
 intro w F rn S hrn
 have E := Ext.refl w
 have HM := Hp.le_refl M
 have H := h
 unfold Zh at H
 refine QE (QA (W_v (.bool false) (QD rfl) rfl (QB (tn (QE (QE (QA (W_v (.slice A0 a0.length c0) (QC rfl) rfl (W_v (vI (a0.length : Int)) (ZK (n := a0.length) Tryd.underlying32 rfl) rfl (W_v (.slice A1 a1.length c1) (QC rfl) rfl (W_v (vI (a1.length : Int)) (ZK (n := a1.length) Tryd.underlying32 rfl) rfl (W_v (.bool ((a0.length : Int) != (a1.length : Int))) (QV rfl rfl rfl rfl) rfl (QB (tn ?_))))))))))))))
 rcases Zw H with ⟨hb1, H⟩ | ⟨hb1, H⟩
 ·refine QN (congrArg Value.bool hb1) ?_
  refine QE (QA (W_v (.bool false) (QD rfl) rfl (QB (tn ?_))))
  refine QZ ?_
  refine tr (?_)
  obtain rfl := Option.some.inj H
  exact ⟨_, _, _, fun w1 e1 => QO (vs := [.bool false]) (FA.cons (rfl) (FA.nil)), HM, E, S.pick [] (by decide), ⟨rfl, rfl⟩⟩
 refine QK (congrArg Value.bool hb1) (Qk (tn (QE (QE (QA (W_v (.slice A0 a0.length c0) (QC rfl) rfl (W_v (vI (a0.length : Int)) (ZK (n := a0.length) Tryd.underlying32 rfl) rfl (W_v (vI 0) (QC rfl) rfl (QB (tn ?_))))))))))
 obtain ⟨o137, o137h, o137H⟩ := QW H
 refine Ym (fun ρ w' => .inr () = o137 ∧ Qn ρ [] ∧ Ext w w' ∧ St w' M F []) ?_ ?_
 ·skip
  refine Y6 (fun n ρ w' => ∃ (x92 : Int), ZY a0 a1 n x92 = some o137 ∧ Qn ρ [(0, .slice A0 a0.length c0), (1, .slice A1 a1.length c1), (12, vI (a0.length : Int)), (13, vI x92)] ∧ Ext w w' ∧ St w' M F []) k ?_ ?_
  ·skip
   exact ⟨(0 : Int), o137h, ⟨rfl, rfl, rfl, rfl, trivial⟩, E, S.pick [] (by decide)⟩
  ·intro n
   rintro ρ w138 ⟨x92, H, hρ, E, S⟩
   rw [QL hρ]
   cases n with
   | zero => cases H
   | succ k =>
    rw [ZY.eq_2] at H
    refine QE (QA (W_v (.bool (decide (x92 < (a0.length : Int)))) (QV rfl rfl rfl rfl) rfl (QB (tn (QE ?_)))))
    rcases Zw H with ⟨hb139, H⟩ | ⟨hb139, H⟩
    ·refine QN (congrArg Value.bool hb139) ?_
     refine Qk (tn (QE ?_))
     refine YO ?_
     refine QE (QA (W_v (vI x92) (QC rfl) rfl (W_v (vI x92) (QD rfl) rfl (QB (tn (QE ?_))))))
     refine Qo (S := fun w' => ∃ Mx, M.le Mx ∧ St w' Mx F []) (L := 9) mixed ?_
     intro w160 hw161 E'
     replace S := S.heap hw161
     replace E := E.trans E'
     have D1 : ∃ Mx, Hp.le M Mx ∧ St _ Mx F [] := ⟨_, Hp.le_refl _, S.pick [] (by decide)⟩
     refine Wt 0 rfl rfl rfl (.slice A0 a0.length c0) rfl (fun w' h' => QC rfl) D1 (Wt 1 rfl rfl rfl (vI x92) rfl (fun w' h' => QC rfl) D1 ?_)
     obtain ⟨⟨p162, p163⟩, H⟩ := YN H
     obtain ⟨b164, o165, cs166, _, _, ee171, hb167, vs168, hR169, hc170⟩ := SlW.at' hr0 p162 p163
     obtain rfl : vs168 = _ := hR169
     refine Wt 2 rfl rfl rfl (.pointer (some ⟨b164, o165 + x92.toNat * 2, none⟩)) rfl (fun w' h' => Q8 Tryd.underlying32 ty72 (slA ee171) rfl p162 p163) D1 (Wt 3 rfl rfl rfl (.agg #[vS ((rd a0 x92).Key), vS ((rd a0 x92).Value)]) rfl (fun w' h' => Qi (XR h' hb167) ty72 rfl (XG hc170 0 rfl) rfl rfl) D1 (Wt 4 rfl rfl rfl (.slice A1 a1.length c1) rfl (fun w' h' => QC rfl) D1 (Wt 5 rfl rfl rfl (vI x92) rfl (fun w' h' => QC rfl) D1 ?_)))
     obtain ⟨⟨p172, p173⟩, H⟩ := YN H
     obtain ⟨b174, o175, cs176, _, _, ee181, hb177, vs178, hR179, hc180⟩ := SlW.at' hr1 p172 p173
     obtain rfl : vs178 = _ := hR179
     refine Wt 6 rfl rfl rfl (.pointer (some ⟨b174, o175 + x92.toNat * 2, none⟩)) rfl (fun w' h' => Q8 Tryd.underlying32 ty72 (slA ee181) rfl p172 p173) D1 (Wt 7 rfl rfl rfl (.agg #[vS ((rd a1 x92).Key), vS ((rd a1 x92).Value)]) rfl (fun w' h' => Qi (XR h' hb177) ty72 rfl (XG hc180 0 rfl) rfl rfl) D1 (Wt 8 rfl rfl rfl (.bool (!(((rd a0 x92).Key == (rd a1 x92).Key) && ((rd a0 x92).Value == (rd a1 x92).Value)))) rfl (fun w' h' => X3 (en72 _ _ _ _) rfl (eq72 _ ((rd a0 x92).Key) ((rd a0 x92).Value) ((rd a1 x92).Key) ((rd a1 x92).Value))) D1 ?_))
     refine Wz ?_
     refine tn ?_
     rcases Zw H with ⟨hb182, H⟩ | ⟨hb182, H⟩
     ·refine QN (congrArg Value.bool hb182) ?_
      refine QE (QA (W_v (.bool false) (QD rfl) rfl (QB (tn ?_))))
      refine QZ ?_
      refine br (tr (tr (br (tr (tr (?_))))))
      obtain rfl := Option.some.inj H
      have H := o137H
      replace H := elimL H
      obtain rfl := Option.some.inj H
      exact ⟨_, _, _, fun w1 e1 => QO (vs := [.bool false]) (FA.cons (rfl) (FA.nil)), HM, E, S.pick [] (by decide), ⟨rfl, rfl⟩⟩
     refine QK (congrArg Value.bool hb182) (Qk (bn (tn (QA (W_v (vI (IntKind.i64.wrap (x92 + (1 : Int)))) (QV rfl rfl rfl rfl) rfl (W_v (vI (IntKind.i64.wrap (x92 + (1 : Int)))) (QC rfl) rfl (QB (tn ?_))))))))
     exact ⟨k, Nat.lt_succ_self k, ⟨(IntKind.i64.wrap (x92 + (1 : Int))), H, ⟨rfl, rfl, rfl, rfl, trivial⟩, E, S.pick [] (by decide)⟩⟩
    refine QK (congrArg Value.bool hb139) ?_
    refine Ys ?_
    refine tx (tx (bsm (?_)))
    refine tn ?_
    exact ⟨Option.some.inj H, trivial, E, S.pick [] (by decide)⟩
 rintro ρ w183 ⟨rfl, hρ, E, S⟩
 rw [QL hρ]
 have H := o137H
 replace H := elimR H
 refine tn ?_
 as_aux_lemma =>
 refine QE (QA (W_v (.bool true) (QD rfl) rfl (QB (tn ?_))))
 refine QZ ?_
 obtain rfl := Option.some.inj H
 exact ⟨_, _, _, fun w1 e1 => QO (vs := [.bool true]) (FA.cons (rfl) (FA.nil)), HM, E, S.pick [] (by decide), ⟨rfl, rfl⟩⟩
def Y3 (k : Nat) (a0 : Qp) (a1 : Qp) : Option (Bool) :=
 (Option.bind (α := Bool) (if (((a0.Err == a1.Err) && (a0.Found == a1.Found)) && (sbin .eql a0.Value a1.Value)) = true then (Option.bind (Zh k a0.Pairs a1.Pairs) (fun t18 => some (t18))) else some (false)) (fun x16 => some x16))
theorem Y3.mono {k : Nat} {a0 : Qp} {a1 : Qp} : OLe (Y3 k a0 a1) (Y3 (k + 1) a0 a1) := by
 unfold Y3
 have m1 := @Zh.mono
 exact mo
theorem Y3.con (k : Nat) (M : Hp) (A0_0 : Option Addr) (c0_0 : Nat) (a0 : Qp) (A1_0 : Option Addr) (c1_0 : Nat) (a1 : Qp) (r : Bool) (hr0_0 : SlR Qt M (.slice A0_0 a0.Pairs.length c0_0) a0.Pairs) (hr1_0 : SlR Qt M (.slice A1_0 a1.Pairs.length c1_0) a1.Pairs) (h : Y3 k a0 a1 = some r) : Con Tryd.prog 12 #[.agg #[vI a0.Err, .bool a0.Found, vS a0.Value, .slice A0_0 a0.Pairs.length c0_0], .agg #[vI a1.Err, .bool a1.Found, vS a1.Value, .slice A1_0 a1.Pairs.length c1_0]] M [] (fun v M' Γ' => v = .bool r ∧ Γ' = []) := by
 refine Qc Tryd.func12 rfl Tryd.ntmps12 Tryd.results12 rfl ?_
 intro w F rn S hrn
 have E := Ext.refl w
 have HM := Hp.le_refl M
 have H := h
 unfold Y3 at H
 refine QE (QA ?_)
 refine Yc S #[vI a0.Err, .bool a0.Found, vS a0.Value, .slice A0_0 a0.Pairs.length c0_0] rfl rfl rfl ?_
 intro b1 w2 E' S
 replace E := E.trans E'
 refine Yc S #[vI a1.Err, .bool a1.Found, vS a1.Value, .slice A1_0 a1.Pairs.length c1_0] rfl rfl rfl ?_
 intro b4 w5 E' S
 replace E := E.trans E'
 refine W_v (.bool false) (QD rfl) rfl (QB (tn (QE (QA (W_v (pt b1 0) (QG (o := 0) (off := 0) Tryd.underlying34 rfl ty28 rfl rfl) rfl (W_v (vI a0.Err) (QQ (S.blk 1 rfl) ty28 rfl rfl) rfl (W_v (pt b4 0) (QG (o := 0) (off := 0) Tryd.underlying34 rfl ty28 rfl rfl) rfl (W_v (vI a1.Err) (QQ (S.blk 0 rfl) ty28 rfl rfl) rfl (W_v (.bool (a0.Err == a1.Err)) (QV rfl rfl rfl rfl) rfl (W_v (.bool (a0.Err == a1.Err)) (QC rfl) rfl ?_))))))))))
 refine ZC 6 (fun ρ w' => Qn ρ [(2, pt b1 0), (3, pt b4 0), (16, .bool ((a0.Err == a1.Err) && (a0.Found == a1.Found)))] ∧ w5 = w') ?_ ?_
 ·rcases Qq (a0.Err == a1.Err) with hb7 | hb7
  ·skip
   refine Qh (skT hb7) rfl (Qh (skT hb7) rfl (Qh (skT hb7) rfl (Qh (skT hb7) rfl (Qh (skT hb7) rfl (W_v (.bool false) (QX (k := false) (congrArg Value.bool hb7) rfl) rfl (QB ?_))))))
   exact ⟨⟨rfl, rfl, (by first | rfl | (rw [hb7]; rfl) | (simp only [hb7]; rfl)), trivial⟩, rfl⟩
  ·skip
   refine QT (congrArg some hb7) (W_v (pt b1 1) (QG (o := 0) (off := 1) Tryd.underlying34 rfl ty4 rfl rfl) rfl (QT (congrArg some hb7) (W_v (.bool a0.Found) (QQ (S.blk 1 rfl) ty4 rfl rfl) rfl (QT (congrArg some hb7) (W_v (pt b4 1) (QG (o := 0) (off := 1) Tryd.underlying34 rfl ty4 rfl rfl) rfl (QT (congrArg some hb7) (W_v (.bool a1.Found) (QQ (S.blk 0 rfl) ty4 rfl rfl) rfl (QT (congrArg some hb7) (W_v (.bool (a0.Found == a1.Found)) (x_beq Tryd.underlying4 rfl rfl) rfl (W_v (.bool (a0.Found == a1.Found)) (QX (k := true) (congrArg Value.bool hb7) rfl) rfl (QB ?_)))))))))))
   exact ⟨⟨rfl, rfl, (by first | rfl | (rw [hb7]; rfl) | (simp only [hb7]; rfl)), trivial⟩, rfl⟩
 as_aux_lemma =>
 rintro ρ _ ⟨hρ, rfl⟩
 rw [QL hρ]
 refine W_v (.bool ((a0.Err == a1.Err) && (a0.Found == a1.Found))) (QC rfl) rfl ?_
 refine ZC 6 (fun ρ w' => Qn ρ [(2, pt b1 0), (3, pt b4 0), (23, .bool (((a0.Err == a1.Err) && (a0.Found == a1.Found)) && (sbin .eql a0.Value a1.Value)))] ∧ w5 = w') ?_ ?_
 ·rcases Qq ((a0.Err == a1.Err) && (a0.Found == a1.Found)) with hb8 | hb8
  ·skip
   refine Qh (skT hb8) rfl (Qh (skT hb8) rfl (Qh (skT hb8) rfl (Qh (skT hb8) rfl (Qh (skT hb8) rfl (W_v (.bool false) (QX (k := false) (congrArg Value.bool hb8) rfl) rfl (QB ?_))))))
   exact ⟨⟨rfl, rfl, (by first | rfl | (rw [hb8]; rfl) | (simp only [hb8]; rfl)), trivial⟩, rfl⟩
  ·skip
   refine QT (congrArg some hb8) (W_v (pt b1 2) (QG (o := 0) (off := 2) Tryd.underlying34 rfl ty9 rfl rfl) rfl (QT (congrArg some hb8) (W_v (vS a0.Value) (QQ (S.blk 1 rfl) ty9 rfl rfl) rfl (QT (congrArg some hb8) (W_v (pt b4 2) (QG (o := 0) (off := 2) Tryd.underlying34 rfl ty9 rfl rfl) rfl (QT (congrArg some hb8) (W_v (vS a1.Value) (QQ (S.blk 0 rfl) ty9 rfl rfl) rfl (QT (congrArg some hb8) (W_v (.bool (sbin .eql a0.Value a1.Value)) (UG rfl rfl rfl) rfl (W_v (.bool (sbin .eql a0.Value a1.Value)) (QX (k := true) (congrArg Value.bool hb8) rfl) rfl (QB ?_)))))))))))
   exact ⟨⟨rfl, rfl, (by first | rfl | (rw [hb8]; rfl) | (simp only [hb8]; rfl)), trivial⟩, rfl⟩
 as_aux_lemma =>
 rintro ρ _ ⟨hρ, rfl⟩
 rw [QL hρ]
 refine W_v (.bool (((a0.Err == a1.Err) && (a0.Found == a1.Found)) && (sbin .eql a0.Value a1.Value))) (QC rfl) rfl ?_
 obtain ⟨o17, o17h, o17H⟩ := QW H
 refine ZC 6 (fun ρ w' => ∃ (x16 : Bool), (x16) = o17 ∧ Qn ρ [(30, .bool x16)] ∧ Ext w w' ∧ St w' M F []) ?_ ?_
 ·have H := o17h
  rcases Zw H with ⟨hb15, H⟩ | ⟨hb15, H⟩
  ·skip
   refine QT (congrArg some hb15) (W_v (pt b1 3) (QG (o := 0) (off := 3) Tryd.underlying34 rfl ty32 rfl rfl) rfl (QT (congrArg some hb15) (W_v (.slice A0_0 a0.Pairs.length c0_0) (QQ (S.blk 1 rfl) ty32 rfl rfl) rfl (QT (congrArg some hb15) (W_v (pt b4 3) (QG (o := 0) (off := 3) Tryd.underlying34 rfl ty32 rfl rfl) rfl (QT (congrArg some hb15) (W_v (.slice A1_0 a1.Pairs.length c1_0) (QQ (S.blk 0 rfl) ty32 rfl rfl) rfl (QT (congrArg some hb15) ?_))))))))
   obtain ⟨t18, ht19, H⟩ := QW H
   refine YM fn44 (Zh.con k M A0_0 c0_0 a0.Pairs A1_0 c1_0 a1.Pairs t18 hr0_0 hr1_0 ht19) S rfl rfl (by rintro _ _ _ ⟨_, rfl⟩; exact Qd) ?_
   rintro _ w20 _ Γ' E' S ⟨rfl, rfl⟩
   replace E := E.trans E'
   refine W_v (.bool t18) (QX (k := true) (congrArg Value.bool hb15) rfl) rfl (QB ?_)
   exact ⟨t18, Option.some.inj H, ⟨rfl, trivial⟩, E, S.pick [] (by decide)⟩
  ·skip
   refine Qh (skT hb15) rfl (Qh (skT hb15) rfl (Qh (skT hb15) rfl (Qh (skT hb15) rfl (Qh (skT hb15) rfl (W_v (.bool false) (QX (k := false) (congrArg Value.bool hb15) rfl) rfl (QB ?_))))))
   exact ⟨false, Option.some.inj H, ⟨rfl, trivial⟩, E, S.pick [] (by decide)⟩
 rintro ρ w21 ⟨x16, rfl, hρ, E, S⟩
 rw [QL hρ]
 have H := o17H
 refine W_v (.bool x16) (QD rfl) rfl (QB (tn ?_))
 refine QZ ?_
 obtain rfl := Option.some.inj H
 exact ⟨_, _, _, fun w1 e1 => QO (vs := [.bool x16]) (FA.cons (rfl) (FA.nil)), HM, E, S.pick [] (by decide), ⟨rfl, rfl⟩⟩
def XM (k : Nat) (a0 : Int) : Option (Bool) :=
 some (((a0 != (1 : Int)) && (a0 != (8 : Int))) && (a0 != (9 : Int)))
theorem XM.mono {k : Nat} {a0 : Int} : OLe (XM k a0) (XM (k + 1) a0) := by
 unfold XM
 exact mo
theorem XM.con (k : Nat) (M : Hp) (a0 : Int) (r : Bool)  (h : XM k a0 = some r) : Con Tryd.prog 66 #[vU a0] M [] (fun v M' Γ' => v = .bool r ∧ Γ' = []) := by
 refine Qc Tryd.func66 rfl Tryd.ntmps66 Tryd.results66 rfl ?_
 intro w F rn S hrn
 have E := Ext.refl w
 have HM := Hp.le_refl M
 have H := h
 unfold XM at H
 refine QE (QA (W_v (.bool false) (QD rfl) rfl (QB (tn (QE (QA (W_v (vU a0) (QC rfl) rfl (W_v (.bool (a0 != (1 : Int))) (QV rfl rfl rfl rfl) rfl (W_v (.bool (a0 != (1 : Int))) (QC rfl) rfl ?_)))))))))
 refine ZC 3 (fun ρ w' => Qn ρ [(0, vU a0), (8, .bool ((a0 != (1 : Int)) && (a0 != (8 : Int))))] ∧ w = w') ?_ ?_
 ·rcases Qq (a0 != (1 : Int)) with hb1 | hb1
  ·skip
   refine Qh (skT hb1) rfl (Qh (skT hb1) rfl (W_v (.bool false) (QX (k := false) (congrArg Value.bool hb1) rfl) rfl (QB ?_)))
   exact ⟨⟨rfl, (by first | rfl | (rw [hb1]; rfl) | (simp only [hb1]; rfl)), trivial⟩, rfl⟩
  ·skip
   refine QT (congrArg some hb1) (W_v (vU a0) (QC rfl) rfl (QT (congrArg some hb1) (W_v (.bool (a0 != (8 : Int))) (QV rfl rfl rfl rfl) rfl (W_v (.bool (a0 != (8 : Int))) (QX (k := true) (congrArg Value.bool hb1) rfl) rfl (QB ?_)))))
   exact ⟨⟨rfl, (by first | rfl | (rw [hb1]; rfl) | (simp only [hb1]; rfl)), trivial⟩, rfl⟩
 rintro ρ _ ⟨hρ, rfl⟩
 rw [QL hρ]
 refine W_v (.bool ((a0 != (1 : Int)) && (a0 != (8 : Int)))) (QC rfl) rfl ?_
 refine ZC 3 (fun ρ w' => Qn ρ [(12, .bool (((a0 != (1 : Int)) && (a0 != (8 : Int))) && (a0 != (9 : Int))))] ∧ w = w') ?_ ?_
 ·rcases Qq ((a0 != (1 : Int)) && (a0 != (8 : Int))) with hb2 | hb2
  ·skip
   refine Qh (skT hb2) rfl (Qh (skT hb2) rfl (W_v (.bool false) (QX (k := false) (congrArg Value.bool hb2) rfl) rfl (QB ?_)))
   exact ⟨⟨(by first | rfl | (rw [hb2]; rfl) | (simp only [hb2]; rfl)), trivial⟩, rfl⟩
  ·skip
   refine QT (congrArg some hb2) (W_v (vU a0) (QC rfl) rfl (QT (congrArg some hb2) (W_v (.bool (a0 != (9 : Int))) (QV rfl rfl rfl rfl) rfl (W_v (.bool (a0 != (9 : Int))) (QX (k := true) (congrArg Value.bool hb2) rfl) rfl (QB ?_)))))
   exact ⟨⟨(by first | rfl | (rw [hb2]; rfl) | (simp only [hb2]; rfl)), trivial⟩, rfl⟩
 rintro ρ _ ⟨hρ, rfl⟩
 rw [QL hρ]
 refine W_v (.bool (((a0 != (1 : Int)) && (a0 != (8 : Int))) && (a0 != (9 : Int)))) (QD rfl) rfl (QB (tn ?_))
 refine QZ ?_
 obtain rfl := Option.some.inj H
 exact ⟨_, _, _, fun w1 e1 => QO (vs := [.bool (((a0 != (1 : Int)) && (a0 != (8 : Int))) && (a0 != (9 : Int)))]) (FA.cons (rfl) (FA.nil)), HM, E, S.pick [] (by decide), ⟨rfl, rfl⟩⟩
def Yd (k : Nat) (a0 : ZB) (a1 : Int) (a2 : Int) : Option (Unit) :=
 some ()
theorem Yd.mono {k : Nat} {a0 : ZB} {a1 : Int} {a2 : Int} : OLe (Yd k a0 a1 a2) (Yd (k + 1) a0 a1 a2) := by
 unfold Yd
 exact mo
theorem Yd.con (k : Nat) (M : Hp) (a0 : ZB) (a1 : Int) (a2 : Int) (r : Unit)  (h : Yd k a0 a1 a2 = some r) : Con Tryd.prog 83 #[.agg #[vI a0.Tasks, vI a0.Active, vI a0.Keys, vI a0.Depth, vI a0.TS, vI a0.KeyLen, vI a0.ValLen, vI a0.Fan], vI a1, vI a2] M [] (fun v M' Γ' => ∃ (bq1 : Nat) (bq3 : Nat) (bq5 : Nat), v = .func (.func 94) #[] #[pt bq1 0, pt bq3 0, pt bq5 0] ∧ Γ' = [B23 bq1 a0, Blk bq3 (.cells #[vI a1] 3 (0, 0)), Blk bq5 (.cells #[vI a2] 3 (0, 0))]) := by
 refine Qc Tryd.func83 rfl Tryd.ntmps83 Tryd.results83 rfl ?_
 intro w F rn S hrn
 have E := Ext.refl w
 have HM := Hp.le_refl M
 have H := h
 unfold Yd at H
 refine QE (QA ?_)
 refine Yc S #[vI a0.Tasks, vI a0.Active, vI a0.Keys, vI a0.Depth, vI a0.TS, vI a0.KeyLen, vI a0.ValLen, vI a0.Fan] rfl rfl rfl ?_
 intro b1 w2 E' S
 replace E := E.trans E'
 refine Yc S #[vI a1] rfl rfl rfl ?_
 intro b4 w5 E' S
 replace E := E.trans E'
 refine Yc S #[vI a2] rfl rfl rfl ?_
 intro b7 w8 E' S
 replace E := E.trans E'
 refine W_v (.nilFunc) (QD rfl) rfl (QB (tn (QE (QA (W_v (.func (.func 94) #[] #[pt b1 0, pt b4 0, pt b7 0]) (Xf rfl) rfl (W_v (.func (.func 94) #[] #[pt b1 0, pt b4 0, pt b7 0]) (QD rfl) rfl (QB (tn ?_))))))))
 refine QZ ?_
 obtain rfl := Option.some.inj H
 exact ⟨_, _, _, fun w1 e1 => QO (vs := [.func (.func 94) #[] #[pt b1 0, pt b4 0, pt b7 0]]) (FA.cons (rfl) (FA.nil)), HM, E, S.pick [2, 1, 0] (by decide), ⟨b1, b4, b7, rfl, rfl⟩⟩
def Ye (k : Nat) (a0 : Str) (ac_0 : ZB) (ac_1 : Int) (ac_2 : Int) : Option (Bool) :=
 (Option.bind (XF k ac_0) (fun t1 => some ((t1 && (decide ((a0.length : Int) ≥ ac_1))) && (decide ((a0.length : Int) ≤ ac_2)))))
theorem Ye.mono {k : Nat} {a0 : Str} {ac_0 : ZB} {ac_1 : Int} {ac_2 : Int} : OLe (Ye k a0 ac_0 ac_1 ac_2) (Ye (k + 1) a0 ac_0 ac_1 ac_2) := by
 unfold Ye
 have m1 := @XF.mono
 exact mo
theorem Ye.con (k : Nat) (M : Hp) (a0 : Str) (ac_0 : ZB) (ac_1 : Int) (ac_2 : Int) (bc_0 : Nat) (bc_1 : Nat) (bc_2 : Nat) (r : Bool)  (h : Ye k a0 ac_0 ac_1 ac_2 = some r) : Con Tryd.prog 94 #[vS a0, pt bc_0 0, pt bc_1 0, pt bc_2 0] M [B23 bc_0 ac_0, Blk bc_1 (.cells #[vI ac_1] 3 (0, 0)), Blk bc_2 (.cells #[vI ac_2] 3 (0, 0))] (fun v M' Γ' => v = .bool r ∧ Γ' = [B23 bc_0 ac_0, Blk bc_1 (.cells #[vI ac_1] 3 (0, 0)), Blk bc_2 (.cells #[vI ac_2] 3 (0, 0))]) := by
 refine Qc Tryd.func94 rfl Tryd.ntmps94 Tryd.results94 rfl ?_
 intro w F rn S hrn
 have E := Ext.refl w
 have HM := Hp.le_refl M
 have H := h
 unfold Ye at H
 refine QE (QA (W_v (.bool false) (QD rfl) rfl (QB (tn (QE (QA (W_v (.agg #[vI ac_0.Tasks, vI ac_0.Active, vI ac_0.Keys, vI ac_0.Depth, vI ac_0.TS, vI ac_0.KeyLen, vI ac_0.ValLen, vI ac_0.Fan]) (Qi (S.blk 0 rfl) ty23 rfl (QI rfl) rfl rfl) rfl ?_)))))))
 obtain ⟨t1, ht2, H⟩ := QW H
 refine YM fn45 (XF.con k M ac_0 t1  ht2) S rfl rfl (by rintro _ _ _ ⟨_, rfl⟩; exact Qd) ?_
 rintro _ w3 _ Γ' E' S ⟨rfl, rfl⟩
 replace E := E.trans E'
 refine W_v (.bool t1) (QC rfl) rfl ?_
 refine ZC 5 (fun ρ w' => Qn ρ [(0, vS a0), (3, pt bc_2 0), (13, .bool (t1 && (decide ((a0.length : Int) ≥ ac_1))))] ∧ w3 = w') ?_ ?_
 ·rcases Qq t1 with hb4 | hb4
  ·skip
   refine Qh (skT hb4) rfl (Qh (skT hb4) rfl (Qh (skT hb4) rfl (Qh (skT hb4) rfl (W_v (.bool false) (QX (k := false) (congrArg Value.bool hb4) rfl) rfl (QB ?_)))))
   exact ⟨⟨rfl, rfl, (by first | rfl | (rw [hb4]; rfl) | (simp only [hb4]; rfl)), trivial⟩, rfl⟩
  ·skip
   refine QT (congrArg some hb4) (W_v (vS a0) (QC rfl) rfl (QT (congrArg some hb4) (W_v (vI (a0.length : Int)) (V6 Tryd.underlying9 rfl) rfl (QT (congrArg some hb4) (W_v (vI ac_1) (QQ (S.blk 1 rfl) ty3 rfl rfl) rfl (QT (congrArg some hb4) (W_v (.bool (decide ((a0.length : Int) ≥ ac_1))) (QV rfl rfl rfl rfl) rfl (W_v (.bool (decide ((a0.length : Int) ≥ ac_1))) (QX (k := true) (congrArg Value.bool hb4) rfl) rfl (QB ?_)))))))))
   exact ⟨⟨rfl, rfl, (by first | rfl | (rw [hb4]; rfl) | (simp only [hb4]; rfl)), trivial⟩, rfl⟩
 rintro ρ _ ⟨hρ, rfl⟩
 rw [QL hρ]
 refine W_v (.bool (t1 && (decide ((a0.length : Int) ≥ ac_1)))) (QC rfl) rfl ?_
 refine ZC 5 (fun ρ w' => Qn ρ [(19, .bool ((t1 && (decide ((a0.length : Int) ≥ ac_1))) && (decide ((a0.length : Int) ≤ ac_2))))] ∧ w3 = w') ?_ ?_
 ·rcases Qq (t1 && (decide ((a0.length : Int) ≥ ac_1))) with hb5 | hb5
  ·skip
   refine Qh (skT hb5) rfl (Qh (skT hb5) rfl (Qh (skT hb5) rfl (Qh (skT hb5) rfl (W_v (.bool false) (QX (k := false) (congrArg Value.bool hb5) rfl) rfl (QB ?_)))))
   exact ⟨⟨(by first | rfl | (rw [hb5]; rfl) | (simp only [hb5]; rfl)), trivial⟩, rfl⟩
  ·skip
   refine QT (congrArg some hb5) (W_v (vS a0) (QC rfl) rfl (QT (congrArg some hb5) (W_v (vI (a0.length : Int)) (V6 Tryd.underlying9 rfl) rfl (QT (congrArg some hb5) (W_v (vI ac_2) (QQ (S.blk 2 rfl) ty3 rfl rfl) rfl (QT (congrArg some hb5) (W_v (.bool (decide ((a0.length : Int) ≤ ac_2))) (QV rfl rfl rfl rfl) rfl (W_v (.bool (decide ((a0.length : Int) ≤ ac_2))) (QX (k := true) (congrArg Value.bool hb5) rfl) rfl (QB ?_)))))))))
   exact ⟨⟨(by first | rfl | (rw [hb5]; rfl) | (simp only [hb5]; rfl)), trivial⟩, rfl⟩
 rintro ρ _ ⟨hρ, rfl⟩
 rw [QL hρ]
 refine W_v (.bool ((t1 && (decide ((a0.length : Int) ≥ ac_1))) && (decide ((a0.length : Int) ≤ ac_2)))) (QD rfl) rfl (QB (tn ?_))
 refine QZ ?_
 obtain rfl := Option.some.inj H
 exact ⟨_, _, _, fun w1 e1 => QO (vs := [.bool ((t1 && (decide ((a0.length : Int) ≥ ac_1))) && (decide ((a0.length : Int) ≤ ac_2)))]) (FA.cons (rfl) (FA.nil)), HM, E, S.pick [0, 1, 2] (by decide), ⟨rfl, rfl⟩⟩
def Xb (k : Nat) (a0 : ZB) (a1 : Str) : Option (Bool) :=
 (Option.bind (Yd k a0 (1 : Int) a0.KeyLen) (fun t4 => (Option.bind (Ye k a1 a0 (1 : Int) a0.KeyLen) (fun t15 => some t15))))
theorem Xb.mono {k : Nat} {a0 : ZB} {a1 : Str} : OLe (Xb k a0 a1) (Xb (k + 1) a0 a1) := by
 unfold Xb
 have m1 := @Ye.mono
 have m2 := @Yd.mono
 exact mo
theorem Xb.con (k : Nat) (M : Hp) (a0 : ZB) (a1 : Str) (r : Bool)  (h : Xb k a0 a1 = some r) : Con Tryd.prog 77 #[.agg #[vI a0.Tasks, vI a0.Active, vI a0.Keys, vI a0.Depth, vI a0.TS, vI a0.KeyLen, vI a0.ValLen, vI a0.Fan], vS a1] M [] (fun v M' Γ' => v = .bool r ∧ Γ' = []) := by
 refine Qc Tryd.func77 rfl Tryd.ntmps77 Tryd.results77 rfl ?_
 intro w F rn S hrn
 have E := Ext.refl w
 have HM := Hp.le_refl M
 have H := h
 unfold Xb at H
 refine QE (QA ?_)
 refine Yc S #[vI a0.Tasks, vI a0.Active, vI a0.Keys, vI a0.Depth, vI a0.TS, vI a0.KeyLen, vI a0.ValLen, vI a0.Fan] rfl rfl rfl ?_
 intro b1 w2 E' S
 replace E := E.trans E'
 refine W_v (.bool false) (QD rfl) rfl (QB (tn (QE (QA (W_v (.agg #[vI a0.Tasks, vI a0.Active, vI a0.Keys, vI a0.Depth, vI a0.TS, vI a0.KeyLen, vI a0.ValLen, vI a0.Fan]) (Qi (S.blk 0 rfl) ty23 rfl (QI rfl) rfl rfl) rfl (W_v (pt b1 5) (QG (o := 0) (off := 5) Tryd.underlying23 rfl ty3 rfl rfl) rfl (W_v (vI a0.KeyLen) (QQ (S.blk 0 rfl) ty3 rfl rfl) rfl ?_)))))))
 obtain ⟨t4, ht5, H⟩ := QW H
 refine Z3 fn83 (Yd.con k M a0 (1 : Int) a0.KeyLen t4  ht5) (Γ1 := []) (Γ2 := [_]) S rfl rfl (by rintro _ _ _ ⟨_, _, _, rfl, rfl⟩; exact (QR ZP (QR ZP (QR ZP Qd)))) ?_
 rintro _ w12 _ Γ' E' S ⟨b6, b8, b10, rfl, rfl⟩
 replace E := E.trans E'
 replace S : St w12 M F [_, _, _, _] := S
 refine W_v (vS a1) (QC rfl) rfl ?_
 obtain ⟨t15, ht16, H⟩ := QW H
 refine XP (fs := []) (cap := [pt b6 0, pt b8 0, pt b10 0]) fn94 rfl (Ye.con k M a1 a0 (1 : Int) a0.KeyLen b6 b8 b10 t15  ht16) (Γ1 := [_, _, _]) (Γ2 := [_]) S rfl rfl (by rintro _ _ _ ⟨rfl, rfl⟩; exact (QR ZP (QR ZP (QR ZP Qd)))) ?_
 rintro _ w17 _ Γ' E' S ⟨rfl, rfl⟩
 replace E := E.trans E'
 replace S : St w17 M F [_, _, _, _] := S
 refine W_v (.bool t15) (QD rfl) rfl (QB (tn ?_))
 refine QZ ?_
 obtain rfl := Option.some.inj H
 exact ⟨_, _, _, fun w1 e1 => QO (vs := [.bool t15]) (FA.cons (rfl) (FA.nil)), HM, E, S.pick [] (by decide), ⟨rfl, rfl⟩⟩
def XW (k : Nat) (a0 : ZB) (a1 : Str) : Option (Bool) :=
 (Option.bind (Yd k a0 (0 : Int) a0.ValLen) (fun t4 => (Option.bind (Ye k a1 a0 (0 : Int) a0.ValLen) (fun t15 => some t15))))
theorem XW.mono {k : Nat} {a0 : ZB} {a1 : Str} : OLe (XW k a0 a1) (XW (k + 1) a0 a1) := by
 unfold XW
 have m1 := @Ye.mono
 have m2 := @Yd.mono
 exact mo
theorem XW.con (k : Nat) (M : Hp) (a0 : ZB) (a1 : Str) (r : Bool)  (h : XW k a0 a1 = some r) : Con Tryd.prog 78 #[.agg #[vI a0.Tasks, vI a0.Active, vI a0.Keys, vI a0.Depth, vI a0.TS, vI a0.KeyLen, vI a0.ValLen, vI a0.Fan], vS a1] M [] (fun v M' Γ' => v = .bool r ∧ Γ' = []) := by
 refine Qc Tryd.func78 rfl Tryd.ntmps78 Tryd.results78 rfl ?_
 intro w F rn S hrn
 have E := Ext.refl w
 have HM := Hp.le_refl M
 have H := h
 unfold XW at H
 refine QE (QA ?_)
 refine Yc S #[vI a0.Tasks, vI a0.Active, vI a0.Keys, vI a0.Depth, vI a0.TS, vI a0.KeyLen, vI a0.ValLen, vI a0.Fan] rfl rfl rfl ?_
 intro b1 w2 E' S
 replace E := E.trans E'
 refine W_v (.bool false) (QD rfl) rfl (QB (tn (QE (QA (W_v (.agg #[vI a0.Tasks, vI a0.Active, vI a0.Keys, vI a0.Depth, vI a0.TS, vI a0.KeyLen, vI a0.ValLen, vI a0.Fan]) (Qi (S.blk 0 rfl) ty23 rfl (QI rfl) rfl rfl) rfl (W_v (pt b1 6) (QG (o := 0) (off := 6) Tryd.underlying23 rfl ty3 rfl rfl) rfl (W_v (vI a0.ValLen) (QQ (S.blk 0 rfl) ty3 rfl rfl) rfl ?_)))))))
 obtain ⟨t4, ht5, H⟩ := QW H
 refine Z3 fn83 (Yd.con k M a0 (0 : Int) a0.ValLen t4  ht5) (Γ1 := []) (Γ2 := [_]) S rfl rfl (by rintro _ _ _ ⟨_, _, _, rfl, rfl⟩; exact (QR ZP (QR ZP (QR ZP Qd)))) ?_
 rintro _ w12 _ Γ' E' S ⟨b6, b8, b10, rfl, rfl⟩
 replace E := E.trans E'
 replace S : St w12 M F [_, _, _, _] := S
 refine W_v (vS a1) (QC rfl) rfl ?_
 obtain ⟨t15, ht16, H⟩ := QW H
 refine XP (fs := []) (cap := [pt b6 0, pt b8 0, pt b10 0]) fn94 rfl (Ye.con k M a1 a0 (0 : Int) a0.ValLen b6 b8 b10 t15  ht16) (Γ1 := [_, _, _]) (Γ2 := [_]) S rfl rfl (by rintro _ _ _ ⟨rfl, rfl⟩; exact (QR ZP (QR ZP (QR ZP Qd)))) ?_
 rintro _ w17 _ Γ' E' S ⟨rfl, rfl⟩
 replace E := E.trans E'
 replace S : St w17 M F [_, _, _, _] := S
 refine W_v (.bool t15) (QD rfl) rfl (QB (tn ?_))
 refine QZ ?_
 obtain rfl := Option.some.inj H
 exact ⟨_, _, _, fun w1 e1 => QO (vs := [.bool t15]) (FA.cons (rfl) (FA.nil)), HM, E, S.pick [] (by decide), ⟨rfl, rfl⟩⟩
def XE (k : Nat) (a0 : ZB) (a1 : Str) : Option (Bool) :=
 (Option.bind (Yd k a0 (0 : Int) a0.KeyLen) (fun t4 => (Option.bind (Ye k a1 a0 (0 : Int) a0.KeyLen) (fun t15 => some t15))))
theorem XE.mono {k : Nat} {a0 : ZB} {a1 : Str} : OLe (XE k a0 a1) (XE (k + 1) a0 a1) := by
 unfold XE
 have m1 := @Ye.mono
 have m2 := @Yd.mono
 exact mo
theorem XE.con (k : Nat) (M : Hp) (a0 : ZB) (a1 : Str) (r : Bool)  (h : XE k a0 a1 = some r) : Con Tryd.prog 79 #[.agg #[vI a0.Tasks, vI a0.Active, vI a0.Keys, vI a0.Depth, vI a0.TS, vI a0.KeyLen, vI a0.ValLen, vI a0.Fan], vS a1] M [] (fun v M' Γ' => v = .bool r ∧ Γ' = []) := by
 refine Qc Tryd.func79 rfl Tryd.ntmps79 Tryd.results79 rfl ?_
 intro w F rn S hrn
 have E := Ext.refl w
 have HM := Hp.le_refl M
 have H := h
 unfold XE at H
 refine QE (QA ?_)
 refine Yc S #[vI a0.Tasks, vI a0.Active, vI a0.Keys, vI a0.Depth, vI a0.TS, vI a0.KeyLen, vI a0.ValLen, vI a0.Fan] rfl rfl rfl ?_
 intro b1 w2 E' S
 replace E := E.trans E'
 refine W_v (.bool false) (QD rfl) rfl (QB (tn (QE (QA (W_v (.agg #[vI a0.Tasks, vI a0.Active, vI a0.Keys, vI a0.Depth, vI a0.TS, vI a0.KeyLen, vI a0.ValLen, vI a0.Fan]) (Qi (S.blk 0 rfl) ty23 rfl (QI rfl) rfl rfl) rfl (W_v (pt b1 5) (QG (o := 0) (off := 5) Tryd.underlying23 rfl ty3 rfl rfl) rfl (W_v (vI a0.KeyLen) (QQ (S.blk 0 rfl) ty3 rfl rfl) rfl ?_)))))))
 obtain ⟨t4, ht5, H⟩ := QW H
 refine Z3 fn83 (Yd.con k M a0 (0 : Int) a0.KeyLen t4  ht5) (Γ1 := []) (Γ2 := [_]) S rfl rfl (by rintro _ _ _ ⟨_, _, _, rfl, rfl⟩; exact (QR ZP (QR ZP (QR ZP Qd)))) ?_
 rintro _ w12 _ Γ' E' S ⟨b6, b8, b10, rfl, rfl⟩
 replace E := E.trans E'
 replace S : St w12 M F [_, _, _, _] := S
 refine W_v (vS a1) (QC rfl) rfl ?_
 obtain ⟨t15, ht16, H⟩ := QW H
 refine XP (fs := []) (cap := [pt b6 0, pt b8 0, pt b10 0]) fn94 rfl (Ye.con k M a1 a0 (0 : Int) a0.KeyLen b6 b8 b10 t15  ht16) (Γ1 := [_, _, _]) (Γ2 := [_]) S rfl rfl (by rintro _ _ _ ⟨rfl, rfl⟩; exact (QR ZP (QR ZP (QR ZP Qd)))) ?_
 rintro _ w17 _ Γ' E' S ⟨rfl, rfl⟩
 replace E := E.trans E'
 replace S : St w17 M F [_, _, _, _] := S
 refine W_v (.bool t15) (QD rfl) rfl (QB (tn ?_))
 refine QZ ?_
 obtain rfl := Option.some.inj H
 exact ⟨_, _, _, fun w1 e1 => QO (vs := [.bool t15]) (FA.cons (rfl) (FA.nil)), HM, E, S.pick [] (by decide), ⟨rfl, rfl⟩⟩
def Y4 (k : Nat) (a0 : (List Ql)) (a1 : Int) : Option (Unit) :=
 some ()
theorem Y4.mono {k : Nat} {a0 : (List Ql)} {a1 : Int} : OLe (Y4 k a0 a1) (Y4 (k + 1) a0 a1) := by
 unfold Y4
 exact mo
theorem Y4.con (k : Nat) (M : Hp) (A0 : Option Addr) (c0 : Nat) (a0 : (List Ql)) (a1 : Int) (r : Unit) (hr0 : SlR YH M (.slice A0 a0.length c0) a0) (h : Y4 k a0 a1 = some r) : Con Tryd.prog 145 #[.slice A0 a0.length c0, vI a1] M [] (fun v M' Γ' => ∃ (bq1 : Nat) (bq3 : Nat), v = .func (.func 151) #[] #[pt bq1 0, pt bq3 0] ∧ Γ' = [Blk bq1 (.cells #[.slice A0 a0.length c0] 115 (0, 0)), Blk bq3 (.cells #[vI a1] 3 (0, 0))]) := by
 refine Qc Tryd.func145 rfl Tryd.ntmps145 Tryd.results145 rfl ?_
 intro w F rn S hrn
 have E := Ext.refl w
 have HM := Hp.le_refl M
 have H := h
 unfold Y4 at H
 refine QE (QA ?_)
 refine Yc S #[.slice A0 a0.length c0] rfl rfl rfl ?_
 intro b1 w2 E' S
 replace E := E.trans E'
 refine Yc S #[vI a1] rfl rfl rfl ?_
 intro b4 w5 E' S
 replace E := E.trans E'
 refine W_v (.nilFunc) (QD rfl) rfl (QB (tn (QE (QA (W_v (.func (.func 151) #[] #[pt b1 0, pt b4 0]) (Xf rfl) rfl (W_v (.func (.func 151) #[] #[pt b1 0, pt b4 0]) (QD rfl) rfl (QB (tn ?_))))))))
 refine QZ ?_
 obtain rfl := Option.some.inj H
 exact ⟨_, _, _, fun w1 e1 => QO (vs := [.func (.func 151) #[] #[pt b1 0, pt b4 0]]) (FA.cons (rfl) (FA.nil)), HM, E, S.pick [1, 0] (by decide), ⟨b1, b4, rfl, rfl⟩⟩
def Y1 {σ ε : Type} (a_0 : (List Ql)) (a_1 : Int) (bd : Int × Bool → σ → Option (σ ⊕ ε)) : Nat → Int → σ ⊕ ε → Option ((σ ⊕ ε) ⊕ ((σ ⊕ ε)))
 | 0, _, _ => none
 | k + 1, x53, x54 => (if (decide (x53 < (a_0.length : Int))) = true then (if 0 ≤ x53 ∧ x53 < (a_0.length : Int) then (Option.bind (toL x54) (fun s99 => Option.bind (bd (x53, (decide ((rd a_0 x53).TS ≤ a_1))) s99) (fun t101 => (if ((!(isNorm t101)) || (decide ((rd a_0 x53).TS ≤ a_1))) = true then some (.inl t101) else Y1 a_0 a_1 bd k (IntKind.i64.wrap (x53 + (1 : Int))) t101)))) else none) else some (.inr (x54)))
theorem Y1.mono {σ ε : Type} {a_0 : (List Ql)} {a_1 : Int} {bd bd' : Int × Bool → σ → Option (σ ⊕ ε)} (hbd : ∀ x s, OLe (bd x s) (bd' x s)) : ∀ {kl : Nat} {x0 x1}, OLe (Y1 a_0 a_1 bd kl x0 x1) (Y1 a_0 a_1 bd' (kl + 1) x0 x1) := by
 intro kl
 induction kl with
 | zero => intros; exact OLe.none
 | succ kl ih =>
  intros
  rw [Y1.eq_2, Y1.eq_2]
  repeat' (first | with_reducible exact OLe.none | with_reducible exact OLe.some | with_reducible refine OLe.ite ?_ ?_ | with_reducible refine OLe.bind ?_ (fun _ => ?_) | exact OLe.toL | exact hbd _ _ | exact ih | refine OLe.bind ?_ (fun _ => ?_) | refine OLe.ite ?_ ?_ | refine OLe.elim (fun _ => ?_) (fun _ => ?_) | split)
def Y5 {σ ε : Type} (k : Nat) (a_0 : (List Ql)) (a_1 : Int) (bd : Int × Bool → σ → Option (σ ⊕ ε)) (s0 : σ) : Option (σ ⊕ ε) :=
 (Option.bind (Y1 a_0 a_1 bd k (0 : Int) (.inl s0)) (fun o80o => Sum.elim (fun r' => some r') (fun x79 => some x79) o80o))
theorem Y5.mono {σ ε : Type} {k : Nat} {a_0 : (List Ql)} {a_1 : Int} {bd bd' : Int × Bool → σ → Option (σ ⊕ ε)} (hbd : ∀ x s, OLe (bd x s) (bd' x s)) {s0 : σ} : OLe (Y5 k a_0 a_1 bd s0) (Y5 (k + 1) a_0 a_1 bd' s0) := by
 unfold Y5
 repeat' (first | with_reducible exact OLe.none | with_reducible exact OLe.some | with_reducible refine OLe.ite ?_ ?_ | with_reducible refine OLe.bind ?_ (fun _ => ?_) | with_reducible exact Y1.mono hbd | exact OLe.toL | exact hbd _ _ | refine OLe.bind ?_ (fun _ => ?_) | refine OLe.ite ?_ ?_ | refine OLe.elim (fun _ => ?_) (fun _ => ?_) | split)
theorem Y5.con {σ ε : Type} (k : Nat) (M : Hp) (A_0 : Option Addr) (c_0 : Nat) (a_0 : (List Ql)) (a_1 : Int) (b_0 : Nat) (b_1 : Nat) (bd : Int × Bool → σ → Option (σ ⊕ ε)) (s0 : σ) (r : σ ⊕ ε) (hr_0 : SlR YH M (.slice A_0 a_0.length c_0) a_0) (h : Y5 k a_0 a_1 bd s0 = some r) : Iter Tryd.prog 151 [pt b_0 0, pt b_1 0] M (fun (M : Hp) (x : Int × Bool) (vs : List Value) => vs = [vI x.1, .bool x.2]) bd s0 r [Blk b_0 (.cells #[.slice A_0 a_0.length c_0] 115 (0, 0)), Blk b_1 (.cells #[vI a_1] 3 (0, 0))] (fun M' Γ' => Γ' = [Blk b_0 (.cells #[.slice A_0 a_0.length c_0] 115 (0, 0)), Blk b_1 (.cells #[vI a_1] 3 (0, 0))]) := by
 intro lp B hY
 refine Qc Tryd.func151 rfl Tryd.ntmps151 Tryd.results151 rfl ?_
 intro w F rn S hrn
 have E := Ext.refl w
 have HM := Hp.le_refl M
 have H := h
 unfold Y5 at H
 refine QE (QA (W_v (.slice A_0 a_0.length c_0) (QQ (S.blk 1 rfl) ty115 rfl rfl) rfl (W_v (vI (a_0.length : Int)) (ZK (n := a_0.length) Tryd.underlying115 rfl) rfl (W_v (vI 0) (QC rfl) rfl (QB (tn ?_))))))
 obtain ⟨o80, o80h, o80H⟩ := QW H
 refine Ym (fun ρ w' => ∃ (x79 : σ ⊕ ε) (Mj : Hp), .inr (x79) = o80 ∧ Qn ρ [] ∧ M.le Mj ∧ Ext w w' ∧ St w' Mj F [Blk b_0 (.cells #[.slice A_0 a_0.length c_0] 115 (0, 0)), Blk b_1 (.cells #[vI a_1] 3 (0, 0)), B x79]) ?_ ?_
 ·skip
  refine Y6 (fun n ρ w' => ∃ (x53 : Int) (x54 : σ ⊕ ε) (Mj : Hp), Y1 a_0 a_1 bd n x53 x54 = some o80 ∧ Qn ρ [(0, .func (.yield lp) #[] #[]), (2, pt b_1 0), (6, .slice A_0 a_0.length c_0), (7, vI (a_0.length : Int)), (8, vI x53)] ∧ M.le Mj ∧ Ext w w' ∧ St w' Mj F [Blk b_0 (.cells #[.slice A_0 a_0.length c_0] 115 (0, 0)), Blk b_1 (.cells #[vI a_1] 3 (0, 0)), B x54]) k ?_ ?_
  ·skip
   exact ⟨(0 : Int), (.inl s0), M, o80h, ⟨rfl, rfl, rfl, rfl, rfl, trivial⟩, (Hp.le_refl M), E, S.pick [1, 2, 0] (by decide)⟩
  ·intro n
   rintro ρ w81 ⟨x53, x54, M82, H, hρ, hM83, E, S⟩
   rw [QL hρ]
   replace HM := Hp.le_trans HM hM83
   replace hr_0 := SlR.mono hr_0 hM83
   cases n with
   | zero => cases H
   | succ k =>
    rw [Y1.eq_2] at H
    refine QE (QA (W_v (.bool (decide (x53 < (a_0.length : Int)))) (QV rfl rfl rfl rfl) rfl (QB (tn (QE ?_)))))
    rcases Zw H with ⟨hb84, H⟩ | ⟨hb84, H⟩
    ·refine QN (congrArg Value.bool hb84) ?_
     refine Qk (tn (QE ?_))
     refine YO ?_
     refine QE (QA (W_v (vI x53) (QC rfl) rfl ?_))
     obtain ⟨⟨p85, p86⟩, H⟩ := YN H
     obtain ⟨b87, o88, cs89, _, _, ee94, hb90, vs91, hR92, hc93⟩ := SlW.at' hr_0 p85 p86
     obtain rfl : vs91 = _ := hR92
     refine W_v (.pointer (some ⟨b87, o88 + x53.toNat * 4, none⟩)) (Q8 Tryd.underlying115 ty117 (slA ee94) rfl p85 p86) rfl (W_v (.agg #[vI ((rd a_0 x53).Writer), vI ((rd a_0 x53).TS), .bool ((rd a_0 x53).Tomb), vS ((rd a_0 x53).Value)]) (Qi (S.frz hb90) ty117 rfl (XG hc93 0 rfl) rfl rfl) rfl ?_)
     refine Z1 S cz20 ty117 rfl rfl ?_
     intro b95 w96 E' S
     replace E := E.trans E'
     refine W_v (vI x53) (QD rfl) rfl ?_
     refine Q0 S 0 rfl ty117 rfl rfl [vI ((rd a_0 x53).Writer), vI ((rd a_0 x53).TS), .bool ((rd a_0 x53).Tomb), vS ((rd a_0 x53).Value)] rfl rfl rfl #[vI ((rd a_0 x53).Writer), vI ((rd a_0 x53).TS), .bool ((rd a_0 x53).Tomb), vS ((rd a_0 x53).Value)] rfl rfl ?_
     intro w98 E' S
     replace E := E.trans E'
     refine QB (tn (QE (QA (W_v (.func (.yield lp) #[] #[]) (QC rfl) rfl (W_v (vI x53) (QC rfl) rfl (W_v (pt b95 1) (QG (o := 0) (off := 1) Tryd.underlying117 rfl ty3 rfl rfl) rfl (W_v (vI ((rd a_0 x53).TS)) (QQ (S.blk 0 rfl) ty3 rfl rfl) rfl (W_v (vI a_1) (QQ (S.blk 2 rfl) ty3 rfl rfl) rfl (W_v (.bool (decide ((rd a_0 x53).TS ≤ a_1))) (QV rfl rfl rfl rfl) rfl ?_)))))))))
     obtain ⟨s99, hs100, H⟩ := QW H
     obtain ⟨t101, ht102, H⟩ := QW H
     rw [J6 hs100] at S
     replace S : St w98 M82 F [_, _, _, _] := S.pick [3, 0, 1, 2] (by decide)
     refine JA rfl (hY _ (x53, (decide ((rd a_0 x53).TS ≤ a_1))) _ s99 t101 HM (rfl) ht102) S rfl rfl ?_
     rintro _ w103 M104 _ hM105 E' S ⟨rfl, rfl⟩
     replace HM := Hp.le_trans HM hM105
     replace hM83 := Hp.le_trans hM83 hM105
     replace E := E.trans E'
     refine W_v (.bool (!(isNorm t101))) (Yy (b := (isNorm t101)) rfl) rfl (W_v (.bool (!(isNorm t101))) (QC rfl) rfl ?_)
     refine ZC 5 (fun ρ w' => Qn ρ [(0, .func (.yield lp) #[] #[]), (2, pt b_1 0), (6, .slice A_0 a_0.length c_0), (7, vI (a_0.length : Int)), (8, vI x53), (26, .bool ((!(isNorm t101)) || (decide ((rd a_0 x53).TS ≤ a_1))))] ∧ w103 = w') ?_ ?_
     ·rcases Qq (!(isNorm t101)) with hb106 | hb106
      ·skip
       refine QT (congrArg some hb106) (W_v (pt b95 1) (QG (o := 0) (off := 1) Tryd.underlying117 rfl ty3 rfl rfl) rfl (QT (congrArg some hb106) (W_v (vI ((rd a_0 x53).TS)) (QQ (S.blk 1 rfl) ty3 rfl rfl) rfl (QT (congrArg some hb106) (W_v (vI a_1) (QQ (S.blk 3 rfl) ty3 rfl rfl) rfl (QT (congrArg some hb106) (W_v (.bool (decide ((rd a_0 x53).TS ≤ a_1))) (QV rfl rfl rfl rfl) rfl (W_v (.bool (decide ((rd a_0 x53).TS ≤ a_1))) (QX (k := false) (congrArg Value.bool hb106) rfl) rfl (QB ?_)))))))))
       exact ⟨⟨rfl, rfl, rfl, rfl, rfl, (by first | rfl | (rw [hb106]; rfl) | (simp only [hb106]; rfl)), trivial⟩, rfl⟩
      ·skip
       refine Qh (skF hb106) rfl (Qh (skF hb106) rfl (Qh (skF hb106) rfl (Qh (skF hb106) rfl (W_v (.bool true) (QX (k := true) (congrArg Value.bool hb106) rfl) rfl (QB ?_)))))
       exact ⟨⟨rfl, rfl, rfl, rfl, rfl, (by first | rfl | (rw [hb106]; rfl) | (simp only [hb106]; rfl)), trivial⟩, rfl⟩
     rintro ρ _ ⟨hρ, rfl⟩
     rw [QL hρ]
     refine QB (tn ?_)
     rcases Zw H with ⟨hb107, H⟩ | ⟨hb107, H⟩
     ·refine QN (congrArg Value.bool hb107) ?_
      refine QZ ?_
      refine br (tr (tr (br (tr (?_)))))
      obtain rfl := Option.some.inj H
      have H := o80H
      replace H := elimL H
      obtain rfl := Option.some.inj H
      exact ⟨_, _, _, fun w1 e1 => QO (vs := []) FA.nil, HM, E, S.pick [0, 2, 3] (by decide), ⟨_, rfl, rfl⟩⟩
     refine QK (congrArg Value.bool hb107) (Qk (bn (tn (QA (W_v (vI (IntKind.i64.wrap (x53 + (1 : Int)))) (QV rfl rfl rfl rfl) rfl (W_v (vI (IntKind.i64.wrap (x53 + (1 : Int)))) (QC rfl) rfl (QB (tn ?_))))))))
     exact ⟨k, Nat.lt_succ_self k, ⟨(IntKind.i64.wrap (x53 + (1 : Int))), t101, M104, H, ⟨rfl, rfl, rfl, rfl, rfl, trivial⟩, hM83, E, S.pick [2, 3, 0] (by decide)⟩⟩
    refine QK (congrArg Value.bool hb84) ?_
    refine Ys ?_
    refine tx (tx (bsm (?_)))
    refine tn ?_
    exact ⟨x54, M82, Option.some.inj H, trivial, hM83, E, S.pick [0, 1, 2] (by decide)⟩
 rintro ρ w108 ⟨x79, M109, rfl, hρ, hM110, E, S⟩
 rw [QL hρ]
 replace HM := Hp.le_trans HM hM110
 have H := o80H
 replace H := elimR H
 obtain rfl := Option.some.inj H
 exact ⟨_, _, _, fun w1 e1 => QO (vs := []) FA.nil, HM, E, S.pick [2, 0, 1] (by decide), ⟨_, rfl, rfl⟩⟩
def XI (a0 : (List Ql)) (k : Nat) : (Int × Bool) → Unit → Option ((Unit) ⊕ (Ql))
 | (y170, y171), _ => (Option.bind (α := Bool) (if y171 = true then (if 0 ≤ y170 ∧ y170 < (a0.length : Int) then some ((!((rd a0 y170).Tomb))) else none) else some (false)) (fun x195 => (if x195 = true then (if 0 ≤ y170 ∧ y170 < (a0.length : Int) then some (.inr (rd a0 y170)) else none) else some (.inl ()))))
theorem XI.mono {a0 : (List Ql)} {k : Nat} : ∀ x s, OLe (XI a0 k x s) (XI a0 (k + 1) x s) := by
 intro x s
 unfold XI
 exact mo
def XS (k : Nat) (a0 : (List Ql)) (a1 : Int) : Option (Ql × Bool) :=
 (Option.bind (Y4 k a0 a1) (fun t10 => (Option.bind (Y5 k a0 a1 (XI a0 k) ()) (fun o167o => Sum.elim (fun _ => some ((⟨(0 : Int), (0 : Int), false, ([] : Str)⟩ : Ql), false)) (fun x166 => some (x166, true)) o167o))))
theorem XS.mono {k : Nat} {a0 : (List Ql)} {a1 : Int} : OLe (XS k a0 a1) (XS (k + 1) a0 a1) := by
 unfold XS
 repeat' (first | with_reducible exact OLe.none | with_reducible exact OLe.some | with_reducible refine OLe.ite ?_ ?_ | with_reducible refine OLe.bind ?_ (fun _ => ?_) | with_reducible exact XI.mono | exact Y5.mono (fun _ _ => by first | exact XI.mono _ _) | with_reducible exact Y4.mono | refine OLe.bind ?_ (fun _ => ?_) | refine OLe.ite ?_ ?_ | refine OLe.elim (fun _ => ?_) (fun _ => ?_) | split)
theorem XS.con (k : Nat) (M : Hp) (A0 : Option Addr) (c0 : Nat) (a0 : (List Ql)) (a1 : Int) (r : Ql × Bool) (hr0 : SlR YH M (.slice A0 a0.length c0) a0) (h : XS k a0 a1 = some r) : Con Tryd.prog 139 #[.slice A0 a0.length c0, vI a1] M [] (fun v M' Γ' => v = .tuple #[.agg #[vI r.1.Writer, vI r.1.TS, .bool r.1.Tomb, vS r.1.Value], .bool r.2] ∧ Γ' = []) := by
 refine Qc Tryd.func139 rfl Tryd.ntmps139 Tryd.results139 rfl ?_
 intro w F rn S hrn
 have E := Ext.refl w
 have HM := Hp.le_refl M
 have H := h
 unfold XS at H
 refine QE (QA ?_)
 refine Yc S #[.slice A0 a0.length c0] rfl rfl rfl ?_
 intro b1 w2 E' S
 replace E := E.trans E'
 refine Z1 S cz20 ty117 rfl rfl ?_
 intro b4 w5 E' S
 replace E := E.trans E'
 refine Z1 S #[.bool false] ty4 rfl rfl ?_
 intro b7 w8 E' S
 replace E := E.trans E'
 refine QB (tn (QE (QE (QA (W_v (.slice A0 a0.length c0) (QQ (S.blk 2 rfl) ty115 rfl rfl) rfl (W_v (vI a1) (QC rfl) rfl ?_))))))
 obtain ⟨t10, ht11, H⟩ := QW H
 refine Z3 fn145 (Y4.con k M A0 c0 a0 a1 t10 hr0 ht11) (Γ1 := []) (Γ2 := [_, _, _]) S rfl rfl (by rintro _ _ _ ⟨_, _, rfl, rfl⟩; exact (QR ZP (QR ZP Qd))) ?_
 rintro _ w16 _ Γ' E' S ⟨b12, b14, rfl, rfl⟩
 replace E := E.trans E'
 replace S : St w16 M F [_, _, _, _, _] := S
 refine QB (tn ?_)
 refine YO ?_
 obtain ⟨o167, o167h, o167H⟩ := QW H
 refine X6 (σ := Unit) (ε := Ql) (Γi := [Blk b12 (.cells #[.slice A0 a0.length c0] 115 (0, 0)), Blk b14 (.cells #[vI a1] 3 (0, 0))]) (Γr := []) (Sum.elim (fun _ => AE (ι := Unit) (fun (i : Unit) => [Blk b7 (.cells #[.bool false] 4 (0, 0)), Blk b4 (.cells cz20 117 (0, 0)), Blk b1 (.cells #[.slice A0 a0.length c0] 115 (0, 0))]) (fun _ _ => True) (fun _ _ _ _ _ => trivial)) (fun x166 => AE (ι := Unit) (fun (i : Unit) => [Blk b7 (.cells #[.bool true] 4 (0, 0)), B117 b4 x166]) (fun _ _ => True) (fun _ _ _ _ _ => trivial))) (fun _ => Code.ret) fn151 rfl (St.close_ex (φ := (fun _ _ => True)) (hφ := (fun _ _ _ _ _ => trivial)) () trivial (S.pick [2, 3, 4, 0, 1] (by decide))) (by rintro _ _ _ rfl; rfl) (by decide) (Y5.con k M A0 c0 a0 a1 b12 b14 (XI a0 k) () o167 hr0 o167h) ?_ ?_
 ·intro nn lp M168 F yy vs ss tt w hM169 henc hbd S
  obtain ⟨y170, y171⟩ := yy
  obtain rfl := henc
  replace HM := Hp.le_trans HM hM169
  replace hr0 := SlR.mono hr0 hM169
  replace S : St w M168 F (AE (ι := Unit) (fun (i : Unit) => [Blk b7 (.cells #[.bool false] 4 (0, 0)), Blk b4 (.cells cz20 117 (0, 0)), Blk b1 (.cells #[.slice A0 a0.length c0] 115 (0, 0))]) (fun _ _ => True) (fun _ _ _ _ _ => trivial) :: []) := S
  obtain ⟨_, _, S⟩ := S.open_ex
  replace S : St w M168 F [_, _, _] := S
  have E := Ext.refl w
  have LE172 := Hp.le_refl M168
  have H := hbd
  rw [XI.eq_1] at H
  refine QE (QA (W_v (vI y170) (QD rfl) rfl (QB (tn (QA (W_v (.bool y171) (QD rfl) rfl (QB ?_)))))))
  refine Zo ⟨_, _, LE172, E, S, ?_⟩
  intro w F E3 S
  have E := Ext.refl w
  have LE173 := Hp.le_refl M168
  refine YO ?_
  refine QE (QA (W_v (.bool y171) (QC rfl) rfl (W_v (.bool y171) (QC rfl) rfl ?_)))
  obtain ⟨o196, o196h, o196H⟩ := QW H
  refine ZC 7 (fun ρ w' => ∃ (x195 : Bool), (x195) = o196 ∧ Qn ρ [(2, pt b1 0), (4, pt b4 0), (5, pt b7 0), (6, vI y170), (21, .bool x195)] ∧ Ext w w' ∧ St w' M168 F [Blk b7 (.cells #[.bool false] 4 (0, 0)), Blk b4 (.cells cz20 117 (0, 0)), Blk b1 (.cells #[.slice A0 a0.length c0] 115 (0, 0))]) ?_ ?_
  ·have H := o196h
   rcases Zw H with ⟨hb194, H⟩ | ⟨hb194, H⟩
   ·skip
    refine QT (congrArg some hb194) (W_v (.slice A0 a0.length c0) (QQ (S.blk 2 rfl) ty115 rfl rfl) rfl (QT (congrArg some hb194) (W_v (vI y170) (QC rfl) rfl (QT (congrArg some hb194) ?_))))
    obtain ⟨⟨p197, p198⟩, H⟩ := YN H
    obtain ⟨b199, o200, cs201, _, _, ee206, hb202, vs203, hR204, hc205⟩ := SlW.at' hr0 p197 p198
    obtain rfl : vs203 = _ := hR204
    refine W_v (.pointer (some ⟨b199, o200 + y170.toNat * 4, none⟩)) (Q8 Tryd.underlying115 ty117 (slA ee206) rfl p197 p198) rfl (QT (congrArg some hb194) (W_v (.pointer (some ⟨b199, o200 + y170.toNat * 4 + 2, none⟩)) (QG (o := o200 + y170.toNat * 4) (off := 2) Tryd.underlying117 rfl ty4 rfl rfl) rfl (QT (congrArg some hb194) (W_v (.bool ((rd a0 y170).Tomb)) (QQ (S.frz hb202) ty4 rfl (hc205 2 _ rfl)) rfl (QT (congrArg some hb194) (W_v (.bool (!((rd a0 y170).Tomb))) (Yy (b := ((rd a0 y170).Tomb)) rfl) rfl (W_v (.bool (!((rd a0 y170).Tomb))) (QX (k := true) (congrArg Value.bool hb194) rfl) rfl (QB ?_))))))))
    exact ⟨(!((rd a0 y170).Tomb)), Option.some.inj H, ⟨rfl, rfl, rfl, rfl, rfl, trivial⟩, E, S.pick [0, 1, 2] (by decide)⟩
   ·skip
    refine Qh (skT hb194) rfl (Qh (skT hb194) rfl (Qh (skT hb194) rfl (Qh (skT hb194) rfl (Qh (skT hb194) rfl (Qh (skT hb194) rfl (W_v (.bool false) (QX (k := false) (congrArg Value.bool hb194) rfl) rfl (QB ?_)))))))
    exact ⟨false, Option.some.inj H, ⟨rfl, rfl, rfl, rfl, rfl, trivial⟩, E, S.pick [0, 1, 2] (by decide)⟩
  rintro ρ w207 ⟨x195, rfl, hρ, E, S⟩
  rw [QL hρ]
  have H := o196H
  refine QB (tn ?_)
  rcases Zw H with ⟨hb208, H⟩ | ⟨hb208, H⟩
  ·refine QN (congrArg Value.bool hb208) ?_
   refine QE (QA (W_v (.slice A0 a0.length c0) (QQ (S.blk 2 rfl) ty115 rfl rfl) rfl (W_v (vI y170) (QC rfl) rfl ?_)))
   obtain ⟨⟨p209, p210⟩, H⟩ := YN H
   obtain ⟨b211, o212, cs213, _, _, ee218, hb214, vs215, hR216, hc217⟩ := SlW.at' hr0 p209 p210
   obtain rfl : vs215 = _ := hR216
   refine W_v (.pointer (some ⟨b211, o212 + y170.toNat * 4, none⟩)) (Q8 Tryd.underlying115 ty117 (slA ee218) rfl p209 p210) rfl (W_v (.agg #[vI ((rd a0 y170).Writer), vI ((rd a0 y170).TS), .bool ((rd a0 y170).Tomb), vS ((rd a0 y170).Value)]) (Qi (S.frz hb214) ty117 rfl (XG hc217 0 rfl) rfl rfl) rfl ?_)
   refine Q0 S 1 rfl ty117 rfl rfl [vI ((rd a0 y170).Writer), vI ((rd a0 y170).TS), .bool ((rd a0 y170).Tomb), vS ((rd a0 y170).Value)] rfl rfl rfl #[vI ((rd a0 y170).Writer), vI ((rd a0 y170).TS), .bool ((rd a0 y170).Tomb), vS ((rd a0 y170).Value)] rfl rfl ?_
   intro w219 E' S
   replace E := E.trans E'
   refine Q0 S 0 rfl ty4 rfl rfl [.bool true] rfl rfl rfl #[.bool true] rfl rfl ?_
   intro w220 E' S
   replace E := E.trans E'
   refine QB (tn ?_)
   refine QZ ?_
   refine br (?_)
   obtain rfl := Option.some.inj H
   exact Ve rfl LE173 E (St.close_ex (φ := (fun _ _ => True)) (hφ := (fun _ _ _ _ _ => trivial)) () trivial (S.pick [0, 1] (by decide)))
  refine QK (congrArg Value.bool hb208) (Qk (bn ?_))
  obtain rfl := Option.some.inj H
  exact Ve trivial LE173 E (St.close_ex (φ := (fun _ _ => True)) (hφ := (fun _ _ _ _ _ => trivial)) () trivial (S.pick [0, 1, 2] (by decide)))
 intro w221 M222 Γ' hM223 E' hΨ S
 obtain rfl : Γ' = _ := hΨ
 replace E := E.trans E'
 replace HM := Hp.le_trans HM hM223
 have H := o167H
 rcases o167 with _ | x166
 ·replace H := elimL H
  refine V3 ?_
  replace S : St w221 M222 F (AE (ι := Unit) (fun (i : Unit) => [Blk b7 (.cells #[.bool false] 4 (0, 0)), Blk b4 (.cells cz20 117 (0, 0)), Blk b1 (.cells #[.slice A0 a0.length c0] 115 (0, 0))]) (fun _ _ => True) (fun _ _ _ _ _ => trivial) :: [Blk b12 (.cells #[.slice A0 a0.length c0] 115 (0, 0)), Blk b14 (.cells #[vI a1] 3 (0, 0))]) := S
  obtain ⟨_, _, S⟩ := S.open_ex
  replace S : St w221 M222 F [_, _, _, _, _] := S
  refine bn (tn (QE (QA (W_v (.agg cz20) (Qr (pl := [(0, 1), (1, 1), (2, 1), (3, 1)]) cz20 Tryd.underlying117 ty117 (by as_aux_lemma => kernel_rfl) rfl (by as_aux_lemma => kernel_rfl)) rfl ?_))))
  refine Q0 S 1 rfl ty117 rfl rfl [vI 0, vI 0, .bool false, vS ([] : Str)] rfl rfl rfl cz20 rfl rfl ?_
  intro w224 E' S
  replace E := E.trans E'
  refine Q0 S 0 rfl ty4 rfl rfl [.bool false] rfl rfl rfl #[.bool false] rfl rfl ?_
  intro w225 E' S
  replace E := E.trans E'
  refine QB (tn ?_)
  refine QZ ?_
  obtain rfl := Option.some.inj H
  exact ⟨_, _, _, fun w1 e1 => QO (vs := [.agg cz20, .bool false]) (FA.cons (⟨_, rfl, Qs ty117 ((S.of_eq e1).blk 1 rfl) (QI rfl) rfl (by decide)⟩) (FA.cons (⟨_, rfl, Xp ty4 ((S.of_eq e1).blk 0 rfl) rfl⟩) (FA.nil))), HM, E, S.pick [] (by decide), ⟨rfl, rfl⟩⟩
 ·replace H := elimR H
  refine Ji ?_
  replace S : St w221 M222 F (AE (ι := Unit) (fun (i : Unit) => [Blk b7 (.cells #[.bool true] 4 (0, 0)), B117 b4 x166]) (fun _ _ => True) (fun _ _ _ _ _ => trivial) :: [Blk b12 (.cells #[.slice A0 a0.length c0] 115 (0, 0)), Blk b14 (.cells #[vI a1] 3 (0, 0))]) := S
  obtain ⟨_, _, S⟩ := S.open_ex
  replace S : St w221 M222 F [_, _, _, _] := S
  refine QZ ?_
  refine br (tr (?_))
  obtain rfl := Option.some.inj H
  exact ⟨_, _, _, fun w1 e1 => QO (vs := [.agg #[vI x166.Writer, vI x166.TS, .bool x166.Tomb, vS x166.Value], .bool true]) (FA.cons (⟨_, rfl, Qs ty117 ((S.of_eq e1).blk 1 rfl) (QI rfl) rfl (by decide)⟩) (FA.cons (⟨_, rfl, Xp ty4 ((S.of_eq e1).blk 0 rfl) rfl⟩) (FA.nil))), HM, E, S.pick [] (by decide), ⟨rfl, rfl⟩⟩
def XX (k : Nat) (a0 : (List Ql)) (a1 : Int) : Option (Bool) :=
 (Option.bind (α := Bool) (if (decide ((a0.length : Int) > (0 : Int))) = true then (if 0 ≤ (0 : Int) ∧ (0 : Int) < (a0.length : Int) then some ((decide ((rd a0 (0 : Int)).TS > a1))) else none) else some (false)) (fun x22 => some x22))
theorem XX.mono {k : Nat} {a0 : (List Ql)} {a1 : Int} : OLe (XX k a0 a1) (XX (k + 1) a0 a1) := by
 unfold XX
 exact mo
theorem XX.con (k : Nat) (M : Hp) (A0 : Option Addr) (c0 : Nat) (a0 : (List Ql)) (a1 : Int) (r : Bool) (hr0 : SlR YH M (.slice A0 a0.length c0) a0) (h : XX k a0 a1 = some r) : Con Tryd.prog 140 #[.slice A0 a0.length c0, vI a1] M [] (fun v M' Γ' => v = .bool r ∧ Γ' = []) := by
 refine Qc Tryd.func140 rfl Tryd.ntmps140 Tryd.results140 rfl ?_
 intro w F rn S hrn
 have E := Ext.refl w
 have HM := Hp.le_refl M
 have H := h
 unfold XX at H
 refine QE (QA (W_v (.bool false) (QD rfl) rfl (QB (tn (QE (QA (W_v (.slice A0 a0.length c0) (QC rfl) rfl (W_v (vI (a0.length : Int)) (ZK (n := a0.length) Tryd.underlying115 rfl) rfl (W_v (.bool (decide ((a0.length : Int) > (0 : Int)))) (QV rfl rfl rfl rfl) rfl (W_v (.bool (decide ((a0.length : Int) > (0 : Int)))) (QC rfl) rfl ?_))))))))))
 obtain ⟨o23, o23h, o23H⟩ := QW H
 refine ZC 7 (fun ρ w' => ∃ (x22 : Bool), (x22) = o23 ∧ Qn ρ [(15, .bool x22)] ∧ Ext w w' ∧ St w' M F []) ?_ ?_
 ·have H := o23h
  rcases Zw H with ⟨hb21, H⟩ | ⟨hb21, H⟩
  ·skip
   refine QT (congrArg some hb21) (W_v (.slice A0 a0.length c0) (QC rfl) rfl (QT (congrArg some hb21) ?_))
   obtain ⟨⟨p24, p25⟩, H⟩ := YN H
   obtain ⟨b26, o27, cs28, _, _, ee33, hb29, vs30, hR31, hc32⟩ := SlW.at' hr0 p24 p25
   obtain rfl : vs30 = _ := hR31
   refine W_v (.pointer (some ⟨b26, o27 + (0 : Int).toNat * 4, none⟩)) (Q8 Tryd.underlying115 ty117 (slA ee33) rfl p24 p25) rfl (QT (congrArg some hb21) (W_v (.pointer (some ⟨b26, o27 + (0 : Int).toNat * 4 + 1, none⟩)) (QG (o := o27 + (0 : Int).toNat * 4) (off := 1) Tryd.underlying117 rfl ty3 rfl rfl) rfl (QT (congrArg some hb21) (W_v (vI ((rd a0 (0 : Int)).TS)) (QQ (S.frz hb29) ty3 rfl (hc32 1 _ rfl)) rfl (QT (congrArg some hb21) (W_v (vI a1) (QC rfl) rfl (QT (congrArg some hb21) (W_v (.bool (decide ((rd a0 (0 : Int)).TS > a1))) (QV rfl rfl rfl rfl) rfl (W_v (.bool (decide ((rd a0 (0 : Int)).TS > a1))) (QX (k := true) (congrArg Value.bool hb21) rfl) rfl (QB ?_))))))))))
   exact ⟨(decide ((rd a0 (0 : Int)).TS > a1)), Option.some.inj H, ⟨rfl, trivial⟩, E, S.pick [] (by decide)⟩
  ·skip
   refine Qh (skT hb21) rfl (Qh (skT hb21) rfl (Qh (skT hb21) rfl (Qh (skT hb21) rfl (Qh (skT hb21) rfl (Qh (skT hb21) rfl (W_v (.bool false) (QX (k := false) (congrArg Value.bool hb21) rfl) rfl (QB ?_)))))))
   exact ⟨false, Option.some.inj H, ⟨rfl, trivial⟩, E, S.pick [] (by decide)⟩
 rintro ρ w34 ⟨x22, rfl, hρ, E, S⟩
 rw [QL hρ]
 have H := o23H
 refine W_v (.bool x22) (QD rfl) rfl (QB (tn ?_))
 refine QZ ?_
 obtain rfl := Option.some.inj H
 exact ⟨_, _, _, fun w1 e1 => QO (vs := [.bool x22]) (FA.cons (rfl) (FA.nil)), HM, E, S.pick [] (by decide), ⟨rfl, rfl⟩⟩
def Zl (k : Nat) (a0 : Str) (a1 : Str) : Option (Int) :=
 some (Lib.compareBytes a0 a1)
theorem Zl.mono {k : Nat} {a0 : Str} {a1 : Str} : OLe (Zl k a0 a1) (Zl (k + 1) a0 a1) := by
 unfold Zl
 exact mo
theorem Zl.con (k : Nat) (M : Hp) (a0 : Str) (a1 : Str) (r : Int)  (h : Zl k a0 a1 = some r) : Con Tryd.prog 155 #[vS a0, vS a1] M [] (fun v M' Γ' => v = vI r ∧ Γ' = []) := by
 refine Qc Tryd.func155 rfl Tryd.ntmps155 Tryd.results155 rfl ?_
 intro w F rn S hrn
 have E := Ext.refl w
 have HM := Hp.le_refl M
 have H := h
 unfold Zl at H
 refine QE (QA (W_v (vI 0) (QD rfl) rfl (QB (tn (QE (QA (W_v (vS a0) (QC rfl) rfl (W_v (vS a1) (QC rfl) rfl (W_v (vI (Lib.compareBytes a0 a1)) (x_cmp cmp166 rfl rfl) rfl (W_v (vI (Lib.compareBytes a0 a1)) (QD rfl) rfl (QB (tn ?_))))))))))))
 refine QZ ?_
 obtain rfl := Option.some.inj H
 exact ⟨_, _, _, fun w1 e1 => QO (vs := [vI (Lib.compareBytes a0 a1)]) (FA.cons (rfl) (FA.nil)), HM, E, S.pick [] (by decide), ⟨rfl, rfl⟩⟩
def Yt (k : Nat) (a0 : Str) (a1 : Str) : Option (Int) :=
 (Option.bind (Zl k a0 a1) (fun t1 => some t1))
theorem Yt.mono {k : Nat} {a0 : Str} {a1 : Str} : OLe (Yt k a0 a1) (Yt (k + 1) a0 a1) := by
 unfold Yt
 have m1 := @Zl.mono
 exact mo
theorem Yt.con (k : Nat) (M : Hp) (a0 : Str) (a1 : Str) (r : Int)  (h : Yt k a0 a1 = some r) : Con Tryd.prog 150 #[vS a0, vS a1] M [] (fun v M' Γ' => v = vI r ∧ Γ' = []) := by
 refine Qc Tryd.func150 rfl Tryd.ntmps150 Tryd.results150 rfl ?_
 intro w F rn S hrn
 have E := Ext.refl w
 have HM := Hp.le_refl M
 have H := h
 unfold Yt at H
 refine QE (QA (W_v (vI 0) (QD rfl) rfl (QB (tn (QE (QA (W_v (vS a0) (QC rfl) rfl (W_v (vS a1) (QC rfl) rfl ?_))))))))
 obtain ⟨t1, ht2, H⟩ := QW H
 refine YM fn155 (Zl.con k M a0 a1 t1  ht2) S rfl rfl (by rintro _ _ _ ⟨_, rfl⟩; exact Qd) ?_
 rintro _ w3 _ Γ' E' S ⟨rfl, rfl⟩
 replace E := E.trans E'
 refine W_v (vI t1) (QD rfl) rfl (QB (tn ?_))
 refine QZ ?_
 obtain rfl := Option.some.inj H
 exact ⟨_, _, _, fun w1 e1 => QO (vs := [vI t1]) (FA.cons (rfl) (FA.nil)), HM, E, S.pick [] (by decide), ⟨rfl, rfl⟩⟩
def XU (k : Nat) (a0 : Str) (a1 : Str) : Option (Int) :=
 (Option.bind (Yt k a0 a1) (fun t1 => some t1))
theorem XU.mono {k : Nat} {a0 : Str} {a1 : Str} : OLe (XU k a0 a1) (XU (k + 1) a0 a1) := by
 unfold XU
 have m1 := @Yt.mono
 exact mo
theorem XU.con (k : Nat) (M : Hp) (a0 : Str) (a1 : Str) (r : Int)  (h : XU k a0 a1 = some r) : Con Tryd.prog 143 #[vS a0, vS a1] M [] (fun v M' Γ' => v = vI r ∧ Γ' = []) := by
 refine Qc Tryd.func143 rfl Tryd.ntmps143 Tryd.results143 rfl ?_
 intro w F rn S hrn
 have E := Ext.refl w
 have HM := Hp.le_refl M
 have H := h
 unfold XU at H
 refine QE (QA (W_v (vI 0) (QD rfl) rfl (QB (tn (QE (QA (W_v (vS a0) (QC rfl) rfl (W_v (vS a1) (QC rfl) rfl ?_))))))))
 obtain ⟨t1, ht2, H⟩ := QW H
 refine YM fn150 (Yt.con k M a0 a1 t1  ht2) S rfl rfl (by rintro _ _ _ ⟨_, rfl⟩; exact Qd) ?_
 rintro _ w3 _ Γ' E' S ⟨rfl, rfl⟩
 replace E := E.trans E'
 refine W_v (vI t1) (QD rfl) rfl (QB (tn ?_))
 refine QZ ?_
 obtain rfl := Option.some.inj H
 exact ⟨_, _, _, fun w1 e1 => QO (vs := [vI t1]) (FA.cons (rfl) (FA.nil)), HM, E, S.pick [] (by decide), ⟨rfl, rfl⟩⟩
def XK (k : Nat) (a0 : Str) (a1 : Str) (a2 : Str) : Option (Bool) :=
 some ((sbin .leq a1 a0) && ((sbin .eql a2 ([] : Str)) || (sbin .lss a0 a2)))
theorem XK.mono {k : Nat} {a0 : Str} {a1 : Str} {a2 : Str} : OLe (XK k a0 a1 a2) (XK (k + 1) a0 a1 a2) := by
 unfold XK
 exact mo
theorem XK.con (k : Nat) (M : Hp) (a0 : Str) (a1 : Str) (a2 : Str) (r : Bool)  (h : XK k a0 a1 a2 = some r) : Con Tryd.prog 134 #[vS a0, vS a1, vS a2] M [] (fun v M' Γ' => v = .bool r ∧ Γ' = []) := by
 refine Qc Tryd.func134 rfl Tryd.ntmps134 Tryd.results134 rfl ?_
 intro w F rn S hrn
 have E := Ext.refl w
 have HM := Hp.le_refl M
 have H := h
 unfold XK at H
 refine QE (QA (W_v (.bool false) (QD rfl) rfl (QB (tn (QE (QA (W_v (vS a1) (QC rfl) rfl (W_v (vS a0) (QC rfl) rfl (W_v (.bool (sbin .leq a1 a0)) (UG rfl rfl rfl) rfl (W_v (.bool (sbin .leq a1 a0)) (QC rfl) rfl ?_))))))))))
 refine ZC 8 (fun ρ w' => Qn ρ [(18, .bool ((sbin .leq a1 a0) && ((sbin .eql a2 ([] : Str)) || (sbin .lss a0 a2))))] ∧ w = w') ?_ ?_
 ·as_aux_lemma =>
   rcases Qq (sbin .leq a1 a0) with hb3 | hb3
   ·skip
    refine Qh (skT hb3) rfl (Qh (skT hb3) rfl (Qh (skT hb3) rfl (Qh (rfl) rfl (Qh (rfl) rfl (Qh (rfl) rfl (Qh (skT hb3) rfl (W_v (.bool false) (QX (k := false) (congrArg Value.bool hb3) rfl) rfl (QB ?_))))))))
    exact ⟨⟨(by first | rfl | (rw [hb3]; rfl) | (simp only [hb3]; rfl)), trivial⟩, rfl⟩
   ·skip
    refine QT (congrArg some hb3) (W_v (vS a2) (QC rfl) rfl (QT (congrArg some hb3) (W_v (.bool (sbin .eql a2 ([] : Str))) (UG rfl rfl rfl) rfl (QT (congrArg some hb3) (W_v (.bool (sbin .eql a2 ([] : Str))) (QC rfl) rfl ?_)))))
    refine ZC 4 (fun ρ w' => Qn ρ [(10, .bool (sbin .leq a1 a0)), (17, .bool ((sbin .eql a2 ([] : Str)) || (sbin .lss a0 a2)))] ∧ w = w') ?_ ?_
    ·rcases Qq (sbin .eql a2 ([] : Str)) with hb4 | hb4
     ·skip
      refine QT (congrArg some hb4) (W_v (vS a0) (QC rfl) rfl (QT (congrArg some hb4) (W_v (vS a2) (QC rfl) rfl (QT (congrArg some hb4) (W_v (.bool (sbin .lss a0 a2)) (UG rfl rfl rfl) rfl (QT (congrArg some hb3) (W_v (.bool (sbin .lss a0 a2)) (QX (k := false) (congrArg Value.bool hb4) rfl) rfl (QB ?_))))))))
      exact ⟨⟨rfl, (by first | rfl | (rw [hb4]; rfl) | (simp only [hb4]; rfl)), trivial⟩, rfl⟩
     ·skip
      refine Qh (skF hb4) rfl (Qh (skF hb4) rfl (Qh (skF hb4) rfl (QT (congrArg some hb3) (W_v (.bool true) (QX (k := true) (congrArg Value.bool hb4) rfl) rfl (QB ?_)))))
      exact ⟨⟨rfl, (by first | rfl | (rw [hb4]; rfl) | (simp only [hb4]; rfl)), trivial⟩, rfl⟩
    rintro ρ _ ⟨hρ, rfl⟩
    rw [QL hρ]
    refine W_v (.bool ((sbin .eql a2 ([] : Str)) || (sbin .lss a0 a2))) (QX (k := true) (congrArg Value.bool hb3) rfl) rfl (QB ?_)
    exact ⟨⟨(by first | rfl | (rw [hb3]; rfl) | (simp only [hb3]; rfl)), trivial⟩, rfl⟩
 rintro ρ _ ⟨hρ, rfl⟩
 rw [QL hρ]
 refine W_v (.bool ((sbin .leq a1 a0) && ((sbin .eql a2 ([] : Str)) || (sbin .lss a0 a2)))) (QD rfl) rfl (QB (tn ?_))
 refine QZ ?_
 obtain rfl := Option.some.inj H
 exact ⟨_, _, _, fun w1 e1 => QO (vs := [.bool ((sbin .leq a1 a0) && ((sbin .eql a2 ([] : Str)) || (sbin .lss a0 a2)))]) (FA.cons (rfl) (FA.nil)), HM, E, S.pick [] (by decide), ⟨rfl, rfl⟩⟩
def ZQ (k : Nat) (a0 : List Ql) : Option (List Ql) :=
 if ([] : List Ql).length + a0.length ≤ 3518437208883 then some (([] : List Ql) ++ a0) else none
theorem ZQ.mono {k : Nat} {a0 : List Ql} : OLe (ZQ k a0) (ZQ (k + 1) a0) := by
 unfold ZQ
 exact mo
theorem ZQ.con (k : Nat) (M : Hp) (A0 : Option Addr) (c0 : Nat) (a0 : (List Ql)) (r : (List Ql)) (hr0 : SlR YH M (.slice A0 a0.length c0) a0) (h : ZQ k a0 = some r) : Con Tryd.prog 146 #[.slice A0 a0.length c0] M [] (fun v M' Γ' => ∃ (A0 : Option Addr) (c0 : Nat), v = .slice A0 r.length c0 ∧ Γ' = [Row YH 117 (.slice A0 r.length c0) r]) := by
 have H := h
 unfold ZQ at H
 cases A0 with
 | none =>
  obtain ⟨_, H⟩ := YN H
  obtain rfl : a0 = [] := SlW.none_nil hr0
  refine Qc Tryd.func146 rfl Tryd.ntmps146 Tryd.results146 rfl ?_
  intro w F rn S hrn
  have E := Ext.refl w
  have HM := Hp.le_refl M
  refine QE (QA (W_v (.slice none 0 0) (QD rfl) rfl (QB (tn (QE (QE (QA (W_v (.slice none ([] : List Ql).length c0) (QC rfl) rfl (W_v (.bool true) (XT rfl rfl (run_equal_slice_nil _ _ _ _ _ _ Tryd.underlying115)) rfl (QB (tn (QN rfl (QE (QA (W_v (.slice none 0 0) (QD rfl) rfl ?_)))))))))))))))
  refine QB (tn ?_)
  refine QZ ?_
  refine tr (?_)
  obtain rfl := Option.some.inj H
  replace S := S.row_nil YH 117
  exact ⟨_, _, _, fun w1 e1 => QO (vs := [.slice none 0 0]) (FA.cons (rfl) (FA.nil)), HM, E, S.pick [0] (by decide), ⟨none, 0, rfl, rfl⟩⟩
 | some ad =>
  refine Qc Tryd.func146 rfl Tryd.ntmps146 Tryd.results146 rfl ?_
  intro w F rn S hrn
  have E := Ext.refl w
  have HM := Hp.le_refl M
  refine QE (QA (W_v (.slice none 0 0) (QD rfl) rfl (QB (tn (QE (QE (QA (W_v (.slice (some ad) a0.length c0) (QC rfl) rfl (W_v (.bool false) (XT rfl rfl (run_equal_slice_nil _ _ _ _ _ _ Tryd.underlying115)) rfl (QB (tn (QK rfl (Qk (tn (QE ?_)))))))))))))))
  refine QA ?_
  refine Zt S #[] Tryd.underlying115 ty117 rfl rfl #[] (by as_aux_lemma => kernel_rfl) (by as_aux_lemma => kernel_rfl) rfl ?_
  intro b2 w3 E' S
  replace E := E.trans E'
  replace S := S.blk_row (r := YH) (l := ([] : List Ql)) 0 rfl 0 (Nat.le_refl 0) rfl Cells.nil
  refine W_v (.slice (some ad) a0.length c0) (QC rfl) rfl ?_
  obtain ⟨p5, H⟩ := YN H
  obtain ⟨src6, hs7, hC8⟩ := Zx (P := Tryd.prog) (ρ := YH) (l := a0) (SlR.world hr0 S) (by decide)
  refine Yn S 0 rfl rfl rfl Tryd.underlying115 (.inl Tryd.underlying115) ty117 rfl (by decide) (by decide) hs7 hC8 rfl (by omega) rfl ?_
  intro v9 w10 E' S
  replace E := E.trans E'
  obtain ⟨A11, c12, rfl, _⟩ := (S.row_read 0 rfl).form
  refine W_v (.slice A11 (([] : List Ql) ++ a0).length c12) (QD rfl) rfl (QB (tn ?_))
  refine QZ ?_
  obtain rfl := Option.some.inj H
  exact ⟨_, _, _, fun w1 e1 => QO (vs := [.slice A11 (([] : List Ql) ++ a0).length c12]) (FA.cons (rfl) (FA.nil)), HM, E, S.pick [0] (by decide), ⟨A11, c12, rfl, rfl⟩⟩
def XJ (a0 : (List Ql)) (k : Nat) : (Int × Bool) → Int → Option ((Int) ⊕ (Unit))
 | (y164, y165), x113 => (Option.bind (α := Int) (if (!y165) = true then some (x113) else (if 0 ≤ y164 ∧ y164 < (a0.length : Int) then (Option.bind (α := Int) (if (!((rd a0 y164).Tomb)) = true then some ((IntKind.i64.wrap (y164 + (1 : Int)))) else some (y164)) (fun x207 => some (x207))) else none)) (fun x189 => some (.inl x189)))
theorem XJ.mono {a0 : (List Ql)} {k : Nat} : ∀ x s, OLe (XJ a0 k x s) (XJ a0 (k + 1) x s) := by
 intro x s
 unfold XJ
 exact mo
def Xc (k : Nat) (a0 : (List Ql)) (a1 : Int) : Option ((List Ql)) :=
 (Option.bind (Y4 k a0 a1) (fun t8 => (Option.bind (Y5 k a0 a1 (XJ a0 k) (a0.length : Int)) (fun o161o => Sum.elim (fun x113 => (if 0 ≤ x113 ∧ x113 ≤ x113 ∧ x113 ≤ (a0.length : Int) then (Option.bind (ZQ k (List.take x113.toNat a0)) (fun t221 => some t221)) else none)) (fun _ => none) o161o))))
theorem Xc.mono {k : Nat} {a0 : (List Ql)} {a1 : Int} : OLe (Xc k a0 a1) (Xc (k + 1) a0 a1) := by
 unfold Xc
 repeat' (first | with_reducible exact OLe.none | with_reducible exact OLe.some | with_reducible refine OLe.ite ?_ ?_ | with_reducible refine OLe.bind ?_ (fun _ => ?_) | with_reducible exact XJ.mono | exact Y5.mono (fun _ _ => by first | exact XJ.mono _ _) | with_reducible exact Y4.mono | with_reducible exact ZQ.mono | refine OLe.bind ?_ (fun _ => ?_) | refine OLe.ite ?_ ?_ | refine OLe.elim (fun _ => ?_) (fun _ => ?_) | split)
theorem Xc.con (k : Nat) (M : Hp) (A0 : Option Addr) (c0 : Nat) (a0 : (List Ql)) (a1 : Int) (r : (List Ql)) (hr0 : SlR YH M (.slice A0 a0.length c0) a0) (h : Xc k a0 a1 = some r) : Con Tryd.prog 138 #[.slice A0 a0.length c0, vI a1] M [] (fun v M' Γ' => ∃ (A0 : Option Addr) (c0 : Nat), v = .slice A0 r.length c0 ∧ Γ' = [Row YH 117 (.slice A0 r.length c0) r]) := by
 refine Qc Tryd.func138 rfl Tryd.ntmps138 Tryd.results138 rfl ?_
 intro w F rn S hrn
 have E := Ext.refl w
 have HM := Hp.le_refl M
 have H := h
 unfold Xc at H
 refine QE (QA ?_)
 refine Yc S #[.slice A0 a0.length c0] rfl rfl rfl ?_
 intro b1 w2 E' S
 replace E := E.trans E'
 refine W_v (.slice none 0 0) (QD rfl) rfl (QB (tn (QE (QA (W_v (.slice A0 a0.length c0) (QQ (S.blk 0 rfl) ty115 rfl rfl) rfl (W_v (vI (a0.length : Int)) (ZK (n := a0.length) Tryd.underlying115 rfl) rfl ?_))))))
 refine Z1 S #[vI 0] ty3 rfl rfl ?_
 intro b4 w5 E' S
 replace E := E.trans E'
 refine Q0 S 0 rfl ty3 rfl rfl [vI (a0.length : Int)] rfl rfl rfl #[vI (a0.length : Int)] rfl rfl ?_
 intro w7 E' S
 replace E := E.trans E'
 refine QB (tn (QE (QE (QA (W_v (.slice A0 a0.length c0) (QQ (S.blk 1 rfl) ty115 rfl rfl) rfl (W_v (vI a1) (QC rfl) rfl ?_))))))
 obtain ⟨t8, ht9, H⟩ := QW H
 refine Z3 fn145 (Y4.con k M A0 c0 a0 a1 t8 hr0 ht9) (Γ1 := []) (Γ2 := [_, _]) S rfl rfl (by rintro _ _ _ ⟨_, _, rfl, rfl⟩; exact (QR ZP (QR ZP Qd))) ?_
 rintro _ w14 _ Γ' E' S ⟨b10, b12, rfl, rfl⟩
 replace E := E.trans E'
 replace S : St w14 M F [_, _, _, _] := S
 refine QB (tn ?_)
 refine YO ?_
 obtain ⟨o161, o161h, o161H⟩ := QW H
 refine X6 (σ := Int) (ε := Unit) (Γi := [Blk b10 (.cells #[.slice A0 a0.length c0] 115 (0, 0)), Blk b12 (.cells #[vI a1] 3 (0, 0))]) (Γr := []) (Sum.elim (fun x113 => AE (ι := Unit) (fun (i : Unit) => [Blk b4 (.cells #[vI x113] 3 (0, 0)), Blk b1 (.cells #[.slice A0 a0.length c0] 115 (0, 0))]) (fun _ _ => True) (fun _ _ _ _ _ => trivial)) (fun _ => Star [])) (fun _ => Code.ret) fn151 rfl (St.close_ex (φ := (fun _ _ => True)) (hφ := (fun _ _ _ _ _ => trivial)) () trivial (S.pick [2, 3, 0, 1] (by decide))) (by rintro _ _ _ rfl; rfl) (by decide) (Y5.con k M A0 c0 a0 a1 b10 b12 (XJ a0 k) (a0.length : Int) o161 hr0 o161h) ?_ ?_
 ·intro nn lp M162 F yy vs x113 tt w hM163 henc hbd S
  obtain ⟨y164, y165⟩ := yy
  obtain rfl := henc
  replace HM := Hp.le_trans HM hM163
  replace hr0 := SlR.mono hr0 hM163
  replace S : St w M162 F (AE (ι := Unit) (fun (i : Unit) => [Blk b4 (.cells #[vI x113] 3 (0, 0)), Blk b1 (.cells #[.slice A0 a0.length c0] 115 (0, 0))]) (fun _ _ => True) (fun _ _ _ _ _ => trivial) :: []) := S
  obtain ⟨_, _, S⟩ := S.open_ex
  replace S : St w M162 F [_, _] := S
  have E := Ext.refl w
  have LE166 := Hp.le_refl M162
  have H := hbd
  rw [XJ.eq_1] at H
  refine QE (QA (W_v (vI y164) (QD rfl) rfl (QB (tn (QA (W_v (.bool y165) (QD rfl) rfl (QB ?_)))))))
  refine Zo ⟨_, _, LE166, E, S, ?_⟩
  intro w F E3 S
  have E := Ext.refl w
  have LE167 := Hp.le_refl M162
  obtain ⟨o190, o190h, o190H⟩ := QW H
  refine XZ (fun ρ w' => ∃ (x189 : Int), (x189) = o190 ∧ Qn ρ [(2, pt b1 0), (4, .slice none 0 0), (5, pt b4 0)] ∧ Ext w w' ∧ St w' M162 F [Blk b4 (.cells #[vI x189] 3 (0, 0)), Blk b1 (.cells #[.slice A0 a0.length c0] 115 (0, 0))]) ?_ ?_
  ·as_aux_lemma =>
    clear o190H
    have H := o190h
    refine YO ?_
    refine QE (QE (QA (W_v (.bool y165) (QC rfl) rfl (W_v (.bool (!y165)) (Yy (b := y165) rfl) rfl (QB (tn ?_))))))
    rcases Zw H with ⟨hb191, H⟩ | ⟨hb191, H⟩
    ·refine QN (congrArg Value.bool hb191) ?_
     refine Ys ?_
     refine tx (bsm (?_))
     refine tn ?_
     exact ⟨x113, Option.some.inj H, ⟨rfl, rfl, rfl, trivial⟩, E, S.pick [0, 1] (by decide)⟩
    refine QK (congrArg Value.bool hb191) (Qk (tn (QE (QA (W_v (vI y164) (QC rfl) rfl ?_)))))
    refine Q0 S 0 rfl ty3 rfl rfl [vI y164] rfl rfl rfl #[vI y164] rfl rfl ?_
    intro w192 E' S
    replace E := E.trans E'
    refine QB (tn (QE (QA (W_v (.slice A0 a0.length c0) (QQ (S.blk 1 rfl) ty115 rfl rfl) rfl (W_v (vI y164) (QC rfl) rfl ?_)))))
    obtain ⟨⟨p193, p194⟩, H⟩ := YN H
    obtain ⟨b195, o196, cs197, _, _, ee202, hb198, vs199, hR200, hc201⟩ := SlW.at' hr0 p193 p194
    obtain rfl : vs199 = _ := hR200
    refine W_v (.pointer (some ⟨b195, o196 + y164.toNat * 4, none⟩)) (Q8 Tryd.underlying115 ty117 (slA ee202) rfl p193 p194) rfl (W_v (.pointer (some ⟨b195, o196 + y164.toNat * 4 + 2, none⟩)) (QG (o := o196 + y164.toNat * 4) (off := 2) Tryd.underlying117 rfl ty4 rfl rfl) rfl (W_v (.bool ((rd a0 y164).Tomb)) (QQ (S.frz hb198) ty4 rfl (hc201 2 _ rfl)) rfl (W_v (.bool (!((rd a0 y164).Tomb))) (Yy (b := ((rd a0 y164).Tomb)) rfl) rfl (QB (tn ?_)))))
    obtain ⟨o208, o208h, o208H⟩ := QW H
    refine XZ (fun ρ w' => ∃ (x207 : Int), (x207) = o208 ∧ Qn ρ [(2, pt b1 0), (4, .slice none 0 0), (5, pt b4 0)] ∧ Ext w w' ∧ St w' M162 F [Blk b4 (.cells #[vI x207] 3 (0, 0)), Blk b1 (.cells #[.slice A0 a0.length c0] 115 (0, 0))]) ?_ ?_
    ·clear o208H
     have H := o208h
     rcases Zw H with ⟨hb209, H⟩ | ⟨hb209, H⟩
     ·refine QN (congrArg Value.bool hb209) ?_
      refine QA (W_v (vI y164) (QC rfl) rfl (W_v (vI (IntKind.i64.wrap (y164 + (1 : Int)))) (QV rfl rfl rfl rfl) rfl ?_))
      refine Q0 S 0 rfl ty3 rfl rfl [vI (IntKind.i64.wrap (y164 + (1 : Int)))] rfl rfl rfl #[vI (IntKind.i64.wrap (y164 + (1 : Int)))] rfl rfl ?_
      intro w210 E' S
      replace E := E.trans E'
      refine QB (tn ?_)
      exact ⟨(IntKind.i64.wrap (y164 + (1 : Int))), Option.some.inj H, ⟨rfl, rfl, rfl, trivial⟩, E, S.pick [0, 1] (by decide)⟩
     refine QK (congrArg Value.bool hb209) (Qk (tn ?_))
     exact ⟨y164, Option.some.inj H, ⟨rfl, rfl, rfl, trivial⟩, E, S.pick [0, 1] (by decide)⟩
    rintro ρ w211 ⟨x207, rfl, hρ, E, S⟩
    rw [QL hρ]
    have H := o208H
    refine bn (tn ?_)
    exact ⟨x207, Option.some.inj H, ⟨rfl, rfl, rfl, trivial⟩, E, S.pick [0, 1] (by decide)⟩
  rintro ρ w212 ⟨x189, rfl, hρ, E, S⟩
  rw [QL hρ]
  have H := o190H
  obtain rfl := Option.some.inj H
  exact Ve trivial LE167 E (St.close_ex (φ := (fun _ _ => True)) (hφ := (fun _ _ _ _ _ => trivial)) () trivial (S.pick [0, 1] (by decide)))
 intro w213 M214 Γ' hM215 E' hΨ S
 obtain rfl : Γ' = _ := hΨ
 replace E := E.trans E'
 replace HM := Hp.le_trans HM hM215
 replace hr0 := SlR.mono hr0 hM215
 have H := o161H
 rcases o161 with x113 | _
 ·replace H := elimL H
  refine V3 ?_
  replace S : St w213 M214 F (AE (ι := Unit) (fun (i : Unit) => [Blk b4 (.cells #[vI x113] 3 (0, 0)), Blk b1 (.cells #[.slice A0 a0.length c0] 115 (0, 0))]) (fun _ _ => True) (fun _ _ _ _ _ => trivial) :: [Blk b10 (.cells #[.slice A0 a0.length c0] 115 (0, 0)), Blk b12 (.cells #[vI a1] 3 (0, 0))]) := S
  obtain ⟨_, _, S⟩ := S.open_ex
  replace S : St w213 M214 F [_, _, _, _] := S
  refine bn (tn (QE (QA (W_v (.slice A0 a0.length c0) (QQ (S.blk 1 rfl) ty115 rfl rfl) rfl (W_v (vI x113) (QQ (S.blk 0 rfl) ty3 rfl rfl) rfl (W_v (vI x113) (QQ (S.blk 0 rfl) ty3 rfl rfl) rfl ?_))))))
  obtain ⟨⟨p216, p217, p218⟩, H⟩ := YN H
  obtain ⟨hs219, hx220⟩ := sl_hm hr0 p216 p217 p218
  refine W_v (.slice A0 (List.take x113.toNat a0).length x113.toNat) (hx220 Tryd.underlying115 ty117 rfl rfl rfl) rfl ?_
  obtain ⟨t221, ht222, H⟩ := QW H
  refine YM fn146 (ZQ.con k M214 A0 x113.toNat (List.take x113.toNat a0) t221 hs219 ht222) S rfl rfl (by rintro _ _ _ ⟨_, _, _, rfl⟩; exact (QR (Ya (fun _ _ _ _ h => h)) Qd)) ?_
  rintro _ w226 _ Γ' E' S ⟨A223, c224, rfl, rfl⟩
  replace E := E.trans E'
  refine W_v (.slice A223 t221.length c224) (QD rfl) rfl (QB (tn ?_))
  refine QZ ?_
  obtain rfl := Option.some.inj H
  exact ⟨_, _, _, fun w1 e1 => QO (vs := [.slice A223 t221.length c224]) (FA.cons (rfl) (FA.nil)), HM, E, S.pick [0] (by decide), ⟨A223, c224, rfl, rfl⟩⟩
 ·cases H
def Zj (k : Nat) (a0 : List Qu) : Option (List Qu) :=
 if ([] : List Qu).length + a0.length ≤ 4398046511104 then some (([] : List Qu) ++ a0) else none
theorem Zj.mono {k : Nat} {a0 : List Qu} : OLe (Zj k a0) (Zj (k + 1) a0) := by
 unfold Zj
 exact mo
theorem Zj.con (k : Nat) (M : Hp) (A0 : Option Addr) (c0 : Nat) (a0 : (List Qu)) (r : (List Qu)) (hr0 : SlR Qt M (.slice A0 a0.length c0) a0) (h : Zj k a0 = some r) : Con Tryd.prog 80 #[.slice A0 a0.length c0] M [] (fun v M' Γ' => ∃ (A0 : Option Addr) (c0 : Nat), v = .slice A0 r.length c0 ∧ Γ' = [Row Qt 72 (.slice A0 r.length c0) r]) := by
 have H := h
 unfold Zj at H
 cases A0 with
 | none =>
  obtain ⟨_, H⟩ := YN H
  obtain rfl : a0 = [] := SlW.none_nil hr0
  refine Qc Tryd.func80 rfl Tryd.ntmps80 Tryd.results80 rfl ?_
  intro w F rn S hrn
  have E := Ext.refl w
  have HM := Hp.le_refl M
  refine QE (QA (W_v (.slice none 0 0) (QD rfl) rfl (QB (tn (QE (QE (QA (W_v (.slice none ([] : List Qu).length c0) (QC rfl) rfl (W_v (.bool true) (XT rfl rfl (run_equal_slice_nil _ _ _ _ _ _ Tryd.underlying32)) rfl (QB (tn (QN rfl (QE (QA (W_v (.slice none 0 0) (QD rfl) rfl ?_)))))))))))))))
  refine QB (tn ?_)
  refine QZ ?_
  refine tr (?_)
  obtain rfl := Option.some.inj H
  replace S := S.row_nil Qt 72
  exact ⟨_, _, _, fun w1 e1 => QO (vs := [.slice none 0 0]) (FA.cons (rfl) (FA.nil)), HM, E, S.pick [0] (by decide), ⟨none, 0, rfl, rfl⟩⟩
 | some ad =>
  refine Qc Tryd.func80 rfl Tryd.ntmps80 Tryd.results80 rfl ?_
  intro w F rn S hrn
  have E := Ext.refl w
  have HM := Hp.le_refl M
  refine QE (QA (W_v (.slice none 0 0) (QD rfl) rfl (QB (tn (QE (QE (QA (W_v (.slice (some ad) a0.length c0) (QC rfl) rfl (W_v (.bool false) (XT rfl rfl (run_equal_slice_nil _ _ _ _ _ _ Tryd.underlying32)) rfl (QB (tn (QK rfl (Qk (tn (QE ?_)))))))))))))))
  refine QA ?_
  refine Zt S #[] Tryd.underlying32 ty72 rfl rfl #[] (by as_aux_lemma => kernel_rfl) (by as_aux_lemma => kernel_rfl) rfl ?_
  intro b2 w3 E' S
  replace E := E.trans E'
  replace S := S.blk_row (r := Qt) (l := ([] : List Qu)) 0 rfl 0 (Nat.le_refl 0) rfl Cells.nil
  refine W_v (.slice (some ad) a0.length c0) (QC rfl) rfl ?_
  obtain ⟨p5, H⟩ := YN H
  obtain ⟨src6, hs7, hC8⟩ := Zx (P := Tryd.prog) (ρ := Qt) (l := a0) (SlR.world hr0 S) (by decide)
  refine Yn S 0 rfl rfl rfl Tryd.underlying32 (.inl Tryd.underlying32) ty72 rfl (by decide) (by decide) hs7 hC8 rfl (by omega) rfl ?_
  intro v9 w10 E' S
  replace E := E.trans E'
  obtain ⟨A11, c12, rfl, _⟩ := (S.row_read 0 rfl).form
  refine W_v (.slice A11 (([] : List Qu) ++ a0).length c12) (QD rfl) rfl (QB (tn ?_))
  refine QZ ?_
  obtain rfl := Option.some.inj H
  exact ⟨_, _, _, fun w1 e1 => QO (vs := [.slice A11 (([] : List Qu) ++ a0).length c12]) (FA.cons (rfl) (FA.nil)), HM, E, S.pick [0] (by decide), ⟨A11, c12, rfl, rfl⟩⟩
def XO (k : Nat) (a0 : QF) : Option (QF) :=
 (Option.bind (Zj k a0.Answer.Pairs) (fun t7 => some (⟨a0.What, a0.Task, a0.Call, ⟨a0.Answer.Err, a0.Answer.Found, a0.Answer.Value, t7⟩⟩ : QF)))
theorem XO.mono {k : Nat} {a0 : QF} : OLe (XO k a0) (XO (k + 1) a0) := by
 unfold XO
 have m1 := @Zj.mono
 exact mo
theorem XO.con (k : Nat) (M : Hp) (A0_0 : Option Addr) (c0_0 : Nat) (a0 : QF) (r : QF) (hr0_0 : SlR Qt M (.slice A0_0 a0.Answer.Pairs.length c0_0) a0.Answer.Pairs) (h : XO k a0 = some r) : Con Tryd.prog 68 #[.agg #[vU a0.What, vI a0.Task, vI a0.Call, vI a0.Answer.Err, .bool a0.Answer.Found, vS a0.Answer.Value, .slice A0_0 a0.Answer.Pairs.length c0_0]] M [] (fun v M' Γ' => ∃ (A0 : Option Addr) (c0 : Nat), v = .agg #[vU r.What, vI r.Task, vI r.Call, vI r.Answer.Err, .bool r.Answer.Found, vS r.Answer.Value, .slice A0 r.Answer.Pairs.length c0] ∧ Γ' = [Row Qt 72 (.slice A0 r.Answer.Pairs.length c0) r.Answer.Pairs]) := by
 refine Qc Tryd.func68 rfl Tryd.ntmps68 Tryd.results68 rfl ?_
 intro w F rn S hrn
 have E := Ext.refl w
 have HM := Hp.le_refl M
 have H := h
 unfold XO at H
 refine QE (QA ?_)
 refine Yc S #[vU a0.What, vI a0.Task, vI a0.Call, vI a0.Answer.Err, .bool a0.Answer.Found, vS a0.Answer.Value, .slice A0_0 a0.Answer.Pairs.length c0_0] rfl rfl rfl ?_
 intro b1 w2 E' S
 replace E := E.trans E'
 refine Z1 S cz8 ty55 rfl rfl ?_
 intro b4 w5 E' S
 replace E := E.trans E'
 refine QB (tn (QE (QA (W_v (pt b1 3) (QG (o := 0) (off := 3) Tryd.underlying55 rfl ty34 rfl rfl) rfl (W_v (pt b1 6) (QG (o := 3) (off := 3) Tryd.underlying34 rfl ty32 rfl rfl) rfl (W_v (.slice A0_0 a0.Answer.Pairs.length c0_0) (QQ (S.blk 1 rfl) ty32 rfl rfl) rfl ?_))))))
 obtain ⟨t7, ht8, H⟩ := QW H
 refine YM fn80 (Zj.con k M A0_0 c0_0 a0.Answer.Pairs t7 hr0_0 ht8) S rfl rfl (by rintro _ _ _ ⟨_, _, _, rfl⟩; exact (QR (Ya (fun _ _ _ _ h => h)) Qd)) ?_
 rintro _ w12 _ Γ' E' S ⟨A9, c10, rfl, rfl⟩
 replace E := E.trans E'
 refine W_v (pt b1 3) (QG (o := 0) (off := 3) Tryd.underlying55 rfl ty34 rfl rfl) rfl (W_v (pt b1 6) (QG (o := 3) (off := 3) Tryd.underlying34 rfl ty32 rfl rfl) rfl ?_)
 refine Q0 S 2 rfl ty32 rfl rfl [.slice A9 t7.length c10] rfl rfl rfl #[vU a0.What, vI a0.Task, vI a0.Call, vI a0.Answer.Err, .bool a0.Answer.Found, vS a0.Answer.Value, .slice A9 t7.length c10] rfl rfl ?_
 intro w13 E' S
 replace E := E.trans E'
 refine QB (tn (QE (QA (W_v (.agg #[vU a0.What, vI a0.Task, vI a0.Call, vI a0.Answer.Err, .bool a0.Answer.Found, vS a0.Answer.Value, .slice A9 t7.length c10]) (Qi (S.blk 2 rfl) ty55 rfl (QI rfl) rfl rfl) rfl ?_))))
 refine Q0 S 1 rfl ty55 rfl rfl [vU a0.What, vI a0.Task, vI a0.Call, vI a0.Answer.Err, .bool a0.Answer.Found, vS a0.Answer.Value, .slice A9 t7.length c10] rfl rfl rfl #[vU a0.What, vI a0.Task, vI a0.Call, vI a0.Answer.Err, .bool a0.Answer.Found, vS a0.Answer.Value, .slice A9 t7.length c10] (by as_aux_lemma => kernel_rfl) rfl ?_
 intro w14 E' S
 replace E := E.trans E'
 refine QB (tn ?_)
 refine QZ ?_
 obtain rfl := Option.some.inj H
 exact ⟨_, _, _, fun w1 e1 => QO (vs := [.agg #[vU a0.What, vI a0.Task, vI a0.Call, vI a0.Answer.Err, .bool a0.Answer.Found, vS a0.Answer.Value, .slice A9 t7.length c10]]) (FA.cons (⟨_, rfl, Qs ty55 ((S.of_eq e1).blk 1 rfl) (QI rfl) rfl (by decide)⟩) (FA.nil)), HM, E, S.pick [0] (by decide), ⟨A9, c10, rfl, rfl⟩⟩
def Yr (a0 : (List QF)) : Nat → List QF → Int → Option ((List QF))
 | 0, _, _ => none
 | k + 1, x165, x169 => (if (decide (x169 < (a0.length : Int))) = true then (if 0 ≤ x169 ∧ x169 < (a0.length : Int) then (Option.bind (α := List QF) (if ((rd a0 x169).What == (3 : Int)) = true then (if x165.length + ([(⟨(2 : Int), ((rd a0 x169).Task), ((rd a0 x169).Call), ⟨(0 : Int), false, ([] : Str), ([] : (List Qu))⟩⟩ : QF)] : List QF).length ≤ 1759218604441 then some ((x165 ++ ([(⟨(2 : Int), ((rd a0 x169).Task), ((rd a0 x169).Call), ⟨(0 : Int), false, ([] : Str), ([] : (List Qu))⟩⟩ : QF)] : List QF))) else none) else some (x165)) (fun x292 => (if x292.length + ([(rd a0 x169)] : List QF).length ≤ 1759218604441 then Yr a0 k (x292 ++ ([(rd a0 x169)] : List QF)) (IntKind.i64.wrap (x169 + (1 : Int))) else none))) else none) else some (x165))
theorem Yr.mono {a0 : (List QF)} : ∀ {kl : Nat} {x0 x1}, OLe (Yr a0 kl x0 x1) (Yr a0 (kl + 1) x0 x1) := by
 intro kl
 induction kl with
 | zero => intros; exact OLe.none
 | succ kl ih =>
  intros
  rw [Yr.eq_2, Yr.eq_2]
  exact mo
def Y7 (k : Nat) (a0 : (List QF)) : Option ((List QF)) :=
 (Option.bind (Yr a0 k ([] : List QF) (0 : Int)) (fun x242 => some x242))
theorem Y7.mono {k : Nat} {a0 : (List QF)} : OLe (Y7 k a0) (Y7 (k + 1) a0) := by
 unfold Y7
 have m1 := @Yr.mono
 exact mo
theorem Y7.con (k : Nat) (M : Hp) (A0 : Option Addr) (c0 : Nat) (a0 : (List QF)) (r : (List QF)) (hr0 : SlR QJ M (.slice A0 a0.length c0) a0) (h : Y7 k a0 = some r) : Con Tryd.prog 31 #[.slice A0 a0.length c0] M [] (fun v M' Γ' => ∃ (A0 : Option Addr) (c0 : Nat), v = .slice A0 r.length c0 ∧ Γ' = [Row QJ 55 (.slice A0 r.length c0) r]) := by
 refine Qc Tryd.func31 rfl Tryd.ntmps31 Tryd.results31 rfl ?_
 intro w F rn S hrn
 have E := Ext.refl w
 have HM := Hp.le_refl M
 have H := h
 unfold Y7 at H
 refine QE (QA (W_v (.slice none 0 0) (QD rfl) rfl (QB (tn (QE (QA (W_v (.slice none 0 0) (QD rfl) rfl (QB (tn (QE (QE (QA (W_v (.slice A0 a0.length c0) (QC rfl) rfl (W_v (vI (a0.length : Int)) (ZK (n := a0.length) Tryd.underlying25 rfl) rfl (W_v (vI 0) (QC rfl) rfl ?_)))))))))))))))
 refine QB (tn ?_)
 obtain ⟨o246, o246h, o246H⟩ := QW H
 refine Ym (fun ρ w' => ∃ (x242 : List QF) (A243 : Option Addr) (c244 : Nat), (x242) = o246 ∧ Qn ρ [(3, .slice A243 x242.length c244)] ∧ Ext w w' ∧ St w' M F [Row QJ 55 (.slice A243 x242.length c244) x242]) ?_ ?_
 ·skip
  refine Y6 (fun n ρ w' => ∃ (x165 : List QF) (x169 : Int) (A166 : Option Addr) (c167 : Nat), Yr a0 n x165 x169 = some o246 ∧ Qn ρ [(3, .slice A166 x165.length c167), (6, .slice A0 a0.length c0), (7, vI (a0.length : Int)), (8, vI x169)] ∧ Ext w w' ∧ St w' M F [Row QJ 55 (.slice A166 x165.length c167) x165]) k ?_ ?_
  ·skip
   replace S := S.row_nil QJ 55
   exact ⟨([] : List QF), (0 : Int), none, 0, o246h, ⟨rfl, rfl, rfl, rfl, trivial⟩, E, S.pick [0] (by decide)⟩
  ·intro n
   rintro ρ w248 ⟨x165, x169, A166, c167, H, hρ, E, S⟩
   rw [QL hρ]
   cases n with
   | zero => cases H
   | succ k =>
    rw [Yr.eq_2] at H
    refine QE (QA (W_v (.bool (decide (x169 < (a0.length : Int)))) (QV rfl rfl rfl rfl) rfl (QB (tn (QE ?_)))))
    rcases Zw H with ⟨hb249, H⟩ | ⟨hb249, H⟩
    ·refine QN (congrArg Value.bool hb249) ?_
     refine Qk (tn (QE ?_))
     refine YO ?_
     refine QE (QA ?_)
     obtain ⟨⟨p250, p251⟩, H⟩ := YN H
     obtain ⟨b252, o253, cs254, _, _, ee259, hb255, vs256, hR257, hc258⟩ := SlW.at' hr0 p250 p251
     obtain ⟨v263, hs262, rfl⟩ := hR257
     obtain ⟨A260, c261, rfl, _⟩ := hs262.form
     refine W_v (.pointer (some ⟨b252, o253 + x169.toNat * 7, none⟩)) (Q8 Tryd.underlying25 ty55 (slA ee259) rfl p250 p251) rfl (W_v (.agg #[vU ((rd a0 x169).What), vI ((rd a0 x169).Task), vI ((rd a0 x169).Call), vI ((rd a0 x169).Answer.Err), .bool ((rd a0 x169).Answer.Found), vS ((rd a0 x169).Answer.Value), .slice A260 ((rd a0 x169).Answer.Pairs).length c261]) (Qi (S.frz hb255) ty55 rfl (XG hc258 0 rfl) rfl rfl) rfl ?_)
     refine Z1 S cz8 ty55 rfl rfl ?_
     intro b264 w265 E' S
     replace E := E.trans E'
     refine Q0 S 0 rfl ty55 rfl rfl [vU ((rd a0 x169).What), vI ((rd a0 x169).Task), vI ((rd a0 x169).Call), vI ((rd a0 x169).Answer.Err), .bool ((rd a0 x169).Answer.Found), vS ((rd a0 x169).Answer.Value), .slice A260 ((rd a0 x169).Answer.Pairs).length c261] rfl rfl rfl #[vU ((rd a0 x169).What), vI ((rd a0 x169).Task), vI ((rd a0 x169).Call), vI ((rd a0 x169).Answer.Err), .bool ((rd a0 x169).Answer.Found), vS ((rd a0 x169).Answer.Value), .slice A260 ((rd a0 x169).Answer.Pairs).length c261] (by as_aux_lemma => kernel_rfl) rfl ?_
     intro w267 E' S
     replace E := E.trans E'
     refine QB (tn (QE (QE (QA (W_v (pt b264 0) (QG (o := 0) (off := 0) Tryd.underlying55 rfl ty5 rfl rfl) rfl (W_v (vU ((rd a0 x169).What)) (QQ (S.blk 0 rfl) ty5 rfl rfl) rfl (W_v (.bool ((rd a0 x169).What == (3 : Int))) (QV rfl rfl rfl rfl) rfl (QB (tn ?_)))))))))
     obtain ⟨o296, o296h, o296H⟩ := QW H
     refine XZ (fun ρ w' => ∃ (x292 : List QF) (A293 : Option Addr) (c294 : Nat), (x292) = o296 ∧ Qn ρ [(3, .slice A293 x292.length c294), (5, pt b264 0), (6, .slice A0 a0.length c0), (7, vI (a0.length : Int)), (8, vI x169)] ∧ Ext w w' ∧ St w' M F [Row QJ 55 (.slice A293 x292.length c294) x292, B55 b264 (rd a0 x169) A260 c261]) ?_ ?_
     ·clear o296H
      have H := o296h
      rcases Zw H with ⟨hb297, H⟩ | ⟨hb297, H⟩
      ·refine QN (congrArg Value.bool hb297) ?_
       refine QA (W_v (.slice A166 x165.length c167) (QC rfl) rfl (W_v (pt b264 1) (QG (o := 0) (off := 1) Tryd.underlying55 rfl ty3 rfl rfl) rfl (W_v (vI ((rd a0 x169).Task)) (QQ (S.blk 0 rfl) ty3 rfl rfl) rfl (W_v (pt b264 2) (QG (o := 0) (off := 2) Tryd.underlying55 rfl ty3 rfl rfl) rfl (W_v (vI ((rd a0 x169).Call)) (QQ (S.blk 0 rfl) ty3 rfl rfl) rfl (W_v (.agg #[vU 2, vI ((rd a0 x169).Task), vI ((rd a0 x169).Call), vI 0, .bool false, vS ([] : Str), .slice none 0 0]) (Qr (pl := [(0, 1), (1, 1), (2, 1), (3, 4)]) #[vU 2, vI ((rd a0 x169).Task), vI ((rd a0 x169).Call), vI 0, .bool false, vS ([] : Str), .slice none 0 0] Tryd.underlying55 ty55 (by as_aux_lemma => kernel_rfl) rfl (by as_aux_lemma => kernel_rfl)) rfl ?_))))))
       refine Zt S #[vU 2, vI ((rd a0 x169).Task), vI ((rd a0 x169).Call), vI 0, .bool false, vS ([] : Str), .slice none 0 0] Tryd.underlying25 ty55 rfl rfl cz8 (by as_aux_lemma => kernel_rfl) (by as_aux_lemma => kernel_rfl) rfl ?_
       intro b298 w299 E' S
       replace E := E.trans E'
       replace S := S.blk_row (r := QJ) (l := ([(⟨(2 : Int), ((rd a0 x169).Task), ((rd a0 x169).Call), ⟨(0 : Int), false, ([] : Str), ([] : (List Qu))⟩⟩ : QF)] : List QF)) 0 rfl 1 (Nat.le_refl 1) rfl (Cells.cons (vs := [vU 2, vI ((rd a0 x169).Task), vI ((rd a0 x169).Call), vI 0, .bool false, vS ([] : Str), .slice none 0 0]) (⟨_, (SlW.nil _ _), rfl⟩) Cells.nil)
       obtain ⟨p301, H⟩ := YN H
       obtain ⟨src302, hs303, hC304⟩ := Zx (P := Tryd.prog) (ρ := QJ) (l := ([(⟨(2 : Int), ((rd a0 x169).Task), ((rd a0 x169).Call), ⟨(0 : Int), false, ([] : Str), ([] : (List Qu))⟩⟩ : QF)] : List QF)) (S.row_read 0 rfl) (by decide)
       refine Yn S 2 rfl rfl rfl Tryd.underlying25 (.inl Tryd.underlying25) ty55 rfl (by decide) (by decide) hs303 hC304 rfl (by omega) rfl ?_
       intro v305 w306 E' S
       replace E := E.trans E'
       obtain ⟨A307, c308, rfl, _⟩ := (S.row_read 2 rfl).form
       refine W_v (.slice A307 (x165 ++ ([(⟨(2 : Int), ((rd a0 x169).Task), ((rd a0 x169).Call), ⟨(0 : Int), false, ([] : Str), ([] : (List Qu))⟩⟩ : QF)] : List QF)).length c308) (QD rfl) rfl (QB (tn ?_))
       exact ⟨(x165 ++ ([(⟨(2 : Int), ((rd a0 x169).Task), ((rd a0 x169).Call), ⟨(0 : Int), false, ([] : Str), ([] : (List Qu))⟩⟩ : QF)] : List QF)), A307, c308, Option.some.inj H, ⟨rfl, rfl, rfl, rfl, rfl, trivial⟩, E, S.pick [2, 1] (by decide)⟩
      refine QK (congrArg Value.bool hb297) (Qk (tn ?_))
      exact ⟨x165, A166, c167, Option.some.inj H, ⟨rfl, rfl, rfl, rfl, rfl, trivial⟩, E, S.pick [1, 0] (by decide)⟩
     rintro ρ w309 ⟨x292, A293, c294, rfl, hρ, E, S⟩
     rw [QL hρ]
     have H := o296H
     refine tn (QA (W_v (.slice A293 x292.length c294) (QC rfl) rfl (W_v (.agg #[vU ((rd a0 x169).What), vI ((rd a0 x169).Task), vI ((rd a0 x169).Call), vI ((rd a0 x169).Answer.Err), .bool ((rd a0 x169).Answer.Found), vS ((rd a0 x169).Answer.Value), .slice A260 ((rd a0 x169).Answer.Pairs).length c261]) (Qi (S.blk 1 rfl) ty55 rfl (QI rfl) rfl rfl) rfl ?_)))
     refine Zt S #[vU ((rd a0 x169).What), vI ((rd a0 x169).Task), vI ((rd a0 x169).Call), vI ((rd a0 x169).Answer.Err), .bool ((rd a0 x169).Answer.Found), vS ((rd a0 x169).Answer.Value), .slice A260 ((rd a0 x169).Answer.Pairs).length c261] Tryd.underlying25 ty55 rfl rfl cz8 (by as_aux_lemma => kernel_rfl) (by as_aux_lemma => kernel_rfl) rfl ?_
     intro b310 w311 E' S
     replace E := E.trans E'
     replace S := S.blk_row (r := QJ) (l := ([(rd a0 x169)] : List QF)) 0 rfl 1 (Nat.le_refl 1) rfl (Cells.cons (vs := [vU ((rd a0 x169).What), vI ((rd a0 x169).Task), vI ((rd a0 x169).Call), vI ((rd a0 x169).Answer.Err), .bool ((rd a0 x169).Answer.Found), vS ((rd a0 x169).Answer.Value), .slice A260 ((rd a0 x169).Answer.Pairs).length c261]) (⟨_, hs262, rfl⟩) Cells.nil)
     obtain ⟨p313, H⟩ := YN H
     obtain ⟨src314, hs315, hC316⟩ := Zx (P := Tryd.prog) (ρ := QJ) (l := ([(rd a0 x169)] : List QF)) (S.row_read 0 rfl) (by decide)
     refine Yn S 1 rfl rfl rfl Tryd.underlying25 (.inl Tryd.underlying25) ty55 rfl (by decide) (by decide) hs315 hC316 rfl (by omega) rfl ?_
     intro v317 w318 E' S
     replace E := E.trans E'
     obtain ⟨A319, c320, rfl, _⟩ := (S.row_read 1 rfl).form
     refine W_v (.slice A319 (x292 ++ ([(rd a0 x169)] : List QF)).length c320) (QD rfl) rfl (QB (bn (tn (QA (W_v (vI (IntKind.i64.wrap (x169 + (1 : Int)))) (QV rfl rfl rfl rfl) rfl (W_v (vI (IntKind.i64.wrap (x169 + (1 : Int)))) (QC rfl) rfl (QB (tn ?_))))))))
     exact ⟨k, Nat.lt_succ_self k, ⟨(x292 ++ ([(rd a0 x169)] : List QF)), (IntKind.i64.wrap (x169 + (1 : Int))), A319, c320, H, ⟨rfl, rfl, rfl, rfl, trivial⟩, E, S.pick [1] (by decide)⟩⟩
    refine QK (congrArg Value.bool hb249) ?_
    refine Ys ?_
    refine tx (tx (bsm (?_)))
    refine tn ?_
    exact ⟨x165, A166, c167, Option.some.inj H, ⟨rfl, trivial⟩, E, S.pick [0] (by decide)⟩
 rintro ρ w321 ⟨x242, A243, c244, rfl, hρ, E, S⟩
 rw [QL hρ]
 have H := o246H
 refine tn ?_
 as_aux_lemma =>
 refine QE (QA (W_v (.slice A243 x242.length c244) (QC rfl) rfl (W_v (.slice A243 x242.length c244) (QD rfl) rfl (QB (tn ?_)))))
 refine QZ ?_
 obtain rfl := Option.some.inj H
 exact ⟨_, _, _, fun w1 e1 => QO (vs := [.slice A243 x242.length c244]) (FA.cons (rfl) (FA.nil)), HM, E, S.pick [0] (by decide), ⟨A243, c244, rfl, rfl⟩⟩
def YA (k : Nat) (a0 : List Int) : Option (List Int) :=
 if ([] : List Int).length + a0.length ≤ 17592186044416 then some (([] : List Int) ++ a0) else none
theorem YA.mono {k : Nat} {a0 : List Int} : OLe (YA k a0) (YA (k + 1) a0) := by
 unfold YA
 exact mo
theorem YA.con (k : Nat) (M : Hp) (A0 : Option Addr) (c0 : Nat) (a0 : (List Int)) (r : (List Int)) (hr0 : SlR (rInt .i64) M (.slice A0 a0.length c0) a0) (h : YA k a0 = some r) : Con Tryd.prog 36 #[.slice A0 a0.length c0] M [] (fun v M' Γ' => ∃ (A0 : Option Addr) (c0 : Nat), v = .slice A0 r.length c0 ∧ Γ' = [Row (rInt .i64) 3 (.slice A0 r.length c0) r]) := by
 have H := h
 unfold YA at H
 cases A0 with
 | none =>
  obtain ⟨_, H⟩ := YN H
  obtain rfl : a0 = [] := SlW.none_nil hr0
  refine Qc Tryd.func36 rfl Tryd.ntmps36 Tryd.results36 rfl ?_
  intro w F rn S hrn
  have E := Ext.refl w
  have HM := Hp.le_refl M
  refine QE (QA (W_v (.slice none 0 0) (QD rfl) rfl (QB (tn (QE (QE (QA (W_v (.slice none ([] : List Int).length c0) (QC rfl) rfl (W_v (.bool true) (XT rfl rfl (run_equal_slice_nil _ _ _ _ _ _ Tryd.underlying36)) rfl (QB (tn (QN rfl (QE (QA (W_v (.slice none 0 0) (QD rfl) rfl ?_)))))))))))))))
  refine QB (tn ?_)
  refine QZ ?_
  refine tr (?_)
  obtain rfl := Option.some.inj H
  replace S := S.row_nil (rInt .i64) 3
  exact ⟨_, _, _, fun w1 e1 => QO (vs := [.slice none 0 0]) (FA.cons (rfl) (FA.nil)), HM, E, S.pick [0] (by decide), ⟨none, 0, rfl, rfl⟩⟩
 | some ad =>
  refine Qc Tryd.func36 rfl Tryd.ntmps36 Tryd.results36 rfl ?_
  intro w F rn S hrn
  have E := Ext.refl w
  have HM := Hp.le_refl M
  refine QE (QA (W_v (.slice none 0 0) (QD rfl) rfl (QB (tn (QE (QE (QA (W_v (.slice (some ad) a0.length c0) (QC rfl) rfl (W_v (.bool false) (XT rfl rfl (run_equal_slice_nil _ _ _ _ _ _ Tryd.underlying36)) rfl (QB (tn (QK rfl (Qk (tn (QE ?_)))))))))))))))
  refine QA ?_
  refine Zt S #[] Tryd.underlying36 ty3 rfl rfl #[] (by as_aux_lemma => kernel_rfl) (by as_aux_lemma => kernel_rfl) rfl ?_
  intro b2 w3 E' S
  replace E := E.trans E'
  replace S := S.blk_row (r := (rInt .i64)) (l := ([] : List Int)) 0 rfl 0 (Nat.le_refl 0) rfl Cells.nil
  refine W_v (.slice (some ad) a0.length c0) (QC rfl) rfl ?_
  obtain ⟨p5, H⟩ := YN H
  obtain ⟨src6, hs7, hC8⟩ := Zx (P := Tryd.prog) (ρ := (rInt .i64)) (l := a0) (SlR.world hr0 S) (by decide)
  refine Yn S 0 rfl rfl rfl Tryd.underlying36 (.inl Tryd.underlying36) ty3 rfl (by decide) (by decide) hs7 hC8 rfl (by omega) rfl ?_
  intro v9 w10 E' S
  replace E := E.trans E'
  obtain ⟨A11, c12, rfl, _⟩ := (S.row_read 0 rfl).form
  refine W_v (.slice A11 (([] : List Int) ++ a0).length c12) (QD rfl) rfl (QB (tn ?_))
  refine QZ ?_
  obtain rfl := Option.some.inj H
  exact ⟨_, _, _, fun w1 e1 => QO (vs := [.slice A11 (([] : List Int) ++ a0).length c12]) (FA.cons (rfl) (FA.nil)), HM, E, S.pick [0] (by decide), ⟨A11, c12, rfl, rfl⟩⟩
theorem clone71 : IsClone Tryd.prog 71 := ⟨_, Tryd.func71, by kernel_rfl, by kernel_rfl, by kernel_rfl, by kernel_rfl⟩
theorem maps_Clone_90.con (M : Hp) (A : Option Addr) (l : List (ZN × Int)) : Con Tryd.prog 55 #[.map (mb A)] M [QY QH (Value.int .i64) A l] (fun v M' Γ' => ∃ b : Nat, v = .map (mb (some ⟨b, 0, none⟩)) ∧ Γ' = [QY QH (Value.int .i64) (some ⟨b, 0, none⟩) l, QY QH (Value.int .i64) A l]) := by
 refine Qc Tryd.func55 rfl Tryd.ntmps55 Tryd.results55 rfl ?_
 intro w F rn S hrn
 have E := Ext.refl w
 have HM := Hp.le_refl M
 obtain ⟨b0, rfl, _⟩ := S.mapC 0 rfl
 refine QE (QA (W_v (.map none) (QD rfl) rfl (QB (tn (QE (QE (QA (W_v (.map (mb (some ⟨b0, 0, none⟩))) (QC rfl) rfl (W_v (.bool false) (VI Tryd.underlying90 rfl rfl) rfl (QB (tn (QK rfl (Qk (tn (QE ?_)))))))))))))))
 refine QA (W_v (.map (mb (some ⟨b0, 0, none⟩))) (QC rfl) rfl (W_v (.iface 90 (.map (mb (some ⟨b0, 0, none⟩)))) (Xx Tryd.underlying90 rfl) rfl ?_))
 refine VC clone71 S 0 rfl rfl rfl ?_
 intro b w1 E' S
 replace E := E.trans E'
 refine W_v (.map (mb (some ⟨b, 0, none⟩))) (VB Tryd.underlying90 rfl) rfl (W_v (.map (mb (some ⟨b, 0, none⟩))) (QD rfl) rfl (QB (tn ?_)))
 refine QZ ?_
 exact ⟨_, _, _, fun w1 e1 => QO (vs := [.map (mb (some ⟨b, 0, none⟩))]) (FA.cons (rfl) (FA.nil)), HM, E, S.pick [0, 1] (by decide), ⟨b, rfl, rfl⟩⟩
theorem maps_Clone_91.con (M : Hp) (A : Option Addr) (l : List (Int × Int)) : Con Tryd.prog 56 #[.map (mb A)] M [QY (Value.int .i64) (Value.int .i64) A l] (fun v M' Γ' => ∃ b : Nat, v = .map (mb (some ⟨b, 0, none⟩)) ∧ Γ' = [QY (Value.int .i64) (Value.int .i64) (some ⟨b, 0, none⟩) l, QY (Value.int .i64) (Value.int .i64) A l]) := by
 refine Qc Tryd.func56 rfl Tryd.ntmps56 Tryd.results56 rfl ?_
 intro w F rn S hrn
 have E := Ext.refl w
 have HM := Hp.le_refl M
 obtain ⟨b0, rfl, _⟩ := S.mapC 0 rfl
 refine QE (QA (W_v (.map none) (QD rfl) rfl (QB (tn (QE (QE (QA (W_v (.map (mb (some ⟨b0, 0, none⟩))) (QC rfl) rfl (W_v (.bool false) (VI Tryd.underlying91 rfl rfl) rfl (QB (tn (QK rfl (Qk (tn (QE ?_)))))))))))))))
 refine QA (W_v (.map (mb (some ⟨b0, 0, none⟩))) (QC rfl) rfl (W_v (.iface 91 (.map (mb (some ⟨b0, 0, none⟩)))) (Xx Tryd.underlying91 rfl) rfl ?_))
 refine VC clone71 S 0 rfl rfl rfl ?_
 intro b w1 E' S
 replace E := E.trans E'
 refine W_v (.map (mb (some ⟨b, 0, none⟩))) (VB Tryd.underlying91 rfl) rfl (W_v (.map (mb (some ⟨b, 0, none⟩))) (QD rfl) rfl (QB (tn ?_)))
 refine QZ ?_
 exact ⟨_, _, _, fun w1 e1 => QO (vs := [.map (mb (some ⟨b, 0, none⟩))]) (FA.cons (rfl) (FA.nil)), HM, E, S.pick [0, 1] (by decide), ⟨b, rfl, rfl⟩⟩
theorem maps_Clone_92.con (M : Hp) (A : Option Addr) (l : List (Str × Value)) : Con Tryd.prog 57 #[.map (mb A)] M [QY encS (fun v : Value => v) A l] (fun v M' Γ' => ∃ b : Nat, v = .map (mb (some ⟨b, 0, none⟩)) ∧ Γ' = [QY encS (fun v : Value => v) (some ⟨b, 0, none⟩) l, QY encS (fun v : Value => v) A l]) := by
 refine Qc Tryd.func57 rfl Tryd.ntmps57 Tryd.results57 rfl ?_
 intro w F rn S hrn
 have E := Ext.refl w
 have HM := Hp.le_refl M
 obtain ⟨b0, rfl, _⟩ := S.mapC 0 rfl
 refine QE (QA (W_v (.map none) (QD rfl) rfl (QB (tn (QE (QE (QA (W_v (.map (mb (some ⟨b0, 0, none⟩))) (QC rfl) rfl (W_v (.bool false) (VI Tryd.underlying92 rfl rfl) rfl (QB (tn (QK rfl (Qk (tn (QE ?_)))))))))))))))
 refine QA (W_v (.map (mb (some ⟨b0, 0, none⟩))) (QC rfl) rfl (W_v (.iface 92 (.map (mb (some ⟨b0, 0, none⟩)))) (Xx Tryd.underlying92 rfl) rfl ?_))
 refine VC clone71 S 0 rfl rfl rfl ?_
 intro b w1 E' S
 replace E := E.trans E'
 refine W_v (.map (mb (some ⟨b, 0, none⟩))) (VB Tryd.underlying92 rfl) rfl (W_v (.map (mb (some ⟨b, 0, none⟩))) (QD rfl) rfl (QB (tn ?_)))
 refine QZ ?_
 exact ⟨_, _, _, fun w1 e1 => QO (vs := [.map (mb (some ⟨b, 0, none⟩))]) (FA.cons (rfl) (FA.nil)), HM, E, S.pick [0, 1] (by decide), ⟨b, rfl, rfl⟩⟩
def Zi (k : Nat) (a0 : List Zm) : Option (List Zm) :=
 if ([] : List Zm).length + a0.length ≤ 8796093022208 then some (([] : List Zm) ++ a0) else none
theorem Zi.mono {k : Nat} {a0 : List Zm} : OLe (Zi k a0) (Zi (k + 1) a0) := by
 unfold Zi
 exact mo
theorem Zi.con (k : Nat) (M : Hp) (A0 : Option Addr) (c0 : Nat) (a0 : (List Zm)) (r : (List Zm)) (hr0 : SlR QP M (.slice A0 a0.length c0) a0) (h : Zi k a0 = some r) : Con Tryd.prog 58 #[.slice A0 a0.length c0] M [] (fun v M' Γ' => ∃ (A0 : Option Addr) (c0 : Nat), v = .slice A0 r.length c0 ∧ Γ' = [Row QP 122 (.slice A0 r.length c0) r]) := by
 have H := h
 unfold Zi at H
 cases A0 with
 | none =>
  obtain ⟨_, H⟩ := YN H
  obtain rfl : a0 = [] := SlW.none_nil hr0
  refine Qc Tryd.func58 rfl Tryd.ntmps58 Tryd.results58 rfl ?_
  intro w F rn S hrn
  have E := Ext.refl w
  have HM := Hp.le_refl M
  refine QE (QA (W_v (.slice none 0 0) (QD rfl) rfl (QB (tn (QE (QE (QA (W_v (.slice none ([] : List Zm).length c0) (QC rfl) rfl (W_v (.bool true) (XT rfl rfl (run_equal_slice_nil _ _ _ _ _ _ Tryd.underlying93)) rfl (QB (tn (QN rfl (QE (QA (W_v (.slice none 0 0) (QD rfl) rfl ?_)))))))))))))))
  refine QB (tn ?_)
  refine QZ ?_
  refine tr (?_)
  obtain rfl := Option.some.inj H
  replace S := S.row_nil QP 122
  exact ⟨_, _, _, fun w1 e1 => QO (vs := [.slice none 0 0]) (FA.cons (rfl) (FA.nil)), HM, E, S.pick [0] (by decide), ⟨none, 0, rfl, rfl⟩⟩
 | some ad =>
  refine Qc Tryd.func58 rfl Tryd.ntmps58 Tryd.results58 rfl ?_
  intro w F rn S hrn
  have E := Ext.refl w
  have HM := Hp.le_refl M
  refine QE (QA (W_v (.slice none 0 0) (QD rfl) rfl (QB (tn (QE (QE (QA (W_v (.slice (some ad) a0.length c0) (QC rfl) rfl (W_v (.bool false) (XT rfl rfl (run_equal_slice_nil _ _ _ _ _ _ Tryd.underlying93)) rfl (QB (tn (QK rfl (Qk (tn (QE ?_)))))))))))))))
  refine QA ?_
  refine Zt S #[] Tryd.underlying93 ty122 rfl rfl #[] (by as_aux_lemma => kernel_rfl) (by as_aux_lemma => kernel_rfl) rfl ?_
  intro b2 w3 E' S
  replace E := E.trans E'
  replace S := S.blk_row (r := QP) (l := ([] : List Zm)) 0 rfl 0 (Nat.le_refl 0) rfl Cells.nil
  refine W_v (.slice (some ad) a0.length c0) (QC rfl) rfl ?_
  obtain ⟨p5, H⟩ := YN H
  obtain ⟨src6, hs7, hC8⟩ := Zx (P := Tryd.prog) (ρ := QP) (l := a0) (SlR.world hr0 S) (by decide)
  refine Yn S 0 rfl rfl rfl Tryd.underlying93 (.inl Tryd.underlying93) ty122 rfl (by decide) (by decide) hs7 hC8 rfl (by omega) rfl ?_
  intro v9 w10 E' S
  replace E := E.trans E'
  obtain ⟨A11, c12, rfl, _⟩ := (S.row_read 0 rfl).form
  refine W_v (.slice A11 (([] : List Zm) ++ a0).length c12) (QD rfl) rfl (QB (tn ?_))
  refine QZ ?_
  obtain rfl := Option.some.inj H
  exact ⟨_, _, _, fun w1 e1 => QO (vs := [.slice A11 (([] : List Zm) ++ a0).length c12]) (FA.cons (rfl) (FA.nil)), HM, E, S.pick [0] (by decide), ⟨A11, c12, rfl, rfl⟩⟩
def Yx (k : Nat) (a0 : Int) (a1 : Int) : Option (Int × Int) :=
 (Option.bind (α := Int) (some (IntKind.u64.wrap ((iand .u64 a0 (4294967295 : Int)) * (iand .u64 a1 (4294967295 : Int))))) (fun x1 => (Option.bind (α := Int) (some (IntKind.u64.wrap ((ishr .u64 a0 (32 : Int)) * (iand .u64 a1 (4294967295 : Int))))) (fun x3 => (Option.bind (α := Int) (some (iand .u64 (IntKind.u64.wrap (x3 + (ishr .u64 x1 (32 : Int)))) (4294967295 : Int))) (fun x5 => (Option.bind (α := Int) (some (ishr .u64 (IntKind.u64.wrap (x3 + (ishr .u64 x1 (32 : Int)))) (32 : Int))) (fun x7 => (Option.bind (α := Int) (some (IntKind.u64.wrap ((iand .u64 a0 (4294967295 : Int)) * (ishr .u64 a1 (32 : Int))))) (fun x9 => (Option.bind (α := Int) (some (IntKind.u64.wrap ((ishr .u64 a0 (32 : Int)) * (ishr .u64 a1 (32 : Int))))) (fun x11 => (Option.bind (α := Int) (some (IntKind.u64.wrap ((IntKind.u64.wrap (x11 + x7)) + (ishr .u64 (IntKind.u64.wrap (x5 + x9)) (32 : Int))))) (fun x13 => some (x13, (IntKind.u64.wrap (a0 * a1)))))))))))))))))
theorem Yx.mono {k : Nat} {a0 : Int} {a1 : Int} : OLe (Yx k a0 a1) (Yx (k + 1) a0 a1) := by
 unfold Yx
 exact mo
theorem Yx.con (k : Nat) (M : Hp) (a0 : Int) (a1 : Int) (r : Int × Int)  (h : Yx k a0 a1 = some r) : Con Tryd.prog 73 #[.int .u64 a0, .int .u64 a1] M [] (fun v M' Γ' => v = .tuple #[.int .u64 r.1, .int .u64 r.2] ∧ Γ' = []) := by
 refine Qc Tryd.func73 rfl Tryd.ntmps73 Tryd.results73 rfl ?_
 intro w F rn S hrn
 have E := Ext.refl w
 have HM := Hp.le_refl M
 have H := h
 unfold Yx at H
 refine QE (QA (W_v (.int .u64 0) (QD rfl) rfl (W_v (.int .u64 0) (QD rfl) rfl (QB (tn (QE (QA (W_v (.int .u64 a0) (QC rfl) rfl (W_v (.int .u64 (iand .u64 a0 (4294967295 : Int))) (JR rfl rfl) rfl (W_v (.int .u64 (iand .u64 a0 (4294967295 : Int))) (QD rfl) rfl (QB (tn (QE (QA (W_v (.int .u64 a0) (QC rfl) rfl ?_)))))))))))))))
 refine W_v (.int .u64 (ishr .u64 a0 (32 : Int))) (UR rfl rfl (by decide)) rfl (W_v (.int .u64 (ishr .u64 a0 (32 : Int))) (QD rfl) rfl (QB (tn (QE (QA (W_v (.int .u64 a1) (QC rfl) rfl (W_v (.int .u64 (iand .u64 a1 (4294967295 : Int))) (JR rfl rfl) rfl (W_v (.int .u64 (iand .u64 a1 (4294967295 : Int))) (QD rfl) rfl (QB (tn (QE (QA (W_v (.int .u64 a1) (QC rfl) rfl (W_v (.int .u64 (ishr .u64 a1 (32 : Int))) (UR rfl rfl (by decide)) rfl (W_v (.int .u64 (ishr .u64 a1 (32 : Int))) (QD rfl) rfl ?_)))))))))))))))
 refine QB (tn (QE (QA (W_v (.int .u64 (iand .u64 a0 (4294967295 : Int))) (QC rfl) rfl (W_v (.int .u64 (iand .u64 a1 (4294967295 : Int))) (QC rfl) rfl ?_)))))
 obtain ⟨x1, he2, H⟩ := QW H
 replace he2 := Option.some.inj he2
 refine W_v (.int .u64 x1) ((by rw [← he2]; exact QV rfl rfl rfl rfl)) rfl (W_v (.int .u64 x1) (QD rfl) rfl (QB (tn (QE (QA (W_v (.int .u64 (ishr .u64 a0 (32 : Int))) (QC rfl) rfl (W_v (.int .u64 (iand .u64 a1 (4294967295 : Int))) (QC rfl) rfl ?_)))))))
 obtain ⟨x3, he4, H⟩ := QW H
 replace he4 := Option.some.inj he4
 refine W_v (.int .u64 x3) ((by rw [← he4]; exact QV rfl rfl rfl rfl)) rfl (W_v (.int .u64 x1) (QC rfl) rfl (W_v (.int .u64 (ishr .u64 x1 (32 : Int))) (UR rfl rfl (by decide)) rfl (W_v (.int .u64 (IntKind.u64.wrap (x3 + (ishr .u64 x1 (32 : Int))))) (QV rfl rfl rfl rfl) rfl (W_v (.int .u64 (IntKind.u64.wrap (x3 + (ishr .u64 x1 (32 : Int))))) (QD rfl) rfl (QB (tn ?_))))))
 as_aux_lemma =>
 refine QE (QA (W_v (.int .u64 (IntKind.u64.wrap (x3 + (ishr .u64 x1 (32 : Int))))) (QC rfl) rfl ?_))
 obtain ⟨x5, he6, H⟩ := QW H
 replace he6 := Option.some.inj he6
 refine W_v (.int .u64 x5) ((by rw [← he6]; exact JR rfl rfl)) rfl (W_v (.int .u64 x5) (QD rfl) rfl (QB (tn (QE (QA (W_v (.int .u64 (IntKind.u64.wrap (x3 + (ishr .u64 x1 (32 : Int))))) (QC rfl) rfl ?_))))))
 obtain ⟨x7, he8, H⟩ := QW H
 replace he8 := Option.some.inj he8
 refine W_v (.int .u64 x7) ((by rw [← he8]; exact UR rfl rfl (by decide))) rfl (W_v (.int .u64 x7) (QD rfl) rfl (QB (tn (QE (QA (W_v (.int .u64 x5) (QC rfl) rfl (W_v (.int .u64 (iand .u64 a0 (4294967295 : Int))) (QC rfl) rfl (W_v (.int .u64 (ishr .u64 a1 (32 : Int))) (QC rfl) rfl ?_))))))))
 obtain ⟨x9, he10, H⟩ := QW H
 replace he10 := Option.some.inj he10
 refine W_v (.int .u64 x9) ((by rw [← he10]; exact QV rfl rfl rfl rfl)) rfl (W_v (.int .u64 (IntKind.u64.wrap (x5 + x9))) (QV rfl rfl rfl rfl) rfl (W_v (.int .u64 (IntKind.u64.wrap (x5 + x9))) (QD rfl) rfl (QB (tn (QE (QA (W_v (.int .u64 (ishr .u64 a0 (32 : Int))) (QC rfl) rfl (W_v (.int .u64 (ishr .u64 a1 (32 : Int))) (QC rfl) rfl ?_))))))))
 obtain ⟨x11, he12, H⟩ := QW H
 replace he12 := Option.some.inj he12
 refine W_v (.int .u64 x11) ((by rw [← he12]; exact QV rfl rfl rfl rfl)) rfl (W_v (.int .u64 x7) (QC rfl) rfl (W_v (.int .u64 (IntKind.u64.wrap (x11 + x7))) (QV rfl rfl rfl rfl) rfl (W_v (.int .u64 (IntKind.u64.wrap (x5 + x9))) (QC rfl) rfl (W_v (.int .u64 (ishr .u64 (IntKind.u64.wrap (x5 + x9)) (32 : Int))) (UR rfl rfl (by decide)) rfl ?_))))
 obtain ⟨x13, he14, H⟩ := QW H
 replace he14 := Option.some.inj he14
 refine W_v (.int .u64 x13) ((by rw [← he14]; exact QV rfl rfl rfl rfl)) rfl (W_v (.int .u64 x13) (QD rfl) rfl (QB (tn ?_)))
 as_aux_lemma =>
 refine QE (QA (W_v (.int .u64 a0) (QC rfl) rfl (W_v (.int .u64 a1) (QC rfl) rfl (W_v (.int .u64 (IntKind.u64.wrap (a0 * a1))) (QV rfl rfl rfl rfl) rfl (W_v (.int .u64 (IntKind.u64.wrap (a0 * a1))) (QD rfl) rfl (QB (tn ?_)))))))
 refine QZ ?_
 obtain rfl := Option.some.inj H
 exact ⟨_, _, _, fun w1 e1 => QO (vs := [.int .u64 x13, .int .u64 (IntKind.u64.wrap (a0 * a1))]) (FA.cons (rfl) (FA.cons (rfl) (FA.nil))), HM, E, S.pick [] (by decide), ⟨rfl, rfl⟩⟩
def Y9 (k : Nat) (a0 : Int) (a1 : Int) : Option (Int × Int) :=
 (Option.bind (Yx k a0 a1) (fun t1 => some (t1.1, t1.2)))
theorem Y9.mono {k : Nat} {a0 : Int} {a1 : Int} : OLe (Y9 k a0 a1) (Y9 (k + 1) a0 a1) := by
 unfold Y9
 have m1 := @Yx.mono
 exact mo
theorem Y9.con (k : Nat) (M : Hp) (a0 : Int) (a1 : Int) (r : Int × Int)  (h : Y9 k a0 a1 = some r) : Con Tryd.prog 59 #[.int .u64 a0, .int .u64 a1] M [] (fun v M' Γ' => v = .tuple #[.int .u64 r.1, .int .u64 r.2] ∧ Γ' = []) := by
 refine Qc Tryd.func59 rfl Tryd.ntmps59 Tryd.results59 rfl ?_
 intro w F rn S hrn
 have E := Ext.refl w
 have HM := Hp.le_refl M
 have H := h
 unfold Y9 at H
 refine QE (QA (W_v (.int .u64 0) (QD rfl) rfl (W_v (.int .u64 0) (QD rfl) rfl (QB (tn (QE (QK rfl (Qk (tn (QE (QA (W_v (.int .u64 a0) (QC rfl) rfl (W_v (.int .u64 a1) (QC rfl) rfl ?_)))))))))))))
 obtain ⟨t1, ht2, H⟩ := QW H
 refine YM fn73 (Yx.con k M a0 a1 t1  ht2) S rfl rfl (by rintro _ _ _ ⟨_, rfl⟩; exact Qd) ?_
 rintro _ w3 _ Γ' E' S ⟨rfl, rfl⟩
 replace E := E.trans E'
 refine W_v (.tuple #[.int .u64 t1.1, .int .u64 t1.2]) (QC rfl) rfl (W_v (.int .u64 t1.1) (QS rfl rfl) rfl (W_v (.int .u64 t1.2) (QS rfl rfl) rfl (W_v (.int .u64 t1.1) (QD rfl) rfl (W_v (.int .u64 t1.2) (QD rfl) rfl (QB (tn (QE (QA (W_v (.int .u64 t1.1) (QC rfl) rfl (W_v (.int .u64 t1.2) (QC rfl) rfl (W_v (.int .u64 t1.1) (QD rfl) rfl (W_v (.int .u64 t1.2) (QD rfl) rfl (QB (tn ?_))))))))))))))
 refine QZ ?_
 obtain rfl := Option.some.inj H
 exact ⟨_, _, _, fun w1 e1 => QO (vs := [.int .u64 t1.1, .int .u64 t1.2]) (FA.cons (rfl) (FA.cons (rfl) (FA.nil))), HM, E, S.pick [] (by decide), ⟨rfl, rfl⟩⟩
def YD : Nat → List Int → Int → Option ((List Int))
 | 0, _, _ => none
 | k + 1, x82, x86 => (if (decide (x86 < (x82.length : Int))) = true then (if 0 ≤ x86 ∧ x86 ≤ (x82.length : Int) then (if 0 ≤ x86 ∧ x86 ≤ (x82.length : Int) then (Option.bind (α := List Int) (some (List.take x86.toNat x82 ++ List.take (min (List.take x86.toNat x82).length (x82.length - x86.toNat)) (List.take x86.toNat x82) ++ List.drop (x86.toNat + (min (List.take x86.toNat x82).length (x82.length - x86.toNat))) x82)) (fun x135 => YD k x135 (IntKind.i64.wrap (x86 + (((min (List.take x86.toNat x82).length (x82.length - x86.toNat)) : Nat) : Int))))) else none) else none) else some (x82))
theorem YD.mono  : ∀ {kl : Nat} {x0 x1}, OLe (YD  kl x0 x1) (YD  (kl + 1) x0 x1) := by
 intro kl
 induction kl with
 | zero => intros; exact OLe.none
 | succ kl ih =>
  intros
  rw [YD.eq_2, YD.eq_2]
  exact mo
def YW (k : Nat) (a0 : (List Int)) (a1 : Int) : Option ((List Int)) :=
 (Option.bind (α := Unit) (if (decide (a1 < (0 : Int))) = true then none else some ()) (fun _ => (Option.bind (Y9 k (IntKind.u64.wrap (a0.length : Int)) (IntKind.u64.wrap a1)) (fun t6 => (Option.bind (α := Unit) (if ((decide (t6.1 > (0 : Int))) || (decide (t6.2 > (9223372036854775807 : Int)))) = true then none else some ()) (fun _ => (if 0 ≤ (IntKind.i64.wrap t6.2) ∧ (IntKind.i64.wrap t6.2) ≤ (IntKind.i64.wrap t6.2) ∧ (IntKind.i64.wrap t6.2) * 8 ≤ 140737488355328 ∧ (IntKind.i64.wrap t6.2) ≤ 9223372036854775807 then (Option.bind (α := List Int) (some (List.take 0 (List.replicate (IntKind.i64.wrap t6.2).toNat (0 : Int)) ++ List.take (min a0.length ((List.replicate (IntKind.i64.wrap t6.2).toNat (0 : Int)).length - 0)) a0 ++ List.drop (0 + (min a0.length ((List.replicate (IntKind.i64.wrap t6.2).toNat (0 : Int)).length - 0))) (List.replicate (IntKind.i64.wrap t6.2).toNat (0 : Int)))) (fun x23 => (Option.bind (YD k x23 (((min a0.length ((List.replicate (IntKind.i64.wrap t6.2).toNat (0 : Int)).length - 0)) : Nat) : Int)) (fun x110 => some x110)))) else none)))))))
theorem YW.mono {k : Nat} {a0 : (List Int)} {a1 : Int} : OLe (YW k a0 a1) (YW (k + 1) a0 a1) := by
 unfold YW
 have m1 := @Y9.mono
 have m2 := @YD.mono
 exact mo
theorem YW.con (k : Nat) (M : Hp) (A0 : Option Addr) (c0 : Nat) (a0 : (List Int)) (a1 : Int) (r : (List Int)) (hr0 : SlR (rInt .i64) M (.slice A0 a0.length c0) a0) (h : YW k a0 a1 = some r) : Con Tryd.prog 38 #[.slice A0 a0.length c0, vI a1] M [] (fun v M' Γ' => ∃ (A0 : Option Addr) (c0 : Nat), v = .slice A0 r.length c0 ∧ Γ' = [Row (rInt .i64) 3 (.slice A0 r.length c0) r]) := by
 refine Qc Tryd.func38 rfl Tryd.ntmps38 Tryd.results38 rfl ?_
 intro w F rn S hrn
 have E := Ext.refl w
 have HM := Hp.le_refl M
 have H := h
 unfold YW at H
 refine QE (QA (W_v (.slice none 0 0) (QD rfl) rfl (QB (tn (QE (QE (QA (W_v (vI a1) (QC rfl) rfl (W_v (.bool (decide (a1 < (0 : Int)))) (QV rfl rfl rfl rfl) rfl (QB (tn ?_)))))))))))
 obtain ⟨o3, o3h, o3H⟩ := QW H
 refine XZ (fun ρ w' => () = o3 ∧ Qn ρ [(0, .slice A0 a0.length c0), (1, vI a1)] ∧ Ext w w' ∧ St w' M F []) ?_ ?_
 ·clear o3H
  have H := o3h
  rcases Zw H with ⟨hb4, H⟩ | ⟨hb4, H⟩
  ·refine QN (congrArg Value.bool hb4) ?_
   cases H
  refine QK (congrArg Value.bool hb4) (Qk (tn ?_))
  exact ⟨Option.some.inj H, ⟨rfl, rfl, trivial⟩, E, S.pick [] (by decide)⟩
 as_aux_lemma =>
 rintro ρ w5 ⟨rfl, hρ, E, S⟩
 rw [QL hρ]
 have H := o3H
 refine tn (QE (QA (W_v (.slice A0 a0.length c0) (QC rfl) rfl (W_v (vI (a0.length : Int)) (ZK (n := a0.length) Tryd.underlying36 rfl) rfl (W_v (.int .u64 (IntKind.u64.wrap (a0.length : Int))) (VJ Tryd.underlying3 Tryd.underlying43 rfl) rfl (W_v (vI a1) (QC rfl) rfl (W_v (.int .u64 (IntKind.u64.wrap a1)) (VJ Tryd.underlying3 Tryd.underlying43 rfl) rfl ?_)))))))
 obtain ⟨t6, ht7, H⟩ := QW H
 refine YM fn59 (Y9.con k M (IntKind.u64.wrap (a0.length : Int)) (IntKind.u64.wrap a1) t6  ht7) S rfl rfl (by rintro _ _ _ ⟨_, rfl⟩; exact Qd) ?_
 rintro _ w8 _ Γ' E' S ⟨rfl, rfl⟩
 replace E := E.trans E'
 refine W_v (.tuple #[.int .u64 t6.1, .int .u64 t6.2]) (QC rfl) rfl (W_v (.int .u64 t6.1) (QS rfl rfl) rfl (W_v (.int .u64 t6.2) (QS rfl rfl) rfl (W_v (.int .u64 t6.1) (QD rfl) rfl (W_v (.int .u64 t6.2) (QD rfl) rfl (QB (tn (QE (QE (QA (W_v (.int .u64 t6.1) (QC rfl) rfl (W_v (.bool (decide (t6.1 > (0 : Int)))) (QV rfl rfl rfl rfl) rfl (W_v (.bool (decide (t6.1 > (0 : Int)))) (QC rfl) rfl ?_))))))))))))
 refine ZC 3 (fun ρ w' => Qn ρ [(0, .slice A0 a0.length c0), (6, .int .u64 t6.2), (26, .bool ((decide (t6.1 > (0 : Int))) || (decide (t6.2 > (9223372036854775807 : Int)))))] ∧ w8 = w') ?_ ?_
 ·rcases Qq (decide (t6.1 > (0 : Int))) with hb9 | hb9
  ·skip
   refine QT (congrArg some hb9) (W_v (.int .u64 t6.2) (QC rfl) rfl (QT (congrArg some hb9) (W_v (.bool (decide (t6.2 > (9223372036854775807 : Int)))) (QV rfl rfl rfl rfl) rfl (W_v (.bool (decide (t6.2 > (9223372036854775807 : Int)))) (QX (k := false) (congrArg Value.bool hb9) rfl) rfl (QB ?_)))))
   exact ⟨⟨rfl, rfl, (by first | rfl | (rw [hb9]; rfl) | (simp only [hb9]; rfl)), trivial⟩, rfl⟩
  ·skip
   refine Qh (skF hb9) rfl (Qh (skF hb9) rfl (W_v (.bool true) (QX (k := true) (congrArg Value.bool hb9) rfl) rfl (QB ?_)))
   exact ⟨⟨rfl, rfl, (by first | rfl | (rw [hb9]; rfl) | (simp only [hb9]; rfl)), trivial⟩, rfl⟩
 as_aux_lemma =>
 rintro ρ _ ⟨hρ, rfl⟩
 rw [QL hρ]
 refine QB (tn ?_)
 obtain ⟨o12, o12h, o12H⟩ := QW H
 refine XZ (fun ρ w' => () = o12 ∧ Qn ρ [(0, .slice A0 a0.length c0), (6, .int .u64 t6.2)] ∧ Ext w w' ∧ St w' M F []) ?_ ?_
 ·clear o12H
  have H := o12h
  rcases Zw H with ⟨hb13, H⟩ | ⟨hb13, H⟩
  ·refine QN (congrArg Value.bool hb13) ?_
   cases H
  refine QK (congrArg Value.bool hb13) (Qk (tn ?_))
  exact ⟨Option.some.inj H, ⟨rfl, rfl, trivial⟩, E, S.pick [] (by decide)⟩
 as_aux_lemma =>
 rintro ρ w14 ⟨rfl, hρ, E, S⟩
 rw [QL hρ]
 have H := o12H
 refine tn (QE (QA (W_v (.int .u64 t6.2) (QC rfl) rfl (W_v (vI (IntKind.i64.wrap t6.2)) (VJ Tryd.underlying43 Tryd.underlying3 rfl) rfl ?_))))
 obtain ⟨⟨p15, p16, p17, p18⟩, H⟩ := YN H
 refine X7 (r := (rInt .i64)) S (0 : Int) Tryd.underlying36 ty3 rfl (by decide) (fun _ => rfl) rfl rfl p15 p16 p17 p18 rfl ?_
 intro b19 w20 E' S
 replace E := E.trans E'
 refine W_v (.slice (some ⟨b19, 0, none⟩) (List.replicate (IntKind.i64.wrap t6.2).toNat (0 : Int)).length ((IntKind.i64.wrap t6.2).toNat)) (QD rfl) rfl (QB (tn (QE (QA (W_v (.slice (some ⟨b19, 0, none⟩) (List.replicate (IntKind.i64.wrap t6.2).toNat (0 : Int)).length ((IntKind.i64.wrap t6.2).toNat)) (QC rfl) rfl (W_v (.slice A0 a0.length c0) (QC rfl) rfl ?_))))))
 obtain ⟨x23, he24, H⟩ := QW H
 replace he24 := Option.some.inj he24
 refine UE (i := 0) S 0 rfl (Nat.zero_le _) Tryd.underlying36 ty3 (by decide) (SlR.world hr0 S) (min a0.length ((List.replicate (IntKind.i64.wrap t6.2).toNat (0 : Int)).length - 0)) rfl he24 rfl (.inr (.inr ⟨rfl, rfl⟩)) rfl rfl ?_
 intro w22 E' S
 replace E := E.trans E'
 have hs25 : Value.slice (some ⟨b19, 0, none⟩) (List.replicate (IntKind.i64.wrap t6.2).toNat (0 : Int)).length ((IntKind.i64.wrap t6.2).toNat) = Value.slice (some ⟨b19, 0, none⟩) x23.length ((IntKind.i64.wrap t6.2).toNat) := by rw [← he24]; congr 1; simp only [List.length_append, List.length_take, List.length_drop]; omega
 try rw [hs25] at S
 try rw [hs25]
 refine W_v (vI (((min a0.length ((List.replicate (IntKind.i64.wrap t6.2).toNat (0 : Int)).length - 0)) : Nat) : Int)) (QD rfl) rfl (QB (tn (QE ?_)))
 obtain ⟨o114, o114h, o114H⟩ := QW H
 refine Ym (fun ρ w' => ∃ (x110 : List Int) (A111 : Option Addr) (c112 : Nat), (x110) = o114 ∧ Qn ρ [(7, .slice A111 x110.length c112)] ∧ Ext w w' ∧ St w' M F [Row (rInt .i64) 3 (.slice A111 x110.length c112) x110]) ?_ ?_
 ·skip
  refine Y6 (fun n ρ w' => ∃ (x82 : List Int) (x86 : Int) (A83 : Option Addr) (c84 : Nat), YD n x82 x86 = some o114 ∧ Qn ρ [(7, .slice A83 x82.length c84), (8, vI x86)] ∧ Ext w w' ∧ St w' M F [Row (rInt .i64) 3 (.slice A83 x82.length c84) x82]) k ?_ ?_
  ·skip
   exact ⟨x23, (((min a0.length ((List.replicate (IntKind.i64.wrap t6.2).toNat (0 : Int)).length - 0)) : Nat) : Int), (some ⟨b19, 0, none⟩), ((IntKind.i64.wrap t6.2).toNat), o114h, ⟨rfl, rfl, trivial⟩, E, S.pick [0] (by decide)⟩
  ·intro n
   rintro ρ w115 ⟨x82, x86, A83, c84, H, hρ, E, S⟩
   rw [QL hρ]
   cases n with
   | zero => cases H
   | succ k =>
    rw [YD.eq_2] at H
    refine QE (QE (QA (W_v (vI x86) (QC rfl) rfl (W_v (.slice A83 x82.length c84) (QC rfl) rfl (W_v (vI (x82.length : Int)) (ZK (n := x82.length) Tryd.underlying36 rfl) rfl (W_v (.bool (decide (x86 < (x82.length : Int)))) (QV rfl rfl rfl rfl) rfl (QB (tn ?_))))))))
    rcases Zw H with ⟨hb116, H⟩ | ⟨hb116, H⟩
    ·refine QN (congrArg Value.bool hb116) ?_
     refine Qk (tn ?_)
     refine YO ?_
     refine Qo (S := fun w' => ∃ Mx, M.le Mx ∧ St w' Mx F []) (L := 10) mixed ?_
     intro w127 hw128 E'
     replace S := S.heap hw128
     replace E := E.trans E'
     have D1 : ∃ Mx, Hp.le M Mx ∧ St _ Mx F [] := ⟨_, Hp.le_refl _, S.pick [] (by decide)⟩
     refine Wt 0 rfl rfl rfl (vI x86) rfl (fun w' h' => QC rfl) D1 (Wt 1 rfl rfl rfl (.slice A83 x82.length c84) rfl (fun w' h' => QC rfl) D1 (Wt 2 rfl rfl rfl (vI x86) rfl (fun w' h' => QC rfl) D1 ?_))
     obtain ⟨⟨p129, p130⟩, H⟩ := YN H
     refine Wt 3 rfl rfl rfl (.slice (if c84 = x86.toNat then A83 else Option.map (fun x => x.add (x86.toNat * 1)) A83) (x82.length - x86.toNat) (c84 - x86.toNat)) rfl (fun w' h' => VH Tryd.underlying36 ty3 rfl rfl p129 (by omega)) D1 (Wt 4 rfl rfl rfl (.slice A83 x82.length c84) rfl (fun w' h' => QC rfl) D1 (Wt 5 rfl rfl rfl (vI x86) rfl (fun w' h' => QC rfl) D1 ?_))
     obtain ⟨⟨p131, p132⟩, H⟩ := YN H
     have hx133 := @Um _ _ _ _ _ _ _ _ _ (S.row_read 0 rfl) p131 p132
     refine Wt 6 rfl rfl rfl (.slice A83 ((List.take x86.toNat x82).length) c84) rfl (fun w' h' => hx133 Tryd.underlying36 ty3 rfl rfl) D1 ?_
     refine Wo 7 rfl ?_
     have hs138 := JV (S.row_read 0 rfl) p131 p132
     obtain ⟨x135, he136, H⟩ := QW H
     replace he136 := Option.some.inj he136
     refine UE (i := x86.toNat) S 0 rfl (by have := p129; have := p130; omega) Tryd.underlying36 ty3 (by decide) hs138 (min (List.take x86.toNat x82).length (x82.length - x86.toNat)) rfl he136 rfl (if h8 : c84 = x86.toNat then .inl (by have h9 := J8 (S.row_read 0 rfl); omega) else .inr (.inl (if_neg h8))) rfl rfl ?_
     intro w134 E' S
     replace E := E.trans E'
     have hs137 : Value.slice A83 x82.length c84 = Value.slice A83 x135.length c84 := by rw [← he136]; congr 1; simp only [List.length_append, List.length_take, List.length_drop]; omega
     try rw [hs137] at S
     try rw [hs137]
     refine QB (Zo ⟨.inr ⟨M, Hp.le_refl M, (S.pick [] (by decide))⟩, ?_⟩)
     have D2 : ∃ Mx, Hp.le M Mx ∧ St _ Mx F [] := ⟨_, Hp.le_refl _, S.pick [] (by decide)⟩
     refine Wt 8 rfl rfl rfl (vI (IntKind.i64.wrap (x86 + (((min (List.take x86.toNat x82).length (x82.length - x86.toNat)) : Nat) : Int)))) rfl (fun w' h' => QV rfl rfl rfl rfl) D2 (Wt 9 rfl rfl rfl (vI (IntKind.i64.wrap (x86 + (((min (List.take x86.toNat x82).length (x82.length - x86.toNat)) : Nat) : Int)))) rfl (fun w' h' => QD rfl) D2 ?_)
     refine Wz ?_
     refine bn (tn ?_)
     exact ⟨k, Nat.lt_succ_self k, ⟨x135, (IntKind.i64.wrap (x86 + (((min (List.take x86.toNat x82).length (x82.length - x86.toNat)) : Nat) : Int))), A83, c84, H, ⟨rfl, rfl, trivial⟩, E, S.pick [0] (by decide)⟩⟩
    refine QK (congrArg Value.bool hb116) ?_
    refine Ys ?_
    refine tx (tx (bsm (?_)))
    refine tn ?_
    exact ⟨x82, A83, c84, Option.some.inj H, ⟨rfl, trivial⟩, E, S.pick [0] (by decide)⟩
 rintro ρ w139 ⟨x110, A111, c112, rfl, hρ, E, S⟩
 rw [QL hρ]
 have H := o114H
 refine tn ?_
 as_aux_lemma =>
 refine QE (QA (W_v (.slice A111 x110.length c112) (QC rfl) rfl (W_v (.slice A111 x110.length c112) (QD rfl) rfl (QB (tn ?_)))))
 refine QZ ?_
 obtain rfl := Option.some.inj H
 exact ⟨_, _, _, fun w1 e1 => QO (vs := [.slice A111 x110.length c112]) (FA.cons (rfl) (FA.nil)), HM, E, S.pick [0] (by decide), ⟨A111, c112, rfl, rfl⟩⟩
def XC (k : Nat) (a0 : Int) : Option ((Unit) ⊕ (Qb)) :=
 (if ((decide (a0 < (1 : Int))) || (decide (a0 > (6 : Int)))) = true then some (Sum.inl ()) else (if 0 ≤ a0 ∧ a0 ≤ a0 ∧ a0 * 16 ≤ 140737488355328 ∧ a0 ≤ 9223372036854775807 then some (Sum.inr (⟨(List.replicate a0.toNat (⟨0, 0⟩ : YP)), ([] : List QF)⟩ : Qb)) else none))
theorem XC.mono {k : Nat} {a0 : Int} : OLe (XC k a0) (XC (k + 1) a0) := by
 unfold XC
 exact mo
theorem XC.con (k : Nat) (M : Hp) (a0 : Int) (r : (Unit) ⊕ (Qb))  (h : XC k a0 = some r) : Con Tryd.prog 54 #[vI a0] M [] (fun v M' Γ' => (Sum.elim (fun x => v = .tuple cz23 ∧ Γ' = []) (fun x => ∃ (bq1 : Nat) (Aq3 : Option Addr) (cq4 : Nat) (Aq6 : Option Addr) (cq7 : Nat), v = .tuple #[pt bq1 0, vI 0] ∧ Γ' = [Blk bq1 (.cells #[.slice Aq3 x.tasks.length cq4, .slice Aq6 x.l.length cq7] 144 (0, 0)), Row Qz 161 (.slice Aq3 x.tasks.length cq4) x.tasks, Row QJ 55 (.slice Aq6 x.l.length cq7) x.l])) r) := by
 refine Qc Tryd.func54 rfl Tryd.ntmps54 Tryd.results54 rfl ?_
 intro w F rn S hrn
 have E := Ext.refl w
 have HM := Hp.le_refl M
 have H := h
 unfold XC at H
 refine QE (QA (W_v (.pointer none) (QD rfl) rfl (W_v (vI 0) (QD rfl) rfl (QB (tn (QE (QE (QA (W_v (vI a0) (QC rfl) rfl (W_v (.bool (decide (a0 < (1 : Int)))) (QV rfl rfl rfl rfl) rfl (W_v (.bool (decide (a0 < (1 : Int)))) (QC rfl) rfl ?_)))))))))))
 refine ZC 3 (fun ρ w' => Qn ρ [(0, vI a0), (9, .bool ((decide (a0 < (1 : Int))) || (decide (a0 > (6 : Int)))))] ∧ w = w') ?_ ?_
 ·rcases Qq (decide (a0 < (1 : Int))) with hb1 | hb1
  ·skip
   refine QT (congrArg some hb1) (W_v (vI a0) (QC rfl) rfl (QT (congrArg some hb1) (W_v (.bool (decide (a0 > (6 : Int)))) (QV rfl rfl rfl rfl) rfl (W_v (.bool (decide (a0 > (6 : Int)))) (QX (k := false) (congrArg Value.bool hb1) rfl) rfl (QB ?_)))))
   exact ⟨⟨rfl, (by first | rfl | (rw [hb1]; rfl) | (simp only [hb1]; rfl)), trivial⟩, rfl⟩
  ·skip
   refine Qh (skF hb1) rfl (Qh (skF hb1) rfl (W_v (.bool true) (QX (k := true) (congrArg Value.bool hb1) rfl) rfl (QB ?_)))
   exact ⟨⟨rfl, (by first | rfl | (rw [hb1]; rfl) | (simp only [hb1]; rfl)), trivial⟩, rfl⟩
 rintro ρ _ ⟨hρ, rfl⟩
 rw [QL hρ]
 refine QB (tn ?_)
 rcases Zw H with ⟨hb2, H⟩ | ⟨hb2, H⟩
 ·refine QN (congrArg Value.bool hb2) ?_
  refine QE (QA (W_v (.pointer none) (QD rfl) rfl (W_v (vI 1) (QD rfl) rfl (QB (tn ?_)))))
  refine QZ ?_
  refine tr (?_)
  obtain rfl := Option.some.inj H
  exact ⟨_, _, _, fun w1 e1 => QO (vs := [.pointer none, vI 1]) (FA.cons (rfl) (FA.cons (rfl) (FA.nil))), HM, E, S.pick [] (by decide), ⟨rfl, rfl⟩⟩
 refine QK (congrArg Value.bool hb2) (Qk (tn ?_))
 as_aux_lemma =>
 refine QE (QA (W_v (vI a0) (QC rfl) rfl ?_))
 obtain ⟨⟨p3, p4, p5, p6⟩, H⟩ := YN H
 refine X7 (r := Qz) S (⟨0, 0⟩ : YP) Tryd.underlying142 ty161 rfl (by decide) (fun _ => rfl) rfl rfl p3 p4 p5 p6 rfl ?_
 intro b7 w8 E' S
 replace E := E.trans E'
 refine W_v (.agg #[.slice (some ⟨b7, 0, none⟩) (List.replicate a0.toNat (⟨0, 0⟩ : YP)).length a0.toNat, .slice none 0 0]) (Qr (pl := [(0, 1), (1, 1)]) #[.slice (some ⟨b7, 0, none⟩) (List.replicate a0.toNat (⟨0, 0⟩ : YP)).length a0.toNat, .slice none 0 0] Tryd.underlying144 ty144 (by as_aux_lemma => kernel_rfl) rfl (by as_aux_lemma => kernel_rfl)) rfl ?_
 refine Yc S #[.slice (some ⟨b7, 0, none⟩) (List.replicate a0.toNat (⟨0, 0⟩ : YP)).length a0.toNat, .slice none 0 0] rfl rfl rfl ?_
 intro b10 w11 E' S
 replace E := E.trans E'
 refine W_v (pt b10 0) (QD rfl) rfl (W_v (vI 0) (QD rfl) rfl (QB (tn ?_)))
 refine QZ ?_
 obtain rfl := Option.some.inj H
 replace S := S.row_nil QJ 55
 exact ⟨_, _, _, fun w1 e1 => QO (vs := [pt b10 0, vI 0]) (FA.cons (rfl) (FA.cons (rfl) (FA.nil))), HM, E, S.pick [1, 2, 0] (by decide), ⟨b10, (some ⟨b7, 0, none⟩), a0.toNat, none, 0, rfl, rfl⟩⟩
def Yo (k : Nat) (a0 : ZB) : Option ((Unit) ⊕ (QM)) :=
 (Option.bind (XF k a0) (fun t4 => (if (!t4) = true then some (Sum.inl ()) else some (Sum.inr (⟨⟨a0.Tasks, a0.Active, a0.Keys, a0.Depth, a0.TS, a0.KeyLen, a0.ValLen, a0.Fan⟩, ([] : List (ZN × Int)), ([] : List (Int × Int)), ([] : List Zm), ([] : List (Str × Q7)), (0 : Int), (0 : Int)⟩ : QM)))))
theorem Yo.mono {k : Nat} {a0 : ZB} : OLe (Yo k a0) (Yo (k + 1) a0) := by
 unfold Yo
 have m1 := @XF.mono
 exact mo
theorem Yo.con (k : Nat) (M : Hp) (a0 : ZB) (r : (Unit) ⊕ (QM))  (h : Yo k a0 = some r) : Con Tryd.prog 13 #[.agg #[vI a0.Tasks, vI a0.Active, vI a0.Keys, vI a0.Depth, vI a0.TS, vI a0.KeyLen, vI a0.ValLen, vI a0.Fan]] M [] (fun v M' Γ' => (Sum.elim (fun x => v = .tuple cz23 ∧ Γ' = []) (fun x => ∃ (bq1 : Nat) (Aq3 : Option Addr) (cq4 : Nat) (Aq6 : Option Addr) (cq7 : Nat) (Aq9 : Option Addr) (cq10 : Nat) (Aq12 : Option Addr) (cq13 : Nat) (vsq15 : List (Str × Value)), v = .tuple #[pt bq1 0, vI 0] ∧ Yb Qm M' x.rows vsq15 ∧ Γ' = [B95 bq1 x Aq3 Aq6 Aq9 cq10 Aq12, QY QH (Value.int .i64) Aq3 x.names, QY (Value.int .i64) (Value.int .i64) Aq6 x.many, Row QP 122 (.slice Aq9 x.txs.length cq10) x.txs, QY encS (fun v : Value => v) Aq12 vsq15])) r) := by
 refine Qc Tryd.func13 rfl Tryd.ntmps13 Tryd.results13 rfl ?_
 intro w F rn S hrn
 have E := Ext.refl w
 have HM := Hp.le_refl M
 have H := h
 unfold Yo at H
 refine QE (QA ?_)
 refine Yc S #[vI a0.Tasks, vI a0.Active, vI a0.Keys, vI a0.Depth, vI a0.TS, vI a0.KeyLen, vI a0.ValLen, vI a0.Fan] rfl rfl rfl ?_
 intro b1 w2 E' S
 replace E := E.trans E'
 refine W_v (.pointer none) (QD rfl) rfl (W_v (vI 0) (QD rfl) rfl (QB (tn (QE (QE (QA (W_v (.agg #[vI a0.Tasks, vI a0.Active, vI a0.Keys, vI a0.Depth, vI a0.TS, vI a0.KeyLen, vI a0.ValLen, vI a0.Fan]) (Qi (S.blk 0 rfl) ty23 rfl (QI rfl) rfl rfl) rfl ?_)))))))
 obtain ⟨t4, ht5, H⟩ := QW H
 refine YM fn45 (XF.con k M a0 t4  ht5) S rfl rfl (by rintro _ _ _ ⟨_, rfl⟩; exact Qd) ?_
 rintro _ w6 _ Γ' E' S ⟨rfl, rfl⟩
 replace E := E.trans E'
 refine W_v (.bool (!t4)) (Yy (b := t4) rfl) rfl (QB (tn ?_))
 rcases Zw H with ⟨hb7, H⟩ | ⟨hb7, H⟩
 ·refine QN (congrArg Value.bool hb7) ?_
  refine QE (QA (W_v (.pointer none) (QD rfl) rfl (W_v (vI 1) (QD rfl) rfl (QB (tn ?_)))))
  refine QZ ?_
  refine tr (?_)
  obtain rfl := Option.some.inj H
  exact ⟨_, _, _, fun w1 e1 => QO (vs := [.pointer none, vI 1]) (FA.cons (rfl) (FA.cons (rfl) (FA.nil))), HM, E, S.pick [] (by decide), ⟨rfl, rfl⟩⟩
 refine QK (congrArg Value.bool hb7) (Qk (tn (QE (QA (W_v (.agg #[vI a0.Tasks, vI a0.Active, vI a0.Keys, vI a0.Depth, vI a0.TS, vI a0.KeyLen, vI a0.ValLen, vI a0.Fan]) (Qi (S.blk 0 rfl) ty23 rfl (QI rfl) rfl rfl) rfl ?_)))))
 refine VZ (κ := ZN) (ν := Int) QH (Value.int .i64) S rfl ?_
 intro b8 w9 E' S
 replace E := E.trans E'
 replace S : St w9 M F [_, _] := S
 refine VZ (κ := Int) (ν := Int) (Value.int .i64) (Value.int .i64) S rfl ?_
 intro b11 w12 E' S
 replace E := E.trans E'
 replace S : St w12 M F [_, _, _] := S
 refine VZ (κ := Str) (ν := Value) encS (fun v : Value => v) S rfl ?_
 intro b14 w15 E' S
 replace E := E.trans E'
 have hm17 : Yb Qm M ([] : List (Str × Q7)) ([] : List (Str × Value)) := Yb.nil
 replace S : St w15 M F [_, _, _, _] := S
 refine W_v (.agg #[vI a0.Tasks, vI a0.Active, vI a0.Keys, vI a0.Depth, vI a0.TS, vI a0.KeyLen, vI a0.ValLen, vI a0.Fan, .map (mb (some ⟨b8, 0, none⟩)), .map (mb (some ⟨b11, 0, none⟩)), .slice none 0 0, .map (mb (some ⟨b14, 0, none⟩)), vI 0, vI 0]) (Qr (pl := [(0, 8), (8, 1), (9, 1), (10, 1), (11, 1), (12, 1), (13, 1)]) #[vI a0.Tasks, vI a0.Active, vI a0.Keys, vI a0.Depth, vI a0.TS, vI a0.KeyLen, vI a0.ValLen, vI a0.Fan, .map (mb (some ⟨b8, 0, none⟩)), .map (mb (some ⟨b11, 0, none⟩)), .slice none 0 0, .map (mb (some ⟨b14, 0, none⟩)), vI 0, vI 0] Tryd.underlying95 ty95 (by as_aux_lemma => kernel_rfl) rfl (by as_aux_lemma => kernel_rfl)) rfl ?_
 refine Yc S #[vI a0.Tasks, vI a0.Active, vI a0.Keys, vI a0.Depth, vI a0.TS, vI a0.KeyLen, vI a0.ValLen, vI a0.Fan, .map (mb (some ⟨b8, 0, none⟩)), .map (mb (some ⟨b11, 0, none⟩)), .slice none 0 0, .map (mb (some ⟨b14, 0, none⟩)), vI 0, vI 0] rfl rfl rfl ?_
 intro b18 w19 E' S
 replace E := E.trans E'
 refine W_v (pt b18 0) (QD rfl) rfl (W_v (vI 0) (QD rfl) rfl (QB (tn ?_)))
 refine QZ ?_
 obtain rfl := Option.some.inj H
 replace S := S.row_nil QP 122
 exact ⟨_, _, _, fun w1 e1 => QO (vs := [pt b18 0, vI 0]) (FA.cons (rfl) (FA.cons (rfl) (FA.nil))), HM, E, S.pick [1, 4, 3, 0, 2] (by decide), ⟨b18, (some ⟨b8, 0, none⟩), 0, (some ⟨b11, 0, none⟩), 0, none, 0, (some ⟨b14, 0, none⟩), 0, ([] : List (Str × Value)), rfl, hm17, rfl⟩⟩
def ZW (k : Nat) (a0 : ZB) (a1 : (List (List QU))) : Option ((Unit) ⊕ (Zn) ⊕ (Zn) ⊕ (Zn) ⊕ (Zn)) :=
 (Option.bind (Yg k a0 a1) (fun t4 => (if (!t4) = true then some (Sum.inl ()) else (Option.bind (XC k a0.Tasks) (fun t8 => (Sum.elim (fun t10 => (Option.bind (Yo k a0) (fun t15 => (Sum.elim (fun t17 => (if 0 ≤ a0.Tasks ∧ a0.Tasks ≤ a0.Tasks ∧ a0.Tasks * 8 ≤ 140737488355328 ∧ a0.Tasks ≤ 9223372036854775807 then some (Sum.inr (Sum.inr (Sum.inr (Sum.inl (⟨a1, (⟨[], []⟩ : Qb), (⟨⟨0, 0, 0, 0, 0, 0, 0, 0⟩, [], [], [], [], 0, 0⟩ : QM), ([] : List Zq), (List.replicate a0.Tasks.toNat (0 : Int))⟩ : Zn))))) else none)) (fun t18 => (if 0 ≤ a0.Tasks ∧ a0.Tasks ≤ a0.Tasks ∧ a0.Tasks * 8 ≤ 140737488355328 ∧ a0.Tasks ≤ 9223372036854775807 then some (Sum.inr (Sum.inr (Sum.inl (⟨a1, (⟨[], []⟩ : Qb), t18, ([] : List Zq), (List.replicate a0.Tasks.toNat (0 : Int))⟩ : Zn)))) else none))) t15))) (fun t11 => (Option.bind (Yo k a0) (fun t74 => (Sum.elim (fun t76 => (if 0 ≤ a0.Tasks ∧ a0.Tasks ≤ a0.Tasks ∧ a0.Tasks * 8 ≤ 140737488355328 ∧ a0.Tasks ≤ 9223372036854775807 then some (Sum.inr (Sum.inr (Sum.inr (Sum.inr (⟨a1, t11, (⟨⟨0, 0, 0, 0, 0, 0, 0, 0⟩, [], [], [], [], 0, 0⟩ : QM), ([] : List Zq), (List.replicate a0.Tasks.toNat (0 : Int))⟩ : Zn))))) else none)) (fun t77 => (if 0 ≤ a0.Tasks ∧ a0.Tasks ≤ a0.Tasks ∧ a0.Tasks * 8 ≤ 140737488355328 ∧ a0.Tasks ≤ 9223372036854775807 then some (Sum.inr (Sum.inl (⟨a1, t11, t77, ([] : List Zq), (List.replicate a0.Tasks.toNat (0 : Int))⟩ : Zn))) else none))) t74)))) t8)))))
theorem ZW.mono {k : Nat} {a0 : ZB} {a1 : (List (List QU))} : OLe (ZW k a0 a1) (ZW (k + 1) a0 a1) := by
 unfold ZW
 have m1 := @XC.mono
 have m2 := @Yo.mono
 have m3 := @Yg.mono
 exact mo
theorem ZW.con (k : Nat) (M : Hp) (a0 : ZB) (A1 : Option Addr) (c1 : Nat) (a1 : (List (List QU))) (r : (Unit) ⊕ (Zn) ⊕ (Zn) ⊕ (Zn) ⊕ (Zn)) (hr1 : SlR (rSl ZT) M (.slice A1 a1.length c1) a1) (h : ZW k a0 a1 = some r) : Con Tryd.prog 27 #[.agg #[vI a0.Tasks, vI a0.Active, vI a0.Keys, vI a0.Depth, vI a0.TS, vI a0.KeyLen, vI a0.ValLen, vI a0.Fan], .slice A1 a1.length c1] M [] (fun v M' Γ' => (Sum.elim (fun x => v = .tuple #[.pointer none, .bool false] ∧ Γ' = []) (Sum.elim (fun x => ∃ (bq1 : Nat) (Aq3 : Option Addr) (cq4 : Nat) (bq6 : Nat) (Aq8 : Option Addr) (cq9 : Nat) (Aq11 : Option Addr) (cq12 : Nat) (bq14 : Nat) (Aq16 : Option Addr) (cq17 : Nat) (Aq19 : Option Addr) (cq20 : Nat) (Aq22 : Option Addr) (cq23 : Nat) (Aq25 : Option Addr) (cq26 : Nat) (vsq28 : List (Str × Value)) (Aq30 : Option Addr) (cq31 : Nat) (Aq33 : Option Addr) (cq34 : Nat), v = .tuple #[pt bq1 0, .bool true] ∧ SlR (rSl ZT) M' (.slice Aq3 x.programs.length cq4) x.programs ∧ Yb Qm M' x.m.rows vsq28 ∧ Γ' = [B107 bq1 x Aq3 cq4 bq6 bq14 Aq30 cq31 Aq33 cq34, Blk bq6 (.cells #[.slice Aq8 x.r.tasks.length cq9, .slice Aq11 x.r.l.length cq12] 144 (0, 0)), Row Qz 161 (.slice Aq8 x.r.tasks.length cq9) x.r.tasks, Row QJ 55 (.slice Aq11 x.r.l.length cq12) x.r.l, B95 bq14 x.m Aq16 Aq19 Aq22 cq23 Aq25, QY QH (Value.int .i64) Aq16 x.m.names, QY (Value.int .i64) (Value.int .i64) Aq19 x.m.many, Row QP 122 (.slice Aq22 x.m.txs.length cq23) x.m.txs, QY encS (fun v : Value => v) Aq25 vsq28, Row ZH 69 (.slice Aq30 x.done.length cq31) x.done, Row (rInt .i64) 3 (.slice Aq33 x.last.length cq34) x.last]) (Sum.elim (fun x => ∃ (bq1 : Nat) (Aq3 : Option Addr) (cq4 : Nat) (bq6 : Nat) (Aq8 : Option Addr) (cq9 : Nat) (Aq11 : Option Addr) (cq12 : Nat) (Aq14 : Option Addr) (cq15 : Nat) (Aq17 : Option Addr) (cq18 : Nat) (vsq20 : List (Str × Value)) (Aq22 : Option Addr) (cq23 : Nat) (Aq25 : Option Addr) (cq26 : Nat), v = .tuple #[pt bq1 0, .bool false] ∧ SlR (rSl ZT) M' (.slice Aq3 x.programs.length cq4) x.programs ∧ Yb Qm M' x.m.rows vsq20 ∧ Γ' = [Blk bq1 (.cells #[.slice Aq3 x.programs.length cq4, .pointer none, pt bq6 0, .slice Aq22 x.done.length cq23, .slice Aq25 x.last.length cq26] 107 (0, 0)), B95 bq6 x.m Aq8 Aq11 Aq14 cq15 Aq17, QY QH (Value.int .i64) Aq8 x.m.names, QY (Value.int .i64) (Value.int .i64) Aq11 x.m.many, Row QP 122 (.slice Aq14 x.m.txs.length cq15) x.m.txs, QY encS (fun v : Value => v) Aq17 vsq20, Row ZH 69 (.slice Aq22 x.done.length cq23) x.done, Row (rInt .i64) 3 (.slice Aq25 x.last.length cq26) x.last]) (Sum.elim (fun x => ∃ (bq1 : Nat) (Aq3 : Option Addr) (cq4 : Nat) (Aq6 : Option Addr) (cq7 : Nat) (Aq9 : Option Addr) (cq10 : Nat), v = .tuple #[pt bq1 0, .bool false] ∧ SlR (rSl ZT) M' (.slice Aq3 x.programs.length cq4) x.programs ∧ Γ' = [Blk bq1 (.cells #[.slice Aq3 x.programs.length cq4, .pointer none, .pointer none, .slice Aq6 x.done.length cq7, .slice Aq9 x.last.length cq10] 107 (0, 0)), Row ZH 69 (.slice Aq6 x.done.length cq7) x.done, Row (rInt .i64) 3 (.slice Aq9 x.last.length cq10) x.last]) (fun x => ∃ (bq1 : Nat) (Aq3 : Option Addr) (cq4 : Nat) (bq6 : Nat) (Aq8 : Option Addr) (cq9 : Nat) (Aq11 : Option Addr) (cq12 : Nat) (Aq14 : Option Addr) (cq15 : Nat) (Aq17 : Option Addr) (cq18 : Nat), v = .tuple #[pt bq1 0, .bool false] ∧ SlR (rSl ZT) M' (.slice Aq3 x.programs.length cq4) x.programs ∧ Γ' = [Blk bq1 (.cells #[.slice Aq3 x.programs.length cq4, pt bq6 0, .pointer none, .slice Aq14 x.done.length cq15, .slice Aq17 x.last.length cq18] 107 (0, 0)), Blk bq6 (.cells #[.slice Aq8 x.r.tasks.length cq9, .slice Aq11 x.r.l.length cq12] 144 (0, 0)), Row Qz 161 (.slice Aq8 x.r.tasks.length cq9) x.r.tasks, Row QJ 55 (.slice Aq11 x.r.l.length cq12) x.r.l, Row ZH 69 (.slice Aq14 x.done.length cq15) x.done, Row (rInt .i64) 3 (.slice Aq17 x.last.length cq18) x.last]))))) r) := by
 refine Qc Tryd.func27 rfl Tryd.ntmps27 Tryd.results27 rfl ?_
 intro w F rn S hrn
 have E := Ext.refl w
 have HM := Hp.le_refl M
 have H := h
 unfold ZW at H
 refine QE (QA ?_)
 refine Yc S #[vI a0.Tasks, vI a0.Active, vI a0.Keys, vI a0.Depth, vI a0.TS, vI a0.KeyLen, vI a0.ValLen, vI a0.Fan] rfl rfl rfl ?_
 intro b1 w2 E' S
 replace E := E.trans E'
 refine W_v (.pointer none) (QD rfl) rfl (W_v (.bool false) (QD rfl) rfl (QB (tn (QE (QE (QA (W_v (.agg #[vI a0.Tasks, vI a0.Active, vI a0.Keys, vI a0.Depth, vI a0.TS, vI a0.KeyLen, vI a0.ValLen, vI a0.Fan]) (Qi (S.blk 0 rfl) ty23 rfl (QI rfl) rfl rfl) rfl (W_v (.slice A1 a1.length c1) (QC rfl) rfl ?_))))))))
 obtain ⟨t4, ht5, H⟩ := QW H
 refine YM fn14 (Yg.con k M a0 A1 c1 a1 t4 hr1 ht5) S rfl rfl (by rintro _ _ _ ⟨_, rfl⟩; exact Qd) ?_
 rintro _ w6 _ Γ' E' S ⟨rfl, rfl⟩
 replace E := E.trans E'
 refine W_v (.bool (!t4)) (Yy (b := t4) rfl) rfl (QB (tn ?_))
 rcases Zw H with ⟨hb7, H⟩ | ⟨hb7, H⟩
 ·refine QN (congrArg Value.bool hb7) ?_
  refine QE (QA (W_v (.pointer none) (QD rfl) rfl (W_v (.bool false) (QD rfl) rfl (QB (tn ?_)))))
  refine QZ ?_
  refine tr (?_)
  obtain rfl := Option.some.inj H
  exact ⟨_, _, _, fun w1 e1 => QO (vs := [.pointer none, .bool false]) (FA.cons (rfl) (FA.cons (rfl) (FA.nil))), HM, E, S.pick [] (by decide), ⟨rfl, rfl⟩⟩
 refine QK (congrArg Value.bool hb7) (Qk (tn (QE (QA (W_v (pt b1 0) (QG (o := 0) (off := 0) Tryd.underlying23 rfl ty3 rfl rfl) rfl (W_v (vI a0.Tasks) (QQ (S.blk 0 rfl) ty3 rfl rfl) rfl ?_))))))
 obtain ⟨t8, ht9, H⟩ := QW H
 rcases t8 with t10 | t11
 ·skip
  replace H := elimL H
  refine Z3 fn54 (XC.con k M a0.Tasks (Sum.inl t10)  ht9) (Γ1 := []) (Γ2 := [_]) S rfl rfl (by rintro _ _ _ ⟨rfl, rfl⟩; exact Qd) ?_
  rintro _ w12 _ Γ' E' S ⟨rfl, rfl⟩
  replace E := E.trans E'
  replace S : St w12 M F [_] := S
  refine W_v (.tuple cz23) (QC rfl) rfl (W_v (.pointer none) (QS rfl rfl) rfl (W_v (vI 1) (QS rfl rfl) rfl (W_v (.pointer none) (QD rfl) rfl (W_v (vI 1) (QD rfl) rfl (QB (tn (QE (QA (W_v (.agg #[vI a0.Tasks, vI a0.Active, vI a0.Keys, vI a0.Depth, vI a0.TS, vI a0.KeyLen, vI a0.ValLen, vI a0.Fan]) (Qi (S.blk 0 rfl) ty23 rfl (QI rfl) rfl rfl) rfl ?_)))))))))
  obtain ⟨t15, ht16, H⟩ := QW H
  rcases t15 with t17 | t18
  ·skip
   replace H := elimL H
   refine Z3 fn13 (Yo.con k M a0 (Sum.inl t17)  ht16) (Γ1 := []) (Γ2 := [_]) S rfl rfl (by rintro _ _ _ ⟨rfl, rfl⟩; exact Qd) ?_
   rintro _ w19 _ Γ' E' S ⟨rfl, rfl⟩
   replace E := E.trans E'
   replace S : St w19 M F [_] := S
   refine W_v (.tuple cz23) (QC rfl) rfl (W_v (.pointer none) (QS rfl rfl) rfl (W_v (vI 1) (QS rfl rfl) rfl (W_v (.pointer none) (QD rfl) rfl (W_v (vI 1) (QD rfl) rfl (QB (tn (QE (QA (W_v (.slice A1 a1.length c1) (QC rfl) rfl (W_v (.pointer none) (QC rfl) rfl (W_v (.pointer none) (QC rfl) rfl (W_v (pt b1 0) (QG (o := 0) (off := 0) Tryd.underlying23 rfl ty3 rfl rfl) rfl (W_v (vI a0.Tasks) (QQ (S.blk 0 rfl) ty3 rfl rfl) rfl ?_)))))))))))))
   obtain ⟨⟨p22, p23, p24, p25⟩, H⟩ := YN H
   refine X7 (r := (rInt .i64)) S (0 : Int) Tryd.underlying36 ty3 rfl (by decide) (fun _ => rfl) rfl rfl p22 p23 p24 p25 rfl ?_
   intro b26 w27 E' S
   replace E := E.trans E'
   refine W_v (.agg #[.slice A1 a1.length c1, .pointer none, .pointer none, .slice none 0 0, .slice (some ⟨b26, 0, none⟩) (List.replicate a0.Tasks.toNat (0 : Int)).length a0.Tasks.toNat]) (Qr (pl := [(0, 1), (1, 1), (2, 1), (3, 1), (4, 1)]) #[.slice A1 a1.length c1, .pointer none, .pointer none, .slice none 0 0, .slice (some ⟨b26, 0, none⟩) (List.replicate a0.Tasks.toNat (0 : Int)).length a0.Tasks.toNat] Tryd.underlying107 ty107 (by as_aux_lemma => kernel_rfl) rfl (by as_aux_lemma => kernel_rfl)) rfl ?_
   refine Yc S #[.slice A1 a1.length c1, .pointer none, .pointer none, .slice none 0 0, .slice (some ⟨b26, 0, none⟩) (List.replicate a0.Tasks.toNat (0 : Int)).length a0.Tasks.toNat] rfl rfl rfl ?_
   intro b29 w30 E' S
   replace E := E.trans E'
   refine W_v (vI 1) (QC rfl) rfl (W_v (.bool false) (QV rfl rfl rfl rfl) rfl (W_v (.bool false) (QC rfl) rfl (Qh (rfl) rfl (Qh (rfl) rfl (W_v (.bool false) (QX (k := false) rfl rfl) rfl (W_v (pt b29 0) (QD rfl) rfl (W_v (.bool false) (QD rfl) rfl (QB (tn ?_)))))))))
   refine QZ ?_
   obtain rfl := Option.some.inj H
   replace S := S.row_nil ZH 69
   exact ⟨_, _, _, fun w1 e1 => QO (vs := [pt b29 0, .bool false]) (FA.cons (rfl) (FA.cons (rfl) (FA.nil))), HM, E, S.pick [1, 0, 2] (by decide), ⟨b29, A1, c1, none, 0, (some ⟨b26, 0, none⟩), a0.Tasks.toNat, rfl, hr1, rfl⟩⟩
  ·skip
   replace H := elimR H
   refine ZU fn13 (Yo.con k M a0 (Sum.inr t18)  ht16) (Γ1 := []) (Γ2 := [_]) S rfl rfl ?_
   rintro _ w49 M50 Γ' hM51 E' S ⟨b33, A35, c36, A38, c39, A41, c42, A44, c45, vs47, rfl, hm48, rfl⟩
   replace HM := Hp.le_trans HM hM51
   replace hr1 := SlR.mono hr1 hM51
   replace E := E.trans E'
   replace S : St w49 M50 F [_, _, _, _, _, _] := S
   refine W_v (.tuple #[pt b33 0, vI 0]) (QC rfl) rfl (W_v (pt b33 0) (QS rfl rfl) rfl (W_v (vI 0) (QS rfl rfl) rfl (W_v (pt b33 0) (QD rfl) rfl (W_v (vI 0) (QD rfl) rfl (QB (tn (QE (QA (W_v (.slice A1 a1.length c1) (QC rfl) rfl (W_v (.pointer none) (QC rfl) rfl (W_v (pt b33 0) (QC rfl) rfl (W_v (pt b1 0) (QG (o := 0) (off := 0) Tryd.underlying23 rfl ty3 rfl rfl) rfl (W_v (vI a0.Tasks) (QQ (S.blk 5 rfl) ty3 rfl rfl) rfl ?_)))))))))))))
   obtain ⟨⟨p52, p53, p54, p55⟩, H⟩ := YN H
   refine X7 (r := (rInt .i64)) S (0 : Int) Tryd.underlying36 ty3 rfl (by decide) (fun _ => rfl) rfl rfl p52 p53 p54 p55 rfl ?_
   intro b56 w57 E' S
   replace E := E.trans E'
   refine W_v (.agg #[.slice A1 a1.length c1, .pointer none, pt b33 0, .slice none 0 0, .slice (some ⟨b56, 0, none⟩) (List.replicate a0.Tasks.toNat (0 : Int)).length a0.Tasks.toNat]) (Qr (pl := [(0, 1), (1, 1), (2, 1), (3, 1), (4, 1)]) #[.slice A1 a1.length c1, .pointer none, pt b33 0, .slice none 0 0, .slice (some ⟨b56, 0, none⟩) (List.replicate a0.Tasks.toNat (0 : Int)).length a0.Tasks.toNat] Tryd.underlying107 ty107 (by as_aux_lemma => kernel_rfl) rfl (by as_aux_lemma => kernel_rfl)) rfl ?_
   refine Yc S #[.slice A1 a1.length c1, .pointer none, pt b33 0, .slice none 0 0, .slice (some ⟨b56, 0, none⟩) (List.replicate a0.Tasks.toNat (0 : Int)).length a0.Tasks.toNat] rfl rfl rfl ?_
   intro b59 w60 E' S
   replace E := E.trans E'
   refine W_v (vI 1) (QC rfl) rfl (W_v (.bool false) (QV rfl rfl rfl rfl) rfl (W_v (.bool false) (QC rfl) rfl (Qh (rfl) rfl (Qh (rfl) rfl (W_v (.bool false) (QX (k := false) rfl rfl) rfl (W_v (pt b59 0) (QD rfl) rfl (W_v (.bool false) (QD rfl) rfl (QB (tn ?_)))))))))
   refine QZ ?_
   obtain rfl := Option.some.inj H
   replace S := S.row_nil ZH 69
   exact ⟨_, _, _, fun w1 e1 => QO (vs := [pt b59 0, .bool false]) (FA.cons (rfl) (FA.cons (rfl) (FA.nil))), HM, E, S.pick [1, 3, 4, 5, 6, 7, 0, 2] (by decide), ⟨b59, A1, c1, b33, A35, c36, A38, c39, A41, c42, A44, c45, vs47, none, 0, (some ⟨b56, 0, none⟩), a0.Tasks.toNat, rfl, hr1, hm48, rfl⟩⟩
 ·skip
  replace H := elimR H
  refine ZU fn54 (XC.con k M a0.Tasks (Sum.inr t11)  ht9) (Γ1 := []) (Γ2 := [_]) S rfl rfl ?_
  rintro _ w71 M72 Γ' hM73 E' S ⟨b63, A65, c66, A68, c69, rfl, rfl⟩
  replace HM := Hp.le_trans HM hM73
  replace hr1 := SlR.mono hr1 hM73
  replace E := E.trans E'
  replace S : St w71 M72 F [_, _, _, _] := S
  refine W_v (.tuple #[pt b63 0, vI 0]) (QC rfl) rfl (W_v (pt b63 0) (QS rfl rfl) rfl (W_v (vI 0) (QS rfl rfl) rfl (W_v (pt b63 0) (QD rfl) rfl (W_v (vI 0) (QD rfl) rfl (QB (tn (QE (QA (W_v (.agg #[vI a0.Tasks, vI a0.Active, vI a0.Keys, vI a0.Depth, vI a0.TS, vI a0.KeyLen, vI a0.ValLen, vI a0.Fan]) (Qi (S.blk 3 rfl) ty23 rfl (QI rfl) rfl rfl) rfl ?_)))))))))
  obtain ⟨t74, ht75, H⟩ := QW H
  rcases t74 with t76 | t77
  ·skip
   replace H := elimL H
   refine Z3 fn13 (Yo.con k M72 a0 (Sum.inl t76)  ht75) (Γ1 := []) (Γ2 := [_, _, _, _]) S rfl rfl (by rintro _ _ _ ⟨rfl, rfl⟩; exact Qd) ?_
   rintro _ w78 _ Γ' E' S ⟨rfl, rfl⟩
   replace E := E.trans E'
   replace S : St w78 M72 F [_, _, _, _] := S
   refine W_v (.tuple cz23) (QC rfl) rfl (W_v (.pointer none) (QS rfl rfl) rfl (W_v (vI 1) (QS rfl rfl) rfl (W_v (.pointer none) (QD rfl) rfl (W_v (vI 1) (QD rfl) rfl (QB (tn (QE (QA (W_v (.slice A1 a1.length c1) (QC rfl) rfl (W_v (pt b63 0) (QC rfl) rfl (W_v (.pointer none) (QC rfl) rfl (W_v (pt b1 0) (QG (o := 0) (off := 0) Tryd.underlying23 rfl ty3 rfl rfl) rfl (W_v (vI a0.Tasks) (QQ (S.blk 3 rfl) ty3 rfl rfl) rfl ?_)))))))))))))
   obtain ⟨⟨p81, p82, p83, p84⟩, H⟩ := YN H
   refine X7 (r := (rInt .i64)) S (0 : Int) Tryd.underlying36 ty3 rfl (by decide) (fun _ => rfl) rfl rfl p81 p82 p83 p84 rfl ?_
   intro b85 w86 E' S
   replace E := E.trans E'
   refine W_v (.agg #[.slice A1 a1.length c1, pt b63 0, .pointer none, .slice none 0 0, .slice (some ⟨b85, 0, none⟩) (List.replicate a0.Tasks.toNat (0 : Int)).length a0.Tasks.toNat]) (Qr (pl := [(0, 1), (1, 1), (2, 1), (3, 1), (4, 1)]) #[.slice A1 a1.length c1, pt b63 0, .pointer none, .slice none 0 0, .slice (some ⟨b85, 0, none⟩) (List.replicate a0.Tasks.toNat (0 : Int)).length a0.Tasks.toNat] Tryd.underlying107 ty107 (by as_aux_lemma => kernel_rfl) rfl (by as_aux_lemma => kernel_rfl)) rfl ?_
   refine Yc S #[.slice A1 a1.length c1, pt b63 0, .pointer none, .slice none 0 0, .slice (some ⟨b85, 0, none⟩) (List.replicate a0.Tasks.toNat (0 : Int)).length a0.Tasks.toNat] rfl rfl rfl ?_
   intro b88 w89 E' S
   replace E := E.trans E'
   refine W_v (vI 0) (QC rfl) rfl (W_v (.bool true) (QV rfl rfl rfl rfl) rfl (W_v (.bool true) (QC rfl) rfl (QT (rfl) (W_v (vI 1) (QC rfl) rfl (QT (rfl) (W_v (.bool false) (QV rfl rfl rfl rfl) rfl (W_v (.bool false) (QX (k := true) rfl rfl) rfl (W_v (pt b88 0) (QD rfl) rfl (W_v (.bool false) (QD rfl) rfl (QB (tn ?_)))))))))))
   refine QZ ?_
   obtain rfl := Option.some.inj H
   replace S := S.row_nil ZH 69
   exact ⟨_, _, _, fun w1 e1 => QO (vs := [pt b88 0, .bool false]) (FA.cons (rfl) (FA.cons (rfl) (FA.nil))), HM, E, S.pick [1, 3, 4, 5, 0, 2] (by decide), ⟨b88, A1, c1, b63, A65, c66, A68, c69, none, 0, (some ⟨b85, 0, none⟩), a0.Tasks.toNat, rfl, hr1, rfl⟩⟩
  ·skip
   replace H := elimR H
   refine ZU fn13 (Yo.con k M72 a0 (Sum.inr t77)  ht75) (Γ1 := []) (Γ2 := [_, _, _, _]) S rfl rfl ?_
   rintro _ w108 M109 Γ' hM110 E' S ⟨b92, A94, c95, A97, c98, A100, c101, A103, c104, vs106, rfl, hm107, rfl⟩
   replace HM := Hp.le_trans HM hM110
   replace hr1 := SlR.mono hr1 hM110
   replace E := E.trans E'
   replace S : St w108 M109 F [_, _, _, _, _, _, _, _, _] := S
   refine W_v (.tuple #[pt b92 0, vI 0]) (QC rfl) rfl (W_v (pt b92 0) (QS rfl rfl) rfl (W_v (vI 0) (QS rfl rfl) rfl (W_v (pt b92 0) (QD rfl) rfl (W_v (vI 0) (QD rfl) rfl (QB (tn (QE (QA (W_v (.slice A1 a1.length c1) (QC rfl) rfl (W_v (pt b63 0) (QC rfl) rfl (W_v (pt b92 0) (QC rfl) rfl (W_v (pt b1 0) (QG (o := 0) (off := 0) Tryd.underlying23 rfl ty3 rfl rfl) rfl (W_v (vI a0.Tasks) (QQ (S.blk 8 rfl) ty3 rfl rfl) rfl ?_)))))))))))))
   obtain ⟨⟨p111, p112, p113, p114⟩, H⟩ := YN H
   refine X7 (r := (rInt .i64)) S (0 : Int) Tryd.underlying36 ty3 rfl (by decide) (fun _ => rfl) rfl rfl p111 p112 p113 p114 rfl ?_
   intro b115 w116 E' S
   replace E := E.trans E'
   refine W_v (.agg #[.slice A1 a1.length c1, pt b63 0, pt b92 0, .slice none 0 0, .slice (some ⟨b115, 0, none⟩) (List.replicate a0.Tasks.toNat (0 : Int)).length a0.Tasks.toNat]) (Qr (pl := [(0, 1), (1, 1), (2, 1), (3, 1), (4, 1)]) #[.slice A1 a1.length c1, pt b63 0, pt b92 0, .slice none 0 0, .slice (some ⟨b115, 0, none⟩) (List.replicate a0.Tasks.toNat (0 : Int)).length a0.Tasks.toNat] Tryd.underlying107 ty107 (by as_aux_lemma => kernel_rfl) rfl (by as_aux_lemma => kernel_rfl)) rfl ?_
   refine Yc S #[.slice A1 a1.length c1, pt b63 0, pt b92 0, .slice none 0 0, .slice (some ⟨b115, 0, none⟩) (List.replicate a0.Tasks.toNat (0 : Int)).length a0.Tasks.toNat] rfl rfl rfl ?_
   intro b118 w119 E' S
   replace E := E.trans E'
   refine W_v (vI 0) (QC rfl) rfl (W_v (.bool true) (QV rfl rfl rfl rfl) rfl (W_v (.bool true) (QC rfl) rfl (QT (rfl) (W_v (vI 0) (QC rfl) rfl (QT (rfl) (W_v (.bool true) (QV rfl rfl rfl rfl) rfl (W_v (.bool true) (QX (k := true) rfl rfl) rfl (W_v (pt b118 0) (QD rfl) rfl (W_v (.bool true) (QD rfl) rfl (QB (tn ?_)))))))))))
   refine QZ ?_
   obtain rfl := Option.some.inj H
   replace S := S.row_nil ZH 69
   exact ⟨_, _, _, fun w1 e1 => QO (vs := [pt b118 0, .bool true]) (FA.cons (rfl) (FA.cons (rfl) (FA.nil))), HM, E, S.pick [1, 8, 9, 10, 3, 4, 5, 6, 7, 0, 2] (by decide), ⟨b118, A1, c1, b63, A65, c66, A68, c69, b92, A94, c95, A97, c98, A100, c101, A103, c104, vs106, none, 0, (some ⟨b115, 0, none⟩), a0.Tasks.toNat, rfl, hr1, hm107, rfl⟩⟩
def Yv (k : Nat) (a0 : QF) : Option (Bool) :=
 some (a0.What == (2 : Int))
theorem Yv.mono {k : Nat} {a0 : QF} : OLe (Yv k a0) (Yv (k + 1) a0) := by
 unfold Yv
 exact mo
theorem Yv.con (k : Nat) (M : Hp) (A0_0 : Option Addr) (c0_0 : Nat) (a0 : QF) (r : Bool) (hr0_0 : SlR Qt M (.slice A0_0 a0.Answer.Pairs.length c0_0) a0.Answer.Pairs) (h : Yv k a0 = some r) : Con Tryd.prog 29 #[.agg #[vU a0.What, vI a0.Task, vI a0.Call, vI a0.Answer.Err, .bool a0.Answer.Found, vS a0.Answer.Value, .slice A0_0 a0.Answer.Pairs.length c0_0]] M [] (fun v M' Γ' => v = .bool r ∧ Γ' = []) := by
 refine Qc Tryd.func29 rfl Tryd.ntmps29 Tryd.results29 rfl ?_
 intro w F rn S hrn
 have E := Ext.refl w
 have HM := Hp.le_refl M
 have H := h
 unfold Yv at H
 refine QE (QA ?_)
 refine Yc S #[vU a0.What, vI a0.Task, vI a0.Call, vI a0.Answer.Err, .bool a0.Answer.Found, vS a0.Answer.Value, .slice A0_0 a0.Answer.Pairs.length c0_0] rfl rfl rfl ?_
 intro b1 w2 E' S
 replace E := E.trans E'
 refine W_v (.bool false) (QD rfl) rfl (QB (tn (QE (QA (W_v (pt b1 0) (QG (o := 0) (off := 0) Tryd.underlying55 rfl ty5 rfl rfl) rfl (W_v (vU a0.What) (QQ (S.blk 0 rfl) ty5 rfl rfl) rfl (W_v (.bool (a0.What == (2 : Int))) (QV rfl rfl rfl rfl) rfl (W_v (.bool (a0.What == (2 : Int))) (QD rfl) rfl (QB (tn ?_))))))))))
 refine QZ ?_
 obtain rfl := Option.some.inj H
 exact ⟨_, _, _, fun w1 e1 => QO (vs := [.bool (a0.What == (2 : Int))]) (FA.cons (rfl) (FA.nil)), HM, E, S.pick [] (by decide), ⟨rfl, rfl⟩⟩
def Q3 (a0 : (List QF)) : Nat → Int → Option ((Int) ⊕ (Unit))
 | 0, _ => none
 | k + 1, x45 => (if (decide (x45 < (a0.length : Int))) = true then (if 0 ≤ x45 ∧ x45 < (a0.length : Int) then (Option.bind (Yv k (rd a0 x45)) (fun t84 => (if t84 = true then some (.inl x45) else Q3 a0 k (IntKind.i64.wrap (x45 + (1 : Int)))))) else none) else some (.inr ()))
theorem Q3.mono {a0 : (List QF)} : ∀ {kl : Nat} {x0}, OLe (Q3 a0 kl x0) (Q3 a0 (kl + 1) x0) := by
 intro kl
 induction kl with
 | zero => intros; exact OLe.none
 | succ kl ih =>
  intros
  rw [Q3.eq_2, Q3.eq_2]
  have m1 := @Yv.mono
  exact mo
def ZD (k : Nat) (a0 : (List QF)) : Option (Int) :=
 (Option.bind (Q3 a0 k (0 : Int)) (fun o67o => Sum.elim (fun r' => some r') (fun _ => some (-1 : Int)) o67o))
theorem ZD.mono {k : Nat} {a0 : (List QF)} : OLe (ZD k a0) (ZD (k + 1) a0) := by
 unfold ZD
 have m1 := @Q3.mono
 exact mo
theorem ZD.con (k : Nat) (M : Hp) (A0 : Option Addr) (c0 : Nat) (a0 : (List QF)) (r : Int) (hr0 : SlR QJ M (.slice A0 a0.length c0) a0) (h : ZD k a0 = some r) : Con Tryd.prog 33 #[.slice A0 a0.length c0, .func (.func 29) #[] #[]] M [] (fun v M' Γ' => v = vI r ∧ Γ' = []) := by
 refine Qc Tryd.func33 rfl Tryd.ntmps33 Tryd.results33 rfl ?_
 intro w F rn S hrn
 have E := Ext.refl w
 have HM := Hp.le_refl M
 have H := h
 unfold ZD at H
 refine QE (QA (W_v (vI 0) (QD rfl) rfl (QB (tn (QE (QE (QA (W_v (.slice A0 a0.length c0) (QC rfl) rfl (W_v (vI (a0.length : Int)) (ZK (n := a0.length) Tryd.underlying25 rfl) rfl (W_v (vI 0) (QC rfl) rfl (QB (tn ?_))))))))))))
 obtain ⟨o67, o67h, o67H⟩ := QW H
 refine Ym (fun ρ w' => .inr () = o67 ∧ Qn ρ [] ∧ Ext w w' ∧ St w' M F []) ?_ ?_
 ·skip
  refine Y6 (fun n ρ w' => ∃ (x45 : Int), Q3 a0 n x45 = some o67 ∧ Qn ρ [(0, .slice A0 a0.length c0), (1, .func (.func 29) #[] #[]), (7, vI (a0.length : Int)), (8, vI x45)] ∧ Ext w w' ∧ St w' M F []) k ?_ ?_
  ·skip
   exact ⟨(0 : Int), o67h, ⟨rfl, rfl, rfl, rfl, trivial⟩, E, S.pick [] (by decide)⟩
  ·intro n
   rintro ρ w68 ⟨x45, H, hρ, E, S⟩
   rw [QL hρ]
   cases n with
   | zero => cases H
   | succ k =>
    rw [Q3.eq_2] at H
    refine QE (QA (W_v (.bool (decide (x45 < (a0.length : Int)))) (QV rfl rfl rfl rfl) rfl (QB (tn (QE ?_)))))
    rcases Zw H with ⟨hb69, H⟩ | ⟨hb69, H⟩
    ·refine QN (congrArg Value.bool hb69) ?_
     refine Qk (tn (QE ?_))
     refine YO ?_
     refine QE (QA (W_v (vI x45) (QC rfl) rfl (W_v (vI x45) (QD rfl) rfl (QB (tn (QE (QA (W_v (.func (.func 29) #[] #[]) (QC rfl) rfl (W_v (.slice A0 a0.length c0) (QC rfl) rfl (W_v (vI x45) (QC rfl) rfl ?_))))))))))
     obtain ⟨⟨p70, p71⟩, H⟩ := YN H
     obtain ⟨b72, o73, cs74, _, _, ee79, hb75, vs76, hR77, hc78⟩ := SlW.at' hr0 p70 p71
     obtain ⟨v83, hs82, rfl⟩ := hR77
     obtain ⟨A80, c81, rfl, _⟩ := hs82.form
     refine W_v (.pointer (some ⟨b72, o73 + x45.toNat * 7, none⟩)) (Q8 Tryd.underlying25 ty55 (slA ee79) rfl p70 p71) rfl (W_v (.agg #[vU ((rd a0 x45).What), vI ((rd a0 x45).Task), vI ((rd a0 x45).Call), vI ((rd a0 x45).Answer.Err), .bool ((rd a0 x45).Answer.Found), vS ((rd a0 x45).Answer.Value), .slice A80 ((rd a0 x45).Answer.Pairs).length c81]) (Qi (S.frz hb75) ty55 rfl (XG hc78 0 rfl) rfl rfl) rfl ?_)
     obtain ⟨t84, ht85, H⟩ := QW H
     refine XP (fs := []) (cap := []) fn29 rfl (Yv.con k M A80 c81 (rd a0 x45) t84 hs82 ht85) (Γ1 := []) (Γ2 := []) S rfl rfl (by rintro _ _ _ ⟨rfl, rfl⟩; exact Qd) ?_
     rintro _ w86 _ Γ' E' S ⟨rfl, rfl⟩
     replace E := E.trans E'
     replace S : St w86 M F [] := S
     refine QB (tn ?_)
     rcases Zw H with ⟨hb89, H⟩ | ⟨hb89, H⟩
     ·refine QN (congrArg Value.bool hb89) ?_
      refine QE (QA (W_v (vI x45) (QC rfl) rfl (W_v (vI x45) (QD rfl) rfl (QB (tn ?_)))))
      refine QZ ?_
      refine br (tr (tr (br (tr (tr (?_))))))
      obtain rfl := Option.some.inj H
      have H := o67H
      replace H := elimL H
      obtain rfl := Option.some.inj H
      exact ⟨_, _, _, fun w1 e1 => QO (vs := [vI x45]) (FA.cons (rfl) (FA.nil)), HM, E, S.pick [] (by decide), ⟨rfl, rfl⟩⟩
     refine QK (congrArg Value.bool hb89) (Qk (bn (tn (QA (W_v (vI (IntKind.i64.wrap (x45 + (1 : Int)))) (QV rfl rfl rfl rfl) rfl (W_v (vI (IntKind.i64.wrap (x45 + (1 : Int)))) (QC rfl) rfl (QB (tn ?_))))))))
     exact ⟨k, Nat.lt_succ_self k, ⟨(IntKind.i64.wrap (x45 + (1 : Int))), H, ⟨rfl, rfl, rfl, rfl, trivial⟩, E, S.pick [] (by decide)⟩⟩
    refine QK (congrArg Value.bool hb69) ?_
    refine Ys ?_
    refine tx (tx (bsm (?_)))
    refine tn ?_
    exact ⟨Option.some.inj H, trivial, E, S.pick [] (by decide)⟩
 rintro ρ w90 ⟨rfl, hρ, E, S⟩
 rw [QL hρ]
 have H := o67H
 replace H := elimR H
 refine tn ?_
 as_aux_lemma =>
 refine QE (QA (W_v (vI (-1)) (QD rfl) rfl (QB (tn ?_))))
 refine QZ ?_
 obtain rfl := Option.some.inj H
 exact ⟨_, _, _, fun w1 e1 => QO (vs := [vI (-1)]) (FA.cons (rfl) (FA.nil)), HM, E, S.pick [] (by decide), ⟨rfl, rfl⟩⟩
def Q6 (k : Nat) (a0 : (List QF)) : Option (Bool) :=
 (Option.bind (ZD k a0) (fun t1 => some (decide (t1 ≥ (0 : Int)))))
theorem Q6.mono {k : Nat} {a0 : (List QF)} : OLe (Q6 k a0) (Q6 (k + 1) a0) := by
 unfold Q6
 have m1 := @ZD.mono
 exact mo
theorem Q6.con (k : Nat) (M : Hp) (A0 : Option Addr) (c0 : Nat) (a0 : (List QF)) (r : Bool) (hr0 : SlR QJ M (.slice A0 a0.length c0) a0) (h : Q6 k a0 = some r) : Con Tryd.prog 28 #[.slice A0 a0.length c0, .func (.func 29) #[] #[]] M [] (fun v M' Γ' => v = .bool r ∧ Γ' = []) := by
 refine Qc Tryd.func28 rfl Tryd.ntmps28 Tryd.results28 rfl ?_
 intro w F rn S hrn
 have E := Ext.refl w
 have HM := Hp.le_refl M
 have H := h
 unfold Q6 at H
 refine QE (QA (W_v (.bool false) (QD rfl) rfl (QB (tn (QE (QA (W_v (.slice A0 a0.length c0) (QC rfl) rfl (W_v (.func (.func 29) #[] #[]) (QC rfl) rfl ?_))))))))
 obtain ⟨t1, ht2, H⟩ := QW H
 refine Z3 fn33 (ZD.con k M A0 c0 a0 t1 hr0 ht2) (Γ1 := []) (Γ2 := []) S rfl rfl (by rintro _ _ _ ⟨rfl, rfl⟩; exact Qd) ?_
 rintro _ w3 _ Γ' E' S ⟨rfl, rfl⟩
 replace E := E.trans E'
 replace S : St w3 M F [] := S
 refine W_v (.bool (decide (t1 ≥ (0 : Int)))) (QV rfl rfl rfl rfl) rfl (W_v (.bool (decide (t1 ≥ (0 : Int)))) (QD rfl) rfl (QB (tn ?_)))
 refine QZ ?_
 obtain rfl := Option.some.inj H
 exact ⟨_, _, _, fun w1 e1 => QO (vs := [.bool (decide (t1 ≥ (0 : Int)))]) (FA.cons (rfl) (FA.nil)), HM, E, S.pick [] (by decide), ⟨rfl, rfl⟩⟩
end Go.Proofs.YtnjbjpaiepefoaaDoor
