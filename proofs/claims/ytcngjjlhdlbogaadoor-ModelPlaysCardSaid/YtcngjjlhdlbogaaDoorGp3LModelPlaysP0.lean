import Derived.Test.YtcngjjlhdlbogaaDoorGp3B
namespace Go.Proofs.YtcngjjlhdlbogaaDoor
open Go
set_option linter.unusedVariables false
set_option linter.unusedSimpArgs false
set_option maxHeartbeats 80000000
set_option maxRecDepth 100000
def Y9 (a0:Qw):Nat→Int→Option ((Bool)⊕(Unit))
 | 0,_=>none
 | k+1,x23=>(if (decide (x23 < (8:Int)))=true then (Option.bind (α:=List XO) (some ([(⟨(a0.Tasks),(1:Int),(6:Int)⟩:XO),(⟨(a0.Active),(1:Int),(8:Int)⟩:XO),(⟨(a0.Keys),(1:Int),(64:Int)⟩:XO),(⟨(a0.Depth),(2:Int),(8:Int)⟩:XO),(⟨(a0.TS),(1:Int),(1048576:Int)⟩:XO),(⟨(a0.KeyLen),(1:Int),(64:Int)⟩:XO),(⟨(a0.ValLen),(0:Int),(256:Int)⟩:XO),(⟨(a0.Fan),(3:Int),(8:Int)⟩:XO)]:List XO)) (fun x38=>(if 0≤x23∧x23 < (8:Int) then (if ((decide ((rd x38 x23).n < (rd x38 x23).low))||(decide ((rd x38 x23).n > (rd x38 x23).high)))=true then some (.inl false) else Y9 a0 k (IntKind.i64.wrap (x23+(1:Int)))) else none))) else some (.inr ()))
theorem Y9.mono {a0:Qw}:∀ {kl:Nat} {x0},OLe (Y9 a0 kl x0) (Y9 a0 (kl+1) x0):=by
 intro kl
 induction kl with
 | zero=>intros;exact OLe.none
 | succ kl ih =>
  intros
  rw [Y9.eq_2,Y9.eq_2]
  exact mo
def XZ (k:Nat) (a0:Qw):Option (Bool) :=
 (Option.bind (Y9 a0 k (0:Int)) (fun o35o=>Sum.elim (fun r'=>some r') (fun _=>some true) o35o))
theorem XZ.mono {k:Nat} {a0:Qw}:OLe (XZ k a0) (XZ (k+1) a0):=by
 unfold XZ
 have m1:=@Y9.mono
 exact mo
theorem XZ.con (k:Nat) (M:Hp) (a0:Qw) (r:Bool)  (h:XZ k a0=some r):Con Tryd.prog 41 #[.agg #[vI a0.Tasks,vI a0.Active,vI a0.Keys,vI a0.Depth,vI a0.TS,vI a0.KeyLen,vI a0.ValLen,vI a0.Fan]] M [] (fun v M' Γ'=>v=.bool r∧Γ'=[]):=by
 refine Qt Tryd.func41 rfl Tryd.ntmps41 Tryd.results41 rfl ?_
 intro w F rn S hrn
 have E:=Ext.refl w
 have HM:=Hp.le_refl M
 have H:=h
 unfold XZ at H
 refine QE (QA ?_)
 refine Y8 S #[vI a0.Tasks,vI a0.Active,vI a0.Keys,vI a0.Depth,vI a0.TS,vI a0.KeyLen,vI a0.ValLen,vI a0.Fan] rfl rfl rfl ?_
 intro b1 w2 E' S
 replace E:=E.trans E'
 refine W_v (.bool false) (QG rfl) rfl (QB (tn (QE (QE (QA (W_v (pt b1 0) (QC (o:=0) (off:=0) Tryd.underlying23 rfl ty3 rfl rfl) rfl (W_v (vI a0.Tasks) (QO (S.blk 0 rfl) ty3 rfl rfl) rfl (W_v (.agg #[vI (a0.Tasks),vI 1,vI 6]) (Z3 (pl:=[(0,1),(1,1),(2,1)]) #[vI (a0.Tasks),vI 1,vI 6] Tryd.underlying135 ty135 (by as_aux_lemma=>kernel_rfl) rfl (by as_aux_lemma=>kernel_rfl)) rfl (W_v (pt b1 1) (QC (o:=0) (off:=1) Tryd.underlying23 rfl ty3 rfl rfl) rfl (W_v (vI a0.Active) (QO (S.blk 0 rfl) ty3 rfl rfl) rfl (W_v (.agg #[vI (a0.Active),vI 1,vI 8]) (Z3 (pl:=[(0,1),(1,1),(2,1)]) #[vI (a0.Active),vI 1,vI 8] Tryd.underlying135 ty135 (by as_aux_lemma=>kernel_rfl) rfl (by as_aux_lemma=>kernel_rfl)) rfl (W_v (pt b1 2) (QC (o:=0) (off:=2) Tryd.underlying23 rfl ty3 rfl rfl) rfl (W_v (vI a0.Keys) (QO (S.blk 0 rfl) ty3 rfl rfl) rfl (W_v (.agg #[vI (a0.Keys),vI 1,vI 64]) (Z3 (pl:=[(0,1),(1,1),(2,1)]) #[vI (a0.Keys),vI 1,vI 64] Tryd.underlying135 ty135 (by as_aux_lemma=>kernel_rfl) rfl (by as_aux_lemma=>kernel_rfl)) rfl (W_v (pt b1 3) (QC (o:=0) (off:=3) Tryd.underlying23 rfl ty3 rfl rfl) rfl ?_)))))))))))))))
 refine W_v (vI a0.Depth) (QO (S.blk 0 rfl) ty3 rfl rfl) rfl (W_v (.agg #[vI (a0.Depth),vI 2,vI 8]) (Z3 (pl:=[(0,1),(1,1),(2,1)]) #[vI (a0.Depth),vI 2,vI 8] Tryd.underlying135 ty135 (by as_aux_lemma=>kernel_rfl) rfl (by as_aux_lemma=>kernel_rfl)) rfl (W_v (pt b1 4) (QC (o:=0) (off:=4) Tryd.underlying23 rfl ty3 rfl rfl) rfl (W_v (vI a0.TS) (QO (S.blk 0 rfl) ty3 rfl rfl) rfl (W_v (.agg #[vI (a0.TS),vI 1,vI 1048576]) (Z3 (pl:=[(0,1),(1,1),(2,1)]) #[vI (a0.TS),vI 1,vI 1048576] Tryd.underlying135 ty135 (by as_aux_lemma=>kernel_rfl) rfl (by as_aux_lemma=>kernel_rfl)) rfl (W_v (pt b1 5) (QC (o:=0) (off:=5) Tryd.underlying23 rfl ty3 rfl rfl) rfl (W_v (vI a0.KeyLen) (QO (S.blk 0 rfl) ty3 rfl rfl) rfl (W_v (.agg #[vI (a0.KeyLen),vI 1,vI 64]) (Z3 (pl:=[(0,1),(1,1),(2,1)]) #[vI (a0.KeyLen),vI 1,vI 64] Tryd.underlying135 ty135 (by as_aux_lemma=>kernel_rfl) rfl (by as_aux_lemma=>kernel_rfl)) rfl (W_v (pt b1 6) (QC (o:=0) (off:=6) Tryd.underlying23 rfl ty3 rfl rfl) rfl (W_v (vI a0.ValLen) (QO (S.blk 0 rfl) ty3 rfl rfl) rfl (W_v (.agg #[vI (a0.ValLen),vI 0,vI 256]) (Z3 (pl:=[(0,1),(1,1),(2,1)]) #[vI (a0.ValLen),vI 0,vI 256] Tryd.underlying135 ty135 (by as_aux_lemma=>kernel_rfl) rfl (by as_aux_lemma=>kernel_rfl)) rfl (W_v (pt b1 7) (QC (o:=0) (off:=7) Tryd.underlying23 rfl ty3 rfl rfl) rfl (W_v (vI a0.Fan) (QO (S.blk 0 rfl) ty3 rfl rfl) rfl (W_v (.agg #[vI (a0.Fan),vI 3,vI 8]) (Z3 (pl:=[(0,1),(1,1),(2,1)]) #[vI (a0.Fan),vI 3,vI 8] Tryd.underlying135 ty135 (by as_aux_lemma=>kernel_rfl) rfl (by as_aux_lemma=>kernel_rfl)) rfl (W_v (.agg #[vI (a0.Tasks),vI 1,vI 6,vI (a0.Active),vI 1,vI 8,vI (a0.Keys),vI 1,vI 64,vI (a0.Depth),vI 2,vI 8,vI (a0.TS),vI 1,vI 1048576,vI (a0.KeyLen),vI 1,vI 64,vI (a0.ValLen),vI 0,vI 256,vI (a0.Fan),vI 3,vI 8]) (Ja #[vI (a0.Tasks),vI 1,vI 6,vI (a0.Active),vI 1,vI 8,vI (a0.Keys),vI 1,vI 64,vI (a0.Depth),vI 2,vI 8,vI (a0.TS),vI 1,vI 1048576,vI (a0.KeyLen),vI 1,vI 64,vI (a0.ValLen),vI 0,vI 256,vI (a0.Fan),vI 3,vI 8] Tryd.underlying136 ty136 ty135 rfl (by kernel_rfl)) rfl (W_v (vI 0) (QD rfl) rfl ?_)))))))))))))))
 refine QB (tn ?_)
 obtain ⟨o35,o35h,o35H⟩:=QW H
 refine Yj (fun ρ w'=>.inr ()=o35∧Qi ρ []∧Ext w w'∧St w' M F []) ?_ ?_
 ·skip
  refine Y3 (fun n ρ w'=>∃ (x23:Int),Y9 a0 n x23=some o35∧Qi ρ [(29,.agg #[vI (a0.Tasks),vI 1,vI 6,vI (a0.Active),vI 1,vI 8,vI (a0.Keys),vI 1,vI 64,vI (a0.Depth),vI 2,vI 8,vI (a0.TS),vI 1,vI 1048576,vI (a0.KeyLen),vI 1,vI 64,vI (a0.ValLen),vI 0,vI 256,vI (a0.Fan),vI 3,vI 8]),(30,vI x23)]∧Ext w w'∧St w' M F []) k ?_ ?_
  ·skip
   exact ⟨(0:Int),o35h,⟨rfl,rfl,trivial⟩,E,S.pick [] (by decide)⟩
  ·intro n
   rintro ρ w36 ⟨x23,H,hρ,E,S⟩
   rw [QI hρ]
   cases n with
   | zero=>cases H
   | succ k =>
    rw [Y9.eq_2] at H
    refine QE (QA (W_v (.bool (decide (x23 < (8:Int)))) (Qa rfl rfl rfl rfl) rfl (QB (tn (QE ?_)))))
    rcases Zf H with ⟨hb37,H⟩ | ⟨hb37,H⟩
    ·refine QQ (congrArg Value.bool hb37) ?_
     refine Qr (tn (QE ?_))
     refine YP ?_
     refine QE (QA ?_)
     obtain ⟨x38,he39,H⟩:=QW H
     replace he39:=Option.some.inj he39
     obtain ⟨⟨p40,p41⟩,H⟩:=Yy H
     refine W_v (.agg #[vI ((rd x38 x23).n),vI ((rd x38 x23).low),vI ((rd x38 x23).high)]) ((by rw [← he39];exact JZ Tryd.underlying136 ty135 rfl rfl p40 p41 (by obtain ⟨q,hq⟩:=Int.eq_ofNat_of_zero_le p40;have h9:q=0∨q=1∨q=2∨q=3∨q=4∨q=5∨q=6∨q=7:=(by omega);rcases h9 with rfl | rfl | rfl | rfl | rfl | rfl | rfl | rfl <;> (rw [hq] <;> rfl)))) rfl ?_
     refine Zo S #[vI 0,vI 0,vI 0] ty135 rfl rfl ?_
     intro b42 w43 E' S
     replace E:=E.trans E'
     refine Qx S 0 rfl ty135 rfl rfl [vI ((rd x38 x23).n),vI ((rd x38 x23).low),vI ((rd x38 x23).high)] rfl rfl rfl #[vI ((rd x38 x23).n),vI ((rd x38 x23).low),vI ((rd x38 x23).high)] rfl rfl ?_
     intro w45 E' S
     replace E:=E.trans E'
     refine QB (tn (QE (QA (W_v (pt b42 0) (QC (o:=0) (off:=0) Tryd.underlying135 rfl ty3 rfl rfl) rfl (W_v (vI ((rd x38 x23).n)) (QO (S.blk 0 rfl) ty3 rfl rfl) rfl (W_v (pt b42 1) (QC (o:=0) (off:=1) Tryd.underlying135 rfl ty3 rfl rfl) rfl (W_v (vI ((rd x38 x23).low)) (QO (S.blk 0 rfl) ty3 rfl rfl) rfl (W_v (.bool (decide ((rd x38 x23).n < (rd x38 x23).low))) (Qa rfl rfl rfl rfl) rfl (W_v (.bool (decide ((rd x38 x23).n < (rd x38 x23).low))) (QD rfl) rfl ?_)))))))))
     refine ZH 6 (fun ρ w'=>Qi ρ [(29,.agg #[vI (a0.Tasks),vI 1,vI 6,vI (a0.Active),vI 1,vI 8,vI (a0.Keys),vI 1,vI 64,vI (a0.Depth),vI 2,vI 8,vI (a0.TS),vI 1,vI 1048576,vI (a0.KeyLen),vI 1,vI 64,vI (a0.ValLen),vI 0,vI 256,vI (a0.Fan),vI 3,vI 8]),(30,vI x23),(44,.bool ((decide ((rd x38 x23).n < (rd x38 x23).low))||(decide ((rd x38 x23).n > (rd x38 x23).high))))]∧w45=w') ?_ ?_
     ·rcases ZX (decide ((rd x38 x23).n < (rd x38 x23).low)) with hb46 | hb46
      ·skip
       refine QP (congrArg some hb46) (W_v (pt b42 0) (QC (o:=0) (off:=0) Tryd.underlying135 rfl ty3 rfl rfl) rfl (QP (congrArg some hb46) (W_v (vI ((rd x38 x23).n)) (QO (S.blk 0 rfl) ty3 rfl rfl) rfl (QP (congrArg some hb46) (W_v (pt b42 2) (QC (o:=0) (off:=2) Tryd.underlying135 rfl ty3 rfl rfl) rfl (QP (congrArg some hb46) (W_v (vI ((rd x38 x23).high)) (QO (S.blk 0 rfl) ty3 rfl rfl) rfl (QP (congrArg some hb46) (W_v (.bool (decide ((rd x38 x23).n > (rd x38 x23).high))) (Qa rfl rfl rfl rfl) rfl (W_v (.bool (decide ((rd x38 x23).n > (rd x38 x23).high))) (QV (k:=false) (congrArg Value.bool hb46) rfl) rfl (QB ?_)))))))))))
       exact ⟨⟨rfl,rfl,(by first | rfl | (rw [hb46];rfl) | (simp only [hb46];rfl)),trivial⟩,rfl⟩
      ·skip
       refine QZ (skF hb46) rfl (QZ (skF hb46) rfl (QZ (skF hb46) rfl (QZ (skF hb46) rfl (QZ (skF hb46) rfl (W_v (.bool true) (QV (k:=true) (congrArg Value.bool hb46) rfl) rfl (QB ?_))))))
       exact ⟨⟨rfl,rfl,(by first | rfl | (rw [hb46];rfl) | (simp only [hb46];rfl)),trivial⟩,rfl⟩
     rintro ρ _ ⟨hρ,rfl⟩
     rw [QI hρ]
     refine QB (tn ?_)
     rcases Zf H with ⟨hb47,H⟩ | ⟨hb47,H⟩
     ·refine QQ (congrArg Value.bool hb47) ?_
      refine QE (QA (W_v (.bool false) (QG rfl) rfl (QB (tn ?_))))
      refine Qs ?_
      refine br (tr (tr (br (tr (tr (?_))))))
      obtain rfl:=Option.some.inj H
      have H:=o35H
      replace H:=elimL H
      obtain rfl:=Option.some.inj H
      exact ⟨_,_,_,fun w1 e1=>QX (vs:=[.bool false]) (FA.cons (rfl) (FA.nil)),HM,E,S.pick [] (by decide),⟨rfl,rfl⟩⟩
     refine QK (congrArg Value.bool hb47) (Qr (bn (tn (QA (W_v (vI (IntKind.i64.wrap (x23+(1:Int)))) (Qa rfl rfl rfl rfl) rfl (W_v (vI (IntKind.i64.wrap (x23+(1:Int)))) (QD rfl) rfl (QB (tn ?_))))))))
     exact ⟨k,Nat.lt_succ_self k,⟨(IntKind.i64.wrap (x23+(1:Int))),H,⟨rfl,rfl,trivial⟩,E,S.pick [] (by decide)⟩⟩
    refine QK (congrArg Value.bool hb37) ?_
    refine Y0 ?_
    refine tx (tx (bsm (?_)))
    refine tn ?_
    exact ⟨Option.some.inj H,trivial,E,S.pick [] (by decide)⟩
 rintro ρ w48 ⟨rfl,hρ,E,S⟩
 rw [QI hρ]
 have H:=o35H
 replace H:=elimR H
 refine tn ?_
 as_aux_lemma =>
 refine QE (QA (W_v (.bool true) (QG rfl) rfl (QB (tn ?_))))
 refine Qs ?_
 obtain rfl:=Option.some.inj H
 exact ⟨_,_,_,fun w1 e1=>QX (vs:=[.bool true]) (FA.cons (rfl) (FA.nil)),HM,E,S.pick [] (by decide),⟨rfl,rfl⟩⟩
def Qz (k:Nat) (a0:List QS):Option (List QS) :=
 if ([]:List QS).length+a0.length≤3518437208883 then some (([]:List QS)++a0) else none
theorem Qz.mono {k:Nat} {a0:List QS}:OLe (Qz k a0) (Qz (k+1) a0):=by
 unfold Qz
 exact mo
theorem Qz.con (k:Nat) (M:Hp) (A0:Option Addr) (c0:Nat) (a0:(List QS)) (r:(List QS)) (hr0:SlR Q4 M (.slice A0 a0.length c0) a0) (h:Qz k a0=some r):Con Tryd.prog 45 #[.slice A0 a0.length c0] M [] (fun v M' Γ'=>∃ (A0:Option Addr) (c0:Nat),v=.slice A0 r.length c0∧Γ'=[Row Q4 61 (.slice A0 r.length c0) r]):=by
 have H:=h
 unfold Qz at H
 cases A0 with
 | none =>
  obtain ⟨_,H⟩:=Yy H
  obtain rfl:a0=[]:=SlW.none_nil hr0
  refine Qt Tryd.func45 rfl Tryd.ntmps45 Tryd.results45 rfl ?_
  intro w F rn S hrn
  have E:=Ext.refl w
  have HM:=Hp.le_refl M
  refine QE (QA (W_v (.slice none 0 0) (QG rfl) rfl (QB (tn (QE (QE (QA (W_v (.slice none ([]:List QS).length c0) (QD rfl) rfl (W_v (.bool true) (Xe rfl rfl (run_equal_slice_nil _ _ _ _ _ _ Tryd.underlying65)) rfl (QB (tn (QQ rfl (QE (QA (W_v (.slice none 0 0) (QG rfl) rfl ?_)))))))))))))))
  refine QB (tn ?_)
  refine Qs ?_
  refine tr (?_)
  obtain rfl:=Option.some.inj H
  replace S:=S.row_nil Q4 61
  exact ⟨_,_,_,fun w1 e1=>QX (vs:=[.slice none 0 0]) (FA.cons (rfl) (FA.nil)),HM,E,S.pick [0] (by decide),⟨none,0,rfl,rfl⟩⟩
 | some ad =>
  refine Qt Tryd.func45 rfl Tryd.ntmps45 Tryd.results45 rfl ?_
  intro w F rn S hrn
  have E:=Ext.refl w
  have HM:=Hp.le_refl M
  refine QE (QA (W_v (.slice none 0 0) (QG rfl) rfl (QB (tn (QE (QE (QA (W_v (.slice (some ad) a0.length c0) (QD rfl) rfl (W_v (.bool false) (Xe rfl rfl (run_equal_slice_nil _ _ _ _ _ _ Tryd.underlying65)) rfl (QB (tn (QK rfl (Qr (tn (QE ?_)))))))))))))))
  refine QA ?_
  refine XE S #[] Tryd.underlying65 ty61 rfl rfl #[] (by as_aux_lemma=>kernel_rfl) (by as_aux_lemma=>kernel_rfl) rfl ?_
  intro b2 w3 E' S
  replace E:=E.trans E'
  replace S:=S.blk_row (r:=Q4) (l:=([]:List QS)) 0 rfl 0 (Nat.le_refl 0) rfl Cells.nil
  refine W_v (.slice (some ad) a0.length c0) (QD rfl) rfl ?_
  obtain ⟨p5,H⟩:=Yy H
  obtain ⟨src6,hs7,hC8⟩:=Y1 (P:=Tryd.prog) (ρ:=Q4) (l:=a0) (SlR.world hr0 S) (by decide)
  refine XL S 0 rfl rfl rfl Tryd.underlying65 (.inl Tryd.underlying65) ty61 rfl (by decide) (by decide) hs7 hC8 rfl (by omega) rfl ?_
  intro v9 w10 E' S
  replace E:=E.trans E'
  obtain ⟨A11,c12,rfl,_⟩:=(S.row_read 0 rfl).form
  refine W_v (.slice A11 (([]:List QS)++a0).length c12) (QG rfl) rfl (QB (tn ?_))
  refine Qs ?_
  obtain rfl:=Option.some.inj H
  exact ⟨_,_,_,fun w1 e1=>QX (vs:=[.slice A11 (([]:List QS)++a0).length c12]) (FA.cons (rfl) (FA.nil)),HM,E,S.pick [0] (by decide),⟨A11,c12,rfl,rfl⟩⟩
def YJ (k:Nat) (a0:Str) (a1:Str):Option (Int) :=
 some (Lib.compareBytes a0 a1)
theorem YJ.mono {k:Nat} {a0:Str} {a1:Str}:OLe (YJ k a0 a1) (YJ (k+1) a0 a1):=by
 unfold YJ
 exact mo
theorem YJ.con (k:Nat) (M:Hp) (a0:Str) (a1:Str) (r:Int)  (h:YJ k a0 a1=some r):Con Tryd.prog 87 #[vS a0,vS a1] M [] (fun v M' Γ'=>v=vI r∧Γ'=[]):=by
 refine Qt Tryd.func87 rfl Tryd.ntmps87 Tryd.results87 rfl ?_
 intro w F rn S hrn
 have E:=Ext.refl w
 have HM:=Hp.le_refl M
 have H:=h
 unfold YJ at H
 refine QE (QA (W_v (vI 0) (QG rfl) rfl (QB (tn (QE (QA (W_v (vS a0) (QD rfl) rfl (W_v (vS a1) (QD rfl) rfl (W_v (vI (Lib.compareBytes a0 a1)) (x_cmp cmp100 rfl rfl) rfl (W_v (vI (Lib.compareBytes a0 a1)) (QG rfl) rfl (QB (tn ?_))))))))))))
 refine Qs ?_
 obtain rfl:=Option.some.inj H
 exact ⟨_,_,_,fun w1 e1=>QX (vs:=[vI (Lib.compareBytes a0 a1)]) (FA.cons (rfl) (FA.nil)),HM,E,S.pick [] (by decide),⟨rfl,rfl⟩⟩
def XC (k:Nat) (a0:Str) (a1:Str):Option (Int) :=
 (Option.bind (YJ k a0 a1) (fun t1=>some t1))
theorem XC.mono {k:Nat} {a0:Str} {a1:Str}:OLe (XC k a0 a1) (XC (k+1) a0 a1):=by
 unfold XC
 have m1:=@YJ.mono
 exact mo
theorem XC.con (k:Nat) (M:Hp) (a0:Str) (a1:Str) (r:Int)  (h:XC k a0 a1=some r):Con Tryd.prog 76 #[vS a0,vS a1] M [] (fun v M' Γ'=>v=vI r∧Γ'=[]):=by
 refine Qt Tryd.func76 rfl Tryd.ntmps76 Tryd.results76 rfl ?_
 intro w F rn S hrn
 have E:=Ext.refl w
 have HM:=Hp.le_refl M
 have H:=h
 unfold XC at H
 refine QE (QA (W_v (vI 0) (QG rfl) rfl (QB (tn (QE (QA (W_v (vS a0) (QD rfl) rfl (W_v (vS a1) (QD rfl) rfl ?_))))))))
 obtain ⟨t1,ht2,H⟩:=QW H
 refine Zz fn87 (YJ.con k M a0 a1 t1  ht2) S rfl rfl (by rintro _ _ _ ⟨_,rfl⟩;exact Qd) ?_
 rintro _ w3 _ Γ' E' S ⟨rfl,rfl⟩
 replace E:=E.trans E'
 refine W_v (vI t1) (QG rfl) rfl (QB (tn ?_))
 refine Qs ?_
 obtain rfl:=Option.some.inj H
 exact ⟨_,_,_,fun w1 e1=>QX (vs:=[vI t1]) (FA.cons (rfl) (FA.nil)),HM,E,S.pick [] (by decide),⟨rfl,rfl⟩⟩
def Xc (k:Nat) (a0:Str) (a1:Str):Option (Int) :=
 (Option.bind (XC k a0 a1) (fun t1=>some t1))
theorem Xc.mono {k:Nat} {a0:Str} {a1:Str}:OLe (Xc k a0 a1) (Xc (k+1) a0 a1):=by
 unfold Xc
 have m1:=@XC.mono
 exact mo
theorem Xc.con (k:Nat) (M:Hp) (a0:Str) (a1:Str) (r:Int)  (h:Xc k a0 a1=some r):Con Tryd.prog 48 #[vS a0,vS a1] M [] (fun v M' Γ'=>v=vI r∧Γ'=[]):=by
 refine Qt Tryd.func48 rfl Tryd.ntmps48 Tryd.results48 rfl ?_
 intro w F rn S hrn
 have E:=Ext.refl w
 have HM:=Hp.le_refl M
 have H:=h
 unfold Xc at H
 refine QE (QA (W_v (vI 0) (QG rfl) rfl (QB (tn (QE (QA (W_v (vS a0) (QD rfl) rfl (W_v (vS a1) (QD rfl) rfl ?_))))))))
 obtain ⟨t1,ht2,H⟩:=QW H
 refine Zz fn76 (XC.con k M a0 a1 t1  ht2) S rfl rfl (by rintro _ _ _ ⟨_,rfl⟩;exact Qd) ?_
 rintro _ w3 _ Γ' E' S ⟨rfl,rfl⟩
 replace E:=E.trans E'
 refine W_v (vI t1) (QG rfl) rfl (QB (tn ?_))
 refine Qs ?_
 obtain rfl:=Option.some.inj H
 exact ⟨_,_,_,fun w1 e1=>QX (vs:=[vI t1]) (FA.cons (rfl) (FA.nil)),HM,E,S.pick [] (by decide),⟨rfl,rfl⟩⟩
def Y2 (k:Nat) :Option (Qw) :=
 some (⟨(2:Int),(2:Int),(2:Int),(2:Int),(2:Int),(2:Int),(2:Int),(3:Int)⟩:Qw)
theorem Y2.mono {k:Nat} :OLe (Y2 k ) (Y2 (k+1) ):=by
 unfold Y2
 exact mo
theorem Y2.con (k:Nat) (M:Hp)  (r:Qw)  (h:Y2 k =some r):Con Tryd.prog 30 #[] M [] (fun v M' Γ'=>v=.agg #[vI r.Tasks,vI r.Active,vI r.Keys,vI r.Depth,vI r.TS,vI r.KeyLen,vI r.ValLen,vI r.Fan]∧Γ'=[]):=by
 refine Qt Tryd.func30 rfl Tryd.ntmps30 Tryd.results30 rfl ?_
 intro w F rn S hrn
 have E:=Ext.refl w
 have HM:=Hp.le_refl M
 have H:=h
 unfold Y2 at H
 refine QE (QA ?_)
 refine Zo S #[vI 0,vI 0,vI 0,vI 0,vI 0,vI 0,vI 0,vI 0] ty23 rfl rfl ?_
 intro b1 w2 E' S
 replace E:=E.trans E'
 refine QB (tn (QE (QA (W_v (.agg cz15) (Z3 (pl:=[(0,1),(1,1),(2,1),(3,1),(4,1),(5,1),(6,1),(7,1)]) cz15 Tryd.underlying23 ty23 (by as_aux_lemma=>kernel_rfl) rfl (by as_aux_lemma=>kernel_rfl)) rfl ?_))))
 refine Qx S 0 rfl ty23 rfl rfl [vI 2,vI 2,vI 2,vI 2,vI 2,vI 2,vI 2,vI 3] rfl rfl rfl cz15 (by as_aux_lemma=>kernel_rfl) rfl ?_
 intro w4 E' S
 replace E:=E.trans E'
 refine QB (tn ?_)
 refine Qs ?_
 obtain rfl:=Option.some.inj H
 exact ⟨_,_,_,fun w1 e1=>QX (vs:=[.agg cz15]) (FA.cons (⟨_,rfl,Qn ty23 ((S.of_eq e1).blk 0 rfl) (QM rfl) rfl (by decide)⟩) (FA.nil)),HM,E,S.pick [] (by decide),⟨rfl,rfl⟩⟩
def Qv (k:Nat) (a0:Int) (a1:Int) (a2:Str) (a3:Str):Option (ZE) :=
 some (⟨a0,a1,a2,([]:Str),a3,(0:Int),(0:Int)⟩:ZE)
theorem Qv.mono {k:Nat} {a0:Int} {a1:Int} {a2:Str} {a3:Str}:OLe (Qv k a0 a1 a2 a3) (Qv (k+1) a0 a1 a2 a3):=by
 unfold Qv
 exact mo
theorem Qv.con (k:Nat) (M:Hp) (a0:Int) (a1:Int) (a2:Str) (a3:Str) (r:ZE)  (h:Qv k a0 a1 a2 a3=some r):Con Tryd.prog 31 #[vU a0,vI a1,vS a2,vS a3] M [] (fun v M' Γ'=>v=.agg #[vU r.Kind,vI r.Tx,vS r.Key,vS r.End,vS r.Value,vI r.Limit,vU r.Engine]∧Γ'=[]):=by
 refine Qt Tryd.func31 rfl Tryd.ntmps31 Tryd.results31 rfl ?_
 intro w F rn S hrn
 have E:=Ext.refl w
 have HM:=Hp.le_refl M
 have H:=h
 unfold Qv at H
 refine QE (QA ?_)
 refine Zo S #[vU 0,vI 0,vS ([]:Str),vS ([]:Str),vS ([]:Str),vI 0,vU 0] ty37 rfl rfl ?_
 intro b1 w2 E' S
 replace E:=E.trans E'
 refine QB (tn (QE (QA (W_v (vU a0) (QD rfl) rfl (W_v (vI a1) (QD rfl) rfl (W_v (vS a2) (QD rfl) rfl (W_v (vS a3) (QD rfl) rfl (W_v (.agg #[vU a0,vI a1,vS a2,vS ([]:Str),vS a3,vI 0,vU 0]) (Z3 (pl:=[(0,1),(1,1),(2,1),(3,1),(4,1),(5,1),(6,1)]) #[vU a0,vI a1,vS a2,vS ([]:Str),vS a3,vI 0,vU 0] Tryd.underlying37 ty37 (by as_aux_lemma=>kernel_rfl) rfl (by as_aux_lemma=>kernel_rfl)) rfl ?_))))))))
 refine Qx S 0 rfl ty37 rfl rfl [vU a0,vI a1,vS a2,vS ([]:Str),vS a3,vI 0,vU 0] rfl rfl rfl #[vU a0,vI a1,vS a2,vS ([]:Str),vS a3,vI 0,vU 0] (by as_aux_lemma=>kernel_rfl) rfl ?_
 intro w4 E' S
 replace E:=E.trans E'
 refine QB (tn ?_)
 refine Qs ?_
 obtain rfl:=Option.some.inj H
 exact ⟨_,_,_,fun w1 e1=>QX (vs:=[.agg #[vU a0,vI a1,vS a2,vS ([]:Str),vS a3,vI 0,vU 0]]) (FA.cons (⟨_,rfl,Qn ty37 ((S.of_eq e1).blk 0 rfl) (QM rfl) rfl (by decide)⟩) (FA.nil)),HM,E,S.pick [] (by decide),⟨rfl,rfl⟩⟩
def XT (k:Nat) (a0:Int):Option (Bool) :=
 some (((a0 != (1:Int))&&(a0 != (8:Int)))&&(a0 != (9:Int)))
theorem XT.mono {k:Nat} {a0:Int}:OLe (XT k a0) (XT (k+1) a0):=by
 unfold XT
 exact mo
theorem XT.con (k:Nat) (M:Hp) (a0:Int) (r:Bool)  (h:XT k a0=some r):Con Tryd.prog 43 #[vU a0] M [] (fun v M' Γ'=>v=.bool r∧Γ'=[]):=by
 refine Qt Tryd.func43 rfl Tryd.ntmps43 Tryd.results43 rfl ?_
 intro w F rn S hrn
 have E:=Ext.refl w
 have HM:=Hp.le_refl M
 have H:=h
 unfold XT at H
 refine QE (QA (W_v (.bool false) (QG rfl) rfl (QB (tn (QE (QA (W_v (vU a0) (QD rfl) rfl (W_v (.bool (a0 != (1:Int))) (Qa rfl rfl rfl rfl) rfl (W_v (.bool (a0 != (1:Int))) (QD rfl) rfl ?_)))))))))
 refine ZH 3 (fun ρ w'=>Qi ρ [(0,vU a0),(8,.bool ((a0 != (1:Int))&&(a0 != (8:Int))))]∧w=w') ?_ ?_
 ·rcases ZX (a0 != (1:Int)) with hb1 | hb1
  ·skip
   refine QZ (skT hb1) rfl (QZ (skT hb1) rfl (W_v (.bool false) (QV (k:=false) (congrArg Value.bool hb1) rfl) rfl (QB ?_)))
   exact ⟨⟨rfl,(by first | rfl | (rw [hb1];rfl) | (simp only [hb1];rfl)),trivial⟩,rfl⟩
  ·skip
   refine QP (congrArg some hb1) (W_v (vU a0) (QD rfl) rfl (QP (congrArg some hb1) (W_v (.bool (a0 != (8:Int))) (Qa rfl rfl rfl rfl) rfl (W_v (.bool (a0 != (8:Int))) (QV (k:=true) (congrArg Value.bool hb1) rfl) rfl (QB ?_)))))
   exact ⟨⟨rfl,(by first | rfl | (rw [hb1];rfl) | (simp only [hb1];rfl)),trivial⟩,rfl⟩
 rintro ρ _ ⟨hρ,rfl⟩
 rw [QI hρ]
 refine W_v (.bool ((a0 != (1:Int))&&(a0 != (8:Int)))) (QD rfl) rfl ?_
 refine ZH 3 (fun ρ w'=>Qi ρ [(12,.bool (((a0 != (1:Int))&&(a0 != (8:Int)))&&(a0 != (9:Int))))]∧w=w') ?_ ?_
 ·rcases ZX ((a0 != (1:Int))&&(a0 != (8:Int))) with hb2 | hb2
  ·skip
   refine QZ (skT hb2) rfl (QZ (skT hb2) rfl (W_v (.bool false) (QV (k:=false) (congrArg Value.bool hb2) rfl) rfl (QB ?_)))
   exact ⟨⟨(by first | rfl | (rw [hb2];rfl) | (simp only [hb2];rfl)),trivial⟩,rfl⟩
  ·skip
   refine QP (congrArg some hb2) (W_v (vU a0) (QD rfl) rfl (QP (congrArg some hb2) (W_v (.bool (a0 != (9:Int))) (Qa rfl rfl rfl rfl) rfl (W_v (.bool (a0 != (9:Int))) (QV (k:=true) (congrArg Value.bool hb2) rfl) rfl (QB ?_)))))
   exact ⟨⟨(by first | rfl | (rw [hb2];rfl) | (simp only [hb2];rfl)),trivial⟩,rfl⟩
 rintro ρ _ ⟨hρ,rfl⟩
 rw [QI hρ]
 refine W_v (.bool (((a0 != (1:Int))&&(a0 != (8:Int)))&&(a0 != (9:Int)))) (QG rfl) rfl (QB (tn ?_))
 refine Qs ?_
 obtain rfl:=Option.some.inj H
 exact ⟨_,_,_,fun w1 e1=>QX (vs:=[.bool (((a0 != (1:Int))&&(a0 != (8:Int)))&&(a0 != (9:Int)))]) (FA.cons (rfl) (FA.nil)),HM,E,S.pick [] (by decide),⟨rfl,rfl⟩⟩
def Ys (k:Nat) (a0:Qw) (a1:Int) (a2:Int):Option (Unit) :=
 some ()
theorem Ys.mono {k:Nat} {a0:Qw} {a1:Int} {a2:Int}:OLe (Ys k a0 a1 a2) (Ys (k+1) a0 a1 a2):=by
 unfold Ys
 exact mo
theorem Ys.con (k:Nat) (M:Hp) (a0:Qw) (a1:Int) (a2:Int) (r:Unit)  (h:Ys k a0 a1 a2=some r):Con Tryd.prog 83 #[.agg #[vI a0.Tasks,vI a0.Active,vI a0.Keys,vI a0.Depth,vI a0.TS,vI a0.KeyLen,vI a0.ValLen,vI a0.Fan],vI a1,vI a2] M [] (fun v M' Γ'=>∃ (bq1:Nat) (bq3:Nat) (bq5:Nat),v=.func (.func 89) #[] #[pt bq1 0,pt bq3 0,pt bq5 0]∧Γ'=[B23 bq1 a0,Blk bq3 (.cells #[vI a1] 3 (0,0)),Blk bq5 (.cells #[vI a2] 3 (0,0))]):=by
 refine Qt Tryd.func83 rfl Tryd.ntmps83 Tryd.results83 rfl ?_
 intro w F rn S hrn
 have E:=Ext.refl w
 have HM:=Hp.le_refl M
 have H:=h
 unfold Ys at H
 refine QE (QA ?_)
 refine Y8 S #[vI a0.Tasks,vI a0.Active,vI a0.Keys,vI a0.Depth,vI a0.TS,vI a0.KeyLen,vI a0.ValLen,vI a0.Fan] rfl rfl rfl ?_
 intro b1 w2 E' S
 replace E:=E.trans E'
 refine Y8 S #[vI a1] rfl rfl rfl ?_
 intro b4 w5 E' S
 replace E:=E.trans E'
 refine Y8 S #[vI a2] rfl rfl rfl ?_
 intro b7 w8 E' S
 replace E:=E.trans E'
 refine W_v (.nilFunc) (QG rfl) rfl (QB (tn (QE (QA (W_v (.func (.func 89) #[] #[pt b1 0,pt b4 0,pt b7 0]) (X0 rfl) rfl (W_v (.func (.func 89) #[] #[pt b1 0,pt b4 0,pt b7 0]) (QG rfl) rfl (QB (tn ?_))))))))
 refine Qs ?_
 obtain rfl:=Option.some.inj H
 exact ⟨_,_,_,fun w1 e1=>QX (vs:=[.func (.func 89) #[] #[pt b1 0,pt b4 0,pt b7 0]]) (FA.cons (rfl) (FA.nil)),HM,E,S.pick [2,1,0] (by decide),⟨b1,b4,b7,rfl,rfl⟩⟩
def Yt (k:Nat) (a0:Str) (ac_0:Qw) (ac_1:Int) (ac_2:Int):Option (Bool) :=
 (Option.bind (XZ k ac_0) (fun t1=>some ((t1&&(decide ((a0.length:Int)≥ac_1)))&&(decide ((a0.length:Int)≤ac_2)))))
theorem Yt.mono {k:Nat} {a0:Str} {ac_0:Qw} {ac_1:Int} {ac_2:Int}:OLe (Yt k a0 ac_0 ac_1 ac_2) (Yt (k+1) a0 ac_0 ac_1 ac_2):=by
 unfold Yt
 have m1:=@XZ.mono
 exact mo
theorem Yt.con (k:Nat) (M:Hp) (a0:Str) (ac_0:Qw) (ac_1:Int) (ac_2:Int) (bc_0:Nat) (bc_1:Nat) (bc_2:Nat) (r:Bool)  (h:Yt k a0 ac_0 ac_1 ac_2=some r):Con Tryd.prog 89 #[vS a0,pt bc_0 0,pt bc_1 0,pt bc_2 0] M [B23 bc_0 ac_0,Blk bc_1 (.cells #[vI ac_1] 3 (0,0)),Blk bc_2 (.cells #[vI ac_2] 3 (0,0))] (fun v M' Γ'=>v=.bool r∧Γ'=[B23 bc_0 ac_0,Blk bc_1 (.cells #[vI ac_1] 3 (0,0)),Blk bc_2 (.cells #[vI ac_2] 3 (0,0))]):=by
 refine Qt Tryd.func89 rfl Tryd.ntmps89 Tryd.results89 rfl ?_
 intro w F rn S hrn
 have E:=Ext.refl w
 have HM:=Hp.le_refl M
 have H:=h
 unfold Yt at H
 refine QE (QA (W_v (.bool false) (QG rfl) rfl (QB (tn (QE (QA (W_v (.agg #[vI ac_0.Tasks,vI ac_0.Active,vI ac_0.Keys,vI ac_0.Depth,vI ac_0.TS,vI ac_0.KeyLen,vI ac_0.ValLen,vI ac_0.Fan]) (ZA (S.blk 0 rfl) ty23 rfl (QM rfl) rfl rfl) rfl ?_)))))))
 obtain ⟨t1,ht2,H⟩:=QW H
 refine Zz fn41 (XZ.con k M ac_0 t1  ht2) S rfl rfl (by rintro _ _ _ ⟨_,rfl⟩;exact Qd) ?_
 rintro _ w3 _ Γ' E' S ⟨rfl,rfl⟩
 replace E:=E.trans E'
 refine W_v (.bool t1) (QD rfl) rfl ?_
 refine ZH 5 (fun ρ w'=>Qi ρ [(0,vS a0),(3,pt bc_2 0),(13,.bool (t1&&(decide ((a0.length:Int)≥ac_1))))]∧w3=w') ?_ ?_
 ·rcases ZX t1 with hb4 | hb4
  ·skip
   refine QZ (skT hb4) rfl (QZ (skT hb4) rfl (QZ (skT hb4) rfl (QZ (skT hb4) rfl (W_v (.bool false) (QV (k:=false) (congrArg Value.bool hb4) rfl) rfl (QB ?_)))))
   exact ⟨⟨rfl,rfl,(by first | rfl | (rw [hb4];rfl) | (simp only [hb4];rfl)),trivial⟩,rfl⟩
  ·skip
   refine QP (congrArg some hb4) (W_v (vS a0) (QD rfl) rfl (QP (congrArg some hb4) (W_v (vI (a0.length:Int)) (XU Tryd.underlying9 rfl) rfl (QP (congrArg some hb4) (W_v (vI ac_1) (QO (S.blk 1 rfl) ty3 rfl rfl) rfl (QP (congrArg some hb4) (W_v (.bool (decide ((a0.length:Int)≥ac_1))) (Qa rfl rfl rfl rfl) rfl (W_v (.bool (decide ((a0.length:Int)≥ac_1))) (QV (k:=true) (congrArg Value.bool hb4) rfl) rfl (QB ?_)))))))))
   exact ⟨⟨rfl,rfl,(by first | rfl | (rw [hb4];rfl) | (simp only [hb4];rfl)),trivial⟩,rfl⟩
 rintro ρ _ ⟨hρ,rfl⟩
 rw [QI hρ]
 refine W_v (.bool (t1&&(decide ((a0.length:Int)≥ac_1)))) (QD rfl) rfl ?_
 refine ZH 5 (fun ρ w'=>Qi ρ [(19,.bool ((t1&&(decide ((a0.length:Int)≥ac_1)))&&(decide ((a0.length:Int)≤ac_2))))]∧w3=w') ?_ ?_
 ·rcases ZX (t1&&(decide ((a0.length:Int)≥ac_1))) with hb5 | hb5
  ·skip
   refine QZ (skT hb5) rfl (QZ (skT hb5) rfl (QZ (skT hb5) rfl (QZ (skT hb5) rfl (W_v (.bool false) (QV (k:=false) (congrArg Value.bool hb5) rfl) rfl (QB ?_)))))
   exact ⟨⟨(by first | rfl | (rw [hb5];rfl) | (simp only [hb5];rfl)),trivial⟩,rfl⟩
  ·skip
   refine QP (congrArg some hb5) (W_v (vS a0) (QD rfl) rfl (QP (congrArg some hb5) (W_v (vI (a0.length:Int)) (XU Tryd.underlying9 rfl) rfl (QP (congrArg some hb5) (W_v (vI ac_2) (QO (S.blk 2 rfl) ty3 rfl rfl) rfl (QP (congrArg some hb5) (W_v (.bool (decide ((a0.length:Int)≤ac_2))) (Qa rfl rfl rfl rfl) rfl (W_v (.bool (decide ((a0.length:Int)≤ac_2))) (QV (k:=true) (congrArg Value.bool hb5) rfl) rfl (QB ?_)))))))))
   exact ⟨⟨(by first | rfl | (rw [hb5];rfl) | (simp only [hb5];rfl)),trivial⟩,rfl⟩
 rintro ρ _ ⟨hρ,rfl⟩
 rw [QI hρ]
 refine W_v (.bool ((t1&&(decide ((a0.length:Int)≥ac_1)))&&(decide ((a0.length:Int)≤ac_2)))) (QG rfl) rfl (QB (tn ?_))
 refine Qs ?_
 obtain rfl:=Option.some.inj H
 exact ⟨_,_,_,fun w1 e1=>QX (vs:=[.bool ((t1&&(decide ((a0.length:Int)≥ac_1)))&&(decide ((a0.length:Int)≤ac_2)))]) (FA.cons (rfl) (FA.nil)),HM,E,S.pick [0,1,2] (by decide),⟨rfl,rfl⟩⟩
def Xb (k:Nat) (a0:Qw) (a1:Str):Option (Bool) :=
 (Option.bind (Ys k a0 (1:Int) a0.KeyLen) (fun t4=>(Option.bind (Yt k a1 a0 (1:Int) a0.KeyLen) (fun t15=>some t15))))
theorem Xb.mono {k:Nat} {a0:Qw} {a1:Str}:OLe (Xb k a0 a1) (Xb (k+1) a0 a1):=by
 unfold Xb
 have m1:=@Yt.mono
 have m2:=@Ys.mono
 exact mo
theorem Xb.con (k:Nat) (M:Hp) (a0:Qw) (a1:Str) (r:Bool)  (h:Xb k a0 a1=some r):Con Tryd.prog 70 #[.agg #[vI a0.Tasks,vI a0.Active,vI a0.Keys,vI a0.Depth,vI a0.TS,vI a0.KeyLen,vI a0.ValLen,vI a0.Fan],vS a1] M [] (fun v M' Γ'=>v=.bool r∧Γ'=[]):=by
 refine Qt Tryd.func70 rfl Tryd.ntmps70 Tryd.results70 rfl ?_
 intro w F rn S hrn
 have E:=Ext.refl w
 have HM:=Hp.le_refl M
 have H:=h
 unfold Xb at H
 refine QE (QA ?_)
 refine Y8 S #[vI a0.Tasks,vI a0.Active,vI a0.Keys,vI a0.Depth,vI a0.TS,vI a0.KeyLen,vI a0.ValLen,vI a0.Fan] rfl rfl rfl ?_
 intro b1 w2 E' S
 replace E:=E.trans E'
 refine W_v (.bool false) (QG rfl) rfl (QB (tn (QE (QA (W_v (.agg #[vI a0.Tasks,vI a0.Active,vI a0.Keys,vI a0.Depth,vI a0.TS,vI a0.KeyLen,vI a0.ValLen,vI a0.Fan]) (ZA (S.blk 0 rfl) ty23 rfl (QM rfl) rfl rfl) rfl (W_v (pt b1 5) (QC (o:=0) (off:=5) Tryd.underlying23 rfl ty3 rfl rfl) rfl (W_v (vI a0.KeyLen) (QO (S.blk 0 rfl) ty3 rfl rfl) rfl ?_)))))))
 obtain ⟨t4,ht5,H⟩:=QW H
 refine Z5 fn83 (Ys.con k M a0 (1:Int) a0.KeyLen t4  ht5) (Γ1:=[]) (Γ2:=[_]) S rfl rfl (by rintro _ _ _ ⟨_,_,_,rfl,rfl⟩;exact (QN ZW (QN ZW (QN ZW Qd)))) ?_
 rintro _ w12 _ Γ' E' S ⟨b6,b8,b10,rfl,rfl⟩
 replace E:=E.trans E'
 replace S:St w12 M F [_,_,_,_]:=S
 refine W_v (vS a1) (QD rfl) rfl ?_
 obtain ⟨t15,ht16,H⟩:=QW H
 refine Xp (fs:=[]) (cap:=[pt b6 0,pt b8 0,pt b10 0]) fn89 rfl (Yt.con k M a1 a0 (1:Int) a0.KeyLen b6 b8 b10 t15  ht16) (Γ1:=[_,_,_]) (Γ2:=[_]) S rfl rfl (by rintro _ _ _ ⟨rfl,rfl⟩;exact (QN ZW (QN ZW (QN ZW Qd)))) ?_
 rintro _ w17 _ Γ' E' S ⟨rfl,rfl⟩
 replace E:=E.trans E'
 replace S:St w17 M F [_,_,_,_]:=S
 refine W_v (.bool t15) (QG rfl) rfl (QB (tn ?_))
 refine Qs ?_
 obtain rfl:=Option.some.inj H
 exact ⟨_,_,_,fun w1 e1=>QX (vs:=[.bool t15]) (FA.cons (rfl) (FA.nil)),HM,E,S.pick [] (by decide),⟨rfl,rfl⟩⟩
def XV (k:Nat) (a0:Qw) (a1:Str):Option (Bool) :=
 (Option.bind (Ys k a0 (0:Int) a0.ValLen) (fun t4=>(Option.bind (Yt k a1 a0 (0:Int) a0.ValLen) (fun t15=>some t15))))
theorem XV.mono {k:Nat} {a0:Qw} {a1:Str}:OLe (XV k a0 a1) (XV (k+1) a0 a1):=by
 unfold XV
 have m1:=@Yt.mono
 have m2:=@Ys.mono
 exact mo
theorem XV.con (k:Nat) (M:Hp) (a0:Qw) (a1:Str) (r:Bool)  (h:XV k a0 a1=some r):Con Tryd.prog 71 #[.agg #[vI a0.Tasks,vI a0.Active,vI a0.Keys,vI a0.Depth,vI a0.TS,vI a0.KeyLen,vI a0.ValLen,vI a0.Fan],vS a1] M [] (fun v M' Γ'=>v=.bool r∧Γ'=[]):=by
 refine Qt Tryd.func71 rfl Tryd.ntmps71 Tryd.results71 rfl ?_
 intro w F rn S hrn
 have E:=Ext.refl w
 have HM:=Hp.le_refl M
 have H:=h
 unfold XV at H
 refine QE (QA ?_)
 refine Y8 S #[vI a0.Tasks,vI a0.Active,vI a0.Keys,vI a0.Depth,vI a0.TS,vI a0.KeyLen,vI a0.ValLen,vI a0.Fan] rfl rfl rfl ?_
 intro b1 w2 E' S
 replace E:=E.trans E'
 refine W_v (.bool false) (QG rfl) rfl (QB (tn (QE (QA (W_v (.agg #[vI a0.Tasks,vI a0.Active,vI a0.Keys,vI a0.Depth,vI a0.TS,vI a0.KeyLen,vI a0.ValLen,vI a0.Fan]) (ZA (S.blk 0 rfl) ty23 rfl (QM rfl) rfl rfl) rfl (W_v (pt b1 6) (QC (o:=0) (off:=6) Tryd.underlying23 rfl ty3 rfl rfl) rfl (W_v (vI a0.ValLen) (QO (S.blk 0 rfl) ty3 rfl rfl) rfl ?_)))))))
 obtain ⟨t4,ht5,H⟩:=QW H
 refine Z5 fn83 (Ys.con k M a0 (0:Int) a0.ValLen t4  ht5) (Γ1:=[]) (Γ2:=[_]) S rfl rfl (by rintro _ _ _ ⟨_,_,_,rfl,rfl⟩;exact (QN ZW (QN ZW (QN ZW Qd)))) ?_
 rintro _ w12 _ Γ' E' S ⟨b6,b8,b10,rfl,rfl⟩
 replace E:=E.trans E'
 replace S:St w12 M F [_,_,_,_]:=S
 refine W_v (vS a1) (QD rfl) rfl ?_
 obtain ⟨t15,ht16,H⟩:=QW H
 refine Xp (fs:=[]) (cap:=[pt b6 0,pt b8 0,pt b10 0]) fn89 rfl (Yt.con k M a1 a0 (0:Int) a0.ValLen b6 b8 b10 t15  ht16) (Γ1:=[_,_,_]) (Γ2:=[_]) S rfl rfl (by rintro _ _ _ ⟨rfl,rfl⟩;exact (QN ZW (QN ZW (QN ZW Qd)))) ?_
 rintro _ w17 _ Γ' E' S ⟨rfl,rfl⟩
 replace E:=E.trans E'
 replace S:St w17 M F [_,_,_,_]:=S
 refine W_v (.bool t15) (QG rfl) rfl (QB (tn ?_))
 refine Qs ?_
 obtain rfl:=Option.some.inj H
 exact ⟨_,_,_,fun w1 e1=>QX (vs:=[.bool t15]) (FA.cons (rfl) (FA.nil)),HM,E,S.pick [] (by decide),⟨rfl,rfl⟩⟩
def XH (k:Nat) (a0:Qw) (a1:Str):Option (Bool) :=
 (Option.bind (Ys k a0 (0:Int) a0.KeyLen) (fun t4=>(Option.bind (Yt k a1 a0 (0:Int) a0.KeyLen) (fun t15=>some t15))))
theorem XH.mono {k:Nat} {a0:Qw} {a1:Str}:OLe (XH k a0 a1) (XH (k+1) a0 a1):=by
 unfold XH
 have m1:=@Yt.mono
 have m2:=@Ys.mono
 exact mo
theorem XH.con (k:Nat) (M:Hp) (a0:Qw) (a1:Str) (r:Bool)  (h:XH k a0 a1=some r):Con Tryd.prog 72 #[.agg #[vI a0.Tasks,vI a0.Active,vI a0.Keys,vI a0.Depth,vI a0.TS,vI a0.KeyLen,vI a0.ValLen,vI a0.Fan],vS a1] M [] (fun v M' Γ'=>v=.bool r∧Γ'=[]):=by
 refine Qt Tryd.func72 rfl Tryd.ntmps72 Tryd.results72 rfl ?_
 intro w F rn S hrn
 have E:=Ext.refl w
 have HM:=Hp.le_refl M
 have H:=h
 unfold XH at H
 refine QE (QA ?_)
 refine Y8 S #[vI a0.Tasks,vI a0.Active,vI a0.Keys,vI a0.Depth,vI a0.TS,vI a0.KeyLen,vI a0.ValLen,vI a0.Fan] rfl rfl rfl ?_
 intro b1 w2 E' S
 replace E:=E.trans E'
 refine W_v (.bool false) (QG rfl) rfl (QB (tn (QE (QA (W_v (.agg #[vI a0.Tasks,vI a0.Active,vI a0.Keys,vI a0.Depth,vI a0.TS,vI a0.KeyLen,vI a0.ValLen,vI a0.Fan]) (ZA (S.blk 0 rfl) ty23 rfl (QM rfl) rfl rfl) rfl (W_v (pt b1 5) (QC (o:=0) (off:=5) Tryd.underlying23 rfl ty3 rfl rfl) rfl (W_v (vI a0.KeyLen) (QO (S.blk 0 rfl) ty3 rfl rfl) rfl ?_)))))))
 obtain ⟨t4,ht5,H⟩:=QW H
 refine Z5 fn83 (Ys.con k M a0 (0:Int) a0.KeyLen t4  ht5) (Γ1:=[]) (Γ2:=[_]) S rfl rfl (by rintro _ _ _ ⟨_,_,_,rfl,rfl⟩;exact (QN ZW (QN ZW (QN ZW Qd)))) ?_
 rintro _ w12 _ Γ' E' S ⟨b6,b8,b10,rfl,rfl⟩
 replace E:=E.trans E'
 replace S:St w12 M F [_,_,_,_]:=S
 refine W_v (vS a1) (QD rfl) rfl ?_
 obtain ⟨t15,ht16,H⟩:=QW H
 refine Xp (fs:=[]) (cap:=[pt b6 0,pt b8 0,pt b10 0]) fn89 rfl (Yt.con k M a1 a0 (0:Int) a0.KeyLen b6 b8 b10 t15  ht16) (Γ1:=[_,_,_]) (Γ2:=[_]) S rfl rfl (by rintro _ _ _ ⟨rfl,rfl⟩;exact (QN ZW (QN ZW (QN ZW Qd)))) ?_
 rintro _ w17 _ Γ' E' S ⟨rfl,rfl⟩
 replace E:=E.trans E'
 replace S:St w17 M F [_,_,_,_]:=S
 refine W_v (.bool t15) (QG rfl) rfl (QB (tn ?_))
 refine Qs ?_
 obtain rfl:=Option.some.inj H
 exact ⟨_,_,_,fun w1 e1=>QX (vs:=[.bool t15]) (FA.cons (rfl) (FA.nil)),HM,E,S.pick [] (by decide),⟨rfl,rfl⟩⟩
def XA (k:Nat) (a0:(List QS)) (a1:Int):Option (Unit) :=
 some ()
theorem XA.mono {k:Nat} {a0:(List QS)} {a1:Int}:OLe (XA k a0 a1) (XA (k+1) a0 a1):=by
 unfold XA
 exact mo
theorem XA.con (k:Nat) (M:Hp) (A0:Option Addr) (c0:Nat) (a0:(List QS)) (a1:Int) (r:Unit) (hr0:SlR Q4 M (.slice A0 a0.length c0) a0) (h:XA k a0 a1=some r):Con Tryd.prog 143 #[.slice A0 a0.length c0,vI a1] M [] (fun v M' Γ'=>∃ (bq1:Nat) (bq3:Nat),v=.func (.func 144) #[] #[pt bq1 0,pt bq3 0]∧Γ'=[Blk bq1 (.cells #[.slice A0 a0.length c0] 65 (0,0)),Blk bq3 (.cells #[vI a1] 3 (0,0))]):=by
 refine Qt Tryd.func143 rfl Tryd.ntmps143 Tryd.results143 rfl ?_
 intro w F rn S hrn
 have E:=Ext.refl w
 have HM:=Hp.le_refl M
 have H:=h
 unfold XA at H
 refine QE (QA ?_)
 refine Y8 S #[.slice A0 a0.length c0] rfl rfl rfl ?_
 intro b1 w2 E' S
 replace E:=E.trans E'
 refine Y8 S #[vI a1] rfl rfl rfl ?_
 intro b4 w5 E' S
 replace E:=E.trans E'
 refine W_v (.nilFunc) (QG rfl) rfl (QB (tn (QE (QA (W_v (.func (.func 144) #[] #[pt b1 0,pt b4 0]) (X0 rfl) rfl (W_v (.func (.func 144) #[] #[pt b1 0,pt b4 0]) (QG rfl) rfl (QB (tn ?_))))))))
 refine Qs ?_
 obtain rfl:=Option.some.inj H
 exact ⟨_,_,_,fun w1 e1=>QX (vs:=[.func (.func 144) #[] #[pt b1 0,pt b4 0]]) (FA.cons (rfl) (FA.nil)),HM,E,S.pick [1,0] (by decide),⟨b1,b4,rfl,rfl⟩⟩
def Yx {σ ε:Type} (a_0:(List QS)) (a_1:Int) (bd:Int×Bool→σ→Option (σ⊕ε)):Nat→Int→σ⊕ε→Option ((σ⊕ε)⊕((σ⊕ε)))
 | 0,_,_=>none
 | k+1,x53,x54=>(if (decide (x53 < (a_0.length:Int)))=true then (if 0≤x53∧x53 < (a_0.length:Int) then (Option.bind (toL x54) (fun s99=>Option.bind (bd (x53,(decide ((rd a_0 x53).TS≤a_1))) s99) (fun t101=>(if ((!(isNorm t101))||(decide ((rd a_0 x53).TS≤a_1)))=true then some (.inl t101) else Yx a_0 a_1 bd k (IntKind.i64.wrap (x53+(1:Int))) t101)))) else none) else some (.inr (x54)))
theorem Yx.mono {σ ε:Type} {a_0:(List QS)} {a_1:Int} {bd bd':Int×Bool→σ→Option (σ⊕ε)} (hbd:∀ x s,OLe (bd x s) (bd' x s)):∀ {kl:Nat} {x0 x1},OLe (Yx a_0 a_1 bd kl x0 x1) (Yx a_0 a_1 bd' (kl+1) x0 x1):=by
 intro kl
 induction kl with
 | zero=>intros;exact OLe.none
 | succ kl ih =>
  intros
  rw [Yx.eq_2,Yx.eq_2]
  repeat' (first | with_reducible exact OLe.none | with_reducible exact OLe.some | with_reducible refine OLe.ite ?_ ?_ | with_reducible refine OLe.bind ?_ (fun _=>?_) | exact OLe.toL | exact hbd _ _ | exact ih | refine OLe.bind ?_ (fun _=>?_) | refine OLe.ite ?_ ?_ | refine OLe.elim (fun _=>?_) (fun _=>?_) | split)
def XB {σ ε:Type} (k:Nat) (a_0:(List QS)) (a_1:Int) (bd:Int×Bool→σ→Option (σ⊕ε)) (s0:σ):Option (σ⊕ε) :=
 (Option.bind (Yx a_0 a_1 bd k (0:Int) (.inl s0)) (fun o80o=>Sum.elim (fun r'=>some r') (fun x79=>some x79) o80o))
theorem XB.mono {σ ε:Type} {k:Nat} {a_0:(List QS)} {a_1:Int} {bd bd':Int×Bool→σ→Option (σ⊕ε)} (hbd:∀ x s,OLe (bd x s) (bd' x s)) {s0:σ}:OLe (XB k a_0 a_1 bd s0) (XB (k+1) a_0 a_1 bd' s0):=by
 unfold XB
 repeat' (first | with_reducible exact OLe.none | with_reducible exact OLe.some | with_reducible refine OLe.ite ?_ ?_ | with_reducible refine OLe.bind ?_ (fun _=>?_) | with_reducible exact Yx.mono hbd | exact OLe.toL | exact hbd _ _ | refine OLe.bind ?_ (fun _=>?_) | refine OLe.ite ?_ ?_ | refine OLe.elim (fun _=>?_) (fun _=>?_) | split)
theorem XB.con {σ ε:Type} (k:Nat) (M:Hp) (A_0:Option Addr) (c_0:Nat) (a_0:(List QS)) (a_1:Int) (b_0:Nat) (b_1:Nat) (bd:Int×Bool→σ→Option (σ⊕ε)) (s0:σ) (r:σ⊕ε) (hr_0:SlR Q4 M (.slice A_0 a_0.length c_0) a_0) (h:XB k a_0 a_1 bd s0=some r):Iter Tryd.prog 144 [pt b_0 0,pt b_1 0] M (fun (M:Hp) (x:Int×Bool) (vs:List Value)=>vs=[vI x.1,.bool x.2]) bd s0 r [Blk b_0 (.cells #[.slice A_0 a_0.length c_0] 65 (0,0)),Blk b_1 (.cells #[vI a_1] 3 (0,0))] (fun M' Γ'=>Γ'=[Blk b_0 (.cells #[.slice A_0 a_0.length c_0] 65 (0,0)),Blk b_1 (.cells #[vI a_1] 3 (0,0))]):=by
 intro lp B hY
 refine Qt Tryd.func144 rfl Tryd.ntmps144 Tryd.results144 rfl ?_
 intro w F rn S hrn
 have E:=Ext.refl w
 have HM:=Hp.le_refl M
 have H:=h
 unfold XB at H
 refine QE (QA (W_v (.slice A_0 a_0.length c_0) (QO (S.blk 1 rfl) ty65 rfl rfl) rfl (W_v (vI (a_0.length:Int)) (Q8 (n:=a_0.length) Tryd.underlying65 rfl) rfl (W_v (vI 0) (QD rfl) rfl (QB (tn ?_))))))
 obtain ⟨o80,o80h,o80H⟩:=QW H
 refine Yj (fun ρ w'=>∃ (x79:σ⊕ε) (Mj:Hp),.inr (x79)=o80∧Qi ρ []∧M.le Mj∧Ext w w'∧St w' Mj F [Blk b_0 (.cells #[.slice A_0 a_0.length c_0] 65 (0,0)),Blk b_1 (.cells #[vI a_1] 3 (0,0)),B x79]) ?_ ?_
 ·skip
  refine Y3 (fun n ρ w'=>∃ (x53:Int) (x54:σ⊕ε) (Mj:Hp),Yx a_0 a_1 bd n x53 x54=some o80∧Qi ρ [(0,.func (.yield lp) #[] #[]),(2,pt b_1 0),(6,.slice A_0 a_0.length c_0),(7,vI (a_0.length:Int)),(8,vI x53)]∧M.le Mj∧Ext w w'∧St w' Mj F [Blk b_0 (.cells #[.slice A_0 a_0.length c_0] 65 (0,0)),Blk b_1 (.cells #[vI a_1] 3 (0,0)),B x54]) k ?_ ?_
  ·skip
   exact ⟨(0:Int),(.inl s0),M,o80h,⟨rfl,rfl,rfl,rfl,rfl,trivial⟩,(Hp.le_refl M),E,S.pick [1,2,0] (by decide)⟩
  ·intro n
   rintro ρ w81 ⟨x53,x54,M82,H,hρ,hM83,E,S⟩
   rw [QI hρ]
   replace HM:=Hp.le_trans HM hM83
   replace hr_0:=SlR.mono hr_0 hM83
   cases n with
   | zero=>cases H
   | succ k =>
    rw [Yx.eq_2] at H
    refine QE (QA (W_v (.bool (decide (x53 < (a_0.length:Int)))) (Qa rfl rfl rfl rfl) rfl (QB (tn (QE ?_)))))
    rcases Zf H with ⟨hb84,H⟩ | ⟨hb84,H⟩
    ·refine QQ (congrArg Value.bool hb84) ?_
     refine Qr (tn (QE ?_))
     refine YP ?_
     refine QE (QA (W_v (vI x53) (QD rfl) rfl ?_))
     obtain ⟨⟨p85,p86⟩,H⟩:=Yy H
     obtain ⟨b87,o88,cs89,_,_,ee94,hb90,vs91,hR92,hc93⟩:=SlW.at' hr_0 p85 p86
     obtain rfl:vs91=_:=hR92
     refine W_v (.pointer (some ⟨b87,o88+x53.toNat*4,none⟩)) (Qy Tryd.underlying65 ty61 (slA ee94) rfl p85 p86) rfl (W_v (.agg #[vI ((rd a_0 x53).Writer),vI ((rd a_0 x53).TS),.bool ((rd a_0 x53).Tomb),vS ((rd a_0 x53).Value)]) (ZA (S.frz hb90) ty61 rfl (Xa hc93 0 rfl) rfl rfl) rfl ?_)
     refine Zo S cz16 ty61 rfl rfl ?_
     intro b95 w96 E' S
     replace E:=E.trans E'
     refine W_v (vI x53) (QG rfl) rfl ?_
     refine Qx S 0 rfl ty61 rfl rfl [vI ((rd a_0 x53).Writer),vI ((rd a_0 x53).TS),.bool ((rd a_0 x53).Tomb),vS ((rd a_0 x53).Value)] rfl rfl rfl #[vI ((rd a_0 x53).Writer),vI ((rd a_0 x53).TS),.bool ((rd a_0 x53).Tomb),vS ((rd a_0 x53).Value)] rfl rfl ?_
     intro w98 E' S
     replace E:=E.trans E'
     refine QB (tn (QE (QA (W_v (.func (.yield lp) #[] #[]) (QD rfl) rfl (W_v (vI x53) (QD rfl) rfl (W_v (pt b95 1) (QC (o:=0) (off:=1) Tryd.underlying61 rfl ty3 rfl rfl) rfl (W_v (vI ((rd a_0 x53).TS)) (QO (S.blk 0 rfl) ty3 rfl rfl) rfl (W_v (vI a_1) (QO (S.blk 2 rfl) ty3 rfl rfl) rfl (W_v (.bool (decide ((rd a_0 x53).TS≤a_1))) (Qa rfl rfl rfl rfl) rfl ?_)))))))))
     obtain ⟨s99,hs100,H⟩:=QW H
     obtain ⟨t101,ht102,H⟩:=QW H
     rw [q9 hs100] at S
     replace S:St w98 M82 F [_,_,_,_]:=S.pick [3,0,1,2] (by decide)
     refine KE rfl (hY _ (x53,(decide ((rd a_0 x53).TS≤a_1))) _ s99 t101 HM (rfl) ht102) S rfl rfl ?_
     rintro _ w103 M104 _ hM105 E' S ⟨rfl,rfl⟩
     replace HM:=Hp.le_trans HM hM105
     replace hM83:=Hp.le_trans hM83 hM105
     replace E:=E.trans E'
     refine W_v (.bool (!(isNorm t101))) (Y5 (b:=(isNorm t101)) rfl) rfl (W_v (.bool (!(isNorm t101))) (QD rfl) rfl ?_)
     refine ZH 5 (fun ρ w'=>Qi ρ [(0,.func (.yield lp) #[] #[]),(2,pt b_1 0),(6,.slice A_0 a_0.length c_0),(7,vI (a_0.length:Int)),(8,vI x53),(26,.bool ((!(isNorm t101))||(decide ((rd a_0 x53).TS≤a_1))))]∧w103=w') ?_ ?_
     ·rcases ZX (!(isNorm t101)) with hb106 | hb106
      ·skip
       refine QP (congrArg some hb106) (W_v (pt b95 1) (QC (o:=0) (off:=1) Tryd.underlying61 rfl ty3 rfl rfl) rfl (QP (congrArg some hb106) (W_v (vI ((rd a_0 x53).TS)) (QO (S.blk 1 rfl) ty3 rfl rfl) rfl (QP (congrArg some hb106) (W_v (vI a_1) (QO (S.blk 3 rfl) ty3 rfl rfl) rfl (QP (congrArg some hb106) (W_v (.bool (decide ((rd a_0 x53).TS≤a_1))) (Qa rfl rfl rfl rfl) rfl (W_v (.bool (decide ((rd a_0 x53).TS≤a_1))) (QV (k:=false) (congrArg Value.bool hb106) rfl) rfl (QB ?_)))))))))
       exact ⟨⟨rfl,rfl,rfl,rfl,rfl,(by first | rfl | (rw [hb106];rfl) | (simp only [hb106];rfl)),trivial⟩,rfl⟩
      ·skip
       refine QZ (skF hb106) rfl (QZ (skF hb106) rfl (QZ (skF hb106) rfl (QZ (skF hb106) rfl (W_v (.bool true) (QV (k:=true) (congrArg Value.bool hb106) rfl) rfl (QB ?_)))))
       exact ⟨⟨rfl,rfl,rfl,rfl,rfl,(by first | rfl | (rw [hb106];rfl) | (simp only [hb106];rfl)),trivial⟩,rfl⟩
     rintro ρ _ ⟨hρ,rfl⟩
     rw [QI hρ]
     refine QB (tn ?_)
     rcases Zf H with ⟨hb107,H⟩ | ⟨hb107,H⟩
     ·refine QQ (congrArg Value.bool hb107) ?_
      refine Qs ?_
      refine br (tr (tr (br (tr (?_)))))
      obtain rfl:=Option.some.inj H
      have H:=o80H
      replace H:=elimL H
      obtain rfl:=Option.some.inj H
      exact ⟨_,_,_,fun w1 e1=>QX (vs:=[]) FA.nil,HM,E,S.pick [0,2,3] (by decide),⟨_,rfl,rfl⟩⟩
     refine QK (congrArg Value.bool hb107) (Qr (bn (tn (QA (W_v (vI (IntKind.i64.wrap (x53+(1:Int)))) (Qa rfl rfl rfl rfl) rfl (W_v (vI (IntKind.i64.wrap (x53+(1:Int)))) (QD rfl) rfl (QB (tn ?_))))))))
     exact ⟨k,Nat.lt_succ_self k,⟨(IntKind.i64.wrap (x53+(1:Int))),t101,M104,H,⟨rfl,rfl,rfl,rfl,rfl,trivial⟩,hM83,E,S.pick [2,3,0] (by decide)⟩⟩
    refine QK (congrArg Value.bool hb84) ?_
    refine Y0 ?_
    refine tx (tx (bsm (?_)))
    refine tn ?_
    exact ⟨x54,M82,Option.some.inj H,trivial,hM83,E,S.pick [0,1,2] (by decide)⟩
 rintro ρ w108 ⟨x79,M109,rfl,hρ,hM110,E,S⟩
 rw [QI hρ]
 replace HM:=Hp.le_trans HM hM110
 have H:=o80H
 replace H:=elimR H
 obtain rfl:=Option.some.inj H
 exact ⟨_,_,_,fun w1 e1=>QX (vs:=[]) FA.nil,HM,E,S.pick [2,0,1] (by decide),⟨_,rfl,rfl⟩⟩
def XI (a0:(List QS)) (k:Nat):(Int×Bool)→Unit→Option ((Unit)⊕(QS))
 | (y170,y171),_=>(Option.bind (α:=Bool) (if y171=true then (if 0≤y170∧y170 < (a0.length:Int) then some ((!((rd a0 y170).Tomb))) else none) else some (false)) (fun x195=>(if x195=true then (if 0≤y170∧y170 < (a0.length:Int) then some (.inr (rd a0 y170)) else none) else some (.inl ()))))
theorem XI.mono {a0:(List QS)} {k:Nat}:∀ x s,OLe (XI a0 k x s) (XI a0 (k+1) x s):=by
 intro x s
 unfold XI
 exact mo
def XQ (k:Nat) (a0:(List QS)) (a1:Int):Option (QS×Bool) :=
 (Option.bind (XA k a0 a1) (fun t10=>(Option.bind (XB k a0 a1 (XI a0 k) ()) (fun o167o=>Sum.elim (fun _=>some ((⟨(0:Int),(0:Int),false,([]:Str)⟩:QS),false)) (fun x166=>some (x166,true)) o167o))))
theorem XQ.mono {k:Nat} {a0:(List QS)} {a1:Int}:OLe (XQ k a0 a1) (XQ (k+1) a0 a1):=by
 unfold XQ
 repeat' (first | with_reducible exact OLe.none | with_reducible exact OLe.some | with_reducible refine OLe.ite ?_ ?_ | with_reducible refine OLe.bind ?_ (fun _=>?_) | with_reducible exact XI.mono | exact XB.mono (fun _ _=>by first | exact XI.mono _ _) | with_reducible exact XA.mono | refine OLe.bind ?_ (fun _=>?_) | refine OLe.ite ?_ ?_ | refine OLe.elim (fun _=>?_) (fun _=>?_) | split)
theorem XQ.con (k:Nat) (M:Hp) (A0:Option Addr) (c0:Nat) (a0:(List QS)) (a1:Int) (r:QS×Bool) (hr0:SlR Q4 M (.slice A0 a0.length c0) a0) (h:XQ k a0 a1=some r):Con Tryd.prog 140 #[.slice A0 a0.length c0,vI a1] M [] (fun v M' Γ'=>v=.tuple #[.agg #[vI r.1.Writer,vI r.1.TS,.bool r.1.Tomb,vS r.1.Value],.bool r.2]∧Γ'=[]):=by
 refine Qt Tryd.func140 rfl Tryd.ntmps140 Tryd.results140 rfl ?_
 intro w F rn S hrn
 have E:=Ext.refl w
 have HM:=Hp.le_refl M
 have H:=h
 unfold XQ at H
 refine QE (QA ?_)
 refine Y8 S #[.slice A0 a0.length c0] rfl rfl rfl ?_
 intro b1 w2 E' S
 replace E:=E.trans E'
 refine Zo S cz16 ty61 rfl rfl ?_
 intro b4 w5 E' S
 replace E:=E.trans E'
 refine Zo S #[.bool false] ty4 rfl rfl ?_
 intro b7 w8 E' S
 replace E:=E.trans E'
 refine QB (tn (QE (QE (QA (W_v (.slice A0 a0.length c0) (QO (S.blk 2 rfl) ty65 rfl rfl) rfl (W_v (vI a1) (QD rfl) rfl ?_))))))
 obtain ⟨t10,ht11,H⟩:=QW H
 refine Z5 fn143 (XA.con k M A0 c0 a0 a1 t10 hr0 ht11) (Γ1:=[]) (Γ2:=[_,_,_]) S rfl rfl (by rintro _ _ _ ⟨_,_,rfl,rfl⟩;exact (QN ZW (QN ZW Qd))) ?_
 rintro _ w16 _ Γ' E' S ⟨b12,b14,rfl,rfl⟩
 replace E:=E.trans E'
 replace S:St w16 M F [_,_,_,_,_]:=S
 refine QB (tn ?_)
 refine YP ?_
 obtain ⟨o167,o167h,o167H⟩:=QW H
 refine VI (σ:=Unit) (ε:=QS) (Γi:=[Blk b12 (.cells #[.slice A0 a0.length c0] 65 (0,0)),Blk b14 (.cells #[vI a1] 3 (0,0))]) (Γr:=[]) (Sum.elim (fun _=>AE (ι:=Unit) (fun (i:Unit)=>[Blk b7 (.cells #[.bool false] 4 (0,0)),Blk b4 (.cells cz16 61 (0,0)),Blk b1 (.cells #[.slice A0 a0.length c0] 65 (0,0))]) (fun _ _=>True) (fun _ _ _ _ _=>trivial)) (fun x166=>AE (ι:=Unit) (fun (i:Unit)=>[Blk b7 (.cells #[.bool true] 4 (0,0)),B61 b4 x166]) (fun _ _=>True) (fun _ _ _ _ _=>trivial))) (fun _=>Code.ret) fn144 rfl (St.close_ex (φ:=(fun _ _=>True)) (hφ:=(fun _ _ _ _ _=>trivial)) () trivial (S.pick [2,3,4,0,1] (by decide))) (by rintro _ _ _ rfl;rfl) (by decide) (XB.con k M A0 c0 a0 a1 b12 b14 (XI a0 k) () o167 hr0 o167h) ?_ ?_
 ·intro nn lp M168 F yy vs ss tt w hM169 henc hbd S
  obtain ⟨y170,y171⟩:=yy
  obtain rfl:=henc
  replace HM:=Hp.le_trans HM hM169
  replace hr0:=SlR.mono hr0 hM169
  replace S:St w M168 F (AE (ι:=Unit) (fun (i:Unit)=>[Blk b7 (.cells #[.bool false] 4 (0,0)),Blk b4 (.cells cz16 61 (0,0)),Blk b1 (.cells #[.slice A0 a0.length c0] 65 (0,0))]) (fun _ _=>True) (fun _ _ _ _ _=>trivial)::[]):=S
  obtain ⟨_,_,S⟩:=S.open_ex
  replace S:St w M168 F [_,_,_]:=S
  have E:=Ext.refl w
  have LE172:=Hp.le_refl M168
  have H:=hbd
  rw [XI.eq_1] at H
  refine QE (QA (W_v (vI y170) (QG rfl) rfl (QB (tn (QA (W_v (.bool y171) (QG rfl) rfl (QB ?_)))))))
  refine YU ⟨_,_,LE172,E,S,?_⟩
  intro w F E3 S
  have E:=Ext.refl w
  have LE173:=Hp.le_refl M168
  refine YP ?_
  refine QE (QA (W_v (.bool y171) (QD rfl) rfl (W_v (.bool y171) (QD rfl) rfl ?_)))
  obtain ⟨o196,o196h,o196H⟩:=QW H
  refine ZH 7 (fun ρ w'=>∃ (x195:Bool),(x195)=o196∧Qi ρ [(2,pt b1 0),(4,pt b4 0),(5,pt b7 0),(6,vI y170),(21,.bool x195)]∧Ext w w'∧St w' M168 F [Blk b7 (.cells #[.bool false] 4 (0,0)),Blk b4 (.cells cz16 61 (0,0)),Blk b1 (.cells #[.slice A0 a0.length c0] 65 (0,0))]) ?_ ?_
  ·have H:=o196h
   rcases Zf H with ⟨hb194,H⟩ | ⟨hb194,H⟩
   ·skip
    refine QP (congrArg some hb194) (W_v (.slice A0 a0.length c0) (QO (S.blk 2 rfl) ty65 rfl rfl) rfl (QP (congrArg some hb194) (W_v (vI y170) (QD rfl) rfl (QP (congrArg some hb194) ?_))))
    obtain ⟨⟨p197,p198⟩,H⟩:=Yy H
    obtain ⟨b199,o200,cs201,_,_,ee206,hb202,vs203,hR204,hc205⟩:=SlW.at' hr0 p197 p198
    obtain rfl:vs203=_:=hR204
    refine W_v (.pointer (some ⟨b199,o200+y170.toNat*4,none⟩)) (Qy Tryd.underlying65 ty61 (slA ee206) rfl p197 p198) rfl (QP (congrArg some hb194) (W_v (.pointer (some ⟨b199,o200+y170.toNat*4+2,none⟩)) (QC (o:=o200+y170.toNat*4) (off:=2) Tryd.underlying61 rfl ty4 rfl rfl) rfl (QP (congrArg some hb194) (W_v (.bool ((rd a0 y170).Tomb)) (QO (S.frz hb202) ty4 rfl (hc205 2 _ rfl)) rfl (QP (congrArg some hb194) (W_v (.bool (!((rd a0 y170).Tomb))) (Y5 (b:=((rd a0 y170).Tomb)) rfl) rfl (W_v (.bool (!((rd a0 y170).Tomb))) (QV (k:=true) (congrArg Value.bool hb194) rfl) rfl (QB ?_))))))))
    exact ⟨(!((rd a0 y170).Tomb)),Option.some.inj H,⟨rfl,rfl,rfl,rfl,rfl,trivial⟩,E,S.pick [0,1,2] (by decide)⟩
   ·skip
    refine QZ (skT hb194) rfl (QZ (skT hb194) rfl (QZ (skT hb194) rfl (QZ (skT hb194) rfl (QZ (skT hb194) rfl (QZ (skT hb194) rfl (W_v (.bool false) (QV (k:=false) (congrArg Value.bool hb194) rfl) rfl (QB ?_)))))))
    exact ⟨false,Option.some.inj H,⟨rfl,rfl,rfl,rfl,rfl,trivial⟩,E,S.pick [0,1,2] (by decide)⟩
  rintro ρ w207 ⟨x195,rfl,hρ,E,S⟩
  rw [QI hρ]
  have H:=o196H
  refine QB (tn ?_)
  rcases Zf H with ⟨hb208,H⟩ | ⟨hb208,H⟩
  ·refine QQ (congrArg Value.bool hb208) ?_
   refine QE (QA (W_v (.slice A0 a0.length c0) (QO (S.blk 2 rfl) ty65 rfl rfl) rfl (W_v (vI y170) (QD rfl) rfl ?_)))
   obtain ⟨⟨p209,p210⟩,H⟩:=Yy H
   obtain ⟨b211,o212,cs213,_,_,ee218,hb214,vs215,hR216,hc217⟩:=SlW.at' hr0 p209 p210
   obtain rfl:vs215=_:=hR216
   refine W_v (.pointer (some ⟨b211,o212+y170.toNat*4,none⟩)) (Qy Tryd.underlying65 ty61 (slA ee218) rfl p209 p210) rfl (W_v (.agg #[vI ((rd a0 y170).Writer),vI ((rd a0 y170).TS),.bool ((rd a0 y170).Tomb),vS ((rd a0 y170).Value)]) (ZA (S.frz hb214) ty61 rfl (Xa hc217 0 rfl) rfl rfl) rfl ?_)
   refine Qx S 1 rfl ty61 rfl rfl [vI ((rd a0 y170).Writer),vI ((rd a0 y170).TS),.bool ((rd a0 y170).Tomb),vS ((rd a0 y170).Value)] rfl rfl rfl #[vI ((rd a0 y170).Writer),vI ((rd a0 y170).TS),.bool ((rd a0 y170).Tomb),vS ((rd a0 y170).Value)] rfl rfl ?_
   intro w219 E' S
   replace E:=E.trans E'
   refine Qx S 0 rfl ty4 rfl rfl [.bool true] rfl rfl rfl #[.bool true] rfl rfl ?_
   intro w220 E' S
   replace E:=E.trans E'
   refine QB (tn ?_)
   refine Qs ?_
   refine br (?_)
   obtain rfl:=Option.some.inj H
   exact V3 rfl LE173 E (St.close_ex (φ:=(fun _ _=>True)) (hφ:=(fun _ _ _ _ _=>trivial)) () trivial (S.pick [0,1] (by decide)))
  refine QK (congrArg Value.bool hb208) (Qr (bn ?_))
  obtain rfl:=Option.some.inj H
  exact V3 trivial LE173 E (St.close_ex (φ:=(fun _ _=>True)) (hφ:=(fun _ _ _ _ _=>trivial)) () trivial (S.pick [0,1,2] (by decide)))
 intro w221 M222 Γ' hM223 E' hΨ S
 obtain rfl:Γ'=_:=hΨ
 replace E:=E.trans E'
 replace HM:=Hp.le_trans HM hM223
 have H:=o167H
 rcases o167 with _ | x166
 ·replace H:=elimL H
  refine UW ?_
  replace S:St w221 M222 F (AE (ι:=Unit) (fun (i:Unit)=>[Blk b7 (.cells #[.bool false] 4 (0,0)),Blk b4 (.cells cz16 61 (0,0)),Blk b1 (.cells #[.slice A0 a0.length c0] 65 (0,0))]) (fun _ _=>True) (fun _ _ _ _ _=>trivial)::[Blk b12 (.cells #[.slice A0 a0.length c0] 65 (0,0)),Blk b14 (.cells #[vI a1] 3 (0,0))]):=S
  obtain ⟨_,_,S⟩:=S.open_ex
  replace S:St w221 M222 F [_,_,_,_,_]:=S
  refine bn (tn (QE (QA (W_v (.agg cz16) (Z3 (pl:=[(0,1),(1,1),(2,1),(3,1)]) cz16 Tryd.underlying61 ty61 (by as_aux_lemma=>kernel_rfl) rfl (by as_aux_lemma=>kernel_rfl)) rfl ?_))))
  refine Qx S 1 rfl ty61 rfl rfl [vI 0,vI 0,.bool false,vS ([]:Str)] rfl rfl rfl cz16 rfl rfl ?_
  intro w224 E' S
  replace E:=E.trans E'
  refine Qx S 0 rfl ty4 rfl rfl [.bool false] rfl rfl rfl #[.bool false] rfl rfl ?_
  intro w225 E' S
  replace E:=E.trans E'
  refine QB (tn ?_)
  refine Qs ?_
  obtain rfl:=Option.some.inj H
  exact ⟨_,_,_,fun w1 e1=>QX (vs:=[.agg cz16,.bool false]) (FA.cons (⟨_,rfl,Qn ty61 ((S.of_eq e1).blk 1 rfl) (QM rfl) rfl (by decide)⟩) (FA.cons (⟨_,rfl,Xv ty4 ((S.of_eq e1).blk 0 rfl) rfl⟩) (FA.nil))),HM,E,S.pick [] (by decide),⟨rfl,rfl⟩⟩
 ·replace H:=elimR H
  refine qF ?_
  replace S:St w221 M222 F (AE (ι:=Unit) (fun (i:Unit)=>[Blk b7 (.cells #[.bool true] 4 (0,0)),B61 b4 x166]) (fun _ _=>True) (fun _ _ _ _ _=>trivial)::[Blk b12 (.cells #[.slice A0 a0.length c0] 65 (0,0)),Blk b14 (.cells #[vI a1] 3 (0,0))]):=S
  obtain ⟨_,_,S⟩:=S.open_ex
  replace S:St w221 M222 F [_,_,_,_]:=S
  refine Qs ?_
  refine br (tr (?_))
  obtain rfl:=Option.some.inj H
  exact ⟨_,_,_,fun w1 e1=>QX (vs:=[.agg #[vI x166.Writer,vI x166.TS,.bool x166.Tomb,vS x166.Value],.bool true]) (FA.cons (⟨_,rfl,Qn ty61 ((S.of_eq e1).blk 1 rfl) (QM rfl) rfl (by decide)⟩) (FA.cons (⟨_,rfl,Xv ty4 ((S.of_eq e1).blk 0 rfl) rfl⟩) (FA.nil))),HM,E,S.pick [] (by decide),⟨rfl,rfl⟩⟩
def XR (k:Nat) (a0:(List QS)) (a1:Int):Option (Bool) :=
 (Option.bind (α:=Bool) (if (decide ((a0.length:Int) > (0:Int)))=true then (if 0≤(0:Int)∧(0:Int) < (a0.length:Int) then some ((decide ((rd a0 (0:Int)).TS > a1))) else none) else some (false)) (fun x22=>some x22))
theorem XR.mono {k:Nat} {a0:(List QS)} {a1:Int}:OLe (XR k a0 a1) (XR (k+1) a0 a1):=by
 unfold XR
 exact mo
theorem XR.con (k:Nat) (M:Hp) (A0:Option Addr) (c0:Nat) (a0:(List QS)) (a1:Int) (r:Bool) (hr0:SlR Q4 M (.slice A0 a0.length c0) a0) (h:XR k a0 a1=some r):Con Tryd.prog 141 #[.slice A0 a0.length c0,vI a1] M [] (fun v M' Γ'=>v=.bool r∧Γ'=[]):=by
 refine Qt Tryd.func141 rfl Tryd.ntmps141 Tryd.results141 rfl ?_
 intro w F rn S hrn
 have E:=Ext.refl w
 have HM:=Hp.le_refl M
 have H:=h
 unfold XR at H
 refine QE (QA (W_v (.bool false) (QG rfl) rfl (QB (tn (QE (QA (W_v (.slice A0 a0.length c0) (QD rfl) rfl (W_v (vI (a0.length:Int)) (Q8 (n:=a0.length) Tryd.underlying65 rfl) rfl (W_v (.bool (decide ((a0.length:Int) > (0:Int)))) (Qa rfl rfl rfl rfl) rfl (W_v (.bool (decide ((a0.length:Int) > (0:Int)))) (QD rfl) rfl ?_))))))))))
 obtain ⟨o23,o23h,o23H⟩:=QW H
 refine ZH 7 (fun ρ w'=>∃ (x22:Bool),(x22)=o23∧Qi ρ [(15,.bool x22)]∧Ext w w'∧St w' M F []) ?_ ?_
 ·have H:=o23h
  rcases Zf H with ⟨hb21,H⟩ | ⟨hb21,H⟩
  ·skip
   refine QP (congrArg some hb21) (W_v (.slice A0 a0.length c0) (QD rfl) rfl (QP (congrArg some hb21) ?_))
   obtain ⟨⟨p24,p25⟩,H⟩:=Yy H
   obtain ⟨b26,o27,cs28,_,_,ee33,hb29,vs30,hR31,hc32⟩:=SlW.at' hr0 p24 p25
   obtain rfl:vs30=_:=hR31
   refine W_v (.pointer (some ⟨b26,o27+(0:Int).toNat*4,none⟩)) (Qy Tryd.underlying65 ty61 (slA ee33) rfl p24 p25) rfl (QP (congrArg some hb21) (W_v (.pointer (some ⟨b26,o27+(0:Int).toNat*4+1,none⟩)) (QC (o:=o27+(0:Int).toNat*4) (off:=1) Tryd.underlying61 rfl ty3 rfl rfl) rfl (QP (congrArg some hb21) (W_v (vI ((rd a0 (0:Int)).TS)) (QO (S.frz hb29) ty3 rfl (hc32 1 _ rfl)) rfl (QP (congrArg some hb21) (W_v (vI a1) (QD rfl) rfl (QP (congrArg some hb21) (W_v (.bool (decide ((rd a0 (0:Int)).TS > a1))) (Qa rfl rfl rfl rfl) rfl (W_v (.bool (decide ((rd a0 (0:Int)).TS > a1))) (QV (k:=true) (congrArg Value.bool hb21) rfl) rfl (QB ?_))))))))))
   exact ⟨(decide ((rd a0 (0:Int)).TS > a1)),Option.some.inj H,⟨rfl,trivial⟩,E,S.pick [] (by decide)⟩
  ·skip
   refine QZ (skT hb21) rfl (QZ (skT hb21) rfl (QZ (skT hb21) rfl (QZ (skT hb21) rfl (QZ (skT hb21) rfl (QZ (skT hb21) rfl (W_v (.bool false) (QV (k:=false) (congrArg Value.bool hb21) rfl) rfl (QB ?_)))))))
   exact ⟨false,Option.some.inj H,⟨rfl,trivial⟩,E,S.pick [] (by decide)⟩
 rintro ρ w34 ⟨x22,rfl,hρ,E,S⟩
 rw [QI hρ]
 have H:=o23H
 refine W_v (.bool x22) (QG rfl) rfl (QB (tn ?_))
 refine Qs ?_
 obtain rfl:=Option.some.inj H
 exact ⟨_,_,_,fun w1 e1=>QX (vs:=[.bool x22]) (FA.cons (rfl) (FA.nil)),HM,E,S.pick [] (by decide),⟨rfl,rfl⟩⟩
def XS (k:Nat) (a0:Str) (a1:Str) (a2:Str):Option (Bool) :=
 some ((sbin .leq a1 a0)&&((sbin .eql a2 ([]:Str))||(sbin .lss a0 a2)))
theorem XS.mono {k:Nat} {a0:Str} {a1:Str} {a2:Str}:OLe (XS k a0 a1 a2) (XS (k+1) a0 a1 a2):=by
 unfold XS
 exact mo
theorem XS.con (k:Nat) (M:Hp) (a0:Str) (a1:Str) (a2:Str) (r:Bool)  (h:XS k a0 a1 a2=some r):Con Tryd.prog 135 #[vS a0,vS a1,vS a2] M [] (fun v M' Γ'=>v=.bool r∧Γ'=[]):=by
 refine Qt Tryd.func135 rfl Tryd.ntmps135 Tryd.results135 rfl ?_
 intro w F rn S hrn
 have E:=Ext.refl w
 have HM:=Hp.le_refl M
 have H:=h
 unfold XS at H
 refine QE (QA (W_v (.bool false) (QG rfl) rfl (QB (tn (QE (QA (W_v (vS a1) (QD rfl) rfl (W_v (vS a0) (QD rfl) rfl (W_v (.bool (sbin .leq a1 a0)) (Xy rfl rfl rfl) rfl (W_v (.bool (sbin .leq a1 a0)) (QD rfl) rfl ?_))))))))))
 refine ZH 8 (fun ρ w'=>Qi ρ [(18,.bool ((sbin .leq a1 a0)&&((sbin .eql a2 ([]:Str))||(sbin .lss a0 a2))))]∧w=w') ?_ ?_
 ·as_aux_lemma =>
   rcases ZX (sbin .leq a1 a0) with hb3 | hb3
   ·skip
    refine QZ (skT hb3) rfl (QZ (skT hb3) rfl (QZ (skT hb3) rfl (QZ (rfl) rfl (QZ (rfl) rfl (QZ (rfl) rfl (QZ (skT hb3) rfl (W_v (.bool false) (QV (k:=false) (congrArg Value.bool hb3) rfl) rfl (QB ?_))))))))
    exact ⟨⟨(by first | rfl | (rw [hb3];rfl) | (simp only [hb3];rfl)),trivial⟩,rfl⟩
   ·skip
    refine QP (congrArg some hb3) (W_v (vS a2) (QD rfl) rfl (QP (congrArg some hb3) (W_v (.bool (sbin .eql a2 ([]:Str))) (Xy rfl rfl rfl) rfl (QP (congrArg some hb3) (W_v (.bool (sbin .eql a2 ([]:Str))) (QD rfl) rfl ?_)))))
    refine ZH 4 (fun ρ w'=>Qi ρ [(10,.bool (sbin .leq a1 a0)),(17,.bool ((sbin .eql a2 ([]:Str))||(sbin .lss a0 a2)))]∧w=w') ?_ ?_
    ·rcases ZX (sbin .eql a2 ([]:Str)) with hb4 | hb4
     ·skip
      refine QP (congrArg some hb4) (W_v (vS a0) (QD rfl) rfl (QP (congrArg some hb4) (W_v (vS a2) (QD rfl) rfl (QP (congrArg some hb4) (W_v (.bool (sbin .lss a0 a2)) (Xy rfl rfl rfl) rfl (QP (congrArg some hb3) (W_v (.bool (sbin .lss a0 a2)) (QV (k:=false) (congrArg Value.bool hb4) rfl) rfl (QB ?_))))))))
      exact ⟨⟨rfl,(by first | rfl | (rw [hb4];rfl) | (simp only [hb4];rfl)),trivial⟩,rfl⟩
     ·skip
      refine QZ (skF hb4) rfl (QZ (skF hb4) rfl (QZ (skF hb4) rfl (QP (congrArg some hb3) (W_v (.bool true) (QV (k:=true) (congrArg Value.bool hb4) rfl) rfl (QB ?_)))))
      exact ⟨⟨rfl,(by first | rfl | (rw [hb4];rfl) | (simp only [hb4];rfl)),trivial⟩,rfl⟩
    rintro ρ _ ⟨hρ,rfl⟩
    rw [QI hρ]
    refine W_v (.bool ((sbin .eql a2 ([]:Str))||(sbin .lss a0 a2))) (QV (k:=true) (congrArg Value.bool hb3) rfl) rfl (QB ?_)
    exact ⟨⟨(by first | rfl | (rw [hb3];rfl) | (simp only [hb3];rfl)),trivial⟩,rfl⟩
 rintro ρ _ ⟨hρ,rfl⟩
 rw [QI hρ]
 refine W_v (.bool ((sbin .leq a1 a0)&&((sbin .eql a2 ([]:Str))||(sbin .lss a0 a2)))) (QG rfl) rfl (QB (tn ?_))
 refine Qs ?_
 obtain rfl:=Option.some.inj H
 exact ⟨_,_,_,fun w1 e1=>QX (vs:=[.bool ((sbin .leq a1 a0)&&((sbin .eql a2 ([]:Str))||(sbin .lss a0 a2)))]) (FA.cons (rfl) (FA.nil)),HM,E,S.pick [] (by decide),⟨rfl,rfl⟩⟩
def XJ (a0:(List QS)) (k:Nat):(Int×Bool)→Int→Option ((Int)⊕(Unit))
 | (y164,y165),x113=>(Option.bind (α:=Int) (if (!y165)=true then some (x113) else (if 0≤y164∧y164 < (a0.length:Int) then (Option.bind (α:=Int) (if (!((rd a0 y164).Tomb))=true then some ((IntKind.i64.wrap (y164+(1:Int)))) else some (y164)) (fun x207=>some (x207))) else none)) (fun x189=>some (.inl x189)))
theorem XJ.mono {a0:(List QS)} {k:Nat}:∀ x s,OLe (XJ a0 k x s) (XJ a0 (k+1) x s):=by
 intro x s
 unfold XJ
 exact mo
def XY (k:Nat) (a0:(List QS)) (a1:Int):Option ((List QS)) :=
 (Option.bind (XA k a0 a1) (fun t8=>(Option.bind (XB k a0 a1 (XJ a0 k) (a0.length:Int)) (fun o161o=>Sum.elim (fun x113=>(if 0≤x113∧x113≤x113∧x113≤(a0.length:Int) then (Option.bind (Qz k (List.take x113.toNat a0)) (fun t221=>some t221)) else none)) (fun _=>none) o161o))))
theorem XY.mono {k:Nat} {a0:(List QS)} {a1:Int}:OLe (XY k a0 a1) (XY (k+1) a0 a1):=by
 unfold XY
 repeat' (first | with_reducible exact OLe.none | with_reducible exact OLe.some | with_reducible refine OLe.ite ?_ ?_ | with_reducible refine OLe.bind ?_ (fun _=>?_) | with_reducible exact XJ.mono | exact XB.mono (fun _ _=>by first | exact XJ.mono _ _) | with_reducible exact XA.mono | with_reducible exact Qz.mono | refine OLe.bind ?_ (fun _=>?_) | refine OLe.ite ?_ ?_ | refine OLe.elim (fun _=>?_) (fun _=>?_) | split)
theorem XY.con (k:Nat) (M:Hp) (A0:Option Addr) (c0:Nat) (a0:(List QS)) (a1:Int) (r:(List QS)) (hr0:SlR Q4 M (.slice A0 a0.length c0) a0) (h:XY k a0 a1=some r):Con Tryd.prog 139 #[.slice A0 a0.length c0,vI a1] M [] (fun v M' Γ'=>∃ (A0:Option Addr) (c0:Nat),v=.slice A0 r.length c0∧Γ'=[Row Q4 61 (.slice A0 r.length c0) r]):=by
 refine Qt Tryd.func139 rfl Tryd.ntmps139 Tryd.results139 rfl ?_
 intro w F rn S hrn
 have E:=Ext.refl w
 have HM:=Hp.le_refl M
 have H:=h
 unfold XY at H
 refine QE (QA ?_)
 refine Y8 S #[.slice A0 a0.length c0] rfl rfl rfl ?_
 intro b1 w2 E' S
 replace E:=E.trans E'
 refine W_v (.slice none 0 0) (QG rfl) rfl (QB (tn (QE (QA (W_v (.slice A0 a0.length c0) (QO (S.blk 0 rfl) ty65 rfl rfl) rfl (W_v (vI (a0.length:Int)) (Q8 (n:=a0.length) Tryd.underlying65 rfl) rfl ?_))))))
 refine Zo S #[vI 0] ty3 rfl rfl ?_
 intro b4 w5 E' S
 replace E:=E.trans E'
 refine Qx S 0 rfl ty3 rfl rfl [vI (a0.length:Int)] rfl rfl rfl #[vI (a0.length:Int)] rfl rfl ?_
 intro w7 E' S
 replace E:=E.trans E'
 refine QB (tn (QE (QE (QA (W_v (.slice A0 a0.length c0) (QO (S.blk 1 rfl) ty65 rfl rfl) rfl (W_v (vI a1) (QD rfl) rfl ?_))))))
 obtain ⟨t8,ht9,H⟩:=QW H
 refine Z5 fn143 (XA.con k M A0 c0 a0 a1 t8 hr0 ht9) (Γ1:=[]) (Γ2:=[_,_]) S rfl rfl (by rintro _ _ _ ⟨_,_,rfl,rfl⟩;exact (QN ZW (QN ZW Qd))) ?_
 rintro _ w14 _ Γ' E' S ⟨b10,b12,rfl,rfl⟩
 replace E:=E.trans E'
 replace S:St w14 M F [_,_,_,_]:=S
 refine QB (tn ?_)
 refine YP ?_
 obtain ⟨o161,o161h,o161H⟩:=QW H
 refine VI (σ:=Int) (ε:=Unit) (Γi:=[Blk b10 (.cells #[.slice A0 a0.length c0] 65 (0,0)),Blk b12 (.cells #[vI a1] 3 (0,0))]) (Γr:=[]) (Sum.elim (fun x113=>AE (ι:=Unit) (fun (i:Unit)=>[Blk b4 (.cells #[vI x113] 3 (0,0)),Blk b1 (.cells #[.slice A0 a0.length c0] 65 (0,0))]) (fun _ _=>True) (fun _ _ _ _ _=>trivial)) (fun _=>Star [])) (fun _=>Code.ret) fn144 rfl (St.close_ex (φ:=(fun _ _=>True)) (hφ:=(fun _ _ _ _ _=>trivial)) () trivial (S.pick [2,3,0,1] (by decide))) (by rintro _ _ _ rfl;rfl) (by decide) (XB.con k M A0 c0 a0 a1 b10 b12 (XJ a0 k) (a0.length:Int) o161 hr0 o161h) ?_ ?_
 ·intro nn lp M162 F yy vs x113 tt w hM163 henc hbd S
  obtain ⟨y164,y165⟩:=yy
  obtain rfl:=henc
  replace HM:=Hp.le_trans HM hM163
  replace hr0:=SlR.mono hr0 hM163
  replace S:St w M162 F (AE (ι:=Unit) (fun (i:Unit)=>[Blk b4 (.cells #[vI x113] 3 (0,0)),Blk b1 (.cells #[.slice A0 a0.length c0] 65 (0,0))]) (fun _ _=>True) (fun _ _ _ _ _=>trivial)::[]):=S
  obtain ⟨_,_,S⟩:=S.open_ex
  replace S:St w M162 F [_,_]:=S
  have E:=Ext.refl w
  have LE166:=Hp.le_refl M162
  have H:=hbd
  rw [XJ.eq_1] at H
  refine QE (QA (W_v (vI y164) (QG rfl) rfl (QB (tn (QA (W_v (.bool y165) (QG rfl) rfl (QB ?_)))))))
  refine YU ⟨_,_,LE166,E,S,?_⟩
  intro w F E3 S
  have E:=Ext.refl w
  have LE167:=Hp.le_refl M162
  obtain ⟨o190,o190h,o190H⟩:=QW H
  refine Y7 (fun ρ w'=>∃ (x189:Int),(x189)=o190∧Qi ρ [(2,pt b1 0),(4,.slice none 0 0),(5,pt b4 0)]∧Ext w w'∧St w' M162 F [Blk b4 (.cells #[vI x189] 3 (0,0)),Blk b1 (.cells #[.slice A0 a0.length c0] 65 (0,0))]) ?_ ?_
  ·as_aux_lemma =>
    clear o190H
    have H:=o190h
    refine YP ?_
    refine QE (QE (QA (W_v (.bool y165) (QD rfl) rfl (W_v (.bool (!y165)) (Y5 (b:=y165) rfl) rfl (QB (tn ?_))))))
    rcases Zf H with ⟨hb191,H⟩ | ⟨hb191,H⟩
    ·refine QQ (congrArg Value.bool hb191) ?_
     refine Y0 ?_
     refine tx (bsm (?_))
     refine tn ?_
     exact ⟨x113,Option.some.inj H,⟨rfl,rfl,rfl,trivial⟩,E,S.pick [0,1] (by decide)⟩
    refine QK (congrArg Value.bool hb191) (Qr (tn (QE (QA (W_v (vI y164) (QD rfl) rfl ?_)))))
    refine Qx S 0 rfl ty3 rfl rfl [vI y164] rfl rfl rfl #[vI y164] rfl rfl ?_
    intro w192 E' S
    replace E:=E.trans E'
    refine QB (tn (QE (QA (W_v (.slice A0 a0.length c0) (QO (S.blk 1 rfl) ty65 rfl rfl) rfl (W_v (vI y164) (QD rfl) rfl ?_)))))
    obtain ⟨⟨p193,p194⟩,H⟩:=Yy H
    obtain ⟨b195,o196,cs197,_,_,ee202,hb198,vs199,hR200,hc201⟩:=SlW.at' hr0 p193 p194
    obtain rfl:vs199=_:=hR200
    refine W_v (.pointer (some ⟨b195,o196+y164.toNat*4,none⟩)) (Qy Tryd.underlying65 ty61 (slA ee202) rfl p193 p194) rfl (W_v (.pointer (some ⟨b195,o196+y164.toNat*4+2,none⟩)) (QC (o:=o196+y164.toNat*4) (off:=2) Tryd.underlying61 rfl ty4 rfl rfl) rfl (W_v (.bool ((rd a0 y164).Tomb)) (QO (S.frz hb198) ty4 rfl (hc201 2 _ rfl)) rfl (W_v (.bool (!((rd a0 y164).Tomb))) (Y5 (b:=((rd a0 y164).Tomb)) rfl) rfl (QB (tn ?_)))))
    obtain ⟨o208,o208h,o208H⟩:=QW H
    refine Y7 (fun ρ w'=>∃ (x207:Int),(x207)=o208∧Qi ρ [(2,pt b1 0),(4,.slice none 0 0),(5,pt b4 0)]∧Ext w w'∧St w' M162 F [Blk b4 (.cells #[vI x207] 3 (0,0)),Blk b1 (.cells #[.slice A0 a0.length c0] 65 (0,0))]) ?_ ?_
    ·clear o208H
     have H:=o208h
     rcases Zf H with ⟨hb209,H⟩ | ⟨hb209,H⟩
     ·refine QQ (congrArg Value.bool hb209) ?_
      refine QA (W_v (vI y164) (QD rfl) rfl (W_v (vI (IntKind.i64.wrap (y164+(1:Int)))) (Qa rfl rfl rfl rfl) rfl ?_))
      refine Qx S 0 rfl ty3 rfl rfl [vI (IntKind.i64.wrap (y164+(1:Int)))] rfl rfl rfl #[vI (IntKind.i64.wrap (y164+(1:Int)))] rfl rfl ?_
      intro w210 E' S
      replace E:=E.trans E'
      refine QB (tn ?_)
      exact ⟨(IntKind.i64.wrap (y164+(1:Int))),Option.some.inj H,⟨rfl,rfl,rfl,trivial⟩,E,S.pick [0,1] (by decide)⟩
     refine QK (congrArg Value.bool hb209) (Qr (tn ?_))
     exact ⟨y164,Option.some.inj H,⟨rfl,rfl,rfl,trivial⟩,E,S.pick [0,1] (by decide)⟩
    rintro ρ w211 ⟨x207,rfl,hρ,E,S⟩
    rw [QI hρ]
    have H:=o208H
    refine bn (tn ?_)
    exact ⟨x207,Option.some.inj H,⟨rfl,rfl,rfl,trivial⟩,E,S.pick [0,1] (by decide)⟩
  rintro ρ w212 ⟨x189,rfl,hρ,E,S⟩
  rw [QI hρ]
  have H:=o190H
  obtain rfl:=Option.some.inj H
  exact V3 trivial LE167 E (St.close_ex (φ:=(fun _ _=>True)) (hφ:=(fun _ _ _ _ _=>trivial)) () trivial (S.pick [0,1] (by decide)))
 intro w213 M214 Γ' hM215 E' hΨ S
 obtain rfl:Γ'=_:=hΨ
 replace E:=E.trans E'
 replace HM:=Hp.le_trans HM hM215
 replace hr0:=SlR.mono hr0 hM215
 have H:=o161H
 rcases o161 with x113 | _
 ·replace H:=elimL H
  refine UW ?_
  replace S:St w213 M214 F (AE (ι:=Unit) (fun (i:Unit)=>[Blk b4 (.cells #[vI x113] 3 (0,0)),Blk b1 (.cells #[.slice A0 a0.length c0] 65 (0,0))]) (fun _ _=>True) (fun _ _ _ _ _=>trivial)::[Blk b10 (.cells #[.slice A0 a0.length c0] 65 (0,0)),Blk b12 (.cells #[vI a1] 3 (0,0))]):=S
  obtain ⟨_,_,S⟩:=S.open_ex
  replace S:St w213 M214 F [_,_,_,_]:=S
  refine bn (tn (QE (QA (W_v (.slice A0 a0.length c0) (QO (S.blk 1 rfl) ty65 rfl rfl) rfl (W_v (vI x113) (QO (S.blk 0 rfl) ty3 rfl rfl) rfl (W_v (vI x113) (QO (S.blk 0 rfl) ty3 rfl rfl) rfl ?_))))))
  obtain ⟨⟨p216,p217,p218⟩,H⟩:=Yy H
  obtain ⟨hs219,hx220⟩:=sl_hm hr0 p216 p217 p218
  refine W_v (.slice A0 (List.take x113.toNat a0).length x113.toNat) (hx220 Tryd.underlying65 ty61 rfl rfl rfl) rfl ?_
  obtain ⟨t221,ht222,H⟩:=QW H
  refine Zz fn45 (Qz.con k M214 A0 x113.toNat (List.take x113.toNat a0) t221 hs219 ht222) S rfl rfl (by rintro _ _ _ ⟨_,_,_,rfl⟩;exact (QN (YI (fun _ _ _ _ h=>h)) Qd)) ?_
  rintro _ w226 _ Γ' E' S ⟨A223,c224,rfl,rfl⟩
  replace E:=E.trans E'
  refine W_v (.slice A223 t221.length c224) (QG rfl) rfl (QB (tn ?_))
  refine Qs ?_
  obtain rfl:=Option.some.inj H
  exact ⟨_,_,_,fun w1 e1=>QX (vs:=[.slice A223 t221.length c224]) (FA.cons (rfl) (FA.nil)),HM,E,S.pick [0] (by decide),⟨A223,c224,rfl,rfl⟩⟩
 ·cases H
def Y6 (k:Nat) (a0:Qw):Option ((Unit)⊕(QJ)) :=
 (Option.bind (XZ k a0) (fun t4=>(if (!t4)=true then some (Sum.inl ()) else some (Sum.inr (⟨⟨a0.Tasks,a0.Active,a0.Keys,a0.Depth,a0.TS,a0.KeyLen,a0.ValLen,a0.Fan⟩,([]:List (Zi×Int)),([]:List (Int×Int)),([]:List Z9),([]:List (Str×Ql)),(0:Int),(0:Int)⟩:QJ)))))
theorem Y6.mono {k:Nat} {a0:Qw}:OLe (Y6 k a0) (Y6 (k+1) a0):=by
 unfold Y6
 have m1:=@XZ.mono
 exact mo
theorem Y6.con (k:Nat) (M:Hp) (a0:Qw) (r:(Unit)⊕(QJ))  (h:Y6 k a0=some r):Con Tryd.prog 13 #[.agg #[vI a0.Tasks,vI a0.Active,vI a0.Keys,vI a0.Depth,vI a0.TS,vI a0.KeyLen,vI a0.ValLen,vI a0.Fan]] M [] (fun v M' Γ'=>(Sum.elim (fun x=>v=.tuple #[.pointer none,vI 1]∧Γ'=[]) (fun x=>∃ (bq1:Nat) (Aq3:Option Addr) (cq4:Nat) (Aq6:Option Addr) (cq7:Nat) (Aq9:Option Addr) (cq10:Nat) (Aq12:Option Addr) (cq13:Nat) (vsq15:List (Str×Value)),v=.tuple #[pt bq1 0,vI 0]∧YV Qk M' x.rows vsq15∧Γ'=[B94 bq1 x Aq3 Aq6 Aq9 cq10 Aq12,QT QF (Value.int .i64) Aq3 x.names,QT (Value.int .i64) (Value.int .i64) Aq6 x.many,Row QL 99 (.slice Aq9 x.txs.length cq10) x.txs,QT encS (fun v:Value=>v) Aq12 vsq15])) r):=by
 refine Qt Tryd.func13 rfl Tryd.ntmps13 Tryd.results13 rfl ?_
 intro w F rn S hrn
 have E:=Ext.refl w
 have HM:=Hp.le_refl M
 have H:=h
 unfold Y6 at H
 refine QE (QA ?_)
 refine Y8 S #[vI a0.Tasks,vI a0.Active,vI a0.Keys,vI a0.Depth,vI a0.TS,vI a0.KeyLen,vI a0.ValLen,vI a0.Fan] rfl rfl rfl ?_
 intro b1 w2 E' S
 replace E:=E.trans E'
 refine W_v (.pointer none) (QG rfl) rfl (W_v (vI 0) (QG rfl) rfl (QB (tn (QE (QE (QA (W_v (.agg #[vI a0.Tasks,vI a0.Active,vI a0.Keys,vI a0.Depth,vI a0.TS,vI a0.KeyLen,vI a0.ValLen,vI a0.Fan]) (ZA (S.blk 0 rfl) ty23 rfl (QM rfl) rfl rfl) rfl ?_)))))))
 obtain ⟨t4,ht5,H⟩:=QW H
 refine Zz fn41 (XZ.con k M a0 t4  ht5) S rfl rfl (by rintro _ _ _ ⟨_,rfl⟩;exact Qd) ?_
 rintro _ w6 _ Γ' E' S ⟨rfl,rfl⟩
 replace E:=E.trans E'
 refine W_v (.bool (!t4)) (Y5 (b:=t4) rfl) rfl (QB (tn ?_))
 rcases Zf H with ⟨hb7,H⟩ | ⟨hb7,H⟩
 ·refine QQ (congrArg Value.bool hb7) ?_
  refine QE (QA (W_v (.pointer none) (QG rfl) rfl (W_v (vI 1) (QG rfl) rfl (QB (tn ?_)))))
  refine Qs ?_
  refine tr (?_)
  obtain rfl:=Option.some.inj H
  exact ⟨_,_,_,fun w1 e1=>QX (vs:=[.pointer none,vI 1]) (FA.cons (rfl) (FA.cons (rfl) (FA.nil))),HM,E,S.pick [] (by decide),⟨rfl,rfl⟩⟩
 refine QK (congrArg Value.bool hb7) (Qr (tn (QE (QA (W_v (.agg #[vI a0.Tasks,vI a0.Active,vI a0.Keys,vI a0.Depth,vI a0.TS,vI a0.KeyLen,vI a0.ValLen,vI a0.Fan]) (ZA (S.blk 0 rfl) ty23 rfl (QM rfl) rfl rfl) rfl ?_)))))
 refine Vw (κ:=Zi) (ν:=Int) QF (Value.int .i64) S rfl ?_
 intro b8 w9 E' S
 replace E:=E.trans E'
 replace S:St w9 M F [_,_]:=S
 refine Vw (κ:=Int) (ν:=Int) (Value.int .i64) (Value.int .i64) S rfl ?_
 intro b11 w12 E' S
 replace E:=E.trans E'
 replace S:St w12 M F [_,_,_]:=S
 refine Vw (κ:=Str) (ν:=Value) encS (fun v:Value=>v) S rfl ?_
 intro b14 w15 E' S
 replace E:=E.trans E'
 have hm17:YV Qk M ([]:List (Str×Ql)) ([]:List (Str×Value)):=YV.nil
 replace S:St w15 M F [_,_,_,_]:=S
 refine W_v (.agg #[vI a0.Tasks,vI a0.Active,vI a0.Keys,vI a0.Depth,vI a0.TS,vI a0.KeyLen,vI a0.ValLen,vI a0.Fan,.map (mb (some ⟨b8,0,none⟩)),.map (mb (some ⟨b11,0,none⟩)),.slice none 0 0,.map (mb (some ⟨b14,0,none⟩)),vI 0,vI 0]) (Z3 (pl:=[(0,8),(8,1),(9,1),(10,1),(11,1),(12,1),(13,1)]) #[vI a0.Tasks,vI a0.Active,vI a0.Keys,vI a0.Depth,vI a0.TS,vI a0.KeyLen,vI a0.ValLen,vI a0.Fan,.map (mb (some ⟨b8,0,none⟩)),.map (mb (some ⟨b11,0,none⟩)),.slice none 0 0,.map (mb (some ⟨b14,0,none⟩)),vI 0,vI 0] Tryd.underlying94 ty94 (by as_aux_lemma=>kernel_rfl) rfl (by as_aux_lemma=>kernel_rfl)) rfl ?_
 refine Y8 S #[vI a0.Tasks,vI a0.Active,vI a0.Keys,vI a0.Depth,vI a0.TS,vI a0.KeyLen,vI a0.ValLen,vI a0.Fan,.map (mb (some ⟨b8,0,none⟩)),.map (mb (some ⟨b11,0,none⟩)),.slice none 0 0,.map (mb (some ⟨b14,0,none⟩)),vI 0,vI 0] rfl rfl rfl ?_
 intro b18 w19 E' S
 replace E:=E.trans E'
 refine W_v (pt b18 0) (QG rfl) rfl (W_v (vI 0) (QG rfl) rfl (QB (tn ?_)))
 refine Qs ?_
 obtain rfl:=Option.some.inj H
 replace S:=S.row_nil QL 99
 exact ⟨_,_,_,fun w1 e1=>QX (vs:=[pt b18 0,vI 0]) (FA.cons (rfl) (FA.cons (rfl) (FA.nil))),HM,E,S.pick [1,4,3,0,2] (by decide),⟨b18,(some ⟨b8,0,none⟩),0,(some ⟨b11,0,none⟩),0,none,0,(some ⟨b14,0,none⟩),0,([]:List (Str×Value)),rfl,hm17,rfl⟩⟩
def Zy (k:Nat) (a0:QJ) (a1:Int) (a2:Int):Option (Int×Int×Int) :=
 (if (!((mget a0.names (⟨a1,a2⟩:Zi)).isSome))=true then some ((0:Int),(0:Int),(0:Int)) else (if 0≤(IntKind.i64.wrap (((mget a0.names (⟨a1,a2⟩:Zi)).getD (0:Int)) - (1:Int)))∧(IntKind.i64.wrap (((mget a0.names (⟨a1,a2⟩:Zi)).getD (0:Int)) - (1:Int))) < (a0.txs.length:Int) then some (((mget a0.names (⟨a1,a2⟩:Zi)).getD (0:Int)),(rd a0.txs (IntKind.i64.wrap (((mget a0.names (⟨a1,a2⟩:Zi)).getD (0:Int)) - (1:Int)))).state,(rd a0.txs (IntKind.i64.wrap (((mget a0.names (⟨a1,a2⟩:Zi)).getD (0:Int)) - (1:Int)))).snapshot) else none))
theorem Zy.mono {k:Nat} {a0:QJ} {a1:Int} {a2:Int}:OLe (Zy k a0 a1 a2) (Zy (k+1) a0 a1 a2):=by
 unfold Zy
 exact mo
theorem Zy.con (k:Nat) (M:Hp) (A0_8:Option Addr) (c0_8:Nat) (A0_9:Option Addr) (c0_9:Nat) (A0_10:Option Addr) (c0_10:Nat) (A0_11:Option Addr) (c0_11:Nat) (vs0_11:List (Str×Value)) (a0:QJ) (a1:Int) (a2:Int) (bo0:Nat) (r:Int×Int×Int) (hm0_11:YV Qk M a0.rows vs0_11) (h:Zy k a0 a1 a2=some r):Con Tryd.prog 23 #[pt bo0 0,vI a1,vI a2] M [B94 bo0 a0 A0_8 A0_9 A0_10 c0_10 A0_11,QT QF (Value.int .i64) A0_8 a0.names,QT (Value.int .i64) (Value.int .i64) A0_9 a0.many,Row QL 99 (.slice A0_10 a0.txs.length c0_10) a0.txs,QT encS (fun v:Value=>v) A0_11 vs0_11] (fun v M' Γ'=>v=.tuple #[vI r.1,vU r.2.1,vI r.2.2]∧Γ'=[B94 bo0 a0 A0_8 A0_9 A0_10 c0_10 A0_11,QT QF (Value.int .i64) A0_8 a0.names,QT (Value.int .i64) (Value.int .i64) A0_9 a0.many,Row QL 99 (.slice A0_10 a0.txs.length c0_10) a0.txs,QT encS (fun v:Value=>v) A0_11 vs0_11]):=by
 refine Qt Tryd.func23 rfl Tryd.ntmps23 Tryd.results23 rfl ?_
 intro w F rn S hrn
 have E:=Ext.refl w
 have HM:=Hp.le_refl M
 have H:=h
 unfold Zy at H
 refine QE (QA (W_v (vI 0) (QG rfl) rfl (W_v (vU 0) (QG rfl) rfl (W_v (vI 0) (QG rfl) rfl (QB (tn (QE (QE (QA (W_v (pt bo0 0) (QD rfl) rfl (W_v (.bool false) (Xe (r:=false) rfl rfl (XW Tryd.underlying27)) rfl (QB (tn (QK rfl (Qr ?_)))))))))))))))
 refine tn (QE (QA (W_v (pt bo0 0) (QD rfl) rfl (W_v (pt bo0 0) (Qo rfl) rfl (W_v (pt bo0 8) (QC (o:=0) (off:=8) Tryd.underlying94 rfl ty89 rfl rfl) rfl (W_v (.map (mb A0_8)) (QO (S.blk 0 rfl) ty89 rfl rfl) rfl (W_v (vI a1) (QD rfl) rfl (W_v (vI a2) (QD rfl) rfl (W_v (.agg #[vI a1,vI a2]) (Z3 (pl:=[(0,1),(1,1)]) #[vI a1,vI a2] Tryd.underlying104 ty104 (by as_aux_lemma=>kernel_rfl) rfl (by as_aux_lemma=>kernel_rfl)) rfl (W_v (.tuple #[vI ((mget a0.names (⟨a1,a2⟩:Zi)).getD (0:Int)),.bool ((mget a0.names (⟨a1,a2⟩:Zi)).isSome)]) (JX S 1 rfl Tryd.underlying89 key104 (0:Int) (fun _=>ty3.zero) (⟨a1,a2⟩:Zi) rfl rfl) rfl (W_v (.tuple #[vI ((mget a0.names (⟨a1,a2⟩:Zi)).getD (0:Int)),.bool ((mget a0.names (⟨a1,a2⟩:Zi)).isSome)]) (QD rfl) rfl (W_v (vI ((mget a0.names (⟨a1,a2⟩:Zi)).getD (0:Int))) (ZB rfl rfl) rfl (W_v (.bool ((mget a0.names (⟨a1,a2⟩:Zi)).isSome)) (ZB rfl rfl) rfl (W_v (vI ((mget a0.names (⟨a1,a2⟩:Zi)).getD (0:Int))) (QG rfl) rfl (W_v (.bool ((mget a0.names (⟨a1,a2⟩:Zi)).isSome)) (QG rfl) rfl ?_)))))))))))))))
 refine QB (tn (QE (QE (QA (W_v (.bool ((mget a0.names (⟨a1,a2⟩:Zi)).isSome)) (QD rfl) rfl (W_v (.bool (!((mget a0.names (⟨a1,a2⟩:Zi)).isSome))) (Y5 (b:=((mget a0.names (⟨a1,a2⟩:Zi)).isSome)) rfl) rfl (QB (tn ?_))))))))
 rcases Zf H with ⟨hb1,H⟩ | ⟨hb1,H⟩
 ·refine QQ (congrArg Value.bool hb1) ?_
  refine QE (QA (W_v (vI 0) (QG rfl) rfl (W_v (vU 0) (QG rfl) rfl (W_v (vI 0) (QG rfl) rfl (QB (tn ?_))))))
  refine Qs ?_
  refine tr (?_)
  obtain rfl:=Option.some.inj H
  exact ⟨_,_,_,fun w1 e1=>QX (vs:=[vI 0,vU 0,vI 0]) (FA.cons (rfl) (FA.cons (rfl) (FA.cons (rfl) (FA.nil)))),HM,E,S.pick [0,1,2,3,4] (by decide),⟨rfl,rfl⟩⟩
 refine QK (congrArg Value.bool hb1) (Qr (tn ?_))
 as_aux_lemma =>
 refine QE (QA (W_v (pt bo0 0) (QD rfl) rfl (W_v (pt bo0 0) (Qo rfl) rfl (W_v (pt bo0 10) (QC (o:=0) (off:=10) Tryd.underlying94 rfl ty92 rfl rfl) rfl (W_v (.slice A0_10 a0.txs.length c0_10) (QO (S.blk 0 rfl) ty92 rfl rfl) rfl (W_v (vI ((mget a0.names (⟨a1,a2⟩:Zi)).getD (0:Int))) (QD rfl) rfl (W_v (vI (IntKind.i64.wrap (((mget a0.names (⟨a1,a2⟩:Zi)).getD (0:Int)) - (1:Int)))) (Qa rfl rfl rfl rfl) rfl ?_)))))))
 obtain ⟨⟨p2,p3⟩,H⟩:=Yy H
 obtain ⟨b4,o5,cs6,_,_,ee11,hb7,vs8,hR9,hc10⟩:=SlW.at' (S.row_read 3 rfl) p2 p3
 obtain rfl:vs8=_:=hR9
 refine W_v (.pointer (some ⟨b4,o5+(IntKind.i64.wrap (((mget a0.names (⟨a1,a2⟩:Zi)).getD (0:Int)) - (1:Int))).toNat*2,none⟩)) (Qy Tryd.underlying92 ty99 (slA ee11) rfl p2 p3) rfl (W_v (.agg #[vU ((rd a0.txs (IntKind.i64.wrap (((mget a0.names (⟨a1,a2⟩:Zi)).getD (0:Int)) - (1:Int)))).state),vI ((rd a0.txs (IntKind.i64.wrap (((mget a0.names (⟨a1,a2⟩:Zi)).getD (0:Int)) - (1:Int)))).snapshot)]) (ZA (Hp.of_get hb7) ty99 rfl (Xa hc10 0 rfl) rfl rfl) rfl ?_)
 refine Zo S #[vU 0,vI 0] ty99 rfl rfl ?_
 intro b12 w13 E' S
 replace E:=E.trans E'
 refine Qx S 0 rfl ty99 rfl rfl [vU ((rd a0.txs (IntKind.i64.wrap (((mget a0.names (⟨a1,a2⟩:Zi)).getD (0:Int)) - (1:Int)))).state),vI ((rd a0.txs (IntKind.i64.wrap (((mget a0.names (⟨a1,a2⟩:Zi)).getD (0:Int)) - (1:Int)))).snapshot)] rfl rfl rfl #[vU ((rd a0.txs (IntKind.i64.wrap (((mget a0.names (⟨a1,a2⟩:Zi)).getD (0:Int)) - (1:Int)))).state),vI ((rd a0.txs (IntKind.i64.wrap (((mget a0.names (⟨a1,a2⟩:Zi)).getD (0:Int)) - (1:Int)))).snapshot)] rfl rfl ?_
 intro w15 E' S
 replace E:=E.trans E'
 refine QB (tn (QE ?_))
 refine Q0 (S:=fun w'=>∃ Mx,M.le Mx∧St w' Mx F [Blk b12 (.cells #[vU ((rd a0.txs (IntKind.i64.wrap (((mget a0.names (⟨a1,a2⟩:Zi)).getD (0:Int)) - (1:Int)))).state),vI ((rd a0.txs (IntKind.i64.wrap (((mget a0.names (⟨a1,a2⟩:Zi)).getD (0:Int)) - (1:Int)))).snapshot)] 99 (0,0)),B94 bo0 a0 A0_8 A0_9 A0_10 c0_10 A0_11,QT QF (Value.int .i64) A0_8 a0.names,QT (Value.int .i64) (Value.int .i64) A0_9 a0.many,Row QL 99 (.slice A0_10 a0.txs.length c0_10) a0.txs,QT encS (fun v:Value=>v) A0_11 vs0_11]) (L:=8) mixed ?_
 intro w16 hw17 E'
 replace S:=S.heap hw17
 replace E:=E.trans E'
 have D1:∃ Mx,Hp.le M Mx∧St _ Mx F [_,_,_,_,_,_]:=⟨_,Hp.le_refl _,S.pick [0,1,2,3,4,5] (by decide)⟩
 refine Wt 0 rfl rfl rfl (vI ((mget a0.names (⟨a1,a2⟩:Zi)).getD (0:Int))) rfl (fun w' h'=>QD rfl) D1 (Wt 1 rfl rfl rfl (pt b12 0) rfl (fun w' h'=>QC (o:=0) (off:=0) Tryd.underlying99 rfl ty5 rfl rfl) D1 (Wt 2 rfl rfl rfl (vU ((rd a0.txs (IntKind.i64.wrap (((mget a0.names (⟨a1,a2⟩:Zi)).getD (0:Int)) - (1:Int)))).state)) rfl (fun w' h'=>QO (Qp h' 0 rfl) ty5 rfl rfl) D1 (Wt 3 rfl rfl rfl (pt b12 1) rfl (fun w' h'=>QC (o:=0) (off:=1) Tryd.underlying99 rfl ty3 rfl rfl) D1 (Wt 4 rfl rfl rfl (vI ((rd a0.txs (IntKind.i64.wrap (((mget a0.names (⟨a1,a2⟩:Zi)).getD (0:Int)) - (1:Int)))).snapshot)) rfl (fun w' h'=>QO (Qp h' 0 rfl) ty3 rfl rfl) D1 (Wt 5 rfl rfl rfl (vI ((mget a0.names (⟨a1,a2⟩:Zi)).getD (0:Int))) rfl (fun w' h'=>QG rfl) D1 (Wt 6 rfl rfl rfl (vU ((rd a0.txs (IntKind.i64.wrap (((mget a0.names (⟨a1,a2⟩:Zi)).getD (0:Int)) - (1:Int)))).state)) rfl (fun w' h'=>QG rfl) D1 (Wt 7 rfl rfl rfl (vI ((rd a0.txs (IntKind.i64.wrap (((mget a0.names (⟨a1,a2⟩:Zi)).getD (0:Int)) - (1:Int)))).snapshot)) rfl (fun w' h'=>QG rfl) D1 ?_)))))))
 refine Wz ?_
 refine tn ?_
 refine Qs ?_
 obtain rfl:=Option.some.inj H
 exact ⟨_,_,_,fun w1 e1=>QX (vs:=[vI ((mget a0.names (⟨a1,a2⟩:Zi)).getD (0:Int)),vU ((rd a0.txs (IntKind.i64.wrap (((mget a0.names (⟨a1,a2⟩:Zi)).getD (0:Int)) - (1:Int)))).state),vI ((rd a0.txs (IntKind.i64.wrap (((mget a0.names (⟨a1,a2⟩:Zi)).getD (0:Int)) - (1:Int)))).snapshot)]) (FA.cons (rfl) (FA.cons (rfl) (FA.cons (rfl) (FA.nil)))),HM,E,S.pick [1,2,3,4,5] (by decide),⟨rfl,rfl⟩⟩
def YM (k:Nat) (a0:QJ) (a1:ZE):Option (Bool) :=
 (Option.bind (α:=Bool) (if (a1.Kind==(2:Int))=true then some ((a1.Kind==(2:Int))) else some ((a1.Kind==(4:Int)))) (fun x6=>(if x6=true then (Option.bind (Xb k a0.c a1.Key) (fun t16=>some t16)) else (if (a1.Kind==(3:Int))=true then (Option.bind (Xb k a0.c a1.Key) (fun t35=>(Option.bind (α:=Bool) (if t35=true then (Option.bind (XV k a0.c a1.Value) (fun t44=>some (t44))) else some (false)) (fun x42=>some x42)))) else (if (a1.Kind==(5:Int))=true then (Option.bind (XH k a0.c a1.Key) (fun t66=>(Option.bind (α:=Bool) (if t66=true then (Option.bind (XH k a0.c a1.End) (fun t75=>some (t75))) else some (false)) (fun x73=>some ((x73&&(decide (a1.Limit≥(0:Int))))&&(decide (a1.Limit≤(128:Int)))))))) else some true)))))
theorem YM.mono {k:Nat} {a0:QJ} {a1:ZE}:OLe (YM k a0 a1) (YM (k+1) a0 a1):=by
 unfold YM
 have m1:=@XH.mono
 have m2:=@Xb.mono
 have m3:=@XV.mono
 exact mo
theorem YM.con (k:Nat) (M:Hp) (A0_8:Option Addr) (c0_8:Nat) (A0_9:Option Addr) (c0_9:Nat) (A0_10:Option Addr) (c0_10:Nat) (A0_11:Option Addr) (c0_11:Nat) (vs0_11:List (Str×Value)) (a0:QJ) (a1:ZE) (bo0:Nat) (r:Bool) (hm0_11:YV Qk M a0.rows vs0_11) (h:YM k a0 a1=some r):Con Tryd.prog 44 #[pt bo0 0,.agg #[vU a1.Kind,vI a1.Tx,vS a1.Key,vS a1.End,vS a1.Value,vI a1.Limit,vU a1.Engine]] M [B94 bo0 a0 A0_8 A0_9 A0_10 c0_10 A0_11,QT QF (Value.int .i64) A0_8 a0.names,QT (Value.int .i64) (Value.int .i64) A0_9 a0.many,Row QL 99 (.slice A0_10 a0.txs.length c0_10) a0.txs,QT encS (fun v:Value=>v) A0_11 vs0_11] (fun v M' Γ'=>v=.bool r∧Γ'=[B94 bo0 a0 A0_8 A0_9 A0_10 c0_10 A0_11,QT QF (Value.int .i64) A0_8 a0.names,QT (Value.int .i64) (Value.int .i64) A0_9 a0.many,Row QL 99 (.slice A0_10 a0.txs.length c0_10) a0.txs,QT encS (fun v:Value=>v) A0_11 vs0_11]):=by
 refine Qt Tryd.func44 rfl Tryd.ntmps44 Tryd.results44 rfl ?_
 intro w F rn S hrn
 have E:=Ext.refl w
 have HM:=Hp.le_refl M
 have H:=h
 unfold YM at H
 refine QE (QA ?_)
 refine Y8 S #[vU a1.Kind,vI a1.Tx,vS a1.Key,vS a1.End,vS a1.Value,vI a1.Limit,vU a1.Engine] rfl rfl rfl ?_
 intro b1 w2 E' S
 replace E:=E.trans E'
 refine W_v (.bool false) (QG rfl) rfl (QB (tn (QE (QE (QA (W_v (pt b1 0) (QC (o:=0) (off:=0) Tryd.underlying37 rfl ty5 rfl rfl) rfl (W_v (vU a1.Kind) (QO (S.blk 0 rfl) ty5 rfl rfl) rfl (QB (tn ?_)))))))))
 refine YP ?_
 refine QE (QE (QA (W_v (.bool (a1.Kind==(2:Int))) (Qa rfl rfl rfl rfl) rfl (W_v (.bool (a1.Kind==(2:Int))) (QG rfl) rfl (QB (tn ?_))))))
 obtain ⟨o7,o7h,o7H⟩:=QW H
 refine Y7 (fun ρ w'=>∃ (x6:Bool),(x6)=o7∧Qi ρ [(0,pt bo0 0),(3,pt b1 0),(6,vU a1.Kind),(7,.bool x6)]∧Ext w w'∧St w' M F [B37 b1 a1,B94 bo0 a0 A0_8 A0_9 A0_10 c0_10 A0_11,QT QF (Value.int .i64) A0_8 a0.names,QT (Value.int .i64) (Value.int .i64) A0_9 a0.many,Row QL 99 (.slice A0_10 a0.txs.length c0_10) a0.txs,QT encS (fun v:Value=>v) A0_11 vs0_11]) ?_ ?_
 ·clear o7H
  have H:=o7h
  rcases Zf H with ⟨hb8,H⟩ | ⟨hb8,H⟩
  ·refine QQ (congrArg Value.bool hb8) ?_
   refine Qr (tn ?_)
   exact ⟨(a1.Kind==(2:Int)),Option.some.inj H,⟨rfl,rfl,rfl,rfl,trivial⟩,E,S.pick [0,1,2,3,4,5] (by decide)⟩
  refine QK (congrArg Value.bool hb8) (QA (W_v (.bool (a1.Kind==(4:Int))) (Qa rfl rfl rfl rfl) rfl (W_v (.bool (a1.Kind==(4:Int))) (QG rfl) rfl (QB (tn ?_)))))
  exact ⟨(a1.Kind==(4:Int)),Option.some.inj H,⟨rfl,rfl,rfl,rfl,trivial⟩,E,S.pick [0,1,2,3,4,5] (by decide)⟩
 as_aux_lemma =>
 rintro ρ w9 ⟨x6,rfl,hρ,E,S⟩
 rw [QI hρ]
 have H:=o7H
 refine tn ?_
 rcases Zf H with ⟨hb10,H⟩ | ⟨hb10,H⟩
 ·refine QQ (congrArg Value.bool hb10) ?_
  refine QE ?_
  refine Q0 (S:=fun w'=>∃ Mx,M.le Mx∧St w' Mx F [B37 b1 a1,B94 bo0 a0 A0_8 A0_9 A0_10 c0_10 A0_11,QT QF (Value.int .i64) A0_8 a0.names,QT (Value.int .i64) (Value.int .i64) A0_9 a0.many,Row QL 99 (.slice A0_10 a0.txs.length c0_10) a0.txs,QT encS (fun v:Value=>v) A0_11 vs0_11]) (L:=8) mixed ?_
  intro w14 hw15 E'
  replace S:=S.heap hw15
  replace E:=E.trans E'
  have D1:∃ Mx,Hp.le M Mx∧St _ Mx F [_,_,_,_,_,_]:=⟨_,Hp.le_refl _,S.pick [0,1,2,3,4,5] (by decide)⟩
  refine Wt 0 rfl rfl rfl (pt bo0 0) rfl (fun w' h'=>QD rfl) D1 (Wt 1 rfl rfl rfl (pt bo0 0) rfl (fun w' h'=>Qo rfl) D1 (Wt 2 rfl rfl rfl (pt bo0 0) rfl (fun w' h'=>QC (o:=0) (off:=0) Tryd.underlying94 rfl ty23 rfl rfl) D1 (Wt 3 rfl rfl rfl (.agg #[vI a0.c.Tasks,vI a0.c.Active,vI a0.c.Keys,vI a0.c.Depth,vI a0.c.TS,vI a0.c.KeyLen,vI a0.c.ValLen,vI a0.c.Fan]) rfl (fun w' h'=>ZA (Qp h' 1 rfl) ty23 rfl (QM rfl) rfl rfl) D1 (Wt 4 rfl rfl rfl (pt b1 2) rfl (fun w' h'=>QC (o:=0) (off:=2) Tryd.underlying37 rfl ty9 rfl rfl) D1 (Wt 5 rfl rfl rfl (vS a1.Key) rfl (fun w' h'=>QO (Qp h' 0 rfl) ty9 rfl rfl) D1 ?_)))))
  refine Wo 6 rfl ?_
  obtain ⟨t16,ht17,H⟩:=QW H
  refine Zz fn70 (Xb.con k M a0.c a1.Key t16  ht17) S rfl rfl (by rintro _ _ _ ⟨_,rfl⟩;exact Qd) ?_
  rintro _ w18 _ Γ' E' S ⟨rfl,rfl⟩
  replace E:=E.trans E'
  refine QB (YU ⟨.inr ⟨M,Hp.le_refl M,(S.pick [0,1,2,3,4,5] (by decide))⟩,?_⟩)
  refine Wt 7 rfl rfl rfl (.bool t16) rfl (fun w' h'=>QG rfl) (⟨M,Hp.le_refl M,(S.pick [0,1,2,3,4,5] (by decide))⟩) ?_
  refine Wz ?_
  refine tn ?_
  refine Qs ?_
  refine br (tr (?_))
  obtain rfl:=Option.some.inj H
  exact ⟨_,_,_,fun w1 e1=>QX (vs:=[.bool t16]) (FA.cons (rfl) (FA.nil)),HM,E,S.pick [1,2,3,4,5] (by decide),⟨rfl,rfl⟩⟩
 refine QK (congrArg Value.bool hb10) (QE (QA (W_v (.bool (a1.Kind==(3:Int))) (Qa rfl rfl rfl rfl) rfl (W_v (.bool (a1.Kind==(3:Int))) (QG rfl) rfl (QB (tn ?_))))))
 rcases Zf H with ⟨hb19,H⟩ | ⟨hb19,H⟩
 ·refine QQ (congrArg Value.bool hb19) ?_
  refine QE ?_
  refine Q0 (S:=fun w'=>∃ Mx,M.le Mx∧St w' Mx F [B37 b1 a1,B94 bo0 a0 A0_8 A0_9 A0_10 c0_10 A0_11,QT QF (Value.int .i64) A0_8 a0.names,QT (Value.int .i64) (Value.int .i64) A0_9 a0.many,Row QL 99 (.slice A0_10 a0.txs.length c0_10) a0.txs,QT encS (fun v:Value=>v) A0_11 vs0_11]) (L:=17) mixed ?_
  intro w33 hw34 E'
  replace S:=S.heap hw34
  replace E:=E.trans E'
  have D3:∃ Mx,Hp.le M Mx∧St _ Mx F [_,_,_,_,_,_]:=⟨_,Hp.le_refl _,S.pick [0,1,2,3,4,5] (by decide)⟩
  refine Wt 0 rfl rfl rfl (pt bo0 0) rfl (fun w' h'=>QD rfl) D3 (Wt 1 rfl rfl rfl (pt bo0 0) rfl (fun w' h'=>Qo rfl) D3 (Wt 2 rfl rfl rfl (pt bo0 0) rfl (fun w' h'=>QC (o:=0) (off:=0) Tryd.underlying94 rfl ty23 rfl rfl) D3 (Wt 3 rfl rfl rfl (.agg #[vI a0.c.Tasks,vI a0.c.Active,vI a0.c.Keys,vI a0.c.Depth,vI a0.c.TS,vI a0.c.KeyLen,vI a0.c.ValLen,vI a0.c.Fan]) rfl (fun w' h'=>ZA (Qp h' 1 rfl) ty23 rfl (QM rfl) rfl rfl) D3 (Wt 4 rfl rfl rfl (pt b1 2) rfl (fun w' h'=>QC (o:=0) (off:=2) Tryd.underlying37 rfl ty9 rfl rfl) D3 (Wt 5 rfl rfl rfl (vS a1.Key) rfl (fun w' h'=>QO (Qp h' 0 rfl) ty9 rfl rfl) D3 ?_)))))
  refine Wo 6 rfl ?_
  obtain ⟨t35,ht36,H⟩:=QW H
  refine Zz fn70 (Xb.con k M a0.c a1.Key t35  ht36) S rfl rfl (by rintro _ _ _ ⟨_,rfl⟩;exact Qd) ?_
  rintro _ w37 _ Γ' E' S ⟨rfl,rfl⟩
  replace E:=E.trans E'
  refine QB (YU ⟨.inr ⟨M,Hp.le_refl M,(S.pick [0,1,2,3,4,5] (by decide))⟩,?_⟩)
  refine Wt 7 rfl rfl rfl (.bool t35) rfl (fun w' h'=>QD rfl) (⟨M,Hp.le_refl M,(S.pick [0,1,2,3,4,5] (by decide))⟩) ?_
  obtain ⟨o43,o43h,o43H⟩:=QW H
  refine YD (fun ρ w'=>∃ (x42:Bool),(x42)=o43∧Qi ρ [(34,.bool x42)]∧Ext w w'∧St w' M F [B37 b1 a1,B94 bo0 a0 A0_8 A0_9 A0_10 c0_10 A0_11,QT QF (Value.int .i64) A0_8 a0.names,QT (Value.int .i64) (Value.int .i64) A0_9 a0.many,Row QL 99 (.slice A0_10 a0.txs.length c0_10) a0.txs,QT encS (fun v:Value=>v) A0_11 vs0_11]) 1 (Ls 17 [0,1,2,3,4,5,6,7,8,9,10,11,12,13,14,15]) ?_ ?_
  rotate_left
  ·intro hrest
   have H:=o43h
   rcases Zf H with ⟨hb41,H⟩ | ⟨hb41,H⟩
   ·skip
    have D5:∃ Mx,Hp.le M Mx∧St _ Mx F [_,_,_,_,_,_]:=⟨_,Hp.le_refl _,S.pick [0,1,2,3,4,5] (by decide)⟩
    refine WtY 8 rfl rfl rfl (pt bo0 0) rfl (congrArg some hb41) (fun w' h'=>QD rfl) D5 (WtY 9 rfl rfl rfl (pt bo0 0) rfl (congrArg some hb41) (fun w' h'=>Qo rfl) D5 (WtY 10 rfl rfl rfl (pt bo0 0) rfl (congrArg some hb41) (fun w' h'=>QC (o:=0) (off:=0) Tryd.underlying94 rfl ty23 rfl rfl) D5 (WtY 11 rfl rfl rfl (.agg #[vI a0.c.Tasks,vI a0.c.Active,vI a0.c.Keys,vI a0.c.Depth,vI a0.c.TS,vI a0.c.KeyLen,vI a0.c.ValLen,vI a0.c.Fan]) rfl (congrArg some hb41) (fun w' h'=>ZA (Qp h' 1 rfl) ty23 rfl (QM rfl) rfl rfl) D5 (WtY 12 rfl rfl rfl (pt b1 4) rfl (congrArg some hb41) (fun w' h'=>QC (o:=0) (off:=4) Tryd.underlying37 rfl ty9 rfl rfl) D5 (WtY 13 rfl rfl rfl (vS a1.Value) rfl (congrArg some hb41) (fun w' h'=>QO (Qp h' 0 rfl) ty9 rfl rfl) D5 ?_)))))
    refine Wo 14 rfl ?_
    refine QP (congrArg some hb41) ?_
    obtain ⟨t44,ht45,H⟩:=QW H
    refine Zz fn71 (XV.con k M a0.c a1.Value t44  ht45) S rfl rfl (by rintro _ _ _ ⟨_,rfl⟩;exact Qd) ?_
    rintro _ w46 _ Γ' E' S ⟨rfl,rfl⟩
    replace E:=E.trans E'
    refine QB (YU ⟨.inr ⟨M,Hp.le_refl M,(S.pick [0,1,2,3,4,5] (by decide))⟩,?_⟩)
    refine Wt 15 rfl rfl rfl (.bool t44) rfl (fun w' h'=>QV (k:=true) (congrArg Value.bool hb41) rfl) (⟨M,Hp.le_refl M,(S.pick [0,1,2,3,4,5] (by decide))⟩) ?_
    exact hrest _ _ ⟨t44,Option.some.inj H,⟨rfl,trivial⟩,E,S.pick [0,1,2,3,4,5] (by decide)⟩
   ·skip
    have D7:∃ Mx,Hp.le M Mx∧St _ Mx F [_,_,_,_,_,_]:=⟨_,Hp.le_refl _,S.pick [0,1,2,3,4,5] (by decide)⟩
    refine WtN 8 rfl rfl rfl rfl (skT hb41) D7 (WtN 9 rfl rfl rfl rfl (skT hb41) D7 (WtN 10 rfl rfl rfl rfl (skT hb41) D7 (WtN 11 rfl rfl rfl rfl (skT hb41) D7 (WtN 12 rfl rfl rfl rfl (skT hb41) D7 (WtN 13 rfl rfl rfl rfl (skT hb41) D7 (WtN 14 rfl rfl rfl rfl (skT hb41) D7 (Wt 15 rfl rfl rfl (.bool false) rfl (fun w' h'=>QV (k:=false) (congrArg Value.bool hb41) rfl) D7 ?_)))))))
    exact hrest _ _ ⟨false,Option.some.inj H,⟨rfl,trivial⟩,E,S.pick [0,1,2,3,4,5] (by decide)⟩
  rintro ρ w47 ⟨x42,rfl,hρ,E,S⟩
  rw [QI hρ]
  have H:=o43H
  refine Wt 16 rfl rfl rfl (.bool x42) rfl (fun w' h'=>QG rfl) (⟨M,Hp.le_refl M,(S.pick [0,1,2,3,4,5] (by decide))⟩) ?_
  refine Wz ?_
  refine tn ?_
  refine Qs ?_
  refine br (tr (?_))
  obtain rfl:=Option.some.inj H
  exact ⟨_,_,_,fun w1 e1=>QX (vs:=[.bool x42]) (FA.cons (rfl) (FA.nil)),HM,E,S.pick [1,2,3,4,5] (by decide),⟨rfl,rfl⟩⟩
 refine QK (congrArg Value.bool hb19) ?_
 as_aux_lemma =>
 refine QE (QA (W_v (.bool (a1.Kind==(5:Int))) (Qa rfl rfl rfl rfl) rfl (W_v (.bool (a1.Kind==(5:Int))) (QG rfl) rfl (QB (tn ?_)))))
 rcases Zf H with ⟨hb48,H⟩ | ⟨hb48,H⟩
 ·refine QQ (congrArg Value.bool hb48) ?_
  refine QE ?_
  refine Q0 (S:=fun w'=>∃ Mx,M.le Mx∧St w' Mx F [B37 b1 a1,B94 bo0 a0 A0_8 A0_9 A0_10 c0_10 A0_11,QT QF (Value.int .i64) A0_8 a0.names,QT (Value.int .i64) (Value.int .i64) A0_9 a0.many,Row QL 99 (.slice A0_10 a0.txs.length c0_10) a0.txs,QT encS (fun v:Value=>v) A0_11 vs0_11]) (L:=27) mixed ?_
  intro w64 hw65 E'
  replace S:=S.heap hw65
  replace E:=E.trans E'
  have D9:∃ Mx,Hp.le M Mx∧St _ Mx F [_,_,_,_,_,_]:=⟨_,Hp.le_refl _,S.pick [0,1,2,3,4,5] (by decide)⟩
  refine Wt 0 rfl rfl rfl (pt bo0 0) rfl (fun w' h'=>QD rfl) D9 (Wt 1 rfl rfl rfl (pt bo0 0) rfl (fun w' h'=>Qo rfl) D9 (Wt 2 rfl rfl rfl (pt bo0 0) rfl (fun w' h'=>QC (o:=0) (off:=0) Tryd.underlying94 rfl ty23 rfl rfl) D9 (Wt 3 rfl rfl rfl (.agg #[vI a0.c.Tasks,vI a0.c.Active,vI a0.c.Keys,vI a0.c.Depth,vI a0.c.TS,vI a0.c.KeyLen,vI a0.c.ValLen,vI a0.c.Fan]) rfl (fun w' h'=>ZA (Qp h' 1 rfl) ty23 rfl (QM rfl) rfl rfl) D9 (Wt 4 rfl rfl rfl (pt b1 2) rfl (fun w' h'=>QC (o:=0) (off:=2) Tryd.underlying37 rfl ty9 rfl rfl) D9 (Wt 5 rfl rfl rfl (vS a1.Key) rfl (fun w' h'=>QO (Qp h' 0 rfl) ty9 rfl rfl) D9 ?_)))))
  refine Wo 6 rfl ?_
  obtain ⟨t66,ht67,H⟩:=QW H
  refine Zz fn72 (XH.con k M a0.c a1.Key t66  ht67) S rfl rfl (by rintro _ _ _ ⟨_,rfl⟩;exact Qd) ?_
  rintro _ w68 _ Γ' E' S ⟨rfl,rfl⟩
  replace E:=E.trans E'
  refine QB (YU ⟨.inr ⟨M,Hp.le_refl M,(S.pick [0,1,2,3,4,5] (by decide))⟩,?_⟩)
  refine Wt 7 rfl rfl rfl (.bool t66) rfl (fun w' h'=>QD rfl) (⟨M,Hp.le_refl M,(S.pick [0,1,2,3,4,5] (by decide))⟩) ?_
  obtain ⟨o74,o74h,o74H⟩:=QW H
  refine YD (fun ρ w'=>∃ (x73:Bool),(x73)=o74∧Qi ρ [(3,pt b1 0),(52,.bool x73)]∧Ext w w'∧St w' M F [B37 b1 a1,B94 bo0 a0 A0_8 A0_9 A0_10 c0_10 A0_11,QT QF (Value.int .i64) A0_8 a0.names,QT (Value.int .i64) (Value.int .i64) A0_9 a0.many,Row QL 99 (.slice A0_10 a0.txs.length c0_10) a0.txs,QT encS (fun v:Value=>v) A0_11 vs0_11]) 11 (Ls 27 [0,1,2,3,4,5,6,7,8,9,10,11,12,13,14,15]) ?_ ?_
  rotate_left
  ·intro hrest
   have H:=o74h
   rcases Zf H with ⟨hb72,H⟩ | ⟨hb72,H⟩
   ·skip
    have D11:∃ Mx,Hp.le M Mx∧St _ Mx F [_,_,_,_,_,_]:=⟨_,Hp.le_refl _,S.pick [0,1,2,3,4,5] (by decide)⟩
    refine WtY 8 rfl rfl rfl (pt bo0 0) rfl (congrArg some hb72) (fun w' h'=>QD rfl) D11 (WtY 9 rfl rfl rfl (pt bo0 0) rfl (congrArg some hb72) (fun w' h'=>Qo rfl) D11 (WtY 10 rfl rfl rfl (pt bo0 0) rfl (congrArg some hb72) (fun w' h'=>QC (o:=0) (off:=0) Tryd.underlying94 rfl ty23 rfl rfl) D11 (WtY 11 rfl rfl rfl (.agg #[vI a0.c.Tasks,vI a0.c.Active,vI a0.c.Keys,vI a0.c.Depth,vI a0.c.TS,vI a0.c.KeyLen,vI a0.c.ValLen,vI a0.c.Fan]) rfl (congrArg some hb72) (fun w' h'=>ZA (Qp h' 1 rfl) ty23 rfl (QM rfl) rfl rfl) D11 (WtY 12 rfl rfl rfl (pt b1 3) rfl (congrArg some hb72) (fun w' h'=>QC (o:=0) (off:=3) Tryd.underlying37 rfl ty9 rfl rfl) D11 (WtY 13 rfl rfl rfl (vS a1.End) rfl (congrArg some hb72) (fun w' h'=>QO (Qp h' 0 rfl) ty9 rfl rfl) D11 ?_)))))
    refine Wo 14 rfl ?_
    refine QP (congrArg some hb72) ?_
    obtain ⟨t75,ht76,H⟩:=QW H
    refine Zz fn72 (XH.con k M a0.c a1.End t75  ht76) S rfl rfl (by rintro _ _ _ ⟨_,rfl⟩;exact Qd) ?_
    rintro _ w77 _ Γ' E' S ⟨rfl,rfl⟩
    replace E:=E.trans E'
    refine QB (YU ⟨.inr ⟨M,Hp.le_refl M,(S.pick [0,1,2,3,4,5] (by decide))⟩,?_⟩)
    refine Wt 15 rfl rfl rfl (.bool t75) rfl (fun w' h'=>QV (k:=true) (congrArg Value.bool hb72) rfl) (⟨M,Hp.le_refl M,(S.pick [0,1,2,3,4,5] (by decide))⟩) ?_
    exact hrest _ _ ⟨t75,Option.some.inj H,⟨rfl,rfl,trivial⟩,E,S.pick [0,1,2,3,4,5] (by decide)⟩
   ·skip
    have D13:∃ Mx,Hp.le M Mx∧St _ Mx F [_,_,_,_,_,_]:=⟨_,Hp.le_refl _,S.pick [0,1,2,3,4,5] (by decide)⟩
    refine WtN 8 rfl rfl rfl rfl (skT hb72) D13 (WtN 9 rfl rfl rfl rfl (skT hb72) D13 (WtN 10 rfl rfl rfl rfl (skT hb72) D13 (WtN 11 rfl rfl rfl rfl (skT hb72) D13 (WtN 12 rfl rfl rfl rfl (skT hb72) D13 (WtN 13 rfl rfl rfl rfl (skT hb72) D13 (WtN 14 rfl rfl rfl rfl (skT hb72) D13 (Wt 15 rfl rfl rfl (.bool false) rfl (fun w' h'=>QV (k:=false) (congrArg Value.bool hb72) rfl) D13 ?_)))))))
    exact hrest _ _ ⟨false,Option.some.inj H,⟨rfl,rfl,trivial⟩,E,S.pick [0,1,2,3,4,5] (by decide)⟩
  rintro ρ w78 ⟨x73,rfl,hρ,E,S⟩
  rw [QI hρ]
  have H:=o74H
  refine Wt 16 rfl rfl rfl (.bool x73) rfl (fun w' h'=>QD rfl) (⟨M,Hp.le_refl M,(S.pick [0,1,2,3,4,5] (by decide))⟩) ?_
  refine YD (fun ρ w'=>Qi ρ [(3,pt b1 0),(57,.bool (x73&&(decide (a1.Limit≥(0:Int)))))]∧w78=w') 6 (Ls 27 [0,1,2,3,4,5,6,7,8,9,10,11,12,13,14,15,16,17,18,19,20]) ?_ ?_
  rotate_left
  ·intro hrest
   rcases ZX x73 with hb79 | hb79
   ·skip
    have D15:∃ Mx,Hp.le M Mx∧St _ Mx F [_,_,_,_,_,_]:=⟨_,Hp.le_refl _,S.pick [0,1,2,3,4,5] (by decide)⟩
    refine WtN 17 rfl rfl rfl rfl (skT hb79) D15 (WtN 18 rfl rfl rfl rfl (skT hb79) D15 (WtN 19 rfl rfl rfl rfl (skT hb79) D15 (Wt 20 rfl rfl rfl (.bool false) rfl (fun w' h'=>QV (k:=false) (congrArg Value.bool hb79) rfl) D15 ?_)))
    exact hrest _ _ ⟨⟨rfl,(by first | rfl | (rw [hb79];rfl) | (simp only [hb79];rfl)),trivial⟩,rfl⟩
   ·skip
    have D16:∃ Mx,Hp.le M Mx∧St _ Mx F [_,_,_,_,_,_]:=⟨_,Hp.le_refl _,S.pick [0,1,2,3,4,5] (by decide)⟩
    refine WtY 17 rfl rfl rfl (pt b1 5) rfl (congrArg some hb79) (fun w' h'=>QC (o:=0) (off:=5) Tryd.underlying37 rfl ty3 rfl rfl) D16 (WtY 18 rfl rfl rfl (vI a1.Limit) rfl (congrArg some hb79) (fun w' h'=>QO (Qp h' 0 rfl) ty3 rfl rfl) D16 (WtY 19 rfl rfl rfl (.bool (decide (a1.Limit≥(0:Int)))) rfl (congrArg some hb79) (fun w' h'=>Qa rfl rfl rfl rfl) D16 (Wt 20 rfl rfl rfl (.bool (decide (a1.Limit≥(0:Int)))) rfl (fun w' h'=>QV (k:=true) (congrArg Value.bool hb79) rfl) D16 ?_)))
    exact hrest _ _ ⟨⟨rfl,(by first | rfl | (rw [hb79];rfl) | (simp only [hb79];rfl)),trivial⟩,rfl⟩
  rintro ρ _ ⟨hρ,rfl⟩
  rw [QI hρ]
  refine Wt 21 rfl rfl rfl (.bool (x73&&(decide (a1.Limit≥(0:Int))))) rfl (fun w' h'=>QD rfl) (⟨M,Hp.le_refl M,(S.pick [0,1,2,3,4,5] (by decide))⟩) ?_
  refine YD (fun ρ w'=>Qi ρ [(62,.bool ((x73&&(decide (a1.Limit≥(0:Int))))&&(decide (a1.Limit≤(128:Int)))))]∧w78=w') 1 (Ls 27 [0,1,2,3,4,5,6,7,8,9,10,11,12,13,14,15,16,17,18,19,20,21,22,23,24,25]) ?_ ?_
  rotate_left
  ·intro hrest
   rcases ZX (x73&&(decide (a1.Limit≥(0:Int)))) with hb80 | hb80
   ·skip
    have D18:∃ Mx,Hp.le M Mx∧St _ Mx F [_,_,_,_,_,_]:=⟨_,Hp.le_refl _,S.pick [0,1,2,3,4,5] (by decide)⟩
    refine WtN 22 rfl rfl rfl rfl (skT hb80) D18 (WtN 23 rfl rfl rfl rfl (skT hb80) D18 (WtN 24 rfl rfl rfl rfl (skT hb80) D18 (Wt 25 rfl rfl rfl (.bool false) rfl (fun w' h'=>QV (k:=false) (congrArg Value.bool hb80) rfl) D18 ?_)))
    exact hrest _ _ ⟨⟨(by first | rfl | (rw [hb80];rfl) | (simp only [hb80];rfl)),trivial⟩,rfl⟩
   ·skip
    have D19:∃ Mx,Hp.le M Mx∧St _ Mx F [_,_,_,_,_,_]:=⟨_,Hp.le_refl _,S.pick [0,1,2,3,4,5] (by decide)⟩
    refine WtY 22 rfl rfl rfl (pt b1 5) rfl (congrArg some hb80) (fun w' h'=>QC (o:=0) (off:=5) Tryd.underlying37 rfl ty3 rfl rfl) D19 (WtY 23 rfl rfl rfl (vI a1.Limit) rfl (congrArg some hb80) (fun w' h'=>QO (Qp h' 0 rfl) ty3 rfl rfl) D19 (WtY 24 rfl rfl rfl (.bool (decide (a1.Limit≤(128:Int)))) rfl (congrArg some hb80) (fun w' h'=>Qa rfl rfl rfl rfl) D19 (Wt 25 rfl rfl rfl (.bool (decide (a1.Limit≤(128:Int)))) rfl (fun w' h'=>QV (k:=true) (congrArg Value.bool hb80) rfl) D19 ?_)))
    exact hrest _ _ ⟨⟨(by first | rfl | (rw [hb80];rfl) | (simp only [hb80];rfl)),trivial⟩,rfl⟩
  rintro ρ _ ⟨hρ,rfl⟩
  rw [QI hρ]
  refine Wt 26 rfl rfl rfl (.bool ((x73&&(decide (a1.Limit≥(0:Int))))&&(decide (a1.Limit≤(128:Int))))) rfl (fun w' h'=>QG rfl) (⟨M,Hp.le_refl M,(S.pick [0,1,2,3,4,5] (by decide))⟩) ?_
  refine Wz ?_
  refine tn ?_
  refine Qs ?_
  refine br (tr (?_))
  obtain rfl:=Option.some.inj H
  exact ⟨_,_,_,fun w1 e1=>QX (vs:=[.bool ((x73&&(decide (a1.Limit≥(0:Int))))&&(decide (a1.Limit≤(128:Int))))]) (FA.cons (rfl) (FA.nil)),HM,E,S.pick [1,2,3,4,5] (by decide),⟨rfl,rfl⟩⟩
 refine QK (congrArg Value.bool hb48) (Qr (bn (tn ?_)))
 as_aux_lemma =>
 refine QE (QA (W_v (.bool true) (QG rfl) rfl (QB (tn ?_))))
 refine Qs ?_
 obtain rfl:=Option.some.inj H
 exact ⟨_,_,_,fun w1 e1=>QX (vs:=[.bool true]) (FA.cons (rfl) (FA.nil)),HM,E,S.pick [1,2,3,4,5] (by decide),⟨rfl,rfl⟩⟩
def Za (k:Nat) (a0:QJ) (a1:Int) (a2:ZE):Option (Int) :=
 (if ((((decide (a1 < (0:Int)))||(decide (a1≥a0.c.Tasks)))||(decide (a2.Kind < (1:Int))))||(decide (a2.Kind > (9:Int))))=true then some (1:Int) else (if (((a2.Kind==(9:Int))&&(a2.Engine != (1:Int)))&&(a2.Engine != (2:Int)))=true then some (1:Int) else (Option.bind (XT k a2.Kind) (fun t11=>(if t11=true then (Option.bind (Zy k a0 a1 a2.Tx) (fun t15=>(if (t15.2.1==(1:Int))=true then (Option.bind (YM k a0 a2) (fun t21=>(if (!t21)=true then some (32:Int) else some (0:Int)))) else (if (t15.2.1==(0:Int))=true then some (30:Int) else some (31:Int))))) else (Option.bind (YM k a0 a2) (fun t28=>(if (!t28)=true then some (32:Int) else some (0:Int)))))))))
theorem Za.mono {k:Nat} {a0:QJ} {a1:Int} {a2:ZE}:OLe (Za k a0 a1 a2) (Za (k+1) a0 a1 a2):=by
 unfold Za
 have m1:=@Zy.mono
 have m2:=@YM.mono
 have m3:=@XT.mono
 exact mo
theorem Za.con (k:Nat) (M:Hp) (A0_8:Option Addr) (c0_8:Nat) (A0_9:Option Addr) (c0_9:Nat) (A0_10:Option Addr) (c0_10:Nat) (A0_11:Option Addr) (c0_11:Nat) (vs0_11:List (Str×Value)) (a0:QJ) (a1:Int) (a2:ZE) (bo0:Nat) (r:Int) (hm0_11:YV Qk M a0.rows vs0_11) (h:Za k a0 a1 a2=some r):Con Tryd.prog 25 #[pt bo0 0,vI a1,.agg #[vU a2.Kind,vI a2.Tx,vS a2.Key,vS a2.End,vS a2.Value,vI a2.Limit,vU a2.Engine]] M [B94 bo0 a0 A0_8 A0_9 A0_10 c0_10 A0_11,QT QF (Value.int .i64) A0_8 a0.names,QT (Value.int .i64) (Value.int .i64) A0_9 a0.many,Row QL 99 (.slice A0_10 a0.txs.length c0_10) a0.txs,QT encS (fun v:Value=>v) A0_11 vs0_11] (fun v M' Γ'=>v=vI r∧Γ'=[B94 bo0 a0 A0_8 A0_9 A0_10 c0_10 A0_11,QT QF (Value.int .i64) A0_8 a0.names,QT (Value.int .i64) (Value.int .i64) A0_9 a0.many,Row QL 99 (.slice A0_10 a0.txs.length c0_10) a0.txs,QT encS (fun v:Value=>v) A0_11 vs0_11]):=by
 refine Qt Tryd.func25 rfl Tryd.ntmps25 Tryd.results25 rfl ?_
 intro w F rn S hrn
 have E:=Ext.refl w
 have HM:=Hp.le_refl M
 have H:=h
 unfold Za at H
 refine QE (QA ?_)
 refine Y8 S #[vU a2.Kind,vI a2.Tx,vS a2.Key,vS a2.End,vS a2.Value,vI a2.Limit,vU a2.Engine] rfl rfl rfl ?_
 intro b1 w2 E' S
 replace E:=E.trans E'
 refine W_v (vI 0) (QG rfl) rfl (QB (tn (QE ?_)))
 refine YP ?_
 refine QE (QA (W_v (pt bo0 0) (QD rfl) rfl (W_v (.bool false) (Xe (r:=false) rfl rfl (XW Tryd.underlying27)) rfl (W_v (.bool false) (QG rfl) rfl (QB (tn (QK rfl (QE (QA (W_v (vI a1) (QD rfl) rfl (W_v (.bool (decide (a1 < (0:Int)))) (Qa rfl rfl rfl rfl) rfl (W_v (.bool (decide (a1 < (0:Int)))) (QD rfl) rfl ?_))))))))))))
 refine ZH 8 (fun ρ w'=>Qi ρ [(0,pt bo0 0),(1,vI a1),(5,pt b1 0),(24,.bool ((decide (a1 < (0:Int)))||(decide (a1≥a0.c.Tasks))))]∧w2=w') ?_ ?_
 ·rcases ZX (decide (a1 < (0:Int))) with hb4 | hb4
  ·skip
   refine QP (congrArg some hb4) (W_v (vI a1) (QD rfl) rfl (QP (congrArg some hb4) (W_v (pt bo0 0) (QD rfl) rfl (QP (congrArg some hb4) (W_v (pt bo0 0) (Qo rfl) rfl (QP (congrArg some hb4) (W_v (pt bo0 0) (QC (o:=0) (off:=0) Tryd.underlying94 rfl ty23 rfl rfl) rfl (QP (congrArg some hb4) (W_v (pt bo0 0) (QC (o:=0) (off:=0) Tryd.underlying23 rfl ty3 rfl rfl) rfl (QP (congrArg some hb4) (W_v (vI a0.c.Tasks) (QO (S.blk 1 rfl) ty3 rfl rfl) rfl (QP (congrArg some hb4) (W_v (.bool (decide (a1≥a0.c.Tasks))) (Qa rfl rfl rfl rfl) rfl (W_v (.bool (decide (a1≥a0.c.Tasks))) (QV (k:=false) (congrArg Value.bool hb4) rfl) rfl (QB ?_)))))))))))))))
   exact ⟨⟨rfl,rfl,rfl,(by first | rfl | (rw [hb4];rfl) | (simp only [hb4];rfl)),trivial⟩,rfl⟩
  ·skip
   refine QZ (skF hb4) rfl (QZ (skF hb4) rfl (QZ (skF hb4) rfl (QZ (skF hb4) rfl (QZ (skF hb4) rfl (QZ (skF hb4) rfl (QZ (skF hb4) rfl (W_v (.bool true) (QV (k:=true) (congrArg Value.bool hb4) rfl) rfl (QB ?_))))))))
   exact ⟨⟨rfl,rfl,rfl,(by first | rfl | (rw [hb4];rfl) | (simp only [hb4];rfl)),trivial⟩,rfl⟩
 as_aux_lemma =>
 rintro ρ _ ⟨hρ,rfl⟩
 rw [QI hρ]
 refine W_v (.bool ((decide (a1 < (0:Int)))||(decide (a1≥a0.c.Tasks)))) (QD rfl) rfl ?_
 refine ZH 4 (fun ρ w'=>Qi ρ [(0,pt bo0 0),(1,vI a1),(5,pt b1 0),(29,.bool (((decide (a1 < (0:Int)))||(decide (a1≥a0.c.Tasks)))||(decide (a2.Kind < (1:Int)))))]∧w2=w') ?_ ?_
 ·rcases ZX ((decide (a1 < (0:Int)))||(decide (a1≥a0.c.Tasks))) with hb5 | hb5
  ·skip
   refine QP (congrArg some hb5) (W_v (pt b1 0) (QC (o:=0) (off:=0) Tryd.underlying37 rfl ty5 rfl rfl) rfl (QP (congrArg some hb5) (W_v (vU a2.Kind) (QO (S.blk 0 rfl) ty5 rfl rfl) rfl (QP (congrArg some hb5) (W_v (.bool (decide (a2.Kind < (1:Int)))) (Qa rfl rfl rfl rfl) rfl (W_v (.bool (decide (a2.Kind < (1:Int)))) (QV (k:=false) (congrArg Value.bool hb5) rfl) rfl (QB ?_)))))))
   exact ⟨⟨rfl,rfl,rfl,(by first | rfl | (rw [hb5];rfl) | (simp only [hb5];rfl)),trivial⟩,rfl⟩
  ·skip
   refine QZ (skF hb5) rfl (QZ (skF hb5) rfl (QZ (skF hb5) rfl (W_v (.bool true) (QV (k:=true) (congrArg Value.bool hb5) rfl) rfl (QB ?_))))
   exact ⟨⟨rfl,rfl,rfl,(by first | rfl | (rw [hb5];rfl) | (simp only [hb5];rfl)),trivial⟩,rfl⟩
 as_aux_lemma =>
 rintro ρ _ ⟨hρ,rfl⟩
 rw [QI hρ]
 refine W_v (.bool (((decide (a1 < (0:Int)))||(decide (a1≥a0.c.Tasks)))||(decide (a2.Kind < (1:Int))))) (QD rfl) rfl ?_
 refine ZH 4 (fun ρ w'=>Qi ρ [(0,pt bo0 0),(1,vI a1),(5,pt b1 0),(34,.bool ((((decide (a1 < (0:Int)))||(decide (a1≥a0.c.Tasks)))||(decide (a2.Kind < (1:Int))))||(decide (a2.Kind > (9:Int)))))]∧w2=w') ?_ ?_
 ·rcases ZX (((decide (a1 < (0:Int)))||(decide (a1≥a0.c.Tasks)))||(decide (a2.Kind < (1:Int)))) with hb6 | hb6
  ·skip
   refine QP (congrArg some hb6) (W_v (pt b1 0) (QC (o:=0) (off:=0) Tryd.underlying37 rfl ty5 rfl rfl) rfl (QP (congrArg some hb6) (W_v (vU a2.Kind) (QO (S.blk 0 rfl) ty5 rfl rfl) rfl (QP (congrArg some hb6) (W_v (.bool (decide (a2.Kind > (9:Int)))) (Qa rfl rfl rfl rfl) rfl (W_v (.bool (decide (a2.Kind > (9:Int)))) (QV (k:=false) (congrArg Value.bool hb6) rfl) rfl (QB ?_)))))))
   exact ⟨⟨rfl,rfl,rfl,(by first | rfl | (rw [hb6];rfl) | (simp only [hb6];rfl)),trivial⟩,rfl⟩
  ·skip
   refine QZ (skF hb6) rfl (QZ (skF hb6) rfl (QZ (skF hb6) rfl (W_v (.bool true) (QV (k:=true) (congrArg Value.bool hb6) rfl) rfl (QB ?_))))
   exact ⟨⟨rfl,rfl,rfl,(by first | rfl | (rw [hb6];rfl) | (simp only [hb6];rfl)),trivial⟩,rfl⟩
 as_aux_lemma =>
 rintro ρ _ ⟨hρ,rfl⟩
 rw [QI hρ]
 refine W_v (.bool ((((decide (a1 < (0:Int)))||(decide (a1≥a0.c.Tasks)))||(decide (a2.Kind < (1:Int))))||(decide (a2.Kind > (9:Int))))) (QG rfl) rfl (QB (tn ?_))
 rcases Zf H with ⟨hb7,H⟩ | ⟨hb7,H⟩
 ·refine QQ (congrArg Value.bool hb7) ?_
  refine QE (QA (W_v (vI 1) (QG rfl) rfl (QB (tn ?_))))
  refine Qs ?_
  refine br (tr (?_))
  obtain rfl:=Option.some.inj H
  exact ⟨_,_,_,fun w1 e1=>QX (vs:=[vI 1]) (FA.cons (rfl) (FA.nil)),HM,E,S.pick [1,2,3,4,5] (by decide),⟨rfl,rfl⟩⟩
 refine QK (congrArg Value.bool hb7) (QE (QA (W_v (pt b1 0) (QC (o:=0) (off:=0) Tryd.underlying37 rfl ty5 rfl rfl) rfl (W_v (vU a2.Kind) (QO (S.blk 0 rfl) ty5 rfl rfl) rfl (W_v (.bool (a2.Kind==(9:Int))) (Qa rfl rfl rfl rfl) rfl (W_v (.bool (a2.Kind==(9:Int))) (QD rfl) rfl ?_))))))
 refine ZH 4 (fun ρ w'=>Qi ρ [(0,pt bo0 0),(1,vI a1),(5,pt b1 0),(43,.bool ((a2.Kind==(9:Int))&&(a2.Engine != (1:Int))))]∧w2=w') ?_ ?_
 ·rcases ZX (a2.Kind==(9:Int)) with hb8 | hb8
  ·skip
   refine QZ (skT hb8) rfl (QZ (skT hb8) rfl (QZ (skT hb8) rfl (W_v (.bool false) (QV (k:=false) (congrArg Value.bool hb8) rfl) rfl (QB ?_))))
   exact ⟨⟨rfl,rfl,rfl,(by first | rfl | (rw [hb8];rfl) | (simp only [hb8];rfl)),trivial⟩,rfl⟩
  ·skip
   refine QP (congrArg some hb8) (W_v (pt b1 6) (QC (o:=0) (off:=6) Tryd.underlying37 rfl ty5 rfl rfl) rfl (QP (congrArg some hb8) (W_v (vU a2.Engine) (QO (S.blk 0 rfl) ty5 rfl rfl) rfl (QP (congrArg some hb8) (W_v (.bool (a2.Engine != (1:Int))) (Qa rfl rfl rfl rfl) rfl (W_v (.bool (a2.Engine != (1:Int))) (QV (k:=true) (congrArg Value.bool hb8) rfl) rfl (QB ?_)))))))
   exact ⟨⟨rfl,rfl,rfl,(by first | rfl | (rw [hb8];rfl) | (simp only [hb8];rfl)),trivial⟩,rfl⟩
 as_aux_lemma =>
 rintro ρ _ ⟨hρ,rfl⟩
 rw [QI hρ]
 refine W_v (.bool ((a2.Kind==(9:Int))&&(a2.Engine != (1:Int)))) (QD rfl) rfl ?_
 refine ZH 4 (fun ρ w'=>Qi ρ [(0,pt bo0 0),(1,vI a1),(5,pt b1 0),(48,.bool (((a2.Kind==(9:Int))&&(a2.Engine != (1:Int)))&&(a2.Engine != (2:Int))))]∧w2=w') ?_ ?_
 ·rcases ZX ((a2.Kind==(9:Int))&&(a2.Engine != (1:Int))) with hb9 | hb9
  ·skip
   refine QZ (skT hb9) rfl (QZ (skT hb9) rfl (QZ (skT hb9) rfl (W_v (.bool false) (QV (k:=false) (congrArg Value.bool hb9) rfl) rfl (QB ?_))))
   exact ⟨⟨rfl,rfl,rfl,(by first | rfl | (rw [hb9];rfl) | (simp only [hb9];rfl)),trivial⟩,rfl⟩
  ·skip
   refine QP (congrArg some hb9) (W_v (pt b1 6) (QC (o:=0) (off:=6) Tryd.underlying37 rfl ty5 rfl rfl) rfl (QP (congrArg some hb9) (W_v (vU a2.Engine) (QO (S.blk 0 rfl) ty5 rfl rfl) rfl (QP (congrArg some hb9) (W_v (.bool (a2.Engine != (2:Int))) (Qa rfl rfl rfl rfl) rfl (W_v (.bool (a2.Engine != (2:Int))) (QV (k:=true) (congrArg Value.bool hb9) rfl) rfl (QB ?_)))))))
   exact ⟨⟨rfl,rfl,rfl,(by first | rfl | (rw [hb9];rfl) | (simp only [hb9];rfl)),trivial⟩,rfl⟩
 as_aux_lemma =>
 rintro ρ _ ⟨hρ,rfl⟩
 rw [QI hρ]
 refine W_v (.bool (((a2.Kind==(9:Int))&&(a2.Engine != (1:Int)))&&(a2.Engine != (2:Int)))) (QG rfl) rfl (QB (tn ?_))
 rcases Zf H with ⟨hb10,H⟩ | ⟨hb10,H⟩
 ·refine QQ (congrArg Value.bool hb10) ?_
  refine QE (QA (W_v (vI 1) (QG rfl) rfl (QB (tn ?_))))
  refine Qs ?_
  refine br (tr (?_))
  obtain rfl:=Option.some.inj H
  exact ⟨_,_,_,fun w1 e1=>QX (vs:=[vI 1]) (FA.cons (rfl) (FA.nil)),HM,E,S.pick [1,2,3,4,5] (by decide),⟨rfl,rfl⟩⟩
 refine QK (congrArg Value.bool hb10) (Qr (bn (tn (QE (QE (QA (W_v (pt b1 0) (QC (o:=0) (off:=0) Tryd.underlying37 rfl ty5 rfl rfl) rfl (W_v (vU a2.Kind) (QO (S.blk 0 rfl) ty5 rfl rfl) rfl ?_))))))))
 obtain ⟨t11,ht12,H⟩:=QW H
 refine Zz fn43 (XT.con k M a2.Kind t11  ht12) S rfl rfl (by rintro _ _ _ ⟨_,rfl⟩;exact Qd) ?_
 rintro _ w13 _ Γ' E' S ⟨rfl,rfl⟩
 replace E:=E.trans E'
 refine QB (tn ?_)
 rcases Zf H with ⟨hb14,H⟩ | ⟨hb14,H⟩
 ·refine QQ (congrArg Value.bool hb14) ?_
  refine QE (QA (W_v (pt bo0 0) (QD rfl) rfl (W_v (vI a1) (QD rfl) rfl (W_v (pt b1 1) (QC (o:=0) (off:=1) Tryd.underlying37 rfl ty3 rfl rfl) rfl (W_v (vI a2.Tx) (QO (S.blk 0 rfl) ty3 rfl rfl) rfl ?_)))))
  obtain ⟨t15,ht16,H⟩:=QW H
  replace S:St w13 M F [_,_,_,_,_,_]:=S.pick [1,2,3,4,5,0] (by decide)
  refine Z5 fn23 (Zy.con k M A0_8 c0_8 A0_9 c0_9 A0_10 c0_10 A0_11 c0_11 vs0_11 a0 a1 a2.Tx bo0 t15 hm0_11 ht16) (Γ1:=[_,_,_,_,_]) (Γ2:=[_]) S rfl rfl (by rintro _ _ _ ⟨rfl,rfl⟩;exact (QN ZW (QN Qu (QN Qu (QN (YI (fun _ _ _ _ h=>h)) (QN Qu Qd)))))) ?_
  rintro _ w17 _ Γ' E' S ⟨rfl,rfl⟩
  replace E:=E.trans E'
  replace S:St w17 M F [_,_,_,_,_,_]:=S
  refine W_v (.tuple #[vI t15.1,vU t15.2.1,vI t15.2.2]) (QD rfl) rfl (W_v (vI t15.1) (ZB rfl rfl) rfl (W_v (vU t15.2.1) (ZB rfl rfl) rfl (W_v (vI t15.2.2) (ZB rfl rfl) rfl (W_v (vI t15.1) (QG rfl) rfl (W_v (vU t15.2.1) (QG rfl) rfl (W_v (vI t15.2.2) (QG rfl) rfl (QB (tn (QE (QA (W_v (vU t15.2.1) (QD rfl) rfl (QB (tn ?_)))))))))))))
  refine YP ?_
  refine QE (QA (W_v (.bool (t15.2.1==(1:Int))) (Qa rfl rfl rfl rfl) rfl (W_v (.bool (t15.2.1==(1:Int))) (QG rfl) rfl (QB (tn ?_)))))
  rcases Zf H with ⟨hb20,H⟩ | ⟨hb20,H⟩
  ·refine QQ (congrArg Value.bool hb20) ?_
   refine Qr (bn (tn (QE (QE (QA (W_v (pt bo0 0) (QD rfl) rfl (W_v (.agg #[vU a2.Kind,vI a2.Tx,vS a2.Key,vS a2.End,vS a2.Value,vI a2.Limit,vU a2.Engine]) (ZA (S.blk 5 rfl) ty37 rfl (QM rfl) rfl rfl) rfl ?_)))))))
   obtain ⟨t21,ht22,H⟩:=QW H
   refine Z5 fn44 (YM.con k M A0_8 c0_8 A0_9 c0_9 A0_10 c0_10 A0_11 c0_11 vs0_11 a0 a2 bo0 t21 hm0_11 ht22) (Γ1:=[_,_,_,_,_]) (Γ2:=[_]) S rfl rfl (by rintro _ _ _ ⟨rfl,rfl⟩;exact (QN ZW (QN Qu (QN Qu (QN (YI (fun _ _ _ _ h=>h)) (QN Qu Qd)))))) ?_
   rintro _ w23 _ Γ' E' S ⟨rfl,rfl⟩
   replace E:=E.trans E'
   replace S:St w23 M F [_,_,_,_,_,_]:=S
   refine W_v (.bool (!t21)) (Y5 (b:=t21) rfl) rfl (QB (tn ?_))
   rcases Zf H with ⟨hb26,H⟩ | ⟨hb26,H⟩
   ·refine QQ (congrArg Value.bool hb26) ?_
    refine QE (QA (W_v (vI 32) (QG rfl) rfl (QB (tn ?_))))
    refine Qs ?_
    refine tr (?_)
    obtain rfl:=Option.some.inj H
    exact ⟨_,_,_,fun w1 e1=>QX (vs:=[vI 32]) (FA.cons (rfl) (FA.nil)),HM,E,S.pick [0,1,2,3,4] (by decide),⟨rfl,rfl⟩⟩
   refine QK (congrArg Value.bool hb26) (Qr (tn (QE (QA (W_v (vI 0) (QG rfl) rfl (QB (tn ?_)))))))
   refine Qs ?_
   obtain rfl:=Option.some.inj H
   exact ⟨_,_,_,fun w1 e1=>QX (vs:=[vI 0]) (FA.cons (rfl) (FA.nil)),HM,E,S.pick [0,1,2,3,4] (by decide),⟨rfl,rfl⟩⟩
  refine QK (congrArg Value.bool hb20) ?_
  as_aux_lemma =>
  refine QE (QA (W_v (.bool (t15.2.1==(0:Int))) (Qa rfl rfl rfl rfl) rfl (W_v (.bool (t15.2.1==(0:Int))) (QG rfl) rfl (QB (tn ?_)))))
  rcases Zf H with ⟨hb27,H⟩ | ⟨hb27,H⟩
  ·refine QQ (congrArg Value.bool hb27) ?_
   refine QE (QA (W_v (vI 30) (QG rfl) rfl (QB (tn ?_))))
   refine Qs ?_
   refine br (tr (?_))
   obtain rfl:=Option.some.inj H
   exact ⟨_,_,_,fun w1 e1=>QX (vs:=[vI 30]) (FA.cons (rfl) (FA.nil)),HM,E,S.pick [0,1,2,3,4] (by decide),⟨rfl,rfl⟩⟩
  refine QK (congrArg Value.bool hb27) (QE (QA (W_v (vI 31) (QG rfl) rfl (QB (tn ?_)))))
  refine Qs ?_
  refine br (tr (?_))
  obtain rfl:=Option.some.inj H
  exact ⟨_,_,_,fun w1 e1=>QX (vs:=[vI 31]) (FA.cons (rfl) (FA.nil)),HM,E,S.pick [0,1,2,3,4] (by decide),⟨rfl,rfl⟩⟩
 refine QK (congrArg Value.bool hb14) (Qr (tn ?_))
 as_aux_lemma =>
 refine QE (QE (QA (W_v (pt bo0 0) (QD rfl) rfl (W_v (.agg #[vU a2.Kind,vI a2.Tx,vS a2.Key,vS a2.End,vS a2.Value,vI a2.Limit,vU a2.Engine]) (ZA (S.blk 0 rfl) ty37 rfl (QM rfl) rfl rfl) rfl ?_))))
 obtain ⟨t28,ht29,H⟩:=QW H
 replace S:St w13 M F [_,_,_,_,_,_]:=S.pick [1,2,3,4,5,0] (by decide)
 refine Z5 fn44 (YM.con k M A0_8 c0_8 A0_9 c0_9 A0_10 c0_10 A0_11 c0_11 vs0_11 a0 a2 bo0 t28 hm0_11 ht29) (Γ1:=[_,_,_,_,_]) (Γ2:=[_]) S rfl rfl (by rintro _ _ _ ⟨rfl,rfl⟩;exact (QN ZW (QN Qu (QN Qu (QN (YI (fun _ _ _ _ h=>h)) (QN Qu Qd)))))) ?_
 rintro _ w30 _ Γ' E' S ⟨rfl,rfl⟩
 replace E:=E.trans E'
 replace S:St w30 M F [_,_,_,_,_,_]:=S
 refine W_v (.bool (!t28)) (Y5 (b:=t28) rfl) rfl (QB (tn ?_))
 rcases Zf H with ⟨hb33,H⟩ | ⟨hb33,H⟩
 ·refine QQ (congrArg Value.bool hb33) ?_
  refine QE (QA (W_v (vI 32) (QG rfl) rfl (QB (tn ?_))))
  refine Qs ?_
  refine tr (?_)
  obtain rfl:=Option.some.inj H
  exact ⟨_,_,_,fun w1 e1=>QX (vs:=[vI 32]) (FA.cons (rfl) (FA.nil)),HM,E,S.pick [0,1,2,3,4] (by decide),⟨rfl,rfl⟩⟩
 refine QK (congrArg Value.bool hb33) (Qr (tn (QE (QA (W_v (vI 0) (QG rfl) rfl (QB (tn ?_)))))))
 refine Qs ?_
 obtain rfl:=Option.some.inj H
 exact ⟨_,_,_,fun w1 e1=>QX (vs:=[vI 0]) (FA.cons (rfl) (FA.nil)),HM,E,S.pick [0,1,2,3,4] (by decide),⟨rfl,rfl⟩⟩
def Z1 (a0:QJ):Nat→Int→Int→Option ((Int))
 | 0,_,_=>none
 | k+1,x93,x94=>(if (decide (x94 < (a0.txs.length:Int)))=true then (Option.bind (α:=Int) (if 0≤x94∧x94 < (a0.txs.length:Int) then (Option.bind (α:=Int) (if ((rd a0.txs x94).state==(1:Int))=true then some ((IntKind.i64.wrap (x93+(1:Int)))) else some (x93)) (fun x181=>some (x181))) else none) (fun x163=>Z1 a0 k x163 (IntKind.i64.wrap (x94+(1:Int))))) else some (x93))
theorem Z1.mono {a0:QJ}:∀ {kl:Nat} {x0 x1},OLe (Z1 a0 kl x0 x1) (Z1 a0 (kl+1) x0 x1):=by
 intro kl
 induction kl with
 | zero=>intros;exact OLe.none
 | succ kl ih =>
  intros
  rw [Z1.eq_2,Z1.eq_2]
  exact mo
def Z0 (k:Nat) (a0:QJ):Option (Int) :=
 (Option.bind (Z1 a0 k (0:Int) (0:Int)) (fun x139=>some x139))
theorem Z0.mono {k:Nat} {a0:QJ}:OLe (Z0 k a0) (Z0 (k+1) a0):=by
 unfold Z0
 have m1:=@Z1.mono
 exact mo
theorem Z0.con (k:Nat) (M:Hp) (A0_8:Option Addr) (c0_8:Nat) (A0_9:Option Addr) (c0_9:Nat) (A0_10:Option Addr) (c0_10:Nat) (A0_11:Option Addr) (c0_11:Nat) (vs0_11:List (Str×Value)) (a0:QJ) (bo0:Nat) (r:Int) (hm0_11:YV Qk M a0.rows vs0_11) (h:Z0 k a0=some r):Con Tryd.prog 21 #[pt bo0 0] M [B94 bo0 a0 A0_8 A0_9 A0_10 c0_10 A0_11,QT QF (Value.int .i64) A0_8 a0.names,QT (Value.int .i64) (Value.int .i64) A0_9 a0.many,Row QL 99 (.slice A0_10 a0.txs.length c0_10) a0.txs,QT encS (fun v:Value=>v) A0_11 vs0_11] (fun v M' Γ'=>v=vI r∧Γ'=[B94 bo0 a0 A0_8 A0_9 A0_10 c0_10 A0_11,QT QF (Value.int .i64) A0_8 a0.names,QT (Value.int .i64) (Value.int .i64) A0_9 a0.many,Row QL 99 (.slice A0_10 a0.txs.length c0_10) a0.txs,QT encS (fun v:Value=>v) A0_11 vs0_11]):=by
 refine Qt Tryd.func21 rfl Tryd.ntmps21 Tryd.results21 rfl ?_
 intro w F rn S hrn
 have E:=Ext.refl w
 have HM:=Hp.le_refl M
 have H:=h
 unfold Z0 at H
 refine QE (QA (W_v (vI 0) (QG rfl) rfl (QB (tn (QE (QA (W_v (vI 0) (QG rfl) rfl (QB (tn (QE (QE (QA (W_v (pt bo0 0) (QD rfl) rfl (W_v (.bool false) (Xe (r:=false) rfl rfl (XW Tryd.underlying27)) rfl (QB ?_)))))))))))))))
 refine tn (QK rfl (Qr (tn (QE (QE (QA (W_v (pt bo0 0) (QD rfl) rfl (W_v (pt bo0 0) (Qo rfl) rfl (W_v (pt bo0 10) (QC (o:=0) (off:=10) Tryd.underlying94 rfl ty92 rfl rfl) rfl (W_v (.slice A0_10 a0.txs.length c0_10) (QO (S.blk 0 rfl) ty92 rfl rfl) rfl (W_v (vI (a0.txs.length:Int)) (Q8 (n:=a0.txs.length) Tryd.underlying92 rfl) rfl (W_v (vI 0) (QD rfl) rfl (QB (tn ?_))))))))))))))
 obtain ⟨o140,o140h,o140H⟩:=QW H
 refine Yj (fun ρ w'=>∃ (x139:Int),(x139)=o140∧Qi ρ [(3,vI x139)]∧Ext w w'∧St w' M F [B94 bo0 a0 A0_8 A0_9 A0_10 c0_10 A0_11,QT QF (Value.int .i64) A0_8 a0.names,QT (Value.int .i64) (Value.int .i64) A0_9 a0.many,Row QL 99 (.slice A0_10 a0.txs.length c0_10) a0.txs,QT encS (fun v:Value=>v) A0_11 vs0_11]) ?_ ?_
 ·skip
  refine Y3 (fun n ρ w'=>∃ (x93:Int) (x94:Int),Z1 a0 n x93 x94=some o140∧Qi ρ [(3,vI x93),(12,.slice A0_10 a0.txs.length c0_10),(13,vI (a0.txs.length:Int)),(14,vI x94)]∧Ext w w'∧St w' M F [B94 bo0 a0 A0_8 A0_9 A0_10 c0_10 A0_11,QT QF (Value.int .i64) A0_8 a0.names,QT (Value.int .i64) (Value.int .i64) A0_9 a0.many,Row QL 99 (.slice A0_10 a0.txs.length c0_10) a0.txs,QT encS (fun v:Value=>v) A0_11 vs0_11]) k ?_ ?_
  ·skip
   exact ⟨(0:Int),(0:Int),o140h,⟨rfl,rfl,rfl,rfl,trivial⟩,E,S.pick [0,1,2,3,4] (by decide)⟩
  ·intro n
   rintro ρ w141 ⟨x93,x94,H,hρ,E,S⟩
   rw [QI hρ]
   cases n with
   | zero=>cases H
   | succ k =>
    rw [Z1.eq_2] at H
    refine QE (QA (W_v (.bool (decide (x94 < (a0.txs.length:Int)))) (Qa rfl rfl rfl rfl) rfl (QB (tn (QE ?_)))))
    rcases Zf H with ⟨hb142,H⟩ | ⟨hb142,H⟩
    ·refine QQ (congrArg Value.bool hb142) ?_
     refine Qr (tn (QE ?_))
     obtain ⟨o164,o164h,o164H⟩:=QW H
     refine Y7 (fun ρ w'=>∃ (x163:Int),(x163)=o164∧Qi ρ [(3,vI x163),(12,.slice A0_10 a0.txs.length c0_10),(13,vI (a0.txs.length:Int)),(14,vI x94)]∧Ext w w'∧St w' M F [B94 bo0 a0 A0_8 A0_9 A0_10 c0_10 A0_11,QT QF (Value.int .i64) A0_8 a0.names,QT (Value.int .i64) (Value.int .i64) A0_9 a0.many,Row QL 99 (.slice A0_10 a0.txs.length c0_10) a0.txs,QT encS (fun v:Value=>v) A0_11 vs0_11]) ?_ ?_
     ·as_aux_lemma =>
       clear o164H
       have H:=o164h
       refine YP ?_
       refine QE (QA ?_)
       obtain ⟨⟨p165,p166⟩,H⟩:=Yy H
       obtain ⟨b167,o168,cs169,_,_,ee174,hb170,vs171,hR172,hc173⟩:=SlW.at' (S.row_read 3 rfl) p165 p166
       obtain rfl:vs171=_:=hR172
       refine W_v (.pointer (some ⟨b167,o168+x94.toNat*2,none⟩)) (Qy Tryd.underlying92 ty99 (slA ee174) rfl p165 p166) rfl (W_v (.agg #[vU ((rd a0.txs x94).state),vI ((rd a0.txs x94).snapshot)]) (ZA (Hp.of_get hb170) ty99 rfl (Xa hc173 0 rfl) rfl rfl) rfl ?_)
       refine Zo S #[vU 0,vI 0] ty99 rfl rfl ?_
       intro b175 w176 E' S
       replace E:=E.trans E'
       refine Qx S 0 rfl ty99 rfl rfl [vU ((rd a0.txs x94).state),vI ((rd a0.txs x94).snapshot)] rfl rfl rfl #[vU ((rd a0.txs x94).state),vI ((rd a0.txs x94).snapshot)] rfl rfl ?_
       intro w178 E' S
       replace E:=E.trans E'
       refine QB (tn (QE (QA (W_v (pt b175 0) (QC (o:=0) (off:=0) Tryd.underlying99 rfl ty5 rfl rfl) rfl (W_v (vU ((rd a0.txs x94).state)) (QO (S.blk 0 rfl) ty5 rfl rfl) rfl (W_v (.bool ((rd a0.txs x94).state==(1:Int))) (Qa rfl rfl rfl rfl) rfl (QB (tn ?_))))))))
       obtain ⟨o182,o182h,o182H⟩:=QW H
       refine Y7 (fun ρ w'=>∃ (x181:Int),(x181)=o182∧Qi ρ [(3,vI x181),(12,.slice A0_10 a0.txs.length c0_10),(13,vI (a0.txs.length:Int)),(14,vI x94)]∧Ext w w'∧St w' M F [B94 bo0 a0 A0_8 A0_9 A0_10 c0_10 A0_11,QT QF (Value.int .i64) A0_8 a0.names,QT (Value.int .i64) (Value.int .i64) A0_9 a0.many,Row QL 99 (.slice A0_10 a0.txs.length c0_10) a0.txs,QT encS (fun v:Value=>v) A0_11 vs0_11]) ?_ ?_
       ·clear o182H
        have H:=o182h
        rcases Zf H with ⟨hb183,H⟩ | ⟨hb183,H⟩
        ·refine QQ (congrArg Value.bool hb183) ?_
         refine QA (W_v (vI x93) (QD rfl) rfl (W_v (vI (IntKind.i64.wrap (x93+(1:Int)))) (Qa rfl rfl rfl rfl) rfl (W_v (vI (IntKind.i64.wrap (x93+(1:Int)))) (QG rfl) rfl (QB (tn ?_)))))
         exact ⟨(IntKind.i64.wrap (x93+(1:Int))),Option.some.inj H,⟨rfl,rfl,rfl,rfl,trivial⟩,E,S.pick [1,2,3,4,5] (by decide)⟩
        refine QK (congrArg Value.bool hb183) (Qr (tn ?_))
        exact ⟨x93,Option.some.inj H,⟨rfl,rfl,rfl,rfl,trivial⟩,E,S.pick [1,2,3,4,5] (by decide)⟩
       rintro ρ w184 ⟨x181,rfl,hρ,E,S⟩
       rw [QI hρ]
       have H:=o182H
       refine bn (tn ?_)
       exact ⟨x181,Option.some.inj H,⟨rfl,rfl,rfl,rfl,trivial⟩,E,S.pick [0,1,2,3,4] (by decide)⟩
     rintro ρ w185 ⟨x163,rfl,hρ,E,S⟩
     rw [QI hρ]
     have H:=o164H
     refine tn (QA (W_v (vI (IntKind.i64.wrap (x94+(1:Int)))) (Qa rfl rfl rfl rfl) rfl (W_v (vI (IntKind.i64.wrap (x94+(1:Int)))) (QD rfl) rfl (QB (tn ?_)))))
     exact ⟨k,Nat.lt_succ_self k,⟨x163,(IntKind.i64.wrap (x94+(1:Int))),H,⟨rfl,rfl,rfl,rfl,trivial⟩,E,S.pick [0,1,2,3,4] (by decide)⟩⟩
    refine QK (congrArg Value.bool hb142) ?_
    refine Y0 ?_
    refine tx (tx (bsm (?_)))
    refine tn ?_
    exact ⟨x93,Option.some.inj H,⟨rfl,trivial⟩,E,S.pick [0,1,2,3,4] (by decide)⟩
 rintro ρ w186 ⟨x139,rfl,hρ,E,S⟩
 rw [QI hρ]
 have H:=o140H
 refine tn ?_
 as_aux_lemma =>
 refine QE (QA (W_v (vI x139) (QD rfl) rfl (W_v (vI x139) (QG rfl) rfl (QB (tn ?_)))))
 refine Qs ?_
 obtain rfl:=Option.some.inj H
 exact ⟨_,_,_,fun w1 e1=>QX (vs:=[vI x139]) (FA.cons (rfl) (FA.nil)),HM,E,S.pick [0,1,2,3,4] (by decide),⟨rfl,rfl⟩⟩
def YW (k:Nat) (a0:QJ) (a1:Int) (a2:Int) (a3:ZE):Option (Qc×QJ) :=
 (Option.bind (Z0 k a0) (fun t14=>(if (decide (t14≥a0.c.Active))=true then some (cz5,a0) else (if a0.txs.length+([(⟨(1:Int),(a0.clock)⟩:Z9)]:List Z9).length≤8796093022208 then (Option.bind (α:=List (Int×Int)) (some (mput a0.many a2 (IntKind.i64.wrap (((mget a0.many a2).getD (0:Int))+(1:Int))))) (fun x49=>(Option.bind (α:=List (Zi×Int)) (some (mput a0.names (⟨a2,((mget x49 a2).getD (0:Int))⟩:Zi) ((a0.txs++([(⟨(1:Int),(a0.clock)⟩:Z9)]:List Z9)).length:Int))) (fun x57=>some (cz8,(⟨⟨a0.c.Tasks,a0.c.Active,a0.c.Keys,a0.c.Depth,a0.c.TS,a0.c.KeyLen,a0.c.ValLen,a0.c.Fan⟩,x57,x49,(a0.txs++([(⟨(1:Int),(a0.clock)⟩:Z9)]:List Z9)),a0.rows,a0.clock,a0.floor⟩:QJ)))))) else none))))
theorem YW.mono {k:Nat} {a0:QJ} {a1:Int} {a2:Int} {a3:ZE}:OLe (YW k a0 a1 a2 a3) (YW (k+1) a0 a1 a2 a3):=by
 unfold YW
 have m1:=@Z0.mono
 exact mo
theorem YW.con (k:Nat) (M:Hp) (A0_8:Option Addr) (c0_8:Nat) (A0_9:Option Addr) (c0_9:Nat) (A0_10:Option Addr) (c0_10:Nat) (A0_11:Option Addr) (c0_11:Nat) (vs0_11:List (Str×Value)) (a0:QJ) (a1:Int) (a2:Int) (a3:ZE) (bo0:Nat) (r:Qc×QJ) (hm0_11:YV Qk M a0.rows vs0_11) (h:YW k a0 a1 a2 a3=some r):Con Tryd.prog 124 #[pt bo0 0,vI a1,vI a2,.agg #[vU a3.Kind,vI a3.Tx,vS a3.Key,vS a3.End,vS a3.Value,vI a3.Limit,vU a3.Engine]] M [B94 bo0 a0 A0_8 A0_9 A0_10 c0_10 A0_11,QT QF (Value.int .i64) A0_8 a0.names,QT (Value.int .i64) (Value.int .i64) A0_9 a0.many,Row QL 99 (.slice A0_10 a0.txs.length c0_10) a0.txs,QT encS (fun v:Value=>v) A0_11 vs0_11] (fun v M' Γ'=>∃ (Aq1:Option Addr) (cq2:Nat) (Aq4:Option Addr) (cq5:Nat) (Aq7:Option Addr) (cq8:Nat) (Aq10:Option Addr) (cq11:Nat) (Aq13:Option Addr) (cq14:Nat) (vsq16:List (Str×Value)),v=.agg #[vI r.1.Err,.bool r.1.Found,vS r.1.Value,.slice Aq1 r.1.Pairs.length cq2]∧YV Qk M' r.2.rows vsq16∧Γ'=[Row Qm 87 (.slice Aq1 r.1.Pairs.length cq2) r.1.Pairs,B94 bo0 r.2 Aq4 Aq7 Aq10 cq11 Aq13,QT QF (Value.int .i64) Aq4 r.2.names,QT (Value.int .i64) (Value.int .i64) Aq7 r.2.many,Row QL 99 (.slice Aq10 r.2.txs.length cq11) r.2.txs,QT encS (fun v:Value=>v) Aq13 vsq16]):=by
 refine Qt Tryd.func124 rfl Tryd.ntmps124 Tryd.results124 rfl ?_
 intro w F rn S hrn
 have E:=Ext.refl w
 have HM:=Hp.le_refl M
 have H:=h
 unfold YW at H
 refine QE (QA ?_)
 refine Y8 S #[vU a3.Kind,vI a3.Tx,vS a3.Key,vS a3.End,vS a3.Value,vI a3.Limit,vU a3.Engine] rfl rfl rfl ?_
 intro b1 w2 E' S
 replace E:=E.trans E'
 refine Zo S cz14 ty43 rfl rfl ?_
 intro b4 w5 E' S
 replace E:=E.trans E'
 refine QB (tn (QE (QE ?_)))
 refine Q0 (S:=fun w'=>∃ Mx,M.le Mx∧St w' Mx F [Blk b4 (.cells cz14 43 (0,0)),B37 b1 a3,B94 bo0 a0 A0_8 A0_9 A0_10 c0_10 A0_11,QT QF (Value.int .i64) A0_8 a0.names,QT (Value.int .i64) (Value.int .i64) A0_9 a0.many,Row QL 99 (.slice A0_10 a0.txs.length c0_10) a0.txs,QT encS (fun v:Value=>v) A0_11 vs0_11]) (L:=8) mixed ?_
 intro w12 hw13 E'
 replace S:=S.heap hw13
 replace E:=E.trans E'
 have D1:∃ Mx,Hp.le M Mx∧St _ Mx F [_,_,_,_,_,_,_]:=⟨_,Hp.le_refl _,S.pick [0,1,2,3,4,5,6] (by decide)⟩
 refine Wt 0 rfl rfl rfl (pt bo0 0) rfl (fun w' h'=>QD rfl) D1 (Wt 2 rfl rfl rfl (pt bo0 0) rfl (fun w' h'=>QD rfl) D1 (Wt 3 rfl rfl rfl (pt bo0 0) rfl (fun w' h'=>Qo rfl) D1 (Wt 4 rfl rfl rfl (pt bo0 0) rfl (fun w' h'=>QC (o:=0) (off:=0) Tryd.underlying94 rfl ty23 rfl rfl) D1 (Wt 5 rfl rfl rfl (pt bo0 1) rfl (fun w' h'=>QC (o:=0) (off:=1) Tryd.underlying23 rfl ty3 rfl rfl) D1 (Wt 6 rfl rfl rfl (vI a0.c.Active) rfl (fun w' h'=>QO (Qp h' 2 rfl) ty3 rfl rfl) D1 ?_)))))
 refine Wo 1 rfl ?_
 obtain ⟨t14,ht15,H⟩:=QW H
 replace S:St w12 M F [_,_,_,_,_,_,_]:=S.pick [2,3,4,5,6,0,1] (by decide)
 refine Z5 fn21 (Z0.con k M A0_8 c0_8 A0_9 c0_9 A0_10 c0_10 A0_11 c0_11 vs0_11 a0 bo0 t14 hm0_11 ht15) (Γ1:=[_,_,_,_,_]) (Γ2:=[_,_]) S rfl rfl (by rintro _ _ _ ⟨rfl,rfl⟩;exact (QN ZW (QN Qu (QN Qu (QN (YI (fun _ _ _ _ h=>h)) (QN Qu Qd)))))) ?_
 rintro _ w16 _ Γ' E' S ⟨rfl,rfl⟩
 replace E:=E.trans E'
 replace S:St w16 M F [_,_,_,_,_,_,_]:=S
 refine QB (YU ⟨.inr ⟨M,Hp.le_refl M,(S.pick [5,6,0,1,2,3,4] (by decide))⟩,?_⟩)
 refine Wt 7 rfl rfl rfl (.bool (decide (t14≥a0.c.Active))) rfl (fun w' h'=>Qa rfl rfl rfl rfl) (⟨M,Hp.le_refl M,(S.pick [5,6,0,1,2,3,4] (by decide))⟩) ?_
 refine Wz ?_
 refine tn ?_
 rcases Zf H with ⟨hb19,H⟩ | ⟨hb19,H⟩
 ·refine QQ (congrArg Value.bool hb19) ?_
  refine QE (QA (W_v (.agg cz11) (Z3 (pl:=[(0,1),(1,1),(2,1),(3,1)]) cz11 Tryd.underlying43 ty43 (by as_aux_lemma=>kernel_rfl) rfl (by as_aux_lemma=>kernel_rfl)) rfl ?_))
  refine Qx S 5 rfl ty43 rfl rfl [vI 34,.bool false,vS ([]:Str),.slice none 0 0] rfl rfl rfl cz11 rfl rfl ?_
  intro w20 E' S
  replace E:=E.trans E'
  refine QB (tn ?_)
  refine Qs ?_
  refine tr (?_)
  obtain rfl:=Option.some.inj H
  replace S:=S.row_nil Qm 87
  exact ⟨_,_,_,fun w1 e1=>QX (vs:=[.agg #[vI 34,.bool false,vS ([]:Str),.slice none ([]:List Qf).length 0]]) (FA.cons (⟨_,rfl,Qn ty43 ((S.of_eq e1).blk 6 rfl) (QM rfl) rfl (by decide)⟩) (FA.nil)),HM,E,S.pick [0,1,2,3,4,5] (by decide),⟨none,0,A0_8,c0_8,A0_9,c0_9,A0_10,c0_10,A0_11,c0_11,vs0_11,rfl,hm0_11,rfl⟩⟩
 refine QK (congrArg Value.bool hb19) (Qr (tn ?_))
 as_aux_lemma =>
 refine QE ?_
 refine Q0 (S:=fun w'=>∃ Mx,M.le Mx∧St w' Mx F [B94 bo0 a0 A0_8 A0_9 A0_10 c0_10 A0_11,QT QF (Value.int .i64) A0_8 a0.names,QT (Value.int .i64) (Value.int .i64) A0_9 a0.many,QT encS (fun v:Value=>v) A0_11 vs0_11,Blk b4 (.cells cz14 43 (0,0)),B37 b1 a3]) (L:=14) mixed ?_
 intro w34 hw35 E'
 replace S:=S.heap hw35
 replace E:=E.trans E'
 have D3:∃ Mx,Hp.le M Mx∧St _ Mx F [_,_,_,_,_,_]:=⟨_,Hp.le_refl _,S.pick [0,1,2,4,5,6] (by decide)⟩
 refine Wt 0 rfl rfl rfl (pt bo0 0) rfl (fun w' h'=>QD rfl) D3 (Wt 1 rfl rfl rfl (pt bo0 0) rfl (fun w' h'=>QD rfl) D3 (Wt 2 rfl rfl rfl (pt bo0 0) rfl (fun w' h'=>Qo rfl) D3 (Wt 3 rfl rfl rfl (pt bo0 10) rfl (fun w' h'=>QC (o:=0) (off:=10) Tryd.underlying94 rfl ty92 rfl rfl) D3 (Wt 4 rfl rfl rfl (.slice A0_10 a0.txs.length c0_10) rfl (fun w' h'=>QO (Qp h' 0 rfl) ty92 rfl rfl) D3 (Wt 5 rfl rfl rfl (pt bo0 0) rfl (fun w' h'=>QD rfl) D3 (Wt 6 rfl rfl rfl (pt bo0 0) rfl (fun w' h'=>Qo rfl) D3 (Wt 7 rfl rfl rfl (pt bo0 12) rfl (fun w' h'=>QC (o:=0) (off:=12) Tryd.underlying94 rfl ty3 rfl rfl) D3 (Wt 8 rfl rfl rfl (vI a0.clock) rfl (fun w' h'=>QO (Qp h' 0 rfl) ty3 rfl rfl) D3 (Wt 9 rfl rfl rfl (.agg #[vU 1,vI (a0.clock)]) rfl (fun w' h'=>Z3 (pl:=[(0,1),(1,1)]) #[vU 1,vI (a0.clock)] Tryd.underlying99 ty99 (by as_aux_lemma=>kernel_rfl) rfl (by as_aux_lemma=>kernel_rfl)) D3 ?_)))))))))
 refine Wo 10 rfl ?_
 refine XE S #[vU 1,vI (a0.clock)] Tryd.underlying92 ty99 rfl rfl #[vU 0,vI 0] (by as_aux_lemma=>kernel_rfl) (by as_aux_lemma=>kernel_rfl) rfl ?_
 intro b36 w37 E' S
 replace E:=E.trans E'
 replace S:=S.blk_row (r:=QL) (l:=([(⟨(1:Int),(a0.clock)⟩:Z9)]:List Z9)) 0 rfl 1 (Nat.le_refl 1) rfl (Cells.cons (vs:=[vU 1,vI (a0.clock)]) (rfl) Cells.nil)
 refine QB (YU ⟨.inr ⟨M,Hp.le_refl M,(S.pick [1,2,3,5,6,7] (by decide))⟩,?_⟩)
 refine Wo 11 rfl ?_
 obtain ⟨p39,H⟩:=Yy H
 obtain ⟨src40,hs41,hC42⟩:=Y1 (P:=Tryd.prog) (ρ:=QL) (l:=([(⟨(1:Int),(a0.clock)⟩:Z9)]:List Z9)) (S.row_read 0 rfl) (by decide)
 refine XL S 4 rfl rfl rfl Tryd.underlying92 (.inl Tryd.underlying92) ty99 rfl (by decide) (by decide) hs41 hC42 rfl (by omega) rfl ?_
 intro v43 w44 E' S
 replace E:=E.trans E'
 obtain ⟨A45,c46,rfl,_⟩:=(S.row_read 4 rfl).form
 refine QB (YU ⟨.inr ⟨M,Hp.le_refl M,(S.pick [1,2,3,5,6,7] (by decide))⟩,?_⟩)
 have D4:∃ Mx,Hp.le M Mx∧St _ Mx F [_,_,_,_,_,_]:=⟨_,Hp.le_refl _,S.pick [1,2,3,5,6,7] (by decide)⟩
 refine Wt 12 rfl rfl rfl (pt bo0 0) rfl (fun w' h'=>Qo rfl) D4 (Wt 13 rfl rfl rfl (pt bo0 10) rfl (fun w' h'=>QC (o:=0) (off:=10) Tryd.underlying94 rfl ty92 rfl rfl) D4 ?_)
 refine Wo 14 rfl ?_
 refine Qx S 1 rfl ty92 rfl rfl [.slice A45 (a0.txs++([(⟨(1:Int),(a0.clock)⟩:Z9)]:List Z9)).length c46] rfl rfl rfl #[vI a0.c.Tasks,vI a0.c.Active,vI a0.c.Keys,vI a0.c.Depth,vI a0.c.TS,vI a0.c.KeyLen,vI a0.c.ValLen,vI a0.c.Fan,.map (mb A0_8),.map (mb A0_9),.slice A45 (a0.txs++([(⟨(1:Int),(a0.clock)⟩:Z9)]:List Z9)).length c46,.map (mb A0_11),vI a0.clock,vI a0.floor] rfl rfl ?_
 intro w47 E' S
 replace E:=E.trans E'
 refine QB (YU ⟨.inl (by decide),?_⟩)
 refine Wz ?_
 refine tn (QE (QA (W_v (pt bo0 0) (QD rfl) rfl (W_v (pt bo0 0) (Qo rfl) rfl (W_v (pt bo0 9) (QC (o:=0) (off:=9) Tryd.underlying94 rfl ty90 rfl rfl) rfl (W_v (.map (mb A0_9)) (QO (S.blk 1 rfl) ty90 rfl rfl) rfl (W_v (vI a2) (QD rfl) rfl (W_v (vI ((mget a0.many a2).getD (0:Int))) (Xj S 3 rfl Tryd.underlying90 key3 (0:Int) (fun _=>ty3.zero) a2 rfl rfl) rfl (W_v (vI (IntKind.i64.wrap (((mget a0.many a2).getD (0:Int))+(1:Int)))) (Qa rfl rfl rfl rfl) rfl ?_)))))))))
 obtain ⟨x49,he50,H⟩:=QW H
 replace he50:=Option.some.inj he50
 refine VR S 3 rfl Tryd.underlying90 key3 a2 (IntKind.i64.wrap (((mget a0.many a2).getD (0:Int))+(1:Int))) he50 rfl rfl rfl ?_
 intro w48 E' S
 replace E:=E.trans E'
 replace S:St w48 M F [_,_,_,_,_,_,_,_]:=S
 refine QB (tn ?_)
 as_aux_lemma =>
 refine QE ?_
 refine Q0 (S:=fun w'=>∃ Mx,M.le Mx∧St w' Mx F [Row QL 99 (.slice (some ⟨b36,0,none⟩) ([(⟨(1:Int),(a0.clock)⟩:Z9)]:List Z9).length 1) ([(⟨(1:Int),(a0.clock)⟩:Z9)]:List Z9),Blk bo0 (.cells #[vI a0.c.Tasks,vI a0.c.Active,vI a0.c.Keys,vI a0.c.Depth,vI a0.c.TS,vI a0.c.KeyLen,vI a0.c.ValLen,vI a0.c.Fan,.map (mb A0_8),.map (mb A0_9),.slice A45 (a0.txs++([(⟨(1:Int),(a0.clock)⟩:Z9)]:List Z9)).length c46,.map (mb A0_11),vI a0.clock,vI a0.floor] 94 (0,0)),QT QF (Value.int .i64) A0_8 a0.names,QT (Value.int .i64) (Value.int .i64) A0_9 x49,Row QL 99 (.slice A45 (a0.txs++([(⟨(1:Int),(a0.clock)⟩:Z9)]:List Z9)).length c46) (a0.txs++([(⟨(1:Int),(a0.clock)⟩:Z9)]:List Z9)),QT encS (fun v:Value=>v) A0_11 vs0_11,Blk b4 (.cells cz14 43 (0,0)),B37 b1 a3]) (L:=17) mixed ?_
 intro w54 hw55 E'
 replace S:=S.heap hw55
 replace E:=E.trans E'
 have D5:∃ Mx,Hp.le M Mx∧St _ Mx F [_,_,_,_,_,_,_,_]:=⟨_,Hp.le_refl _,S.pick [0,1,2,3,4,5,6,7] (by decide)⟩
 refine Wt 0 rfl rfl rfl (pt bo0 0) rfl (fun w' h'=>QD rfl) D5 (Wt 1 rfl rfl rfl (pt bo0 0) rfl (fun w' h'=>Qo rfl) D5 (Wt 2 rfl rfl rfl (pt bo0 8) rfl (fun w' h'=>QC (o:=0) (off:=8) Tryd.underlying94 rfl ty89 rfl rfl) D5 (Wt 3 rfl rfl rfl (.map (mb A0_8)) rfl (fun w' h'=>QO (Qp h' 1 rfl) ty89 rfl rfl) D5 (Wt 4 rfl rfl rfl (vI a2) rfl (fun w' h'=>QD rfl) D5 (Wt 5 rfl rfl rfl (pt bo0 0) rfl (fun w' h'=>QD rfl) D5 (Wt 6 rfl rfl rfl (pt bo0 0) rfl (fun w' h'=>Qo rfl) D5 (Wt 7 rfl rfl rfl (pt bo0 9) rfl (fun w' h'=>QC (o:=0) (off:=9) Tryd.underlying94 rfl ty90 rfl rfl) D5 (Wt 8 rfl rfl rfl (.map (mb A0_9)) rfl (fun w' h'=>QO (Qp h' 1 rfl) ty90 rfl rfl) D5 (Wt 9 rfl rfl rfl (vI a2) rfl (fun w' h'=>QD rfl) D5 (Wt 10 rfl rfl rfl (vI ((mget x49 a2).getD (0:Int))) rfl (fun w' h'=>Exists.elim h' fun Mx h9=>Xj h9.2 3 rfl Tryd.underlying90 key3 (0:Int) (fun _=>ty3.zero) a2 rfl rfl) D5 (Wt 11 rfl rfl rfl (.agg #[vI a2,vI ((mget x49 a2).getD (0:Int))]) rfl (fun w' h'=>Z3 (pl:=[(0,1),(1,1)]) #[vI a2,vI ((mget x49 a2).getD (0:Int))] Tryd.underlying104 ty104 (by as_aux_lemma=>kernel_rfl) rfl (by as_aux_lemma=>kernel_rfl)) D5 (Wt 12 rfl rfl rfl (pt bo0 0) rfl (fun w' h'=>QD rfl) D5 (Wt 13 rfl rfl rfl (pt bo0 0) rfl (fun w' h'=>Qo rfl) D5 (Wt 14 rfl rfl rfl (pt bo0 10) rfl (fun w' h'=>QC (o:=0) (off:=10) Tryd.underlying94 rfl ty92 rfl rfl) D5 (Wt 15 rfl rfl rfl (.slice A45 (a0.txs++([(⟨(1:Int),(a0.clock)⟩:Z9)]:List Z9)).length c46) rfl (fun w' h'=>QO (Qp h' 1 rfl) ty92 rfl rfl) D5 ?_)))))))))))))))
 refine Wt 16 rfl rfl rfl (vI ((a0.txs++([(⟨(1:Int),(a0.clock)⟩:Z9)]:List Z9)).length:Int)) rfl (fun w' h'=>Q8 (n:=(a0.txs++([(⟨(1:Int),(a0.clock)⟩:Z9)]:List Z9)).length) Tryd.underlying92 rfl) D5 ?_
 refine Wo 17 rfl ?_
 obtain ⟨x57,he58,H⟩:=QW H
 replace he58:=Option.some.inj he58
 refine VR S 2 rfl Tryd.underlying89 key104 (⟨a2,((mget x49 a2).getD (0:Int))⟩:Zi) ((a0.txs++([(⟨(1:Int),(a0.clock)⟩:Z9)]:List Z9)).length:Int) he58 rfl rfl rfl ?_
 intro w56 E' S
 replace E:=E.trans E'
 replace S:St w56 M F [_,_,_,_,_,_,_,_]:=S
 refine QB (YU ⟨.inl (by decide),?_⟩)
 refine Wz ?_
 refine tn (QE (QA (W_v (.agg cz14) (Z3 (pl:=[(0,1),(1,1),(2,1),(3,1)]) cz14 Tryd.underlying43 ty43 (by as_aux_lemma=>kernel_rfl) rfl (by as_aux_lemma=>kernel_rfl)) rfl ?_)))
 refine Qx S 6 rfl ty43 rfl rfl [vI 0,.bool false,vS ([]:Str),.slice none 0 0] rfl rfl rfl cz14 rfl rfl ?_
 intro w59 E' S
 replace E:=E.trans E'
 refine QB (tn ?_)
 refine Qs ?_
 obtain rfl:=Option.some.inj H
 replace S:=S.row_nil Qm 87
 exact ⟨_,_,_,fun w1 e1=>QX (vs:=[.agg #[vI 0,.bool false,vS ([]:Str),.slice none ([]:List Qf).length 0]]) (FA.cons (⟨_,rfl,Qn ty43 ((S.of_eq e1).blk 7 rfl) (QM rfl) rfl (by decide)⟩) (FA.nil)),HM,E,S.pick [0,2,3,4,5,6] (by decide),⟨none,0,A0_8,c0_8,A0_9,c0_9,A45,c46,A0_11,c0_11,vs0_11,rfl,hm0_11,rfl⟩⟩
def Zx (k:Nat) (a0:QJ) (a1:Int) (a2:Ql):Option (Str×Bool) :=
 (if (a2.intent.Writer==a1)=true then some (a2.intent.Value,(!a2.intent.Tomb)) else (if 0≤(IntKind.i64.wrap (a1 - (1:Int)))∧(IntKind.i64.wrap (a1 - (1:Int))) < (a0.txs.length:Int) then (Option.bind (α:=Int×Int×Bool×Str×Bool) (Option.bind (XQ k a2.l ((rd a0.txs (IntKind.i64.wrap (a1 - (1:Int)))).snapshot)) (fun t110=>some (t110.1.Writer,t110.1.TS,t110.1.Tomb,t110.1.Value,t110.2))) (fun ⟨x105,x106,x107,x108,x109⟩=>some (x108,x109))) else none))
theorem Zx.mono {k:Nat} {a0:QJ} {a1:Int} {a2:Ql}:OLe (Zx k a0 a1 a2) (Zx (k+1) a0 a1 a2):=by
 unfold Zx
 have m1:=@XQ.mono
 exact mo
theorem Zx.con (k:Nat) (M:Hp) (A0_8:Option Addr) (c0_8:Nat) (A0_9:Option Addr) (c0_9:Nat) (A0_10:Option Addr) (c0_10:Nat) (A0_11:Option Addr) (c0_11:Nat) (vs0_11:List (Str×Value)) (a0:QJ) (a1:Int) (A2_0:Option Addr) (c2_0:Nat) (a2:Ql) (bo0:Nat) (r:Str×Bool) (hm0_11:YV Qk M a0.rows vs0_11) (hr2_0:SlR Q4 M (.slice A2_0 a2.l.length c2_0) a2.l) (h:Zx k a0 a1 a2=some r):Con Tryd.prog 133 #[pt bo0 0,vI a1,.agg #[.slice A2_0 a2.l.length c2_0,vI a2.intent.Writer,vI a2.intent.TS,.bool a2.intent.Tomb,vS a2.intent.Value]] M [B94 bo0 a0 A0_8 A0_9 A0_10 c0_10 A0_11,QT QF (Value.int .i64) A0_8 a0.names,QT (Value.int .i64) (Value.int .i64) A0_9 a0.many,Row QL 99 (.slice A0_10 a0.txs.length c0_10) a0.txs,QT encS (fun v:Value=>v) A0_11 vs0_11] (fun v M' Γ'=>v=.tuple #[vS r.1,.bool r.2]∧Γ'=[B94 bo0 a0 A0_8 A0_9 A0_10 c0_10 A0_11,QT QF (Value.int .i64) A0_8 a0.names,QT (Value.int .i64) (Value.int .i64) A0_9 a0.many,Row QL 99 (.slice A0_10 a0.txs.length c0_10) a0.txs,QT encS (fun v:Value=>v) A0_11 vs0_11]):=by
 refine Qt Tryd.func133 rfl Tryd.ntmps133 Tryd.results133 rfl ?_
 intro w F rn S hrn
 have E:=Ext.refl w
 have HM:=Hp.le_refl M
 have H:=h
 unfold Zx at H
 refine QE (QA ?_)
 refine Y8 S #[.slice A2_0 a2.l.length c2_0,vI a2.intent.Writer,vI a2.intent.TS,.bool a2.intent.Tomb,vS a2.intent.Value] rfl rfl rfl ?_
 intro b1 w2 E' S
 replace E:=E.trans E'
 refine W_v (vS ([]:Str)) (QG rfl) rfl (W_v (.bool false) (QG rfl) rfl (QB (tn (QE (QE (QA (W_v (pt b1 1) (QC (o:=0) (off:=1) Tryd.underlying101 rfl ty61 rfl rfl) rfl (W_v (pt b1 1) (QC (o:=1) (off:=0) Tryd.underlying61 rfl ty3 rfl rfl) rfl (W_v (vI a2.intent.Writer) (QO (S.blk 0 rfl) ty3 rfl rfl) rfl (W_v (vI a1) (QD rfl) rfl (W_v (.bool (a2.intent.Writer==a1)) (Qa rfl rfl rfl rfl) rfl (QB (tn ?_)))))))))))))
 rcases Zf H with ⟨hb4,H⟩ | ⟨hb4,H⟩
 ·refine QQ (congrArg Value.bool hb4) ?_
  refine QE ?_
  refine Q0 (S:=fun w'=>∃ Mx,M.le Mx∧St w' Mx F [B101 b1 a2 A2_0 c2_0,B94 bo0 a0 A0_8 A0_9 A0_10 c0_10 A0_11,QT QF (Value.int .i64) A0_8 a0.names,QT (Value.int .i64) (Value.int .i64) A0_9 a0.many,Row QL 99 (.slice A0_10 a0.txs.length c0_10) a0.txs,QT encS (fun v:Value=>v) A0_11 vs0_11]) (L:=9) mixed ?_
  intro w5 hw6 E'
  replace S:=S.heap hw6
  replace E:=E.trans E'
  have D1:∃ Mx,Hp.le M Mx∧St _ Mx F [_,_,_,_,_,_]:=⟨_,Hp.le_refl _,S.pick [0,1,2,3,4,5] (by decide)⟩
  refine Wt 0 rfl rfl rfl (pt b1 1) rfl (fun w' h'=>QC (o:=0) (off:=1) Tryd.underlying101 rfl ty61 rfl rfl) D1 (Wt 1 rfl rfl rfl (pt b1 4) rfl (fun w' h'=>QC (o:=1) (off:=3) Tryd.underlying61 rfl ty9 rfl rfl) D1 (Wt 2 rfl rfl rfl (vS a2.intent.Value) rfl (fun w' h'=>QO (Qp h' 0 rfl) ty9 rfl rfl) D1 (Wt 3 rfl rfl rfl (pt b1 1) rfl (fun w' h'=>QC (o:=0) (off:=1) Tryd.underlying101 rfl ty61 rfl rfl) D1 (Wt 4 rfl rfl rfl (pt b1 3) rfl (fun w' h'=>QC (o:=1) (off:=2) Tryd.underlying61 rfl ty4 rfl rfl) D1 (Wt 5 rfl rfl rfl (.bool a2.intent.Tomb) rfl (fun w' h'=>QO (Qp h' 0 rfl) ty4 rfl rfl) D1 (Wt 6 rfl rfl rfl (.bool (!a2.intent.Tomb)) rfl (fun w' h'=>Y5 (b:=a2.intent.Tomb) rfl) D1 (Wt 7 rfl rfl rfl (vS a2.intent.Value) rfl (fun w' h'=>QG rfl) D1 (Wt 8 rfl rfl rfl (.bool (!a2.intent.Tomb)) rfl (fun w' h'=>QG rfl) D1 ?_))))))))
  refine Wz ?_
  refine tn ?_
  refine Qs ?_
  refine tr (?_)
  obtain rfl:=Option.some.inj H
  exact ⟨_,_,_,fun w1 e1=>QX (vs:=[vS a2.intent.Value,.bool (!a2.intent.Tomb)]) (FA.cons (rfl) (FA.cons (rfl) (FA.nil))),HM,E,S.pick [1,2,3,4,5] (by decide),⟨rfl,rfl⟩⟩
 refine QK (congrArg Value.bool hb4) (Qr (tn ?_))
 as_aux_lemma =>
 refine QE ?_
 refine Q0 (S:=fun w'=>∃ Mx,M.le Mx∧St w' Mx F [B101 b1 a2 A2_0 c2_0,B94 bo0 a0 A0_8 A0_9 A0_10 c0_10 A0_11,QT QF (Value.int .i64) A0_8 a0.names,QT (Value.int .i64) (Value.int .i64) A0_9 a0.many,Row QL 99 (.slice A0_10 a0.txs.length c0_10) a0.txs,QT encS (fun v:Value=>v) A0_11 vs0_11]) (L:=18) mixed ?_
 intro w77 hw78 E'
 replace S:=S.heap hw78
 replace E:=E.trans E'
 have D2:∃ Mx,Hp.le M Mx∧St _ Mx F [_,_,_,_,_,_]:=⟨_,Hp.le_refl _,S.pick [0,1,2,3,4,5] (by decide)⟩
 refine Wt 0 rfl rfl rfl (pt b1 0) rfl (fun w' h'=>QC (o:=0) (off:=0) Tryd.underlying101 rfl ty65 rfl rfl) D2 (Wt 1 rfl rfl rfl (.slice A2_0 a2.l.length c2_0) rfl (fun w' h'=>QO (Qp h' 0 rfl) ty65 rfl rfl) D2 (Wt 2 rfl rfl rfl (pt bo0 0) rfl (fun w' h'=>QD rfl) D2 (Wt 3 rfl rfl rfl (pt bo0 0) rfl (fun w' h'=>Qo rfl) D2 (Wt 4 rfl rfl rfl (pt bo0 10) rfl (fun w' h'=>QC (o:=0) (off:=10) Tryd.underlying94 rfl ty92 rfl rfl) D2 (Wt 5 rfl rfl rfl (.slice A0_10 a0.txs.length c0_10) rfl (fun w' h'=>QO (Qp h' 1 rfl) ty92 rfl rfl) D2 (Wt 6 rfl rfl rfl (vI a1) rfl (fun w' h'=>QD rfl) D2 (Wt 7 rfl rfl rfl (vI (IntKind.i64.wrap (a1 - (1:Int)))) rfl (fun w' h'=>Qa rfl rfl rfl rfl) D2 ?_)))))))
 obtain ⟨⟨p79,p80⟩,H⟩:=Yy H
 obtain ⟨b81,o82,_,_,_,ee83,_⟩:=SlW.at' (S.row_read 4 rfl) p79 p80
 refine Wt 8 rfl rfl rfl (.pointer (some ⟨b81,o82+(IntKind.i64.wrap (a1 - (1:Int))).toNat*2,none⟩)) rfl (fun w' h'=>Qy Tryd.underlying92 ty99 (slA ee83) rfl p79 p80) D2 (Wt 9 rfl rfl rfl (.pointer (some ⟨b81,o82+(IntKind.i64.wrap (a1 - (1:Int))).toNat*2+1,none⟩)) rfl (fun w' h'=>QC (o:=o82+(IntKind.i64.wrap (a1 - (1:Int))).toNat*2) (off:=1) Tryd.underlying99 rfl ty3 rfl rfl) D2 (Wt 10 rfl rfl rfl (vI ((rd a0.txs (IntKind.i64.wrap (a1 - (1:Int)))).snapshot)) rfl (fun w' h'=>Va h' 4 rfl ee83 p79 p80 1 (by rintro _ _ rfl;rfl) ty3 rfl) D2 ?_))
 obtain ⟨o128,o128h,o128H⟩:=QW H
 refine YD (fun ρ w'=>∃ (x105:Int) (x106:Int) (x107:Bool) (x108:Str) (x109:Bool) (b103:Nat),(x105,x106,x107,x108,x109)=o128∧Qi ρ [(8,pt b103 0),(35,.agg #[vI x105,vI x106,.bool x107,vS x108]),(36,.bool x109)]∧Ext w w'∧St w' M F [Blk b103 (.cells cz16 61 (0,0)),B101 b1 a2 A2_0 c2_0,B94 bo0 a0 A0_8 A0_9 A0_10 c0_10 A0_11,QT QF (Value.int .i64) A0_8 a0.names,QT (Value.int .i64) (Value.int .i64) A0_9 a0.many,Row QL 99 (.slice A0_10 a0.txs.length c0_10) a0.txs,QT encS (fun v:Value=>v) A0_11 vs0_11]) 2 (Ls 18 [0,1,2,3,4,5,6,7,8,9,10,11,12,13,14,15]) ?_ ?_
 rotate_left
 ·intro hq132
  refine YD (fun ρ w'=>∃ (x95:Int) (x96:Int) (x97:Bool) (x98:Str) (x99:Bool),some (x95,x96,x97,x98,x99)=some o128∧Qi ρ [(35,.agg #[vI x95,vI x96,.bool x97,vS x98]),(36,.bool x99)]∧Ext w w'∧St w' M F [B101 b1 a2 A2_0 c2_0,B94 bo0 a0 A0_8 A0_9 A0_10 c0_10 A0_11,QT QF (Value.int .i64) A0_8 a0.names,QT (Value.int .i64) (Value.int .i64) A0_9 a0.many,Row QL 99 (.slice A0_10 a0.txs.length c0_10) a0.txs,QT encS (fun v:Value=>v) A0_11 vs0_11]) 3 (Ls 18 [0,1,2,3,4,5,6,7,8,9,10,11,12,13,14]) ?_ ?_
  ·clear o128h
   rintro ρ w133 ⟨x95,x96,x97,x98,x99,H,hρ,E,S⟩
   rw [QI hρ]
   refine Wo 15 rfl ?_
   refine Zo S cz16 ty61 rfl rfl ?_
   intro b134 w135 E' S
   replace E:=E.trans E'
   refine QB (YU ⟨.inr ⟨M,Hp.le_refl M,(S.pick [1,2,3,4,5,6] (by decide))⟩,?_⟩)
   exact hq132 _ _ ⟨x95,x96,x97,x98,x99,b134,Option.some.inj H,⟨rfl,rfl,rfl,trivial⟩,E,S.pick [0,1,2,3,4,5,6] (by decide)⟩
  intro hq131
  refine YD (fun ρ w'=>∃ (b90:Nat),(Option.bind (XQ k a2.l ((rd a0.txs (IntKind.i64.wrap (a1 - (1:Int)))).snapshot)) (fun t122=>some (t122.1.Writer,t122.1.TS,t122.1.Tomb,t122.1.Value,t122.2)))=some o128∧Qi ρ [(8,pt b90 0),(24,.slice A2_0 a2.l.length c2_0),(33,vI ((rd a0.txs (IntKind.i64.wrap (a1 - (1:Int)))).snapshot))]∧Ext w w'∧St w' M F [Blk b90 (.cells cz16 61 (0,0)),B101 b1 a2 A2_0 c2_0,B94 bo0 a0 A0_8 A0_9 A0_10 c0_10 A0_11,QT QF (Value.int .i64) A0_8 a0.names,QT (Value.int .i64) (Value.int .i64) A0_9 a0.many,Row QL 99 (.slice A0_10 a0.txs.length c0_10) a0.txs,QT encS (fun v:Value=>v) A0_11 vs0_11]) 6 (Ls 18 [0,1,2,3,4,5,6,7,8,9,10,15]) ?_ ?_
  ·clear o128h
   rintro ρ w137 ⟨b90,H,hρ,E,S⟩
   rw [QI hρ]
   refine Wo 11 rfl ?_
   obtain ⟨t138,ht139,H⟩:=QW H
   refine Zz fn140 (XQ.con k M A2_0 c2_0 a2.l ((rd a0.txs (IntKind.i64.wrap (a1 - (1:Int)))).snapshot) t138 hr2_0 ht139) S rfl rfl (by rintro _ _ _ ⟨_,rfl⟩;exact Qd) ?_
   rintro _ w140 _ Γ' E' S ⟨rfl,rfl⟩
   replace E:=E.trans E'
   refine QB (YU ⟨.inr ⟨M,Hp.le_refl M,(S.pick [1,2,3,4,5,6] (by decide))⟩,?_⟩)
   have D3:∃ Mx,Hp.le M Mx∧St _ Mx F [_,_,_,_,_,_]:=⟨_,Hp.le_refl _,S.pick [1,2,3,4,5,6] (by decide)⟩
   refine Wt 12 rfl rfl rfl (.tuple #[.agg #[vI t138.1.Writer,vI t138.1.TS,.bool t138.1.Tomb,vS t138.1.Value],.bool t138.2]) rfl (fun w' h'=>QD rfl) D3 (Wt 13 rfl rfl rfl (.agg #[vI t138.1.Writer,vI t138.1.TS,.bool t138.1.Tomb,vS t138.1.Value]) rfl (fun w' h'=>ZB rfl rfl) D3 (Wt 14 rfl rfl rfl (.bool t138.2) rfl (fun w' h'=>ZB rfl rfl) D3 ?_))
   exact hq132 _ _ ⟨t138.1.Writer,t138.1.TS,t138.1.Tomb,t138.1.Value,t138.2,b90,Option.some.inj H,⟨rfl,rfl,rfl,trivial⟩,E,S.pick [0,1,2,3,4,5,6] (by decide)⟩
  intro hq130
  have H:=o128h
  refine XK (rs:=[11,15]) (by kernel_rfl) (by decide) ?_
  simp only [List.forall_mem_cons,List.not_mem_nil,false_implies,implies_true,and_true]
  refine ⟨?_,?_⟩
  ·refine ⟨_,rfl,?_⟩
   obtain ⟨t141,ht142,H⟩:=QW H
   refine Zz fn140 (XQ.con k M A2_0 c2_0 a2.l ((rd a0.txs (IntKind.i64.wrap (a1 - (1:Int)))).snapshot) t141 hr2_0 ht142) S rfl rfl (by rintro _ _ _ ⟨_,rfl⟩;exact Qd) ?_
   rintro _ w143 _ Γ' E' S ⟨rfl,rfl⟩
   replace E:=E.trans E'
   refine QB (YU ⟨.inr ⟨M,Hp.le_refl M,(S.pick [0,1,2,3,4,5] (by decide))⟩,?_⟩)
   have D4:∃ Mx,Hp.le M Mx∧St _ Mx F [_,_,_,_,_,_]:=⟨_,Hp.le_refl _,S.pick [0,1,2,3,4,5] (by decide)⟩
   refine Wt 12 rfl rfl rfl (.tuple #[.agg #[vI t141.1.Writer,vI t141.1.TS,.bool t141.1.Tomb,vS t141.1.Value],.bool t141.2]) rfl (fun w' h'=>QD rfl) D4 (Wt 13 rfl rfl rfl (.agg #[vI t141.1.Writer,vI t141.1.TS,.bool t141.1.Tomb,vS t141.1.Value]) rfl (fun w' h'=>ZB rfl rfl) D4 (Wt 14 rfl rfl rfl (.bool t141.2) rfl (fun w' h'=>ZB rfl rfl) D4 ?_))
   exact hq131 _ _ ⟨t141.1.Writer,t141.1.TS,t141.1.Tomb,t141.1.Value,t141.2,H,⟨rfl,rfl,trivial⟩,E,S.pick [0,1,2,3,4,5] (by decide)⟩
  ·refine ⟨_,rfl,?_⟩
   refine Zo S cz16 ty61 rfl rfl ?_
   intro b144 w145 E' S
   replace E:=E.trans E'
   refine QB (YU ⟨.inr ⟨M,Hp.le_refl M,(S.pick [1,2,3,4,5,6] (by decide))⟩,?_⟩)
   exact hq130 _ _ ⟨b144,H,⟨rfl,rfl,rfl,trivial⟩,E,S.pick [0,1,2,3,4,5,6] (by decide)⟩
 rintro ρ w147 ⟨x105,x106,x107,x108,x109,b103,rfl,hρ,E,S⟩
 rw [QI hρ]
 have H:=o128H
 refine Wo 16 rfl ?_
 refine Qx S 0 rfl ty61 rfl rfl [vI x105,vI x106,.bool x107,vS x108] rfl rfl rfl #[vI x105,vI x106,.bool x107,vS x108] rfl rfl ?_
 intro w148 E' S
 replace E:=E.trans E'
 refine QB (YU ⟨.inr ⟨M,Hp.le_refl M,(S.pick [1,2,3,4,5,6] (by decide))⟩,?_⟩)
 refine Wt 17 rfl rfl rfl (.bool x109) rfl (fun w' h'=>QG rfl) (⟨M,Hp.le_refl M,(S.pick [1,2,3,4,5,6] (by decide))⟩) ?_
 refine Wz ?_
 refine tn ?_
 as_aux_lemma =>
 refine QE (QA (W_v (pt b103 3) (QC (o:=0) (off:=3) Tryd.underlying61 rfl ty9 rfl rfl) rfl (W_v (vS x108) (QO (S.blk 0 rfl) ty9 rfl rfl) rfl (W_v (.bool x109) (QD rfl) rfl (W_v (vS x108) (QG rfl) rfl (W_v (.bool x109) (QG rfl) rfl (QB (tn ?_))))))))
 refine Qs ?_
 obtain rfl:=Option.some.inj H
 exact ⟨_,_,_,fun w1 e1=>QX (vs:=[vS x108,.bool x109]) (FA.cons (rfl) (FA.cons (rfl) (FA.nil))),HM,E,S.pick [2,3,4,5,6] (by decide),⟨rfl,rfl⟩⟩
def Yk (k:Nat) (a0:QJ) (a1:Int) (a2:Int) (a3:ZE):Option (Qc) :=
 (Option.bind (Zx k a0 a1 ((mget a0.rows a3.Key).getD cz18)) (fun t28=>(if (!t28.2)=true then some cz8 else some (⟨(0:Int),true,t28.1,([]:List Qf)⟩:Qc))))
theorem Yk.mono {k:Nat} {a0:QJ} {a1:Int} {a2:Int} {a3:ZE}:OLe (Yk k a0 a1 a2 a3) (Yk (k+1) a0 a1 a2 a3):=by
 unfold Yk
 have m1:=@Zx.mono
 exact mo
theorem Yk.con (k:Nat) (M:Hp) (A0_8:Option Addr) (c0_8:Nat) (A0_9:Option Addr) (c0_9:Nat) (A0_10:Option Addr) (c0_10:Nat) (A0_11:Option Addr) (c0_11:Nat) (vs0_11:List (Str×Value)) (a0:QJ) (a1:Int) (a2:Int) (a3:ZE) (bo0:Nat) (r:Qc) (hm0_11:YV Qk M a0.rows vs0_11) (h:Yk k a0 a1 a2 a3=some r):Con Tryd.prog 125 #[pt bo0 0,vI a1,vI a2,.agg #[vU a3.Kind,vI a3.Tx,vS a3.Key,vS a3.End,vS a3.Value,vI a3.Limit,vU a3.Engine]] M [B94 bo0 a0 A0_8 A0_9 A0_10 c0_10 A0_11,QT QF (Value.int .i64) A0_8 a0.names,QT (Value.int .i64) (Value.int .i64) A0_9 a0.many,Row QL 99 (.slice A0_10 a0.txs.length c0_10) a0.txs,QT encS (fun v:Value=>v) A0_11 vs0_11] (fun v M' Γ'=>∃ (Aq1:Option Addr) (cq2:Nat),v=.agg #[vI r.Err,.bool r.Found,vS r.Value,.slice Aq1 r.Pairs.length cq2]∧Γ'=[Row Qm 87 (.slice Aq1 r.Pairs.length cq2) r.Pairs,B94 bo0 a0 A0_8 A0_9 A0_10 c0_10 A0_11,QT QF (Value.int .i64) A0_8 a0.names,QT (Value.int .i64) (Value.int .i64) A0_9 a0.many,Row QL 99 (.slice A0_10 a0.txs.length c0_10) a0.txs,QT encS (fun v:Value=>v) A0_11 vs0_11]):=by
 refine Qt Tryd.func125 rfl Tryd.ntmps125 Tryd.results125 rfl ?_
 intro w F rn S hrn
 have E:=Ext.refl w
 have HM:=Hp.le_refl M
 have H:=h
 unfold Yk at H
 refine QE (QA ?_)
 refine Y8 S #[vU a3.Kind,vI a3.Tx,vS a3.Key,vS a3.End,vS a3.Value,vI a3.Limit,vU a3.Engine] rfl rfl rfl ?_
 intro b1 w2 E' S
 replace E:=E.trans E'
 refine Zo S cz14 ty43 rfl rfl ?_
 intro b4 w5 E' S
 replace E:=E.trans E'
 refine QB (tn (QE ?_))
 refine Q0 (S:=fun w'=>∃ Mx,M.le Mx∧St w' Mx F [Blk b4 (.cells cz14 43 (0,0)),B37 b1 a3,B94 bo0 a0 A0_8 A0_9 A0_10 c0_10 A0_11,QT QF (Value.int .i64) A0_8 a0.names,QT (Value.int .i64) (Value.int .i64) A0_9 a0.many,Row QL 99 (.slice A0_10 a0.txs.length c0_10) a0.txs,QT encS (fun v:Value=>v) A0_11 vs0_11]) (L:=15) mixed ?_
 intro w19 hw20 E'
 replace S:=S.heap hw20
 replace E:=E.trans E'
 have D1:∃ Mx,Hp.le M Mx∧St _ Mx F [_,_,_,_,_,_,_]:=⟨_,Hp.le_refl _,S.pick [0,1,2,3,4,5,6] (by decide)⟩
 refine Wt 0 rfl rfl rfl (pt bo0 0) rfl (fun w' h'=>QD rfl) D1 (Wt 1 rfl rfl rfl (vI a1) rfl (fun w' h'=>QD rfl) D1 (Wt 2 rfl rfl rfl (pt bo0 0) rfl (fun w' h'=>QD rfl) D1 (Wt 3 rfl rfl rfl (pt bo0 0) rfl (fun w' h'=>Qo rfl) D1 (Wt 4 rfl rfl rfl (pt bo0 11) rfl (fun w' h'=>QC (o:=0) (off:=11) Tryd.underlying94 rfl ty91 rfl rfl) D1 (Wt 5 rfl rfl rfl (.map (mb A0_11)) rfl (fun w' h'=>QO (Qp h' 2 rfl) ty91 rfl rfl) D1 (Wt 6 rfl rfl rfl (pt b1 2) rfl (fun w' h'=>QC (o:=0) (off:=2) Tryd.underlying37 rfl ty9 rfl rfl) D1 (Wt 7 rfl rfl rfl (vS a3.Key) rfl (fun w' h'=>QO (Qp h' 1 rfl) ty9 rfl rfl) D1 ?_)))))))
 obtain ⟨cs21,hR22,he23⟩:=hm0_11.get a3.Key (z:=cz18) (zc:=[.slice none 0 0,vI 0,vI 0,.bool false,vS ([]:Str)]) ⟨_,SlW.nil _ _,rfl⟩
 obtain ⟨v27,hs26,rfl⟩:=hR22
 obtain ⟨A24,c25,rfl,_⟩:=hs26.form
 refine Wt 8 rfl rfl rfl (.agg #[.slice A24 (((mget a0.rows a3.Key).getD cz18).l).length c25,vI (((mget a0.rows a3.Key).getD cz18).intent.Writer),vI (((mget a0.rows a3.Key).getD cz18).intent.TS),.bool (((mget a0.rows a3.Key).getD cz18).intent.Tomb),vS (((mget a0.rows a3.Key).getD cz18).intent.Value)]) rfl (fun w' h'=>Exists.elim h' fun Mx h9=>(Eq.trans (Xj h9.2 6 rfl Tryd.underlying91 key9 (Value.agg cz9) (fun _=>ty101.zero) a3.Key rfl rfl) (by rw [show (mget vs0_11 a3.Key).getD (Value.agg cz9)=_ from he23]))) D1 ?_
 refine Wo 9 rfl ?_
 obtain ⟨t28,ht29,H⟩:=QW H
 replace S:St w19 M F [_,_,_,_,_,_,_]:=S.pick [2,3,4,5,6,0,1] (by decide)
 refine Z5 fn133 (Zx.con k M A0_8 c0_8 A0_9 c0_9 A0_10 c0_10 A0_11 c0_11 vs0_11 a0 a1 A24 c25 ((mget a0.rows a3.Key).getD cz18) bo0 t28 hm0_11 hs26 ht29) (Γ1:=[_,_,_,_,_]) (Γ2:=[_,_]) S rfl rfl (by rintro _ _ _ ⟨rfl,rfl⟩;exact (QN ZW (QN Qu (QN Qu (QN (YI (fun _ _ _ _ h=>h)) (QN Qu Qd)))))) ?_
 rintro _ w30 _ Γ' E' S ⟨rfl,rfl⟩
 replace E:=E.trans E'
 replace S:St w30 M F [_,_,_,_,_,_,_]:=S
 refine QB (YU ⟨.inr ⟨M,Hp.le_refl M,(S.pick [5,6,0,1,2,3,4] (by decide))⟩,?_⟩)
 have D2:∃ Mx,Hp.le M Mx∧St _ Mx F [_,_,_,_,_,_,_]:=⟨_,Hp.le_refl _,S.pick [5,6,0,1,2,3,4] (by decide)⟩
 refine Wt 10 rfl rfl rfl (.tuple #[vS t28.1,.bool t28.2]) rfl (fun w' h'=>QD rfl) D2 (Wt 11 rfl rfl rfl (vS t28.1) rfl (fun w' h'=>ZB rfl rfl) D2 (Wt 12 rfl rfl rfl (.bool t28.2) rfl (fun w' h'=>ZB rfl rfl) D2 (Wt 13 rfl rfl rfl (vS t28.1) rfl (fun w' h'=>QG rfl) D2 (Wt 14 rfl rfl rfl (.bool t28.2) rfl (fun w' h'=>QG rfl) D2 ?_))))
 refine Wz ?_
 refine tn (QE ?_)
 as_aux_lemma =>
 refine QE (QA (W_v (.bool t28.2) (QD rfl) rfl (W_v (.bool (!t28.2)) (Y5 (b:=t28.2) rfl) rfl (QB (tn ?_)))))
 rcases Zf H with ⟨hb33,H⟩ | ⟨hb33,H⟩
 ·refine QQ (congrArg Value.bool hb33) ?_
  refine QE (QA (W_v (.agg cz14) (Z3 (pl:=[(0,1),(1,1),(2,1),(3,1)]) cz14 Tryd.underlying43 ty43 (by as_aux_lemma=>kernel_rfl) rfl (by as_aux_lemma=>kernel_rfl)) rfl ?_))
  refine Qx S 5 rfl ty43 rfl rfl [vI 0,.bool false,vS ([]:Str),.slice none 0 0] rfl rfl rfl cz14 rfl rfl ?_
  intro w34 E' S
  replace E:=E.trans E'
  refine QB (tn ?_)
  refine Qs ?_
  refine tr (?_)
  obtain rfl:=Option.some.inj H
  replace S:=S.row_nil Qm 87
  exact ⟨_,_,_,fun w1 e1=>QX (vs:=[.agg #[vI 0,.bool false,vS ([]:Str),.slice none ([]:List Qf).length 0]]) (FA.cons (⟨_,rfl,Qn ty43 ((S.of_eq e1).blk 6 rfl) (QM rfl) rfl (by decide)⟩) (FA.nil)),HM,E,S.pick [0,1,2,3,4,5] (by decide),⟨none,0,rfl,rfl⟩⟩
 refine QK (congrArg Value.bool hb33) (Qr (tn (QE (QA (W_v (vS t28.1) (QD rfl) rfl (W_v (.agg #[vI 0,.bool true,vS t28.1,.slice none 0 0]) (Z3 (pl:=[(0,1),(1,1),(2,1),(3,1)]) #[vI 0,.bool true,vS t28.1,.slice none 0 0] Tryd.underlying43 ty43 (by as_aux_lemma=>kernel_rfl) rfl (by as_aux_lemma=>kernel_rfl)) rfl ?_))))))
 refine Qx S 5 rfl ty43 rfl rfl [vI 0,.bool true,vS t28.1,.slice none 0 0] rfl rfl rfl #[vI 0,.bool true,vS t28.1,.slice none 0 0] rfl rfl ?_
 intro w36 E' S
 replace E:=E.trans E'
 refine QB (tn ?_)
 refine Qs ?_
 obtain rfl:=Option.some.inj H
 replace S:=S.row_nil Qm 87
 exact ⟨_,_,_,fun w1 e1=>QX (vs:=[.agg #[vI 0,.bool true,vS t28.1,.slice none ([]:List Qf).length 0]]) (FA.cons (⟨_,rfl,Qn ty43 ((S.of_eq e1).blk 6 rfl) (QM rfl) rfl (by decide)⟩) (FA.nil)),HM,E,S.pick [0,1,2,3,4,5] (by decide),⟨none,0,rfl,rfl⟩⟩
end Go.Proofs.YtcngjjlhdlbogaaDoor
