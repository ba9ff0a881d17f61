import Derived.Test.YtkknoimjgifhlaaGreatDoorGr3B
namespace Go.Proofs.YtkknoimjgifhlaaGreatDoor
open Go
set_option linter.unusedVariables false
set_option linter.unusedSimpArgs false
set_option maxHeartbeats 80000000
set_option maxRecDepth 100000
def YU (a0:(List (List QY))) (x632:Int):Nat→Int→Int→Option ((Int))
 | 0,_,_=>none
 | k+1,x918,x919=>(if 0≤x632∧x632<(a0.length:Int) then (if ((decide (x919<((rd a0 x632).length:Int)))&&(decide (x918<(8000:Int))))=true then (if 0≤x632∧x632<(a0.length:Int) then (if 0≤x919∧x919<((rd a0 x632).length:Int) then YU a0 x632 k (IntKind.i64.wrap ((IntKind.i64.wrap ((IntKind.i64.wrap ((IntKind.i64.wrap (x918+(5:Int)))+(imin (8000:Int) (((rd (rd a0 x632) x919).Key).length:Int))))+(imin (8000:Int) (((rd (rd a0 x632) x919).End).length:Int))))+(imin (8000:Int) (((rd (rd a0 x632) x919).Value).length:Int)))) (IntKind.i64.wrap (x919+(1:Int))) else none) else none) else some (x918)) else none)
theorem YU.mono {a0 x632}: ∀ {kl:Nat} {x0 x1},OLe (YU a0 x632 kl x0 x1) (YU a0 x632 (kl+1) x0 x1):=by
 intro kl
 induction kl with
 | zero=>intros;exact OLe.none
 | succ kl ih =>
  intros
  rw [YU.eq_2,YU.eq_2]
  exact mo
def Z7 (a0:(List (List QY))):Nat→Int→Int→Option ((Int))
 | 0,_,_=>none
 | k+1,x631,x632=>(if ((decide (x632<(a0.length:Int)))&&(decide (x631<(8000:Int))))=true then (Option.bind (YU a0 x632 k (IntKind.i64.wrap (x631+(1:Int))) (0:Int)) (fun x964=>Z7 a0 k x964 (IntKind.i64.wrap (x632+(1:Int))))) else some (x631))
theorem Z7.mono {a0}: ∀ {kl:Nat} {x0 x1},OLe (Z7 a0 kl x0 x1) (Z7 a0 (kl+1) x0 x1):=by
 intro kl
 induction kl with
 | zero=>intros;exact OLe.none
 | succ kl ih =>
  intros
  rw [Z7.eq_2,Z7.eq_2]
  have m1:=@YU.mono
  exact mo
def YV (a1:(List QL)):Nat→Int→Int→Option ((Int))
 | 0,_,_=>none
 | k+1,x125,x126=>(if ((decide (x126<(a1.length:Int)))&&(decide (x125<(8000:Int))))=true then (if 0≤x126∧x126<(a1.length:Int) then (if 0≤x126∧x126<(a1.length:Int) then YV a1 k (IntKind.i64.wrap ((IntKind.i64.wrap (x125+(imin (8000:Int) (((rd a1 x126).Answer.Value).length:Int))))+(IntKind.i64.wrap ((5:Int)*(imin (8000:Int) (((rd a1 x126).Answer.Pairs).length:Int)))))) (IntKind.i64.wrap (x126+(1:Int))) else none) else none) else some (x125))
theorem YV.mono {a1}: ∀ {kl:Nat} {x0 x1},OLe (YV a1 kl x0 x1) (YV a1 (kl+1) x0 x1):=by
 intro kl
 induction kl with
 | zero=>intros;exact OLe.none
 | succ kl ih =>
  intros
  rw [YV.eq_2,YV.eq_2]
  exact mo
def XQ (k:Nat) (a0:(List (List QY))) (a1:(List QL)):Option (Bool) :=
 (Option.bind (YV a1 k (IntKind.i64.wrap ((30:Int)*(imin (1000:Int) (a1.length:Int)))) (0:Int)) (fun x187=>(Option.bind (Z7 a0 k x187 (0:Int)) (fun x821=>some (decide (x821≥(8000:Int)))))))
theorem XQ.mono {k a0 a1}: OLe (XQ k a0 a1) (XQ (k+1) a0 a1):=by
 unfold XQ
 have m1:=@YV.mono
 have m2:=@Z7.mono
 exact mo
theorem XQ.con {k M A0 c0} {a0:(List (List QY))} {A1 c1} {a1:(List QL)} {r:Bool} (h:XQ k a0 a1=some r) (hr0:SlR (rSl Yk) M (.slice A0 a0.length c0) a0) (hr1:SlR Qs M (.slice A1 a1.length c1) a1): Con Tryz.prog 4 #[.slice A0 a0.length c0,.slice A1 a1.length c1] M [] (fun v M' Γ'=>v=.bool r∧Γ'=[]):=by
 refine cwA Tryz.func4 J Tryz.ntmps4 Tryz.results4 J h ?_
 intro w F rn S hrn E HM H
 unfold XQ at H
 refine wsQ (waB J (wnQ (wsQ (wmL J (W_v _ (Qm (n:=a1.length) Tryz.underlying25 J) J (W_v (vI (imin (1000:Int) (a1.length:Int))) (UD J J) J (wiI J J (waI J (wnQ (QH (QH ?_)))))))))))
 refine QJ (waI J (wnQ ?_))
 obtain ⟨o188,o188h,o188H⟩:=QO H
 refine Zr (fun ρ w'=>∃ (x187:Int),(x187)=o188∧QV ρ [(0,.slice A0 a0.length c0),(5,vI x187)]∧Ext w w'∧St w' M F []) ?_ ?_
 ·refine Yr (fun n ρ w'=>∃ (x125:Int) (x126:Int),YV a1 n x125 x126=some o188∧QV ρ [(0,.slice A0 a0.length c0),(1,.slice A1 a1.length c1),(5,vI x125),(6,vI x126)]∧Ext w w'∧St w' M F []) k ?_ ?_
  ·exact ⟨(IntKind.i64.wrap ((30:Int)*(imin (1000:Int) (a1.length:Int)))),(0:Int),o188h,agP J,E,S.pk []⟩
  ·intro n
   rintro ρ w189 ⟨x125,x126,H,hρ,E,S⟩
   rw [QB hρ]
   cases n with
   | zero=>cases H
   | succ k =>
    rw [YV.eq_2] at H
    refine QH (wsQ (wmI J (wmL J (W_v _ (Qm (n:=a1.length) Tryz.underlying25 J) J (wiB J J (wmB J ?_))))))
    refine ZO 3 (fun ρ w'=>QV ρ [(0,.slice A0 a0.length c0),(1,.slice A1 a1.length c1),(5,vI x125),(6,vI x126),(21,.bool ((decide (x126<(a1.length:Int)))&&(decide (x125<(8000:Int)))))]∧w189=w') ?_ ?_
    ·rcases Qy (decide (x126<(a1.length:Int))) with hb190 | hb190
     ·refine QZ (skT hb190) J (QZ (skT hb190) J (wqB hb190 J (QK ?_)))
      exact ⟨⟨J,J,J,J,(flB hb190),trivial⟩,rfl⟩
     ·refine QN (cS hb190) (wmI J (QN (cS hb190) (wiB J J (wpB hb190 J (QK ?_)))))
      exact ⟨⟨J,J,J,J,(flB hb190),trivial⟩,rfl⟩
    as_aux_lemma =>
    rintro ρ _ ⟨hρ,rfl⟩
    rw [QB hρ]
    refine wnQ ?_
    rcases Q3 H with ⟨hb191,H⟩ | ⟨hb191,H⟩
    ·refine QC (cB hb191) ?_
     refine QX (tn (QH ?_))
     refine ZW ?_
     refine rgA S [] [] 21 mixed J (eE1 E ?_)
     intro w220 E S D1
     refine tz0 0 J D1 (xmI J) (tz0 1 J D1 (xmL J) (tz0 2 J D1 (xmI J) ?_))
     obtain ⟨⟨p222,p223⟩,H⟩:=Z8 H
     obtain ⟨b224,o225,cs226,_,_,ee231,hb227,vs228,hR229,hc230⟩:=SlW.at' hr1 p222 p223
     obtain ⟨v235,hs234,rfl⟩:=hR229
     obtain ⟨A232,c233,rfl,_⟩:=hs234.form
     refine tz0 3 J D1 (QS Tryz.underlying25 ty40 (slA ee231) J p222 p223) (tz0 4 J D1 (xfA Tryz.underlying40 ty38 J) (tz0 5 J D1 (xfA Tryz.underlying38 ty9 J) (tz1 6 J D1 (fun w' h'=>Z0 (Yj h' hb227) ty9 J (hc230 5 _ J)) (tz0 7 J D1 (VA Tryz.underlying9 J) (Wt 8 J J J (vI (imin (8000:Int) (((rd a1 x126).Answer.Value).length:Int))) J (fun w' h'=>UD J J) D1 (tz0 9 J D1 (xiI J J) (tz0 10 J D1 (xmL J) (tz0 11 J D1 (xmI J) ?_))))))))
     obtain ⟨⟨p236,p237⟩,H⟩:=Z8 H
     obtain ⟨b238,o239,cs240,_,_,ee245,hb241,vs242,hR243,hc244⟩:=SlW.at' hr1 p236 p237
     obtain ⟨v249,hs248,rfl⟩:=hR243
     obtain ⟨A246,c247,rfl,_⟩:=hs248.form
     refine tz0 12 J D1 (QS Tryz.underlying25 ty40 (slA ee245) J p236 p237) (tz0 13 J D1 (xfA Tryz.underlying40 ty38 J) (tz0 14 J D1 (xfA Tryz.underlying38 ty36 J) (tz1 15 J D1 (fun w' h'=>Z0 (Yj h' hb241) ty36 J (hc244 6 _ J)) (tz0 16 J D1 (Qm (n:=((rd a1 x126).Answer.Pairs).length) Tryz.underlying36 J) (Wt 17 J J J (vI (imin (8000:Int) (((rd a1 x126).Answer.Pairs).length:Int))) J (fun w' h'=>UD J J) D1 (tz0 18 J D1 (xiI J J) (tz0 19 J D1 (xiI J J) (tz0 20 J D1 (xaI J) ?_))))))))
     refine Wz ?_
     refine bn (tn (QJ (wmI J (wiI J J (waI J (wnQ ?_))))))
     exact ⟨k,Nat.lt_succ_self k,⟨(IntKind.i64.wrap ((IntKind.i64.wrap (x125+(imin (8000:Int) (((rd a1 x126).Answer.Value).length:Int))))+(IntKind.i64.wrap ((5:Int)*(imin (8000:Int) (((rd a1 x126).Answer.Pairs).length:Int)))))),(IntKind.i64.wrap (x126+(1:Int))),H,agP J,E,S.pk []⟩⟩
    refine QA (cB hb191) ?_
    refine YZ ?_
    refine tx (tx (bsm (?_)))
    refine tn ?_
    exact ⟨x125,oi H,agP J,E,S.pk []⟩
 rintro ρ w250 ⟨x187,rfl,hρ,E,S⟩
 rw [QB hρ]
 have H:=o188H
 refine tn ?_
 as_aux_lemma =>
 refine QH (wsQ (waI J (wnQ ?_)))
 obtain ⟨o822,o822h,o822H⟩:=QO H
 refine Zr (fun ρ w'=>∃ (x821:Int),(x821)=o822∧QV ρ [(5,vI x821)]∧Ext w w'∧St w' M F []) ?_ ?_
 ·refine Yr (fun n ρ w'=>∃ (x631:Int) (x632:Int),Z7 a0 n x631 x632=some o822∧QV ρ [(0,.slice A0 a0.length c0),(5,vI x631),(7,vI x632)]∧Ext w w'∧St w' M F []) k ?_ ?_
  ·exact ⟨x187,(0:Int),o822h,agP J,E,S.pk []⟩
  ·intro n
   rintro ρ w823 ⟨x631,x632,H,hρ,E,S⟩
   rw [QB hρ]
   cases n with
   | zero=>cases H
   | succ k =>
    rw [Z7.eq_2] at H
    refine QH (wsQ (wmI J (wmL J (W_v _ (Qm (n:=a0.length) Tryz.underlying24 J) J (wiB J J (wmB J ?_))))))
    refine ZO 3 (fun ρ w'=>QV ρ [(0,.slice A0 a0.length c0),(5,vI x631),(7,vI x632),(51,.bool ((decide (x632<(a0.length:Int)))&&(decide (x631<(8000:Int)))))]∧w823=w') ?_ ?_
    ·rcases Qy (decide (x632<(a0.length:Int))) with hb824 | hb824
     ·refine QZ (skT hb824) J (QZ (skT hb824) J (wqB hb824 J (QK ?_)))
      exact ⟨⟨J,J,J,(flB hb824),trivial⟩,rfl⟩
     ·refine QN (cS hb824) (wmI J (QN (cS hb824) (wiB J J (wpB hb824 J (QK ?_)))))
      exact ⟨⟨J,J,J,(flB hb824),trivial⟩,rfl⟩
    as_aux_lemma =>
    rintro ρ _ ⟨hρ,rfl⟩
    rw [QB hρ]
    refine wnQ ?_
    rcases Q3 H with ⟨hb825,H⟩ | ⟨hb825,H⟩
    ·refine QC (cB hb825) ?_
     refine QX (tn (QH ?_))
     refine ZW ?_
     refine wsQ (wmI J (wiI J J (waI J (wnQ (wsQ (waI J (wnQ ?_)))))))
     obtain ⟨o965,o965h,o965H⟩:=QO H
     refine Zr (fun ρ w'=>∃ (x964:Int),(x964)=o965∧QV ρ [(0,.slice A0 a0.length c0),(5,vI x964),(7,vI x632)]∧Ext w w'∧St w' M F []) ?_ ?_
     ·refine Yr (fun n ρ w'=>∃ (x918:Int) (x919:Int),YU a0 x632 n x918 x919=some o965∧QV ρ [(0,.slice A0 a0.length c0),(5,vI x918),(7,vI x632),(8,vI x919)]∧Ext w w'∧St w' M F []) k ?_ ?_
      ·exact ⟨(IntKind.i64.wrap (x631+(1:Int))),(0:Int),o965h,agP J,E,S.pk []⟩
      ·intro n
       rintro ρ w966 ⟨x918,x919,H,hρ,E,S⟩
       rw [QB hρ]
       cases n with
       | zero=>cases H
       | succ k =>
        rw [YU.eq_2] at H
        refine QH (wsQ (wmI J (wmL J (wmI J ?_))))
        obtain ⟨⟨p967,p968⟩,H⟩:=Z8 H
        obtain ⟨b969,o970,cs971,_,_,ee976,hb972,vs973,hR974,hc975⟩:=SlW.at' hr0 p967 p968
        obtain ⟨v980,hs979,rfl⟩:=hR974
        obtain ⟨A977,c978,rfl,_⟩:=hs979.form
        refine W_v _ (QS Tryz.underlying24 ty41 (slA ee976) J p967 p968) J (W_v _ (Z0 (S.frz hb972) ty41 J (hc975 0 _ J)) J (W_v _ (Qm (n:=(rd a0 x632).length) Tryz.underlying41 J) J (wiB J J (wmB J ?_))))
        refine ZO 3 (fun ρ w'=>QV ρ [(0,.slice A0 a0.length c0),(5,vI x918),(7,vI x632),(8,vI x919),(66,.bool ((decide (x919<((rd a0 x632).length:Int)))&&(decide (x918<(8000:Int)))))]∧w966=w') ?_ ?_
        ·rcases Qy (decide (x919<((rd a0 x632).length:Int))) with hb981 | hb981
         ·refine QZ (skT hb981) J (QZ (skT hb981) J (wqB hb981 J (QK ?_)))
          exact ⟨⟨J,J,J,J,(flB hb981),trivial⟩,rfl⟩
         ·refine QN (cS hb981) (wmI J (QN (cS hb981) (wiB J J (wpB hb981 J (QK ?_)))))
          exact ⟨⟨J,J,J,J,(flB hb981),trivial⟩,rfl⟩
        as_aux_lemma =>
        rintro ρ _ ⟨hρ,rfl⟩
        rw [QB hρ]
        refine wnQ ?_
        rcases Q3 H with ⟨hb982,H⟩ | ⟨hb982,H⟩
        ·refine QC (cB hb982) ?_
         refine QX (tn (QH ?_))
         refine ZW ?_
         refine wsQ (wmL J (wmI J ?_))
         obtain ⟨⟨p983,p984⟩,H⟩:=Z8 H
         obtain ⟨b985,o986,cs987,_,_,ee992,hb988,vs989,hR990,hc991⟩:=SlW.at' hr0 p983 p984
         obtain ⟨v996,hs995,rfl⟩:=hR990
         obtain ⟨A993,c994,rfl,_⟩:=hs995.form
         refine W_v _ (QS Tryz.underlying24 ty41 (slA ee992) J p983 p984) J (W_v _ (Z0 (S.frz hb988) ty41 J (hc991 0 _ J)) J (wmI J ?_))
         obtain ⟨⟨p997,p998⟩,H⟩:=Z8 H
         obtain ⟨b999,o1000,cs1001,_,_,ee1006,hb1002,vs1003,hR1004,hc1005⟩:=SlW.at' hs995 p997 p998
         obtain rfl:vs1003=_:=hR1004
         refine W_v _ (QS Tryz.underlying41 ty43 (slA ee1006) J p997 p998) J (W_v (.agg (Qo (rd (rd a0 x632) x919))) (Qi (S.frz hb1002) ty43 J (X1 hc1005 0 J) J J) J ?_)
         refine YN S cz5 ty43 J J (eE2 E ?_)
         intro b1007 w1008 E S
         refine Qu S 0 J ty43 J J [vU ((rd (rd a0 x632) x919).Kind),vI ((rd (rd a0 x632) x919).Tx),vS ((rd (rd a0 x632) x919).Key),vS ((rd (rd a0 x632) x919).End),vS ((rd (rd a0 x632) x919).Value),vI ((rd (rd a0 x632) x919).Limit),vU ((rd (rd a0 x632) x919).Engine)] J J J (Qo (rd (rd a0 x632) x919)) (by as_aux_lemma=>kernel_rfl) J (eE1 E ?_)
         intro w1010 E S
         refine wnQ (QJ (wmI J (wiI J J (wfA Tryz.underlying43 ty9 J (wlA S 0 ty9 J (W_v _ (VA Tryz.underlying9 J) J (W_v (vI (imin (8000:Int) (((rd (rd a0 x632) x919).Key).length:Int))) (UD J J) J (wiI J J (wfA Tryz.underlying43 ty9 J (wlA S 0 ty9 J (W_v _ (VA Tryz.underlying9 J) J (W_v (vI (imin (8000:Int) (((rd (rd a0 x632) x919).End).length:Int))) (UD J J) J (wiI J J (wfA Tryz.underlying43 ty9 J ?_))))))))))))))
         refine wlA S 0 ty9 J (W_v _ (VA Tryz.underlying9 J) J (W_v (vI (imin (8000:Int) (((rd (rd a0 x632) x919).Value).length:Int))) (UD J J) J (wiI J J (waI J (QK (bn (tn (QJ (wmI J (wiI J J (waI J (wnQ ?_))))))))))))
         exact ⟨k,Nat.lt_succ_self k,⟨(IntKind.i64.wrap ((IntKind.i64.wrap ((IntKind.i64.wrap ((IntKind.i64.wrap (x918+(5:Int)))+(imin (8000:Int) (((rd (rd a0 x632) x919).Key).length:Int))))+(imin (8000:Int) (((rd (rd a0 x632) x919).End).length:Int))))+(imin (8000:Int) (((rd (rd a0 x632) x919).Value).length:Int)))),(IntKind.i64.wrap (x919+(1:Int))),H,agP J,E,S.pk []⟩⟩
        refine QA (cB hb982) ?_
        refine YZ ?_
        refine tx (tx (bsm (?_)))
        refine tn ?_
        exact ⟨x918,oi H,agP J,E,S.pk []⟩
     rintro ρ w1011 ⟨x964,rfl,hρ,E,S⟩
     rw [QB hρ]
     have H:=o965H
     refine bn (tn (QJ (wmI J (wiI J J (waI J (wnQ ?_))))))
     exact ⟨k,Nat.lt_succ_self k,⟨x964,(IntKind.i64.wrap (x632+(1:Int))),H,agP J,E,S.pk []⟩⟩
    refine QA (cB hb825) ?_
    refine YZ ?_
    refine tx (tx (bsm (?_)))
    refine tn ?_
    exact ⟨x631,oi H,agP J,E,S.pk []⟩
 rintro ρ w1012 ⟨x821,rfl,hρ,E,S⟩
 rw [QB hρ]
 have H:=o822H
 refine tn ?_
 as_aux_lemma =>
 refine wsQ (wmI J (wiB J J (waB J (wnQ ?_))))
 refine QT ?_
 obtain rfl:=oi H
 exact ⟨_,_,_,rsA (vs:=[_]) J,HM,E,S.pk [],⟨J,J⟩⟩
def Xt (a0:QI):Nat→Int→Option ((Bool)⊕(Unit))
 | 0,_=>none
 | k+1,x23=>(if (decide (x23<(8:Int)))=true then (Option.bind (α:=List X5) (some ([(⟨(a0.Tasks),(1:Int),(6:Int)⟩:X5),(⟨(a0.Active),(1:Int),(8:Int)⟩:X5),(⟨(a0.Keys),(1:Int),(64:Int)⟩:X5),(⟨(a0.Depth),(2:Int),(8:Int)⟩:X5),(⟨(a0.TS),(1:Int),(1048576:Int)⟩:X5),(⟨(a0.KeyLen),(1:Int),(64:Int)⟩:X5),(⟨(a0.ValLen),(0:Int),(256:Int)⟩:X5),(⟨(a0.Fan),(3:Int),(8:Int)⟩:X5)]:List X5)) (fun x38=>(if 0≤x23∧x23<(8:Int) then (if ((decide ((rd x38 x23).n<(rd x38 x23).low))||(decide ((rd x38 x23).n>(rd x38 x23).high)))=true then some (.inl false) else Xt a0 k (IntKind.i64.wrap (x23+(1:Int)))) else none))) else some (.inr ()))
theorem Xt.mono {a0}: ∀ {kl:Nat} {x0},OLe (Xt a0 kl x0) (Xt a0 (kl+1) x0):=by
 intro kl
 induction kl with
 | zero=>intros;exact OLe.none
 | succ kl ih =>
  intros
  rw [Xt.eq_2,Xt.eq_2]
  exact mo
def Xq (k:Nat) (a0:QI):Option (Bool) :=
 (Option.bind (Xt a0 k (0:Int)) (fun o35o=>Sum.elim (fun r'=>some r') (fun _=>some true) o35o))
theorem Xq.mono {k a0}: OLe (Xq k a0) (Xq (k+1) a0):=by
 unfold Xq
 have m1:=@Xt.mono
 exact mo
theorem Xq.con {k M} {a0:QI} {r:Bool} (h:Xq k a0=some r): Con Tryz.prog 17 #[.agg (QF a0)] M [] (fun v M' Γ'=>v=.bool r∧Γ'=[]):=by
 refine cwA Tryz.func17 J Tryz.ntmps17 Tryz.results17 J h ?_
 intro w F rn S hrn E HM H
 unfold Xq at H
 refine wsQ ?_
 refine Yz S (QF a0) J J J (eE2 E ?_)
 intro b1 w2 E S
 refine waB J (wnQ (QH (wsQ (wfA Tryz.underlying23 ty3 J (wlA S 0 ty3 J (W_v _ (xb2 [(0,1),(1,1),(2,1)] #[vI (a0.Tasks),vI 1,vI 6] Tryz.underlying76 ty76 J) J (wfA Tryz.underlying23 ty3 J (wlA S 0 ty3 J (W_v _ (xb2 [(0,1),(1,1),(2,1)] #[vI (a0.Active),vI 1,vI 8] Tryz.underlying76 ty76 J) J (wfA Tryz.underlying23 ty3 J (wlA S 0 ty3 J (W_v _ (xb2 [(0,1),(1,1),(2,1)] #[vI (a0.Keys),vI 1,vI 64] Tryz.underlying76 ty76 J) J (wfA Tryz.underlying23 ty3 J ?_)))))))))))))
 refine wlA S 0 ty3 J (W_v _ (xb2 [(0,1),(1,1),(2,1)] #[vI (a0.Depth),vI 2,vI 8] Tryz.underlying76 ty76 J) J (wfA Tryz.underlying23 ty3 J (wlA S 0 ty3 J (W_v _ (xb2 [(0,1),(1,1),(2,1)] #[vI (a0.TS),vI 1,vI 1048576] Tryz.underlying76 ty76 J) J (wfA Tryz.underlying23 ty3 J (wlA S 0 ty3 J (W_v _ (xb2 [(0,1),(1,1),(2,1)] #[vI (a0.KeyLen),vI 1,vI 64] Tryz.underlying76 ty76 J) J (wfA Tryz.underlying23 ty3 J (wlA S 0 ty3 J (W_v _ (xb2 [(0,1),(1,1),(2,1)] #[vI (a0.ValLen),vI 0,vI 256] Tryz.underlying76 ty76 J) J (wfA Tryz.underlying23 ty3 J (wlA S 0 ty3 J (W_v _ (xb2 [(0,1),(1,1),(2,1)] #[vI (a0.Fan),vI 3,vI 8] Tryz.underlying76 ty76 J) J (W_v (.agg #[vI (a0.Tasks),vI 1,vI 6,vI (a0.Active),vI 1,vI 8,vI (a0.Keys),vI 1,vI 64,vI (a0.Depth),vI 2,vI 8,vI (a0.TS),vI 1,vI 1048576,vI (a0.KeyLen),vI 1,vI 64,vI (a0.ValLen),vI 0,vI 256,vI (a0.Fan),vI 3,vI 8]) (U9 #[vI (a0.Tasks),vI 1,vI 6,vI (a0.Active),vI 1,vI 8,vI (a0.Keys),vI 1,vI 64,vI (a0.Depth),vI 2,vI 8,vI (a0.TS),vI 1,vI 1048576,vI (a0.KeyLen),vI 1,vI 64,vI (a0.ValLen),vI 0,vI 256,vI (a0.Fan),vI 3,vI 8] Tryz.underlying77 ty77 ty76 J (by kernel_rfl)) J (wmI J ?_)))))))))))))))
 refine wnQ ?_
 obtain ⟨o35,o35h,o35H⟩:=QO H
 refine Zr (fun ρ w'=>.inr ()=o35∧QV ρ []∧Ext w w'∧St w' M F []) ?_ ?_
 ·refine Yr (fun n ρ w'=>∃ (x23:Int),Xt a0 n x23=some o35∧QV ρ [(29,.agg #[vI (a0.Tasks),vI 1,vI 6,vI (a0.Active),vI 1,vI 8,vI (a0.Keys),vI 1,vI 64,vI (a0.Depth),vI 2,vI 8,vI (a0.TS),vI 1,vI 1048576,vI (a0.KeyLen),vI 1,vI 64,vI (a0.ValLen),vI 0,vI 256,vI (a0.Fan),vI 3,vI 8]),(30,vI x23)]∧Ext w w'∧St w' M F []) k ?_ ?_
  ·exact ⟨(0:Int),o35h,agP J,E,S.pk []⟩
  ·intro n
   rintro ρ w36 ⟨x23,H,hρ,E,S⟩
   rw [QB hρ]
   cases n with
   | zero=>cases H
   | succ k =>
    rw [Xt.eq_2] at H
    refine wsQ (wiB J J (wnQ (QH ?_)))
    rcases Q3 H with ⟨hb37,H⟩ | ⟨hb37,H⟩
    ·refine QC (cB hb37) ?_
     refine QX (tn (QH ?_))
     refine ZW ?_
     refine wsQ ?_
     obtain ⟨x38,he39,H⟩:=QO H
     replace he39:=oi he39
     obtain ⟨⟨p40,p41⟩,H⟩:=Z8 H
     refine W_v (.agg (UT (rd x38 x23))) ((by rw [← he39];exact U8 Tryz.underlying77 ty76 rfl rfl p40 p41 (by obtain ⟨q,hq⟩:=Int.eq_ofNat_of_zero_le p40;have h9:q=0∨q=1∨q=2∨q=3∨q=4∨q=5∨q=6∨q=7:=(by omega);rcases h9 with rfl | rfl | rfl | rfl | rfl | rfl | rfl | rfl<;>(rw [hq]<;>rfl)))) rfl ?_
     refine YN S #[vI 0,vI 0,vI 0] ty76 J J (eE2 E ?_)
     intro b42 w43 E S
     refine Qu S 0 J ty76 J J [vI ((rd x38 x23).n),vI ((rd x38 x23).low),vI ((rd x38 x23).high)] J J J (UT (rd x38 x23)) J J (eE1 E ?_)
     intro w45 E S
     refine wnQ (wsQ (wfA Tryz.underlying76 ty3 J (wlA S 0 ty3 J (wfA Tryz.underlying76 ty3 J (wlA S 0 ty3 J (wiB J J (wmB J ?_)))))))
     refine ZO 6 (fun ρ w'=>QV ρ [(29,.agg #[vI (a0.Tasks),vI 1,vI 6,vI (a0.Active),vI 1,vI 8,vI (a0.Keys),vI 1,vI 64,vI (a0.Depth),vI 2,vI 8,vI (a0.TS),vI 1,vI 1048576,vI (a0.KeyLen),vI 1,vI 64,vI (a0.ValLen),vI 0,vI 256,vI (a0.Fan),vI 3,vI 8]),(30,vI x23),(44,.bool ((decide ((rd x38 x23).n<(rd x38 x23).low))||(decide ((rd x38 x23).n>(rd x38 x23).high))))]∧w45=w') ?_ ?_
     ·rcases Qy (decide ((rd x38 x23).n<(rd x38 x23).low)) with hb46 | hb46
      ·refine QN (cS hb46) (wfA Tryz.underlying76 ty3 J (QN (cS hb46) (wlA S 0 ty3 J (QN (cS hb46) (wfA Tryz.underlying76 ty3 J (QN (cS hb46) (wlA S 0 ty3 J (QN (cS hb46) (wiB J J (wqB hb46 J (QK ?_)))))))))))
       exact ⟨⟨J,J,(flB hb46),trivial⟩,rfl⟩
      ·refine QZ (skF hb46) J (QZ (skF hb46) J (QZ (skF hb46) J (QZ (skF hb46) J (QZ (skF hb46) J (wpB hb46 J (QK ?_))))))
       exact ⟨⟨J,J,(flB hb46),trivial⟩,rfl⟩
     rintro ρ _ ⟨hρ,rfl⟩
     rw [QB hρ]
     refine wnQ ?_
     rcases Q3 H with ⟨hb47,H⟩ | ⟨hb47,H⟩
     ·refine QC (cB hb47) ?_
      refine wsQ (waB J (wnQ ?_))
      refine QT ?_
      refine br (tr (tr (br (tr (tr (?_))))))
      obtain rfl:=oi H
      have H:=o35H
      replace H:=elimL H
      obtain rfl:=oi H
      exact ⟨_,_,_,rsA (vs:=[_]) J,HM,E,S.pk [],⟨J,J⟩⟩
     refine QA (cB hb47) (QX (bn (tn (QJ (wiI J J (wmI J (wnQ ?_)))))))
     exact ⟨k,Nat.lt_succ_self k,⟨(IntKind.i64.wrap (x23+(1:Int))),H,agP J,E,S.pk []⟩⟩
    refine QA (cB hb37) ?_
    refine YZ ?_
    refine tx (tx (bsm (?_)))
    refine tn ?_
    exact ⟨oi H,trivial,E,S.pk []⟩
 rintro ρ w48 ⟨rfl,hρ,E,S⟩
 rw [QB hρ]
 have H:=o35H
 replace H:=elimR H
 refine tn ?_
 as_aux_lemma =>
 refine wsQ (waB J (wnQ ?_))
 refine QT ?_
 obtain rfl:=oi H
 exact ⟨_,_,_,rsA (vs:=[_]) J,HM,E,S.pk [],⟨J,J⟩⟩
def Xj (a0:QI):Nat→Int→Int→Int→Option ((Int×Int))
 | 0,_,_,_=>none
 | k+1,x27,x28,x29=>(if (decide (x29<(2:Int)))=true then (Option.bind (α:=List St48) (some ([(⟨(1:Int),(IntKind.i64.wrap (a0.Keys*a0.Depth)),(a0.Keys)⟩:St48),(⟨(a0.Tasks),(imax (IntKind.i64.wrap (a0.Keys*a0.Depth)) (IntKind.i64.wrap (a0.Depth+(1:Int)))),(IntKind.i64.wrap (a0.Keys*a0.Depth))⟩:St48)]:List St48)) (fun x44=>(if 0≤x29∧x29<(2:Int) then Xj a0 k (IntKind.i64.wrap (x27+(IntKind.i64.wrap ((rd x44 x29).many*(rd x44 x29).slots)))) (IntKind.i64.wrap (x28+(IntKind.i64.wrap ((rd x44 x29).many*(rd x44 x29).anchor)))) (IntKind.i64.wrap (x29+(1:Int))) else none))) else some (x27,x28))
theorem Xj.mono {a0}: ∀ {kl:Nat} {x0 x1 x2},OLe (Xj a0 kl x0 x1 x2) (Xj a0 (kl+1) x0 x1 x2):=by
 intro kl
 induction kl with
 | zero=>intros;exact OLe.none
 | succ kl ih =>
  intros
  rw [Xj.eq_2,Xj.eq_2]
  exact mo
def Xm (k:Nat) (a0:QI):Option (Int×Int) :=
 (Option.bind (Xq k a0) (fun t4=>(if (!t4)=true then some ((0:Int),(0:Int)) else (Option.bind (Xj a0 k (0:Int) (0:Int) (0:Int)) (fun ⟨x39,x40⟩=>some (x39,x40))))))
theorem Xm.mono {k a0}: OLe (Xm k a0) (Xm (k+1) a0):=by
 unfold Xm
 have m1:=@Xj.mono
 have m2:=@Xq.mono
 exact mo
theorem Xm.con {k M} {a0:QI} {r:Int×Int} (h:Xm k a0=some r): Con Tryz.prog 6 #[.agg (QF a0)] M [] (fun v M' Γ'=>v=.tuple #[vI r.1,vI r.2]∧Γ'=[]):=by
 refine cwA Tryz.func6 J Tryz.ntmps6 Tryz.results6 J h ?_
 intro w F rn S hrn E HM H
 unfold Xm at H
 refine wsQ ?_
 refine Yz S (QF a0) J J J (eE2 E ?_)
 intro b1 w2 E S
 refine waI J (waI J (wnQ (QH (wsQ (W_v (.agg (QF a0)) (Qi (S.blk 0 J) ty23 J (QG J) J J) J ?_)))))
 obtain ⟨t4,ht5,H⟩:=QO H
 refine ZR fn17 (Xq.con ht5) S J J flN (eE4 E ?_)
 rintro _ w6 _ Γ' E S ⟨rfl,rfl⟩
 refine W_v _ (Xr (b:=t4) J) J (wnQ ?_)
 rcases Q3 H with ⟨hb7,H⟩ | ⟨hb7,H⟩
 ·refine QC (cB hb7) ?_
  refine wsQ (waI J (waI J (wnQ ?_)))
  refine QT ?_
  refine tr (?_)
  obtain rfl:=oi H
  exact ⟨_,_,_,rsA (vs:=[_,_]) J,HM,E,S.pk [],⟨J,J⟩⟩
 refine QA (cB hb7) (QX (tn (wsQ (wfA Tryz.underlying23 ty3 J (wlA S 0 ty3 J (wfA Tryz.underlying23 ty3 J (wlA S 0 ty3 J (wiI J J (waI J (wnQ ?_))))))))))
 as_aux_lemma =>
 refine QH (wsQ (wmI J (wfA Tryz.underlying23 ty3 J (wlA S 0 ty3 J (W_v _ (xb2 [(0,1),(1,1),(2,1)] #[vI 1,vI (IntKind.i64.wrap (a0.Keys*a0.Depth)),vI (a0.Keys)] Tryz.underlying48 ty48 J) J (wfA Tryz.underlying23 ty3 J (wlA S 0 ty3 J (wmI J (wfA Tryz.underlying23 ty3 J (wlA S 0 ty3 J (wiI J J (W_v (vI (imax (IntKind.i64.wrap (a0.Keys*a0.Depth)) (IntKind.i64.wrap (a0.Depth+(1:Int))))) (Un J J) J (wmI J (W_v _ (xb2 [(0,1),(1,1),(2,1)] #[vI (a0.Tasks),vI (imax (IntKind.i64.wrap (a0.Keys*a0.Depth)) (IntKind.i64.wrap (a0.Depth+(1:Int)))),vI (IntKind.i64.wrap (a0.Keys*a0.Depth))] Tryz.underlying48 ty48 J) J ?_))))))))))))))
 refine W_v (.agg #[vI 1,vI (IntKind.i64.wrap (a0.Keys*a0.Depth)),vI (a0.Keys),vI (a0.Tasks),vI (imax (IntKind.i64.wrap (a0.Keys*a0.Depth)) (IntKind.i64.wrap (a0.Depth+(1:Int)))),vI (IntKind.i64.wrap (a0.Keys*a0.Depth))]) (U9 #[vI 1,vI (IntKind.i64.wrap (a0.Keys*a0.Depth)),vI (a0.Keys),vI (a0.Tasks),vI (imax (IntKind.i64.wrap (a0.Keys*a0.Depth)) (IntKind.i64.wrap (a0.Depth+(1:Int)))),vI (IntKind.i64.wrap (a0.Keys*a0.Depth))] Tryz.underlying49 ty49 ty48 J (by kernel_rfl)) J (wmI J (wnQ ?_))
 obtain ⟨o41,o41h,o41H⟩:=QO H
 refine Zr (fun ρ w'=>∃ (x39:Int) (x40:Int),(x39,x40)=o41∧QV ρ [(2,vI x39),(3,vI x40)]∧Ext w w'∧St w' M F []) ?_ ?_
 ·refine Yr (fun n ρ w'=>∃ (x27:Int) (x28:Int) (x29:Int),Xj a0 n x27 x28 x29=some o41∧QV ρ [(2,vI x27),(3,vI x28),(28,.agg #[vI 1,vI (IntKind.i64.wrap (a0.Keys*a0.Depth)),vI (a0.Keys),vI (a0.Tasks),vI (imax (IntKind.i64.wrap (a0.Keys*a0.Depth)) (IntKind.i64.wrap (a0.Depth+(1:Int)))),vI (IntKind.i64.wrap (a0.Keys*a0.Depth))]),(29,vI x29)]∧Ext w w'∧St w' M F []) k ?_ ?_
  ·exact ⟨(0:Int),(0:Int),(0:Int),o41h,agP J,E,S.pk []⟩
  ·intro n
   rintro ρ w42 ⟨x27,x28,x29,H,hρ,E,S⟩
   rw [QB hρ]
   cases n with
   | zero=>cases H
   | succ k =>
    rw [Xj.eq_2] at H
    refine wsQ (wiB J J (wnQ (QH ?_)))
    rcases Q3 H with ⟨hb43,H⟩ | ⟨hb43,H⟩
    ·refine QC (cB hb43) ?_
     refine QX (tn (QH ?_))
     refine ZW ?_
     refine wsQ ?_
     obtain ⟨x44,he45,H⟩:=QO H
     replace he45:=oi he45
     obtain ⟨⟨p46,p47⟩,H⟩:=Z8 H
     refine W_v (.agg (qP (rd x44 x29))) ((by rw [← he45];exact U8 Tryz.underlying49 ty48 rfl rfl p46 p47 (by obtain ⟨q,hq⟩:=Int.eq_ofNat_of_zero_le p46;have h9:q=0∨q=1:=(by omega);rcases h9 with rfl | rfl<;>(rw [hq]<;>rfl)))) rfl ?_
     refine YN S #[vI 0,vI 0,vI 0] ty48 J J (eE2 E ?_)
     intro b48 w49 E S
     refine Qu S 0 J ty48 J J [vI ((rd x44 x29).many),vI ((rd x44 x29).slots),vI ((rd x44 x29).anchor)] J J J (qP (rd x44 x29)) J J (eE1 E ?_)
     intro w51 E S
     refine wnQ (wsQ (wmI J (wfA Tryz.underlying48 ty3 J (wlA S 0 ty3 J (wfA Tryz.underlying48 ty3 J (wlA S 0 ty3 J (wiI J J (wiI J J (waI J (wnQ (QJ (wmI J ?_))))))))))))
     refine wfA Tryz.underlying48 ty3 J (wlA S 0 ty3 J (wfA Tryz.underlying48 ty3 J (wlA S 0 ty3 J (wiI J J (wiI J J (waI J (QK (bn (tn (QJ (wiI J J (wmI J (wnQ ?_)))))))))))))
     exact ⟨k,Nat.lt_succ_self k,⟨(IntKind.i64.wrap (x27+(IntKind.i64.wrap ((rd x44 x29).many*(rd x44 x29).slots)))),(IntKind.i64.wrap (x28+(IntKind.i64.wrap ((rd x44 x29).many*(rd x44 x29).anchor)))),(IntKind.i64.wrap (x29+(1:Int))),H,agP J,E,S.pk []⟩⟩
    refine QA (cB hb43) ?_
    refine YZ ?_
    refine tx (tx (bsm (?_)))
    refine tn ?_
    exact ⟨x27,x28,oi H,agP J,E,S.pk []⟩
 rintro ρ w52 ⟨x39,x40,rfl,hρ,E,S⟩
 rw [QB hρ]
 have H:=o41H
 refine tn ?_
 as_aux_lemma =>
 refine wsQ (wmI J (wmI J (waI J (waI J (wnQ ?_)))))
 refine QT ?_
 obtain rfl:=oi H
 exact ⟨_,_,_,rsA (vs:=[_,_]) J,HM,E,S.pk [],⟨J,J⟩⟩
def XL (k:Nat) (a0:QI) (a1:Int):Option (Int) :=
 (Option.bind (Xm k a0) (fun t4=>(if (t4.1==(0:Int))=true then some (0:Int) else (if a0.Fan≠0 then (if (a1==(1:Int))=true then some (3:Int) else (Option.bind (α:=Bool) (if (a1==(2:Int))=true then some ((a1==(2:Int))) else (Option.bind (α:=Bool) (if (a1==(3:Int))=true then some ((a1==(3:Int))) else some ((a1==(4:Int)))) (fun x31=>some (x31)))) (fun x26=>(if x26=true then some (IntKind.i64.wrap ((IntKind.i64.wrap ((IntKind.i64.wrap ((5:Int)*(IntKind.i64.wrap ((IntKind.i64.wrap (Int.tdiv (IntKind.i64.wrap (t4.2-(1:Int))) a0.Fan))+(1:Int)))))+(24:Int)))+(IntKind.i64.wrap ((8:Int)*(IntKind.i64.wrap ((IntKind.i64.wrap (t4.1+(IntKind.i64.wrap ((2:Int)*a0.Tasks))))+(1:Int))))))) else (Option.bind (α:=Bool) (if (a1==(6:Int))=true then some ((a1==(6:Int))) else some ((a1==(7:Int)))) (fun x39=>(if x39=true then some (IntKind.i64.wrap ((IntKind.i64.wrap ((4:Int)+(IntKind.i64.wrap (a0.Keys*(IntKind.i64.wrap ((IntKind.i64.wrap ((5:Int)*(IntKind.i64.wrap ((IntKind.i64.wrap (Int.tdiv (IntKind.i64.wrap (t4.2-(1:Int))) a0.Fan))+(1:Int)))))+(24:Int)))))))+(IntKind.i64.wrap ((8:Int)*(IntKind.i64.wrap ((IntKind.i64.wrap (t4.1+(IntKind.i64.wrap ((2:Int)*a0.Tasks))))+(1:Int))))))) else (Option.bind (α:=Bool) (if (a1==(5:Int))=true then some ((a1==(5:Int))) else (Option.bind (α:=Bool) (if (a1==(8:Int))=true then some ((a1==(8:Int))) else some ((a1==(9:Int)))) (fun x63=>some (x63)))) (fun x58=>(if x58=true then some (IntKind.i64.wrap ((IntKind.i64.wrap ((6:Int)+(IntKind.i64.wrap ((IntKind.i64.wrap ((IntKind.i64.wrap (t4.2+a0.Tasks))+(1:Int)))*(IntKind.i64.wrap ((IntKind.i64.wrap ((5:Int)*(IntKind.i64.wrap ((IntKind.i64.wrap (Int.tdiv (IntKind.i64.wrap (t4.2-(1:Int))) a0.Fan))+(1:Int)))))+(24:Int)))))))+(IntKind.i64.wrap ((8:Int)*(IntKind.i64.wrap ((IntKind.i64.wrap (t4.1+(IntKind.i64.wrap ((2:Int)*a0.Tasks))))+(1:Int))))))) else some (2:Int))))))))))) else none))))
theorem XL.mono {k a0 a1}: OLe (XL k a0 a1) (XL (k+1) a0 a1):=by
 unfold XL
 have m1:=@Xm.mono
 exact mo
theorem XL.con {k M} {a0:QI} {a1:Int} {r:Int} (h:XL k a0 a1=some r): Con Tryz.prog 10 #[.agg (QF a0),vU a1] M [] (fun v M' Γ'=>v=vI r∧Γ'=[]):=by
 refine cwA Tryz.func10 J Tryz.ntmps10 Tryz.results10 J h ?_
 intro w F rn S hrn E HM H
 unfold XL at H
 refine wsQ ?_
 refine Yz S (QF a0) J J J (eE2 E ?_)
 intro b1 w2 E S
 refine waI J (wnQ (wsQ (W_v (.agg (QF a0)) (Qi (S.blk 0 J) ty23 J (QG J) J J) J ?_)))
 obtain ⟨t4,ht5,H⟩:=QO H
 refine ZR fn6 (Xm.con ht5) S J J flN (eE4 E ?_)
 rintro _ w6 _ Γ' E S ⟨rfl,rfl⟩
 refine wmT J (W_v _ (QR J J) J (W_v _ (QR J J) J (waI J (waI J (wnQ (QH (wsQ (wmI J (wiB J J (wnQ ?_))))))))))
 rcases Q3 H with ⟨hb7,H⟩ | ⟨hb7,H⟩
 ·refine QC (cB hb7) ?_
  refine wsQ (waI J (wnQ ?_))
  refine QT ?_
  refine tr (?_)
  obtain rfl:=oi H
  exact ⟨_,_,_,rsA (vs:=[_]) J,HM,E,S.pk [],⟨J,J⟩⟩
 refine QA (cB hb7) (QX (tn (wsQ (wmI J (wiI J J (wfA Tryz.underlying23 ty3 J (wlA S 0 ty3 J ?_)))))))
 obtain ⟨p8,H⟩:=Z8 H
 refine W_v (vI (IntKind.i64.wrap (Int.tdiv (IntKind.i64.wrap (t4.2-(1:Int))) a0.Fan))) (QAL J J p8) J (wiI J J (waI J (wnQ ?_)))
 as_aux_lemma =>
 refine QH ?_
 refine rgA S [0] [_] 12 mixed J (eE1 E ?_)
 intro w9 E S D1
 refine tz0 0 J D1 (xmI J) (tz0 1 J D1 (xiI J J) (tz0 2 J D1 (xiI J J) (tz0 3 J D1 (xmI J) (tz0 4 J D1 (xfA Tryz.underlying23 ty3 J) (tz1 5 J D1 (fun w' h'=>xlA h' 0 ty3 J) (tz0 6 J D1 (xiI J J) (tz0 7 J D1 (xiI J J) (tz0 8 J D1 (xiI J J) (tz0 9 J D1 (xiI J J) (tz0 10 J D1 (xaI J) (tz0 11 J D1 (xaI J) ?_)))))))))))
 refine Wz ?_
 refine tn (QH (wsQ (wmI J (wnQ ?_))))
 refine ZW ?_
 refine wsQ (wiB J J (waB J (wnQ ?_)))
 rcases Q3 H with ⟨hb11,H⟩ | ⟨hb11,H⟩
 ·refine QC (cB hb11) ?_
  refine wsQ (waI J (wnQ ?_))
  refine QT ?_
  refine br (tr (?_))
  obtain rfl:=oi H
  exact ⟨_,_,_,rsA (vs:=[_]) J,HM,E,S.pk [],⟨J,J⟩⟩
 refine QA (cB hb11) ?_
 as_aux_lemma =>
 refine QH (wsQ (wiB J J (waB J (wnQ ?_))))
 obtain ⟨o27,o27h,o27H⟩:=QO H
 refine Yc (fun ρ w'=>∃ (x26:Bool),(x26)=o27∧QV ρ [(2,pt b1 0),(6,vI t4.2),(8,vI (IntKind.i64.wrap ((IntKind.i64.wrap ((5:Int)*(IntKind.i64.wrap ((IntKind.i64.wrap (Int.tdiv (IntKind.i64.wrap (t4.2-(1:Int))) a0.Fan))+(1:Int)))))+(24:Int)))),(9,vI (IntKind.i64.wrap ((8:Int)*(IntKind.i64.wrap ((IntKind.i64.wrap (t4.1+(IntKind.i64.wrap ((2:Int)*a0.Tasks))))+(1:Int)))))),(33,vU a1),(36,.bool x26)]∧Ext w w'∧St w' M F [B23 b1 a0]) ?_ ?_
 ·clear o27H
  have H:=o27h
  rcases Q3 H with ⟨hb28,H⟩ | ⟨hb28,H⟩
  ·refine QC (cB hb28) ?_
   refine QX (tn ?_)
   exact ⟨(a1==(2:Int)),oi H,agP J,E,S.pk [0]⟩
  refine QA (cB hb28) (wsQ (wiB J J (waB J (wnQ ?_))))
  obtain ⟨o32,o32h,o32H⟩:=QO H
  refine Yc (fun ρ w'=>∃ (x31:Bool),(x31)=o32∧QV ρ [(2,pt b1 0),(6,vI t4.2),(8,vI (IntKind.i64.wrap ((IntKind.i64.wrap ((5:Int)*(IntKind.i64.wrap ((IntKind.i64.wrap (Int.tdiv (IntKind.i64.wrap (t4.2-(1:Int))) a0.Fan))+(1:Int)))))+(24:Int)))),(9,vI (IntKind.i64.wrap ((8:Int)*(IntKind.i64.wrap ((IntKind.i64.wrap (t4.1+(IntKind.i64.wrap ((2:Int)*a0.Tasks))))+(1:Int)))))),(33,vU a1),(36,.bool x31)]∧Ext w w'∧St w' M F [B23 b1 a0]) ?_ ?_
  ·clear o32H
   have H:=o32h
   rcases Q3 H with ⟨hb33,H⟩ | ⟨hb33,H⟩
   ·refine QC (cB hb33) ?_
    refine QX (tn ?_)
    exact ⟨(a1==(3:Int)),oi H,agP J,E,S.pk [0]⟩
   refine QA (cB hb33) (QJ (wiB J J (waB J (wnQ ?_))))
   exact ⟨(a1==(4:Int)),oi H,agP J,E,S.pk [0]⟩
  rintro ρ w34 ⟨x31,rfl,hρ,E,S⟩
  rw [QB hρ]
  have H:=o32H
  refine tn ?_
  exact ⟨x31,oi H,agP J,E,S.pk [0]⟩
 as_aux_lemma =>
 rintro ρ w35 ⟨x26,rfl,hρ,E,S⟩
 rw [QB hρ]
 have H:=o27H
 refine tn ?_
 rcases Q3 H with ⟨hb36,H⟩ | ⟨hb36,H⟩
 ·refine QC (cB hb36) ?_
  refine wsQ (wmI J (wmI J (wiI J J (waI J (wnQ ?_)))))
  refine QT ?_
  refine br (tr (?_))
  obtain rfl:=oi H
  exact ⟨_,_,_,rsA (vs:=[_]) J,HM,E,S.pk [],⟨J,J⟩⟩
 refine QA (cB hb36) (QH (wsQ (wiB J J (waB J (wnQ ?_)))))
 obtain ⟨o40,o40h,o40H⟩:=QO H
 refine Yc (fun ρ w'=>∃ (x39:Bool),(x39)=o40∧QV ρ [(2,pt b1 0),(6,vI t4.2),(8,vI (IntKind.i64.wrap ((IntKind.i64.wrap ((5:Int)*(IntKind.i64.wrap ((IntKind.i64.wrap (Int.tdiv (IntKind.i64.wrap (t4.2-(1:Int))) a0.Fan))+(1:Int)))))+(24:Int)))),(9,vI (IntKind.i64.wrap ((8:Int)*(IntKind.i64.wrap ((IntKind.i64.wrap (t4.1+(IntKind.i64.wrap ((2:Int)*a0.Tasks))))+(1:Int)))))),(33,vU a1),(43,.bool x39)]∧Ext w w'∧St w' M F [B23 b1 a0]) ?_ ?_
 ·clear o40H
  have H:=o40h
  rcases Q3 H with ⟨hb41,H⟩ | ⟨hb41,H⟩
  ·refine QC (cB hb41) ?_
   refine QX (tn ?_)
   exact ⟨(a1==(6:Int)),oi H,agP J,E,S.pk [0]⟩
  refine QA (cB hb41) (QJ (wiB J J (waB J (wnQ ?_))))
  exact ⟨(a1==(7:Int)),oi H,agP J,E,S.pk [0]⟩
 as_aux_lemma =>
 rintro ρ w42 ⟨x39,rfl,hρ,E,S⟩
 rw [QB hρ]
 have H:=o40H
 refine tn ?_
 rcases Q3 H with ⟨hb43,H⟩ | ⟨hb43,H⟩
 ·refine QC (cB hb43) ?_
  refine wsQ (wfA Tryz.underlying23 ty3 J (wlA S 0 ty3 J (wmI J (wiI J J (wiI J J (wmI J (wiI J J (waI J (wnQ ?_)))))))))
  refine QT ?_
  refine br (tr (?_))
  obtain rfl:=oi H
  exact ⟨_,_,_,rsA (vs:=[_]) J,HM,E,S.pk [],⟨J,J⟩⟩
 refine QA (cB hb43) (QH (wsQ (wiB J J (waB J (wnQ ?_)))))
 obtain ⟨o59,o59h,o59H⟩:=QO H
 refine Yc (fun ρ w'=>∃ (x58:Bool),(x58)=o59∧QV ρ [(2,pt b1 0),(6,vI t4.2),(8,vI (IntKind.i64.wrap ((IntKind.i64.wrap ((5:Int)*(IntKind.i64.wrap ((IntKind.i64.wrap (Int.tdiv (IntKind.i64.wrap (t4.2-(1:Int))) a0.Fan))+(1:Int)))))+(24:Int)))),(9,vI (IntKind.i64.wrap ((8:Int)*(IntKind.i64.wrap ((IntKind.i64.wrap (t4.1+(IntKind.i64.wrap ((2:Int)*a0.Tasks))))+(1:Int)))))),(53,.bool x58)]∧Ext w w'∧St w' M F [B23 b1 a0]) ?_ ?_
 ·clear o59H
  have H:=o59h
  rcases Q3 H with ⟨hb60,H⟩ | ⟨hb60,H⟩
  ·refine QC (cB hb60) ?_
   refine QX (tn ?_)
   exact ⟨(a1==(5:Int)),oi H,agP J,E,S.pk [0]⟩
  refine QA (cB hb60) (wsQ (wiB J J (waB J (wnQ ?_))))
  obtain ⟨o64,o64h,o64H⟩:=QO H
  refine Yc (fun ρ w'=>∃ (x63:Bool),(x63)=o64∧QV ρ [(2,pt b1 0),(6,vI t4.2),(8,vI (IntKind.i64.wrap ((IntKind.i64.wrap ((5:Int)*(IntKind.i64.wrap ((IntKind.i64.wrap (Int.tdiv (IntKind.i64.wrap (t4.2-(1:Int))) a0.Fan))+(1:Int)))))+(24:Int)))),(9,vI (IntKind.i64.wrap ((8:Int)*(IntKind.i64.wrap ((IntKind.i64.wrap (t4.1+(IntKind.i64.wrap ((2:Int)*a0.Tasks))))+(1:Int)))))),(53,.bool x63)]∧Ext w w'∧St w' M F [B23 b1 a0]) ?_ ?_
  ·clear o64H
   have H:=o64h
   rcases Q3 H with ⟨hb65,H⟩ | ⟨hb65,H⟩
   ·refine QC (cB hb65) ?_
    refine QX (tn ?_)
    exact ⟨(a1==(8:Int)),oi H,agP J,E,S.pk [0]⟩
   refine QA (cB hb65) (QJ (wiB J J (waB J (wnQ ?_))))
   exact ⟨(a1==(9:Int)),oi H,agP J,E,S.pk [0]⟩
  rintro ρ w66 ⟨x63,rfl,hρ,E,S⟩
  rw [QB hρ]
  have H:=o64H
  refine tn ?_
  exact ⟨x63,oi H,agP J,E,S.pk [0]⟩
 rintro ρ w67 ⟨x58,rfl,hρ,E,S⟩
 rw [QB hρ]
 have H:=o59H
 refine tn ?_
 rcases Q3 H with ⟨hb68,H⟩ | ⟨hb68,H⟩
 ·refine QC (cB hb68) ?_
  refine wsQ (wmI J (wfA Tryz.underlying23 ty3 J (wlA S 0 ty3 J (wiI J J (wiI J J (wmI J (wiI J J (wiI J J (wmI J (wiI J J (waI J (wnQ ?_))))))))))))
  refine QT ?_
  refine br (tr (?_))
  obtain rfl:=oi H
  exact ⟨_,_,_,rsA (vs:=[_]) J,HM,E,S.pk [],⟨J,J⟩⟩
 refine QA (cB hb68) (QX (bn (tn ?_)))
 as_aux_lemma =>
 refine wsQ (waI J (wnQ ?_))
 refine QT ?_
 obtain rfl:=oi H
 exact ⟨_,_,_,rsA (vs:=[_]) J,HM,E,S.pk [],⟨J,J⟩⟩
def Xe (a0:QI):Nat→Int→Int→Option ((Int))
 | 0,_,_=>none
 | k+1,x19,x20=>(if (decide (x20<(10:Int)))=true then (Option.bind (XL k a0 x20) (fun t29=>Xe a0 k (imax x19 t29) (IntKind.u8.wrap (x20+(1:Int))))) else some (x19))
theorem Xe.mono {a0}: ∀ {kl:Nat} {x0 x1},OLe (Xe a0 kl x0 x1) (Xe a0 (kl+1) x0 x1):=by
 intro kl
 induction kl with
 | zero=>intros;exact OLe.none
 | succ kl ih =>
  intros
  rw [Xe.eq_2,Xe.eq_2]
  have m1:=@XL.mono
  exact mo
def Xo (k:Nat) (a0:QI):Option (Int) :=
 (Option.bind (Xq k a0) (fun t4=>(if (!t4)=true then some (0:Int) else (Option.bind (Xe a0 k (0:Int) (0:Int)) (fun x25=>some (IntKind.i64.wrap (a0.Tasks*x25)))))))
theorem Xo.mono {k a0}: OLe (Xo k a0) (Xo (k+1) a0):=by
 unfold Xo
 have m1:=@Xe.mono
 have m2:=@Xq.mono
 exact mo
theorem Xo.con {k M} {a0:QI} {r:Int} (h:Xo k a0=some r): Con Tryz.prog 12 #[.agg (QF a0)] M [] (fun v M' Γ'=>v=vI r∧Γ'=[]):=by
 refine cwA Tryz.func12 J Tryz.ntmps12 Tryz.results12 J h ?_
 intro w F rn S hrn E HM H
 unfold Xo at H
 refine wsQ ?_
 refine Yz S (QF a0) J J J (eE2 E ?_)
 intro b1 w2 E S
 refine waI J (wnQ (QH (wsQ (W_v (.agg (QF a0)) (Qi (S.blk 0 J) ty23 J (QG J) J J) J ?_))))
 obtain ⟨t4,ht5,H⟩:=QO H
 refine ZR fn17 (Xq.con ht5) S J J flN (eE4 E ?_)
 rintro _ w6 _ Γ' E S ⟨rfl,rfl⟩
 refine W_v _ (Xr (b:=t4) J) J (wnQ ?_)
 rcases Q3 H with ⟨hb7,H⟩ | ⟨hb7,H⟩
 ·refine QC (cB hb7) ?_
  refine wsQ (waI J (wnQ ?_))
  refine QT ?_
  refine tr (?_)
  obtain rfl:=oi H
  exact ⟨_,_,_,rsA (vs:=[_]) J,HM,E,S.pk [],⟨J,J⟩⟩
 refine QA (cB hb7) (QX (tn (wsQ (waI J (wnQ (QH (wsQ (wmI J (wnQ ?_)))))))))
 obtain ⟨o26,o26h,o26H⟩:=QO H
 refine Zr (fun ρ w'=>∃ (x25:Int),(x25)=o26∧QV ρ [(1,pt b1 0),(3,vI x25)]∧Ext w w'∧St w' M F [B23 b1 a0]) ?_ ?_
 ·refine Yr (fun n ρ w'=>∃ (x19:Int) (x20:Int),Xe a0 n x19 x20=some o26∧QV ρ [(1,pt b1 0),(3,vI x19),(8,vU x20)]∧Ext w w'∧St w' M F [B23 b1 a0]) k ?_ ?_
  ·exact ⟨(0:Int),(0:Int),o26h,agP J,E,S.pk [0]⟩
  ·intro n
   rintro ρ w27 ⟨x19,x20,H,hρ,E,S⟩
   rw [QB hρ]
   cases n with
   | zero=>cases H
   | succ k =>
    rw [Xe.eq_2] at H
    refine wsQ (wiB J J (wnQ (QH ?_)))
    rcases Q3 H with ⟨hb28,H⟩ | ⟨hb28,H⟩
    ·refine QC (cB hb28) ?_
     refine QX (tn (QH ?_))
     refine ZW ?_
     refine wsQ (wmI J (waI J (wnQ (QJ (wmI J (W_v (.agg (QF a0)) (Qi (S.blk 0 J) ty23 J (QG J) J J) J (wmI J ?_)))))))
     obtain ⟨t29,ht30,H⟩:=QO H
     refine ZR fn10 (XL.con ht30) S J J flN (eE4 E ?_)
     rintro _ w31 _ Γ' E S ⟨rfl,rfl⟩
     refine W_v (vI (imax x19 t29)) (Un J J) J (waI J (QK (bn (tn (QJ (wiI J J (wmI J (wnQ ?_))))))))
     exact ⟨k,Nat.lt_succ_self k,⟨(imax x19 t29),(IntKind.u8.wrap (x20+(1:Int))),H,agP J,E,S.pk [0]⟩⟩
    refine QA (cB hb28) ?_
    refine YZ ?_
    refine tx (tx (bsm (?_)))
    refine tn ?_
    exact ⟨x19,oi H,agP J,E,S.pk [0]⟩
 rintro ρ w32 ⟨x25,rfl,hρ,E,S⟩
 rw [QB hρ]
 have H:=o26H
 refine tn ?_
 as_aux_lemma =>
 refine wsQ (wfA Tryz.underlying23 ty3 J (wlA S 0 ty3 J (wmI J (wiI J J (waI J (wnQ ?_))))))
 refine QT ?_
 obtain rfl:=oi H
 exact ⟨_,_,_,rsA (vs:=[_]) J,HM,E,S.pk [],⟨J,J⟩⟩
def XZ (k:Nat) :Option (QI) :=
 some (⟨(1:Int),(2:Int),(1:Int),(2:Int),(9:Int),(2:Int),(2:Int),(3:Int)⟩:QI)
theorem XZ.mono {k}:OLe (XZ k ) (XZ (k+1) ):=by
 unfold XZ
 exact mo
theorem XZ.con {k M} {r:QI} (h:XZ k =some r): Con Tryz.prog 14 #[] M [] (fun v M' Γ'=>v=.agg (QF r)∧Γ'=[]):=by
 refine cwA Tryz.func14 J Tryz.ntmps14 Tryz.results14 J h ?_
 intro w F rn S hrn E HM H
 unfold XZ at H
 refine wsQ ?_
 refine YN S #[vI 0,vI 0,vI 0,vI 0,vI 0,vI 0,vI 0,vI 0] ty23 J J (eE2 E ?_)
 intro b1 w2 E S
 refine wnQ (wsQ (W_v _ (xb2 [(0,1),(1,1),(2,1),(3,1),(4,1),(5,1),(6,1),(7,1)] cz17 Tryz.underlying23 ty23 J) J ?_))
 refine Qu S 0 J ty23 J J [vI 1,vI 2,vI 1,vI 2,vI 9,vI 2,vI 2,vI 3] J J J cz17 (by as_aux_lemma=>kernel_rfl) J (eE1 E ?_)
 intro w4 E S
 refine wnQ ?_
 refine QT ?_
 obtain rfl:=oi H
 exact ⟨_,_,_,fun w1 e1=>Zg (vs:=[.agg cz17]) (FA.cons (rcA S e1 0 ty23 J J J) (FA.nil)),HM,E,S.pk [],⟨J,J⟩⟩
def XT (a0:(List (List QY))) (a1:Int):Nat→List QL→Int→Option ((List QL))
 | 0,_,_=>none
 | k+1,x88,x92=>(if (decide (x92<a1))=true then (if 0≤(0:Int)∧(0:Int)<(a0.length:Int) then (if 0≤x92∧x92<((rd a0 (0:Int)).length:Int) then (Option.bind (α:=List QL) (some ([(⟨(1:Int),(0:Int),x92,⟨(0:Int),false,([]:Str),([]:(List Qp))⟩⟩:QL),(⟨(2:Int),(0:Int),x92,⟨(0:Int),false,([]:Str),([]:(List Qp))⟩⟩:QL),(⟨(3:Int),(0:Int),x92,⟨(0:Int),((rd (rd a0 (0:Int)) x92).Kind==(4:Int)),([]:Str),([]:(List Qp))⟩⟩:QL)]:List QL)) (fun x166=>(if x88.length+x166.length≤1759218604441 then XT a0 a1 k (x88++x166) (IntKind.i64.wrap (x92+(1:Int))) else none))) else none) else none) else some (x88))
theorem XT.mono {a0 a1}: ∀ {kl:Nat} {x0 x1},OLe (XT a0 a1 kl x0 x1) (XT a0 a1 (kl+1) x0 x1):=by
 intro kl
 induction kl with
 | zero=>intros;exact OLe.none
 | succ kl ih =>
  intros
  rw [XT.eq_2,XT.eq_2]
  exact mo
def Xk (k:Nat) (a0:(List (List QY))) (a1:Int):Option ((List QL)) :=
 (Option.bind (XT a0 a1 k ([]:List QL) (0:Int)) (fun x131=>some x131))
theorem Xk.mono {k a0 a1}: OLe (Xk k a0 a1) (Xk (k+1) a0 a1):=by
 unfold Xk
 have m1:=@XT.mono
 exact mo
theorem Xk.con {k M A0 c0} {a0:(List (List QY))} {a1:Int} {r:(List QL)} (h:Xk k a0 a1=some r) (hr0:SlR (rSl Yk) M (.slice A0 a0.length c0) a0): Con Tryz.prog 15 #[.slice A0 a0.length c0,vI a1] M [] (fun v M' Γ'=>∃ (A0:Option Addr) (c0:Nat),v=.slice A0 r.length c0∧Γ'=[Rw Qs 40 A0 c0 r]):=by
 refine cwA Tryz.func15 J Tryz.ntmps15 Tryz.results15 J h ?_
 intro w F rn S hrn E HM H
 unfold Xk at H
 refine wsQ (waL J (wnQ (wsQ (waL J (wnQ (QH (wsQ (waI J (wnQ ?_)))))))))
 obtain ⟨o135,o135h,o135H⟩:=QO H
 refine Zr (fun ρ w'=>∃ (x131:List QL) (A132:Option Addr) (c133:Nat),(x131)=o135∧QV ρ [(5,.slice A132 x131.length c133)]∧Ext w w'∧St w' M F [Rw Qs 40 A132 c133 x131]) ?_ ?_
 ·refine Yr (fun n ρ w'=>∃ (x88:List QL) (x92:Int) (A89:Option Addr) (c90:Nat),XT a0 a1 n x88 x92=some o135∧QV ρ [(0,.slice A0 a0.length c0),(1,vI a1),(5,.slice A89 x88.length c90),(6,vI x92)]∧Ext w w'∧St w' M F [Rw Qs 40 A89 c90 x88]) k ?_ ?_
  ·replace S:=S.row_nil Qs 40
   exact ⟨([]:List QL),(0:Int),none,0,o135h,agP J,E,S.pk [0]⟩
  ·intro n
   rintro ρ w137 ⟨x88,x92,A89,c90,H,hρ,E,S⟩
   rw [QB hρ]
   cases n with
   | zero=>cases H
   | succ k =>
    rw [XT.eq_2] at H
    refine QH (wsQ (wmI J (wmI J (wiB J J (wnQ ?_)))))
    rcases Q3 H with ⟨hb138,H⟩ | ⟨hb138,H⟩
    ·refine QC (cB hb138) ?_
     refine QX (tn (QH ?_))
     refine ZW ?_
     refine QJ (wmL J (wmI J (W_v _ (xb2 [(0,1),(1,1),(2,1),(3,4)] #[vU 1,vI 0,vI x92,vI 0,.bool false,vS ([]:Str),.slice none 0 0] Tryz.underlying40 ty40 J) J (wmI J (W_v _ (xb2 [(0,1),(1,1),(2,1),(3,4)] #[vU 2,vI 0,vI x92,vI 0,.bool false,vS ([]:Str),.slice none 0 0] Tryz.underlying40 ty40 J) J (wmI J (wmL J ?_)))))))
     obtain ⟨⟨p139,p140⟩,H⟩:=Z8 H
     obtain ⟨b141,o142,cs143,_,_,ee148,hb144,vs145,hR146,hc147⟩:=SlW.at' hr0 p139 p140
     obtain ⟨v152,hs151,rfl⟩:=hR146
     obtain ⟨A149,c150,rfl,_⟩:=hs151.form
     refine W_v _ (QS Tryz.underlying24 ty41 (slA ee148) J p139 p140) J (W_v _ (Z0 (S.frz hb144) ty41 J (hc147 0 _ J)) J (wmI J ?_))
     obtain ⟨⟨p153,p154⟩,H⟩:=Z8 H
     obtain ⟨b155,o156,cs157,_,_,ee162,hb158,vs159,hR160,hc161⟩:=SlW.at' hs151 p153 p154
     obtain rfl:vs159=_:=hR160
     refine W_v _ (QS Tryz.underlying41 ty43 (slA ee162) J p153 p154) J (wfA Tryz.underlying43 ty5 J (W_v _ (Z0 (S.frz hb158) ty5 J (hc161 0 _ J)) J (wiB J J (W_v _ (xb2 [(0,1),(1,1),(2,1),(3,1)] #[vI 0,.bool ((rd (rd a0 (0:Int)) x92).Kind==(4:Int)),vS ([]:Str),.slice none 0 0] Tryz.underlying38 ty38 J) J (W_v _ (xb2 [(0,1),(1,1),(2,1),(3,4)] #[vU 3,vI 0,vI x92,vI 0,.bool ((rd (rd a0 (0:Int)) x92).Kind==(4:Int)),vS ([]:Str),.slice none 0 0] Tryz.underlying40 ty40 J) J ?_)))))
     refine Xl S #[vU 1,vI 0,vI x92,vI 0,.bool false,vS ([]:Str),.slice none 0 0,vU 2,vI 0,vI x92,vI 0,.bool false,vS ([]:Str),.slice none 0 0,vU 3,vI 0,vI x92,vI 0,.bool ((rd (rd a0 (0:Int)) x92).Kind==(4:Int)),vS ([]:Str),.slice none 0 0] Tryz.underlying25 ty40 J J #[vU 0,vI 0,vI 0,vI 0,.bool false,vS ([]:Str),.slice none 0 0,vU 0,vI 0,vI 0,vI 0,.bool false,vS ([]:Str),.slice none 0 0,vU 0,vI 0,vI 0,vI 0,.bool false,vS ([]:Str),.slice none 0 0] (by as_aux_lemma=>kernel_rfl) (by as_aux_lemma=>kernel_rfl) J (eE2 E ?_)
     intro b163 w164 E S
     replace S:=S.blk_row (r:=Qs) (l:=([(⟨(1:Int),(0:Int),x92,⟨(0:Int),false,([]:Str),([]:(List Qp))⟩⟩:QL),(⟨(2:Int),(0:Int),x92,⟨(0:Int),false,([]:Str),([]:(List Qp))⟩⟩:QL),(⟨(3:Int),(0:Int),x92,⟨(0:Int),((rd (rd a0 (0:Int)) x92).Kind==(4:Int)),([]:Str),([]:(List Qp))⟩⟩:QL)]:List QL)) 0 J 3 (Nat.le_refl 3) J (Cells.cons (vs:=[vU 1,vI 0,vI x92,vI 0,.bool false,vS ([]:Str),.slice none 0 0]) (⟨_,(SlW.nil _ _),J⟩) (Cells.cons (vs:=[vU 2,vI 0,vI x92,vI 0,.bool false,vS ([]:Str),.slice none 0 0]) (⟨_,(SlW.nil _ _),J⟩) (Cells.cons (vs:=[vU 3,vI 0,vI x92,vI 0,.bool ((rd (rd a0 (0:Int)) x92).Kind==(4:Int)),vS ([]:Str),.slice none 0 0]) (⟨_,(SlW.nil _ _),J⟩) Cells.nil)))
     obtain ⟨x166,he167,H⟩:=QO H
     replace he167:=oi he167
     rw [he167] at S
     refine Eq.mpr (congrArg (fun z=>Wl _ _ _ _ _ _ (upd _ _ z) _) (show Value.slice (some ⟨b163,0,none⟩) 3 3=Value.slice (some ⟨b163,0,none⟩) x166.length 3 from (by rw [← he167];rfl))) ?_
     obtain ⟨p168,H⟩:=Z8 H
     obtain ⟨src169,hs170,hC171⟩:=XJ (P:=Tryz.prog) (ρ:=Qs) (l:=x166) (S.row_read 0 J) (by decide)
     refine X0 S 1 J J J Tryz.underlying25 (.inl Tryz.underlying25) ty40 J (by decide) (by decide) hs170 hC171 J (by omega) J (eE2 E ?_)
     intro v172 w173 E S
     obtain ⟨A174,c175,rfl,_⟩:=(S.row_read 1 J).form
     refine waL J (QK (bn (tn (QJ (wmI J (wiI J J (waI J (wnQ ?_))))))))
     exact ⟨k,Nat.lt_succ_self k,⟨(x88++x166),(IntKind.i64.wrap (x92+(1:Int))),A174,c175,H,agP J,E,S.pk [1]⟩⟩
    refine QA (cB hb138) ?_
    refine YZ ?_
    refine tx (tx (bsm (?_)))
    refine tn ?_
    exact ⟨x88,A89,c90,oi H,agP J,E,S.pk [0]⟩
 rintro ρ w176 ⟨x131,A132,c133,rfl,hρ,E,S⟩
 rw [QB hρ]
 have H:=o135H
 refine tn ?_
 as_aux_lemma =>
 refine wsQ (wmL J (waL J (wnQ ?_)))
 refine QT ?_
 obtain rfl:=oi H
 exact ⟨_,_,_,rsA (vs:=[_]) J,HM,E,S.pk [0],⟨A132,c133,J,J⟩⟩
def Xn (k:Nat) (a0:(List QY)):Option (Bool) :=
 some (decide ((a0.length:Int)>(64:Int)))
theorem Xn.mono {k a0}: OLe (Xn k a0) (Xn (k+1) a0):=by
 unfold Xn
 exact mo
theorem Xn.con {k M A0 c0} {a0:(List QY)} {r:Bool} (h:Xn k a0=some r) (hr0:SlR Yk M (.slice A0 a0.length c0) a0): Con Tryz.prog 83 #[.slice A0 a0.length c0] M [] (fun v M' Γ'=>v=.bool r∧Γ'=[]):=by
 refine cwA Tryz.func83 J Tryz.ntmps83 Tryz.results83 J h ?_
 intro w F rn S hrn E HM H
 unfold Xn at H
 refine wsQ (waB J (wnQ (wsQ (wmL J (W_v _ (Qm (n:=a0.length) Tryz.underlying41 J) J (wiB J J (waB J (wnQ ?_))))))))
 refine QT ?_
 obtain rfl:=oi H
 exact ⟨_,_,_,rsA (vs:=[_]) J,HM,E,S.pk [],⟨J,J⟩⟩
def Qt (a0:(List (List QY))):Nat→Int→Option ((Int)⊕(Unit))
 | 0,_=>none
 | k+1,x45=>(if (decide (x45<(a0.length:Int)))=true then (if 0≤x45∧x45<(a0.length:Int) then (Option.bind (Xn k (rd a0 x45)) (fun t84=>(if t84=true then some (.inl x45) else Qt a0 k (IntKind.i64.wrap (x45+(1:Int)))))) else none) else some (.inr ()))
theorem Qt.mono {a0}: ∀ {kl:Nat} {x0},OLe (Qt a0 kl x0) (Qt a0 (kl+1) x0):=by
 intro kl
 induction kl with
 | zero=>intros;exact OLe.none
 | succ kl ih =>
  intros
  rw [Qt.eq_2,Qt.eq_2]
  have m1:=@Xn.mono
  exact mo
def ZJ (k:Nat) (a0:(List (List QY))):Option (Int) :=
 (Option.bind (Qt a0 k (0:Int)) (fun o67o=>Sum.elim (fun r'=>some r') (fun _=>some (-1:Int)) o67o))
theorem ZJ.mono {k a0}: OLe (ZJ k a0) (ZJ (k+1) a0):=by
 unfold ZJ
 have m1:=@Qt.mono
 exact mo
theorem ZJ.con {k M A0 c0} {a0:(List (List QY))} {r:Int} (h:ZJ k a0=some r) (hr0:SlR (rSl Yk) M (.slice A0 a0.length c0) a0): Con Tryz.prog 97 #[.slice A0 a0.length c0,.func (.func 83) #[] #[]] M [] (fun v M' Γ'=>v=vI r∧Γ'=[]):=by
 refine cwA Tryz.func97 J Tryz.ntmps97 Tryz.results97 J h ?_
 intro w F rn S hrn E HM H
 unfold ZJ at H
 refine wsQ (waI J (wnQ (QH (wsQ (wmL J (W_v _ (Qm (n:=a0.length) Tryz.underlying24 J) J (wmI J (wnQ ?_))))))))
 obtain ⟨o67,o67h,o67H⟩:=QO H
 refine Zr (fun ρ w'=>.inr ()=o67∧QV ρ []∧Ext w w'∧St w' M F []) ?_ ?_
 ·refine Yr (fun n ρ w'=>∃ (x45:Int),Qt a0 n x45=some o67∧QV ρ [(0,.slice A0 a0.length c0),(1,.func (.func 83) #[] #[]),(7,vI (a0.length:Int)),(8,vI x45)]∧Ext w w'∧St w' M F []) k ?_ ?_
  ·exact ⟨(0:Int),o67h,agP J,E,S.pk []⟩
  ·intro n
   rintro ρ w68 ⟨x45,H,hρ,E,S⟩
   rw [QB hρ]
   cases n with
   | zero=>cases H
   | succ k =>
    rw [Qt.eq_2] at H
    refine wsQ (wiB J J (wnQ (QH ?_)))
    rcases Q3 H with ⟨hb69,H⟩ | ⟨hb69,H⟩
    ·refine QC (cB hb69) ?_
     refine QX (tn (QH ?_))
     refine ZW ?_
     refine wsQ (wmI J (waI J (wnQ (wsQ (W_v (.func (.func 83) #[] #[]) (YW J) J (wmL J (wmI J ?_)))))))
     obtain ⟨⟨p70,p71⟩,H⟩:=Z8 H
     obtain ⟨b72,o73,cs74,_,_,ee79,hb75,vs76,hR77,hc78⟩:=SlW.at' hr0 p70 p71
     obtain ⟨v83,hs82,rfl⟩:=hR77
     obtain ⟨A80,c81,rfl,_⟩:=hs82.form
     refine W_v _ (QS Tryz.underlying24 ty41 (slA ee79) J p70 p71) J (W_v _ (Z0 (S.frz hb75) ty41 J (hc78 0 _ J)) J ?_)
     obtain ⟨t84,ht85,H⟩:=QO H
     refine VV (fs:=[]) (cap:=[]) fn83 J (Xn.con ht85 hs82) (Γ1:=[]) (Γ2:=[]) S J J flN (eE4 E ?_)
     rintro _ w86 _ Γ' E S ⟨rfl,rfl⟩
     replace S:St w86 M F []:=S
     refine wnQ ?_
     rcases Q3 H with ⟨hb89,H⟩ | ⟨hb89,H⟩
     ·refine QC (cB hb89) ?_
      refine wsQ (wmI J (waI J (wnQ ?_)))
      refine QT ?_
      refine br (tr (tr (br (tr (tr (?_))))))
      obtain rfl:=oi H
      have H:=o67H
      replace H:=elimL H
      obtain rfl:=oi H
      exact ⟨_,_,_,rsA (vs:=[_]) J,HM,E,S.pk [],⟨J,J⟩⟩
     refine QA (cB hb89) (QX (bn (tn (QJ (wiI J J (wmI J (wnQ ?_)))))))
     exact ⟨k,Nat.lt_succ_self k,⟨(IntKind.i64.wrap (x45+(1:Int))),H,agP J,E,S.pk []⟩⟩
    refine QA (cB hb69) ?_
    refine YZ ?_
    refine tx (tx (bsm (?_)))
    refine tn ?_
    exact ⟨oi H,trivial,E,S.pk []⟩
 rintro ρ w90 ⟨rfl,hρ,E,S⟩
 rw [QB hρ]
 have H:=o67H
 replace H:=elimR H
 refine tn ?_
 as_aux_lemma =>
 refine wsQ (waI J (wnQ ?_))
 refine QT ?_
 obtain rfl:=oi H
 exact ⟨_,_,_,rsA (vs:=[_]) J,HM,E,S.pk [],⟨J,J⟩⟩
def Q9 (k:Nat) (a0:(List (List QY))):Option (Bool) :=
 (Option.bind (ZJ k a0) (fun t1=>some (decide (t1≥(0:Int)))))
theorem Q9.mono {k a0}: OLe (Q9 k a0) (Q9 (k+1) a0):=by
 unfold Q9
 have m1:=@ZJ.mono
 exact mo
theorem Q9.con {k M A0 c0} {a0:(List (List QY))} {r:Bool} (h:Q9 k a0=some r) (hr0:SlR (rSl Yk) M (.slice A0 a0.length c0) a0): Con Tryz.prog 82 #[.slice A0 a0.length c0,.func (.func 83) #[] #[]] M [] (fun v M' Γ'=>v=.bool r∧Γ'=[]):=by
 refine cwA Tryz.func82 J Tryz.ntmps82 Tryz.results82 J h ?_
 intro w F rn S hrn E HM H
 unfold Q9 at H
 refine wsQ (waB J (wnQ (wsQ (wmL J (W_v (.func (.func 83) #[] #[]) (YW J) J ?_)))))
 obtain ⟨t1,ht2,H⟩:=QO H
 refine Zy fn97 (ZJ.con ht2 hr0) (Γ1:=[]) (Γ2:=[]) S J J flN (eE4 E ?_)
 rintro _ w3 _ Γ' E S ⟨rfl,rfl⟩
 replace S:St w3 M F []:=S
 refine wiB J J (waB J (wnQ ?_))
 refine QT ?_
 obtain rfl:=oi H
 exact ⟨_,_,_,rsA (vs:=[_]) J,HM,E,S.pk [],⟨J,J⟩⟩
def VJ (k:Nat) (a0:QI) (a1:(List (List QY))):Option (Bool) :=
 (Option.bind (Xq k a0) (fun t4=>(Option.bind (α:=Bool) (if (t4&&(decide ((a1.length:Int)≤a0.Tasks)))=true then (Option.bind (Q9 k a1) (fun t21=>some ((!t21)))) else some (false)) (fun x19=>some x19))))
theorem VJ.mono {k a0 a1}: OLe (VJ k a0 a1) (VJ (k+1) a0 a1):=by
 unfold VJ
 have m1:=@Q9.mono
 have m2:=@Xq.mono
 exact mo
theorem VJ.con {k M} {a0:QI} {A1 c1} {a1:(List (List QY))} {r:Bool} (h:VJ k a0 a1=some r) (hr1:SlR (rSl Yk) M (.slice A1 a1.length c1) a1): Con Tryz.prog 67 #[.agg (QF a0),.slice A1 a1.length c1] M [] (fun v M' Γ'=>v=.bool r∧Γ'=[]):=by
 refine cwA Tryz.func67 J Tryz.ntmps67 Tryz.results67 J h ?_
 intro w F rn S hrn E HM H
 unfold VJ at H
 refine wsQ ?_
 refine Yz S (QF a0) J J J (eE2 E ?_)
 intro b1 w2 E S
 refine waB J (wnQ (wsQ (W_v (.agg (QF a0)) (Qi (S.blk 0 J) ty23 J (QG J) J J) J ?_)))
 obtain ⟨t4,ht5,H⟩:=QO H
 refine ZR fn17 (Xq.con ht5) S J J flN (eE4 E ?_)
 rintro _ w6 _ Γ' E S ⟨rfl,rfl⟩
 refine wmB J ?_
 refine ZO 6 (fun ρ w'=>QV ρ [(1,.slice A1 a1.length c1),(13,.bool (t4&&(decide ((a1.length:Int)≤a0.Tasks))))]∧w6=w') ?_ ?_
 ·rcases Qy t4 with hb7 | hb7
  ·refine QZ (skT hb7) J (QZ (skT hb7) J (QZ (skT hb7) J (QZ (skT hb7) J (QZ (skT hb7) J (wqB hb7 J (QK ?_))))))
   exact ⟨⟨J,(flB hb7),trivial⟩,rfl⟩
  ·refine QN (cS hb7) (wmL J (QN (cS hb7) (W_v _ (Qm (n:=a1.length) Tryz.underlying24 J) J (QN (cS hb7) (wfA Tryz.underlying23 ty3 J (QN (cS hb7) (wlA S 0 ty3 J (QN (cS hb7) (wiB J J (wpB hb7 J (QK ?_)))))))))))
   exact ⟨⟨J,(flB hb7),trivial⟩,rfl⟩
 rintro ρ _ ⟨hρ,rfl⟩
 rw [QB hρ]
 refine wmB J ?_
 obtain ⟨o20,o20h,o20H⟩:=QO H
 refine ZO 4 (fun ρ w'=>∃ (x19:Bool),(x19)=o20∧QV ρ [(18,.bool x19)]∧Ext w w'∧St w' M F []) ?_ ?_
 ·have H:=o20h
  rcases Q3 H with ⟨hb18,H⟩ | ⟨hb18,H⟩
  ·refine QN (cS hb18) (wmL J (QN (cS hb18) ?_))
   obtain ⟨t21,ht22,H⟩:=QO H
   refine Zy fn82 (Q9.con ht22 hr1) (Γ1:=[]) (Γ2:=[_]) S J J flN (eE4 E ?_)
   rintro _ w23 _ Γ' E S ⟨rfl,rfl⟩
   replace S:St w23 M F [_]:=S
   refine QN (cS hb18) (W_v _ (Xr (b:=t21) J) J (wpB hb18 J (QK ?_)))
   exact ⟨(!t21),oi H,agP J,E,S.pk []⟩
  ·refine QZ (skT hb18) J (QZ (skT hb18) J (QZ (skT hb18) J (wqB hb18 J (QK ?_))))
   exact ⟨false,oi H,agP J,E,S.pk []⟩
 rintro ρ w26 ⟨x19,rfl,hρ,E,S⟩
 rw [QB hρ]
 have H:=o20H
 refine waB J (wnQ ?_)
 refine QT ?_
 obtain rfl:=oi H
 exact ⟨_,_,_,rsA (vs:=[_]) J,HM,E,S.pk [],⟨J,J⟩⟩
def VH (k:Nat) (a0:Int):Option (Bool) :=
 some (((a0 != (1:Int))&&(a0 != (8:Int)))&&(a0 != (9:Int)))
theorem VH.mono {k a0}: OLe (VH k a0) (VH (k+1) a0):=by
 unfold VH
 exact mo
theorem VH.con {k M} {a0:Int} {r:Bool} (h:VH k a0=some r): Con Tryz.prog 56 #[vU a0] M [] (fun v M' Γ'=>v=.bool r∧Γ'=[]):=by
 refine cwA Tryz.func56 J Tryz.ntmps56 Tryz.results56 J h ?_
 intro w F rn S hrn E HM H
 unfold VH at H
 refine wsQ (waB J (wnQ (wsQ (wmI J (wiB J J (wmB J ?_))))))
 refine ZO 3 (fun ρ w'=>QV ρ [(0,vU a0),(8,.bool ((a0 != (1:Int))&&(a0 != (8:Int))))]∧w=w') ?_ ?_
 ·rcases Qy (a0 != (1:Int)) with hb1 | hb1
  ·refine QZ (skT hb1) J (QZ (skT hb1) J (wqB hb1 J (QK ?_)))
   exact ⟨⟨J,(flB hb1),trivial⟩,rfl⟩
  ·refine QN (cS hb1) (wmI J (QN (cS hb1) (wiB J J (wpB hb1 J (QK ?_)))))
   exact ⟨⟨J,(flB hb1),trivial⟩,rfl⟩
 rintro ρ _ ⟨hρ,rfl⟩
 rw [QB hρ]
 refine wmB J ?_
 refine ZO 3 (fun ρ w'=>QV ρ [(12,.bool (((a0 != (1:Int))&&(a0 != (8:Int)))&&(a0 != (9:Int))))]∧w=w') ?_ ?_
 ·rcases Qy ((a0 != (1:Int))&&(a0 != (8:Int))) with hb2 | hb2
  ·refine QZ (skT hb2) J (QZ (skT hb2) J (wqB hb2 J (QK ?_)))
   exact ⟨⟨(flB hb2),trivial⟩,rfl⟩
  ·refine QN (cS hb2) (wmI J (QN (cS hb2) (wiB J J (wpB hb2 J (QK ?_)))))
   exact ⟨⟨(flB hb2),trivial⟩,rfl⟩
 rintro ρ _ ⟨hρ,rfl⟩
 rw [QB hρ]
 refine waB J (wnQ ?_)
 refine QT ?_
 obtain rfl:=oi H
 exact ⟨_,_,_,rsA (vs:=[_]) J,HM,E,S.pk [],⟨J,J⟩⟩
def XF (k:Nat) (a0:QI) (a1:Int) (a2:Int):Option (Unit) :=
 some ()
theorem XF.mono {k a0 a1 a2}: OLe (XF k a0 a1 a2) (XF (k+1) a0 a1 a2):=by
 unfold XF
 exact mo
theorem XF.con {k M} {a0:QI} {a1:Int} {a2:Int} {r:Unit} (h:XF k a0 a1 a2=some r): Con Tryz.prog 96 #[.agg (QF a0),vI a1,vI a2] M [] (fun v M' Γ'=>∃ (bq1:Nat) (bq3:Nat) (bq5:Nat),v=.func (.func 103) #[] #[pt bq1 0,pt bq3 0,pt bq5 0]∧Γ'=[B23 bq1 a0,Blk bq3 (.cells #[vI a1] 3 (0,0)),Blk bq5 (.cells #[vI a2] 3 (0,0))]):=by
 refine cwA Tryz.func96 J Tryz.ntmps96 Tryz.results96 J h ?_
 intro w F rn S hrn E HM H
 unfold XF at H
 refine wsQ ?_
 refine Yz S (QF a0) J J J (eE2 E ?_)
 intro b1 w2 E S
 refine Yz S #[vI a1] J J J (eE2 E ?_)
 intro b4 w5 E S
 refine Yz S #[vI a2] J J J (eE2 E ?_)
 intro b7 w8 E S
 refine W_v (.nilFunc) (Zm J) J (wnQ (wsQ (W_v (.func (.func 103) #[] #[pt b1 0,pt b4 0,pt b7 0]) (Vc J) J (W_v (.func (.func 103) #[] #[pt b1 0,pt b4 0,pt b7 0]) (Zm J) J (wnQ ?_)))))
 refine QT ?_
 obtain rfl:=oi H
 exact ⟨_,_,_,rsA (vs:=[_]) J,HM,E,S.pk [2,1,0],⟨b1,b4,b7,J,J⟩⟩
def XG (k:Nat) (a0:Str) (ac_0:QI) (ac_1:Int) (ac_2:Int):Option (Bool) :=
 (Option.bind (Xq k ac_0) (fun t1=>some ((t1&&(decide ((a0.length:Int)≥ac_1)))&&(decide ((a0.length:Int)≤ac_2)))))
theorem XG.mono {k a0 ac_0 ac_1 ac_2}: OLe (XG k a0 ac_0 ac_1 ac_2) (XG (k+1) a0 ac_0 ac_1 ac_2):=by
 unfold XG
 have m1:=@Xq.mono
 exact mo
theorem XG.con {k M} {a0:Str} {ac_0:QI} {ac_1:Int} {ac_2:Int} {bc_0 bc_1 bc_2} {r:Bool} (h:XG k a0 ac_0 ac_1 ac_2=some r): Con Tryz.prog 103 #[vS a0,pt bc_0 0,pt bc_1 0,pt bc_2 0] M [B23 bc_0 ac_0,Blk bc_1 (.cells #[vI ac_1] 3 (0,0)),Blk bc_2 (.cells #[vI ac_2] 3 (0,0))] (fun v M' Γ'=>v=.bool r∧Γ'=[B23 bc_0 ac_0,Blk bc_1 (.cells #[vI ac_1] 3 (0,0)),Blk bc_2 (.cells #[vI ac_2] 3 (0,0))]):=by
 refine cwA Tryz.func103 J Tryz.ntmps103 Tryz.results103 J h ?_
 intro w F rn S hrn E HM H
 unfold XG at H
 refine wsQ (waB J (wnQ (wsQ (W_v (.agg (QF ac_0)) (Qi (S.blk 0 J) ty23 J (QG J) J J) J ?_))))
 obtain ⟨t1,ht2,H⟩:=QO H
 refine ZR fn17 (Xq.con ht2) S J J flN (eE4 E ?_)
 rintro _ w3 _ Γ' E S ⟨rfl,rfl⟩
 refine wmB J ?_
 refine ZO 5 (fun ρ w'=>QV ρ [(0,vS a0),(3,pt bc_2 0),(13,.bool (t1&&(decide ((a0.length:Int)≥ac_1))))]∧w3=w') ?_ ?_
 ·rcases Qy t1 with hb4 | hb4
  ·refine QZ (skT hb4) J (QZ (skT hb4) J (QZ (skT hb4) J (QZ (skT hb4) J (wqB hb4 J (QK ?_)))))
   exact ⟨⟨J,J,(flB hb4),trivial⟩,rfl⟩
  ·refine QN (cS hb4) (wmS J (QN (cS hb4) (W_v _ (VA Tryz.underlying9 J) J (QN (cS hb4) (wlA S 1 ty3 J (QN (cS hb4) (wiB J J (wpB hb4 J (QK ?_)))))))))
   exact ⟨⟨J,J,(flB hb4),trivial⟩,rfl⟩
 rintro ρ _ ⟨hρ,rfl⟩
 rw [QB hρ]
 refine wmB J ?_
 refine ZO 5 (fun ρ w'=>QV ρ [(19,.bool ((t1&&(decide ((a0.length:Int)≥ac_1)))&&(decide ((a0.length:Int)≤ac_2))))]∧w3=w') ?_ ?_
 ·rcases Qy (t1&&(decide ((a0.length:Int)≥ac_1))) with hb5 | hb5
  ·refine QZ (skT hb5) J (QZ (skT hb5) J (QZ (skT hb5) J (QZ (skT hb5) J (wqB hb5 J (QK ?_)))))
   exact ⟨⟨(flB hb5),trivial⟩,rfl⟩
  ·refine QN (cS hb5) (wmS J (QN (cS hb5) (W_v _ (VA Tryz.underlying9 J) J (QN (cS hb5) (wlA S 2 ty3 J (QN (cS hb5) (wiB J J (wpB hb5 J (QK ?_)))))))))
   exact ⟨⟨(flB hb5),trivial⟩,rfl⟩
 rintro ρ _ ⟨hρ,rfl⟩
 rw [QB hρ]
 refine waB J (wnQ ?_)
 refine QT ?_
 obtain rfl:=oi H
 exact ⟨_,_,_,rsA (vs:=[_]) J,HM,E,S.pk [0,1,2],⟨J,J⟩⟩
def VM (k:Nat) (a0:QI) (a1:Str):Option (Bool) :=
 (Option.bind (XF k a0 (1:Int) a0.KeyLen) (fun t4=>(Option.bind (XG k a1 a0 (1:Int) a0.KeyLen) (fun t15=>some t15))))
theorem VM.mono {k a0 a1}: OLe (VM k a0 a1) (VM (k+1) a0 a1):=by
 unfold VM
 have m1:=@XG.mono
 have m2:=@XF.mono
 exact mo
theorem VM.con {k M} {a0:QI} {a1:Str} {r:Bool} (h:VM k a0 a1=some r): Con Tryz.prog 76 #[.agg (QF a0),vS a1] M [] (fun v M' Γ'=>v=.bool r∧Γ'=[]):=by
 refine cwA Tryz.func76 J Tryz.ntmps76 Tryz.results76 J h ?_
 intro w F rn S hrn E HM H
 unfold VM at H
 refine wsQ ?_
 refine Yz S (QF a0) J J J (eE2 E ?_)
 intro b1 w2 E S
 refine waB J (wnQ (wsQ (W_v (.agg (QF a0)) (Qi (S.blk 0 J) ty23 J (QG J) J J) J (wfA Tryz.underlying23 ty3 J (wlA S 0 ty3 J ?_)))))
 obtain ⟨t4,ht5,H⟩:=QO H
 refine Zy fn96 (XF.con ht5) (Γ1:=[]) (Γ2:=[_]) S J J (by rintro _ _ _ ⟨_,_,_,rfl,rfl⟩;exact (QP Zs (QP Zs (QP Zs YE)))) (eE4 E ?_)
 rintro _ w12 _ Γ' E S ⟨b6,b8,b10,rfl,rfl⟩
 replace S:St w12 M F [_,_,_,_]:=S
 refine wmS J ?_
 obtain ⟨t15,ht16,H⟩:=QO H
 refine VV (fs:=[]) (cap:=[pt b6 0,pt b8 0,pt b10 0]) fn103 J (XG.con ht16) (Γ1:=[_,_,_]) (Γ2:=[_]) S J J (by rintro _ _ _ ⟨rfl,rfl⟩;exact (QP Zs (QP Zs (QP Zs YE)))) (eE4 E ?_)
 rintro _ w17 _ Γ' E S ⟨rfl,rfl⟩
 replace S:St w17 M F [_,_,_,_]:=S
 refine waB J (wnQ ?_)
 refine QT ?_
 obtain rfl:=oi H
 exact ⟨_,_,_,rsA (vs:=[_]) J,HM,E,S.pk [],⟨J,J⟩⟩
def VI (k:Nat) (a0:QI) (a1:Str):Option (Bool) :=
 (Option.bind (XF k a0 (0:Int) a0.ValLen) (fun t4=>(Option.bind (XG k a1 a0 (0:Int) a0.ValLen) (fun t15=>some t15))))
theorem VI.mono {k a0 a1}: OLe (VI k a0 a1) (VI (k+1) a0 a1):=by
 unfold VI
 have m1:=@XG.mono
 have m2:=@XF.mono
 exact mo
theorem VI.con {k M} {a0:QI} {a1:Str} {r:Bool} (h:VI k a0 a1=some r): Con Tryz.prog 77 #[.agg (QF a0),vS a1] M [] (fun v M' Γ'=>v=.bool r∧Γ'=[]):=by
 refine cwA Tryz.func77 J Tryz.ntmps77 Tryz.results77 J h ?_
 intro w F rn S hrn E HM H
 unfold VI at H
 refine wsQ ?_
 refine Yz S (QF a0) J J J (eE2 E ?_)
 intro b1 w2 E S
 refine waB J (wnQ (wsQ (W_v (.agg (QF a0)) (Qi (S.blk 0 J) ty23 J (QG J) J J) J (wfA Tryz.underlying23 ty3 J (wlA S 0 ty3 J ?_)))))
 obtain ⟨t4,ht5,H⟩:=QO H
 refine Zy fn96 (XF.con ht5) (Γ1:=[]) (Γ2:=[_]) S J J (by rintro _ _ _ ⟨_,_,_,rfl,rfl⟩;exact (QP Zs (QP Zs (QP Zs YE)))) (eE4 E ?_)
 rintro _ w12 _ Γ' E S ⟨b6,b8,b10,rfl,rfl⟩
 replace S:St w12 M F [_,_,_,_]:=S
 refine wmS J ?_
 obtain ⟨t15,ht16,H⟩:=QO H
 refine VV (fs:=[]) (cap:=[pt b6 0,pt b8 0,pt b10 0]) fn103 J (XG.con ht16) (Γ1:=[_,_,_]) (Γ2:=[_]) S J J (by rintro _ _ _ ⟨rfl,rfl⟩;exact (QP Zs (QP Zs (QP Zs YE)))) (eE4 E ?_)
 rintro _ w17 _ Γ' E S ⟨rfl,rfl⟩
 replace S:St w17 M F [_,_,_,_]:=S
 refine waB J (wnQ ?_)
 refine QT ?_
 obtain rfl:=oi H
 exact ⟨_,_,_,rsA (vs:=[_]) J,HM,E,S.pk [],⟨J,J⟩⟩
def X6 (k:Nat) (a0:QI) (a1:Str):Option (Bool) :=
 (Option.bind (XF k a0 (0:Int) a0.KeyLen) (fun t4=>(Option.bind (XG k a1 a0 (0:Int) a0.KeyLen) (fun t15=>some t15))))
theorem X6.mono {k a0 a1}: OLe (X6 k a0 a1) (X6 (k+1) a0 a1):=by
 unfold X6
 have m1:=@XG.mono
 have m2:=@XF.mono
 exact mo
theorem X6.con {k M} {a0:QI} {a1:Str} {r:Bool} (h:X6 k a0 a1=some r): Con Tryz.prog 78 #[.agg (QF a0),vS a1] M [] (fun v M' Γ'=>v=.bool r∧Γ'=[]):=by
 refine cwA Tryz.func78 J Tryz.ntmps78 Tryz.results78 J h ?_
 intro w F rn S hrn E HM H
 unfold X6 at H
 refine wsQ ?_
 refine Yz S (QF a0) J J J (eE2 E ?_)
 intro b1 w2 E S
 refine waB J (wnQ (wsQ (W_v (.agg (QF a0)) (Qi (S.blk 0 J) ty23 J (QG J) J J) J (wfA Tryz.underlying23 ty3 J (wlA S 0 ty3 J ?_)))))
 obtain ⟨t4,ht5,H⟩:=QO H
 refine Zy fn96 (XF.con ht5) (Γ1:=[]) (Γ2:=[_]) S J J (by rintro _ _ _ ⟨_,_,_,rfl,rfl⟩;exact (QP Zs (QP Zs (QP Zs YE)))) (eE4 E ?_)
 rintro _ w12 _ Γ' E S ⟨b6,b8,b10,rfl,rfl⟩
 replace S:St w12 M F [_,_,_,_]:=S
 refine wmS J ?_
 obtain ⟨t15,ht16,H⟩:=QO H
 refine VV (fs:=[]) (cap:=[pt b6 0,pt b8 0,pt b10 0]) fn103 J (XG.con ht16) (Γ1:=[_,_,_]) (Γ2:=[_]) S J J (by rintro _ _ _ ⟨rfl,rfl⟩;exact (QP Zs (QP Zs (QP Zs YE)))) (eE4 E ?_)
 rintro _ w17 _ Γ' E S ⟨rfl,rfl⟩
 replace S:St w17 M F [_,_,_,_]:=S
 refine waB J (wnQ ?_)
 refine QT ?_
 obtain rfl:=oi H
 exact ⟨_,_,_,rsA (vs:=[_]) J,HM,E,S.pk [],⟨J,J⟩⟩
def Xw (k:Nat) (a0:(List QU)) (a1:Int):Option (Unit) :=
 some ()
theorem Xw.mono {k a0 a1}: OLe (Xw k a0 a1) (Xw (k+1) a0 a1):=by
 unfold Xw
 exact mo
theorem Xw.con {k M A0 c0} {a0:(List QU)} {a1:Int} {r:Unit} (h:Xw k a0 a1=some r) (hr0:SlR ZL M (.slice A0 a0.length c0) a0): Con Tryz.prog 142 #[.slice A0 a0.length c0,vI a1] M [] (fun v M' Γ'=>∃ (bq1:Nat) (bq3:Nat),v=.func (.func 144) #[] #[pt bq1 0,pt bq3 0]∧Γ'=[Blk bq1 (.cells #[.slice A0 a0.length c0] 86 (0,0)),Blk bq3 (.cells #[vI a1] 3 (0,0))]):=by
 refine cwA Tryz.func142 J Tryz.ntmps142 Tryz.results142 J h ?_
 intro w F rn S hrn E HM H
 unfold Xw at H
 refine wsQ ?_
 refine Yz S #[.slice A0 a0.length c0] J J J (eE2 E ?_)
 intro b1 w2 E S
 refine Yz S #[vI a1] J J J (eE2 E ?_)
 intro b4 w5 E S
 refine W_v (.nilFunc) (Zm J) J (wnQ (wsQ (W_v (.func (.func 144) #[] #[pt b1 0,pt b4 0]) (Vc J) J (W_v (.func (.func 144) #[] #[pt b1 0,pt b4 0]) (Zm J) J (wnQ ?_)))))
 refine QT ?_
 obtain rfl:=oi H
 exact ⟨_,_,_,rsA (vs:=[_]) J,HM,E,S.pk [1,0],⟨b1,b4,J,J⟩⟩
def XR {σ ε:Type} (a_0:(List QU)) (a_1:Int) (bd:Int×Bool→σ→Option (σ⊕ε)):Nat→Int→σ⊕ε→Option ((σ⊕ε)⊕((σ⊕ε)))
 | 0,_,_=>none
 | k+1,x53,x54=>(if (decide (x53<(a_0.length:Int)))=true then (if 0≤x53∧x53<(a_0.length:Int) then (Option.bind (toL x54) (fun s99=>Option.bind (bd (x53,(decide ((rd a_0 x53).TS≤a_1))) s99) (fun t101=>(if ((!(isNorm t101))||(decide ((rd a_0 x53).TS≤a_1)))=true then some (.inl t101) else XR a_0 a_1 bd k (IntKind.i64.wrap (x53+(1:Int))) t101)))) else none) else some (.inr (x54)))
theorem XR.mono {σ ε:Type} {a_0:(List QU)} {a_1:Int} {bd bd':Int×Bool→σ→Option (σ⊕ε)} (hbd:∀ x s,OLe (bd x s) (bd' x s)):∀ {kl:Nat} {x0 x1},OLe (XR a_0 a_1 bd kl x0 x1) (XR a_0 a_1 bd' (kl+1) x0 x1):=by
 intro kl
 induction kl with
 | zero=>intros;exact OLe.none
 | succ kl ih =>
  intros
  rw [XR.eq_2,XR.eq_2]
  repeat' (first | with_reducible exact OLe.none | with_reducible exact OLe.some | with_reducible refine OLe.ite ?_ ?_ | with_reducible refine OLe.bind ?_ (fun _=>?_) | exact OLe.toL | exact hbd _ _ | exact ih | refine OLe.bind ?_ (fun _=>?_) | refine OLe.ite ?_ ?_ | refine OLe.elim (fun _=>?_) (fun _=>?_) | split)
def Xx {σ ε:Type} (k:Nat) (a_0:(List QU)) (a_1:Int) (bd:Int×Bool→σ→Option (σ⊕ε)) (s0:σ):Option (σ⊕ε) :=
 (Option.bind (XR a_0 a_1 bd k (0:Int) (.inl s0)) (fun o80o=>Sum.elim (fun r'=>some r') (fun x79=>some x79) o80o))
theorem Xx.mono {σ ε:Type} {k:Nat} {a_0:(List QU)} {a_1:Int} {bd bd':Int×Bool→σ→Option (σ⊕ε)} (hbd:∀ x s,OLe (bd x s) (bd' x s)) {s0:σ}:OLe (Xx k a_0 a_1 bd s0) (Xx (k+1) a_0 a_1 bd' s0):=by
 unfold Xx
 repeat' (first | with_reducible exact OLe.none | with_reducible exact OLe.some | with_reducible refine OLe.ite ?_ ?_ | with_reducible refine OLe.bind ?_ (fun _=>?_) | with_reducible exact XR.mono hbd | exact OLe.toL | exact hbd _ _ | refine OLe.bind ?_ (fun _=>?_) | refine OLe.ite ?_ ?_ | refine OLe.elim (fun _=>?_) (fun _=>?_) | split)
theorem Xx.con {σ ε:Type} {k M A_0 c_0} {a_0:(List QU)} {a_1:Int} {b_0 b_1} {bd:Int×Bool→σ→Option (σ⊕ε)} {s0:σ} {r:σ⊕ε} (h:Xx k a_0 a_1 bd s0=some r) (hr_0:SlR ZL M (.slice A_0 a_0.length c_0) a_0): Iter Tryz.prog 144 [pt b_0 0,pt b_1 0] M (fun (M:Hp) (x:Int×Bool) (vs:List Value)=>vs=[vI x.1,.bool x.2]) bd s0 r [Blk b_0 (.cells #[.slice A_0 a_0.length c_0] 86 (0,0)),Blk b_1 (.cells #[vI a_1] 3 (0,0))] (fun M' Γ'=>Γ'=[Blk b_0 (.cells #[.slice A_0 a_0.length c_0] 86 (0,0)),Blk b_1 (.cells #[vI a_1] 3 (0,0))]):=by
 intro lp B hY
 refine cwA Tryz.func144 J Tryz.ntmps144 Tryz.results144 J h ?_
 intro w F rn S hrn E HM H
 unfold Xx at H
 refine wsQ (wlA S 1 ty86 J (W_v _ (Qm (n:=a_0.length) Tryz.underlying86 J) J (wmI J (wnQ ?_))))
 obtain ⟨o80,o80h,o80H⟩:=QO H
 refine Zr (fun ρ w'=>∃ (x79:σ⊕ε) (Mj:Hp),.inr (x79)=o80∧QV ρ []∧M.le Mj∧Ext w w'∧St w' Mj F [Blk b_0 (.cells #[.slice A_0 a_0.length c_0] 86 (0,0)),Blk b_1 (.cells #[vI a_1] 3 (0,0)),B x79]) ?_ ?_
 ·refine Yr (fun n ρ w'=>∃ (x53:Int) (x54:σ⊕ε) (Mj:Hp),XR a_0 a_1 bd n x53 x54=some o80∧QV ρ [(0,.func (.yield lp) #[] #[]),(2,pt b_1 0),(6,.slice A_0 a_0.length c_0),(7,vI (a_0.length:Int)),(8,vI x53)]∧M.le Mj∧Ext w w'∧St w' Mj F [Blk b_0 (.cells #[.slice A_0 a_0.length c_0] 86 (0,0)),Blk b_1 (.cells #[vI a_1] 3 (0,0)),B x54]) k ?_ ?_
  ·exact ⟨(0:Int),(.inl s0),M,o80h,agP J,(Hp.le_refl M),E,S.pk [1,2,0]⟩
  ·intro n
   rintro ρ w81 ⟨x53,x54,M82,H,hρ,hM83,E,S⟩
   rw [QB hρ]
   replace HM:=Hp.le_trans HM hM83
   replace hr_0:=SlR.mono hr_0 hM83
   cases n with
   | zero=>cases H
   | succ k =>
    rw [XR.eq_2] at H
    refine wsQ (wiB J J (wnQ (QH ?_)))
    rcases Q3 H with ⟨hb84,H⟩ | ⟨hb84,H⟩
    ·refine QC (cB hb84) ?_
     refine QX (tn (QH ?_))
     refine ZW ?_
     refine wsQ (wmI J ?_)
     obtain ⟨⟨p85,p86⟩,H⟩:=Z8 H
     obtain ⟨b87,o88,cs89,_,_,ee94,hb90,vs91,hR92,hc93⟩:=SlW.at' hr_0 p85 p86
     obtain rfl:vs91=_:=hR92
     refine W_v _ (QS Tryz.underlying86 ty88 (slA ee94) J p85 p86) J (W_v (.agg (Y4 (rd a_0 x53))) (Qi (S.frz hb90) ty88 J (X1 hc93 0 J) J J) J ?_)
     refine YN S cz18 ty88 J J (eE2 E ?_)
     intro b95 w96 E S
     refine waI J ?_
     refine Qu S 0 J ty88 J J [vI ((rd a_0 x53).Writer),vI ((rd a_0 x53).TS),.bool ((rd a_0 x53).Tomb),vS ((rd a_0 x53).Value)] J J J (Y4 (rd a_0 x53)) J J (eE1 E ?_)
     intro w98 E S
     refine wnQ (wsQ (W_v (.func (.yield lp) #[] #[]) (YW J) J (wmI J (wfA Tryz.underlying88 ty3 J (wlA S 0 ty3 J (wlA S 2 ty3 J (wiB J J ?_)))))))
     obtain ⟨s99,hs100,H⟩:=QO H
     obtain ⟨t101,ht102,H⟩:=QO H
     rw [toL_eq hs100] at S
     replace S:St w98 M82 F [_,_,_,_]:=S.pk [3,0,1,2]
     refine qe J (hY _ (x53,(decide ((rd a_0 x53).TS≤a_1))) _ s99 t101 HM (J) ht102) S J J ?_
     rintro _ w103 M104 _ hM105 E' S ⟨rfl,rfl⟩
     replace HM:=Hp.le_trans HM hM105
     replace hM83:=Hp.le_trans hM83 hM105
     replace E:=E.trans E'
     refine W_v _ (Xr (b:=(isNorm t101)) J) J (wmB J ?_)
     refine ZO 5 (fun ρ w'=>QV ρ [(0,.func (.yield lp) #[] #[]),(2,pt b_1 0),(6,.slice A_0 a_0.length c_0),(7,vI (a_0.length:Int)),(8,vI x53),(26,.bool ((!(isNorm t101))||(decide ((rd a_0 x53).TS≤a_1))))]∧w103=w') ?_ ?_
     ·rcases Qy (!(isNorm t101)) with hb106 | hb106
      ·refine QN (cS hb106) (wfA Tryz.underlying88 ty3 J (QN (cS hb106) (wlA S 1 ty3 J (QN (cS hb106) (wlA S 3 ty3 J (QN (cS hb106) (wiB J J (wqB hb106 J (QK ?_)))))))))
       exact ⟨⟨J,J,J,J,J,(flB hb106),trivial⟩,rfl⟩
      ·refine QZ (skF hb106) J (QZ (skF hb106) J (QZ (skF hb106) J (QZ (skF hb106) J (wpB hb106 J (QK ?_)))))
       exact ⟨⟨J,J,J,J,J,(flB hb106),trivial⟩,rfl⟩
     rintro ρ _ ⟨hρ,rfl⟩
     rw [QB hρ]
     refine wnQ ?_
     rcases Q3 H with ⟨hb107,H⟩ | ⟨hb107,H⟩
     ·refine QC (cB hb107) ?_
      refine QT ?_
      refine br (tr (tr (br (tr (?_)))))
      obtain rfl:=oi H
      have H:=o80H
      replace H:=elimL H
      obtain rfl:=oi H
      exact ⟨_,_,_,fun w1 e1=>Zg (vs:=[]) FA.nil,HM,E,S.pk [0,2,3],⟨_,J,J⟩⟩
     refine QA (cB hb107) (QX (bn (tn (QJ (wiI J J (wmI J (wnQ ?_)))))))
     exact ⟨k,Nat.lt_succ_self k,⟨(IntKind.i64.wrap (x53+(1:Int))),t101,M104,H,agP J,hM83,E,S.pk [2,3,0]⟩⟩
    refine QA (cB hb84) ?_
    refine YZ ?_
    refine tx (tx (bsm (?_)))
    refine tn ?_
    exact ⟨x54,M82,oi H,trivial,hM83,E,S.pk [0,1,2]⟩
 rintro ρ w108 ⟨x79,M109,rfl,hρ,hM110,E,S⟩
 rw [QB hρ]
 replace HM:=Hp.le_trans HM hM110
 have H:=o80H
 replace H:=elimR H
 obtain rfl:=oi H
 exact ⟨_,_,_,fun w1 e1=>Zg (vs:=[]) FA.nil,HM,E,S.pk [2,0,1],⟨_,J,J⟩⟩
def VE (a0:(List QU)) (k:Nat):(Int×Bool)→Unit→Option ((Unit)⊕(QU))
 | (y170,y171),_=>(Option.bind (α:=Bool) (if y171=true then (if 0≤y170∧y170<(a0.length:Int) then some ((!((rd a0 y170).Tomb))) else none) else some (false)) (fun x195=>(if x195=true then (if 0≤y170∧y170<(a0.length:Int) then some (.inr (rd a0 y170)) else none) else some (.inl ()))))
theorem VE.mono {a0 k}: ∀ x s,OLe (VE a0 k x s) (VE a0 (k+1) x s):=by
 intro x s
 unfold VE
 exact mo
def VC (k:Nat) (a0:(List QU)) (a1:Int):Option (QU×Bool) :=
 (Option.bind (Xw k a0 a1) (fun t10=>(Option.bind (Xx k a0 a1 (VE a0 k) ()) (fun o167o=>Sum.elim (fun _=>some ((⟨(0:Int),(0:Int),false,([]:Str)⟩:QU),false)) (fun x166=>some (x166,true)) o167o))))
theorem VC.mono {k a0 a1}: OLe (VC k a0 a1) (VC (k+1) a0 a1):=by
 unfold VC
 repeat' (first | with_reducible exact OLe.none | with_reducible exact OLe.some | with_reducible refine OLe.ite ?_ ?_ | with_reducible refine OLe.bind ?_ (fun _=>?_) | with_reducible exact VE.mono | exact Xx.mono (fun _ _=>by first | exact VE.mono _ _) | with_reducible exact Xw.mono | refine OLe.bind ?_ (fun _=>?_) | refine OLe.ite ?_ ?_ | refine OLe.elim (fun _=>?_) (fun _=>?_) | split)
theorem VC.con {k M A0 c0} {a0:(List QU)} {a1:Int} {r:QU×Bool} (h:VC k a0 a1=some r) (hr0:SlR ZL M (.slice A0 a0.length c0) a0): Con Tryz.prog 139 #[.slice A0 a0.length c0,vI a1] M [] (fun v M' Γ'=>v=.tuple #[.agg (Y4 r.1),.bool r.2]∧Γ'=[]):=by
 refine cwA Tryz.func139 J Tryz.ntmps139 Tryz.results139 J h ?_
 intro w F rn S hrn E HM H
 unfold VC at H
 refine wsQ ?_
 refine Yz S #[.slice A0 a0.length c0] J J J (eE2 E ?_)
 intro b1 w2 E S
 refine YN S cz18 ty88 J J (eE2 E ?_)
 intro b4 w5 E S
 refine YN S #[.bool false] ty4 J J (eE2 E ?_)
 intro b7 w8 E S
 refine wnQ (QH (wsQ (wlA S 2 ty86 J (wmI J ?_))))
 obtain ⟨t10,ht11,H⟩:=QO H
 refine Zy fn142 (Xw.con ht11 hr0) (Γ1:=[]) (Γ2:=[_,_,_]) S J J (by rintro _ _ _ ⟨_,_,rfl,rfl⟩;exact (QP Zs (QP Zs YE))) (eE4 E ?_)
 rintro _ w16 _ Γ' E S ⟨b12,b14,rfl,rfl⟩
 replace S:St w16 M F [_,_,_,_,_]:=S
 refine wnQ ?_
 refine ZW ?_
 obtain ⟨o167,o167h,o167H⟩:=QO H
 refine V8 (σ:=Unit) (ε:=QU) (Γi:=[Blk b12 (.cells #[.slice A0 a0.length c0] 86 (0,0)),Blk b14 (.cells #[vI a1] 3 (0,0))]) (Γr:=[]) (Sum.elim (fun _=>AE (ι:=Unit) (fun (i:Unit)=>[Blk b7 (.cells #[.bool false] 4 (0,0)),Blk b4 (.cells cz18 88 (0,0)),Blk b1 (.cells #[.slice A0 a0.length c0] 86 (0,0))]) (fun _ _=>True) (fun _ _ _ _ _=>trivial)) (fun x166=>AE (ι:=Unit) (fun (i:Unit)=>[Blk b7 (.cells #[.bool true] 4 (0,0)),B88 b4 x166]) (fun _ _=>True) (fun _ _ _ _ _=>trivial))) (fun _=>Code.ret) fn144 J (St.close_ex (φ:=(fun _ _=>True)) (hφ:=(fun _ _ _ _ _=>trivial)) () trivial (S.pk [2,3,4,0,1])) (by rintro _ _ _ rfl;rfl) (by decide) (Xx.con o167h hr0) ?_ ?_
 ·intro nn lp M168 F yy vs ss tt w hM169 henc hbd S
  obtain ⟨y170,y171⟩:=yy
  obtain rfl:=henc
  replace HM:=Hp.le_trans HM hM169
  replace hr0:=SlR.mono hr0 hM169
  replace S:St w M168 F (AE (ι:=Unit) (fun (i:Unit)=>[Blk b7 (.cells #[.bool false] 4 (0,0)),Blk b4 (.cells cz18 88 (0,0)),Blk b1 (.cells #[.slice A0 a0.length c0] 86 (0,0))]) (fun _ _=>True) (fun _ _ _ _ _=>trivial)::[]):=S
  obtain ⟨_,_,S⟩:=S.open_ex
  replace S:St w M168 F [_,_,_]:=S
  have E:=Ext.refl w
  have LE172:=Hp.le_refl M168
  have H:=hbd
  rw [VE.eq_1] at H
  refine wsQ (waI J (wnQ (QJ (waB J (QK ?_)))))
  refine Yl ⟨_,_,LE172,E,S,?_⟩
  intro w F E3 S
  have E:=Ext.refl w
  have LE173:=Hp.le_refl M168
  refine ZW ?_
  refine wsQ (wmB J (wmB J ?_))
  obtain ⟨o196,o196h,o196H⟩:=QO H
  refine ZO 7 (fun ρ w'=>∃ (x195:Bool),(x195)=o196∧QV ρ [(2,pt b1 0),(4,pt b4 0),(5,pt b7 0),(6,vI y170),(21,.bool x195)]∧Ext w w'∧St w' M168 F [Blk b7 (.cells #[.bool false] 4 (0,0)),Blk b4 (.cells cz18 88 (0,0)),Blk b1 (.cells #[.slice A0 a0.length c0] 86 (0,0))]) ?_ ?_
  ·have H:=o196h
   rcases Q3 H with ⟨hb194,H⟩ | ⟨hb194,H⟩
   ·refine QN (cS hb194) (wlA S 2 ty86 J (QN (cS hb194) (wmI J (QN (cS hb194) ?_))))
    obtain ⟨⟨p197,p198⟩,H⟩:=Z8 H
    obtain ⟨b199,o200,cs201,_,_,ee206,hb202,vs203,hR204,hc205⟩:=SlW.at' hr0 p197 p198
    obtain rfl:vs203=_:=hR204
    refine W_v _ (QS Tryz.underlying86 ty88 (slA ee206) J p197 p198) J (QN (cS hb194) (wfA Tryz.underlying88 ty4 J (QN (cS hb194) (W_v _ (Z0 (S.frz hb202) ty4 J (hc205 2 _ J)) J (QN (cS hb194) (W_v _ (Xr (b:=((rd a0 y170).Tomb)) J) J (wpB hb194 J (QK ?_))))))))
    exact ⟨(!((rd a0 y170).Tomb)),oi H,agP J,E,S.pk [0,1,2]⟩
   ·refine QZ (skT hb194) J (QZ (skT hb194) J (QZ (skT hb194) J (QZ (skT hb194) J (QZ (skT hb194) J (QZ (skT hb194) J (wqB hb194 J (QK ?_)))))))
    exact ⟨false,oi H,agP J,E,S.pk [0,1,2]⟩
  rintro ρ w207 ⟨x195,rfl,hρ,E,S⟩
  rw [QB hρ]
  have H:=o196H
  refine wnQ ?_
  rcases Q3 H with ⟨hb208,H⟩ | ⟨hb208,H⟩
  ·refine QC (cB hb208) ?_
   refine wsQ (wlA S 2 ty86 J (wmI J ?_))
   obtain ⟨⟨p209,p210⟩,H⟩:=Z8 H
   obtain ⟨b211,o212,cs213,_,_,ee218,hb214,vs215,hR216,hc217⟩:=SlW.at' hr0 p209 p210
   obtain rfl:vs215=_:=hR216
   refine W_v _ (QS Tryz.underlying86 ty88 (slA ee218) J p209 p210) J (W_v (.agg (Y4 (rd a0 y170))) (Qi (S.frz hb214) ty88 J (X1 hc217 0 J) J J) J ?_)
   refine Qu S 1 J ty88 J J [vI ((rd a0 y170).Writer),vI ((rd a0 y170).TS),.bool ((rd a0 y170).Tomb),vS ((rd a0 y170).Value)] J J J (Y4 (rd a0 y170)) J J (eE1 E ?_)
   intro w219 E S
   refine Qu S 0 J ty4 J J [.bool true] J J J #[.bool true] J J (eE1 E ?_)
   intro w220 E S
   refine wnQ ?_
   refine QT ?_
   refine br (?_)
   obtain rfl:=oi H
   exact U3 J LE173 E (St.close_ex (φ:=(fun _ _=>True)) (hφ:=(fun _ _ _ _ _=>trivial)) () trivial (S.pk [0,1]))
  refine QA (cB hb208) (QX (bn ?_))
  obtain rfl:=oi H
  exact U3 trivial LE173 E (St.close_ex (φ:=(fun _ _=>True)) (hφ:=(fun _ _ _ _ _=>trivial)) () trivial (S.pk [0,1,2]))
 intro w221 M222 Γ' hM223 E' hΨ S
 obtain rfl:Γ'=_:=hΨ
 replace E:=E.trans E'
 replace HM:=Hp.le_trans HM hM223
 have H:=o167H
 rcases o167 with _ | x166
 ·replace H:=elimL H
  refine JY ?_
  replace S:St w221 M222 F (AE (ι:=Unit) (fun (i:Unit)=>[Blk b7 (.cells #[.bool false] 4 (0,0)),Blk b4 (.cells cz18 88 (0,0)),Blk b1 (.cells #[.slice A0 a0.length c0] 86 (0,0))]) (fun _ _=>True) (fun _ _ _ _ _=>trivial)::[Blk b12 (.cells #[.slice A0 a0.length c0] 86 (0,0)),Blk b14 (.cells #[vI a1] 3 (0,0))]):=S
  obtain ⟨_,_,S⟩:=S.open_ex
  replace S:St w221 M222 F [_,_,_,_,_]:=S
  refine bn (tn (wsQ (W_v _ (xb2 [(0,1),(1,1),(2,1),(3,1)] cz18 Tryz.underlying88 ty88 J) J ?_)))
  refine Qu S 1 J ty88 J J [vI 0,vI 0,.bool false,vS ([]:Str)] J J J cz18 J J (eE1 E ?_)
  intro w224 E S
  refine Qu S 0 J ty4 J J [.bool false] J J J #[.bool false] J J (eE1 E ?_)
  intro w225 E S
  refine wnQ ?_
  refine QT ?_
  obtain rfl:=oi H
  exact ⟨_,_,_,fun w1 e1=>Zg (vs:=[.agg cz18,.bool false]) (FA.cons (rcA S e1 1 ty88 J J J) (FA.cons (⟨_,J,Vk ty4 ((S.of_eq e1).blk 0 J) J⟩) (FA.nil))),HM,E,S.pk [],⟨J,J⟩⟩
 ·replace H:=elimR H
  refine QA0 ?_
  replace S:St w221 M222 F (AE (ι:=Unit) (fun (i:Unit)=>[Blk b7 (.cells #[.bool true] 4 (0,0)),B88 b4 x166]) (fun _ _=>True) (fun _ _ _ _ _=>trivial)::[Blk b12 (.cells #[.slice A0 a0.length c0] 86 (0,0)),Blk b14 (.cells #[vI a1] 3 (0,0))]):=S
  obtain ⟨_,_,S⟩:=S.open_ex
  replace S:St w221 M222 F [_,_,_,_]:=S
  refine QT ?_
  refine br (tr (?_))
  obtain rfl:=oi H
  exact ⟨_,_,_,fun w1 e1=>Zg (vs:=[.agg (Y4 x166),.bool true]) (FA.cons (rcA S e1 1 ty88 J J J) (FA.cons (⟨_,J,Vk ty4 ((S.of_eq e1).blk 0 J) J⟩) (FA.nil))),HM,E,S.pk [],⟨J,J⟩⟩
def VD (k:Nat) (a0:(List QU)) (a1:Int):Option (Bool) :=
 (Option.bind (α:=Bool) (if (decide ((a0.length:Int)>(0:Int)))=true then (if 0≤(0:Int)∧(0:Int)<(a0.length:Int) then some ((decide ((rd a0 (0:Int)).TS>a1))) else none) else some (false)) (fun x22=>some x22))
theorem VD.mono {k a0 a1}: OLe (VD k a0 a1) (VD (k+1) a0 a1):=by
 unfold VD
 exact mo
theorem VD.con {k M A0 c0} {a0:(List QU)} {a1:Int} {r:Bool} (h:VD k a0 a1=some r) (hr0:SlR ZL M (.slice A0 a0.length c0) a0): Con Tryz.prog 140 #[.slice A0 a0.length c0,vI a1] M [] (fun v M' Γ'=>v=.bool r∧Γ'=[]):=by
 refine cwA Tryz.func140 J Tryz.ntmps140 Tryz.results140 J h ?_
 intro w F rn S hrn E HM H
 unfold VD at H
 refine wsQ (waB J (wnQ (wsQ (wmL J (W_v _ (Qm (n:=a0.length) Tryz.underlying86 J) J (wiB J J (wmB J ?_)))))))
 obtain ⟨o23,o23h,o23H⟩:=QO H
 refine ZO 7 (fun ρ w'=>∃ (x22:Bool),(x22)=o23∧QV ρ [(15,.bool x22)]∧Ext w w'∧St w' M F []) ?_ ?_
 ·have H:=o23h
  rcases Q3 H with ⟨hb21,H⟩ | ⟨hb21,H⟩
  ·refine QN (cS hb21) (wmL J (QN (cS hb21) ?_))
   obtain ⟨⟨p24,p25⟩,H⟩:=Z8 H
   obtain ⟨b26,o27,cs28,_,_,ee33,hb29,vs30,hR31,hc32⟩:=SlW.at' hr0 p24 p25
   obtain rfl:vs30=_:=hR31
   refine W_v _ (QS Tryz.underlying86 ty88 (slA ee33) J p24 p25) J (QN (cS hb21) (wfA Tryz.underlying88 ty3 J (QN (cS hb21) (W_v _ (Z0 (S.frz hb29) ty3 J (hc32 1 _ J)) J (QN (cS hb21) (wmI J (QN (cS hb21) (wiB J J (wpB hb21 J (QK ?_))))))))))
   exact ⟨(decide ((rd a0 (0:Int)).TS>a1)),oi H,agP J,E,S.pk []⟩
  ·refine QZ (skT hb21) J (QZ (skT hb21) J (QZ (skT hb21) J (QZ (skT hb21) J (QZ (skT hb21) J (QZ (skT hb21) J (wqB hb21 J (QK ?_)))))))
   exact ⟨false,oi H,agP J,E,S.pk []⟩
 rintro ρ w34 ⟨x22,rfl,hρ,E,S⟩
 rw [QB hρ]
 have H:=o23H
 refine waB J (wnQ ?_)
 refine QT ?_
 obtain rfl:=oi H
 exact ⟨_,_,_,rsA (vs:=[_]) J,HM,E,S.pk [],⟨J,J⟩⟩
def YC (k:Nat) (a0:Str) (a1:Str):Option (Int) :=
 some (Lib.compareBytes a0 a1)
theorem YC.mono {k a0 a1}: OLe (YC k a0 a1) (YC (k+1) a0 a1):=by
 unfold YC
 exact mo
theorem YC.con {k M} {a0:Str} {a1:Str} {r:Int} (h:YC k a0 a1=some r): Con Tryz.prog 75 #[vS a0,vS a1] M [] (fun v M' Γ'=>v=vI r∧Γ'=[]):=by
 refine cwA Tryz.func75 J Tryz.ntmps75 Tryz.results75 J h ?_
 intro w F rn S hrn E HM H
 unfold YC at H
 refine wsQ (waI J (wnQ (wsQ (wmS J (wmS J (W_v (vI (Lib.compareBytes a0 a1)) (x_cmp cmp95 J J) J (waI J (wnQ ?_))))))))
 refine QT ?_
 obtain rfl:=oi H
 exact ⟨_,_,_,rsA (vs:=[_]) J,HM,E,S.pk [],⟨J,J⟩⟩
def Xy (k:Nat) (a0:Str) (a1:Str):Option (Int) :=
 (Option.bind (YC k a0 a1) (fun t1=>some t1))
theorem Xy.mono {k a0 a1}: OLe (Xy k a0 a1) (Xy (k+1) a0 a1):=by
 unfold Xy
 have m1:=@YC.mono
 exact mo
theorem Xy.con {k M} {a0:Str} {a1:Str} {r:Int} (h:Xy k a0 a1=some r): Con Tryz.prog 55 #[vS a0,vS a1] M [] (fun v M' Γ'=>v=vI r∧Γ'=[]):=by
 refine cwA Tryz.func55 J Tryz.ntmps55 Tryz.results55 J h ?_
 intro w F rn S hrn E HM H
 unfold Xy at H
 refine wsQ (waI J (wnQ (wsQ (wmS J (wmS J ?_)))))
 obtain ⟨t1,ht2,H⟩:=QO H
 refine ZR fn75 (YC.con ht2) S J J flN (eE4 E ?_)
 rintro _ w3 _ Γ' E S ⟨rfl,rfl⟩
 refine waI J (wnQ ?_)
 refine QT ?_
 obtain rfl:=oi H
 exact ⟨_,_,_,rsA (vs:=[_]) J,HM,E,S.pk [],⟨J,J⟩⟩
def VN (k:Nat) (a0:Str) (a1:Str):Option (Int) :=
 (Option.bind (Xy k a0 a1) (fun t1=>some t1))
theorem VN.mono {k a0 a1}: OLe (VN k a0 a1) (VN (k+1) a0 a1):=by
 unfold VN
 have m1:=@Xy.mono
 exact mo
theorem VN.con (k:Nat) (M:Hp) (a0:Str) (a1:Str) (r:Int)  (h:VN k a0 a1=some r):Con Tryz.prog 35 #[vS a0,vS a1] M [] (fun v M' Γ'=>v=vI r∧Γ'=[]):=by
 refine cwA Tryz.func35 J Tryz.ntmps35 Tryz.results35 J h ?_
 intro w F rn S hrn E HM H
 unfold VN at H
 refine wsQ (waI J (wnQ (wsQ (wmS J (wmS J ?_)))))
 obtain ⟨t1,ht2,H⟩:=QO H
 refine ZR fn55 (Xy.con ht2) S J J flN (eE4 E ?_)
 rintro _ w3 _ Γ' E S ⟨rfl,rfl⟩
 refine waI J (wnQ ?_)
 refine QT ?_
 obtain rfl:=oi H
 exact ⟨_,_,_,rsA (vs:=[_]) J,HM,E,S.pk [],⟨J,J⟩⟩
def VG (k:Nat) (a0:Str) (a1:Str) (a2:Str):Option (Bool) :=
 some ((sbin .leq a1 a0)&&((sbin .eql a2 ([]:Str))||(sbin .lss a0 a2)))
theorem VG.mono {k a0 a1 a2}: OLe (VG k a0 a1 a2) (VG (k+1) a0 a1 a2):=by
 unfold VG
 exact mo
theorem VG.con {k M} {a0:Str} {a1:Str} {a2:Str} {r:Bool} (h:VG k a0 a1 a2=some r): Con Tryz.prog 134 #[vS a0,vS a1,vS a2] M [] (fun v M' Γ'=>v=.bool r∧Γ'=[]):=by
 refine cwA Tryz.func134 J Tryz.ntmps134 Tryz.results134 J h ?_
 intro w F rn S hrn E HM H
 unfold VG at H
 refine wsQ (waB J (wnQ (wsQ (wmS J (wmS J (W_v (.bool (sbin .leq a1 a0)) (UV J J J) J (wmB J ?_)))))))
 refine ZO 8 (fun ρ w'=>QV ρ [(18,.bool ((sbin .leq a1 a0)&&((sbin .eql a2 ([]:Str))||(sbin .lss a0 a2))))]∧w=w') ?_ ?_
 ·as_aux_lemma =>
   rcases Qy (sbin .leq a1 a0) with hb3 | hb3
   ·refine QZ (skT hb3) J (QZ (skT hb3) J (QZ (skT hb3) J (QZ (J) J (QZ (J) J (QZ (J) J (QZ (skT hb3) J (wqB hb3 J (QK ?_))))))))
    exact ⟨⟨(flB hb3),trivial⟩,rfl⟩
   ·refine QN (cS hb3) (wmS J (QN (cS hb3) (W_v (.bool (sbin .eql a2 ([]:Str))) (UV J J J) J (QN (cS hb3) (wmB J ?_)))))
    refine ZO 4 (fun ρ w'=>QV ρ [(10,.bool (sbin .leq a1 a0)),(17,.bool ((sbin .eql a2 ([]:Str))||(sbin .lss a0 a2)))]∧w=w') ?_ ?_
    ·rcases Qy (sbin .eql a2 ([]:Str)) with hb4 | hb4
     ·refine QN (cS hb4) (wmS J (QN (cS hb4) (wmS J (QN (cS hb4) (W_v (.bool (sbin .lss a0 a2)) (UV J J J) J (QN (cS hb3) (wqB hb4 J (QK ?_))))))))
      exact ⟨⟨J,(flB hb4),trivial⟩,rfl⟩
     ·refine QZ (skF hb4) J (QZ (skF hb4) J (QZ (skF hb4) J (QN (cS hb3) (wpB hb4 J (QK ?_)))))
      exact ⟨⟨J,(flB hb4),trivial⟩,rfl⟩
    rintro ρ _ ⟨hρ,rfl⟩
    rw [QB hρ]
    refine wpB hb3 J (QK ?_)
    exact ⟨⟨(flB hb3),trivial⟩,rfl⟩
 rintro ρ _ ⟨hρ,rfl⟩
 rw [QB hρ]
 refine waB J (wnQ ?_)
 refine QT ?_
 obtain rfl:=oi H
 exact ⟨_,_,_,rsA (vs:=[_]) J,HM,E,S.pk [],⟨J,J⟩⟩
def ZY (k:Nat) (a0:List QU):Option (List QU) :=
 if ([]:List QU).length+a0.length≤3518437208883 then some (([]:List QU)++a0) else none
theorem ZY.mono {k a0}: OLe (ZY k a0) (ZY (k+1) a0):=by
 unfold ZY
 exact mo
theorem ZY.con {k M A0 c0} {a0:(List QU)} {r:(List QU)} (h:ZY k a0=some r) (hr0:SlR ZL M (.slice A0 a0.length c0) a0): Con Tryz.prog 143 #[.slice A0 a0.length c0] M [] (fun v M' Γ'=>∃ (A0:Option Addr) (c0:Nat),v=.slice A0 r.length c0∧Γ'=[Rw ZL 88 A0 c0 r]):=by
 have H:=h
 unfold ZY at H
 cases A0 with
 | none =>
  obtain ⟨_,H⟩:=Z8 H
  obtain rfl:a0=[]:=SlW.none_nil hr0
  refine VU Tryz.func143 J Tryz.ntmps143 Tryz.results143 J ?_
  intro w F rn S hrn
  have E:=Ext.refl w
  have HM:=Hp.le_refl M
  refine wsQ (waL J (wnQ (QH (wsQ (wmL J (W_v (.bool true) (VY J J (run_equal_slice_nil _ _ _ _ _ _ Tryz.underlying86)) J (wnQ (QC J (wsQ (waL J ?_))))))))))
  refine wnQ ?_
  refine QT ?_
  refine tr (?_)
  obtain rfl:=oi H
  replace S:=S.row_nil ZL 88
  exact ⟨_,_,_,rsA (vs:=[_]) J,HM,E,S.pk [0],⟨none,0,J,J⟩⟩
 | some ad =>
  refine VU Tryz.func143 J Tryz.ntmps143 Tryz.results143 J ?_
  intro w F rn S hrn
  have E:=Ext.refl w
  have HM:=Hp.le_refl M
  refine wsQ (waL J (wnQ (QH (wsQ (wmL J (W_v (.bool false) (VY J J (run_equal_slice_nil _ _ _ _ _ _ Tryz.underlying86)) J (wnQ (QA J (QX (tn (QH ?_)))))))))))
  refine QJ ?_
  refine Xl S #[] Tryz.underlying86 ty88 J J #[] (by as_aux_lemma=>kernel_rfl) (by as_aux_lemma=>kernel_rfl) J (eE2 E ?_)
  intro b2 w3 E S
  replace S:=S.blk_row (r:=ZL) (l:=([]:List QU)) 0 J 0 (Nat.le_refl 0) J Cells.nil
  refine wmL J ?_
  obtain ⟨p5,H⟩:=Z8 H
  obtain ⟨src6,hs7,hC8⟩:=XJ (P:=Tryz.prog) (ρ:=ZL) (l:=a0) (SlR.world hr0 S) (by decide)
  refine X0 S 0 J J J Tryz.underlying86 (.inl Tryz.underlying86) ty88 J (by decide) (by decide) hs7 hC8 J (by omega) J (eE2 E ?_)
  intro v9 w10 E S
  obtain ⟨A11,c12,rfl,_⟩:=(S.row_read 0 J).form
  refine waL J (wnQ ?_)
  refine QT ?_
  obtain rfl:=oi H
  exact ⟨_,_,_,rsA (vs:=[_]) J,HM,E,S.pk [0],⟨A11,c12,J,J⟩⟩
def VF (a0:(List QU)) (k:Nat):(Int×Bool)→Int→Option ((Int)⊕(Unit))
 | (y164,y165),x113=>(Option.bind (α:=Int) (if (!y165)=true then some (x113) else (if 0≤y164∧y164<(a0.length:Int) then (Option.bind (α:=Int) (if (!((rd a0 y164).Tomb))=true then some ((IntKind.i64.wrap (y164+(1:Int)))) else some (y164)) (fun x207=>some (x207))) else none)) (fun x189=>some (.inl x189)))
theorem VF.mono {a0 k}: ∀ x s,OLe (VF a0 k x s) (VF a0 (k+1) x s):=by
 intro x s
 unfold VF
 exact mo
def VK (k:Nat) (a0:(List QU)) (a1:Int):Option ((List QU)) :=
 (Option.bind (Xw k a0 a1) (fun t8=>(Option.bind (Xx k a0 a1 (VF a0 k) (a0.length:Int)) (fun o161o=>Sum.elim (fun x113=>(if 0≤x113∧x113≤x113∧x113≤(a0.length:Int) then (Option.bind (ZY k (List.take x113.toNat a0)) (fun t221=>some t221)) else none)) (fun _=>none) o161o))))
theorem VK.mono {k a0 a1}: OLe (VK k a0 a1) (VK (k+1) a0 a1):=by
 unfold VK
 repeat' (first | with_reducible exact OLe.none | with_reducible exact OLe.some | with_reducible refine OLe.ite ?_ ?_ | with_reducible refine OLe.bind ?_ (fun _=>?_) | with_reducible exact VF.mono | exact Xx.mono (fun _ _=>by first | exact VF.mono _ _) | with_reducible exact Xw.mono | with_reducible exact ZY.mono | refine OLe.bind ?_ (fun _=>?_) | refine OLe.ite ?_ ?_ | refine OLe.elim (fun _=>?_) (fun _=>?_) | split)
theorem VK.con {k M A0 c0} {a0:(List QU)} {a1:Int} {r:(List QU)} (h:VK k a0 a1=some r) (hr0:SlR ZL M (.slice A0 a0.length c0) a0): Con Tryz.prog 138 #[.slice A0 a0.length c0,vI a1] M [] (fun v M' Γ'=>∃ (A0:Option Addr) (c0:Nat),v=.slice A0 r.length c0∧Γ'=[Rw ZL 88 A0 c0 r]):=by
 refine cwA Tryz.func138 J Tryz.ntmps138 Tryz.results138 J h ?_
 intro w F rn S hrn E HM H
 unfold VK at H
 refine wsQ ?_
 refine Yz S #[.slice A0 a0.length c0] J J J (eE2 E ?_)
 intro b1 w2 E S
 refine waL J (wnQ (wsQ (wlA S 0 ty86 J (W_v _ (Qm (n:=a0.length) Tryz.underlying86 J) J ?_))))
 refine YN S #[vI 0] ty3 J J (eE2 E ?_)
 intro b4 w5 E S
 refine Qu S 0 J ty3 J J [vI (a0.length:Int)] J J J #[vI (a0.length:Int)] J J (eE1 E ?_)
 intro w7 E S
 refine wnQ (QH (wsQ (wlA S 1 ty86 J (wmI J ?_))))
 obtain ⟨t8,ht9,H⟩:=QO H
 refine Zy fn142 (Xw.con ht9 hr0) (Γ1:=[]) (Γ2:=[_,_]) S J J (by rintro _ _ _ ⟨_,_,rfl,rfl⟩;exact (QP Zs (QP Zs YE))) (eE4 E ?_)
 rintro _ w14 _ Γ' E S ⟨b10,b12,rfl,rfl⟩
 replace S:St w14 M F [_,_,_,_]:=S
 refine wnQ ?_
 refine ZW ?_
 obtain ⟨o161,o161h,o161H⟩:=QO H
 refine V8 (σ:=Int) (ε:=Unit) (Γi:=[Blk b10 (.cells #[.slice A0 a0.length c0] 86 (0,0)),Blk b12 (.cells #[vI a1] 3 (0,0))]) (Γr:=[]) (Sum.elim (fun x113=>AE (ι:=Unit) (fun (i:Unit)=>[Blk b4 (.cells #[vI x113] 3 (0,0)),Blk b1 (.cells #[.slice A0 a0.length c0] 86 (0,0))]) (fun _ _=>True) (fun _ _ _ _ _=>trivial)) (fun _=>Star [])) (fun _=>Code.ret) fn144 J (St.close_ex (φ:=(fun _ _=>True)) (hφ:=(fun _ _ _ _ _=>trivial)) () trivial (S.pk [2,3,0,1])) (by rintro _ _ _ rfl;rfl) (by decide) (Xx.con o161h hr0) ?_ ?_
 ·intro nn lp M162 F yy vs x113 tt w hM163 henc hbd S
  obtain ⟨y164,y165⟩:=yy
  obtain rfl:=henc
  replace HM:=Hp.le_trans HM hM163
  replace hr0:=SlR.mono hr0 hM163
  replace S:St w M162 F (AE (ι:=Unit) (fun (i:Unit)=>[Blk b4 (.cells #[vI x113] 3 (0,0)),Blk b1 (.cells #[.slice A0 a0.length c0] 86 (0,0))]) (fun _ _=>True) (fun _ _ _ _ _=>trivial)::[]):=S
  obtain ⟨_,_,S⟩:=S.open_ex
  replace S:St w M162 F [_,_]:=S
  have E:=Ext.refl w
  have LE166:=Hp.le_refl M162
  have H:=hbd
  rw [VF.eq_1] at H
  refine wsQ (waI J (wnQ (QJ (waB J (QK ?_)))))
  refine Yl ⟨_,_,LE166,E,S,?_⟩
  intro w F E3 S
  have E:=Ext.refl w
  have LE167:=Hp.le_refl M162
  obtain ⟨o190,o190h,o190H⟩:=QO H
  refine Yc (fun ρ w'=>∃ (x189:Int),(x189)=o190∧QV ρ [(2,pt b1 0),(4,.slice none 0 0),(5,pt b4 0)]∧Ext w w'∧St w' M162 F [Blk b4 (.cells #[vI x189] 3 (0,0)),Blk b1 (.cells #[.slice A0 a0.length c0] 86 (0,0))]) ?_ ?_
  ·as_aux_lemma =>
    clear o190H
    have H:=o190h
    refine ZW ?_
    refine QH (wsQ (wmB J (W_v _ (Xr (b:=y165) J) J (wnQ ?_))))
    rcases Q3 H with ⟨hb191,H⟩ | ⟨hb191,H⟩
    ·refine QC (cB hb191) ?_
     refine YZ ?_
     refine tx (bsm (?_))
     refine tn ?_
     exact ⟨x113,oi H,agP J,E,S.pk [0,1]⟩
    refine QA (cB hb191) (QX (tn (wsQ (wmI J ?_))))
    refine Qu S 0 J ty3 J J [vI y164] J J J #[vI y164] J J (eE1 E ?_)
    intro w192 E S
    refine wnQ (wsQ (wlA S 1 ty86 J (wmI J ?_)))
    obtain ⟨⟨p193,p194⟩,H⟩:=Z8 H
    obtain ⟨b195,o196,cs197,_,_,ee202,hb198,vs199,hR200,hc201⟩:=SlW.at' hr0 p193 p194
    obtain rfl:vs199=_:=hR200
    refine W_v _ (QS Tryz.underlying86 ty88 (slA ee202) J p193 p194) J (wfA Tryz.underlying88 ty4 J (W_v _ (Z0 (S.frz hb198) ty4 J (hc201 2 _ J)) J (W_v _ (Xr (b:=((rd a0 y164).Tomb)) J) J (wnQ ?_))))
    obtain ⟨o208,o208h,o208H⟩:=QO H
    refine Yc (fun ρ w'=>∃ (x207:Int),(x207)=o208∧QV ρ [(2,pt b1 0),(4,.slice none 0 0),(5,pt b4 0)]∧Ext w w'∧St w' M162 F [Blk b4 (.cells #[vI x207] 3 (0,0)),Blk b1 (.cells #[.slice A0 a0.length c0] 86 (0,0))]) ?_ ?_
    ·clear o208H
     have H:=o208h
     rcases Q3 H with ⟨hb209,H⟩ | ⟨hb209,H⟩
     ·refine QC (cB hb209) ?_
      refine QJ (wmI J (wiI J J ?_))
      refine Qu S 0 J ty3 J J [vI (IntKind.i64.wrap (y164+(1:Int)))] J J J #[vI (IntKind.i64.wrap (y164+(1:Int)))] J J (eE1 E ?_)
      intro w210 E S
      refine wnQ ?_
      exact ⟨(IntKind.i64.wrap (y164+(1:Int))),oi H,agP J,E,S.pk [0,1]⟩
     refine QA (cB hb209) (QX (tn ?_))
     exact ⟨y164,oi H,agP J,E,S.pk [0,1]⟩
    rintro ρ w211 ⟨x207,rfl,hρ,E,S⟩
    rw [QB hρ]
    have H:=o208H
    refine bn (tn ?_)
    exact ⟨x207,oi H,agP J,E,S.pk [0,1]⟩
  rintro ρ w212 ⟨x189,rfl,hρ,E,S⟩
  rw [QB hρ]
  have H:=o190H
  obtain rfl:=oi H
  exact U3 trivial LE167 E (St.close_ex (φ:=(fun _ _=>True)) (hφ:=(fun _ _ _ _ _=>trivial)) () trivial (S.pk [0,1]))
 intro w213 M214 Γ' hM215 E' hΨ S
 obtain rfl:Γ'=_:=hΨ
 replace E:=E.trans E'
 replace HM:=Hp.le_trans HM hM215
 replace hr0:=SlR.mono hr0 hM215
 have H:=o161H
 rcases o161 with x113 | _
 ·replace H:=elimL H
  refine JY ?_
  replace S:St w213 M214 F (AE (ι:=Unit) (fun (i:Unit)=>[Blk b4 (.cells #[vI x113] 3 (0,0)),Blk b1 (.cells #[.slice A0 a0.length c0] 86 (0,0))]) (fun _ _=>True) (fun _ _ _ _ _=>trivial)::[Blk b10 (.cells #[.slice A0 a0.length c0] 86 (0,0)),Blk b12 (.cells #[vI a1] 3 (0,0))]):=S
  obtain ⟨_,_,S⟩:=S.open_ex
  replace S:St w213 M214 F [_,_,_,_]:=S
  refine bn (tn (wsQ (wlA S 1 ty86 J (wlA S 0 ty3 J (wlA S 0 ty3 J ?_)))))
  obtain ⟨⟨p216,p217,p218⟩,H⟩:=Z8 H
  obtain ⟨hs219,hx220⟩:=sl_hm hr0 p216 p217 p218
  refine W_v (.slice A0 (List.take x113.toNat a0).length x113.toNat) (hx220 Tryz.underlying86 ty88 J J J) J ?_
  obtain ⟨t221,ht222,H⟩:=QO H
  refine ZR fn143 (ZY.con ht222 hs219) S J J (by rintro _ _ _ ⟨_,_,_,rfl⟩;exact (QP (YX (fun _ _ _ _ h=>h)) YE)) (eE4 E ?_)
  rintro _ w226 _ Γ' E S ⟨A223,c224,rfl,rfl⟩
  refine waL J (wnQ ?_)
  refine QT ?_
  obtain rfl:=oi H
  exact ⟨_,_,_,rsA (vs:=[_]) J,HM,E,S.pk [0],⟨A223,c224,J,J⟩⟩
 ·cases H
def ZB (a0:(List Qp)) (a1:(List Qp)):Nat→Int→Option ((Bool)⊕(Unit))
 | 0,_=>none
 | k+1,x92=>(if (decide (x92<(a0.length:Int)))=true then (if 0≤x92∧x92<(a0.length:Int) then (if 0≤x92∧x92<(a1.length:Int) then (if (!(((rd a0 x92).Key==(rd a1 x92).Key)&&((rd a0 x92).Value==(rd a1 x92).Value)))=true then some (.inl false) else ZB a0 a1 k (IntKind.i64.wrap (x92+(1:Int)))) else none) else none) else some (.inr ()))
theorem ZB.mono {a0 a1}: ∀ {kl:Nat} {x0},OLe (ZB a0 a1 kl x0) (ZB a0 a1 (kl+1) x0):=by
 intro kl
 induction kl with
 | zero=>intros;exact OLe.none
 | succ kl ih =>
  intros
  rw [ZB.eq_2,ZB.eq_2]
  exact mo
def Zn (k:Nat) (a0:(List Qp)) (a1:(List Qp)):Option (Bool) :=
 (if ((a0.length:Int) != (a1.length:Int))=true then some false else (Option.bind (ZB a0 a1 k (0:Int)) (fun o137o=>Sum.elim (fun r'=>some r') (fun _=>some true) o137o)))
theorem Zn.mono {k a0 a1}: OLe (Zn k a0 a1) (Zn (k+1) a0 a1):=by
 unfold Zn
 have m1:=@ZB.mono
 exact mo
theorem Zn.con {k M A0 c0} {a0:(List Qp)} {A1 c1} {a1:(List Qp)} {r:Bool} (h:Zn k a0 a1=some r) (hr0:SlR Qq M (.slice A0 a0.length c0) a0) (hr1:SlR Qq M (.slice A1 a1.length c1) a1): Con Tryz.prog 84 #[.slice A0 a0.length c0,.slice A1 a1.length c1] M [] (fun v M' Γ'=>v=.bool r∧Γ'=[]):=by
 refine cwA Tryz.func84 J Tryz.ntmps84 Tryz.results84 J h ?_
 intro w F rn S hrn E HM H
 unfold Zn at H
 refine wsQ (waB J (wnQ (QH (wsQ (wmL J (W_v _ (Qm (n:=a0.length) Tryz.underlying36 J) J (wmL J (W_v _ (Qm (n:=a1.length) Tryz.underlying36 J) J (wiB J J (wnQ ?_))))))))))
 rcases Q3 H with ⟨hb1,H⟩ | ⟨hb1,H⟩
 ·refine QC (cB hb1) ?_
  refine wsQ (waB J (wnQ ?_))
  refine QT ?_
  refine tr (?_)
  obtain rfl:=oi H
  exact ⟨_,_,_,rsA (vs:=[_]) J,HM,E,S.pk [],⟨J,J⟩⟩
 refine QA (cB hb1) (QX (tn (QH (wsQ (wmL J (W_v _ (Qm (n:=a0.length) Tryz.underlying36 J) J (wmI J (wnQ ?_))))))))
 obtain ⟨o137,o137h,o137H⟩:=QO H
 refine Zr (fun ρ w'=>.inr ()=o137∧QV ρ []∧Ext w w'∧St w' M F []) ?_ ?_
 ·refine Yr (fun n ρ w'=>∃ (x92:Int),ZB a0 a1 n x92=some o137∧QV ρ [(0,.slice A0 a0.length c0),(1,.slice A1 a1.length c1),(12,vI (a0.length:Int)),(13,vI x92)]∧Ext w w'∧St w' M F []) k ?_ ?_
  ·exact ⟨(0:Int),o137h,agP J,E,S.pk []⟩
  ·intro n
   rintro ρ w138 ⟨x92,H,hρ,E,S⟩
   rw [QB hρ]
   cases n with
   | zero=>cases H
   | succ k =>
    rw [ZB.eq_2] at H
    refine wsQ (wiB J J (wnQ (QH ?_)))
    rcases Q3 H with ⟨hb139,H⟩ | ⟨hb139,H⟩
    ·refine QC (cB hb139) ?_
     refine QX (tn (QH ?_))
     refine ZW ?_
     refine wsQ (wmI J (waI J (wnQ (QH ?_))))
     refine rgA S [] [] 9 mixed J (eE1 E ?_)
     intro w160 E S D1
     refine tz0 0 J D1 (xmL J) (tz0 1 J D1 (xmI J) ?_)
     obtain ⟨⟨p162,p163⟩,H⟩:=Z8 H
     obtain ⟨b164,o165,cs166,_,_,ee171,hb167,vs168,hR169,hc170⟩:=SlW.at' hr0 p162 p163
     obtain rfl:vs168=_:=hR169
     refine tz0 2 J D1 (QS Tryz.underlying36 ty119 (slA ee171) J p162 p163) (Wt 3 J J J (.agg #[vS ((rd a0 x92).Key),vS ((rd a0 x92).Value)]) J (fun w' h'=>Qi (Yj h' hb167) ty119 J (X1 hc170 0 J) J J) D1 (tz0 4 J D1 (xmL J) (tz0 5 J D1 (xmI J) ?_)))
     obtain ⟨⟨p172,p173⟩,H⟩:=Z8 H
     obtain ⟨b174,o175,cs176,_,_,ee181,hb177,vs178,hR179,hc180⟩:=SlW.at' hr1 p172 p173
     obtain rfl:vs178=_:=hR179
     refine tz0 6 J D1 (QS Tryz.underlying36 ty119 (slA ee181) J p172 p173) (Wt 7 J J J (.agg #[vS ((rd a1 x92).Key),vS ((rd a1 x92).Value)]) J (fun w' h'=>Qi (Yj h' hb177) ty119 J (X1 hc180 0 J) J J) D1 (Wt 8 J J J (.bool (!(((rd a0 x92).Key==(rd a1 x92).Key)&&((rd a0 x92).Value==(rd a1 x92).Value)))) J (fun w' h'=>Jy (en119 _ _ _ _) J (eq119 _ ((rd a0 x92).Key) ((rd a0 x92).Value) ((rd a1 x92).Key) ((rd a1 x92).Value))) D1 ?_))
     refine Wz ?_
     refine tn ?_
     rcases Q3 H with ⟨hb182,H⟩ | ⟨hb182,H⟩
     ·refine QC (cB hb182) ?_
      refine wsQ (waB J (wnQ ?_))
      refine QT ?_
      refine br (tr (tr (br (tr (tr (?_))))))
      obtain rfl:=oi H
      have H:=o137H
      replace H:=elimL H
      obtain rfl:=oi H
      exact ⟨_,_,_,rsA (vs:=[_]) J,HM,E,S.pk [],⟨J,J⟩⟩
     refine QA (cB hb182) (QX (bn (tn (QJ (wiI J J (wmI J (wnQ ?_)))))))
     exact ⟨k,Nat.lt_succ_self k,⟨(IntKind.i64.wrap (x92+(1:Int))),H,agP J,E,S.pk []⟩⟩
    refine QA (cB hb139) ?_
    refine YZ ?_
    refine tx (tx (bsm (?_)))
    refine tn ?_
    exact ⟨oi H,trivial,E,S.pk []⟩
 rintro ρ w183 ⟨rfl,hρ,E,S⟩
 rw [QB hρ]
 have H:=o137H
 replace H:=elimR H
 refine tn ?_
 as_aux_lemma =>
 refine wsQ (waB J (wnQ ?_))
 refine QT ?_
 obtain rfl:=oi H
 exact ⟨_,_,_,rsA (vs:=[_]) J,HM,E,S.pk [],⟨J,J⟩⟩
def Xv (k:Nat) (a0:Ql) (a1:Ql):Option (Bool) :=
 (Option.bind (α:=Bool) (if (((a0.Err==a1.Err)&&(a0.Found==a1.Found))&&(sbin .eql a0.Value a1.Value))=true then (Option.bind (Zn k a0.Pairs a1.Pairs) (fun t18=>some (t18))) else some (false)) (fun x16=>some x16))
theorem Xv.mono {k a0 a1}: OLe (Xv k a0 a1) (Xv (k+1) a0 a1):=by
 unfold Xv
 have m1:=@Zn.mono
 exact mo
theorem Xv.con {k M A0_0 c0_0} {a0:Ql} {A1_0 c1_0} {a1:Ql} {r:Bool} (h:Xv k a0 a1=some r) (hr0_0:SlR Qq M (.slice A0_0 a0.Pairs.length c0_0) a0.Pairs) (hr1_0:SlR Qq M (.slice A1_0 a1.Pairs.length c1_0) a1.Pairs): Con Tryz.prog 70 #[.agg #[vI a0.Err,.bool a0.Found,vS a0.Value,.slice A0_0 a0.Pairs.length c0_0],.agg #[vI a1.Err,.bool a1.Found,vS a1.Value,.slice A1_0 a1.Pairs.length c1_0]] M [] (fun v M' Γ'=>v=.bool r∧Γ'=[]):=by
 refine cwA Tryz.func70 J Tryz.ntmps70 Tryz.results70 J h ?_
 intro w F rn S hrn E HM H
 unfold Xv at H
 refine wsQ ?_
 refine Yz S #[vI a0.Err,.bool a0.Found,vS a0.Value,.slice A0_0 a0.Pairs.length c0_0] J J J (eE2 E ?_)
 intro b1 w2 E S
 refine Yz S #[vI a1.Err,.bool a1.Found,vS a1.Value,.slice A1_0 a1.Pairs.length c1_0] J J J (eE2 E ?_)
 intro b4 w5 E S
 refine waB J (wnQ (wsQ (wfA Tryz.underlying38 ty30 J (wlA S 1 ty30 J (wfA Tryz.underlying38 ty30 J (wlA S 0 ty30 J (wiB J J (wmB J ?_))))))))
 refine ZO 6 (fun ρ w'=>QV ρ [(2,pt b1 0),(3,pt b4 0),(16,.bool ((a0.Err==a1.Err)&&(a0.Found==a1.Found)))]∧w5=w') ?_ ?_
 ·rcases Qy (a0.Err==a1.Err) with hb7 | hb7
  ·refine QZ (skT hb7) J (QZ (skT hb7) J (QZ (skT hb7) J (QZ (skT hb7) J (QZ (skT hb7) J (wqB hb7 J (QK ?_))))))
   exact ⟨⟨J,J,(flB hb7),trivial⟩,rfl⟩
  ·refine QN (cS hb7) (wfA Tryz.underlying38 ty4 J (QN (cS hb7) (wlA S 1 ty4 J (QN (cS hb7) (wfA Tryz.underlying38 ty4 J (QN (cS hb7) (wlA S 0 ty4 J (QN (cS hb7) (W_v (.bool (a0.Found==a1.Found)) (x_beq Tryz.underlying4 J J) J (wpB hb7 J (QK ?_)))))))))))
   exact ⟨⟨J,J,(flB hb7),trivial⟩,rfl⟩
 as_aux_lemma =>
 rintro ρ _ ⟨hρ,rfl⟩
 rw [QB hρ]
 refine wmB J ?_
 refine ZO 6 (fun ρ w'=>QV ρ [(2,pt b1 0),(3,pt b4 0),(23,.bool (((a0.Err==a1.Err)&&(a0.Found==a1.Found))&&(sbin .eql a0.Value a1.Value)))]∧w5=w') ?_ ?_
 ·rcases Qy ((a0.Err==a1.Err)&&(a0.Found==a1.Found)) with hb8 | hb8
  ·refine QZ (skT hb8) J (QZ (skT hb8) J (QZ (skT hb8) J (QZ (skT hb8) J (QZ (skT hb8) J (wqB hb8 J (QK ?_))))))
   exact ⟨⟨J,J,(flB hb8),trivial⟩,rfl⟩
  ·refine QN (cS hb8) (wfA Tryz.underlying38 ty9 J (QN (cS hb8) (wlA S 1 ty9 J (QN (cS hb8) (wfA Tryz.underlying38 ty9 J (QN (cS hb8) (wlA S 0 ty9 J (QN (cS hb8) (W_v (.bool (sbin .eql a0.Value a1.Value)) (UV J J J) J (wpB hb8 J (QK ?_)))))))))))
   exact ⟨⟨J,J,(flB hb8),trivial⟩,rfl⟩
 as_aux_lemma =>
 rintro ρ _ ⟨hρ,rfl⟩
 rw [QB hρ]
 refine wmB J ?_
 obtain ⟨o17,o17h,o17H⟩:=QO H
 refine ZO 6 (fun ρ w'=>∃ (x16:Bool),(x16)=o17∧QV ρ [(30,.bool x16)]∧Ext w w'∧St w' M F []) ?_ ?_
 ·have H:=o17h
  rcases Q3 H with ⟨hb15,H⟩ | ⟨hb15,H⟩
  ·refine QN (cS hb15) (wfA Tryz.underlying38 ty36 J (QN (cS hb15) (wlA S 1 ty36 J (QN (cS hb15) (wfA Tryz.underlying38 ty36 J (QN (cS hb15) (wlA S 0 ty36 J (QN (cS hb15) ?_))))))))
   obtain ⟨t18,ht19,H⟩:=QO H
   refine ZR fn84 (Zn.con ht19 hr0_0 hr1_0) S J J flN (eE4 E ?_)
   rintro _ w20 _ Γ' E S ⟨rfl,rfl⟩
   refine wpB hb15 J (QK ?_)
   exact ⟨t18,oi H,agP J,E,S.pk []⟩
  ·refine QZ (skT hb15) J (QZ (skT hb15) J (QZ (skT hb15) J (QZ (skT hb15) J (QZ (skT hb15) J (wqB hb15 J (QK ?_))))))
   exact ⟨false,oi H,agP J,E,S.pk []⟩
 rintro ρ w21 ⟨x16,rfl,hρ,E,S⟩
 rw [QB hρ]
 have H:=o17H
 refine waB J (wnQ ?_)
 refine QT ?_
 obtain rfl:=oi H
 exact ⟨_,_,_,rsA (vs:=[_]) J,HM,E,S.pk [],⟨J,J⟩⟩
def Z1 (k:Nat) (a0:List Qp):Option (List Qp) :=
 if ([]:List Qp).length+a0.length≤4398046511104 then some (([]:List Qp)++a0) else none
theorem Z1.mono {k a0}: OLe (Z1 k a0) (Z1 (k+1) a0):=by
 unfold Z1
 exact mo
theorem Z1.con {k M A0 c0} {a0:(List Qp)} {r:(List Qp)} (h:Z1 k a0=some r) (hr0:SlR Qq M (.slice A0 a0.length c0) a0): Con Tryz.prog 153 #[.slice A0 a0.length c0] M [] (fun v M' Γ'=>∃ (A0:Option Addr) (c0:Nat),v=.slice A0 r.length c0∧Γ'=[Rw Qq 119 A0 c0 r]):=by
 have H:=h
 unfold Z1 at H
 cases A0 with
 | none =>
  obtain ⟨_,H⟩:=Z8 H
  obtain rfl:a0=[]:=SlW.none_nil hr0
  refine VU Tryz.func153 J Tryz.ntmps153 Tryz.results153 J ?_
  intro w F rn S hrn
  have E:=Ext.refl w
  have HM:=Hp.le_refl M
  refine wsQ (waL J (wnQ (QH (wsQ (wmL J (W_v (.bool true) (VY J J (run_equal_slice_nil _ _ _ _ _ _ Tryz.underlying36)) J (wnQ (QC J (wsQ (waL J ?_))))))))))
  refine wnQ ?_
  refine QT ?_
  refine tr (?_)
  obtain rfl:=oi H
  replace S:=S.row_nil Qq 119
  exact ⟨_,_,_,rsA (vs:=[_]) J,HM,E,S.pk [0],⟨none,0,J,J⟩⟩
 | some ad =>
  refine VU Tryz.func153 J Tryz.ntmps153 Tryz.results153 J ?_
  intro w F rn S hrn
  have E:=Ext.refl w
  have HM:=Hp.le_refl M
  refine wsQ (waL J (wnQ (QH (wsQ (wmL J (W_v (.bool false) (VY J J (run_equal_slice_nil _ _ _ _ _ _ Tryz.underlying36)) J (wnQ (QA J (QX (tn (QH ?_)))))))))))
  refine QJ ?_
  refine Xl S #[] Tryz.underlying36 ty119 J J #[] (by as_aux_lemma=>kernel_rfl) (by as_aux_lemma=>kernel_rfl) J (eE2 E ?_)
  intro b2 w3 E S
  replace S:=S.blk_row (r:=Qq) (l:=([]:List Qp)) 0 J 0 (Nat.le_refl 0) J Cells.nil
  refine wmL J ?_
  obtain ⟨p5,H⟩:=Z8 H
  obtain ⟨src6,hs7,hC8⟩:=XJ (P:=Tryz.prog) (ρ:=Qq) (l:=a0) (SlR.world hr0 S) (by decide)
  refine X0 S 0 J J J Tryz.underlying36 (.inl Tryz.underlying36) ty119 J (by decide) (by decide) hs7 hC8 J (by omega) J (eE2 E ?_)
  intro v9 w10 E S
  obtain ⟨A11,c12,rfl,_⟩:=(S.row_read 0 J).form
  refine waL J (wnQ ?_)
  refine QT ?_
  obtain rfl:=oi H
  exact ⟨_,_,_,rsA (vs:=[_]) J,HM,E,S.pk [0],⟨A11,c12,J,J⟩⟩
def VL (k:Nat) (a0:QL):Option (QL) :=
 (Option.bind (Z1 k a0.Answer.Pairs) (fun t7=>some (⟨a0.What,a0.Task,a0.Call,⟨a0.Answer.Err,a0.Answer.Found,a0.Answer.Value,t7⟩⟩:QL)))
theorem VL.mono {k a0}: OLe (VL k a0) (VL (k+1) a0):=by
 unfold VL
 have m1:=@Z1.mono
 exact mo
theorem VL.con {k M A0_0 c0_0} {a0:QL} {r:QL} (h:VL k a0=some r) (hr0_0:SlR Qq M (.slice A0_0 a0.Answer.Pairs.length c0_0) a0.Answer.Pairs): Con Tryz.prog 152 #[.agg #[vU a0.What,vI a0.Task,vI a0.Call,vI a0.Answer.Err,.bool a0.Answer.Found,vS a0.Answer.Value,.slice A0_0 a0.Answer.Pairs.length c0_0]] M [] (fun v M' Γ'=>∃ (A0:Option Addr) (c0:Nat),v=.agg #[vU r.What,vI r.Task,vI r.Call,vI r.Answer.Err,.bool r.Answer.Found,vS r.Answer.Value,.slice A0 r.Answer.Pairs.length c0]∧Γ'=[Rw Qq 119 A0 c0 r.Answer.Pairs]):=by
 refine cwA Tryz.func152 J Tryz.ntmps152 Tryz.results152 J h ?_
 intro w F rn S hrn E HM H
 unfold VL at H
 refine wsQ ?_
 refine Yz S #[vU a0.What,vI a0.Task,vI a0.Call,vI a0.Answer.Err,.bool a0.Answer.Found,vS a0.Answer.Value,.slice A0_0 a0.Answer.Pairs.length c0_0] J J J (eE2 E ?_)
 intro b1 w2 E S
 refine YN S cz6 ty40 J J (eE2 E ?_)
 intro b4 w5 E S
 refine wnQ (wsQ (wfA Tryz.underlying40 ty38 J (wfA Tryz.underlying38 ty36 J (wlA S 1 ty36 J ?_))))
 obtain ⟨t7,ht8,H⟩:=QO H
 refine ZR fn153 (Z1.con ht8 hr0_0) S J J (by rintro _ _ _ ⟨_,_,_,rfl⟩;exact (QP (YX (fun _ _ _ _ h=>h)) YE)) (eE4 E ?_)
 rintro _ w12 _ Γ' E S ⟨A9,c10,rfl,rfl⟩
 refine wfA Tryz.underlying40 ty38 J (wfA Tryz.underlying38 ty36 J ?_)
 refine Qu S 2 J ty36 J J [.slice A9 t7.length c10] J J J #[vU a0.What,vI a0.Task,vI a0.Call,vI a0.Answer.Err,.bool a0.Answer.Found,vS a0.Answer.Value,.slice A9 t7.length c10] J J (eE1 E ?_)
 intro w13 E S
 refine wnQ (wsQ (W_v (.agg #[vU a0.What,vI a0.Task,vI a0.Call,vI a0.Answer.Err,.bool a0.Answer.Found,vS a0.Answer.Value,.slice A9 t7.length c10]) (Qi (S.blk 2 J) ty40 J (QG J) J J) J ?_))
 refine Qu S 1 J ty40 J J [vU a0.What,vI a0.Task,vI a0.Call,vI a0.Answer.Err,.bool a0.Answer.Found,vS a0.Answer.Value,.slice A9 t7.length c10] J J J #[vU a0.What,vI a0.Task,vI a0.Call,vI a0.Answer.Err,.bool a0.Answer.Found,vS a0.Answer.Value,.slice A9 t7.length c10] (by as_aux_lemma=>kernel_rfl) J (eE1 E ?_)
 intro w14 E S
 refine wnQ ?_
 refine QT ?_
 obtain rfl:=oi H
 exact ⟨_,_,_,fun w1 e1=>Zg (vs:=[.agg #[vU a0.What,vI a0.Task,vI a0.Call,vI a0.Answer.Err,.bool a0.Answer.Found,vS a0.Answer.Value,.slice A9 t7.length c10]]) (FA.cons (rcA S e1 1 ty40 J J J) (FA.nil)),HM,E,S.pk [0],⟨A9,c10,J,J⟩⟩
def X8 (k:Nat) (a0:Int):Option ((Unit)⊕(Qg)) :=
 (if ((decide (a0<(1:Int)))||(decide (a0>(6:Int))))=true then some (Sum.inl ()) else (if 0≤a0∧a0≤a0∧a0*16≤140737488355328∧a0≤9223372036854775807 then some (Sum.inr (⟨(List.replicate a0.toNat (⟨0,0⟩:YQ)),([]:List QL)⟩:Qg)) else none))
theorem X8.mono {k a0}: OLe (X8 k a0) (X8 (k+1) a0):=by
 unfold X8
 exact mo
theorem X8.con {k M} {a0:Int} {r:(Unit)⊕(Qg)} (h:X8 k a0=some r): Con Tryz.prog 68 #[vI a0] M [] (fun v M' Γ'=>(Sum.elim (fun x=>v=.tuple cz21∧Γ'=[]) (fun x=>∃ (bq1:Nat) (Aq3:Option Addr) (cq4:Nat) (Aq6:Option Addr) (cq7:Nat),v=.tuple #[pt bq1 0,vI 0]∧Γ'=[Blk bq1 (.cells #[.slice Aq3 x.tasks.length cq4,.slice Aq6 x.l.length cq7] 162 (0,0)),Rw Zu 165 Aq3 cq4 x.tasks,Rw Qs 40 Aq6 cq7 x.l])) r):=by
 refine cwA Tryz.func68 J Tryz.ntmps68 Tryz.results68 J h ?_
 intro w F rn S hrn E HM H
 unfold X8 at H
 refine wsQ (W_v (.pointer none) (Zm J) J (waI J (wnQ (QH (wsQ (wmI J (wiB J J (wmB J ?_))))))))
 refine ZO 3 (fun ρ w'=>QV ρ [(0,vI a0),(9,.bool ((decide (a0<(1:Int)))||(decide (a0>(6:Int)))))]∧w=w') ?_ ?_
 ·rcases Qy (decide (a0<(1:Int))) with hb1 | hb1
  ·refine QN (cS hb1) (wmI J (QN (cS hb1) (wiB J J (wqB hb1 J (QK ?_)))))
   exact ⟨⟨J,(flB hb1),trivial⟩,rfl⟩
  ·refine QZ (skF hb1) J (QZ (skF hb1) J (wpB hb1 J (QK ?_)))
   exact ⟨⟨J,(flB hb1),trivial⟩,rfl⟩
 rintro ρ _ ⟨hρ,rfl⟩
 rw [QB hρ]
 refine wnQ ?_
 rcases Q3 H with ⟨hb2,H⟩ | ⟨hb2,H⟩
 ·refine QC (cB hb2) ?_
  refine wsQ (W_v (.pointer none) (Zm J) J (waI J (wnQ ?_)))
  refine QT ?_
  refine tr (?_)
  obtain rfl:=oi H
  exact ⟨_,_,_,rsA (vs:=[_,_]) J,HM,E,S.pk [],⟨J,J⟩⟩
 refine QA (cB hb2) (QX (tn ?_))
 as_aux_lemma =>
 refine wsQ (wmI J ?_)
 obtain ⟨⟨p3,p4,p5,p6⟩,H⟩:=Z8 H
 refine Ja (r:=Zu) S (⟨0,0⟩:YQ) Tryz.underlying160 ty165 J (by decide) (fun _=>J) J J p3 p4 p5 p6 J (eE2 E ?_)
 intro b7 w8 E S
 refine W_v _ (xb2 [(0,1),(1,1)] #[.slice (some ⟨b7,0,none⟩) (List.replicate a0.toNat (⟨0,0⟩:YQ)).length a0.toNat,.slice none 0 0] Tryz.underlying162 ty162 J) J ?_
 refine Yz S #[.slice (some ⟨b7,0,none⟩) (List.replicate a0.toNat (⟨0,0⟩:YQ)).length a0.toNat,.slice none 0 0] J J J (eE2 E ?_)
 intro b10 w11 E S
 refine waP J (waI J (wnQ ?_))
 refine QT ?_
 obtain rfl:=oi H
 replace S:=S.row_nil Qs 40
 exact ⟨_,_,_,rsA (vs:=[_,_]) J,HM,E,S.pk [1,2,0],⟨b10,(some ⟨b7,0,none⟩),a0.toNat,none,0,J,J⟩⟩
def XB (k:Nat) (a0:QI):Option ((Unit)⊕(QW)) :=
 (Option.bind (Xq k a0) (fun t4=>(if (!t4)=true then some (Sum.inl ()) else some (Sum.inr (⟨⟨a0.Tasks,a0.Active,a0.Keys,a0.Depth,a0.TS,a0.KeyLen,a0.ValLen,a0.Fan⟩,([]:List (Y7×Int)),([]:List (Int×Int)),([]:List Xf),([]:List (Str×Qh)),(0:Int),(0:Int)⟩:QW)))))
theorem XB.mono {k a0}: OLe (XB k a0) (XB (k+1) a0):=by
 unfold XB
 have m1:=@Xq.mono
 exact mo
theorem XB.con {k M} {a0:QI} {r:(Unit)⊕(QW)} (h:XB k a0=some r): Con Tryz.prog 22 #[.agg (QF a0)] M [] (fun v M' Γ'=>(Sum.elim (fun x=>v=.tuple cz21∧Γ'=[]) (fun x=>∃ (bq1:Nat) (Aq3:Option Addr) (cq4:Nat) (Aq6:Option Addr) (cq7:Nat) (Aq9:Option Addr) (cq10:Nat) (Aq12:Option Addr) (cq13:Nat) (vsq15:List (Str×Value)),v=.tuple #[pt bq1 0,vI 0]∧Xa Qx M' x.rows vsq15∧Γ'=[B96 bq1 x Aq3 Aq6 Aq9 cq10 Aq12,XC QM (Value.int .i64) Aq3 x.names,MpI Aq6 x.many,Rw Qe 134 Aq9 cq10 x.txs,MpV Aq12 vsq15])) r):=by
 refine cwA Tryz.func22 J Tryz.ntmps22 Tryz.results22 J h ?_
 intro w F rn S hrn E HM H
 unfold XB at H
 refine wsQ ?_
 refine Yz S (QF a0) J J J (eE2 E ?_)
 intro b1 w2 E S
 refine W_v (.pointer none) (Zm J) J (waI J (wnQ (QH (wsQ (W_v (.agg (QF a0)) (Qi (S.blk 0 J) ty23 J (QG J) J J) J ?_)))))
 obtain ⟨t4,ht5,H⟩:=QO H
 refine ZR fn17 (Xq.con ht5) S J J flN (eE4 E ?_)
 rintro _ w6 _ Γ' E S ⟨rfl,rfl⟩
 refine W_v _ (Xr (b:=t4) J) J (wnQ ?_)
 rcases Q3 H with ⟨hb7,H⟩ | ⟨hb7,H⟩
 ·refine QC (cB hb7) ?_
  refine wsQ (W_v (.pointer none) (Zm J) J (waI J (wnQ ?_)))
  refine QT ?_
  refine tr (?_)
  obtain rfl:=oi H
  exact ⟨_,_,_,rsA (vs:=[_,_]) J,HM,E,S.pk [],⟨J,J⟩⟩
 refine QA (cB hb7) (QX (tn (wsQ (W_v (.agg (QF a0)) (Qi (S.blk 0 J) ty23 J (QG J) J J) J ?_))))
 refine Uv (κ:=Y7) (ν:=Int) QM (Value.int .i64) S J (eE2 E ?_)
 intro b8 w9 E S
 replace S:St w9 M F [_,_]:=S
 refine Uv (κ:=Int) (ν:=Int) (Value.int .i64) (Value.int .i64) S J (eE2 E ?_)
 intro b11 w12 E S
 replace S:St w12 M F [_,_,_]:=S
 refine Uv (κ:=Str) (ν:=Value) encS (fun v:Value=>v) S J (eE2 E ?_)
 intro b14 w15 E S
 have hm17:Xa Qx M ([]:List (Str×Qh)) ([]:List (Str×Value)):=Xa.nil
 replace S:St w15 M F [_,_,_,_]:=S
 refine W_v _ (xb2 [(0,8),(8,1),(9,1),(10,1),(11,1),(12,1),(13,1)] #[vI a0.Tasks,vI a0.Active,vI a0.Keys,vI a0.Depth,vI a0.TS,vI a0.KeyLen,vI a0.ValLen,vI a0.Fan,.map (mb (some ⟨b8,0,none⟩)),.map (mb (some ⟨b11,0,none⟩)),.slice none 0 0,.map (mb (some ⟨b14,0,none⟩)),vI 0,vI 0] Tryz.underlying96 ty96 J) J ?_
 refine Yz S #[vI a0.Tasks,vI a0.Active,vI a0.Keys,vI a0.Depth,vI a0.TS,vI a0.KeyLen,vI a0.ValLen,vI a0.Fan,.map (mb (some ⟨b8,0,none⟩)),.map (mb (some ⟨b11,0,none⟩)),.slice none 0 0,.map (mb (some ⟨b14,0,none⟩)),vI 0,vI 0] J J J (eE2 E ?_)
 intro b18 w19 E S
 refine waP J (waI J (wnQ ?_))
 refine QT ?_
 obtain rfl:=oi H
 replace S:=S.row_nil Qe 134
 exact ⟨_,_,_,rsA (vs:=[_,_]) J,HM,E,S.pk [1,4,3,0,2],⟨b18,(some ⟨b8,0,none⟩),0,(some ⟨b11,0,none⟩),0,none,0,(some ⟨b14,0,none⟩),0,([]:List (Str×Value)),J,hm17,J⟩⟩
end Go.Proofs.YtkknoimjgifhlaaGreatDoor
