import Derived.Test.YtnjbjpaiepefoaaDoorGq1B
namespace Go.Proofs.YtnjbjpaiepefoaaDoor
open Go
set_option linter.unusedVariables false
set_option linter.unusedSimpArgs false
set_option maxHeartbeats 80000000
set_option maxRecDepth 100000
def Zx (H:(List QA)) (B:Int):Nat→Int→Int→Option ((Int))
 | 0,_,_=>none
 | k+1,K,E=>(if 0≤B∧B<(H.length:Int) then (if ((decide (E<(((rd H B).Answer.Pairs).length:Int)))&&(decide (K<(9000:Int))))=true then (if 0≤B∧B<(H.length:Int) then (if 0≤E∧E<(((rd H B).Answer.Pairs).length:Int) then (if 0≤B∧B<(H.length:Int) then (if 0≤E∧E<(((rd H B).Answer.Pairs).length:Int) then Zx H B k (IntKind.i64.wrap ((IntKind.i64.wrap (K+(imin (9000:Int) (((rd ((rd H B).Answer.Pairs) E).Key).length:Int))))+(imin (9000:Int) (((rd ((rd H B).Answer.Pairs) E).Value).length:Int)))) (IntKind.i64.wrap (E+(1:Int))) else none) else none) else none) else none) else some (K)) else none)
theorem Zx.mono {E B}: ∀ {kl:Nat} {x0 H},OLe (Zx E B kl x0 H) (Zx E B (kl+1) x0 H):=by
 intro kl
 induction kl with
 | zero=>intros;exact OLe.none
 | succ kl ih =>
  intros
  rw [Zx.eq_2,Zx.eq_2];exact mo
def Zw (K:(List (List QV))) (B:Int):Nat→Int→Int→Option ((Int))
 | 0,_,_=>none
 | k+1,H,E=>(if 0≤B∧B<(K.length:Int) then (if ((decide (E<((rd K B).length:Int)))&&(decide (H<(9000:Int))))=true then (if 0≤B∧B<(K.length:Int) then (if 0≤E∧E<((rd K B).length:Int) then Zw K B k (IntKind.i64.wrap ((IntKind.i64.wrap ((IntKind.i64.wrap ((IntKind.i64.wrap (H+(5:Int)))+(imin (9000:Int) (((rd (rd K B) E).Key).length:Int))))+(imin (9000:Int) (((rd (rd K B) E).End).length:Int))))+(imin (9000:Int) (((rd (rd K B) E).Value).length:Int)))) (IntKind.i64.wrap (E+(1:Int))) else none) else none) else some (H)) else none)
theorem Zw.mono {E B}: ∀ {kl:Nat} {x0 H},OLe (Zw E B kl x0 H) (Zw E B (kl+1) x0 H):=by
 intro kl
 induction kl with
 | zero=>intros;exact OLe.none
 | succ kl ih =>
  intros
  rw [Zw.eq_2,Zw.eq_2];exact mo
def Zl (K:(List (List QV))):Nat→Int→Int→Option ((Int))
 | 0,_,_=>none
 | k+1,B,E=>(if ((decide (E<(K.length:Int)))&&(decide (B<(9000:Int))))=true then (Option.bind (Zw K E k (IntKind.i64.wrap (B+(1:Int))) (0:Int)) (fun H=>Zl K k H (IntKind.i64.wrap (E+(1:Int))))) else some (B))
theorem Zl.mono {B}: ∀ {kl:Nat} {x0 E},OLe (Zl B kl x0 E) (Zl B (kl+1) x0 E):=by
 intro kl
 induction kl with
 | zero=>intros;exact OLe.none
 | succ kl ih =>
  intros
  rw [Zl.eq_2,Zl.eq_2];have m1:=@Zw.mono;exact mo
def Zm (H:(List QA)):Nat→Int→Int→Option ((Int))
 | 0,_,_=>none
 | k+1,E,B=>(if ((decide (B<(H.length:Int)))&&(decide (E<(9000:Int))))=true then (if 0≤B∧B<(H.length:Int) then (if 0≤B∧B<(H.length:Int) then (Option.bind (Zx H B k (IntKind.i64.wrap ((IntKind.i64.wrap (E+(imin (9000:Int) (((rd H B).Answer.Value).length:Int))))+(imin (9000:Int) (((rd H B).Answer.Pairs).length:Int)))) (0:Int)) (fun K=>Zm H k K (IntKind.i64.wrap (B+(1:Int))))) else none) else none) else some (E))
theorem Zm.mono {B}: ∀ {kl:Nat} {x0 E},OLe (Zm B kl x0 E) (Zm B (kl+1) x0 E):=by
 intro kl
 induction kl with
 | zero=>intros;exact OLe.none
 | succ kl ih =>
  intros
  rw [Zm.eq_2,Zm.eq_2];have m1:=@Zx.mono;exact mo
def Xg (k:Nat) (K:(List (List QV))) (H:(List QA)):Option (Bool) :=
 (Option.bind (Zm H k (IntKind.i64.wrap ((30:Int)*(imin (1000:Int) (H.length:Int)))) (0:Int)) (fun B=>(Option.bind (Zl K k B (0:Int)) (fun E=>some (decide (E≥(9000:Int)))))))
theorem Xg.mono {k B E}: OLe (Xg k B E) (Xg (k+1) B E):=by
 unfold Xg;have m1:=@Zm.mono;have m2:=@Zl.mono;exact mo
theorem Xg.con {k M A0 c0} {V:(List (List QV))} {A1 c1} {Z:(List QA)} {r:Bool} (h:Xg k V Z=some r) (dm:SlR (rSl YM) M (.slice A0 V.length c0) V) (ap:SlR QH M (.slice A1 Z.length c1) Z): Con Tryd.prog 8 #[.slice A0 V.length c0,.slice A1 Z.length c1] M [] (fun v M' dp=>v=.bool r∧dp=[]):=by
 refine cwA Tryd.func8 J Tryd.ntmps8 Tryd.results8 J h ?_;intro w F rn S fu E HM H;unfold Xg at H;refine wsQ (waB J (wnQ (wsQ (wmL J (W_v _ (Qd (n:=Z.length) Tryd.underlying25 J) J (W_v (vI (imin (1000:Int) (Z.length:Int))) (Uc J J) J (wiI J J (waI J (wnQ (QG (QG ?_)))))))))));refine QN (waI J (wnQ ?_));obtain ⟨ax,bo,bp⟩:=QL H;refine Zr (fun W w'=>∃ (ag:Int),(ag)=ax∧QY W [(0,.slice A0 V.length c0),(5,vI ag)]∧Ext w w'∧St w' M F []) ?_ ?_
 ·refine Yt (fun n W w'=>∃ (a9:Int) (K:Int),Zm Z n a9 K=some ax∧QY W [(0,.slice A0 V.length c0),(1,.slice A1 Z.length c1),(5,vI a9),(6,vI K)]∧Ext w w'∧St w' M F []) k ?_ ?_
  ·exact ⟨(IntKind.i64.wrap ((30:Int)*(imin (1000:Int) (Z.length:Int)))),(0:Int),bo,agP J,E,S.pk []⟩
  ·intro n;rintro W dg ⟨a9,K,H,Y,E,S⟩;rw [QC Y]
   cases n with
   | zero=>cases H
   | succ k =>
    rw [Zm.eq_2] at H;refine QG (wsQ (wmI J (wmL J (W_v _ (Qd (n:=Z.length) Tryd.underlying25 J) J (wiB J J (wmB J ?_))))));refine Q4 3 (fun W w'=>QY W [(0,.slice A0 V.length c0),(1,.slice A1 Z.length c1),(5,vI a9),(6,vI K),(22,.bool ((decide (K<(Z.length:Int)))&&(decide (a9<(9000:Int)))))]∧dg=w') ?_ ?_
    ·rcases Qw (decide (K<(Z.length:Int))) with a2 | a2
     ·refine QX (skT a2) J (QX (skT a2) J (wqB a2 J (QF ?_)));exact ⟨⟨J,J,J,J,(flB a2),trivial⟩,rfl⟩
     ·refine QJ (cS a2) (wmI J (QJ (cS a2) (wiB J J (wpB a2 J (QF ?_)))));exact ⟨⟨J,J,J,J,(flB a2),trivial⟩,rfl⟩
    as_aux_lemma =>
    rintro W _ ⟨Y,rfl⟩;rw [QC Y];refine wnQ ?_;rcases Q7 H with ⟨aj,H⟩ | ⟨aj,H⟩
    ·refine QD (cB aj) ?_;refine QW (tn (QG ?_));refine Ze ?_;refine QG ?_;refine rgA S [] [] 20 mixed J (eE1 E ?_);intro e7 E S D1;refine tz0 0 J D1 (xmI J) (tz0 1 J D1 (xmL J) (tz0 2 J D1 (xmI J) ?_));obtain ⟨⟨ay,az⟩,H⟩:=Zj H;obtain ⟨e8,e9,dq,_,_,bq,bt,dr,bu,bv⟩:=SlW.at' ap ay az;obtain ⟨ea,bw,rfl⟩:=bu;obtain ⟨eb,ec,rfl,_⟩:=bw.form;refine tz0 3 J D1 (QQ Tryd.underlying25 ty55 (slA bq) J ay az) (tz0 4 J D1 (xfA Tryd.underlying55 ty34 J) (tz0 5 J D1 (xfA Tryd.underlying34 ty9 J) (tz1 6 J D1 (fun w' h'=>YG (Ys h' bt) ty9 J (bv 5 _ J)) (tz0 7 J D1 (VP Tryd.underlying9 J) (Wt 8 J J J (vI (imin (9000:Int) (((rd Z K).Answer.Value).length:Int))) J (fun w' h'=>Uc J J) D1 (tz0 9 J D1 (xiI J J) (tz0 10 J D1 (xmL J) (tz0 11 J D1 (xmI J) ?_))))))));obtain ⟨⟨b0,b1⟩,H⟩:=Zj H;obtain ⟨ed,ee,ds,_,_,bz,c2,dt,c3,c4⟩:=SlW.at' ap b0 b1;obtain ⟨ef,c5,rfl⟩:=c3;obtain ⟨eg,eh,rfl,_⟩:=c5.form;refine tz0 12 J D1 (QQ Tryd.underlying25 ty55 (slA bz) J b0 b1) (tz0 13 J D1 (xfA Tryd.underlying55 ty34 J) (tz0 14 J D1 (xfA Tryd.underlying34 ty32 J) (tz1 15 J D1 (fun w' h'=>YG (Ys h' c2) ty32 J (c4 6 _ J)) (tz0 16 J D1 (Qd (n:=((rd Z K).Answer.Pairs).length) Tryd.underlying32 J) (Wt 17 J J J (vI (imin (9000:Int) (((rd Z K).Answer.Pairs).length:Int))) J (fun w' h'=>Uc J J) D1 (tz0 18 J D1 (xiI J J) (tz0 19 J D1 (xaI J) ?_)))))));refine Wz ?_;refine tn (wsQ (waI J (wnQ ?_)));obtain ⟨b2,c6,c7⟩:=QL H;refine Zr (fun W w'=>∃ (ah:Int),(ah)=b2∧QY W [(0,.slice A0 V.length c0),(1,.slice A1 Z.length c1),(5,vI ah),(6,vI K)]∧Ext w w'∧St w' M F []) ?_ ?_
     ·refine Yt (fun n W w'=>∃ (aa:Int) (a3:Int),Zx Z K n aa a3=some b2∧QY W [(0,.slice A0 V.length c0),(1,.slice A1 Z.length c1),(5,vI aa),(6,vI K),(7,vI a3)]∧Ext w w'∧St w' M F []) k ?_ ?_
      ·exact ⟨(IntKind.i64.wrap ((IntKind.i64.wrap (a9+(imin (9000:Int) (((rd Z K).Answer.Value).length:Int))))+(imin (9000:Int) (((rd Z K).Answer.Pairs).length:Int)))),(0:Int),c6,agP J,E,S.pk []⟩
      ·intro n;rintro W dh ⟨aa,a3,H,Y,E,S⟩;rw [QC Y]
       cases n with
       | zero=>cases H
       | succ k =>
        rw [Zx.eq_2] at H;refine QG (wsQ (wmI J (wmL J (wmI J ?_))));obtain ⟨⟨b3,b4⟩,H⟩:=Zj H;obtain ⟨ei,ej,du,_,_,c8,c9,dv,ca,cb⟩:=SlW.at' ap b3 b4;obtain ⟨ek,cc,rfl⟩:=ca;obtain ⟨el,em,rfl,_⟩:=cc.form;refine W_v _ (QQ Tryd.underlying25 ty55 (slA c8) J b3 b4) J (wfA Tryd.underlying55 ty34 J (wfA Tryd.underlying34 ty32 J (W_v _ (YG (S.frz c9) ty32 J (cb 6 _ J)) J (W_v _ (Qd (n:=((rd Z K).Answer.Pairs).length) Tryd.underlying32 J) J (wiB J J (wmB J ?_))))));refine Q4 3 (fun W w'=>QY W [(0,.slice A0 V.length c0),(1,.slice A1 Z.length c1),(5,vI aa),(6,vI K),(7,vI a3),(56,.bool ((decide (a3<(((rd Z K).Answer.Pairs).length:Int)))&&(decide (aa<(9000:Int)))))]∧dh=w') ?_ ?_
        ·rcases Qw (decide (a3<(((rd Z K).Answer.Pairs).length:Int))) with a4 | a4
         ·refine QX (skT a4) J (QX (skT a4) J (wqB a4 J (QF ?_)));exact ⟨⟨J,J,J,J,J,(flB a4),trivial⟩,rfl⟩
         ·refine QJ (cS a4) (wmI J (QJ (cS a4) (wiB J J (wpB a4 J (QF ?_)))));exact ⟨⟨J,J,J,J,J,(flB a4),trivial⟩,rfl⟩
        as_aux_lemma =>
        rintro W _ ⟨Y,rfl⟩;rw [QC Y];refine wnQ ?_;rcases Q7 H with ⟨ak,H⟩ | ⟨ak,H⟩
        ·refine QD (cB ak) ?_;refine QW (tn (QG ?_));refine Ze ?_;refine rgA S [] [] 28 mixed J (eE1 E ?_);intro en E S D2;refine tz0 0 J D2 (xmI J) (tz0 1 J D2 (xmL J) (tz0 2 J D2 (xmI J) ?_));obtain ⟨⟨b5,b6⟩,H⟩:=Zj H;obtain ⟨eo,ep,dw,_,_,cd,ce,dx,cf,cg⟩:=SlW.at' ap b5 b6;obtain ⟨es,aq,rfl⟩:=cf;obtain ⟨et,eu,rfl,_⟩:=aq.form;have bl:=aq;refine tz0 3 J D2 (QQ Tryd.underlying25 ty55 (slA cd) J b5 b6) (tz0 4 J D2 (xfA Tryd.underlying55 ty34 J) (tz0 5 J D2 (xfA Tryd.underlying34 ty32 J) (tz1 6 J D2 (fun w' h'=>YG (Ys h' ce) ty32 J (cg 6 _ J)) (tz0 7 J D2 (xmI J) ?_))));obtain ⟨⟨b7,b8⟩,H⟩:=Zj H;obtain ⟨ew,ey,dy,_,_,ch,ci,cj,cm,cn⟩:=SlW.at' bl b7 b8;obtain rfl:cj=_:=cm;refine tz0 8 J D2 (QQ Tryd.underlying32 ty72 (slA ch) J b7 b8) (tz0 9 J D2 (xfA Tryd.underlying72 ty9 J) (tz1 10 J D2 (fun w' h'=>YG (Ys h' ci) ty9 J (cn 0 _ J)) (tz0 11 J D2 (VP Tryd.underlying9 J) (Wt 12 J J J (vI (imin (9000:Int) (((rd ((rd Z K).Answer.Pairs) a3).Key).length:Int))) J (fun w' h'=>Uc J J) D2 (tz0 13 J D2 (xiI J J) (tz0 14 J D2 (xmL J) (tz0 15 J D2 (xmI J) ?_)))))));obtain ⟨⟨b9,ba⟩,H⟩:=Zj H;obtain ⟨ez,f1,dz,_,_,co,cp,e0,cq,cr⟩:=SlW.at' ap b9 ba;obtain ⟨f2,ar,rfl⟩:=cq;obtain ⟨f3,f4,rfl,_⟩:=ar.form;have bm:=ar;refine tz0 16 J D2 (QQ Tryd.underlying25 ty55 (slA co) J b9 ba) (tz0 17 J D2 (xfA Tryd.underlying55 ty34 J) (tz0 18 J D2 (xfA Tryd.underlying34 ty32 J) (tz1 19 J D2 (fun w' h'=>YG (Ys h' cp) ty32 J (cr 6 _ J)) (tz0 20 J D2 (xmI J) ?_))));obtain ⟨⟨bb,bc⟩,H⟩:=Zj H;obtain ⟨f5,f6,e1,_,_,ct,cu,cv,cw,cx⟩:=SlW.at' bm bb bc;obtain rfl:cv=_:=cw;refine tz0 21 J D2 (QQ Tryd.underlying32 ty72 (slA ct) J bb bc) (tz0 22 J D2 (xfA Tryd.underlying72 ty9 J) (tz1 23 J D2 (fun w' h'=>YG (Ys h' cu) ty9 J (cx 1 _ J)) (tz0 24 J D2 (VP Tryd.underlying9 J) (Wt 25 J J J (vI (imin (9000:Int) (((rd ((rd Z K).Answer.Pairs) a3).Value).length:Int))) J (fun w' h'=>Uc J J) D2 (tz0 26 J D2 (xiI J J) (tz0 27 J D2 (xaI J) ?_))))));refine Wz ?_;refine bn (tn (QN (wmI J (wiI J J (waI J (wnQ ?_))))));exact ⟨k,Nat.lt_succ_self k,⟨(IntKind.i64.wrap ((IntKind.i64.wrap (aa+(imin (9000:Int) (((rd ((rd Z K).Answer.Pairs) a3).Key).length:Int))))+(imin (9000:Int) (((rd ((rd Z K).Answer.Pairs) a3).Value).length:Int)))),(IntKind.i64.wrap (a3+(1:Int))),H,agP J,E,S.pk []⟩⟩
        refine QB (cB ak) ?_;refine YV ?_;refine tx (tx (bsm (?_)));refine tn ?_;exact ⟨aa,oi H,agP J,E,S.pk []⟩
     rintro W f7 ⟨ah,rfl,Y,E,S⟩;rw [QC Y];have H:=c7;refine bn (tn (QN (wmI J (wiI J J (waI J (wnQ ?_))))));exact ⟨k,Nat.lt_succ_self k,⟨ah,(IntKind.i64.wrap (K+(1:Int))),H,agP J,E,S.pk []⟩⟩
    refine QB (cB aj) ?_;refine YV ?_;refine tx (tx (bsm (?_)));refine tn ?_;exact ⟨a9,oi H,agP J,E,S.pk []⟩
 rintro W f8 ⟨ag,rfl,Y,E,S⟩;rw [QC Y];have H:=bp;refine tn ?_
 as_aux_lemma =>
 refine QG (wsQ (waI J (wnQ ?_)));obtain ⟨bd,cy,cz⟩:=QL H;refine Zr (fun W w'=>∃ (ao:Int),(ao)=bd∧QY W [(5,vI ao)]∧Ext w w'∧St w' M F []) ?_ ?_
 ·refine Yt (fun n W w'=>∃ (ab:Int) (B:Int),Zl V n ab B=some bd∧QY W [(0,.slice A0 V.length c0),(5,vI ab),(8,vI B)]∧Ext w w'∧St w' M F []) k ?_ ?_
  ·exact ⟨ag,(0:Int),cy,agP J,E,S.pk []⟩
  ·intro n;rintro W dj ⟨ab,B,H,Y,E,S⟩;rw [QC Y]
   cases n with
   | zero=>cases H
   | succ k =>
    rw [Zl.eq_2] at H;refine QG (wsQ (wmI J (wmL J (W_v _ (Qd (n:=V.length) Tryd.underlying24 J) J (wiB J J (wmB J ?_))))));refine Q4 3 (fun W w'=>QY W [(0,.slice A0 V.length c0),(5,vI ab),(8,vI B),(93,.bool ((decide (B<(V.length:Int)))&&(decide (ab<(9000:Int)))))]∧dj=w') ?_ ?_
    ·rcases Qw (decide (B<(V.length:Int))) with a5 | a5
     ·refine QX (skT a5) J (QX (skT a5) J (wqB a5 J (QF ?_)));exact ⟨⟨J,J,J,(flB a5),trivial⟩,rfl⟩
     ·refine QJ (cS a5) (wmI J (QJ (cS a5) (wiB J J (wpB a5 J (QF ?_)))));exact ⟨⟨J,J,J,(flB a5),trivial⟩,rfl⟩
    as_aux_lemma =>
    rintro W _ ⟨Y,rfl⟩;rw [QC Y];refine wnQ ?_;rcases Q7 H with ⟨am,H⟩ | ⟨am,H⟩
    ·refine QD (cB am) ?_;refine QW (tn (QG ?_));refine Ze ?_;refine wsQ (wmI J (wiI J J (waI J (wnQ (wsQ (waI J (wnQ ?_)))))));obtain ⟨be,d0,d1⟩:=QL H;refine Zr (fun W w'=>∃ (ai:Int),(ai)=be∧QY W [(0,.slice A0 V.length c0),(5,vI ai),(8,vI B)]∧Ext w w'∧St w' M F []) ?_ ?_
     ·refine Yt (fun n W w'=>∃ (ac:Int) (U:Int),Zw V B n ac U=some be∧QY W [(0,.slice A0 V.length c0),(5,vI ac),(8,vI B),(9,vI U)]∧Ext w w'∧St w' M F []) k ?_ ?_
      ·exact ⟨(IntKind.i64.wrap (ab+(1:Int))),(0:Int),d0,agP J,E,S.pk []⟩
      ·intro n;rintro W dk ⟨ac,U,H,Y,E,S⟩;rw [QC Y]
       cases n with
       | zero=>cases H
       | succ k =>
        rw [Zw.eq_2] at H;refine QG (wsQ (wmI J (wmL J (wmI J ?_))));obtain ⟨⟨bf,bg⟩,H⟩:=Zj H;obtain ⟨f9,fa,e2,_,_,d2,d3,e3,d4,d5⟩:=SlW.at' dm bf bg;obtain ⟨fb,d6,rfl⟩:=d4;obtain ⟨fc,fd,rfl,_⟩:=d6.form;refine W_v _ (QQ Tryd.underlying24 ty44 (slA d2) J bf bg) J (W_v _ (YG (S.frz d3) ty44 J (d5 0 _ J)) J (W_v _ (Qd (n:=(rd V B).length) Tryd.underlying44 J) J (wiB J J (wmB J ?_))));refine Q4 3 (fun W w'=>QY W [(0,.slice A0 V.length c0),(5,vI ac),(8,vI B),(9,vI U),(108,.bool ((decide (U<((rd V B).length:Int)))&&(decide (ac<(9000:Int)))))]∧dk=w') ?_ ?_
        ·rcases Qw (decide (U<((rd V B).length:Int))) with a6 | a6
         ·refine QX (skT a6) J (QX (skT a6) J (wqB a6 J (QF ?_)));exact ⟨⟨J,J,J,J,(flB a6),trivial⟩,rfl⟩
         ·refine QJ (cS a6) (wmI J (QJ (cS a6) (wiB J J (wpB a6 J (QF ?_)))));exact ⟨⟨J,J,J,J,(flB a6),trivial⟩,rfl⟩
        as_aux_lemma =>
        rintro W _ ⟨Y,rfl⟩;rw [QC Y];refine wnQ ?_;rcases Q7 H with ⟨an,H⟩ | ⟨an,H⟩
        ·refine QD (cB an) ?_;refine QW (tn (QG ?_));refine Ze ?_;refine wsQ (wmL J (wmI J ?_));obtain ⟨⟨bh,bi⟩,H⟩:=Zj H;obtain ⟨fe,ff,e4,_,_,d7,d8,e5,d9,da⟩:=SlW.at' dm bh bi;obtain ⟨fg,au,rfl⟩:=d9;obtain ⟨fh,fi,rfl,_⟩:=au.form;refine W_v _ (QQ Tryd.underlying24 ty44 (slA d7) J bh bi) J (W_v _ (YG (S.frz d8) ty44 J (da 0 _ J)) J (wmI J ?_));obtain ⟨⟨bj,bk⟩,H⟩:=Zj H;obtain ⟨fj,fk,e6,_,_,db,dc,dd,de,df⟩:=SlW.at' au bj bk;obtain rfl:dd=_:=de;refine W_v _ (QQ Tryd.underlying44 ty47 (slA db) J bj bk) J (W_v (.agg (ZA (rd (rd V B) U))) (Ql (S.frz dc) ty47 J (X1 df 0 J) J J) J ?_);refine YN S cz6 ty47 J J (eE2 E ?_);intro fl fm E S;refine Qu S 0 J ty47 J J [vU ((rd (rd V B) U).Kind),vI ((rd (rd V B) U).Tx),vS ((rd (rd V B) U).Key),vS ((rd (rd V B) U).End),vS ((rd (rd V B) U).Value),vI ((rd (rd V B) U).Limit),vU ((rd (rd V B) U).Engine)] J J J (ZA (rd (rd V B) U)) (by as_aux_lemma=>kernel_rfl) J (eE1 E ?_);intro fo E S;refine wnQ (QN (wmI J (wiI J J (wfA Tryd.underlying47 ty9 J (wlA S 0 ty9 J (W_v _ (VP Tryd.underlying9 J) J (W_v (vI (imin (9000:Int) (((rd (rd V B) U).Key).length:Int))) (Uc J J) J (wiI J J (wfA Tryd.underlying47 ty9 J (wlA S 0 ty9 J (W_v _ (VP Tryd.underlying9 J) J (W_v (vI (imin (9000:Int) (((rd (rd V B) U).End).length:Int))) (Uc J J) J (wiI J J (wfA Tryd.underlying47 ty9 J ?_))))))))))))));refine wlA S 0 ty9 J (W_v _ (VP Tryd.underlying9 J) J (W_v (vI (imin (9000:Int) (((rd (rd V B) U).Value).length:Int))) (Uc J J) J (wiI J J (waI J (QF (bn (tn (QN (wmI J (wiI J J (waI J (wnQ ?_))))))))))));exact ⟨k,Nat.lt_succ_self k,⟨(IntKind.i64.wrap ((IntKind.i64.wrap ((IntKind.i64.wrap ((IntKind.i64.wrap (ac+(5:Int)))+(imin (9000:Int) (((rd (rd V B) U).Key).length:Int))))+(imin (9000:Int) (((rd (rd V B) U).End).length:Int))))+(imin (9000:Int) (((rd (rd V B) U).Value).length:Int)))),(IntKind.i64.wrap (U+(1:Int))),H,agP J,E,S.pk []⟩⟩
        refine QB (cB an) ?_;refine YV ?_;refine tx (tx (bsm (?_)));refine tn ?_;exact ⟨ac,oi H,agP J,E,S.pk []⟩
     rintro W fp ⟨ai,rfl,Y,E,S⟩;rw [QC Y];have H:=d1;refine bn (tn (QN (wmI J (wiI J J (waI J (wnQ ?_))))));exact ⟨k,Nat.lt_succ_self k,⟨ai,(IntKind.i64.wrap (B+(1:Int))),H,agP J,E,S.pk []⟩⟩
    refine QB (cB am) ?_;refine YV ?_;refine tx (tx (bsm (?_)));refine tn ?_;exact ⟨ab,oi H,agP J,E,S.pk []⟩
 rintro W fq ⟨ao,rfl,Y,E,S⟩;rw [QC Y];have H:=cz;refine tn ?_
 as_aux_lemma =>
 refine wsQ (wmI J (wiB J J (waB J (wnQ ?_))));refine QS ?_;obtain rfl:=oi H;exact ⟨_,_,_,rsA (vs:=[_]) J,HM,E,S.pk [],⟨J,J⟩⟩
def VG (E:Qa):Nat→Int→Option ((Bool)⊕(Unit))
 | 0,_=>none
 | k+1,B=>(if (decide (B<(8:Int)))=true then (Option.bind (α:=List VS) (some ([(⟨(E.Tasks),(1:Int),(6:Int)⟩:VS),(⟨(E.Active),(1:Int),(8:Int)⟩:VS),(⟨(E.Keys),(1:Int),(64:Int)⟩:VS),(⟨(E.Depth),(2:Int),(8:Int)⟩:VS),(⟨(E.TS),(1:Int),(1048576:Int)⟩:VS),(⟨(E.KeyLen),(1:Int),(64:Int)⟩:VS),(⟨(E.ValLen),(0:Int),(256:Int)⟩:VS),(⟨(E.Fan),(3:Int),(8:Int)⟩:VS)]:List VS)) (fun H=>(if 0≤B∧B<(8:Int) then (if ((decide ((rd H B).n<(rd H B).low))||(decide ((rd H B).n>(rd H B).high)))=true then some (.inl false) else VG E k (IntKind.i64.wrap (B+(1:Int)))) else none))) else some (.inr ()))
theorem VG.mono {B}: ∀ {kl:Nat} {x0},OLe (VG B kl x0) (VG B (kl+1) x0):=by
 intro kl
 induction kl with
 | zero=>intros;exact OLe.none
 | succ kl ih =>
  intros
  rw [VG.eq_2,VG.eq_2];exact mo
def VZ (k:Nat) (E:Qa):Option (Bool) :=
 (Option.bind (VG E k (0:Int)) (fun B=>Sum.elim (fun r'=>some r') (fun _=>some true) B))
theorem VZ.mono {k B}: OLe (VZ k B) (VZ (k+1) B):=by
 unfold VZ;have m1:=@VG.mono;exact mo
theorem VZ.con {k M} {B:Qa} {r:Bool} (h:VZ k B=some r): Con Tryd.prog 45 #[.agg (QR B)] M [] (fun v M' a7=>v=.bool r∧a7=[]):=by
 refine cwA Tryd.func45 J Tryd.ntmps45 Tryd.results45 J h ?_;intro w F rn S ac E HM H;unfold VZ at H;refine wsQ ?_;refine Y5 S (QR B) J J J (eE2 E ?_);intro b1 w2 E S;refine waB J (wnQ (QG (wsQ (wfA Tryd.underlying23 ty3 J (wlA S 0 ty3 J (W_v _ (xb2 [(0,1),(1,1),(2,1)] #[vI (B.Tasks),vI 1,vI 6] Tryd.underlying129 ty129 J) J (wfA Tryd.underlying23 ty3 J (wlA S 0 ty3 J (W_v _ (xb2 [(0,1),(1,1),(2,1)] #[vI (B.Active),vI 1,vI 8] Tryd.underlying129 ty129 J) J (wfA Tryd.underlying23 ty3 J (wlA S 0 ty3 J (W_v _ (xb2 [(0,1),(1,1),(2,1)] #[vI (B.Keys),vI 1,vI 64] Tryd.underlying129 ty129 J) J (wfA Tryd.underlying23 ty3 J ?_)))))))))))));refine wlA S 0 ty3 J (W_v _ (xb2 [(0,1),(1,1),(2,1)] #[vI (B.Depth),vI 2,vI 8] Tryd.underlying129 ty129 J) J (wfA Tryd.underlying23 ty3 J (wlA S 0 ty3 J (W_v _ (xb2 [(0,1),(1,1),(2,1)] #[vI (B.TS),vI 1,vI 1048576] Tryd.underlying129 ty129 J) J (wfA Tryd.underlying23 ty3 J (wlA S 0 ty3 J (W_v _ (xb2 [(0,1),(1,1),(2,1)] #[vI (B.KeyLen),vI 1,vI 64] Tryd.underlying129 ty129 J) J (wfA Tryd.underlying23 ty3 J (wlA S 0 ty3 J (W_v _ (xb2 [(0,1),(1,1),(2,1)] #[vI (B.ValLen),vI 0,vI 256] Tryd.underlying129 ty129 J) J (wfA Tryd.underlying23 ty3 J (wlA S 0 ty3 J (W_v _ (xb2 [(0,1),(1,1),(2,1)] #[vI (B.Fan),vI 3,vI 8] Tryd.underlying129 ty129 J) J (W_v (.agg #[vI (B.Tasks),vI 1,vI 6,vI (B.Active),vI 1,vI 8,vI (B.Keys),vI 1,vI 64,vI (B.Depth),vI 2,vI 8,vI (B.TS),vI 1,vI 1048576,vI (B.KeyLen),vI 1,vI 64,vI (B.ValLen),vI 0,vI 256,vI (B.Fan),vI 3,vI 8]) (qo #[vI (B.Tasks),vI 1,vI 6,vI (B.Active),vI 1,vI 8,vI (B.Keys),vI 1,vI 64,vI (B.Depth),vI 2,vI 8,vI (B.TS),vI 1,vI 1048576,vI (B.KeyLen),vI 1,vI 64,vI (B.ValLen),vI 0,vI 256,vI (B.Fan),vI 3,vI 8] Tryd.underlying130 ty130 ty129 J (by kernel_rfl)) J (wmI J ?_)))))))))))))));refine wnQ ?_;obtain ⟨a4,a6,a3⟩:=QL H;refine Zr (fun W w'=>.inr ()=a4∧QY W []∧Ext w w'∧St w' M F []) ?_ ?_
 ·refine Yt (fun n W w'=>∃ (U:Int),VG B n U=some a4∧QY W [(29,.agg #[vI (B.Tasks),vI 1,vI 6,vI (B.Active),vI 1,vI 8,vI (B.Keys),vI 1,vI 64,vI (B.Depth),vI 2,vI 8,vI (B.TS),vI 1,vI 1048576,vI (B.KeyLen),vI 1,vI 64,vI (B.ValLen),vI 0,vI 256,vI (B.Fan),vI 3,vI 8]),(30,vI U)]∧Ext w w'∧St w' M F []) k ?_ ?_
  ·exact ⟨(0:Int),a6,agP J,E,S.pk []⟩
  ·intro n;rintro W ad ⟨U,H,Y,E,S⟩;rw [QC Y]
   cases n with
   | zero=>cases H
   | succ k =>
    rw [VG.eq_2] at H;refine wsQ (wiB J J (wnQ (QG ?_)));rcases Q7 H with ⟨Z,H⟩ | ⟨Z,H⟩
    ·refine QD (cB Z) ?_;refine QW (tn (QG ?_));refine Ze ?_;refine wsQ ?_;obtain ⟨V,a1,H⟩:=QL H;replace a1:=oi a1;obtain ⟨⟨a5,a9⟩,H⟩:=Zj H;refine W_v (.agg (Uz (rd V U))) ((by rw [← a1];exact qn Tryd.underlying130 ty129 rfl rfl a5 a9 (by obtain ⟨q,hq⟩:=Int.eq_ofNat_of_zero_le a5;have h9:q=0∨q=1∨q=2∨q=3∨q=4∨q=5∨q=6∨q=7:=(by omega);rcases h9 with rfl | rfl | rfl | rfl | rfl | rfl | rfl | rfl<;>(rw [hq]<;>rfl)))) rfl ?_;refine YN S #[vI 0,vI 0,vI 0] ty129 J J (eE2 E ?_);intro ae af E S;refine Qu S 0 J ty129 J J [vI ((rd V U).n),vI ((rd V U).low),vI ((rd V U).high)] J J J (Uz (rd V U)) J J (eE1 E ?_);intro aa E S;refine wnQ (wsQ (wfA Tryd.underlying129 ty3 J (wlA S 0 ty3 J (wfA Tryd.underlying129 ty3 J (wlA S 0 ty3 J (wiB J J (wmB J ?_)))))));refine Q4 6 (fun W w'=>QY W [(29,.agg #[vI (B.Tasks),vI 1,vI 6,vI (B.Active),vI 1,vI 8,vI (B.Keys),vI 1,vI 64,vI (B.Depth),vI 2,vI 8,vI (B.TS),vI 1,vI 1048576,vI (B.KeyLen),vI 1,vI 64,vI (B.ValLen),vI 0,vI 256,vI (B.Fan),vI 3,vI 8]),(30,vI U),(44,.bool ((decide ((rd V U).n<(rd V U).low))||(decide ((rd V U).n>(rd V U).high))))]∧aa=w') ?_ ?_
     ·rcases Qw (decide ((rd V U).n<(rd V U).low)) with K | K
      ·refine QJ (cS K) (wfA Tryd.underlying129 ty3 J (QJ (cS K) (wlA S 0 ty3 J (QJ (cS K) (wfA Tryd.underlying129 ty3 J (QJ (cS K) (wlA S 0 ty3 J (QJ (cS K) (wiB J J (wqB K J (QF ?_)))))))))));exact ⟨⟨J,J,(flB K),trivial⟩,rfl⟩
      ·refine QX (skF K) J (QX (skF K) J (QX (skF K) J (QX (skF K) J (QX (skF K) J (wpB K J (QF ?_))))));exact ⟨⟨J,J,(flB K),trivial⟩,rfl⟩
     rintro W _ ⟨Y,rfl⟩;rw [QC Y];refine wnQ ?_;rcases Q7 H with ⟨a2,H⟩ | ⟨a2,H⟩
     ·refine QD (cB a2) ?_;refine wsQ (waB J (wnQ ?_));refine QS ?_;refine br (tr (tr (br (tr (tr (?_))))));obtain rfl:=oi H;have H:=a3;replace H:=elimL H;obtain rfl:=oi H;exact ⟨_,_,_,rsA (vs:=[_]) J,HM,E,S.pk [],⟨J,J⟩⟩
     refine QB (cB a2) (QW (bn (tn (QN (wiI J J (wmI J (wnQ ?_)))))));exact ⟨k,Nat.lt_succ_self k,⟨(IntKind.i64.wrap (U+(1:Int))),H,agP J,E,S.pk []⟩⟩
    refine QB (cB Z) ?_;refine YV ?_;refine tx (tx (bsm (?_)));refine tn ?_;exact ⟨oi H,trivial,E,S.pk []⟩
 rintro W ag ⟨rfl,Y,E,S⟩;rw [QC Y];have H:=a3;replace H:=elimR H;refine tn ?_
 as_aux_lemma =>
 refine wsQ (waB J (wnQ ?_));refine QS ?_;obtain rfl:=oi H;exact ⟨_,_,_,rsA (vs:=[_]) J,HM,E,S.pk [],⟨J,J⟩⟩
def VB (k:Nat) (B:(List QV)):Option (Bool) :=
 some (decide ((B.length:Int)>(64:Int)))
theorem VB.mono {k B}: OLe (VB k B) (VB (k+1) B):=by
 unfold VB;exact mo
theorem VB.con {k M K U} {B:(List QV)} {r:Bool} (h:VB k B=some r) (Y:SlR YM M (.slice K B.length U) B): Con Tryd.prog 47 #[.slice K B.length U] M [] (fun v M' V=>v=.bool r∧V=[]):=by
 refine cwA Tryd.func47 J Tryd.ntmps47 Tryd.results47 J h ?_;intro w F rn S Z E W H;unfold VB at H;refine wsQ (waB J (wnQ (wsQ (wmL J (W_v _ (Qd (n:=B.length) Tryd.underlying44 J) J (wiB J J (waB J (wnQ ?_))))))));refine QS ?_;obtain rfl:=oi H;exact ⟨_,_,_,rsA (vs:=[_]) J,W,E,S.pk [],⟨J,J⟩⟩
def Qz (E:(List (List QV))):Nat→Int→Option ((Int)⊕(Unit))
 | 0,_=>none
 | k+1,B=>(if (decide (B<(E.length:Int)))=true then (if 0≤B∧B<(E.length:Int) then (Option.bind (VB k (rd E B)) (fun H=>(if H=true then some (.inl B) else Qz E k (IntKind.i64.wrap (B+(1:Int)))))) else none) else some (.inr ()))
theorem Qz.mono {B}: ∀ {kl:Nat} {x0},OLe (Qz B kl x0) (Qz B (kl+1) x0):=by
 intro kl
 induction kl with
 | zero=>intros;exact OLe.none
 | succ kl ih =>
  intros
  rw [Qz.eq_2,Qz.eq_2];have m1:=@VB.mono;exact mo
def ZS (k:Nat) (E:(List (List QV))):Option (Int) :=
 (Option.bind (Qz E k (0:Int)) (fun B=>Sum.elim (fun r'=>some r') (fun _=>some (-1:Int)) B))
theorem ZS.mono {k B}: OLe (ZS k B) (ZS (k+1) B):=by
 unfold ZS;have m1:=@Qz.mono;exact mo
theorem ZS.con {k M A0 c0} {B:(List (List QV))} {r:Int} (h:ZS k B=some r) (ae:SlR (rSl YM) M (.slice A0 B.length c0) B): Con Tryd.prog 65 #[.slice A0 B.length c0,.func (.func 47) #[] #[]] M [] (fun v M' a2=>v=vI r∧a2=[]):=by
 refine cwA Tryd.func65 J Tryd.ntmps65 Tryd.results65 J h ?_;intro w F rn S aj E HM H;unfold ZS at H;refine wsQ (waI J (wnQ (QG (wsQ (wmL J (W_v _ (Qd (n:=B.length) Tryd.underlying24 J) J (wmI J (wnQ ?_))))))));obtain ⟨a3,a8,W⟩:=QL H;refine Zr (fun Y w'=>.inr ()=a3∧QY Y []∧Ext w w'∧St w' M F []) ?_ ?_
 ·refine Yt (fun n Y w'=>∃ (V:Int),Qz B n V=some a3∧QY Y [(0,.slice A0 B.length c0),(1,.func (.func 47) #[] #[]),(7,vI (B.length:Int)),(8,vI V)]∧Ext w w'∧St w' M F []) k ?_ ?_
  ·exact ⟨(0:Int),a8,agP J,E,S.pk []⟩
  ·intro n;rintro Y ak ⟨V,H,Z,E,S⟩;rw [QC Z]
   cases n with
   | zero=>cases H
   | succ k =>
    rw [Qz.eq_2] at H;refine wsQ (wiB J J (wnQ (QG ?_)));rcases Q7 H with ⟨K,H⟩ | ⟨K,H⟩
    ·refine QD (cB K) ?_;refine QW (tn (QG ?_));refine Ze ?_;refine wsQ (wmI J (waI J (wnQ (wsQ (W_v (.func (.func 47) #[] #[]) (Yr J) J (wmL J (wmI J ?_)))))));obtain ⟨⟨a4,a5⟩,H⟩:=Zj H;obtain ⟨am,an,ah,_,_,a9,aa,ai,ab,ac⟩:=SlW.at' ae a4 a5;obtain ⟨ao,a1,rfl⟩:=ab;obtain ⟨ap,aq,rfl,_⟩:=a1.form;refine W_v _ (QQ Tryd.underlying24 ty44 (slA a9) J a4 a5) J (W_v _ (YG (S.frz aa) ty44 J (ac 0 _ J)) J ?_);obtain ⟨ar,ad,H⟩:=QL H;refine Vn (fs:=[]) (cap:=[]) fn47 J (VB.con ad a1) (Γ1:=[]) (Γ2:=[]) S J J flN (eE4 E ?_);rintro _ ag _ a2 E S ⟨rfl,rfl⟩;replace S:St ag M F []:=S;refine wnQ ?_;rcases Q7 H with ⟨U,H⟩ | ⟨U,H⟩
     ·refine QD (cB U) ?_;refine wsQ (wmI J (waI J (wnQ ?_)));refine QS ?_;refine br (tr (tr (br (tr (tr (?_))))));obtain rfl:=oi H;have H:=W;replace H:=elimL H;obtain rfl:=oi H;exact ⟨_,_,_,rsA (vs:=[_]) J,HM,E,S.pk [],⟨J,J⟩⟩
     refine QB (cB U) (QW (bn (tn (QN (wiI J J (wmI J (wnQ ?_)))))));exact ⟨k,Nat.lt_succ_self k,⟨(IntKind.i64.wrap (V+(1:Int))),H,agP J,E,S.pk []⟩⟩
    refine QB (cB K) ?_;refine YV ?_;refine tx (tx (bsm (?_)));refine tn ?_;exact ⟨oi H,trivial,E,S.pk []⟩
 rintro Y au ⟨rfl,Z,E,S⟩;rw [QC Z];have H:=W;replace H:=elimR H;refine tn ?_
 as_aux_lemma =>
 refine wsQ (waI J (wnQ ?_));refine QS ?_;obtain rfl:=oi H;exact ⟨_,_,_,rsA (vs:=[_]) J,HM,E,S.pk [],⟨J,J⟩⟩
def ZH (k:Nat) (B:(List (List QV))):Option (Bool) :=
 (Option.bind (ZS k B) (fun E=>some (decide (E≥(0:Int)))))
theorem ZH.mono {k B}: OLe (ZH k B) (ZH (k+1) B):=by
 unfold ZH;have m1:=@ZS.mono;exact mo
theorem ZH.con {k M U V} {B:(List (List QV))} {r:Bool} (h:ZH k B=some r) (W:SlR (rSl YM) M (.slice U B.length V) B): Con Tryd.prog 46 #[.slice U B.length V,.func (.func 47) #[] #[]] M [] (fun v M' K=>v=.bool r∧K=[]):=by
 refine cwA Tryd.func46 J Tryd.ntmps46 Tryd.results46 J h ?_;intro w F rn S a2 E Z H;unfold ZH at H;refine wsQ (waB J (wnQ (wsQ (wmL J (W_v (.func (.func 47) #[] #[]) (Yr J) J ?_)))));obtain ⟨t1,Y,H⟩:=QL H;refine Y0 fn65 (ZS.con Y W) (Γ1:=[]) (Γ2:=[]) S J J flN (eE4 E ?_);rintro _ w3 _ K E S ⟨rfl,rfl⟩;replace S:St w3 M F []:=S;refine wiB J J (waB J (wnQ ?_));refine QS ?_;obtain rfl:=oi H;exact ⟨_,_,_,rsA (vs:=[_]) J,Z,E,S.pk [],⟨J,J⟩⟩
def Vk (k:Nat) (B:Qa) (E:(List (List QV))):Option (Bool) :=
 (Option.bind (VZ k B) (fun U=>(Option.bind (α:=Bool) (if (U&&(decide ((E.length:Int)≤B.Tasks)))=true then (Option.bind (ZH k E) (fun H=>some ((!H)))) else some (false)) (fun K=>some K))))
theorem Vk.mono {k B E}: OLe (Vk k B E) (Vk (k+1) B E):=by
 unfold Vk;have m1:=@ZH.mono;have m2:=@VZ.mono;exact mo
theorem Vk.con {k M} {V:Qa} {A1 c1} {U:(List (List QV))} {r:Bool} (h:Vk k V U=some r) (a9:SlR (rSl YM) M (.slice A1 U.length c1) U): Con Tryd.prog 14 #[.agg (QR V),.slice A1 U.length c1] M [] (fun v M' W=>v=.bool r∧W=[]):=by
 refine cwA Tryd.func14 J Tryd.ntmps14 Tryd.results14 J h ?_;intro w F rn S ag E HM H;unfold Vk at H;refine wsQ ?_;refine Y5 S (QR V) J J J (eE2 E ?_);intro b1 w2 E S;refine waB J (wnQ (wsQ (W_v (.agg (QR V)) (Ql (S.blk 0 J) ty23 J (QM J) J J) J ?_)));obtain ⟨t4,ab,H⟩:=QL H;refine Zs fn45 (VZ.con ab) S J J flN (eE4 E ?_);rintro _ w6 _ W E S ⟨rfl,rfl⟩;refine wmB J ?_;refine Q4 6 (fun Y w'=>QY Y [(1,.slice A1 U.length c1),(13,.bool (t4&&(decide ((U.length:Int)≤V.Tasks))))]∧w6=w') ?_ ?_
 ·rcases Qw t4 with B | B
  ·refine QX (skT B) J (QX (skT B) J (QX (skT B) J (QX (skT B) J (QX (skT B) J (wqB B J (QF ?_))))));exact ⟨⟨J,(flB B),trivial⟩,rfl⟩
  ·refine QJ (cS B) (wmL J (QJ (cS B) (W_v _ (Qd (n:=U.length) Tryd.underlying24 J) J (QJ (cS B) (wfA Tryd.underlying23 ty3 J (QJ (cS B) (wlA S 0 ty3 J (QJ (cS B) (wiB J J (wpB B J (QF ?_)))))))))));exact ⟨⟨J,(flB B),trivial⟩,rfl⟩
 rintro Y _ ⟨Z,rfl⟩;rw [QC Z];refine wmB J ?_;obtain ⟨ac,a6,a7⟩:=QL H;refine Q4 4 (fun Y w'=>∃ (a2:Bool),(a2)=ac∧QY Y [(18,.bool a2)]∧Ext w w'∧St w' M F []) ?_ ?_
 ·have H:=a6;rcases Q7 H with ⟨K,H⟩ | ⟨K,H⟩
  ·refine QJ (cS K) (wmL J (QJ (cS K) ?_));obtain ⟨a3,a8,H⟩:=QL H;refine Y0 fn46 (ZH.con a8 a9) (Γ1:=[]) (Γ2:=[_]) S J J flN (eE4 E ?_);rintro _ ad _ W E S ⟨rfl,rfl⟩;replace S:St ad M F [_]:=S;refine QJ (cS K) (W_v _ (X5 (b:=a3) J) J (wpB K J (QF ?_)));exact ⟨(!a3),oi H,agP J,E,S.pk []⟩
  ·refine QX (skT K) J (QX (skT K) J (QX (skT K) J (wqB K J (QF ?_))));exact ⟨false,oi H,agP J,E,S.pk []⟩
 rintro Y ah ⟨a2,rfl,Z,E,S⟩;rw [QC Z];have H:=a7;refine waB J (wnQ ?_);refine QS ?_;obtain rfl:=oi H;exact ⟨_,_,_,rsA (vs:=[_]) J,HM,E,S.pk [],⟨J,J⟩⟩
def ZK (E:(List Qn)) (H:(List Qn)):Nat→Int→Option ((Bool)⊕(Unit))
 | 0,_=>none
 | k+1,B=>(if (decide (B<(E.length:Int)))=true then (if 0≤B∧B<(E.length:Int) then (if 0≤B∧B<(H.length:Int) then (if (!(((rd E B).Key==(rd H B).Key)&&((rd E B).Value==(rd H B).Value)))=true then some (.inl false) else ZK E H k (IntKind.i64.wrap (B+(1:Int)))) else none) else none) else some (.inr ()))
theorem ZK.mono {B E}: ∀ {kl:Nat} {x0},OLe (ZK B E kl x0) (ZK B E (kl+1) x0):=by
 intro kl
 induction kl with
 | zero=>intros;exact OLe.none
 | succ kl ih =>
  intros
  rw [ZK.eq_2,ZK.eq_2];exact mo
def Z3 (k:Nat) (E:(List Qn)) (H:(List Qn)):Option (Bool) :=
 (if ((E.length:Int) != (H.length:Int))=true then some false else (Option.bind (ZK E H k (0:Int)) (fun B=>Sum.elim (fun r'=>some r') (fun _=>some true) B)))
theorem Z3.mono {k B E}: OLe (Z3 k B E) (Z3 (k+1) B E):=by
 unfold Z3;have m1:=@ZK.mono;exact mo
theorem Z3.con {k M A0 c0} {K:(List Qn)} {A1 c1} {U:(List Qn)} {r:Bool} (h:Z3 k K U=some r) (au:SlR Qr M (.slice A0 K.length c0) K) (av:SlR Qr M (.slice A1 U.length c1) U): Con Tryd.prog 44 #[.slice A0 K.length c0,.slice A1 U.length c1] M [] (fun v M' aw=>v=.bool r∧aw=[]):=by
 refine cwA Tryd.func44 J Tryd.ntmps44 Tryd.results44 J h ?_;intro w F rn S b6 E HM H;unfold Z3 at H;refine wsQ (waB J (wnQ (QG (wsQ (wmL J (W_v _ (Qd (n:=K.length) Tryd.underlying32 J) J (wmL J (W_v _ (Qd (n:=U.length) Tryd.underlying32 J) J (wiB J J (wnQ ?_))))))))));rcases Q7 H with ⟨a2,H⟩ | ⟨a2,H⟩
 ·refine QD (cB a2) ?_;refine wsQ (waB J (wnQ ?_));refine QS ?_;refine tr (?_);obtain rfl:=oi H;exact ⟨_,_,_,rsA (vs:=[_]) J,HM,E,S.pk [],⟨J,J⟩⟩
 refine QB (cB a2) (QW (tn (QG (wsQ (wmL J (W_v _ (Qd (n:=K.length) Tryd.underlying32 J) J (wmI J (wnQ ?_))))))));obtain ⟨a3,aa,Z⟩:=QL H;refine Zr (fun ρ w'=>.inr ()=a3∧QY ρ []∧Ext w w'∧St w' M F []) ?_ ?_
 ·refine Yt (fun n ρ w'=>∃ (B:Int),ZK K U n B=some a3∧QY ρ [(0,.slice A0 K.length c0),(1,.slice A1 U.length c1),(12,vI (K.length:Int)),(13,vI B)]∧Ext w w'∧St w' M F []) k ?_ ?_
  ·exact ⟨(0:Int),aa,agP J,E,S.pk []⟩
  ·intro n;rintro ρ az ⟨B,H,a5,E,S⟩;rw [QC a5]
   cases n with
   | zero=>cases H
   | succ k =>
    rw [ZK.eq_2] at H;refine wsQ (wiB J J (wnQ (QG ?_)));rcases Q7 H with ⟨V,H⟩ | ⟨V,H⟩
    ·refine QD (cB V) ?_;refine QW (tn (QG ?_));refine Ze ?_;refine wsQ (wmI J (waI J (wnQ (QG ?_))));refine rgA S [] [] 9 mixed J (eE1 E ?_);intro b0 E S W;refine tz0 0 J W (xmL J) (tz0 1 J W (xmI J) ?_);obtain ⟨⟨a6,a7⟩,H⟩:=Zj H;obtain ⟨b1,b2,ax,_,_,ab,ac,ad,ae,af⟩:=SlW.at' au a6 a7;obtain rfl:ad=_:=ae;refine tz0 2 J W (QQ Tryd.underlying32 ty72 (slA ab) J a6 a7) (Wt 3 J J J (.agg #[vS ((rd K B).Key),vS ((rd K B).Value)]) J (fun w' h'=>Ql (Ys h' ac) ty72 J (X1 af 0 J) J J) W (tz0 4 J W (xmL J) (tz0 5 J W (xmI J) ?_)));obtain ⟨⟨a8,a9⟩,H⟩:=Zj H;obtain ⟨b3,b4,ay,_,_,ah,ai,aj,ak,am⟩:=SlW.at' av a8 a9;obtain rfl:aj=_:=ak;refine tz0 6 J W (QQ Tryd.underlying32 ty72 (slA ah) J a8 a9) (Wt 7 J J J (.agg #[vS ((rd U B).Key),vS ((rd U B).Value)]) J (fun w' h'=>Ql (Ys h' ai) ty72 J (X1 am 0 J) J J) W (Wt 8 J J J (.bool (!(((rd K B).Key==(rd U B).Key)&&((rd K B).Value==(rd U B).Value)))) J (fun w' h'=>Km (en72 _ _ _ _) J (eq72 _ ((rd K B).Key) ((rd K B).Value) ((rd U B).Key) ((rd U B).Value))) W ?_));refine Wz ?_;refine tn ?_;rcases Q7 H with ⟨Y,H⟩ | ⟨Y,H⟩
     ·refine QD (cB Y) ?_;refine wsQ (waB J (wnQ ?_));refine QS ?_;refine br (tr (tr (br (tr (tr (?_))))));obtain rfl:=oi H;have H:=Z;replace H:=elimL H;obtain rfl:=oi H;exact ⟨_,_,_,rsA (vs:=[_]) J,HM,E,S.pk [],⟨J,J⟩⟩
     refine QB (cB Y) (QW (bn (tn (QN (wiI J J (wmI J (wnQ ?_)))))));exact ⟨k,Nat.lt_succ_self k,⟨(IntKind.i64.wrap (B+(1:Int))),H,agP J,E,S.pk []⟩⟩
    refine QB (cB V) ?_;refine YV ?_;refine tx (tx (bsm (?_)));refine tn ?_;exact ⟨oi H,trivial,E,S.pk []⟩
 rintro ρ b5 ⟨rfl,a5,E,S⟩;rw [QC a5];have H:=Z;replace H:=elimR H;refine tn ?_
 as_aux_lemma =>
 refine wsQ (waB J (wnQ ?_));refine QS ?_;obtain rfl:=oi H;exact ⟨_,_,_,rsA (vs:=[_]) J,HM,E,S.pk [],⟨J,J⟩⟩
def Xt (k:Nat) (B:Qc) (E:Qc):Option (Bool) :=
 (Option.bind (α:=Bool) (if (((B.Err==E.Err)&&(B.Found==E.Found))&&(sbin .eql B.Value E.Value))=true then (Option.bind (Z3 k B.Pairs E.Pairs) (fun H=>some (H))) else some (false)) (fun K=>some K))
theorem Xt.mono {k B E}: OLe (Xt k B E) (Xt (k+1) B E):=by
 unfold Xt;have m1:=@Z3.mono;exact mo
theorem Xt.con {k M A0_0 c0_0} {V:Qc} {A1_0 c1_0} {W:Qc} {r:Bool} (h:Xt k V W=some r) (hr0_0:SlR Qr M (.slice A0_0 V.Pairs.length c0_0) V.Pairs) (hr1_0:SlR Qr M (.slice A1_0 W.Pairs.length c1_0) W.Pairs): Con Tryd.prog 12 #[.agg #[vI V.Err,.bool V.Found,vS V.Value,.slice A0_0 V.Pairs.length c0_0],.agg #[vI W.Err,.bool W.Found,vS W.Value,.slice A1_0 W.Pairs.length c1_0]] M [] (fun v M' a3=>v=.bool r∧a3=[]):=by
 refine cwA Tryd.func12 J Tryd.ntmps12 Tryd.results12 J h ?_;intro w F rn S ad E HM H;unfold Xt at H;refine wsQ ?_;refine Y5 S #[vI V.Err,.bool V.Found,vS V.Value,.slice A0_0 V.Pairs.length c0_0] J J J (eE2 E ?_);intro b1 w2 E S;refine Y5 S #[vI W.Err,.bool W.Found,vS W.Value,.slice A1_0 W.Pairs.length c1_0] J J J (eE2 E ?_);intro b4 w5 E S;refine waB J (wnQ (wsQ (wfA Tryd.underlying34 ty28 J (wlA S 1 ty28 J (wfA Tryd.underlying34 ty28 J (wlA S 0 ty28 J (wiB J J (wmB J ?_))))))));refine Q4 6 (fun Y w'=>QY Y [(2,pt b1 0),(3,pt b4 0),(16,.bool ((V.Err==W.Err)&&(V.Found==W.Found)))]∧w5=w') ?_ ?_
 ·rcases Qw (V.Err==W.Err) with K | K
  ·refine QX (skT K) J (QX (skT K) J (QX (skT K) J (QX (skT K) J (QX (skT K) J (wqB K J (QF ?_))))));exact ⟨⟨J,J,(flB K),trivial⟩,rfl⟩
  ·refine QJ (cS K) (wfA Tryd.underlying34 ty4 J (QJ (cS K) (wlA S 1 ty4 J (QJ (cS K) (wfA Tryd.underlying34 ty4 J (QJ (cS K) (wlA S 0 ty4 J (QJ (cS K) (W_v (.bool (V.Found==W.Found)) (x_beq Tryd.underlying4 J J) J (wpB K J (QF ?_)))))))))));exact ⟨⟨J,J,(flB K),trivial⟩,rfl⟩
 as_aux_lemma =>
 rintro Y _ ⟨Z,rfl⟩;rw [QC Z];refine wmB J ?_;refine Q4 6 (fun Y w'=>QY Y [(2,pt b1 0),(3,pt b4 0),(23,.bool (((V.Err==W.Err)&&(V.Found==W.Found))&&(sbin .eql V.Value W.Value)))]∧w5=w') ?_ ?_
 ·rcases Qw ((V.Err==W.Err)&&(V.Found==W.Found)) with U | U
  ·refine QX (skT U) J (QX (skT U) J (QX (skT U) J (QX (skT U) J (QX (skT U) J (wqB U J (QF ?_))))));exact ⟨⟨J,J,(flB U),trivial⟩,rfl⟩
  ·refine QJ (cS U) (wfA Tryd.underlying34 ty9 J (QJ (cS U) (wlA S 1 ty9 J (QJ (cS U) (wfA Tryd.underlying34 ty9 J (QJ (cS U) (wlA S 0 ty9 J (QJ (cS U) (W_v (.bool (sbin .eql V.Value W.Value)) (U2 J J J) J (wpB U J (QF ?_)))))))))));exact ⟨⟨J,J,(flB U),trivial⟩,rfl⟩
 as_aux_lemma =>
 rintro Y _ ⟨Z,rfl⟩;rw [QC Z];refine wmB J ?_;obtain ⟨aa,a4,a5⟩:=QL H;refine Q4 6 (fun Y w'=>∃ (a2:Bool),(a2)=aa∧QY Y [(30,.bool a2)]∧Ext w w'∧St w' M F []) ?_ ?_
 ·have H:=a4;rcases Q7 H with ⟨B,H⟩ | ⟨B,H⟩
  ·refine QJ (cS B) (wfA Tryd.underlying34 ty32 J (QJ (cS B) (wlA S 1 ty32 J (QJ (cS B) (wfA Tryd.underlying34 ty32 J (QJ (cS B) (wlA S 0 ty32 J (QJ (cS B) ?_))))))));obtain ⟨ab,a6,H⟩:=QL H;refine Zs fn44 (Z3.con a6 hr0_0 hr1_0) S J J flN (eE4 E ?_);rintro _ ae _ a3 E S ⟨rfl,rfl⟩;refine wpB B J (QF ?_);exact ⟨ab,oi H,agP J,E,S.pk []⟩
  ·refine QX (skT B) J (QX (skT B) J (QX (skT B) J (QX (skT B) J (QX (skT B) J (wqB B J (QF ?_))))));exact ⟨false,oi H,agP J,E,S.pk []⟩
 rintro Y af ⟨a2,rfl,Z,E,S⟩;rw [QC Z];have H:=a5;refine waB J (wnQ ?_);refine QS ?_;obtain rfl:=oi H;exact ⟨_,_,_,rsA (vs:=[_]) J,HM,E,S.pk [],⟨J,J⟩⟩
def Vi (k:Nat) (B:Int):Option (Bool) :=
 some (((B != (1:Int))&&(B != (8:Int)))&&(B != (9:Int)))
theorem Vi.mono {k B}: OLe (Vi k B) (Vi (k+1) B):=by
 unfold Vi;exact mo
theorem Vi.con {k M} {U:Int} {r:Bool} (h:Vi k U=some r): Con Tryd.prog 66 #[vU U] M [] (fun v M' Y=>v=.bool r∧Y=[]):=by
 refine cwA Tryd.func66 J Tryd.ntmps66 Tryd.results66 J h ?_;intro w F rn S a1 E Z H;unfold Vi at H;refine wsQ (waB J (wnQ (wsQ (wmI J (wiB J J (wmB J ?_))))));refine Q4 3 (fun V w'=>QY V [(0,vU U),(8,.bool ((U != (1:Int))&&(U != (8:Int))))]∧w=w') ?_ ?_
 ·rcases Qw (U != (1:Int)) with B | B
  ·refine QX (skT B) J (QX (skT B) J (wqB B J (QF ?_)));exact ⟨⟨J,(flB B),trivial⟩,rfl⟩
  ·refine QJ (cS B) (wmI J (QJ (cS B) (wiB J J (wpB B J (QF ?_)))));exact ⟨⟨J,(flB B),trivial⟩,rfl⟩
 rintro V _ ⟨W,rfl⟩;rw [QC W];refine wmB J ?_;refine Q4 3 (fun V w'=>QY V [(12,.bool (((U != (1:Int))&&(U != (8:Int)))&&(U != (9:Int))))]∧w=w') ?_ ?_
 ·rcases Qw ((U != (1:Int))&&(U != (8:Int))) with K | K
  ·refine QX (skT K) J (QX (skT K) J (wqB K J (QF ?_)));exact ⟨⟨(flB K),trivial⟩,rfl⟩
  ·refine QJ (cS K) (wmI J (QJ (cS K) (wiB J J (wpB K J (QF ?_)))));exact ⟨⟨(flB K),trivial⟩,rfl⟩
 rintro V _ ⟨W,rfl⟩;rw [QC W];refine waB J (wnQ ?_);refine QS ?_;obtain rfl:=oi H;exact ⟨_,_,_,rsA (vs:=[_]) J,Z,E,S.pk [],⟨J,J⟩⟩
def Xh (k:Nat) (B:Qa) (E:Int) (H:Int):Option (Unit) :=
 some ()
theorem Xh.mono {k B E H}: OLe (Xh k B E H) (Xh (k+1) B E H):=by
 unfold Xh;exact mo
theorem Xh.con {k M} {B:Qa} {K:Int} {U:Int} {r:Unit} (h:Xh k B K U=some r): Con Tryd.prog 83 #[.agg (QR B),vI K,vI U] M [] (fun v M' a5=>∃ (V:Nat) (W:Nat) (Y:Nat),v=.func (.func 94) #[] #[pt V 0,pt W 0,pt Y 0]∧a5=[B23 V B,Blk W (.cells #[vI K] 3 (0,0)),Blk Y (.cells #[vI U] 3 (0,0))]):=by
 refine cwA Tryd.func83 J Tryd.ntmps83 Tryd.results83 J h ?_;intro w F rn S a7 E HM H;unfold Xh at H;refine wsQ ?_;refine Y5 S (QR B) J J J (eE2 E ?_);intro Z w2 E S;refine Y5 S #[vI K] J J J (eE2 E ?_);intro b4 w5 E S;refine Y5 S #[vI U] J J J (eE2 E ?_);intro b7 w8 E S;refine W_v (.nilFunc) (YZ J) J (wnQ (wsQ (W_v (.func (.func 94) #[] #[pt Z 0,pt b4 0,pt b7 0]) (Vy J) J (W_v (.func (.func 94) #[] #[pt Z 0,pt b4 0,pt b7 0]) (YZ J) J (wnQ ?_)))));refine QS ?_;obtain rfl:=oi H;exact ⟨_,_,_,rsA (vs:=[_]) J,HM,E,S.pk [2,1,0],⟨Z,b4,b7,J,J⟩⟩
def Xi (k:Nat) (B:Str) (ac_0:Qa) (ac_1:Int) (ac_2:Int):Option (Bool) :=
 (Option.bind (VZ k ac_0) (fun E=>some ((E&&(decide ((B.length:Int)≥ac_1)))&&(decide ((B.length:Int)≤ac_2)))))
theorem Xi.mono {k B ac_0 ac_1 ac_2}: OLe (Xi k B ac_0 ac_1 ac_2) (Xi (k+1) B ac_0 ac_1 ac_2):=by
 unfold Xi;have m1:=@VZ.mono;exact mo
theorem Xi.con {k M} {U:Str} {ac_0:Qa} {ac_1:Int} {ac_2:Int} {bc_0 bc_1 bc_2} {r:Bool} (h:Xi k U ac_0 ac_1 ac_2=some r): Con Tryd.prog 94 #[vS U,pt bc_0 0,pt bc_1 0,pt bc_2 0] M [B23 bc_0 ac_0,Blk bc_1 (.cells #[vI ac_1] 3 (0,0)),Blk bc_2 (.cells #[vI ac_2] 3 (0,0))] (fun v M' Z=>v=.bool r∧Z=[B23 bc_0 ac_0,Blk bc_1 (.cells #[vI ac_1] 3 (0,0)),Blk bc_2 (.cells #[vI ac_2] 3 (0,0))]):=by
 refine cwA Tryd.func94 J Tryd.ntmps94 Tryd.results94 J h ?_;intro w F rn S a4 E HM H;unfold Xi at H;refine wsQ (waB J (wnQ (wsQ (W_v (.agg (QR ac_0)) (Ql (S.blk 0 J) ty23 J (QM J) J J) J ?_))));obtain ⟨Y,a1,H⟩:=QL H;refine Zs fn45 (VZ.con a1) S J J flN (eE4 E ?_);rintro _ w3 _ Z E S ⟨rfl,rfl⟩;refine wmB J ?_;refine Q4 5 (fun V w'=>QY V [(0,vS U),(3,pt bc_2 0),(13,.bool (Y&&(decide ((U.length:Int)≥ac_1))))]∧w3=w') ?_ ?_
 ·rcases Qw Y with B | B
  ·refine QX (skT B) J (QX (skT B) J (QX (skT B) J (QX (skT B) J (wqB B J (QF ?_)))));exact ⟨⟨J,J,(flB B),trivial⟩,rfl⟩
  ·refine QJ (cS B) (wmS J (QJ (cS B) (W_v _ (VP Tryd.underlying9 J) J (QJ (cS B) (wlA S 1 ty3 J (QJ (cS B) (wiB J J (wpB B J (QF ?_)))))))));exact ⟨⟨J,J,(flB B),trivial⟩,rfl⟩
 rintro V _ ⟨W,rfl⟩;rw [QC W];refine wmB J ?_;refine Q4 5 (fun V w'=>QY V [(19,.bool ((Y&&(decide ((U.length:Int)≥ac_1)))&&(decide ((U.length:Int)≤ac_2))))]∧w3=w') ?_ ?_
 ·rcases Qw (Y&&(decide ((U.length:Int)≥ac_1))) with K | K
  ·refine QX (skT K) J (QX (skT K) J (QX (skT K) J (QX (skT K) J (wqB K J (QF ?_)))));exact ⟨⟨(flB K),trivial⟩,rfl⟩
  ·refine QJ (cS K) (wmS J (QJ (cS K) (W_v _ (VP Tryd.underlying9 J) J (QJ (cS K) (wlA S 2 ty3 J (QJ (cS K) (wiB J J (wpB K J (QF ?_)))))))));exact ⟨⟨(flB K),trivial⟩,rfl⟩
 rintro V _ ⟨W,rfl⟩;rw [QC W];refine waB J (wnQ ?_);refine QS ?_;obtain rfl:=oi H;exact ⟨_,_,_,rsA (vs:=[_]) J,HM,E,S.pk [0,1,2],⟨J,J⟩⟩
def Vp (k:Nat) (B:Qa) (H:Str):Option (Bool) :=
 (Option.bind (Xh k B (1:Int) B.KeyLen) (fun K=>(Option.bind (Xi k H B (1:Int) B.KeyLen) (fun E=>some E))))
theorem Vp.mono {k B E}: OLe (Vp k B E) (Vp (k+1) B E):=by
 unfold Vp;have m1:=@Xi.mono;have m2:=@Xh.mono;exact mo
theorem Vp.con {k M} {K:Qa} {V:Str} {r:Bool} (h:Vp k K V=some r): Con Tryd.prog 77 #[.agg (QR K),vS V] M [] (fun v M' B=>v=.bool r∧B=[]):=by
 refine cwA Tryd.func77 J Tryd.ntmps77 Tryd.results77 J h ?_;intro w F rn S a6 E HM H;unfold Vp at H;refine wsQ ?_;refine Y5 S (QR K) J J J (eE2 E ?_);intro b1 w2 E S;refine waB J (wnQ (wsQ (W_v (.agg (QR K)) (Ql (S.blk 0 J) ty23 J (QM J) J J) J (wfA Tryd.underlying23 ty3 J (wlA S 0 ty3 J ?_)))));obtain ⟨t4,W,H⟩:=QL H;refine Y0 fn83 (Xh.con W) (Γ1:=[]) (Γ2:=[_]) S J J (by rintro _ _ _ ⟨_,_,_,rfl,rfl⟩;exact (QO Za (QO Za (QO Za YQ)))) (eE4 E ?_);rintro _ Y _ B E S ⟨b6,b8,Z,rfl,rfl⟩;replace S:St Y M F [_,_,_,_]:=S;refine wmS J ?_;obtain ⟨a7,U,H⟩:=QL H;refine Vn (fs:=[]) (cap:=[pt b6 0,pt b8 0,pt Z 0]) fn94 J (Xi.con U) (Γ1:=[_,_,_]) (Γ2:=[_]) S J J (by rintro _ _ _ ⟨rfl,rfl⟩;exact (QO Za (QO Za (QO Za YQ)))) (eE4 E ?_);rintro _ a2 _ B E S ⟨rfl,rfl⟩;replace S:St a2 M F [_,_,_,_]:=S;refine waB J (wnQ ?_);refine QS ?_;obtain rfl:=oi H;exact ⟨_,_,_,rsA (vs:=[_]) J,HM,E,S.pk [],⟨J,J⟩⟩
def Vj (k:Nat) (B:Qa) (H:Str):Option (Bool) :=
 (Option.bind (Xh k B (0:Int) B.ValLen) (fun K=>(Option.bind (Xi k H B (0:Int) B.ValLen) (fun E=>some E))))
theorem Vj.mono {k B E}: OLe (Vj k B E) (Vj (k+1) B E):=by
 unfold Vj;have m1:=@Xi.mono;have m2:=@Xh.mono;exact mo
theorem Vj.con {k M} {K:Qa} {V:Str} {r:Bool} (h:Vj k K V=some r): Con Tryd.prog 78 #[.agg (QR K),vS V] M [] (fun v M' B=>v=.bool r∧B=[]):=by
 refine cwA Tryd.func78 J Tryd.ntmps78 Tryd.results78 J h ?_;intro w F rn S a6 E HM H;unfold Vj at H;refine wsQ ?_;refine Y5 S (QR K) J J J (eE2 E ?_);intro b1 w2 E S;refine waB J (wnQ (wsQ (W_v (.agg (QR K)) (Ql (S.blk 0 J) ty23 J (QM J) J J) J (wfA Tryd.underlying23 ty3 J (wlA S 0 ty3 J ?_)))));obtain ⟨t4,W,H⟩:=QL H;refine Y0 fn83 (Xh.con W) (Γ1:=[]) (Γ2:=[_]) S J J (by rintro _ _ _ ⟨_,_,_,rfl,rfl⟩;exact (QO Za (QO Za (QO Za YQ)))) (eE4 E ?_);rintro _ Y _ B E S ⟨b6,b8,Z,rfl,rfl⟩;replace S:St Y M F [_,_,_,_]:=S;refine wmS J ?_;obtain ⟨a7,U,H⟩:=QL H;refine Vn (fs:=[]) (cap:=[pt b6 0,pt b8 0,pt Z 0]) fn94 J (Xi.con U) (Γ1:=[_,_,_]) (Γ2:=[_]) S J J (by rintro _ _ _ ⟨rfl,rfl⟩;exact (QO Za (QO Za (QO Za YQ)))) (eE4 E ?_);rintro _ a2 _ B E S ⟨rfl,rfl⟩;replace S:St a2 M F [_,_,_,_]:=S;refine waB J (wnQ ?_);refine QS ?_;obtain rfl:=oi H;exact ⟨_,_,_,rsA (vs:=[_]) J,HM,E,S.pk [],⟨J,J⟩⟩
def VT (k:Nat) (B:Qa) (H:Str):Option (Bool) :=
 (Option.bind (Xh k B (0:Int) B.KeyLen) (fun K=>(Option.bind (Xi k H B (0:Int) B.KeyLen) (fun E=>some E))))
theorem VT.mono {k B E}: OLe (VT k B E) (VT (k+1) B E):=by
 unfold VT;have m1:=@Xi.mono;have m2:=@Xh.mono;exact mo
theorem VT.con {k M} {K:Qa} {V:Str} {r:Bool} (h:VT k K V=some r): Con Tryd.prog 79 #[.agg (QR K),vS V] M [] (fun v M' B=>v=.bool r∧B=[]):=by
 refine cwA Tryd.func79 J Tryd.ntmps79 Tryd.results79 J h ?_;intro w F rn S a6 E HM H;unfold VT at H;refine wsQ ?_;refine Y5 S (QR K) J J J (eE2 E ?_);intro b1 w2 E S;refine waB J (wnQ (wsQ (W_v (.agg (QR K)) (Ql (S.blk 0 J) ty23 J (QM J) J J) J (wfA Tryd.underlying23 ty3 J (wlA S 0 ty3 J ?_)))));obtain ⟨t4,W,H⟩:=QL H;refine Y0 fn83 (Xh.con W) (Γ1:=[]) (Γ2:=[_]) S J J (by rintro _ _ _ ⟨_,_,_,rfl,rfl⟩;exact (QO Za (QO Za (QO Za YQ)))) (eE4 E ?_);rintro _ Y _ B E S ⟨b6,b8,Z,rfl,rfl⟩;replace S:St Y M F [_,_,_,_]:=S;refine wmS J ?_;obtain ⟨a7,U,H⟩:=QL H;refine Vn (fs:=[]) (cap:=[pt b6 0,pt b8 0,pt Z 0]) fn94 J (Xi.con U) (Γ1:=[_,_,_]) (Γ2:=[_]) S J J (by rintro _ _ _ ⟨rfl,rfl⟩;exact (QO Za (QO Za (QO Za YQ)))) (eE4 E ?_);rintro _ a2 _ B E S ⟨rfl,rfl⟩;replace S:St a2 M F [_,_,_,_]:=S;refine waB J (wnQ ?_);refine QS ?_;obtain rfl:=oi H;exact ⟨_,_,_,rsA (vs:=[_]) J,HM,E,S.pk [],⟨J,J⟩⟩
def VH (k:Nat) (B:(List QZ)) (E:Int):Option (Unit) :=
 some ()
theorem VH.mono {k B E}: OLe (VH k B E) (VH (k+1) B E):=by
 unfold VH;exact mo
theorem VH.con {k M K U} {B:(List QZ)} {V:Int} {r:Unit} (h:VH k B V=some r) (a5:SlR ZU M (.slice K B.length U) B): Con Tryd.prog 145 #[.slice K B.length U,vI V] M [] (fun v M' a3=>∃ (W:Nat) (Y:Nat),v=.func (.func 151) #[] #[pt W 0,pt Y 0]∧a3=[Blk W (.cells #[.slice K B.length U] 115 (0,0)),Blk Y (.cells #[vI V] 3 (0,0))]):=by
 refine cwA Tryd.func145 J Tryd.ntmps145 Tryd.results145 J h ?_;intro w F rn S a6 E HM H;unfold VH at H;refine wsQ ?_;refine Y5 S #[.slice K B.length U] J J J (eE2 E ?_);intro Z w2 E S;refine Y5 S #[vI V] J J J (eE2 E ?_);intro b4 w5 E S;refine W_v (.nilFunc) (YZ J) J (wnQ (wsQ (W_v (.func (.func 151) #[] #[pt Z 0,pt b4 0]) (Vy J) J (W_v (.func (.func 151) #[] #[pt Z 0,pt b4 0]) (YZ J) J (wnQ ?_)))));refine QS ?_;obtain rfl:=oi H;exact ⟨_,_,_,rsA (vs:=[_]) J,HM,E,S.pk [1,0],⟨Z,b4,J,J⟩⟩
def Xy {σ ε:Type} (a_0:(List QZ)) (a_1:Int) (bd:Int×Bool→σ→Option (σ⊕ε)):Nat→Int→σ⊕ε→Option ((σ⊕ε)⊕((σ⊕ε)))
 | 0,_,_=>none
 | k+1,B,H=>(if (decide (B<(a_0.length:Int)))=true then (if 0≤B∧B<(a_0.length:Int) then (Option.bind (toL H) (fun K=>Option.bind (bd (B,(decide ((rd a_0 B).TS≤a_1))) K) (fun E=>(if ((!(isNorm E))||(decide ((rd a_0 B).TS≤a_1)))=true then some (.inl E) else Xy a_0 a_1 bd k (IntKind.i64.wrap (B+(1:Int))) E)))) else none) else some (.inr (H)))
theorem Xy.mono {σ ε:Type} {a_0:(List QZ)} {a_1:Int} {bd bd':Int×Bool→σ→Option (σ⊕ε)} (hbd:∀ x s,OLe (bd x s) (bd' x s)):∀ {kl:Nat} {x0 B},OLe (Xy a_0 a_1 bd kl x0 B) (Xy a_0 a_1 bd' (kl+1) x0 B):=by
 intro kl
 induction kl with
 | zero=>intros;exact OLe.none
 | succ kl ih =>
  intros
  rw [Xy.eq_2,Xy.eq_2]
  repeat' (first | with_reducible exact OLe.none | with_reducible exact OLe.some | with_reducible refine OLe.ite ?_ ?_ | with_reducible refine OLe.bind ?_ (fun _=>?_) | exact OLe.toL | exact hbd _ _ | exact ih | refine OLe.bind ?_ (fun _=>?_) | refine OLe.ite ?_ ?_ | refine OLe.elim (fun _=>?_) (fun _=>?_) | split)
def VI {σ ε:Type} (k:Nat) (a_0:(List QZ)) (a_1:Int) (bd:Int×Bool→σ→Option (σ⊕ε)) (H:σ):Option (σ⊕ε) :=
 (Option.bind (Xy a_0 a_1 bd k (0:Int) (.inl H)) (fun B=>Sum.elim (fun r'=>some r') (fun E=>some E) B))
theorem VI.mono {σ ε:Type} {k:Nat} {a_0:(List QZ)} {a_1:Int} {bd bd':Int×Bool→σ→Option (σ⊕ε)} (hbd:∀ x s,OLe (bd x s) (bd' x s)) {B:σ}:OLe (VI k a_0 a_1 bd B) (VI (k+1) a_0 a_1 bd' B):=by
 unfold VI
 repeat' (first | with_reducible exact OLe.none | with_reducible exact OLe.some | with_reducible refine OLe.ite ?_ ?_ | with_reducible refine OLe.bind ?_ (fun _=>?_) | with_reducible exact Xy.mono hbd | exact OLe.toL | exact hbd _ _ | refine OLe.bind ?_ (fun _=>?_) | refine OLe.ite ?_ ?_ | refine OLe.elim (fun _=>?_) (fun _=>?_) | split)
theorem VI.con {σ ε:Type} {k M A_0 c_0} {a_0:(List QZ)} {a_1:Int} {b_0 b_1} {bd:Int×Bool→σ→Option (σ⊕ε)} {s0:σ} {r:σ⊕ε} (h:VI k a_0 a_1 bd s0=some r) (hr_0:SlR ZU M (.slice A_0 a_0.length c_0) a_0): Iter Tryd.prog 151 [pt b_0 0,pt b_1 0] M (fun (M:Hp) (x:Int×Bool) (vs:List Value)=>vs=[vI x.1,.bool x.2]) bd s0 r [Blk b_0 (.cells #[.slice A_0 a_0.length c_0] 115 (0,0)),Blk b_1 (.cells #[vI a_1] 3 (0,0))] (fun M' ao=>ao=[Blk b_0 (.cells #[.slice A_0 a_0.length c_0] 115 (0,0)),Blk b_1 (.cells #[vI a_1] 3 (0,0))]):=by
 intro lp B hY;refine cwA Tryd.func151 J Tryd.ntmps151 Tryd.results151 J h ?_;intro w F rn S ay E Y H;unfold VI at H;refine wsQ (wlA S 1 ty115 J (W_v _ (Qd (n:=a_0.length) Tryd.underlying115 J) J (wmI J (wnQ ?_))));obtain ⟨aa,af,a5⟩:=QL H;refine Zr (fun ρ w'=>∃ (a6:σ⊕ε) (Mj:Hp),.inr (a6)=aa∧QY ρ []∧M.le Mj∧Ext w w'∧St w' Mj F [Blk b_0 (.cells #[.slice A_0 a_0.length c_0] 115 (0,0)),Blk b_1 (.cells #[vI a_1] 3 (0,0)),B a6]) ?_ ?_
 ·refine Yt (fun n ρ w'=>∃ (U:Int) (a3:σ⊕ε) (Mj:Hp),Xy a_0 a_1 bd n U a3=some aa∧QY ρ [(0,.func (.yield lp) #[] #[]),(2,pt b_1 0),(6,.slice A_0 a_0.length c_0),(7,vI (a_0.length:Int)),(8,vI U)]∧M.le Mj∧Ext w w'∧St w' Mj F [Blk b_0 (.cells #[.slice A_0 a_0.length c_0] 115 (0,0)),Blk b_1 (.cells #[vI a_1] 3 (0,0)),B a3]) k ?_ ?_
  ·exact ⟨(0:Int),(.inl s0),M,af,agP J,(Hp.le_refl M),E,S.pk [1,2,0]⟩
  ·intro n;rintro ρ az ⟨U,a3,ab,H,a1,V,E,S⟩;rw [QC a1];replace Y:=Hp.le_trans Y V;replace hr_0:=SlR.mono hr_0 V
   cases n with
   | zero=>cases H
   | succ k =>
    rw [Xy.eq_2] at H;refine wsQ (wiB J J (wnQ (QG ?_)));rcases Q7 H with ⟨a2,H⟩ | ⟨a2,H⟩
    ·refine QD (cB a2) ?_;refine QW (tn (QG ?_));refine Ze ?_;refine wsQ (wmI J ?_);obtain ⟨⟨ac,ad⟩,H⟩:=Zj H;obtain ⟨b0,b1,ar,_,_,ag,ah,ai,aj,ak⟩:=SlW.at' hr_0 ac ad;obtain rfl:ai=_:=aj;refine W_v _ (QQ Tryd.underlying115 ty117 (slA ag) J ac ad) J (W_v (.agg (XX (rd a_0 U))) (Ql (S.frz ah) ty117 J (X1 ak 0 J) J J) J ?_);refine YN S cz19 ty117 J J (eE2 E ?_);intro b2 b3 E S;refine waI J ?_;refine Qu S 0 J ty117 J J [vI ((rd a_0 U).Writer),vI ((rd a_0 U).TS),.bool ((rd a_0 U).Tomb),vS ((rd a_0 U).Value)] J J J (XX (rd a_0 U)) J J (eE1 E ?_);intro ap E S;refine wnQ (wsQ (W_v (.func (.yield lp) #[] #[]) (Yr J) J (wmI J (wfA Tryd.underlying117 ty3 J (wlA S 0 ty3 J (wlA S 2 ty3 J (wiB J J ?_)))))));obtain ⟨aq,a7,H⟩:=QL H;obtain ⟨W,a8,H⟩:=QL H;rw [toL_eq a7] at S;replace S:St ap ab F [_,_,_,_]:=S.pk [3,0,1,2];refine QAl J (hY _ (U,(decide ((rd a_0 U).TS≤a_1))) _ aq W Y (J) a8) S J J ?_;rintro _ am an _ a4 E' S ⟨rfl,rfl⟩;replace Y:=Hp.le_trans Y a4;replace V:=Hp.le_trans V a4;replace E:=E.trans E';refine W_v _ (X5 (b:=(isNorm W)) J) J (wmB J ?_);refine Q4 5 (fun ρ w'=>QY ρ [(0,.func (.yield lp) #[] #[]),(2,pt b_1 0),(6,.slice A_0 a_0.length c_0),(7,vI (a_0.length:Int)),(8,vI U),(26,.bool ((!(isNorm W))||(decide ((rd a_0 U).TS≤a_1))))]∧am=w') ?_ ?_
     ·rcases Qw (!(isNorm W)) with K | K
      ·refine QJ (cS K) (wfA Tryd.underlying117 ty3 J (QJ (cS K) (wlA S 1 ty3 J (QJ (cS K) (wlA S 3 ty3 J (QJ (cS K) (wiB J J (wqB K J (QF ?_)))))))));exact ⟨⟨J,J,J,J,J,(flB K),trivial⟩,rfl⟩
      ·refine QX (skF K) J (QX (skF K) J (QX (skF K) J (QX (skF K) J (wpB K J (QF ?_)))));exact ⟨⟨J,J,J,J,J,(flB K),trivial⟩,rfl⟩
     rintro ρ _ ⟨a1,rfl⟩;rw [QC a1];refine wnQ ?_;rcases Q7 H with ⟨Z,H⟩ | ⟨Z,H⟩
     ·refine QD (cB Z) ?_;refine QS ?_;refine br (tr (tr (br (tr (?_)))));obtain rfl:=oi H;have H:=a5;replace H:=elimL H;obtain rfl:=oi H;exact ⟨_,_,_,fun w1 e1=>Zk (vs:=[]) FA.nil,Y,E,S.pk [0,2,3],⟨_,J,J⟩⟩
     refine QB (cB Z) (QW (bn (tn (QN (wiI J J (wmI J (wnQ ?_)))))));exact ⟨k,Nat.lt_succ_self k,⟨(IntKind.i64.wrap (U+(1:Int))),W,an,H,agP J,V,E,S.pk [2,3,0]⟩⟩
    refine QB (cB a2) ?_;refine YV ?_;refine tx (tx (bsm (?_)));refine tn ?_;exact ⟨a3,ab,oi H,trivial,V,E,S.pk [0,1,2]⟩
 rintro ρ aw ⟨a6,ax,rfl,a1,a9,E,S⟩;rw [QC a1];replace Y:=Hp.le_trans Y a9;have H:=a5;replace H:=elimR H;obtain rfl:=oi H;exact ⟨_,_,_,fun w1 e1=>Zk (vs:=[]) FA.nil,Y,E,S.pk [2,0,1],⟨_,J,J⟩⟩
def Vf (E:(List QZ)) (k:Nat):(Int×Bool)→Unit→Option ((Unit)⊕(QZ))
 | (B,H),_=>(Option.bind (α:=Bool) (if H=true then (if 0≤B∧B<(E.length:Int) then some ((!((rd E B).Tomb))) else none) else some (false)) (fun K=>(if K=true then (if 0≤B∧B<(E.length:Int) then some (.inr (rd E B)) else none) else some (.inl ()))))
theorem Vf.mono {B k}: ∀ x s,OLe (Vf B k x s) (Vf B (k+1) x s):=by
 intro x s;unfold Vf;exact mo
def Vc (k:Nat) (E:(List QZ)) (K:Int):Option (QZ×Bool) :=
 (Option.bind (VH k E K) (fun U=>(Option.bind (VI k E K (Vf E k) ()) (fun B=>Sum.elim (fun _=>some ((⟨(0:Int),(0:Int),false,([]:Str)⟩:QZ),false)) (fun H=>some (H,true)) B))))
theorem Vc.mono {k B E}: OLe (Vc k B E) (Vc (k+1) B E):=by
 unfold Vc
 repeat' (first | with_reducible exact OLe.none | with_reducible exact OLe.some | with_reducible refine OLe.ite ?_ ?_ | with_reducible refine OLe.bind ?_ (fun _=>?_) | with_reducible exact Vf.mono | exact VI.mono (fun _ _=>by first | exact Vf.mono _ _) | with_reducible exact VH.mono | refine OLe.bind ?_ (fun _=>?_) | refine OLe.ite ?_ ?_ | refine OLe.elim (fun _=>?_) (fun _=>?_) | split)
theorem Vc.con {k M W Y} {K:(List QZ)} {a1:Int} {r:QZ×Bool} (h:Vc k K a1=some r) (Z:SlR ZU M (.slice W K.length Y) K): Con Tryd.prog 139 #[.slice W K.length Y,vI a1] M [] (fun v M' a9=>v=.tuple #[.agg (XX r.1),.bool r.2]∧a9=[]):=by
 refine cwA Tryd.func139 J Tryd.ntmps139 Tryd.results139 J h ?_;intro w F rn S bu E HM H;unfold Vc at H;refine wsQ ?_;refine Y5 S #[.slice W K.length Y] J J J (eE2 E ?_);intro b1 w2 E S;refine YN S cz19 ty117 J J (eE2 E ?_);intro b4 w5 E S;refine YN S #[.bool false] ty4 J J (eE2 E ?_);intro b7 w8 E S;refine wnQ (QG (wsQ (wlA S 2 ty115 J (wmI J ?_))));obtain ⟨bv,b8,H⟩:=QL H;refine Y0 fn145 (VH.con b8 Z) (Γ1:=[]) (Γ2:=[_,_,_]) S J J (by rintro _ _ _ ⟨_,_,rfl,rfl⟩;exact (QO Za (QO Za YQ))) (eE4 E ?_);rintro _ bb _ a9 E S ⟨af,ag,rfl,rfl⟩;replace S:St bb M F [_,_,_,_,_]:=S;refine wnQ ?_;refine Ze ?_;obtain ⟨b9,an,ao⟩:=QL H;refine Ug (σ:=Unit) (ε:=QZ) (Γi:=[Blk af (.cells #[.slice W K.length Y] 115 (0,0)),Blk ag (.cells #[vI a1] 3 (0,0))]) (Γr:=[]) (Sum.elim (fun _=>AE (ι:=Unit) (fun (i:Unit)=>[Blk b7 (.cells #[.bool false] 4 (0,0)),Blk b4 (.cells cz19 117 (0,0)),Blk b1 (.cells #[.slice W K.length Y] 115 (0,0))]) (fun _ _=>True) (fun _ _ _ _ _=>trivial)) (fun a2=>AE (ι:=Unit) (fun (i:Unit)=>[Blk b7 (.cells #[.bool true] 4 (0,0)),B117 b4 a2]) (fun _ _=>True) (fun _ _ _ _ _=>trivial))) (fun _=>Code.ret) fn151 J (St.close_ex (φ:=(fun _ _=>True)) (hφ:=(fun _ _ _ _ _=>trivial)) () trivial (S.pk [2,3,4,0,1])) (by rintro _ _ _ rfl;rfl) (by decide) (VI.con an Z) ?_ ?_
 ·intro nn lp V F yy vs ss tt w aa henc hbd S;obtain ⟨U,bg⟩:=yy;obtain rfl:=henc;replace HM:=Hp.le_trans HM aa;replace Z:=SlR.mono Z aa;replace S:St w V F (AE (ι:=Unit) (fun (i:Unit)=>[Blk b7 (.cells #[.bool false] 4 (0,0)),Blk b4 (.cells cz19 117 (0,0)),Blk b1 (.cells #[.slice W K.length Y] 115 (0,0))]) (fun _ _=>True) (fun _ _ _ _ _=>trivial)::[]):=S;obtain ⟨_,_,S⟩:=S.open_ex;replace S:St w V F [_,_,_]:=S;have E:=Ext.refl w;have ap:=Hp.le_refl V;have H:=hbd;rw [Vf.eq_1] at H;refine wsQ (waI J (wnQ (QN (waB J (QF ?_)))));refine YS ⟨_,_,ap,E,S,?_⟩;intro w F E3 S;have E:=Ext.refl w;have ab:=Hp.le_refl V;refine Ze ?_;refine wsQ (wmB J (wmB J ?_));obtain ⟨ba,aq,ar⟩:=QL H;refine Q4 7 (fun ρ w'=>∃ (a8:Bool),(a8)=ba∧QY ρ [(2,pt b1 0),(4,pt b4 0),(5,pt b7 0),(6,vI U),(21,.bool a8)]∧Ext w w'∧St w' V F [Blk b7 (.cells #[.bool false] 4 (0,0)),Blk b4 (.cells cz19 117 (0,0)),Blk b1 (.cells #[.slice W K.length Y] 115 (0,0))]) ?_ ?_
  ·have H:=aq;rcases Q7 H with ⟨B,H⟩ | ⟨B,H⟩
   ·refine QJ (cS B) (wlA S 2 ty115 J (QJ (cS B) (wmI J (QJ (cS B) ?_))));obtain ⟨⟨ah,ai⟩,H⟩:=Zj H;obtain ⟨bh,bi,be,_,_,au,av,aw,ax,ay⟩:=SlW.at' Z ah ai;obtain rfl:aw=_:=ax;refine W_v _ (QQ Tryd.underlying115 ty117 (slA au) J ah ai) J (QJ (cS B) (wfA Tryd.underlying117 ty4 J (QJ (cS B) (W_v _ (YG (S.frz av) ty4 J (ay 2 _ J)) J (QJ (cS B) (W_v _ (X5 (b:=((rd K U).Tomb)) J) J (wpB B J (QF ?_))))))));exact ⟨(!((rd K U).Tomb)),oi H,agP J,E,S.pk [0,1,2]⟩
   ·refine QX (skT B) J (QX (skT B) J (QX (skT B) J (QX (skT B) J (QX (skT B) J (QX (skT B) J (wqB B J (QF ?_)))))));exact ⟨false,oi H,agP J,E,S.pk [0,1,2]⟩
  rintro ρ bj ⟨a8,rfl,bd,E,S⟩;rw [QC bd];have H:=ar;refine wnQ ?_;rcases Q7 H with ⟨a3,H⟩ | ⟨a3,H⟩
  ·refine QD (cB a3) ?_;refine wsQ (wlA S 2 ty115 J (wmI J ?_));obtain ⟨⟨aj,ak⟩,H⟩:=Zj H;obtain ⟨bk,bl,bf,_,_,az,b0,b2,b3,b5⟩:=SlW.at' Z aj ak;obtain rfl:b2=_:=b3;refine W_v _ (QQ Tryd.underlying115 ty117 (slA az) J aj ak) J (W_v (.agg (XX (rd K U))) (Ql (S.frz b0) ty117 J (X1 b5 0 J) J J) J ?_);refine Qu S 1 J ty117 J J [vI ((rd K U).Writer),vI ((rd K U).TS),.bool ((rd K U).Tomb),vS ((rd K U).Value)] J J J (XX (rd K U)) J J (eE1 E ?_);intro bm E S;refine Qu S 0 J ty4 J J [.bool true] J J J #[.bool true] J J (eE1 E ?_);intro bo E S;refine wnQ ?_;refine QS ?_;refine br (?_);obtain rfl:=oi H;exact Jj J ab E (St.close_ex (φ:=(fun _ _=>True)) (hφ:=(fun _ _ _ _ _=>trivial)) () trivial (S.pk [0,1]))
  refine QB (cB a3) (QW (bn ?_));obtain rfl:=oi H;exact Jj trivial ab E (St.close_ex (φ:=(fun _ _=>True)) (hφ:=(fun _ _ _ _ _=>trivial)) () trivial (S.pk [0,1,2]))
 intro a4 a5 a9 b6 E' hΨ S;obtain rfl:a9=_:=hΨ;replace E:=E.trans E';replace HM:=Hp.le_trans HM b6;have H:=ao;rcases b9 with _ | a2
 ·replace H:=elimL H;refine KK ?_;replace S:St a4 a5 F (AE (ι:=Unit) (fun (i:Unit)=>[Blk b7 (.cells #[.bool false] 4 (0,0)),Blk b4 (.cells cz19 117 (0,0)),Blk b1 (.cells #[.slice W K.length Y] 115 (0,0))]) (fun _ _=>True) (fun _ _ _ _ _=>trivial)::[Blk af (.cells #[.slice W K.length Y] 115 (0,0)),Blk ag (.cells #[vI a1] 3 (0,0))]):=S;obtain ⟨_,_,S⟩:=S.open_ex;replace S:St a4 a5 F [_,_,_,_,_]:=S;refine bn (tn (wsQ (W_v _ (xb2 [(0,1),(1,1),(2,1),(3,1)] cz19 Tryd.underlying117 ty117 J) J ?_)));refine Qu S 1 J ty117 J J [vI 0,vI 0,.bool false,vS ([]:Str)] J J J cz19 J J (eE1 E ?_);intro bq E S;refine Qu S 0 J ty4 J J [.bool false] J J J #[.bool false] J J (eE1 E ?_);intro bt E S;refine wnQ ?_;refine QS ?_;obtain rfl:=oi H;exact ⟨_,_,_,fun w1 e1=>Zk (vs:=[.agg cz19,.bool false]) (FA.cons (rcA S e1 1 ty117 J J J) (FA.cons (⟨_,J,UD ty4 ((S.of_eq e1).blk 0 J) J⟩) (FA.nil))),HM,E,S.pk [],⟨J,J⟩⟩
 ·replace H:=elimR H;refine QB7 ?_;replace S:St a4 a5 F (AE (ι:=Unit) (fun (i:Unit)=>[Blk b7 (.cells #[.bool true] 4 (0,0)),B117 b4 a2]) (fun _ _=>True) (fun _ _ _ _ _=>trivial)::[Blk af (.cells #[.slice W K.length Y] 115 (0,0)),Blk ag (.cells #[vI a1] 3 (0,0))]):=S;obtain ⟨_,_,S⟩:=S.open_ex;replace S:St a4 a5 F [_,_,_,_]:=S;refine QS ?_;refine br (tr (?_));obtain rfl:=oi H;exact ⟨_,_,_,fun w1 e1=>Zk (vs:=[.agg (XX a2),.bool true]) (FA.cons (rcA S e1 1 ty117 J J J) (FA.cons (⟨_,J,UD ty4 ((S.of_eq e1).blk 0 J) J⟩) (FA.nil))),HM,E,S.pk [],⟨J,J⟩⟩
def Vd (k:Nat) (B:(List QZ)) (H:Int):Option (Bool) :=
 (Option.bind (α:=Bool) (if (decide ((B.length:Int)>(0:Int)))=true then (if 0≤(0:Int)∧(0:Int)<(B.length:Int) then some ((decide ((rd B (0:Int)).TS>H))) else none) else some (false)) (fun E=>some E))
theorem Vd.mono {k B E}: OLe (Vd k B E) (Vd (k+1) B E):=by
 unfold Vd;exact mo
theorem Vd.con {k M A0 c0} {K:(List QZ)} {Y:Int} {r:Bool} (h:Vd k K Y=some r) (aa:SlR ZU M (.slice A0 K.length c0) K): Con Tryd.prog 140 #[.slice A0 K.length c0,vI Y] M [] (fun v M' ab=>v=.bool r∧ab=[]):=by
 refine cwA Tryd.func140 J Tryd.ntmps140 Tryd.results140 J h ?_;intro w F rn S ah E HM H;unfold Vd at H;refine wsQ (waB J (wnQ (wsQ (wmL J (W_v _ (Qd (n:=K.length) Tryd.underlying115 J) J (wiB J J (wmB J ?_)))))));obtain ⟨ac,Z,a2⟩:=QL H;refine Q4 7 (fun ρ w'=>∃ (U:Bool),(U)=ac∧QY ρ [(15,.bool U)]∧Ext w w'∧St w' M F []) ?_ ?_
 ·have H:=Z;rcases Q7 H with ⟨B,H⟩ | ⟨B,H⟩
  ·refine QJ (cS B) (wmL J (QJ (cS B) ?_));obtain ⟨⟨V,W⟩,H⟩:=Zj H;obtain ⟨ai,aj,ag,_,_,a3,a4,a5,a6,a7⟩:=SlW.at' aa V W;obtain rfl:a5=_:=a6;refine W_v _ (QQ Tryd.underlying115 ty117 (slA a3) J V W) J (QJ (cS B) (wfA Tryd.underlying117 ty3 J (QJ (cS B) (W_v _ (YG (S.frz a4) ty3 J (a7 1 _ J)) J (QJ (cS B) (wmI J (QJ (cS B) (wiB J J (wpB B J (QF ?_))))))))));exact ⟨(decide ((rd K (0:Int)).TS>Y)),oi H,agP J,E,S.pk []⟩
  ·refine QX (skT B) J (QX (skT B) J (QX (skT B) J (QX (skT B) J (QX (skT B) J (QX (skT B) J (wqB B J (QF ?_)))))));exact ⟨false,oi H,agP J,E,S.pk []⟩
 rintro ρ ak ⟨U,rfl,ae,E,S⟩;rw [QC ae];have H:=a2;refine waB J (wnQ ?_);refine QS ?_;obtain rfl:=oi H;exact ⟨_,_,_,rsA (vs:=[_]) J,HM,E,S.pk [],⟨J,J⟩⟩
def YW (k:Nat) (B:Str) (E:Str):Option (Int) :=
 some (Lib.compareBytes B E)
theorem YW.mono {k B E}: OLe (YW k B E) (YW (k+1) B E):=by
 unfold YW;exact mo
theorem YW.con {k M} {B:Str} {K:Str} {r:Int} (h:YW k B K=some r): Con Tryd.prog 155 #[vS B,vS K] M [] (fun v M' U=>v=vI r∧U=[]):=by
 refine cwA Tryd.func155 J Tryd.ntmps155 Tryd.results155 J h ?_;intro w F Y S W E V H;unfold YW at H;refine wsQ (waI J (wnQ (wsQ (wmS J (wmS J (W_v (vI (Lib.compareBytes B K)) (x_cmp cmp166 J J) J (waI J (wnQ ?_))))))));refine QS ?_;obtain rfl:=oi H;exact ⟨_,_,_,rsA (vs:=[_]) J,V,E,S.pk [],⟨J,J⟩⟩
def VJ (k:Nat) (B:Str) (E:Str):Option (Int) :=
 (Option.bind (YW k B E) (fun H=>some H))
theorem VJ.mono {k B E}: OLe (VJ k B E) (VJ (k+1) B E):=by
 unfold VJ;have m1:=@YW.mono;exact mo
theorem VJ.con {k M} {K:Str} {U:Str} {r:Int} (h:VJ k K U=some r): Con Tryd.prog 150 #[vS K,vS U] M [] (fun v M' B=>v=vI r∧B=[]):=by
 refine cwA Tryd.func150 J Tryd.ntmps150 Tryd.results150 J h ?_;intro w F Z S Y E W H;unfold VJ at H;refine wsQ (waI J (wnQ (wsQ (wmS J (wmS J ?_)))));obtain ⟨t1,V,H⟩:=QL H;refine Zs fn155 (YW.con V) S J J flN (eE4 E ?_);rintro _ w3 _ B E S ⟨rfl,rfl⟩;refine waI J (wnQ ?_);refine QS ?_;obtain rfl:=oi H;exact ⟨_,_,_,rsA (vs:=[_]) J,W,E,S.pk [],⟨J,J⟩⟩
def Vq (k:Nat) (B:Str) (E:Str):Option (Int) :=
 (Option.bind (VJ k B E) (fun H=>some H))
theorem Vq.mono {k B E}: OLe (Vq k B E) (Vq (k+1) B E):=by
 unfold Vq;have m1:=@VJ.mono;exact mo
theorem Vq.con (k:Nat) (M:Hp) (K:Str) (U:Str) (r:Int)  (h:Vq k K U=some r):Con Tryd.prog 143 #[vS K,vS U] M [] (fun v M' B=>v=vI r∧B=[]):=by
 refine cwA Tryd.func143 J Tryd.ntmps143 Tryd.results143 J h ?_;intro w F Z S Y E W H;unfold Vq at H;refine wsQ (waI J (wnQ (wsQ (wmS J (wmS J ?_)))));obtain ⟨t1,V,H⟩:=QL H;refine Zs fn150 (VJ.con V) S J J flN (eE4 E ?_);rintro _ w3 _ B E S ⟨rfl,rfl⟩;refine waI J (wnQ ?_);refine QS ?_;obtain rfl:=oi H;exact ⟨_,_,_,rsA (vs:=[_]) J,W,E,S.pk [],⟨J,J⟩⟩
def Vh (k:Nat) (B:Str) (H:Str) (E:Str):Option (Bool) :=
 some ((sbin .leq H B)&&((sbin .eql E ([]:Str))||(sbin .lss B E)))
theorem Vh.mono {k B E H}: OLe (Vh k B E H) (Vh (k+1) B E H):=by
 unfold Vh;exact mo
theorem Vh.con {k M} {U:Str} {W:Str} {V:Str} {r:Bool} (h:Vh k U W V=some r): Con Tryd.prog 134 #[vS U,vS W,vS V] M [] (fun v M' a3=>v=.bool r∧a3=[]):=by
 refine cwA Tryd.func134 J Tryd.ntmps134 Tryd.results134 J h ?_;intro w F rn S a5 E HM H;unfold Vh at H;refine wsQ (waB J (wnQ (wsQ (wmS J (wmS J (W_v (.bool (sbin .leq W U)) (U2 J J J) J (wmB J ?_)))))));refine Q4 8 (fun Y w'=>QY Y [(18,.bool ((sbin .leq W U)&&((sbin .eql V ([]:Str))||(sbin .lss U V))))]∧w=w') ?_ ?_
 ·as_aux_lemma =>
   rcases Qw (sbin .leq W U) with B | B
   ·refine QX (skT B) J (QX (skT B) J (QX (skT B) J (QX (J) J (QX (J) J (QX (J) J (QX (skT B) J (wqB B J (QF ?_))))))));exact ⟨⟨(flB B),trivial⟩,rfl⟩
   ·refine QJ (cS B) (wmS J (QJ (cS B) (W_v (.bool (sbin .eql V ([]:Str))) (U2 J J J) J (QJ (cS B) (wmB J ?_)))));refine Q4 4 (fun Y w'=>QY Y [(10,.bool (sbin .leq W U)),(17,.bool ((sbin .eql V ([]:Str))||(sbin .lss U V)))]∧w=w') ?_ ?_
    ·rcases Qw (sbin .eql V ([]:Str)) with K | K
     ·refine QJ (cS K) (wmS J (QJ (cS K) (wmS J (QJ (cS K) (W_v (.bool (sbin .lss U V)) (U2 J J J) J (QJ (cS B) (wqB K J (QF ?_))))))));exact ⟨⟨J,(flB K),trivial⟩,rfl⟩
     ·refine QX (skF K) J (QX (skF K) J (QX (skF K) J (QJ (cS B) (wpB K J (QF ?_)))));exact ⟨⟨J,(flB K),trivial⟩,rfl⟩
    rintro Y _ ⟨Z,rfl⟩;rw [QC Z];refine wpB B J (QF ?_);exact ⟨⟨(flB B),trivial⟩,rfl⟩
 rintro Y _ ⟨Z,rfl⟩;rw [QC Z];refine waB J (wnQ ?_);refine QS ?_;obtain rfl:=oi H;exact ⟨_,_,_,rsA (vs:=[_]) J,HM,E,S.pk [],⟨J,J⟩⟩
def Zf (k:Nat) (B:List QZ):Option (List QZ) :=
 if ([]:List QZ).length+B.length≤3518437208883 then some (([]:List QZ)++B) else none
theorem Zf.mono {k B}: OLe (Zf k B) (Zf (k+1) B):=by
 unfold Zf;exact mo
theorem Zf.con {k M B U} {K:(List QZ)} {r:(List QZ)} (h:Zf k K=some r) (V:SlR ZU M (.slice B K.length U) K): Con Tryd.prog 146 #[.slice B K.length U] M [] (fun v M' Y=>∃ (B:Option Addr) (U:Nat),v=.slice B r.length U∧Y=[Rw ZU 117 B U r]):=by
 have H:=h;unfold Zf at H
 cases B with
 | none =>
  obtain ⟨_,H⟩:=Zj H;obtain rfl:K=[]:=SlW.none_nil V;refine VW Tryd.func146 J Tryd.ntmps146 Tryd.results146 J ?_;intro w F rn S Z;have E:=Ext.refl w;have W:=Hp.le_refl M;refine wsQ (waL J (wnQ (QG (wsQ (wmL J (W_v (.bool true) (Vo J J (run_equal_slice_nil _ _ _ _ _ _ Tryd.underlying115)) J (wnQ (QD J (wsQ (waL J ?_))))))))));refine wnQ ?_;refine QS ?_;refine tr (?_);obtain rfl:=oi H;replace S:=S.row_nil ZU 117;exact ⟨_,_,_,rsA (vs:=[_]) J,W,E,S.pk [0],⟨none,0,J,J⟩⟩
 | some ad =>
  refine VW Tryd.func146 J Tryd.ntmps146 Tryd.results146 J ?_;intro w F rn S Z;have E:=Ext.refl w;have W:=Hp.le_refl M;refine wsQ (waL J (wnQ (QG (wsQ (wmL J (W_v (.bool false) (Vo J J (run_equal_slice_nil _ _ _ _ _ _ Tryd.underlying115)) J (wnQ (QB J (QW (tn (QG ?_)))))))))));refine QN ?_;refine Yw S #[] Tryd.underlying115 ty117 J J #[] (by as_aux_lemma=>kernel_rfl) (by as_aux_lemma=>kernel_rfl) J (eE2 E ?_);intro b2 w3 E S;replace S:=S.blk_row (r:=ZU) (l:=([]:List QZ)) 0 J 0 (Nat.le_refl 0) J Cells.nil;refine wmL J ?_;obtain ⟨p5,H⟩:=Zj H;obtain ⟨a6,a1,a2⟩:=Z2 (P:=Tryd.prog) (ρ:=ZU) (l:=K) (SlR.world V S) (by decide);refine XW S 0 J J J Tryd.underlying115 (.inl Tryd.underlying115) ty117 J (by decide) (by decide) a1 a2 J (by omega) J (eE2 E ?_);intro v9 a7 E S;obtain ⟨a3,a4,rfl,_⟩:=(S.row_read 0 J).form;refine waL J (wnQ ?_);refine QS ?_;obtain rfl:=oi H;exact ⟨_,_,_,rsA (vs:=[_]) J,W,E,S.pk [0],⟨a3,a4,J,J⟩⟩
def Vg (V:(List QZ)) (k:Nat):(Int×Bool)→Int→Option ((Int)⊕(Unit))
 | (B,E),H=>(Option.bind (α:=Int) (if (!E)=true then some (H) else (if 0≤B∧B<(V.length:Int) then (Option.bind (α:=Int) (if (!((rd V B).Tomb))=true then some ((IntKind.i64.wrap (B+(1:Int)))) else some (B)) (fun K=>some (K))) else none)) (fun U=>some (.inl U)))
theorem Vg.mono {B k}: ∀ x s,OLe (Vg B k x s) (Vg B (k+1) x s):=by
 intro x s;unfold Vg;exact mo
def Vm (k:Nat) (E:(List QZ)) (U:Int):Option ((List QZ)) :=
 (Option.bind (VH k E U) (fun V=>(Option.bind (VI k E U (Vg E k) (E.length:Int)) (fun H=>Sum.elim (fun B=>(if 0≤B∧B≤B∧B≤(E.length:Int) then (Option.bind (Zf k (List.take B.toNat E)) (fun K=>some K)) else none)) (fun _=>none) H))))
theorem Vm.mono {k B E}: OLe (Vm k B E) (Vm (k+1) B E):=by
 unfold Vm
 repeat' (first | with_reducible exact OLe.none | with_reducible exact OLe.some | with_reducible refine OLe.ite ?_ ?_ | with_reducible refine OLe.bind ?_ (fun _=>?_) | with_reducible exact Vg.mono | exact VI.mono (fun _ _=>by first | exact Vg.mono _ _) | with_reducible exact VH.mono | with_reducible exact Zf.mono | refine OLe.bind ?_ (fun _=>?_) | refine OLe.ite ?_ ?_ | refine OLe.elim (fun _=>?_) (fun _=>?_) | split)
theorem Vm.con {k M V W} {B:(List QZ)} {a1:Int} {r:(List QZ)} (h:Vm k B a1=some r) (Z:SlR ZU M (.slice V B.length W) B): Con Tryd.prog 138 #[.slice V B.length W,vI a1] M [] (fun v M' a5=>∃ (V:Option Addr) (W:Nat),v=.slice V r.length W∧a5=[Rw ZU 117 V W r]):=by
 refine cwA Tryd.func138 J Tryd.ntmps138 Tryd.results138 J h ?_;intro w F rn S bu E HM H;unfold Vm at H;refine wsQ ?_;refine Y5 S #[.slice V B.length W] J J J (eE2 E ?_);intro b1 w2 E S;refine waL J (wnQ (wsQ (wlA S 0 ty115 J (W_v _ (Qd (n:=B.length) Tryd.underlying115 J) J ?_))));refine YN S #[vI 0] ty3 J J (eE2 E ?_);intro b4 w5 E S;refine Qu S 0 J ty3 J J [vI (B.length:Int)] J J J #[vI (B.length:Int)] J J (eE1 E ?_);intro w7 E S;refine wnQ (QG (wsQ (wlA S 1 ty115 J (wmI J ?_))));obtain ⟨t8,bf,H⟩:=QL H;refine Y0 fn145 (VH.con bf Z) (Γ1:=[]) (Γ2:=[_,_]) S J J (by rintro _ _ _ ⟨_,_,rfl,rfl⟩;exact (QO Za (QO Za YQ))) (eE4 E ?_);rintro _ bg _ a5 E S ⟨b3,b5,rfl,rfl⟩;replace S:St bg M F [_,_,_,_]:=S;refine wnQ ?_;refine Ze ?_;obtain ⟨b6,am,an⟩:=QL H;refine Ug (σ:=Int) (ε:=Unit) (Γi:=[Blk b3 (.cells #[.slice V B.length W] 115 (0,0)),Blk b5 (.cells #[vI a1] 3 (0,0))]) (Γr:=[]) (Sum.elim (fun K=>AE (ι:=Unit) (fun (i:Unit)=>[Blk b4 (.cells #[vI K] 3 (0,0)),Blk b1 (.cells #[.slice V B.length W] 115 (0,0))]) (fun _ _=>True) (fun _ _ _ _ _=>trivial)) (fun _=>Star [])) (fun _=>Code.ret) fn151 J (St.close_ex (φ:=(fun _ _=>True)) (hφ:=(fun _ _ _ _ _=>trivial)) () trivial (S.pk [2,3,0,1])) (by rintro _ _ _ rfl;rfl) (by decide) (VI.con am Z) ?_ ?_
 ·intro nn lp Y F yy vs K tt w a9 henc hbd S;obtain ⟨U,b7⟩:=yy;obtain rfl:=henc;replace HM:=Hp.le_trans HM a9;replace Z:=SlR.mono Z a9;replace S:St w Y F (AE (ι:=Unit) (fun (i:Unit)=>[Blk b4 (.cells #[vI K] 3 (0,0)),Blk b1 (.cells #[.slice V B.length W] 115 (0,0))]) (fun _ _=>True) (fun _ _ _ _ _=>trivial)::[]):=S;obtain ⟨_,_,S⟩:=S.open_ex;replace S:St w Y F [_,_]:=S;have E:=Ext.refl w;have ao:=Hp.le_refl Y;have H:=hbd;rw [Vg.eq_1] at H;refine wsQ (waI J (wnQ (QN (waB J (QF ?_)))));refine YS ⟨_,_,ao,E,S,?_⟩;intro w F E3 S;have E:=Ext.refl w;have ap:=Hp.le_refl Y;obtain ⟨b8,aq,aa⟩:=QL H;refine Xz (fun ρ w'=>∃ (a8:Int),(a8)=b8∧QY ρ [(2,pt b1 0),(4,.slice none 0 0),(5,pt b4 0)]∧Ext w w'∧St w' Y F [Blk b4 (.cells #[vI a8] 3 (0,0)),Blk b1 (.cells #[.slice V B.length W] 115 (0,0))]) ?_ ?_
  ·as_aux_lemma =>
    clear aa;have H:=aq;refine Ze ?_;refine QG (wsQ (wmB J (W_v _ (X5 (b:=b7) J) J (wnQ ?_))));rcases Q7 H with ⟨a2,H⟩ | ⟨a2,H⟩
    ·refine QD (cB a2) ?_;refine YV ?_;refine tx (bsm (?_));refine tn ?_;exact ⟨K,oi H,agP J,E,S.pk [0,1]⟩
    refine QB (cB a2) (QW (tn (wsQ (wmI J ?_))));refine Qu S 0 J ty3 J J [vI U] J J J #[vI U] J J (eE1 E ?_);intro bi E S;refine wnQ (wsQ (wlA S 1 ty115 J (wmI J ?_)));obtain ⟨⟨af,ag⟩,H⟩:=Zj H;obtain ⟨bj,bk,bh,_,_,ar,au,av,aw,ax⟩:=SlW.at' Z af ag;obtain rfl:av=_:=aw;refine W_v _ (QQ Tryd.underlying115 ty117 (slA ar) J af ag) J (wfA Tryd.underlying117 ty4 J (W_v _ (YG (S.frz au) ty4 J (ax 2 _ J)) J (W_v _ (X5 (b:=((rd B U).Tomb)) J) J (wnQ ?_))));obtain ⟨b9,ay,ab⟩:=QL H;refine Xz (fun ρ w'=>∃ (a3:Int),(a3)=b9∧QY ρ [(2,pt b1 0),(4,.slice none 0 0),(5,pt b4 0)]∧Ext w w'∧St w' Y F [Blk b4 (.cells #[vI a3] 3 (0,0)),Blk b1 (.cells #[.slice V B.length W] 115 (0,0))]) ?_ ?_
    ·clear ab;have H:=ay;rcases Q7 H with ⟨a4,H⟩ | ⟨a4,H⟩
     ·refine QD (cB a4) ?_;refine QN (wmI J (wiI J J ?_));refine Qu S 0 J ty3 J J [vI (IntKind.i64.wrap (U+(1:Int)))] J J J #[vI (IntKind.i64.wrap (U+(1:Int)))] J J (eE1 E ?_);intro bl E S;refine wnQ ?_;exact ⟨(IntKind.i64.wrap (U+(1:Int))),oi H,agP J,E,S.pk [0,1]⟩
     refine QB (cB a4) (QW (tn ?_));exact ⟨U,oi H,agP J,E,S.pk [0,1]⟩
    rintro ρ bm ⟨a3,rfl,ah,E,S⟩;rw [QC ah];have H:=ab;refine bn (tn ?_);exact ⟨a3,oi H,agP J,E,S.pk [0,1]⟩
  rintro ρ bo ⟨a8,rfl,ah,E,S⟩;rw [QC ah];have H:=aa;obtain rfl:=oi H;exact Jj trivial ap E (St.close_ex (φ:=(fun _ _=>True)) (hφ:=(fun _ _ _ _ _=>trivial)) () trivial (S.pk [0,1]))
 intro ai aj a5 ac E' hΨ S;obtain rfl:a5=_:=hΨ;replace E:=E.trans E';replace HM:=Hp.le_trans HM ac;replace Z:=SlR.mono Z ac;have H:=an;rcases b6 with K | _
 ·replace H:=elimL H;refine KK ?_;replace S:St ai aj F (AE (ι:=Unit) (fun (i:Unit)=>[Blk b4 (.cells #[vI K] 3 (0,0)),Blk b1 (.cells #[.slice V B.length W] 115 (0,0))]) (fun _ _=>True) (fun _ _ _ _ _=>trivial)::[Blk b3 (.cells #[.slice V B.length W] 115 (0,0)),Blk b5 (.cells #[vI a1] 3 (0,0))]):=S;obtain ⟨_,_,S⟩:=S.open_ex;replace S:St ai aj F [_,_,_,_]:=S;refine bn (tn (wsQ (wlA S 1 ty115 J (wlA S 0 ty3 J (wlA S 0 ty3 J ?_)))));obtain ⟨⟨ba,bb,bc⟩,H⟩:=Zj H;obtain ⟨az,b0⟩:=sl_hm Z ba bb bc;refine W_v (.slice V (List.take K.toNat B).length K.toNat) (b0 Tryd.underlying115 ty117 J J J) J ?_;obtain ⟨bq,b2,H⟩:=QL H;refine Zs fn146 (Zf.con b2 az) S J J (by rintro _ _ _ ⟨_,_,_,rfl⟩;exact (QO (Y9 (fun _ _ _ _ h=>h)) YQ)) (eE4 E ?_);rintro _ bt _ a5 E S ⟨bd,be,rfl,rfl⟩;refine waL J (wnQ ?_);refine QS ?_;obtain rfl:=oi H;exact ⟨_,_,_,rsA (vs:=[_]) J,HM,E,S.pk [0],⟨bd,be,J,J⟩⟩
 ·cases H
def YI (k:Nat) (B:List Qn):Option (List Qn) :=
 if ([]:List Qn).length+B.length≤4398046511104 then some (([]:List Qn)++B) else none
theorem YI.mono {k B}: OLe (YI k B) (YI (k+1) B):=by
 unfold YI;exact mo
theorem YI.con {k M B U} {K:(List Qn)} {r:(List Qn)} (h:YI k K=some r) (V:SlR Qr M (.slice B K.length U) K): Con Tryd.prog 80 #[.slice B K.length U] M [] (fun v M' Y=>∃ (B:Option Addr) (U:Nat),v=.slice B r.length U∧Y=[Rw Qr 72 B U r]):=by
 have H:=h;unfold YI at H
 cases B with
 | none =>
  obtain ⟨_,H⟩:=Zj H;obtain rfl:K=[]:=SlW.none_nil V;refine VW Tryd.func80 J Tryd.ntmps80 Tryd.results80 J ?_;intro w F rn S Z;have E:=Ext.refl w;have W:=Hp.le_refl M;refine wsQ (waL J (wnQ (QG (wsQ (wmL J (W_v (.bool true) (Vo J J (run_equal_slice_nil _ _ _ _ _ _ Tryd.underlying32)) J (wnQ (QD J (wsQ (waL J ?_))))))))));refine wnQ ?_;refine QS ?_;refine tr (?_);obtain rfl:=oi H;replace S:=S.row_nil Qr 72;exact ⟨_,_,_,rsA (vs:=[_]) J,W,E,S.pk [0],⟨none,0,J,J⟩⟩
 | some ad =>
  refine VW Tryd.func80 J Tryd.ntmps80 Tryd.results80 J ?_;intro w F rn S Z;have E:=Ext.refl w;have W:=Hp.le_refl M;refine wsQ (waL J (wnQ (QG (wsQ (wmL J (W_v (.bool false) (Vo J J (run_equal_slice_nil _ _ _ _ _ _ Tryd.underlying32)) J (wnQ (QB J (QW (tn (QG ?_)))))))))));refine QN ?_;refine Yw S #[] Tryd.underlying32 ty72 J J #[] (by as_aux_lemma=>kernel_rfl) (by as_aux_lemma=>kernel_rfl) J (eE2 E ?_);intro b2 w3 E S;replace S:=S.blk_row (r:=Qr) (l:=([]:List Qn)) 0 J 0 (Nat.le_refl 0) J Cells.nil;refine wmL J ?_;obtain ⟨p5,H⟩:=Zj H;obtain ⟨a6,a1,a2⟩:=Z2 (P:=Tryd.prog) (ρ:=Qr) (l:=K) (SlR.world V S) (by decide);refine XW S 0 J J J Tryd.underlying32 (.inl Tryd.underlying32) ty72 J (by decide) (by decide) a1 a2 J (by omega) J (eE2 E ?_);intro v9 a7 E S;obtain ⟨a3,a4,rfl,_⟩:=(S.row_read 0 J).form;refine waL J (wnQ ?_);refine QS ?_;obtain rfl:=oi H;exact ⟨_,_,_,rsA (vs:=[_]) J,W,E,S.pk [0],⟨a3,a4,J,J⟩⟩
def Ve (k:Nat) (B:QA):Option (QA) :=
 (Option.bind (YI k B.Answer.Pairs) (fun E=>some (⟨B.What,B.Task,B.Call,⟨B.Answer.Err,B.Answer.Found,B.Answer.Value,E⟩⟩:QA)))
theorem Ve.mono {k B}: OLe (Ve k B) (Ve (k+1) B):=by
 unfold Ve;have m1:=@YI.mono;exact mo
theorem Ve.con {k M A0_0 c0_0} {B:QA} {r:QA} (h:Ve k B=some r) (hr0_0:SlR Qr M (.slice A0_0 B.Answer.Pairs.length c0_0) B.Answer.Pairs): Con Tryd.prog 68 #[.agg #[vU B.What,vI B.Task,vI B.Call,vI B.Answer.Err,.bool B.Answer.Found,vS B.Answer.Value,.slice A0_0 B.Answer.Pairs.length c0_0]] M [] (fun v M' W=>∃ (Y:Option Addr) (Z:Nat),v=.agg #[vU r.What,vI r.Task,vI r.Call,vI r.Answer.Err,.bool r.Answer.Found,vS r.Answer.Value,.slice Y r.Answer.Pairs.length Z]∧W=[Rw Qr 72 Y Z r.Answer.Pairs]):=by
 refine cwA Tryd.func68 J Tryd.ntmps68 Tryd.results68 J h ?_;intro w F rn S a4 E HM H;unfold Ve at H;refine wsQ ?_;refine Y5 S #[vU B.What,vI B.Task,vI B.Call,vI B.Answer.Err,.bool B.Answer.Found,vS B.Answer.Value,.slice A0_0 B.Answer.Pairs.length c0_0] J J J (eE2 E ?_);intro b1 w2 E S;refine YN S cz7 ty55 J J (eE2 E ?_);intro b4 w5 E S;refine wnQ (wsQ (wfA Tryd.underlying55 ty34 J (wfA Tryd.underlying34 ty32 J (wlA S 1 ty32 J ?_))));obtain ⟨V,a1,H⟩:=QL H;refine Zs fn80 (YI.con a1 hr0_0) S J J (by rintro _ _ _ ⟨_,_,_,rfl⟩;exact (QO (Y9 (fun _ _ _ _ h=>h)) YQ)) (eE4 E ?_);rintro _ a5 _ W E S ⟨U,K,rfl,rfl⟩;refine wfA Tryd.underlying55 ty34 J (wfA Tryd.underlying34 ty32 J ?_);refine Qu S 2 J ty32 J J [.slice U V.length K] J J J #[vU B.What,vI B.Task,vI B.Call,vI B.Answer.Err,.bool B.Answer.Found,vS B.Answer.Value,.slice U V.length K] J J (eE1 E ?_);intro a6 E S;refine wnQ (wsQ (W_v (.agg #[vU B.What,vI B.Task,vI B.Call,vI B.Answer.Err,.bool B.Answer.Found,vS B.Answer.Value,.slice U V.length K]) (Ql (S.blk 2 J) ty55 J (QM J) J J) J ?_));refine Qu S 1 J ty55 J J [vU B.What,vI B.Task,vI B.Call,vI B.Answer.Err,.bool B.Answer.Found,vS B.Answer.Value,.slice U V.length K] J J J #[vU B.What,vI B.Task,vI B.Call,vI B.Answer.Err,.bool B.Answer.Found,vS B.Answer.Value,.slice U V.length K] (by as_aux_lemma=>kernel_rfl) J (eE1 E ?_);intro a7 E S;refine wnQ ?_;refine QS ?_;obtain rfl:=oi H;exact ⟨_,_,_,fun w1 e1=>Zk (vs:=[.agg #[vU B.What,vI B.Task,vI B.Call,vI B.Answer.Err,.bool B.Answer.Found,vS B.Answer.Value,.slice U V.length K]]) (FA.cons (rcA S e1 1 ty55 J J J) (FA.nil)),HM,E,S.pk [0],⟨U,K,J,J⟩⟩
def Xm (E:(List QA)):Nat→List QA→Int→Option ((List QA))
 | 0,_,_=>none
 | k+1,H,B=>(if (decide (B<(E.length:Int)))=true then (if 0≤B∧B<(E.length:Int) then (Option.bind (α:=List QA) (if ((rd E B).What==(3:Int))=true then (if H.length+([(⟨(2:Int),((rd E B).Task),((rd E B).Call),⟨(0:Int),false,([]:Str),([]:(List Qn))⟩⟩:QA)]:List QA).length≤1759218604441 then some ((H++([(⟨(2:Int),((rd E B).Task),((rd E B).Call),⟨(0:Int),false,([]:Str),([]:(List Qn))⟩⟩:QA)]:List QA))) else none) else some (H)) (fun K=>(if K.length+([(rd E B)]:List QA).length≤1759218604441 then Xm E k (K++([(rd E B)]:List QA)) (IntKind.i64.wrap (B+(1:Int))) else none))) else none) else some (H))
theorem Xm.mono {B}: ∀ {kl:Nat} {x0 E},OLe (Xm B kl x0 E) (Xm B (kl+1) x0 E):=by
 intro kl
 induction kl with
 | zero=>intros;exact OLe.none
 | succ kl ih =>
  intros
  rw [Xm.eq_2,Xm.eq_2];exact mo
def VC (k:Nat) (E:(List QA)):Option ((List QA)) :=
 (Option.bind (Xm E k ([]:List QA) (0:Int)) (fun B=>some B))
theorem VC.mono {k B}: OLe (VC k B) (VC (k+1) B):=by
 unfold VC;have m1:=@Xm.mono;exact mo
theorem VC.con {k M A0 c0} {K:(List QA)} {r:(List QA)} (h:VC k K=some r) (b1:SlR QH M (.slice A0 K.length c0) K): Con Tryd.prog 31 #[.slice A0 K.length c0] M [] (fun v M' b2=>∃ (A0:Option Addr) (c0:Nat),v=.slice A0 r.length c0∧b2=[Rw QH 55 A0 c0 r]):=by
 refine cwA Tryd.func31 J Tryd.ntmps31 Tryd.results31 J h ?_;intro w F rn S bt E HM H;unfold VC at H;refine wsQ (waL J (wnQ (wsQ (waL J (wnQ (QG (wsQ (wmL J (W_v _ (Qd (n:=K.length) Tryd.underlying25 J) J (wmI J ?_))))))))));refine wnQ ?_;obtain ⟨ae,ai,aj⟩:=QL H;refine Zr (fun ρ w'=>∃ (a2:List QA) (a3:Option Addr) (a4:Nat),(a2)=ae∧QY ρ [(3,.slice a3 a2.length a4)]∧Ext w w'∧St w' M F [Rw QH 55 a3 a4 a2]) ?_ ?_
 ·refine Yt (fun n ρ w'=>∃ (U:List QA) (B:Int) (Y:Option Addr) (Z:Nat),Xm K n U B=some ae∧QY ρ [(3,.slice Y U.length Z),(6,.slice A0 K.length c0),(7,vI (K.length:Int)),(8,vI B)]∧Ext w w'∧St w' M F [Rw QH 55 Y Z U]) k ?_ ?_
  ·replace S:=S.row_nil QH 55;exact ⟨([]:List QA),(0:Int),none,0,ai,agP J,E,S.pk [0]⟩
  ·intro n;rintro ρ b8 ⟨U,B,Y,Z,H,a7,E,S⟩;rw [QC a7]
   cases n with
   | zero=>cases H
   | succ k =>
    rw [Xm.eq_2] at H;refine wsQ (wiB J J (wnQ (QG ?_)));rcases Q7 H with ⟨a5,H⟩ | ⟨a5,H⟩
    ·refine QD (cB a5) ?_;refine QW (tn (QG ?_));refine Ze ?_;refine wsQ ?_;obtain ⟨⟨af,ag⟩,H⟩:=Zj H;obtain ⟨b9,ba,b5,_,_,ak,am,b6,an,ao⟩:=SlW.at' b1 af ag;obtain ⟨bb,ac,rfl⟩:=an;obtain ⟨V,W,rfl,_⟩:=ac.form;refine W_v _ (QQ Tryd.underlying25 ty55 (slA ak) J af ag) J (W_v (.agg #[vU ((rd K B).What),vI ((rd K B).Task),vI ((rd K B).Call),vI ((rd K B).Answer.Err),.bool ((rd K B).Answer.Found),vS ((rd K B).Answer.Value),.slice V ((rd K B).Answer.Pairs).length W]) (Ql (S.frz am) ty55 J (X1 ao 0 J) J J) J ?_);refine YN S cz7 ty55 J J (eE2 E ?_);intro ah bc E S;refine Qu S 0 J ty55 J J [vU ((rd K B).What),vI ((rd K B).Task),vI ((rd K B).Call),vI ((rd K B).Answer.Err),.bool ((rd K B).Answer.Found),vS ((rd K B).Answer.Value),.slice V ((rd K B).Answer.Pairs).length W] J J J #[vU ((rd K B).What),vI ((rd K B).Task),vI ((rd K B).Call),vI ((rd K B).Answer.Err),.bool ((rd K B).Answer.Found),vS ((rd K B).Answer.Value),.slice V ((rd K B).Answer.Pairs).length W] (by as_aux_lemma=>kernel_rfl) J (eE1 E ?_);intro bd E S;refine wnQ (QG (wsQ (wfA Tryd.underlying55 ty5 J (wlA S 0 ty5 J (wiB J J (wnQ ?_))))));obtain ⟨aw,ap,ad⟩:=QL H;refine Xz (fun ρ w'=>∃ (a1:List QA) (aa:Option Addr) (ab:Nat),(a1)=aw∧QY ρ [(3,.slice aa a1.length ab),(5,pt ah 0),(6,.slice A0 K.length c0),(7,vI (K.length:Int)),(8,vI B)]∧Ext w w'∧St w' M F [Rw QH 55 aa ab a1,B55 ah (rd K B) V W]) ?_ ?_
     ·clear ad;have H:=ap;rcases Q7 H with ⟨a6,H⟩ | ⟨a6,H⟩
      ·refine QD (cB a6) ?_;refine QN (wmL J (wfA Tryd.underlying55 ty3 J (wlA S 0 ty3 J (wfA Tryd.underlying55 ty3 J (wlA S 0 ty3 J (W_v _ (xb2 [(0,1),(1,1),(2,1),(3,4)] #[vU 2,vI ((rd K B).Task),vI ((rd K B).Call),vI 0,.bool false,vS ([]:Str),.slice none 0 0] Tryd.underlying55 ty55 J) J ?_))))));refine Yw S #[vU 2,vI ((rd K B).Task),vI ((rd K B).Call),vI 0,.bool false,vS ([]:Str),.slice none 0 0] Tryd.underlying25 ty55 J J cz7 (by as_aux_lemma=>kernel_rfl) (by as_aux_lemma=>kernel_rfl) J (eE2 E ?_);intro be bf E S;replace S:=S.blk_row (r:=QH) (l:=([(⟨(2:Int),((rd K B).Task),((rd K B).Call),⟨(0:Int),false,([]:Str),([]:(List Qn))⟩⟩:QA)]:List QA)) 0 J 1 (Nat.le_refl 1) J (Cells.cons (vs:=[vU 2,vI ((rd K B).Task),vI ((rd K B).Call),vI 0,.bool false,vS ([]:Str),.slice none 0 0]) (⟨_,(SlW.nil _ _),J⟩) Cells.nil);obtain ⟨bg,H⟩:=Zj H;obtain ⟨b3,aq,ar⟩:=Z2 (P:=Tryd.prog) (ρ:=QH) (l:=([(⟨(2:Int),((rd K B).Task),((rd K B).Call),⟨(0:Int),false,([]:Str),([]:(List Qn))⟩⟩:QA)]:List QA)) (S.row_read 0 J) (by decide);refine XW S 2 J J J Tryd.underlying25 (.inl Tryd.underlying25) ty55 J (by decide) (by decide) aq ar J (by omega) J (eE2 E ?_);intro bh bi E S;obtain ⟨ax,ay,rfl,_⟩:=(S.row_read 2 J).form;refine waL J (wnQ ?_);exact ⟨(U++([(⟨(2:Int),((rd K B).Task),((rd K B).Call),⟨(0:Int),false,([]:Str),([]:(List Qn))⟩⟩:QA)]:List QA)),ax,ay,oi H,agP J,E,S.pk [2,1]⟩
      refine QB (cB a6) (QW (tn ?_));exact ⟨U,Y,Z,oi H,agP J,E,S.pk [1,0]⟩
     rintro ρ bj ⟨a1,aa,ab,rfl,a7,E,S⟩;rw [QC a7];have H:=ad;refine tn (QN (wmL J (W_v (.agg #[vU ((rd K B).What),vI ((rd K B).Task),vI ((rd K B).Call),vI ((rd K B).Answer.Err),.bool ((rd K B).Answer.Found),vS ((rd K B).Answer.Value),.slice V ((rd K B).Answer.Pairs).length W]) (Ql (S.blk 1 J) ty55 J (QM J) J J) J ?_)));refine Yw S #[vU ((rd K B).What),vI ((rd K B).Task),vI ((rd K B).Call),vI ((rd K B).Answer.Err),.bool ((rd K B).Answer.Found),vS ((rd K B).Answer.Value),.slice V ((rd K B).Answer.Pairs).length W] Tryd.underlying25 ty55 J J cz7 (by as_aux_lemma=>kernel_rfl) (by as_aux_lemma=>kernel_rfl) J (eE2 E ?_);intro bk bl E S;replace S:=S.blk_row (r:=QH) (l:=([(rd K B)]:List QA)) 0 J 1 (Nat.le_refl 1) J (Cells.cons (vs:=[vU ((rd K B).What),vI ((rd K B).Task),vI ((rd K B).Call),vI ((rd K B).Answer.Err),.bool ((rd K B).Answer.Found),vS ((rd K B).Answer.Value),.slice V ((rd K B).Answer.Pairs).length W]) (⟨_,ac,J⟩) Cells.nil);obtain ⟨bm,H⟩:=Zj H;obtain ⟨b4,au,av⟩:=Z2 (P:=Tryd.prog) (ρ:=QH) (l:=([(rd K B)]:List QA)) (S.row_read 0 J) (by decide);refine XW S 1 J J J Tryd.underlying25 (.inl Tryd.underlying25) ty55 J (by decide) (by decide) au av J (by omega) J (eE2 E ?_);intro bo bp E S;obtain ⟨az,b0,rfl,_⟩:=(S.row_read 1 J).form;refine waL J (QF (bn (tn (QN (wiI J J (wmI J (wnQ ?_)))))));exact ⟨k,Nat.lt_succ_self k,⟨(a1++([(rd K B)]:List QA)),(IntKind.i64.wrap (B+(1:Int))),az,b0,H,agP J,E,S.pk [1]⟩⟩
    refine QB (cB a5) ?_;refine YV ?_;refine tx (tx (bsm (?_)));refine tn ?_;exact ⟨U,Y,Z,oi H,agP J,E,S.pk [0]⟩
 rintro ρ bq ⟨a2,a3,a4,rfl,a7,E,S⟩;rw [QC a7];have H:=aj;refine tn ?_
 as_aux_lemma =>
 refine wsQ (wmL J (waL J (wnQ ?_)));refine QS ?_;obtain rfl:=oi H;exact ⟨_,_,_,rsA (vs:=[_]) J,HM,E,S.pk [0],⟨a3,a4,J,J⟩⟩
def YO (k:Nat) (B:List Int):Option (List Int) :=
 if ([]:List Int).length+B.length≤17592186044416 then some (([]:List Int)++B) else none
theorem YO.mono {k B}: OLe (YO k B) (YO (k+1) B):=by
 unfold YO;exact mo
theorem YO.con {k M B U} {K:(List Int)} {r:(List Int)} (h:YO k K=some r) (V:SlR (rInt .i64) M (.slice B K.length U) K): Con Tryd.prog 36 #[.slice B K.length U] M [] (fun v M' Y=>∃ (B:Option Addr) (U:Nat),v=.slice B r.length U∧Y=[Rw (rInt .i64) 3 B U r]):=by
 have H:=h;unfold YO at H
 cases B with
 | none =>
  obtain ⟨_,H⟩:=Zj H;obtain rfl:K=[]:=SlW.none_nil V;refine VW Tryd.func36 J Tryd.ntmps36 Tryd.results36 J ?_;intro w F rn S Z;have E:=Ext.refl w;have W:=Hp.le_refl M;refine wsQ (waL J (wnQ (QG (wsQ (wmL J (W_v (.bool true) (Vo J J (run_equal_slice_nil _ _ _ _ _ _ Tryd.underlying36)) J (wnQ (QD J (wsQ (waL J ?_))))))))));refine wnQ ?_;refine QS ?_;refine tr (?_);obtain rfl:=oi H;replace S:=S.row_nil (rInt .i64) 3;exact ⟨_,_,_,rsA (vs:=[_]) J,W,E,S.pk [0],⟨none,0,J,J⟩⟩
 | some ad =>
  refine VW Tryd.func36 J Tryd.ntmps36 Tryd.results36 J ?_;intro w F rn S Z;have E:=Ext.refl w;have W:=Hp.le_refl M;refine wsQ (waL J (wnQ (QG (wsQ (wmL J (W_v (.bool false) (Vo J J (run_equal_slice_nil _ _ _ _ _ _ Tryd.underlying36)) J (wnQ (QB J (QW (tn (QG ?_)))))))))));refine QN ?_;refine Yw S #[] Tryd.underlying36 ty3 J J #[] (by as_aux_lemma=>kernel_rfl) (by as_aux_lemma=>kernel_rfl) J (eE2 E ?_);intro b2 w3 E S;replace S:=S.blk_row (r:=(rInt .i64)) (l:=([]:List Int)) 0 J 0 (Nat.le_refl 0) J Cells.nil;refine wmL J ?_;obtain ⟨p5,H⟩:=Zj H;obtain ⟨a6,a1,a2⟩:=Z2 (P:=Tryd.prog) (ρ:=(rInt .i64)) (l:=K) (SlR.world V S) (by decide);refine XW S 0 J J J Tryd.underlying36 (.inl Tryd.underlying36) ty3 J (by decide) (by decide) a1 a2 J (by omega) J (eE2 E ?_);intro v9 a7 E S;obtain ⟨a3,a4,rfl,_⟩:=(S.row_read 0 J).form;refine waL J (wnQ ?_);refine QS ?_;obtain rfl:=oi H;exact ⟨_,_,_,rsA (vs:=[_]) J,W,E,S.pk [0],⟨a3,a4,J,J⟩⟩
theorem clone71:IsClone Tryd.prog 71:=⟨_,Tryd.func71,by kernel_rfl,by kernel_rfl,by kernel_rfl,by kernel_rfl⟩
theorem maps_Clone_90.con {M A} {l:List (XR×Int)}: Con Tryd.prog 55 #[.map (mb A)] M [XO QK (Value.int .i64) A l] (fun v M' B=>∃ b:Nat,v=.map (mb (some ⟨b,0,none⟩))∧B=[XO QK (Value.int .i64) (some ⟨b,0,none⟩) l,XO QK (Value.int .i64) A l]):=by
 refine VW Tryd.func55 J Tryd.ntmps55 Tryd.results55 J ?_;intro w F V S U;have E:=Ext.refl w;have H:=Hp.le_refl M;obtain ⟨K,rfl,_⟩:=S.mapC 0 J;refine wsQ (W_v (.map none) (YZ J) J (wnQ (QG (wsQ (wmM J (W_v (.bool false) (U3 Tryd.underlying90 J J) J (wnQ (QB J (QW (tn (QG ?_)))))))))));refine QN (wmM J (W_v (.iface 90 (.map (mb (some ⟨K,0,none⟩)))) (UJ Tryd.underlying90 J) J ?_));refine Uq clone71 S 0 J J J (eE2 E ?_);intro b w1 E S;refine W_v (.map (mb (some ⟨b,0,none⟩))) (Ul Tryd.underlying90 J) J (waM J (wnQ ?_));refine QS ?_;exact ⟨_,_,_,rsA (vs:=[_]) J,H,E,S.pk [0,1],⟨b,J,J⟩⟩
theorem maps_Clone_91.con {M A} {l:List (Int×Int)}: Con Tryd.prog 56 #[.map (mb A)] M [MpI A l] (fun v M' B=>∃ b:Nat,v=.map (mb (some ⟨b,0,none⟩))∧B=[MpI (some ⟨b,0,none⟩) l,MpI A l]):=by
 refine VW Tryd.func56 J Tryd.ntmps56 Tryd.results56 J ?_;intro w F V S U;have E:=Ext.refl w;have H:=Hp.le_refl M;obtain ⟨K,rfl,_⟩:=S.mapC 0 J;refine wsQ (W_v (.map none) (YZ J) J (wnQ (QG (wsQ (wmM J (W_v (.bool false) (U3 Tryd.underlying91 J J) J (wnQ (QB J (QW (tn (QG ?_)))))))))));refine QN (wmM J (W_v (.iface 91 (.map (mb (some ⟨K,0,none⟩)))) (UJ Tryd.underlying91 J) J ?_));refine Uq clone71 S 0 J J J (eE2 E ?_);intro b w1 E S;refine W_v (.map (mb (some ⟨b,0,none⟩))) (Ul Tryd.underlying91 J) J (waM J (wnQ ?_));refine QS ?_;exact ⟨_,_,_,rsA (vs:=[_]) J,H,E,S.pk [0,1],⟨b,J,J⟩⟩
theorem maps_Clone_92.con {M A} {l:List (Str×Value)}: Con Tryd.prog 57 #[.map (mb A)] M [MpV A l] (fun v M' B=>∃ b:Nat,v=.map (mb (some ⟨b,0,none⟩))∧B=[MpV (some ⟨b,0,none⟩) l,MpV A l]):=by
 refine VW Tryd.func57 J Tryd.ntmps57 Tryd.results57 J ?_;intro w F V S U;have E:=Ext.refl w;have H:=Hp.le_refl M;obtain ⟨K,rfl,_⟩:=S.mapC 0 J;refine wsQ (W_v (.map none) (YZ J) J (wnQ (QG (wsQ (wmM J (W_v (.bool false) (U3 Tryd.underlying92 J J) J (wnQ (QB J (QW (tn (QG ?_)))))))))));refine QN (wmM J (W_v (.iface 92 (.map (mb (some ⟨K,0,none⟩)))) (UJ Tryd.underlying92 J) J ?_));refine Uq clone71 S 0 J J J (eE2 E ?_);intro b w1 E S;refine W_v (.map (mb (some ⟨b,0,none⟩))) (Ul Tryd.underlying92 J) J (waM J (wnQ ?_));refine QS ?_;exact ⟨_,_,_,rsA (vs:=[_]) J,H,E,S.pk [0,1],⟨b,J,J⟩⟩
def YH (k:Nat) (B:List Xd):Option (List Xd) :=
 if ([]:List Xd).length+B.length≤8796093022208 then some (([]:List Xd)++B) else none
theorem YH.mono {k B}: OLe (YH k B) (YH (k+1) B):=by
 unfold YH;exact mo
theorem YH.con {k M B U} {K:(List Xd)} {r:(List Xd)} (h:YH k K=some r) (V:SlR Qb M (.slice B K.length U) K): Con Tryd.prog 58 #[.slice B K.length U] M [] (fun v M' Y=>∃ (B:Option Addr) (U:Nat),v=.slice B r.length U∧Y=[Rw Qb 122 B U r]):=by
 have H:=h;unfold YH at H
 cases B with
 | none =>
  obtain ⟨_,H⟩:=Zj H;obtain rfl:K=[]:=SlW.none_nil V;refine VW Tryd.func58 J Tryd.ntmps58 Tryd.results58 J ?_;intro w F rn S Z;have E:=Ext.refl w;have W:=Hp.le_refl M;refine wsQ (waL J (wnQ (QG (wsQ (wmL J (W_v (.bool true) (Vo J J (run_equal_slice_nil _ _ _ _ _ _ Tryd.underlying93)) J (wnQ (QD J (wsQ (waL J ?_))))))))));refine wnQ ?_;refine QS ?_;refine tr (?_);obtain rfl:=oi H;replace S:=S.row_nil Qb 122;exact ⟨_,_,_,rsA (vs:=[_]) J,W,E,S.pk [0],⟨none,0,J,J⟩⟩
 | some ad =>
  refine VW Tryd.func58 J Tryd.ntmps58 Tryd.results58 J ?_;intro w F rn S Z;have E:=Ext.refl w;have W:=Hp.le_refl M;refine wsQ (waL J (wnQ (QG (wsQ (wmL J (W_v (.bool false) (Vo J J (run_equal_slice_nil _ _ _ _ _ _ Tryd.underlying93)) J (wnQ (QB J (QW (tn (QG ?_)))))))))));refine QN ?_;refine Yw S #[] Tryd.underlying93 ty122 J J #[] (by as_aux_lemma=>kernel_rfl) (by as_aux_lemma=>kernel_rfl) J (eE2 E ?_);intro b2 w3 E S;replace S:=S.blk_row (r:=Qb) (l:=([]:List Xd)) 0 J 0 (Nat.le_refl 0) J Cells.nil;refine wmL J ?_;obtain ⟨p5,H⟩:=Zj H;obtain ⟨a6,a1,a2⟩:=Z2 (P:=Tryd.prog) (ρ:=Qb) (l:=K) (SlR.world V S) (by decide);refine XW S 0 J J J Tryd.underlying93 (.inl Tryd.underlying93) ty122 J (by decide) (by decide) a1 a2 J (by omega) J (eE2 E ?_);intro v9 a7 E S;obtain ⟨a3,a4,rfl,_⟩:=(S.row_read 0 J).form;refine waL J (wnQ ?_);refine QS ?_;obtain rfl:=oi H;exact ⟨_,_,_,rsA (vs:=[_]) J,W,E,S.pk [0],⟨a3,a4,J,J⟩⟩
def VM (k:Nat) (B:Int) (E:Int):Option (Int×Int) :=
 (Option.bind (α:=Int) (some (IntKind.u64.wrap ((iand .u64 B (4294967295:Int))*(iand .u64 E (4294967295:Int))))) (fun H=>(Option.bind (α:=Int) (some (IntKind.u64.wrap ((ishr .u64 B (32:Int))*(iand .u64 E (4294967295:Int))))) (fun K=>(Option.bind (α:=Int) (some (iand .u64 (IntKind.u64.wrap (K+(ishr .u64 H (32:Int)))) (4294967295:Int))) (fun W=>(Option.bind (α:=Int) (some (ishr .u64 (IntKind.u64.wrap (K+(ishr .u64 H (32:Int)))) (32:Int))) (fun Y=>(Option.bind (α:=Int) (some (IntKind.u64.wrap ((iand .u64 B (4294967295:Int))*(ishr .u64 E (32:Int))))) (fun Z=>(Option.bind (α:=Int) (some (IntKind.u64.wrap ((ishr .u64 B (32:Int))*(ishr .u64 E (32:Int))))) (fun U=>(Option.bind (α:=Int) (some (IntKind.u64.wrap ((IntKind.u64.wrap (U+Y))+(ishr .u64 (IntKind.u64.wrap (W+Z)) (32:Int))))) (fun V=>some (V,(IntKind.u64.wrap (B*E)))))))))))))))))
theorem VM.mono {k B E}: OLe (VM k B E) (VM (k+1) B E):=by
 unfold VM;exact mo
theorem VM.con {k M} {a0:Int} {a1:Int} {r:Int×Int} (h:VM k a0 a1=some r): Con Tryd.prog 73 #[.int .u64 a0,.int .u64 a1] M [] (fun v M' a8=>v=.tuple #[.int .u64 r.1,.int .u64 r.2]∧a8=[]):=by
 refine cwA Tryd.func73 J Tryd.ntmps73 Tryd.results73 J h ?_;intro w F rn S ad E HM H;unfold VM at H;refine wsQ (waI J (waI J (wnQ (wsQ (wmI J (W_v (.int .u64 (iand .u64 a0 (4294967295:Int))) (QBO J J) J (waI J (wnQ (wsQ (wmI J ?_))))))))));refine W_v (.int .u64 (ishr .u64 a0 (32:Int))) (qC J J (by decide)) J (waI J (wnQ (wsQ (wmI J (W_v (.int .u64 (iand .u64 a1 (4294967295:Int))) (QBO J J) J (waI J (wnQ (wsQ (wmI J (W_v (.int .u64 (ishr .u64 a1 (32:Int))) (qC J J (by decide)) J (waI J ?_)))))))))));refine wnQ (wsQ (wmI J (wmI J ?_)));obtain ⟨x1,V,H⟩:=QL H;replace V:=oi V;refine W_v (.int .u64 x1) ((by rw [← V];exact V5 rfl rfl rfl rfl)) rfl (waI J (wnQ (wsQ (wmI J (wmI J ?_)))));obtain ⟨x3,W,H⟩:=QL H;replace W:=oi W;refine W_v (.int .u64 x3) ((by rw [← W];exact V5 rfl rfl rfl rfl)) rfl (wmI J (W_v (.int .u64 (ishr .u64 x1 (32:Int))) (qC rfl rfl (by decide)) rfl (W_v (.int .u64 (IntKind.u64.wrap (x3+(ishr .u64 x1 (32:Int))))) (V5 rfl rfl rfl rfl) rfl (waI J (wnQ ?_)))))
 as_aux_lemma =>
 refine wsQ (wmI J ?_);obtain ⟨x5,Y,H⟩:=QL H;replace Y:=oi Y;refine W_v (.int .u64 x5) ((by rw [← Y];exact QBO rfl rfl)) rfl (waI J (wnQ (wsQ (wmI J ?_))));obtain ⟨x7,Z,H⟩:=QL H;replace Z:=oi Z;refine W_v (.int .u64 x7) ((by rw [← Z];exact qC rfl rfl (by decide))) rfl (waI J (wnQ (wsQ (wmI J (wmI J (wmI J ?_))))));obtain ⟨x9,B,H⟩:=QL H;replace B:=oi B;refine W_v (.int .u64 x9) ((by rw [← B];exact V5 rfl rfl rfl rfl)) rfl (W_v (.int .u64 (IntKind.u64.wrap (x5+x9))) (V5 rfl rfl rfl rfl) rfl (waI J (wnQ (wsQ (wmI J (wmI J ?_))))));obtain ⟨a4,K,H⟩:=QL H;replace K:=oi K;refine W_v (.int .u64 a4) ((by rw [← K];exact V5 rfl rfl rfl rfl)) rfl (wmI J (W_v (.int .u64 (IntKind.u64.wrap (a4+x7))) (V5 rfl rfl rfl rfl) rfl (wmI J (W_v (.int .u64 (ishr .u64 (IntKind.u64.wrap (x5+x9)) (32:Int))) (qC rfl rfl (by decide)) rfl ?_))));obtain ⟨ab,U,H⟩:=QL H;replace U:=oi U;refine W_v (.int .u64 ab) ((by rw [← U];exact V5 rfl rfl rfl rfl)) rfl (waI J (wnQ ?_))
 as_aux_lemma =>
 refine wsQ (wmI J (wmI J (wiI J J (waI J (wnQ ?_)))));refine QS ?_;obtain rfl:=oi H;exact ⟨_,_,_,rsA (vs:=[_,_]) J,HM,E,S.pk [],⟨J,J⟩⟩
def VR (k:Nat) (E:Int) (H:Int):Option (Int×Int) :=
 (Option.bind (VM k E H) (fun B=>some (B.1,B.2)))
theorem VR.mono {k B E}: OLe (VR k B E) (VR (k+1) B E):=by
 unfold VR;have m1:=@VM.mono;exact mo
theorem VR.con {k M} {K:Int} {U:Int} {r:Int×Int} (h:VR k K U=some r): Con Tryd.prog 59 #[.int .u64 K,.int .u64 U] M [] (fun v M' B=>v=.tuple #[.int .u64 r.1,.int .u64 r.2]∧B=[]):=by
 refine cwA Tryd.func59 J Tryd.ntmps59 Tryd.results59 J h ?_;intro w F Z S Y E W H;unfold VR at H;refine wsQ (waI J (waI J (wnQ (QG (QB J (QW (tn (wsQ (wmI J (wmI J ?_))))))))));obtain ⟨t1,V,H⟩:=QL H;refine Zs fn73 (VM.con V) S J J flN (eE4 E ?_);rintro _ w3 _ B E S ⟨rfl,rfl⟩;refine wmT J (W_v _ (QU J J) J (W_v _ (QU J J) J (waI J (waI J (wnQ (wsQ (wmI J (wmI J (waI J (waI J (wnQ ?_)))))))))));refine QS ?_;obtain rfl:=oi H;exact ⟨_,_,_,rsA (vs:=[_,_]) J,W,E,S.pk [],⟨J,J⟩⟩
def XP:Nat→List Int→Int→Option ((List Int))
 | 0,_,_=>none
 | k+1,E,B=>(if (decide (B<(E.length:Int)))=true then (if 0≤B∧B≤(E.length:Int) then (if 0≤B∧B≤(E.length:Int) then (Option.bind (α:=List Int) (some (List.take B.toNat E++List.take (min (List.take B.toNat E).length (E.length-B.toNat)) (List.take B.toNat E)++List.drop (B.toNat+(min (List.take B.toNat E).length (E.length-B.toNat))) E)) (fun H=>XP k H (IntKind.i64.wrap (B+(((min (List.take B.toNat E).length (E.length-B.toNat)):Nat):Int))))) else none) else none) else some (E))
theorem XP.mono :∀ {kl:Nat} {x0 B},OLe (XP  kl x0 B) (XP  (kl+1) x0 B):=by
 intro kl
 induction kl with
 | zero=>intros;exact OLe.none
 | succ kl ih =>
  intros
  rw [XP.eq_2,XP.eq_2];exact mo
def Y1 (k:Nat) (E:(List Int)) (K:Int):Option ((List Int)) :=
 (Option.bind (α:=Unit) (if (decide (K<(0:Int)))=true then none else some ()) (fun _=>(Option.bind (VR k (IntKind.u64.wrap (E.length:Int)) (IntKind.u64.wrap K)) (fun B=>(Option.bind (α:=Unit) (if ((decide (B.1>(0:Int)))||(decide (B.2>(9223372036854775807:Int))))=true then none else some ()) (fun _=>(if 0≤(IntKind.i64.wrap B.2)∧(IntKind.i64.wrap B.2)≤(IntKind.i64.wrap B.2)∧(IntKind.i64.wrap B.2)*8≤140737488355328∧(IntKind.i64.wrap B.2)≤9223372036854775807 then (Option.bind (α:=List Int) (some (List.take 0 (List.replicate (IntKind.i64.wrap B.2).toNat (0:Int))++List.take (min E.length ((List.replicate (IntKind.i64.wrap B.2).toNat (0:Int)).length-0)) E++List.drop (0+(min E.length ((List.replicate (IntKind.i64.wrap B.2).toNat (0:Int)).length-0))) (List.replicate (IntKind.i64.wrap B.2).toNat (0:Int)))) (fun U=>(Option.bind (XP k U (((min E.length ((List.replicate (IntKind.i64.wrap B.2).toNat (0:Int)).length-0)):Nat):Int)) (fun H=>some H)))) else none)))))))
theorem Y1.mono {k B E}: OLe (Y1 k B E) (Y1 (k+1) B E):=by
 unfold Y1;have m1:=@VR.mono;have m2:=@XP.mono;exact mo
theorem Y1.con {k M A0 c0} {a0:(List Int)} {a1:Int} {r:(List Int)} (h:Y1 k a0 a1=some r) (b1:SlR (rInt .i64) M (.slice A0 a0.length c0) a0): Con Tryd.prog 38 #[.slice A0 a0.length c0,vI a1] M [] (fun v M' aw=>∃ (A0:Option Addr) (c0:Nat),v=.slice A0 r.length c0∧aw=[Rw (rInt .i64) 3 A0 c0 r]):=by
 refine cwA Tryd.func38 J Tryd.ntmps38 Tryd.results38 J h ?_;intro w F rn S bk E HM H;unfold Y1 at H;refine wsQ (waL J (wnQ (QG (wsQ (wmI J (wiB J J (wnQ ?_)))))));obtain ⟨o3,b2,ax⟩:=QL H;refine Xz (fun W w'=>()=o3∧QY W [(0,.slice A0 a0.length c0),(1,vI a1)]∧Ext w w'∧St w' M F []) ?_ ?_
 ·clear ax;have H:=b2;rcases Q7 H with ⟨af,H⟩ | ⟨af,H⟩
  ·refine QD (cB af) ?_
   cases H
  refine QB (cB af) (QW (tn ?_));exact ⟨oi H,agP J,E,S.pk []⟩
 as_aux_lemma =>
 rintro W w5 ⟨rfl,Y,E,S⟩;rw [QC Y];have H:=ax;refine tn (wsQ (wmL J (W_v _ (Qd (n:=a0.length) Tryd.underlying36 J) J (W_v (.int .u64 (IntKind.u64.wrap (a0.length:Int))) (Ue Tryd.underlying3 Tryd.underlying43 J) J (wmI J (W_v (.int .u64 (IntKind.u64.wrap a1)) (Ue Tryd.underlying3 Tryd.underlying43 J) J ?_))))));obtain ⟨t6,b3,H⟩:=QL H;refine Zs fn59 (VR.con b3) S J J flN (eE4 E ?_);rintro _ w8 _ aw E S ⟨rfl,rfl⟩;refine wmT J (W_v _ (QU J J) J (W_v _ (QU J J) J (waI J (waI J (wnQ (QG (wsQ (wmI J (wiB J J (wmB J ?_))))))))));refine Q4 3 (fun W w'=>QY W [(0,.slice A0 a0.length c0),(6,.int .u64 t6.2),(26,.bool ((decide (t6.1>(0:Int)))||(decide (t6.2>(9223372036854775807:Int)))))]∧w8=w') ?_ ?_
 ·rcases Qw (decide (t6.1>(0:Int))) with Z | Z
  ·refine QJ (cS Z) (wmI J (QJ (cS Z) (wiB J J (wqB Z J (QF ?_)))));exact ⟨⟨J,J,(flB Z),trivial⟩,rfl⟩
  ·refine QX (skF Z) J (QX (skF Z) J (wpB Z J (QF ?_)));exact ⟨⟨J,J,(flB Z),trivial⟩,rfl⟩
 as_aux_lemma =>
 rintro W _ ⟨Y,rfl⟩;rw [QC Y];refine wnQ ?_;obtain ⟨b4,az,ag⟩:=QL H;refine Xz (fun W w'=>()=b4∧QY W [(0,.slice A0 a0.length c0),(6,.int .u64 t6.2)]∧Ext w w'∧St w' M F []) ?_ ?_
 ·clear ag;have H:=az;rcases Q7 H with ⟨ac,H⟩ | ⟨ac,H⟩
  ·refine QD (cB ac) ?_
   cases H
  refine QB (cB ac) (QW (tn ?_));exact ⟨oi H,agP J,E,S.pk []⟩
 as_aux_lemma =>
 rintro W bl ⟨rfl,Y,E,S⟩;rw [QC Y];have H:=ag;refine tn (wsQ (wmI J (W_v (vI (IntKind.i64.wrap t6.2)) (Ue Tryd.underlying43 Tryd.underlying3 J) J ?_)));obtain ⟨⟨b5,b6,b7,b8⟩,H⟩:=Zj H;refine JX (r:=(rInt .i64)) S (0:Int) Tryd.underlying36 ty3 J (by decide) (fun _=>J) J J b5 b6 b7 b8 J (eE2 E ?_);intro ah bm E S;refine waL J (wnQ (wsQ (wmL J (wmL J ?_))));obtain ⟨ay,a5,H⟩:=QL H;replace a5:=oi a5;refine Kk (i:=0) S 0 J (Nat.zero_le _) Tryd.underlying36 ty3 (by decide) (SlR.world b1 S) (min a0.length ((List.replicate (IntKind.i64.wrap t6.2).toNat (0:Int)).length-0)) J a5 J (.inr (.inr ⟨J,J⟩)) J J (eE1 E ?_);intro bo E S;have ai:Value.slice (some ⟨ah,0,none⟩) (List.replicate (IntKind.i64.wrap t6.2).toNat (0:Int)).length ((IntKind.i64.wrap t6.2).toNat)=Value.slice (some ⟨ah,0,none⟩) ay.length ((IntKind.i64.wrap t6.2).toNat):=by rw [← a5];congr 1;simp only [List.length_append,List.length_take,List.length_drop];omega
 try rw [ai] at S
 try rw [ai]
 refine waI J (wnQ (QG ?_));obtain ⟨aj,aq,ar⟩:=QL H;refine Zr (fun W w'=>∃ (a6:List Int) (a7:Option Addr) (a8:Nat),(a6)=aj∧QY W [(7,.slice a7 a6.length a8)]∧Ext w w'∧St w' M F [Rw (rInt .i64) 3 a7 a8 a6]) ?_ ?_
 ·refine Yt (fun n W w'=>∃ (K:List Int) (B:Int) (V:Option Addr) (U:Nat),XP n K B=some aj∧QY W [(7,.slice V K.length U),(8,vI B)]∧Ext w w'∧St w' M F [Rw (rInt .i64) 3 V U K]) k ?_ ?_
  ·exact ⟨ay,(((min a0.length ((List.replicate (IntKind.i64.wrap t6.2).toNat (0:Int)).length-0)):Nat):Int),(some ⟨ah,0,none⟩),((IntKind.i64.wrap t6.2).toNat),aq,agP J,E,S.pk [0]⟩
  ·intro n;rintro W be ⟨K,B,V,U,H,Y,E,S⟩;rw [QC Y]
   cases n with
   | zero=>cases H
   | succ k =>
    rw [XP.eq_2] at H;refine QG (wsQ (wmI J (wmL J (W_v _ (Qd (n:=K.length) Tryd.underlying36 J) J (wiB J J (wnQ ?_))))));rcases Q7 H with ⟨a9,H⟩ | ⟨a9,H⟩
    ·refine QD (cB a9) ?_;refine QW (tn ?_);refine Ze ?_;refine rgA S [] [] 10 mixed J (eE1 E ?_);intro bf E S D1;refine tz0 0 J D1 (xmI J) (tz0 1 J D1 (xmL J) (tz0 2 J D1 (xmI J) ?_));obtain ⟨⟨ak,b0⟩,H⟩:=Zj H;refine Wt 3 J J J (.slice (if U=B.toNat then V else Option.map (fun x=>x.add (B.toNat*1)) V) (K.length-B.toNat) (U-B.toNat)) J (fun w' h'=>U1 Tryd.underlying36 ty3 J J ak (by omega)) D1 (tz0 4 J D1 (xmL J) (tz0 5 J D1 (xmI J) ?_));obtain ⟨⟨am,an⟩,H⟩:=Zj H;have au:=@qt _ _ _ _ _ _ _ _ _ (S.row_read 0 J) am an;refine Wt 6 J J J (.slice V ((List.take B.toNat K).length) U) J (fun w' h'=>au Tryd.underlying36 ty3 J J) D1 ?_;refine Wo 7 J ?_;have av:=QBX (S.row_read 0 J) am an;obtain ⟨ao,a3,H⟩:=QL H;replace a3:=oi a3;refine Kk (i:=B.toNat) S 0 J (by have:=ak;have:=b0;omega) Tryd.underlying36 ty3 (by decide) av (min (List.take B.toNat K).length (K.length-B.toNat)) J a3 J (if h8:U=B.toNat then .inl (by have h9:=slW_le (S.row_read 0 J);omega) else .inr (.inl (if_neg h8))) J J (eE1 E ?_);intro bi E S;have ae:Value.slice V K.length U=Value.slice V ao.length U:=by rw [← a3];congr 1;simp only [List.length_append,List.length_take,List.length_drop];omega
     try rw [ae] at S
     try rw [ae]
     refine QF (YS ⟨.inr ⟨M,Hp.le_refl M,(S.pk [])⟩,?_⟩);have D2:∃ Mx,Hp.le M Mx∧St _ Mx F []:=⟨_,Hp.le_refl _,S.pk []⟩;refine tz0 8 J D2 (xiI J J) (tz0 9 J D2 (xaI J) ?_);refine Wz ?_;refine bn (tn ?_);exact ⟨k,Nat.lt_succ_self k,⟨ao,(IntKind.i64.wrap (B+(((min (List.take B.toNat K).length (K.length-B.toNat)):Nat):Int))),V,U,H,agP J,E,S.pk [0]⟩⟩
    refine QB (cB a9) ?_;refine YV ?_;refine tx (tx (bsm (?_)));refine tn ?_;exact ⟨K,V,U,oi H,agP J,E,S.pk [0]⟩
 rintro W bj ⟨a6,a7,a8,rfl,Y,E,S⟩;rw [QC Y];have H:=ar;refine tn ?_
 as_aux_lemma =>
 refine wsQ (wmL J (waL J (wnQ ?_)));refine QS ?_;obtain rfl:=oi H;exact ⟨_,_,_,rsA (vs:=[_]) J,HM,E,S.pk [0],⟨a7,a8,J,J⟩⟩
def VY (k:Nat) (B:Int):Option ((Unit)⊕(Qi)) :=
 (if ((decide (B<(1:Int)))||(decide (B>(6:Int))))=true then some (Sum.inl ()) else (if 0≤B∧B≤B∧B*16≤140737488355328∧B≤9223372036854775807 then some (Sum.inr (⟨(List.replicate B.toNat (⟨0,0⟩:Zu)),([]:List QA)⟩:Qi)) else none))
theorem VY.mono {k B}: OLe (VY k B) (VY (k+1) B):=by
 unfold VY;exact mo
theorem VY.con {k M} {K:Int} {r:(Unit)⊕(Qi)} (h:VY k K=some r): Con Tryd.prog 54 #[vI K] M [] (fun v M' V=>(Sum.elim (fun x=>v=.tuple cz22∧V=[]) (fun x=>∃ (W:Nat) (Y:Option Addr) (Z:Nat) (a1:Option Addr) (a2:Nat),v=.tuple #[pt W 0,vI 0]∧V=[Blk W (.cells #[.slice Y x.tasks.length Z,.slice a1 x.l.length a2] 144 (0,0)),Rw Z7 161 Y Z x.tasks,Rw QH 55 a1 a2 x.l])) r):=by
 refine cwA Tryd.func54 J Tryd.ntmps54 Tryd.results54 J h ?_;intro w F rn S ac E HM H;unfold VY at H;refine wsQ (W_v (.pointer none) (YZ J) J (waI J (wnQ (QG (wsQ (wmI J (wiB J J (wmB J ?_))))))));refine Q4 3 (fun ρ w'=>QY ρ [(0,vI K),(9,.bool ((decide (K<(1:Int)))||(decide (K>(6:Int)))))]∧w=w') ?_ ?_
 ·rcases Qw (decide (K<(1:Int))) with B | B
  ·refine QJ (cS B) (wmI J (QJ (cS B) (wiB J J (wqB B J (QF ?_)))));exact ⟨⟨J,(flB B),trivial⟩,rfl⟩
  ·refine QX (skF B) J (QX (skF B) J (wpB B J (QF ?_)));exact ⟨⟨J,(flB B),trivial⟩,rfl⟩
 rintro ρ _ ⟨a6,rfl⟩;rw [QC a6];refine wnQ ?_;rcases Q7 H with ⟨U,H⟩ | ⟨U,H⟩
 ·refine QD (cB U) ?_;refine wsQ (W_v (.pointer none) (YZ J) J (waI J (wnQ ?_)));refine QS ?_;refine tr (?_);obtain rfl:=oi H;exact ⟨_,_,_,rsA (vs:=[_,_]) J,HM,E,S.pk [],⟨J,J⟩⟩
 refine QB (cB U) (QW (tn ?_))
 as_aux_lemma =>
 refine wsQ (wmI J ?_);obtain ⟨⟨p3,p4,p5,p6⟩,H⟩:=Zj H;refine JX (r:=Z7) S (⟨0,0⟩:Zu) Tryd.underlying142 ty161 J (by decide) (fun _=>J) J J p3 p4 p5 p6 J (eE2 E ?_);intro b7 w8 E S;refine W_v _ (xb2 [(0,1),(1,1)] #[.slice (some ⟨b7,0,none⟩) (List.replicate K.toNat (⟨0,0⟩:Zu)).length K.toNat,.slice none 0 0] Tryd.underlying144 ty144 J) J ?_;refine Y5 S #[.slice (some ⟨b7,0,none⟩) (List.replicate K.toNat (⟨0,0⟩:Zu)).length K.toNat,.slice none 0 0] J J J (eE2 E ?_);intro a7 ad E S;refine waP J (waI J (wnQ ?_));refine QS ?_;obtain rfl:=oi H;replace S:=S.row_nil QH 55;exact ⟨_,_,_,rsA (vs:=[_,_]) J,HM,E,S.pk [1,2,0],⟨a7,(some ⟨b7,0,none⟩),K.toNat,none,0,J,J⟩⟩
def Xa (k:Nat) (B:Qa):Option ((Unit)⊕(QT)) :=
 (Option.bind (VZ k B) (fun E=>(if (!E)=true then some (Sum.inl ()) else some (Sum.inr (⟨⟨B.Tasks,B.Active,B.Keys,B.Depth,B.TS,B.KeyLen,B.ValLen,B.Fan⟩,([]:List (XR×Int)),([]:List (Int×Int)),([]:List Xd),([]:List (Str×Qq)),(0:Int),(0:Int)⟩:QT)))))
theorem Xa.mono {k B}: OLe (Xa k B) (Xa (k+1) B):=by
 unfold Xa;have m1:=@VZ.mono;exact mo
theorem Xa.con {k M} {B:Qa} {r:(Unit)⊕(QT)} (h:Xa k B=some r): Con Tryd.prog 13 #[.agg (QR B)] M [] (fun v M' U=>(Sum.elim (fun x=>v=.tuple cz22∧U=[]) (fun x=>∃ (a2:Nat) (a3:Option Addr) (ag:Nat) (a4:Option Addr) (ah:Nat) (a5:Option Addr) (V:Nat) (W:Option Addr) (ad:Nat) (K:List (Str×Value)),v=.tuple #[pt a2 0,vI 0]∧X0 Q0 M' x.rows K∧U=[B95 a2 x a3 a4 a5 V W,XO QK (Value.int .i64) a3 x.names,MpI a4 x.many,Rw Qb 122 a5 V x.txs,MpV W K])) r):=by
 refine cwA Tryd.func13 J Tryd.ntmps13 Tryd.results13 J h ?_;intro w F rn S ai E HM H;unfold Xa at H;refine wsQ ?_;refine Y5 S (QR B) J J J (eE2 E ?_);intro b1 w2 E S;refine W_v (.pointer none) (YZ J) J (waI J (wnQ (QG (wsQ (W_v (.agg (QR B)) (Ql (S.blk 0 J) ty23 J (QM J) J J) J ?_)))));obtain ⟨t4,a9,H⟩:=QL H;refine Zs fn45 (VZ.con a9) S J J flN (eE4 E ?_);rintro _ w6 _ U E S ⟨rfl,rfl⟩;refine W_v _ (X5 (b:=t4) J) J (wnQ ?_);rcases Q7 H with ⟨Y,H⟩ | ⟨Y,H⟩
 ·refine QD (cB Y) ?_;refine wsQ (W_v (.pointer none) (YZ J) J (waI J (wnQ ?_)));refine QS ?_;refine tr (?_);obtain rfl:=oi H;exact ⟨_,_,_,rsA (vs:=[_,_]) J,HM,E,S.pk [],⟨J,J⟩⟩
 refine QB (cB Y) (QW (tn (wsQ (W_v (.agg (QR B)) (Ql (S.blk 0 J) ty23 J (QM J) J J) J ?_))));refine JW (κ:=XR) (ν:=Int) QK (Value.int .i64) S J (eE2 E ?_);intro b8 w9 E S;replace S:St w9 M F [_,_]:=S;refine JW (κ:=Int) (ν:=Int) (Value.int .i64) (Value.int .i64) S J (eE2 E ?_);intro Z aa E S;replace S:St aa M F [_,_,_]:=S;refine JW (κ:=Str) (ν:=Value) encS (fun v:Value=>v) S J (eE2 E ?_);intro a1 ab E S;have a7:X0 Q0 M ([]:List (Str×Qq)) ([]:List (Str×Value)):=X0.nil;replace S:St ab M F [_,_,_,_]:=S;refine W_v _ (xb2 [(0,8),(8,1),(9,1),(10,1),(11,1),(12,1),(13,1)] #[vI B.Tasks,vI B.Active,vI B.Keys,vI B.Depth,vI B.TS,vI B.KeyLen,vI B.ValLen,vI B.Fan,.map (mb (some ⟨b8,0,none⟩)),.map (mb (some ⟨Z,0,none⟩)),.slice none 0 0,.map (mb (some ⟨a1,0,none⟩)),vI 0,vI 0] Tryd.underlying95 ty95 J) J ?_;refine Y5 S #[vI B.Tasks,vI B.Active,vI B.Keys,vI B.Depth,vI B.TS,vI B.KeyLen,vI B.ValLen,vI B.Fan,.map (mb (some ⟨b8,0,none⟩)),.map (mb (some ⟨Z,0,none⟩)),.slice none 0 0,.map (mb (some ⟨a1,0,none⟩)),vI 0,vI 0] J J J (eE2 E ?_);intro ac aj E S;refine waP J (waI J (wnQ ?_));refine QS ?_;obtain rfl:=oi H;replace S:=S.row_nil Qb 122;exact ⟨_,_,_,rsA (vs:=[_,_]) J,HM,E,S.pk [1,4,3,0,2],⟨ac,(some ⟨b8,0,none⟩),0,(some ⟨Z,0,none⟩),0,none,0,(some ⟨a1,0,none⟩),0,([]:List (Str×Value)),J,a7,J⟩⟩
end Go.Proofs.YtnjbjpaiepefoaaDoor
