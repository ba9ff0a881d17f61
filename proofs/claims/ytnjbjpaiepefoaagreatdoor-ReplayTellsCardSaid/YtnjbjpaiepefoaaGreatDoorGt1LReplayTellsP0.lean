import Derived.Test.YtnjbjpaiepefoaaGreatDoorGt1B
namespace Go.Proofs.YtnjbjpaiepefoaaGreatDoor
open Go
set_option linter.unusedVariables false
set_option linter.unusedSimpArgs false
set_option maxHeartbeats 80000000
set_option maxRecDepth 100000
def Zy (G:(List QB)) (B:Int):Nat→Int→Int→Option ((Int))
 | 0,_,_=>none
 | k+1,H,E=>(if 0≤B∧B<(G.length:Int) then (if ((decide (E<(((rd G B).Answer.Pairs).length:Int)))&&(decide (H<(9000:Int))))=true then (if 0≤B∧B<(G.length:Int) then (if 0≤E∧E<(((rd G B).Answer.Pairs).length:Int) then (if 0≤B∧B<(G.length:Int) then (if 0≤E∧E<(((rd G B).Answer.Pairs).length:Int) then Zy G B k (IntKind.i64.wrap ((IntKind.i64.wrap (H+(imin (9000:Int) (((rd ((rd G B).Answer.Pairs) E).Key).length:Int))))+(imin (9000:Int) (((rd ((rd G B).Answer.Pairs) E).Value).length:Int)))) (IntKind.i64.wrap (E+(1:Int))) else none) else none) else none) else none) else some (H)) else none)
theorem Zy.mono {E B}: ∀ {kl:Nat} {G H},OLe (Zy E B kl G H) (Zy E B (kl+1) G H):=by
 intro kl
 induction kl with
 | zero=>intros;exact OLe.none
 | succ kl ih =>
  intros
  rw [Zy.eq_2,Zy.eq_2];exact mo
def Zx (H:(List (List QZ))) (B:Int):Nat→Int→Int→Option ((Int))
 | 0,_,_=>none
 | k+1,G,E=>(if 0≤B∧B<(H.length:Int) then (if ((decide (E<((rd H B).length:Int)))&&(decide (G<(9000:Int))))=true then (if 0≤B∧B<(H.length:Int) then (if 0≤E∧E<((rd H B).length:Int) then Zx H B k (IntKind.i64.wrap ((IntKind.i64.wrap ((IntKind.i64.wrap ((IntKind.i64.wrap (G+(5:Int)))+(imin (9000:Int) (((rd (rd H B) E).Key).length:Int))))+(imin (9000:Int) (((rd (rd H B) E).End).length:Int))))+(imin (9000:Int) (((rd (rd H B) E).Value).length:Int)))) (IntKind.i64.wrap (E+(1:Int))) else none) else none) else some (G)) else none)
theorem Zx.mono {E B}: ∀ {kl:Nat} {G H},OLe (Zx E B kl G H) (Zx E B (kl+1) G H):=by
 intro kl
 induction kl with
 | zero=>intros;exact OLe.none
 | succ kl ih =>
  intros
  rw [Zx.eq_2,Zx.eq_2];exact mo
def Zl (H:(List (List QZ))):Nat→Int→Int→Option ((Int))
 | 0,_,_=>none
 | k+1,B,E=>(if ((decide (E<(H.length:Int)))&&(decide (B<(9000:Int))))=true then (Option.bind (Zx H E k (IntKind.i64.wrap (B+(1:Int))) (0:Int)) (fun G=>Zl H k G (IntKind.i64.wrap (E+(1:Int))))) else some (B))
theorem Zl.mono {B}: ∀ {kl:Nat} {E G},OLe (Zl B kl E G) (Zl B (kl+1) E G):=by
 intro kl
 induction kl with
 | zero=>intros;exact OLe.none
 | succ kl ih =>
  intros
  rw [Zl.eq_2,Zl.eq_2];have m1:=@Zx.mono;exact mo
def Zm (G:(List QB)):Nat→Int→Int→Option ((Int))
 | 0,_,_=>none
 | k+1,E,B=>(if ((decide (B<(G.length:Int)))&&(decide (E<(9000:Int))))=true then (if 0≤B∧B<(G.length:Int) then (if 0≤B∧B<(G.length:Int) then (Option.bind (Zy G B k (IntKind.i64.wrap ((IntKind.i64.wrap (E+(imin (9000:Int) (((rd G B).Answer.Value).length:Int))))+(imin (9000:Int) (((rd G B).Answer.Pairs).length:Int)))) (0:Int)) (fun H=>Zm G k H (IntKind.i64.wrap (B+(1:Int))))) else none) else none) else some (E))
theorem Zm.mono {B}: ∀ {kl:Nat} {E G},OLe (Zm B kl E G) (Zm B (kl+1) E G):=by
 intro kl
 induction kl with
 | zero=>intros;exact OLe.none
 | succ kl ih =>
  intros
  rw [Zm.eq_2,Zm.eq_2];have m1:=@Zy.mono;exact mo
def Xg (k:Nat) (H:(List (List QZ))) (G:(List QB)):Option (Bool) :=
 (Option.bind (Zm G k (IntKind.i64.wrap ((30:Int)*(imin (1000:Int) (G.length:Int)))) (0:Int)) (fun B=>(Option.bind (Zl H k B (0:Int)) (fun E=>some (decide (E≥(9000:Int)))))))
theorem Xg.mono {k B E}: OLe (Xg k B E) (Xg (k+1) B E):=by
 unfold Xg;have m1:=@Zm.mono;have m2:=@Zl.mono;exact mo
theorem Xg.con {k M A0 c0} {O:(List (List QZ))} {A1 c1} {W:(List QB)} {r:Bool} (h:Xg k O W=some r) (dh:SlR (rSl Yp) M (.slice A0 O.length c0) O) (am:SlR QV M (.slice A1 W.length c1) W): Con Tryz.prog 4 #[.slice A0 O.length c0,.slice A1 W.length c1] M [] (fun v M' dj=>v=.bool r∧dj=[]):=by
 refine cwA Tryz.func4 J Tryz.ntmps4 Tryz.results4 J h ?_;intro w F rn S fo E HM H;unfold Xg at H;refine wsQ (waB J (wnQ (wsQ (wmL J (W_v _ (Qd (n:=W.length) Tryz.underlying25 J) J (W_v (vI (imin (1000:Int) (W.length:Int))) (UU J J) J (wiI J J (waI J (wnQ (QJ (QJ ?_)))))))))));refine QO (waI J (wnQ ?_));obtain ⟨au,bk,bl⟩:=QM H;refine Zs (fun U w'=>∃ (ae:Int),(ae)=au∧QX U [(0,.slice A0 O.length c0),(5,vI ae)]∧Ext w w'∧St w' M F []) ?_ ?_
 ·refine Y8 (fun n U w'=>∃ (a7:Int) (G:Int),Zm W n a7 G=some au∧QX U [(0,.slice A0 O.length c0),(1,.slice A1 W.length c1),(5,vI a7),(6,vI G)]∧Ext w w'∧St w' M F []) k ?_ ?_
  ·exact ⟨(IntKind.i64.wrap ((30:Int)*(imin (1000:Int) (W.length:Int)))),(0:Int),bk,agP J,E,S.pk []⟩
  ·intro n;rintro U dd ⟨a7,G,H,V,E,S⟩;rw [QC V]
   cases n with
   | zero=>cases H
   | succ k =>
    rw [Zm.eq_2] at H;refine QJ (wsQ (wmI J (wmL J (W_v _ (Qd (n:=W.length) Tryz.underlying25 J) J (wiB J J (wmB J ?_))))));refine Q7 3 (fun U w'=>QX U [(0,.slice A0 O.length c0),(1,.slice A1 W.length c1),(5,vI a7),(6,vI G),(22,.bool ((decide (G<(W.length:Int)))&&(decide (a7<(9000:Int)))))]∧dd=w') ?_ ?_
    ·rcases Qr (decide (G<(W.length:Int))) with Y | Y
     ·refine Qa (skT Y) J (Qa (skT Y) J (wqB Y J (QH ?_)));exact ⟨⟨J,J,J,J,(flB Y),trivial⟩,rfl⟩
     ·refine QL (cS Y) (wmI J (QL (cS Y) (wiB J J (wpB Y J (QH ?_)))));exact ⟨⟨J,J,J,J,(flB Y),trivial⟩,rfl⟩
    as_aux_lemma =>
    rintro U _ ⟨V,rfl⟩;rw [QC V];refine wnQ ?_;rcases Q0 H with ⟨ah,H⟩ | ⟨ah,H⟩
    ·refine QD (cB ah) ?_;refine QT (tn (QJ ?_));refine Zg ?_;refine QJ ?_;refine rgA S [] [] 20 mixed J (eE1 E ?_);intro e4 E S D1;refine tz0 0 J D1 (xmI J) (tz0 1 J D1 (xmL J) (tz0 2 J D1 (xmI J) ?_));obtain ⟨⟨av,aw⟩,H⟩:=Z3 H;obtain ⟨e5,e6,dk,_,_,bm,bo,dm,bp,bq⟩:=SlW.at' am av aw;obtain ⟨e7,bt,rfl⟩:=bp;obtain ⟨e8,e9,rfl,_⟩:=bt.form;refine tz0 3 J D1 (QP Tryz.underlying25 ty64 (slA bm) J av aw) (tz0 4 J D1 (xfA Tryz.underlying64 ty62 J) (tz0 5 J D1 (xfA Tryz.underlying62 ty9 J) (tz1 6 J D1 (fun w' h'=>YU (XT h' bo) ty9 J (bq 5 _ J)) (tz0 7 J D1 (VQ Tryz.underlying9 J) (Wt 8 J J J (vI (imin (9000:Int) (((rd W G).Answer.Value).length:Int))) J (fun w' h'=>UU J J) D1 (tz0 9 J D1 (xiI J J) (tz0 10 J D1 (xmL J) (tz0 11 J D1 (xmI J) ?_))))))));obtain ⟨⟨ax,ay⟩,H⟩:=Z3 H;obtain ⟨ea,eb,dp,_,_,bu,bv,dq,bw,bz⟩:=SlW.at' am ax ay;obtain ⟨ec,c2,rfl⟩:=bw;obtain ⟨ed,ee,rfl,_⟩:=c2.form;refine tz0 12 J D1 (QP Tryz.underlying25 ty64 (slA bu) J ax ay) (tz0 13 J D1 (xfA Tryz.underlying64 ty62 J) (tz0 14 J D1 (xfA Tryz.underlying62 ty60 J) (tz1 15 J D1 (fun w' h'=>YU (XT h' bv) ty60 J (bz 6 _ J)) (tz0 16 J D1 (Qd (n:=((rd W G).Answer.Pairs).length) Tryz.underlying60 J) (Wt 17 J J J (vI (imin (9000:Int) (((rd W G).Answer.Pairs).length:Int))) J (fun w' h'=>UU J J) D1 (tz0 18 J D1 (xiI J J) (tz0 19 J D1 (xaI J) ?_)))))));refine Wz ?_;refine tn (wsQ (waI J (wnQ ?_)));obtain ⟨az,c3,c4⟩:=QM H;refine Zs (fun U w'=>∃ (af:Int),(af)=az∧QX U [(0,.slice A0 O.length c0),(1,.slice A1 W.length c1),(5,vI af),(6,vI G)]∧Ext w w'∧St w' M F []) ?_ ?_
     ·refine Y8 (fun n U w'=>∃ (a8:Int) (Z:Int),Zy W G n a8 Z=some az∧QX U [(0,.slice A0 O.length c0),(1,.slice A1 W.length c1),(5,vI a8),(6,vI G),(7,vI Z)]∧Ext w w'∧St w' M F []) k ?_ ?_
      ·exact ⟨(IntKind.i64.wrap ((IntKind.i64.wrap (a7+(imin (9000:Int) (((rd W G).Answer.Value).length:Int))))+(imin (9000:Int) (((rd W G).Answer.Pairs).length:Int)))),(0:Int),c3,agP J,E,S.pk []⟩
      ·intro n;rintro U de ⟨a8,Z,H,V,E,S⟩;rw [QC V]
       cases n with
       | zero=>cases H
       | succ k =>
        rw [Zy.eq_2] at H;refine QJ (wsQ (wmI J (wmL J (wmI J ?_))));obtain ⟨⟨b0,b1⟩,H⟩:=Z3 H;obtain ⟨ef,eg,dr,_,_,c5,c6,ds,c7,c8⟩:=SlW.at' am b0 b1;obtain ⟨eh,c9,rfl⟩:=c7;obtain ⟨ei,ej,rfl,_⟩:=c9.form;refine W_v _ (QP Tryz.underlying25 ty64 (slA c5) J b0 b1) J (wfA Tryz.underlying64 ty62 J (wfA Tryz.underlying62 ty60 J (W_v _ (YU (S.frz c6) ty60 J (c8 6 _ J)) J (W_v _ (Qd (n:=((rd W G).Answer.Pairs).length) Tryz.underlying60 J) J (wiB J J (wmB J ?_))))));refine Q7 3 (fun U w'=>QX U [(0,.slice A0 O.length c0),(1,.slice A1 W.length c1),(5,vI a8),(6,vI G),(7,vI Z),(56,.bool ((decide (Z<(((rd W G).Answer.Pairs).length:Int)))&&(decide (a8<(9000:Int)))))]∧de=w') ?_ ?_
        ·rcases Qr (decide (Z<(((rd W G).Answer.Pairs).length:Int))) with a2 | a2
         ·refine Qa (skT a2) J (Qa (skT a2) J (wqB a2 J (QH ?_)));exact ⟨⟨J,J,J,J,J,(flB a2),trivial⟩,rfl⟩
         ·refine QL (cS a2) (wmI J (QL (cS a2) (wiB J J (wpB a2 J (QH ?_)))));exact ⟨⟨J,J,J,J,J,(flB a2),trivial⟩,rfl⟩
        as_aux_lemma =>
        rintro U _ ⟨V,rfl⟩;rw [QC V];refine wnQ ?_;rcases Q0 H with ⟨ai,H⟩ | ⟨ai,H⟩
        ·refine QD (cB ai) ?_;refine QT (tn (QJ ?_));refine Zg ?_;refine rgA S [] [] 28 mixed J (eE1 E ?_);intro ek E S D2;refine tz0 0 J D2 (xmI J) (tz0 1 J D2 (xmL J) (tz0 2 J D2 (xmI J) ?_));obtain ⟨⟨b2,b3⟩,H⟩:=Z3 H;obtain ⟨el,em,dt,_,_,ca,cb,du,cc,cd⟩:=SlW.at' am b2 b3;obtain ⟨en,an,rfl⟩:=cc;obtain ⟨eo,ep,rfl,_⟩:=an.form;have bi:=an;refine tz0 3 J D2 (QP Tryz.underlying25 ty64 (slA ca) J b2 b3) (tz0 4 J D2 (xfA Tryz.underlying64 ty62 J) (tz0 5 J D2 (xfA Tryz.underlying62 ty60 J) (tz1 6 J D2 (fun w' h'=>YU (XT h' cb) ty60 J (cd 6 _ J)) (tz0 7 J D2 (xmI J) ?_))));obtain ⟨⟨b4,b5⟩,H⟩:=Z3 H;obtain ⟨es,et,dv,_,_,ce,cf,cg,ch,ci⟩:=SlW.at' bi b4 b5;obtain rfl:cg=_:=ch;refine tz0 8 J D2 (QP Tryz.underlying60 ty66 (slA ce) J b4 b5) (tz0 9 J D2 (xfA Tryz.underlying66 ty9 J) (tz1 10 J D2 (fun w' h'=>YU (XT h' cf) ty9 J (ci 0 _ J)) (tz0 11 J D2 (VQ Tryz.underlying9 J) (Wt 12 J J J (vI (imin (9000:Int) (((rd ((rd W G).Answer.Pairs) Z).Key).length:Int))) J (fun w' h'=>UU J J) D2 (tz0 13 J D2 (xiI J J) (tz0 14 J D2 (xmL J) (tz0 15 J D2 (xmI J) ?_)))))));obtain ⟨⟨b6,b7⟩,H⟩:=Z3 H;obtain ⟨eu,ev,dw,_,_,cj,cm,dx,cn,co⟩:=SlW.at' am b6 b7;obtain ⟨ew,ao,rfl⟩:=cn;obtain ⟨ey,ez,rfl,_⟩:=ao.form;have bj:=ao;refine tz0 16 J D2 (QP Tryz.underlying25 ty64 (slA cj) J b6 b7) (tz0 17 J D2 (xfA Tryz.underlying64 ty62 J) (tz0 18 J D2 (xfA Tryz.underlying62 ty60 J) (tz1 19 J D2 (fun w' h'=>YU (XT h' cm) ty60 J (co 6 _ J)) (tz0 20 J D2 (xmI J) ?_))));obtain ⟨⟨b8,b9⟩,H⟩:=Z3 H;obtain ⟨f1,f2,dy,_,_,cp,cq,cr,ct,cu⟩:=SlW.at' bj b8 b9;obtain rfl:cr=_:=ct;refine tz0 21 J D2 (QP Tryz.underlying60 ty66 (slA cp) J b8 b9) (tz0 22 J D2 (xfA Tryz.underlying66 ty9 J) (tz1 23 J D2 (fun w' h'=>YU (XT h' cq) ty9 J (cu 1 _ J)) (tz0 24 J D2 (VQ Tryz.underlying9 J) (Wt 25 J J J (vI (imin (9000:Int) (((rd ((rd W G).Answer.Pairs) Z).Value).length:Int))) J (fun w' h'=>UU J J) D2 (tz0 26 J D2 (xiI J J) (tz0 27 J D2 (xaI J) ?_))))));refine Wz ?_;refine bn (tn (QO (wmI J (wiI J J (waI J (wnQ ?_))))));exact ⟨k,Nat.lt_succ_self k,⟨(IntKind.i64.wrap ((IntKind.i64.wrap (a8+(imin (9000:Int) (((rd ((rd W G).Answer.Pairs) Z).Key).length:Int))))+(imin (9000:Int) (((rd ((rd W G).Answer.Pairs) Z).Value).length:Int)))),(IntKind.i64.wrap (Z+(1:Int))),H,agP J,E,S.pk []⟩⟩
        refine QA (cB ai) ?_;refine Yn ?_;refine tx (tx (bsm (?_)));refine tn ?_;exact ⟨a8,oi H,agP J,E,S.pk []⟩
     rintro U f3 ⟨af,rfl,V,E,S⟩;rw [QC V];have H:=c4;refine bn (tn (QO (wmI J (wiI J J (waI J (wnQ ?_))))));exact ⟨k,Nat.lt_succ_self k,⟨af,(IntKind.i64.wrap (G+(1:Int))),H,agP J,E,S.pk []⟩⟩
    refine QA (cB ah) ?_;refine Yn ?_;refine tx (tx (bsm (?_)));refine tn ?_;exact ⟨a7,oi H,agP J,E,S.pk []⟩
 rintro U f4 ⟨ae,rfl,V,E,S⟩;rw [QC V];have H:=bl;refine tn ?_
 as_aux_lemma =>
 refine QJ (wsQ (waI J (wnQ ?_)));obtain ⟨ba,cv,cw⟩:=QM H;refine Zs (fun U w'=>∃ (al:Int),(al)=ba∧QX U [(5,vI al)]∧Ext w w'∧St w' M F []) ?_ ?_
 ·refine Y8 (fun n U w'=>∃ (a9:Int) (B:Int),Zl O n a9 B=some ba∧QX U [(0,.slice A0 O.length c0),(5,vI a9),(8,vI B)]∧Ext w w'∧St w' M F []) k ?_ ?_
  ·exact ⟨ae,(0:Int),cv,agP J,E,S.pk []⟩
  ·intro n;rintro U df ⟨a9,B,H,V,E,S⟩;rw [QC V]
   cases n with
   | zero=>cases H
   | succ k =>
    rw [Zl.eq_2] at H;refine QJ (wsQ (wmI J (wmL J (W_v _ (Qd (n:=O.length) Tryz.underlying24 J) J (wiB J J (wmB J ?_))))));refine Q7 3 (fun U w'=>QX U [(0,.slice A0 O.length c0),(5,vI a9),(8,vI B),(93,.bool ((decide (B<(O.length:Int)))&&(decide (a9<(9000:Int)))))]∧df=w') ?_ ?_
    ·rcases Qr (decide (B<(O.length:Int))) with a3 | a3
     ·refine Qa (skT a3) J (Qa (skT a3) J (wqB a3 J (QH ?_)));exact ⟨⟨J,J,J,(flB a3),trivial⟩,rfl⟩
     ·refine QL (cS a3) (wmI J (QL (cS a3) (wiB J J (wpB a3 J (QH ?_)))));exact ⟨⟨J,J,J,(flB a3),trivial⟩,rfl⟩
    as_aux_lemma =>
    rintro U _ ⟨V,rfl⟩;rw [QC V];refine wnQ ?_;rcases Q0 H with ⟨aj,H⟩ | ⟨aj,H⟩
    ·refine QD (cB aj) ?_;refine QT (tn (QJ ?_));refine Zg ?_;refine wsQ (wmI J (wiI J J (waI J (wnQ (wsQ (waI J (wnQ ?_)))))));obtain ⟨bb,cx,cy⟩:=QM H;refine Zs (fun U w'=>∃ (ag:Int),(ag)=bb∧QX U [(0,.slice A0 O.length c0),(5,vI ag),(8,vI B)]∧Ext w w'∧St w' M F []) ?_ ?_
     ·refine Y8 (fun n U w'=>∃ (aa:Int) (K:Int),Zx O B n aa K=some bb∧QX U [(0,.slice A0 O.length c0),(5,vI aa),(8,vI B),(9,vI K)]∧Ext w w'∧St w' M F []) k ?_ ?_
      ·exact ⟨(IntKind.i64.wrap (a9+(1:Int))),(0:Int),cx,agP J,E,S.pk []⟩
      ·intro n;rintro U dg ⟨aa,K,H,V,E,S⟩;rw [QC V]
       cases n with
       | zero=>cases H
       | succ k =>
        rw [Zx.eq_2] at H;refine QJ (wsQ (wmI J (wmL J (wmI J ?_))));obtain ⟨⟨bc,bd⟩,H⟩:=Z3 H;obtain ⟨f5,f6,dz,_,_,cz,d0,e0,d1,d2⟩:=SlW.at' dh bc bd;obtain ⟨f7,d3,rfl⟩:=d1;obtain ⟨f8,f9,rfl,_⟩:=d3.form;refine W_v _ (QP Tryz.underlying24 ty67 (slA cz) J bc bd) J (W_v _ (YU (S.frz d0) ty67 J (d2 0 _ J)) J (W_v _ (Qd (n:=(rd O B).length) Tryz.underlying67 J) J (wiB J J (wmB J ?_))));refine Q7 3 (fun U w'=>QX U [(0,.slice A0 O.length c0),(5,vI aa),(8,vI B),(9,vI K),(108,.bool ((decide (K<((rd O B).length:Int)))&&(decide (aa<(9000:Int)))))]∧dg=w') ?_ ?_
        ·rcases Qr (decide (K<((rd O B).length:Int))) with a4 | a4
         ·refine Qa (skT a4) J (Qa (skT a4) J (wqB a4 J (QH ?_)));exact ⟨⟨J,J,J,J,(flB a4),trivial⟩,rfl⟩
         ·refine QL (cS a4) (wmI J (QL (cS a4) (wiB J J (wpB a4 J (QH ?_)))));exact ⟨⟨J,J,J,J,(flB a4),trivial⟩,rfl⟩
        as_aux_lemma =>
        rintro U _ ⟨V,rfl⟩;rw [QC V];refine wnQ ?_;rcases Q0 H with ⟨ak,H⟩ | ⟨ak,H⟩
        ·refine QD (cB ak) ?_;refine QT (tn (QJ ?_));refine Zg ?_;refine wsQ (wmL J (wmI J ?_));obtain ⟨⟨be,bf⟩,H⟩:=Z3 H;obtain ⟨fa,fb,e1,_,_,d4,d5,e2,d6,d7⟩:=SlW.at' dh be bf;obtain ⟨fc,ap,rfl⟩:=d6;obtain ⟨fd,fe,rfl,_⟩:=ap.form;refine W_v _ (QP Tryz.underlying24 ty67 (slA d4) J be bf) J (W_v _ (YU (S.frz d5) ty67 J (d7 0 _ J)) J (wmI J ?_));obtain ⟨⟨bg,bh⟩,H⟩:=Z3 H;obtain ⟨ff,fg,e3,_,_,d8,d9,da,db,dc⟩:=SlW.at' ap bg bh;obtain rfl:da=_:=db;refine W_v _ (QP Tryz.underlying67 ty69 (slA d8) J bg bh) J (W_v (.agg (ZJ (rd (rd O B) K))) (Qf (S.frz d9) ty69 J (X6 dc 0 J) J J) J ?_);refine YX S cz5 ty69 J J (eE2 E ?_);intro fh fi E S;refine Qq S 0 J ty69 J J [vU ((rd (rd O B) K).Kind),vI ((rd (rd O B) K).Tx),vS ((rd (rd O B) K).Key),vS ((rd (rd O B) K).End),vS ((rd (rd O B) K).Value),vI ((rd (rd O B) K).Limit),vU ((rd (rd O B) K).Engine)] J J J (ZJ (rd (rd O B) K)) (by as_aux_lemma=>kernel_rfl) J (eE1 E ?_);intro fj E S;refine wnQ (QO (wmI J (wiI J J (wfA Tryz.underlying69 ty9 J (wlA S 0 ty9 J (W_v _ (VQ Tryz.underlying9 J) J (W_v (vI (imin (9000:Int) (((rd (rd O B) K).Key).length:Int))) (UU J J) J (wiI J J (wfA Tryz.underlying69 ty9 J (wlA S 0 ty9 J (W_v _ (VQ Tryz.underlying9 J) J (W_v (vI (imin (9000:Int) (((rd (rd O B) K).End).length:Int))) (UU J J) J (wiI J J (wfA Tryz.underlying69 ty9 J ?_))))))))))))));refine wlA S 0 ty9 J (W_v _ (VQ Tryz.underlying9 J) J (W_v (vI (imin (9000:Int) (((rd (rd O B) K).Value).length:Int))) (UU J J) J (wiI J J (waI J (QH (bn (tn (QO (wmI J (wiI J J (waI J (wnQ ?_))))))))))));exact ⟨k,Nat.lt_succ_self k,⟨(IntKind.i64.wrap ((IntKind.i64.wrap ((IntKind.i64.wrap ((IntKind.i64.wrap (aa+(5:Int)))+(imin (9000:Int) (((rd (rd O B) K).Key).length:Int))))+(imin (9000:Int) (((rd (rd O B) K).End).length:Int))))+(imin (9000:Int) (((rd (rd O B) K).Value).length:Int)))),(IntKind.i64.wrap (K+(1:Int))),H,agP J,E,S.pk []⟩⟩
        refine QA (cB ak) ?_;refine Yn ?_;refine tx (tx (bsm (?_)));refine tn ?_;exact ⟨aa,oi H,agP J,E,S.pk []⟩
     rintro U fk ⟨ag,rfl,V,E,S⟩;rw [QC V];have H:=cy;refine bn (tn (QO (wmI J (wiI J J (waI J (wnQ ?_))))));exact ⟨k,Nat.lt_succ_self k,⟨ag,(IntKind.i64.wrap (B+(1:Int))),H,agP J,E,S.pk []⟩⟩
    refine QA (cB aj) ?_;refine Yn ?_;refine tx (tx (bsm (?_)));refine tn ?_;exact ⟨a9,oi H,agP J,E,S.pk []⟩
 rintro U fl ⟨al,rfl,V,E,S⟩;rw [QC V];have H:=cw;refine tn ?_
 as_aux_lemma =>
 refine wsQ (wmI J (wiB J J (waB J (wnQ ?_))));refine QR ?_;obtain rfl:=oi H;exact ⟨_,_,_,rsA (vs:=[_]) J,HM,E,S.pk [],⟨J,J⟩⟩
def VG (E:Qb):Nat→Int→Option ((Bool)⊕(Unit))
 | 0,_=>none
 | k+1,B=>(if (decide (B<(8:Int)))=true then (Option.bind (α:=List VV) (some ([(⟨(E.Tasks),(1:Int),(6:Int)⟩:VV),(⟨(E.Active),(1:Int),(8:Int)⟩:VV),(⟨(E.Keys),(1:Int),(64:Int)⟩:VV),(⟨(E.Depth),(2:Int),(8:Int)⟩:VV),(⟨(E.TS),(1:Int),(1048576:Int)⟩:VV),(⟨(E.KeyLen),(1:Int),(64:Int)⟩:VV),(⟨(E.ValLen),(0:Int),(256:Int)⟩:VV),(⟨(E.Fan),(3:Int),(8:Int)⟩:VV)]:List VV)) (fun G=>(if 0≤B∧B<(8:Int) then (if ((decide ((rd G B).n<(rd G B).low))||(decide ((rd G B).n>(rd G B).high)))=true then some (.inl false) else VG E k (IntKind.i64.wrap (B+(1:Int)))) else none))) else some (.inr ()))
theorem VG.mono {B}: ∀ {kl:Nat} {E},OLe (VG B kl E) (VG B (kl+1) E):=by
 intro kl
 induction kl with
 | zero=>intros;exact OLe.none
 | succ kl ih =>
  intros
  rw [VG.eq_2,VG.eq_2];exact mo
def Vb (k:Nat) (E:Qb):Option (Bool) :=
 (Option.bind (VG E k (0:Int)) (fun B=>Sum.elim (fun r'=>some r') (fun _=>some true) B))
theorem Vb.mono {k B}: OLe (Vb k B) (Vb (k+1) B):=by
 unfold Vb;have m1:=@VG.mono;exact mo
theorem Vb.con {k M} {B:Qb} {r:Bool} (h:Vb k B=some r): Con Tryz.prog 34 #[.agg (QN B)] M [] (fun v M' a5=>v=.bool r∧a5=[]):=by
 refine cwA Tryz.func34 J Tryz.ntmps34 Tryz.results34 J h ?_;intro w F rn S aa E HM H;unfold Vb at H;refine wsQ ?_;refine XS S (QN B) J J J (eE2 E ?_);intro b1 w2 E S;refine waB J (wnQ (QJ (wsQ (wfA Tryz.underlying23 ty3 J (wlA S 0 ty3 J (W_v _ (xb2 [(0,1),(1,1),(2,1)] #[vI (B.Tasks),vI 1,vI 6] Tryz.underlying135 ty135 J) J (wfA Tryz.underlying23 ty3 J (wlA S 0 ty3 J (W_v _ (xb2 [(0,1),(1,1),(2,1)] #[vI (B.Active),vI 1,vI 8] Tryz.underlying135 ty135 J) J (wfA Tryz.underlying23 ty3 J (wlA S 0 ty3 J (W_v _ (xb2 [(0,1),(1,1),(2,1)] #[vI (B.Keys),vI 1,vI 64] Tryz.underlying135 ty135 J) J (wfA Tryz.underlying23 ty3 J ?_)))))))))))));refine wlA S 0 ty3 J (W_v _ (xb2 [(0,1),(1,1),(2,1)] #[vI (B.Depth),vI 2,vI 8] Tryz.underlying135 ty135 J) J (wfA Tryz.underlying23 ty3 J (wlA S 0 ty3 J (W_v _ (xb2 [(0,1),(1,1),(2,1)] #[vI (B.TS),vI 1,vI 1048576] Tryz.underlying135 ty135 J) J (wfA Tryz.underlying23 ty3 J (wlA S 0 ty3 J (W_v _ (xb2 [(0,1),(1,1),(2,1)] #[vI (B.KeyLen),vI 1,vI 64] Tryz.underlying135 ty135 J) J (wfA Tryz.underlying23 ty3 J (wlA S 0 ty3 J (W_v _ (xb2 [(0,1),(1,1),(2,1)] #[vI (B.ValLen),vI 0,vI 256] Tryz.underlying135 ty135 J) J (wfA Tryz.underlying23 ty3 J (wlA S 0 ty3 J (W_v _ (xb2 [(0,1),(1,1),(2,1)] #[vI (B.Fan),vI 3,vI 8] Tryz.underlying135 ty135 J) J (W_v (.agg #[vI (B.Tasks),vI 1,vI 6,vI (B.Active),vI 1,vI 8,vI (B.Keys),vI 1,vI 64,vI (B.Depth),vI 2,vI 8,vI (B.TS),vI 1,vI 1048576,vI (B.KeyLen),vI 1,vI 64,vI (B.ValLen),vI 0,vI 256,vI (B.Fan),vI 3,vI 8]) (ql #[vI (B.Tasks),vI 1,vI 6,vI (B.Active),vI 1,vI 8,vI (B.Keys),vI 1,vI 64,vI (B.Depth),vI 2,vI 8,vI (B.TS),vI 1,vI 1048576,vI (B.KeyLen),vI 1,vI 64,vI (B.ValLen),vI 0,vI 256,vI (B.Fan),vI 3,vI 8] Tryz.underlying136 ty136 ty135 J (by kernel_rfl)) J (wmI J ?_)))))))))))))));refine wnQ ?_;obtain ⟨a2,a4,a1⟩:=QM H;refine Zs (fun U w'=>.inr ()=a2∧QX U []∧Ext w w'∧St w' M F []) ?_ ?_
 ·refine Y8 (fun n U w'=>∃ (K:Int),VG B n K=some a2∧QX U [(29,.agg #[vI (B.Tasks),vI 1,vI 6,vI (B.Active),vI 1,vI 8,vI (B.Keys),vI 1,vI 64,vI (B.Depth),vI 2,vI 8,vI (B.TS),vI 1,vI 1048576,vI (B.KeyLen),vI 1,vI 64,vI (B.ValLen),vI 0,vI 256,vI (B.Fan),vI 3,vI 8]),(30,vI K)]∧Ext w w'∧St w' M F []) k ?_ ?_
  ·exact ⟨(0:Int),a4,agP J,E,S.pk []⟩
  ·intro n;rintro U ab ⟨K,H,V,E,S⟩;rw [QC V]
   cases n with
   | zero=>cases H
   | succ k =>
    rw [VG.eq_2] at H;refine wsQ (wiB J J (wnQ (QJ ?_)));rcases Q0 H with ⟨W,H⟩ | ⟨W,H⟩
    ·refine QD (cB W) ?_;refine QT (tn (QJ ?_));refine Zg ?_;refine wsQ ?_;obtain ⟨O,Y,H⟩:=QM H;replace Y:=oi Y;obtain ⟨⟨a3,a7⟩,H⟩:=Z3 H;refine W_v (.agg (U1 (rd O K))) ((by rw [← Y];exact qk Tryz.underlying136 ty135 rfl rfl a3 a7 (by obtain ⟨q,hq⟩:=Int.eq_ofNat_of_zero_le a3;have h9:q=0∨q=1∨q=2∨q=3∨q=4∨q=5∨q=6∨q=7:=(by omega);rcases h9 with rfl | rfl | rfl | rfl | rfl | rfl | rfl | rfl<;>(rw [hq]<;>rfl)))) rfl ?_;refine YX S #[vI 0,vI 0,vI 0] ty135 J J (eE2 E ?_);intro ac ad E S;refine Qq S 0 J ty135 J J [vI ((rd O K).n),vI ((rd O K).low),vI ((rd O K).high)] J J J (U1 (rd O K)) J J (eE1 E ?_);intro a8 E S;refine wnQ (wsQ (wfA Tryz.underlying135 ty3 J (wlA S 0 ty3 J (wfA Tryz.underlying135 ty3 J (wlA S 0 ty3 J (wiB J J (wmB J ?_)))))));refine Q7 6 (fun U w'=>QX U [(29,.agg #[vI (B.Tasks),vI 1,vI 6,vI (B.Active),vI 1,vI 8,vI (B.Keys),vI 1,vI 64,vI (B.Depth),vI 2,vI 8,vI (B.TS),vI 1,vI 1048576,vI (B.KeyLen),vI 1,vI 64,vI (B.ValLen),vI 0,vI 256,vI (B.Fan),vI 3,vI 8]),(30,vI K),(44,.bool ((decide ((rd O K).n<(rd O K).low))||(decide ((rd O K).n>(rd O K).high))))]∧a8=w') ?_ ?_
     ·rcases Qr (decide ((rd O K).n<(rd O K).low)) with G | G
      ·refine QL (cS G) (wfA Tryz.underlying135 ty3 J (QL (cS G) (wlA S 0 ty3 J (QL (cS G) (wfA Tryz.underlying135 ty3 J (QL (cS G) (wlA S 0 ty3 J (QL (cS G) (wiB J J (wqB G J (QH ?_)))))))))));exact ⟨⟨J,J,(flB G),trivial⟩,rfl⟩
      ·refine Qa (skF G) J (Qa (skF G) J (Qa (skF G) J (Qa (skF G) J (Qa (skF G) J (wpB G J (QH ?_))))));exact ⟨⟨J,J,(flB G),trivial⟩,rfl⟩
     rintro U _ ⟨V,rfl⟩;rw [QC V];refine wnQ ?_;rcases Q0 H with ⟨Z,H⟩ | ⟨Z,H⟩
     ·refine QD (cB Z) ?_;refine wsQ (waB J (wnQ ?_));refine QR ?_;refine br (tr (tr (br (tr (tr (?_))))));obtain rfl:=oi H;have H:=a1;replace H:=elimL H;obtain rfl:=oi H;exact ⟨_,_,_,rsA (vs:=[_]) J,HM,E,S.pk [],⟨J,J⟩⟩
     refine QA (cB Z) (QT (bn (tn (QO (wiI J J (wmI J (wnQ ?_)))))));exact ⟨k,Nat.lt_succ_self k,⟨(IntKind.i64.wrap (K+(1:Int))),H,agP J,E,S.pk []⟩⟩
    refine QA (cB W) ?_;refine Yn ?_;refine tx (tx (bsm (?_)));refine tn ?_;exact ⟨oi H,trivial,E,S.pk []⟩
 rintro U ae ⟨rfl,V,E,S⟩;rw [QC V];have H:=a1;replace H:=elimR H;refine tn ?_
 as_aux_lemma =>
 refine wsQ (waB J (wnQ ?_));refine QR ?_;obtain rfl:=oi H;exact ⟨_,_,_,rsA (vs:=[_]) J,HM,E,S.pk [],⟨J,J⟩⟩
def VC (k:Nat) (B:(List QZ)):Option (Bool) :=
 some (decide ((B.length:Int)>(64:Int)))
theorem VC.mono {k B}: OLe (VC k B) (VC (k+1) B):=by
 unfold VC;exact mo
theorem VC.con {k M G K} {B:(List QZ)} {r:Bool} (h:VC k B=some r) (V:SlR Yp M (.slice G B.length K) B): Con Tryz.prog 36 #[.slice G B.length K] M [] (fun v M' O=>v=.bool r∧O=[]):=by
 refine cwA Tryz.func36 J Tryz.ntmps36 Tryz.results36 J h ?_;intro w F Y S W E U H;unfold VC at H;refine wsQ (waB J (wnQ (wsQ (wmL J (W_v _ (Qd (n:=B.length) Tryz.underlying67 J) J (wiB J J (waB J (wnQ ?_))))))));refine QR ?_;obtain rfl:=oi H;exact ⟨_,_,_,rsA (vs:=[_]) J,U,E,S.pk [],⟨J,J⟩⟩
def Qu (E:(List (List QZ))):Nat→Int→Option ((Int)⊕(Unit))
 | 0,_=>none
 | k+1,B=>(if (decide (B<(E.length:Int)))=true then (if 0≤B∧B<(E.length:Int) then (Option.bind (VC k (rd E B)) (fun G=>(if G=true then some (.inl B) else Qu E k (IntKind.i64.wrap (B+(1:Int)))))) else none) else some (.inr ()))
theorem Qu.mono {B}: ∀ {kl:Nat} {E},OLe (Qu B kl E) (Qu B (kl+1) E):=by
 intro kl
 induction kl with
 | zero=>intros;exact OLe.none
 | succ kl ih =>
  intros
  rw [Qu.eq_2,Qu.eq_2];have m1:=@VC.mono;exact mo
def ZT (k:Nat) (E:(List (List QZ))):Option (Int) :=
 (Option.bind (Qu E k (0:Int)) (fun B=>Sum.elim (fun r'=>some r') (fun _=>some (-1:Int)) B))
theorem ZT.mono {k B}: OLe (ZT k B) (ZT (k+1) B):=by
 unfold ZT;have m1:=@Qu.mono;exact mo
theorem ZT.con {k M A0 c0} {B:(List (List QZ))} {r:Int} (h:ZT k B=some r) (ac:SlR (rSl Yp) M (.slice A0 B.length c0) B): Con Tryz.prog 66 #[.slice A0 B.length c0,.func (.func 36) #[] #[]] M [] (fun v M' Z=>v=vI r∧Z=[]):=by
 refine cwA Tryz.func66 J Tryz.ntmps66 Tryz.results66 J h ?_;intro w F rn S ah E HM H;unfold ZT at H;refine wsQ (waI J (wnQ (QJ (wsQ (wmL J (W_v _ (Qd (n:=B.length) Tryz.underlying24 J) J (wmI J (wnQ ?_))))))));obtain ⟨a1,a6,U⟩:=QM H;refine Zs (fun V w'=>.inr ()=a1∧QX V []∧Ext w w'∧St w' M F []) ?_ ?_
 ·refine Y8 (fun n V w'=>∃ (O:Int),Qu B n O=some a1∧QX V [(0,.slice A0 B.length c0),(1,.func (.func 36) #[] #[]),(7,vI (B.length:Int)),(8,vI O)]∧Ext w w'∧St w' M F []) k ?_ ?_
  ·exact ⟨(0:Int),a6,agP J,E,S.pk []⟩
  ·intro n;rintro V ai ⟨O,H,W,E,S⟩;rw [QC W]
   cases n with
   | zero=>cases H
   | succ k =>
    rw [Qu.eq_2] at H;refine wsQ (wiB J J (wnQ (QJ ?_)));rcases Q0 H with ⟨G,H⟩ | ⟨G,H⟩
    ·refine QD (cB G) ?_;refine QT (tn (QJ ?_));refine Zg ?_;refine wsQ (wmI J (waI J (wnQ (wsQ (W_v (.func (.func 36) #[] #[]) (XF J) J (wmL J (wmI J ?_)))))));obtain ⟨⟨a2,a3⟩,H⟩:=Z3 H;obtain ⟨aj,ak,af,_,_,a7,a8,ag,a9,aa⟩:=SlW.at' ac a2 a3;obtain ⟨al,Y,rfl⟩:=a9;obtain ⟨am,an,rfl,_⟩:=Y.form;refine W_v _ (QP Tryz.underlying24 ty67 (slA a7) J a2 a3) J (W_v _ (YU (S.frz a8) ty67 J (aa 0 _ J)) J ?_);obtain ⟨ao,ab,H⟩:=QM H;refine Vr (fs:=[]) (cap:=[]) fn36 J (VC.con ab Y) (Γ1:=[]) (Γ2:=[]) S J J flN (eE4 E ?_);rintro _ ae _ Z E S ⟨rfl,rfl⟩;replace S:St ae M F []:=S;refine wnQ ?_;rcases Q0 H with ⟨K,H⟩ | ⟨K,H⟩
     ·refine QD (cB K) ?_;refine wsQ (wmI J (waI J (wnQ ?_)));refine QR ?_;refine br (tr (tr (br (tr (tr (?_))))));obtain rfl:=oi H;have H:=U;replace H:=elimL H;obtain rfl:=oi H;exact ⟨_,_,_,rsA (vs:=[_]) J,HM,E,S.pk [],⟨J,J⟩⟩
     refine QA (cB K) (QT (bn (tn (QO (wiI J J (wmI J (wnQ ?_)))))));exact ⟨k,Nat.lt_succ_self k,⟨(IntKind.i64.wrap (O+(1:Int))),H,agP J,E,S.pk []⟩⟩
    refine QA (cB G) ?_;refine Yn ?_;refine tx (tx (bsm (?_)));refine tn ?_;exact ⟨oi H,trivial,E,S.pk []⟩
 rintro V ap ⟨rfl,W,E,S⟩;rw [QC W];have H:=U;replace H:=elimR H;refine tn ?_
 as_aux_lemma =>
 refine wsQ (waI J (wnQ ?_));refine QR ?_;obtain rfl:=oi H;exact ⟨_,_,_,rsA (vs:=[_]) J,HM,E,S.pk [],⟨J,J⟩⟩
def ZB (k:Nat) (B:(List (List QZ))):Option (Bool) :=
 (Option.bind (ZT k B) (fun E=>some (decide (E≥(0:Int)))))
theorem ZB.mono {k B}: OLe (ZB k B) (ZB (k+1) B):=by
 unfold ZB;have m1:=@ZT.mono;exact mo
theorem ZB.con {k M K O} {B:(List (List QZ))} {r:Bool} (h:ZB k B=some r) (U:SlR (rSl Yp) M (.slice K B.length O) B): Con Tryz.prog 35 #[.slice K B.length O,.func (.func 36) #[] #[]] M [] (fun v M' G=>v=.bool r∧G=[]):=by
 refine cwA Tryz.func35 J Tryz.ntmps35 Tryz.results35 J h ?_;intro w F rn S Z E W H;unfold ZB at H;refine wsQ (waB J (wnQ (wsQ (wmL J (W_v (.func (.func 36) #[] #[]) (XF J) J ?_)))));obtain ⟨t1,V,H⟩:=QM H;refine YZ fn66 (ZT.con V U) (Γ1:=[]) (Γ2:=[]) S J J flN (eE4 E ?_);rintro _ Y _ G E S ⟨rfl,rfl⟩;replace S:St Y M F []:=S;refine wiB J J (waB J (wnQ ?_));refine QR ?_;obtain rfl:=oi H;exact ⟨_,_,_,rsA (vs:=[_]) J,W,E,S.pk [],⟨J,J⟩⟩
def VB (k:Nat) (B:Qb) (E:(List (List QZ))):Option (Bool) :=
 (Option.bind (Vb k B) (fun K=>(Option.bind (α:=Bool) (if (K&&(decide ((E.length:Int)≤B.Tasks)))=true then (Option.bind (ZB k E) (fun G=>some ((!G)))) else some (false)) (fun H=>some H))))
theorem VB.mono {k B E}: OLe (VB k B E) (VB (k+1) B E):=by
 unfold VB;have m1:=@ZB.mono;have m2:=@Vb.mono;exact mo
theorem VB.con {k M} {O:Qb} {A1 c1} {K:(List (List QZ))} {r:Bool} (h:VB k O K=some r) (a7:SlR (rSl Yp) M (.slice A1 K.length c1) K): Con Tryz.prog 10 #[.agg (QN O),.slice A1 K.length c1] M [] (fun v M' U=>v=.bool r∧U=[]):=by
 refine cwA Tryz.func10 J Tryz.ntmps10 Tryz.results10 J h ?_;intro w F rn S ae E HM H;unfold VB at H;refine wsQ ?_;refine XS S (QN O) J J J (eE2 E ?_);intro b1 w2 E S;refine waB J (wnQ (wsQ (W_v (.agg (QN O)) (Qf (S.blk 0 J) ty23 J (QI J) J J) J ?_)));obtain ⟨t4,a9,H⟩:=QM H;refine Zb fn34 (Vb.con a9) S J J flN (eE4 E ?_);rintro _ w6 _ U E S ⟨rfl,rfl⟩;refine wmB J ?_;refine Q7 6 (fun V w'=>QX V [(1,.slice A1 K.length c1),(13,.bool (t4&&(decide ((K.length:Int)≤O.Tasks))))]∧w6=w') ?_ ?_
 ·rcases Qr t4 with B | B
  ·refine Qa (skT B) J (Qa (skT B) J (Qa (skT B) J (Qa (skT B) J (Qa (skT B) J (wqB B J (QH ?_))))));exact ⟨⟨J,(flB B),trivial⟩,rfl⟩
  ·refine QL (cS B) (wmL J (QL (cS B) (W_v _ (Qd (n:=K.length) Tryz.underlying24 J) J (QL (cS B) (wfA Tryz.underlying23 ty3 J (QL (cS B) (wlA S 0 ty3 J (QL (cS B) (wiB J J (wpB B J (QH ?_)))))))))));exact ⟨⟨J,(flB B),trivial⟩,rfl⟩
 rintro V _ ⟨W,rfl⟩;rw [QC W];refine wmB J ?_;obtain ⟨aa,a4,a5⟩:=QM H;refine Q7 4 (fun V w'=>∃ (Y:Bool),(Y)=aa∧QX V [(18,.bool Y)]∧Ext w w'∧St w' M F []) ?_ ?_
 ·have H:=a4;rcases Q0 H with ⟨G,H⟩ | ⟨G,H⟩
  ·refine QL (cS G) (wmL J (QL (cS G) ?_));obtain ⟨Z,a6,H⟩:=QM H;refine YZ fn35 (ZB.con a6 a7) (Γ1:=[]) (Γ2:=[_]) S J J flN (eE4 E ?_);rintro _ ab _ U E S ⟨rfl,rfl⟩;replace S:St ab M F [_]:=S;refine QL (cS G) (W_v _ (X2 (b:=Z) J) J (wpB G J (QH ?_)));exact ⟨(!Z),oi H,agP J,E,S.pk []⟩
  ·refine Qa (skT G) J (Qa (skT G) J (Qa (skT G) J (wqB G J (QH ?_))));exact ⟨false,oi H,agP J,E,S.pk []⟩
 rintro V af ⟨Y,rfl,W,E,S⟩;rw [QC W];have H:=a5;refine waB J (wnQ ?_);refine QR ?_;obtain rfl:=oi H;exact ⟨_,_,_,rsA (vs:=[_]) J,HM,E,S.pk [],⟨J,J⟩⟩
def Vm (k:Nat) (B:Int):Option (Bool) :=
 some (((B != (1:Int))&&(B != (8:Int)))&&(B != (9:Int)))
theorem Vm.mono {k B}: OLe (Vm k B) (Vm (k+1) B):=by
 unfold Vm;exact mo
theorem Vm.con {k M} {K:Int} {r:Bool} (h:Vm k K=some r): Con Tryz.prog 97 #[vU K] M [] (fun v M' V=>v=.bool r∧V=[]):=by
 refine cwA Tryz.func97 J Tryz.ntmps97 Tryz.results97 J h ?_;intro w F Z S Y E W H;unfold Vm at H;refine wsQ (waB J (wnQ (wsQ (wmI J (wiB J J (wmB J ?_))))));refine Q7 3 (fun O w'=>QX O [(0,vU K),(8,.bool ((K != (1:Int))&&(K != (8:Int))))]∧w=w') ?_ ?_
 ·rcases Qr (K != (1:Int)) with B | B
  ·refine Qa (skT B) J (Qa (skT B) J (wqB B J (QH ?_)));exact ⟨⟨J,(flB B),trivial⟩,rfl⟩
  ·refine QL (cS B) (wmI J (QL (cS B) (wiB J J (wpB B J (QH ?_)))));exact ⟨⟨J,(flB B),trivial⟩,rfl⟩
 rintro O _ ⟨U,rfl⟩;rw [QC U];refine wmB J ?_;refine Q7 3 (fun O w'=>QX O [(12,.bool (((K != (1:Int))&&(K != (8:Int)))&&(K != (9:Int))))]∧w=w') ?_ ?_
 ·rcases Qr ((K != (1:Int))&&(K != (8:Int))) with G | G
  ·refine Qa (skT G) J (Qa (skT G) J (wqB G J (QH ?_)));exact ⟨⟨(flB G),trivial⟩,rfl⟩
  ·refine QL (cS G) (wmI J (QL (cS G) (wiB J J (wpB G J (QH ?_)))));exact ⟨⟨(flB G),trivial⟩,rfl⟩
 rintro O _ ⟨U,rfl⟩;rw [QC U];refine waB J (wnQ ?_);refine QR ?_;obtain rfl:=oi H;exact ⟨_,_,_,rsA (vs:=[_]) J,W,E,S.pk [],⟨J,J⟩⟩
def Xh (k:Nat) (B:Qb) (E:Int) (G:Int):Option (Unit) :=
 some ()
theorem Xh.mono {k B E G}: OLe (Xh k B E G) (Xh (k+1) B E G):=by
 unfold Xh;exact mo
theorem Xh.con {k M} {B:Qb} {G:Int} {K:Int} {r:Unit} (h:Xh k B G K=some r): Con Tryz.prog 130 #[.agg (QN B),vI G,vI K] M [] (fun v M' a3=>∃ (O:Nat) (U:Nat) (V:Nat),v=.func (.func 132) #[] #[pt O 0,pt U 0,pt V 0]∧a3=[B23 O B,Blk U (.cells #[vI G] 3 (0,0)),Blk V (.cells #[vI K] 3 (0,0))]):=by
 refine cwA Tryz.func130 J Tryz.ntmps130 Tryz.results130 J h ?_;intro w F rn S a5 E HM H;unfold Xh at H;refine wsQ ?_;refine XS S (QN B) J J J (eE2 E ?_);intro W w2 E S;refine XS S #[vI G] J J J (eE2 E ?_);intro Y w5 E S;refine XS S #[vI K] J J J (eE2 E ?_);intro Z w8 E S;refine W_v (.nilFunc) (YW J) J (wnQ (wsQ (W_v (.func (.func 132) #[] #[pt W 0,pt Y 0,pt Z 0]) (Vz J) J (W_v (.func (.func 132) #[] #[pt W 0,pt Y 0,pt Z 0]) (YW J) J (wnQ ?_)))));refine QR ?_;obtain rfl:=oi H;exact ⟨_,_,_,rsA (vs:=[_]) J,HM,E,S.pk [2,1,0],⟨W,Y,Z,J,J⟩⟩
def Xi (k:Nat) (B:Str) (ac_0:Qb) (ac_1:Int) (ac_2:Int):Option (Bool) :=
 (Option.bind (Vb k ac_0) (fun E=>some ((E&&(decide ((B.length:Int)≥ac_1)))&&(decide ((B.length:Int)≤ac_2)))))
theorem Xi.mono {k B ac_0 ac_1 ac_2}: OLe (Xi k B ac_0 ac_1 ac_2) (Xi (k+1) B ac_0 ac_1 ac_2):=by
 unfold Xi;have m1:=@Vb.mono;exact mo
theorem Xi.con {k M} {K:Str} {ac_0:Qb} {ac_1:Int} {ac_2:Int} {bc_0 bc_1 bc_2} {r:Bool} (h:Xi k K ac_0 ac_1 ac_2=some r): Con Tryz.prog 132 #[vS K,pt bc_0 0,pt bc_1 0,pt bc_2 0] M [B23 bc_0 ac_0,Blk bc_1 (.cells #[vI ac_1] 3 (0,0)),Blk bc_2 (.cells #[vI ac_2] 3 (0,0))] (fun v M' W=>v=.bool r∧W=[B23 bc_0 ac_0,Blk bc_1 (.cells #[vI ac_1] 3 (0,0)),Blk bc_2 (.cells #[vI ac_2] 3 (0,0))]):=by
 refine cwA Tryz.func132 J Tryz.ntmps132 Tryz.results132 J h ?_;intro w F rn S a2 E HM H;unfold Xi at H;refine wsQ (waB J (wnQ (wsQ (W_v (.agg (QN ac_0)) (Qf (S.blk 0 J) ty23 J (QI J) J J) J ?_))));obtain ⟨V,Y,H⟩:=QM H;refine Zb fn34 (Vb.con Y) S J J flN (eE4 E ?_);rintro _ Z _ W E S ⟨rfl,rfl⟩;refine wmB J ?_;refine Q7 5 (fun O w'=>QX O [(0,vS K),(3,pt bc_2 0),(13,.bool (V&&(decide ((K.length:Int)≥ac_1))))]∧Z=w') ?_ ?_
 ·rcases Qr V with B | B
  ·refine Qa (skT B) J (Qa (skT B) J (Qa (skT B) J (Qa (skT B) J (wqB B J (QH ?_)))));exact ⟨⟨J,J,(flB B),trivial⟩,rfl⟩
  ·refine QL (cS B) (wmS J (QL (cS B) (W_v _ (VQ Tryz.underlying9 J) J (QL (cS B) (wlA S 1 ty3 J (QL (cS B) (wiB J J (wpB B J (QH ?_)))))))));exact ⟨⟨J,J,(flB B),trivial⟩,rfl⟩
 rintro O _ ⟨U,rfl⟩;rw [QC U];refine wmB J ?_;refine Q7 5 (fun O w'=>QX O [(19,.bool ((V&&(decide ((K.length:Int)≥ac_1)))&&(decide ((K.length:Int)≤ac_2))))]∧Z=w') ?_ ?_
 ·rcases Qr (V&&(decide ((K.length:Int)≥ac_1))) with G | G
  ·refine Qa (skT G) J (Qa (skT G) J (Qa (skT G) J (Qa (skT G) J (wqB G J (QH ?_)))));exact ⟨⟨(flB G),trivial⟩,rfl⟩
  ·refine QL (cS G) (wmS J (QL (cS G) (W_v _ (VQ Tryz.underlying9 J) J (QL (cS G) (wlA S 2 ty3 J (QL (cS G) (wiB J J (wpB G J (QH ?_)))))))));exact ⟨⟨(flB G),trivial⟩,rfl⟩
 rintro O _ ⟨U,rfl⟩;rw [QC U];refine waB J (wnQ ?_);refine QR ?_;obtain rfl:=oi H;exact ⟨_,_,_,rsA (vs:=[_]) J,HM,E,S.pk [0,1,2],⟨J,J⟩⟩
def Vs (k:Nat) (B:Qb) (G:Str):Option (Bool) :=
 (Option.bind (Xh k B (1:Int) B.KeyLen) (fun H=>(Option.bind (Xi k G B (1:Int) B.KeyLen) (fun E=>some E))))
theorem Vs.mono {k B E}: OLe (Vs k B E) (Vs (k+1) B E):=by
 unfold Vs;have m1:=@Xi.mono;have m2:=@Xh.mono;exact mo
theorem Vs.con {k M} {G:Qb} {O:Str} {r:Bool} (h:Vs k G O=some r): Con Tryz.prog 121 #[.agg (QN G),vS O] M [] (fun v M' B=>v=.bool r∧B=[]):=by
 refine cwA Tryz.func121 J Tryz.ntmps121 Tryz.results121 J h ?_;intro w F rn S a4 E Z H;unfold Vs at H;refine wsQ ?_;refine XS S (QN G) J J J (eE2 E ?_);intro b1 w2 E S;refine waB J (wnQ (wsQ (W_v (.agg (QN G)) (Qf (S.blk 0 J) ty23 J (QI J) J J) J (wfA Tryz.underlying23 ty3 J (wlA S 0 ty3 J ?_)))));obtain ⟨t4,U,H⟩:=QM H;refine YZ fn130 (Xh.con U) (Γ1:=[]) (Γ2:=[_]) S J J (by rintro _ _ _ ⟨_,_,_,rfl,rfl⟩;exact (QK ZK (QK ZK (QK ZK Z9)))) (eE4 E ?_);rintro _ V _ B E S ⟨b6,b8,W,rfl,rfl⟩;replace S:St V M F [_,_,_,_]:=S;refine wmS J ?_;obtain ⟨a5,K,H⟩:=QM H;refine Vr (fs:=[]) (cap:=[pt b6 0,pt b8 0,pt W 0]) fn132 J (Xi.con K) (Γ1:=[_,_,_]) (Γ2:=[_]) S J J (by rintro _ _ _ ⟨rfl,rfl⟩;exact (QK ZK (QK ZK (QK ZK Z9)))) (eE4 E ?_);rintro _ Y _ B E S ⟨rfl,rfl⟩;replace S:St Y M F [_,_,_,_]:=S;refine waB J (wnQ ?_);refine QR ?_;obtain rfl:=oi H;exact ⟨_,_,_,rsA (vs:=[_]) J,Z,E,S.pk [],⟨J,J⟩⟩
def Vo (k:Nat) (B:Qb) (G:Str):Option (Bool) :=
 (Option.bind (Xh k B (0:Int) B.ValLen) (fun H=>(Option.bind (Xi k G B (0:Int) B.ValLen) (fun E=>some E))))
theorem Vo.mono {k B E}: OLe (Vo k B E) (Vo (k+1) B E):=by
 unfold Vo;have m1:=@Xi.mono;have m2:=@Xh.mono;exact mo
theorem Vo.con {k M} {G:Qb} {O:Str} {r:Bool} (h:Vo k G O=some r): Con Tryz.prog 122 #[.agg (QN G),vS O] M [] (fun v M' B=>v=.bool r∧B=[]):=by
 refine cwA Tryz.func122 J Tryz.ntmps122 Tryz.results122 J h ?_;intro w F rn S a4 E Z H;unfold Vo at H;refine wsQ ?_;refine XS S (QN G) J J J (eE2 E ?_);intro b1 w2 E S;refine waB J (wnQ (wsQ (W_v (.agg (QN G)) (Qf (S.blk 0 J) ty23 J (QI J) J J) J (wfA Tryz.underlying23 ty3 J (wlA S 0 ty3 J ?_)))));obtain ⟨t4,U,H⟩:=QM H;refine YZ fn130 (Xh.con U) (Γ1:=[]) (Γ2:=[_]) S J J (by rintro _ _ _ ⟨_,_,_,rfl,rfl⟩;exact (QK ZK (QK ZK (QK ZK Z9)))) (eE4 E ?_);rintro _ V _ B E S ⟨b6,b8,W,rfl,rfl⟩;replace S:St V M F [_,_,_,_]:=S;refine wmS J ?_;obtain ⟨a5,K,H⟩:=QM H;refine Vr (fs:=[]) (cap:=[pt b6 0,pt b8 0,pt W 0]) fn132 J (Xi.con K) (Γ1:=[_,_,_]) (Γ2:=[_]) S J J (by rintro _ _ _ ⟨rfl,rfl⟩;exact (QK ZK (QK ZK (QK ZK Z9)))) (eE4 E ?_);rintro _ Y _ B E S ⟨rfl,rfl⟩;replace S:St Y M F [_,_,_,_]:=S;refine waB J (wnQ ?_);refine QR ?_;obtain rfl:=oi H;exact ⟨_,_,_,rsA (vs:=[_]) J,Z,E,S.pk [],⟨J,J⟩⟩
def VW (k:Nat) (B:Qb) (G:Str):Option (Bool) :=
 (Option.bind (Xh k B (0:Int) B.KeyLen) (fun H=>(Option.bind (Xi k G B (0:Int) B.KeyLen) (fun E=>some E))))
theorem VW.mono {k B E}: OLe (VW k B E) (VW (k+1) B E):=by
 unfold VW;have m1:=@Xi.mono;have m2:=@Xh.mono;exact mo
theorem VW.con {k M} {G:Qb} {O:Str} {r:Bool} (h:VW k G O=some r): Con Tryz.prog 123 #[.agg (QN G),vS O] M [] (fun v M' B=>v=.bool r∧B=[]):=by
 refine cwA Tryz.func123 J Tryz.ntmps123 Tryz.results123 J h ?_;intro w F rn S a4 E Z H;unfold VW at H;refine wsQ ?_;refine XS S (QN G) J J J (eE2 E ?_);intro b1 w2 E S;refine waB J (wnQ (wsQ (W_v (.agg (QN G)) (Qf (S.blk 0 J) ty23 J (QI J) J J) J (wfA Tryz.underlying23 ty3 J (wlA S 0 ty3 J ?_)))));obtain ⟨t4,U,H⟩:=QM H;refine YZ fn130 (Xh.con U) (Γ1:=[]) (Γ2:=[_]) S J J (by rintro _ _ _ ⟨_,_,_,rfl,rfl⟩;exact (QK ZK (QK ZK (QK ZK Z9)))) (eE4 E ?_);rintro _ V _ B E S ⟨b6,b8,W,rfl,rfl⟩;replace S:St V M F [_,_,_,_]:=S;refine wmS J ?_;obtain ⟨a5,K,H⟩:=QM H;refine Vr (fs:=[]) (cap:=[pt b6 0,pt b8 0,pt W 0]) fn132 J (Xi.con K) (Γ1:=[_,_,_]) (Γ2:=[_]) S J J (by rintro _ _ _ ⟨rfl,rfl⟩;exact (QK ZK (QK ZK (QK ZK Z9)))) (eE4 E ?_);rintro _ Y _ B E S ⟨rfl,rfl⟩;replace S:St Y M F [_,_,_,_]:=S;refine waB J (wnQ ?_);refine QR ?_;obtain rfl:=oi H;exact ⟨_,_,_,rsA (vs:=[_]) J,Z,E,S.pk [],⟨J,J⟩⟩
def VH (k:Nat) (B:(List QS)) (E:Int):Option (Unit) :=
 some ()
theorem VH.mono {k B E}: OLe (VH k B E) (VH (k+1) B E):=by
 unfold VH;exact mo
theorem VH.con {k M G K} {B:(List QS)} {O:Int} {r:Unit} (h:VH k B O=some r) (a3:SlR ZG M (.slice G B.length K) B): Con Tryz.prog 177 #[.slice G B.length K,vI O] M [] (fun v M' Z=>∃ (U:Nat) (V:Nat),v=.func (.func 178) #[] #[pt U 0,pt V 0]∧Z=[Blk U (.cells #[.slice G B.length K] 54 (0,0)),Blk V (.cells #[vI O] 3 (0,0))]):=by
 refine cwA Tryz.func177 J Tryz.ntmps177 Tryz.results177 J h ?_;intro w F rn S a4 E HM H;unfold VH at H;refine wsQ ?_;refine XS S #[.slice G B.length K] J J J (eE2 E ?_);intro W w2 E S;refine XS S #[vI O] J J J (eE2 E ?_);intro Y w5 E S;refine W_v (.nilFunc) (YW J) J (wnQ (wsQ (W_v (.func (.func 178) #[] #[pt W 0,pt Y 0]) (Vz J) J (W_v (.func (.func 178) #[] #[pt W 0,pt Y 0]) (YW J) J (wnQ ?_)))));refine QR ?_;obtain rfl:=oi H;exact ⟨_,_,_,rsA (vs:=[_]) J,HM,E,S.pk [1,0],⟨W,Y,J,J⟩⟩
def Xu {σ ε:Type} (a_0:(List QS)) (a_1:Int) (bd:Int×Bool→σ→Option (σ⊕ε)):Nat→Int→σ⊕ε→Option ((σ⊕ε)⊕((σ⊕ε)))
 | 0,_,_=>none
 | k+1,B,G=>(if (decide (B<(a_0.length:Int)))=true then (if 0≤B∧B<(a_0.length:Int) then (Option.bind (toL G) (fun H=>Option.bind (bd (B,(decide ((rd a_0 B).TS≤a_1))) H) (fun E=>(if ((!(isNorm E))||(decide ((rd a_0 B).TS≤a_1)))=true then some (.inl E) else Xu a_0 a_1 bd k (IntKind.i64.wrap (B+(1:Int))) E)))) else none) else some (.inr (G)))
theorem Xu.mono {σ ε:Type} {a_0:(List QS)} {a_1:Int} {bd bd':Int×Bool→σ→Option (σ⊕ε)} (hbd:∀ x s,OLe (bd x s) (bd' x s)):∀ {kl:Nat} {B E},OLe (Xu a_0 a_1 bd kl B E) (Xu a_0 a_1 bd' (kl+1) B E):=by
 intro kl
 induction kl with
 | zero=>intros;exact OLe.none
 | succ kl ih =>
  intros
  rw [Xu.eq_2,Xu.eq_2]
  repeat' (first | with_reducible exact OLe.none | with_reducible exact OLe.some | with_reducible refine OLe.ite ?_ ?_ | with_reducible refine OLe.bind ?_ (fun _=>?_) | exact OLe.toL | exact hbd _ _ | exact ih | refine OLe.bind ?_ (fun _=>?_) | refine OLe.ite ?_ ?_ | refine OLe.elim (fun _=>?_) (fun _=>?_) | split)
def VI {σ ε:Type} (k:Nat) (a_0:(List QS)) (a_1:Int) (bd:Int×Bool→σ→Option (σ⊕ε)) (G:σ):Option (σ⊕ε) :=
 (Option.bind (Xu a_0 a_1 bd k (0:Int) (.inl G)) (fun B=>Sum.elim (fun r'=>some r') (fun E=>some E) B))
theorem VI.mono {σ ε:Type} {k:Nat} {a_0:(List QS)} {a_1:Int} {bd bd':Int×Bool→σ→Option (σ⊕ε)} (hbd:∀ x s,OLe (bd x s) (bd' x s)) {B:σ}:OLe (VI k a_0 a_1 bd B) (VI (k+1) a_0 a_1 bd' B):=by
 unfold VI
 repeat' (first | with_reducible exact OLe.none | with_reducible exact OLe.some | with_reducible refine OLe.ite ?_ ?_ | with_reducible refine OLe.bind ?_ (fun _=>?_) | with_reducible exact Xu.mono hbd | exact OLe.toL | exact hbd _ _ | refine OLe.bind ?_ (fun _=>?_) | refine OLe.ite ?_ ?_ | refine OLe.elim (fun _=>?_) (fun _=>?_) | split)
theorem VI.con {σ ε:Type} {k M A_0 c_0} {a_0:(List QS)} {a_1:Int} {b_0 b_1} {bd:Int×Bool→σ→Option (σ⊕ε)} {s0:σ} {r:σ⊕ε} (h:VI k a_0 a_1 bd s0=some r) (hr_0:SlR ZG M (.slice A_0 a_0.length c_0) a_0): Iter Tryz.prog 178 [pt b_0 0,pt b_1 0] M (fun (M:Hp) (x:Int×Bool) (vs:List Value)=>vs=[vI x.1,.bool x.2]) bd s0 r [Blk b_0 (.cells #[.slice A_0 a_0.length c_0] 54 (0,0)),Blk b_1 (.cells #[vI a_1] 3 (0,0))] (fun M' al=>al=[Blk b_0 (.cells #[.slice A_0 a_0.length c_0] 54 (0,0)),Blk b_1 (.cells #[vI a_1] 3 (0,0))]):=by
 intro lp B hY;refine cwA Tryz.func178 J Tryz.ntmps178 Tryz.results178 J h ?_;intro w F rn S av E V H;unfold VI at H;refine wsQ (wlA S 1 ty54 J (W_v _ (Qd (n:=a_0.length) Tryz.underlying54 J) J (wmI J (wnQ ?_))));obtain ⟨a8,ad,a3⟩:=QM H;refine Zs (fun Y w'=>∃ (a4:σ⊕ε) (Mj:Hp),.inr (a4)=a8∧QX Y []∧M.le Mj∧Ext w w'∧St w' Mj F [Blk b_0 (.cells #[.slice A_0 a_0.length c_0] 54 (0,0)),Blk b_1 (.cells #[vI a_1] 3 (0,0)),B a4]) ?_ ?_
 ·refine Y8 (fun n Y w'=>∃ (K:Int) (a1:σ⊕ε) (Mj:Hp),Xu a_0 a_1 bd n K a1=some a8∧QX Y [(0,.func (.yield lp) #[] #[]),(2,pt b_1 0),(6,.slice A_0 a_0.length c_0),(7,vI (a_0.length:Int)),(8,vI K)]∧M.le Mj∧Ext w w'∧St w' Mj F [Blk b_0 (.cells #[.slice A_0 a_0.length c_0] 54 (0,0)),Blk b_1 (.cells #[vI a_1] 3 (0,0)),B a1]) k ?_ ?_
  ·exact ⟨(0:Int),(.inl s0),M,ad,agP J,(Hp.le_refl M),E,S.pk [1,2,0]⟩
  ·intro n;rintro Y aw ⟨K,a1,a9,H,Z,O,E,S⟩;rw [QC Z];replace V:=Hp.le_trans V O;replace hr_0:=SlR.mono hr_0 O
   cases n with
   | zero=>cases H
   | succ k =>
    rw [Xu.eq_2] at H;refine wsQ (wiB J J (wnQ (QJ ?_)));rcases Q0 H with ⟨a0,H⟩ | ⟨a0,H⟩
    ·refine QD (cB a0) ?_;refine QT (tn (QJ ?_));refine Zg ?_;refine wsQ (wmI J ?_);obtain ⟨⟨aa,ab⟩,H⟩:=Z3 H;obtain ⟨ax,ay,ao,_,_,ae,af,ag,ah,ai⟩:=SlW.at' hr_0 aa ab;obtain rfl:ag=_:=ah;refine W_v _ (QP Tryz.underlying54 ty51 (slA ae) J aa ab) J (W_v (.agg (Z2 (rd a_0 K))) (Qf (S.frz af) ty51 J (X6 ai 0 J) J J) J ?_);refine YX S cz18 ty51 J J (eE2 E ?_);intro az b0 E S;refine waI J ?_;refine Qq S 0 J ty51 J J [vI ((rd a_0 K).Writer),vI ((rd a_0 K).TS),.bool ((rd a_0 K).Tomb),vS ((rd a_0 K).Value)] J J J (Z2 (rd a_0 K)) J J (eE1 E ?_);intro am E S;refine wnQ (wsQ (W_v (.func (.yield lp) #[] #[]) (XF J) J (wmI J (wfA Tryz.underlying51 ty3 J (wlA S 0 ty3 J (wlA S 2 ty3 J (wiB J J ?_)))))));obtain ⟨an,a5,H⟩:=QM H;obtain ⟨U,a6,H⟩:=QM H;rw [toL_eq a5] at S;replace S:St am a9 F [_,_,_,_]:=S.pk [3,0,1,2];refine QAd J (hY _ (K,(decide ((rd a_0 K).TS≤a_1))) _ an U V (J) a6) S J J ?_;rintro _ aj ak _ a2 E' S ⟨rfl,rfl⟩;replace V:=Hp.le_trans V a2;replace O:=Hp.le_trans O a2;replace E:=E.trans E';refine W_v _ (X2 (b:=(isNorm U)) J) J (wmB J ?_);refine Q7 5 (fun Y w'=>QX Y [(0,.func (.yield lp) #[] #[]),(2,pt b_1 0),(6,.slice A_0 a_0.length c_0),(7,vI (a_0.length:Int)),(8,vI K),(26,.bool ((!(isNorm U))||(decide ((rd a_0 K).TS≤a_1))))]∧aj=w') ?_ ?_
     ·rcases Qr (!(isNorm U)) with G | G
      ·refine QL (cS G) (wfA Tryz.underlying51 ty3 J (QL (cS G) (wlA S 1 ty3 J (QL (cS G) (wlA S 3 ty3 J (QL (cS G) (wiB J J (wqB G J (QH ?_)))))))));exact ⟨⟨J,J,J,J,J,(flB G),trivial⟩,rfl⟩
      ·refine Qa (skF G) J (Qa (skF G) J (Qa (skF G) J (Qa (skF G) J (wpB G J (QH ?_)))));exact ⟨⟨J,J,J,J,J,(flB G),trivial⟩,rfl⟩
     rintro Y _ ⟨Z,rfl⟩;rw [QC Z];refine wnQ ?_;rcases Q0 H with ⟨W,H⟩ | ⟨W,H⟩
     ·refine QD (cB W) ?_;refine QR ?_;refine br (tr (tr (br (tr (?_)))));obtain rfl:=oi H;have H:=a3;replace H:=elimL H;obtain rfl:=oi H;exact ⟨_,_,_,fun w1 e1=>Zk (vs:=[]) FA.nil,V,E,S.pk [0,2,3],⟨_,J,J⟩⟩
     refine QA (cB W) (QT (bn (tn (QO (wiI J J (wmI J (wnQ ?_)))))));exact ⟨k,Nat.lt_succ_self k,⟨(IntKind.i64.wrap (K+(1:Int))),U,ak,H,agP J,O,E,S.pk [2,3,0]⟩⟩
    refine QA (cB a0) ?_;refine Yn ?_;refine tx (tx (bsm (?_)));refine tn ?_;exact ⟨a1,a9,oi H,trivial,O,E,S.pk [0,1,2]⟩
 rintro Y ar ⟨a4,au,rfl,Z,a7,E,S⟩;rw [QC Z];replace V:=Hp.le_trans V a7;have H:=a3;replace H:=elimR H;obtain rfl:=oi H;exact ⟨_,_,_,fun w1 e1=>Zk (vs:=[]) FA.nil,V,E,S.pk [2,0,1],⟨_,J,J⟩⟩
def Vj (E:(List QS)) (k:Nat):(Int×Bool)→Unit→Option ((Unit)⊕(QS))
 | (B,G),_=>(Option.bind (α:=Bool) (if G=true then (if 0≤B∧B<(E.length:Int) then some ((!((rd E B).Tomb))) else none) else some (false)) (fun H=>(if H=true then (if 0≤B∧B<(E.length:Int) then some (.inr (rd E B)) else none) else some (.inl ()))))
theorem Vj.mono {B k}: ∀ x s,OLe (Vj B k x s) (Vj B (k+1) x s):=by
 intro x s;unfold Vj;exact mo
def Ve (k:Nat) (E:(List QS)) (H:Int):Option (QS×Bool) :=
 (Option.bind (VH k E H) (fun K=>(Option.bind (VI k E H (Vj E k) ()) (fun B=>Sum.elim (fun _=>some ((⟨(0:Int),(0:Int),false,([]:Str)⟩:QS),false)) (fun G=>some (G,true)) B))))
theorem Ve.mono {k B E}: OLe (Ve k B E) (Ve (k+1) B E):=by
 unfold Ve
 repeat' (first | with_reducible exact OLe.none | with_reducible exact OLe.some | with_reducible refine OLe.ite ?_ ?_ | with_reducible refine OLe.bind ?_ (fun _=>?_) | with_reducible exact Vj.mono | exact VI.mono (fun _ _=>by first | exact Vj.mono _ _) | with_reducible exact VH.mono | refine OLe.bind ?_ (fun _=>?_) | refine OLe.ite ?_ ?_ | refine OLe.elim (fun _=>?_) (fun _=>?_) | split)
theorem Ve.con {k M U V} {G:(List QS)} {a1:Int} {r:QS×Bool} (h:Ve k G a1=some r) (W:SlR ZG M (.slice U G.length V) G): Con Tryz.prog 174 #[.slice U G.length V,vI a1] M [] (fun v M' a7=>v=.tuple #[.agg (Z2 r.1),.bool r.2]∧a7=[]):=by
 refine cwA Tryz.func174 J Tryz.ntmps174 Tryz.results174 J h ?_;intro w F rn S bp E HM H;unfold Ve at H;refine wsQ ?_;refine XS S #[.slice U G.length V] J J J (eE2 E ?_);intro b1 w2 E S;refine YX S cz18 ty51 J J (eE2 E ?_);intro b4 w5 E S;refine YX S #[.bool false] ty4 J J (eE2 E ?_);intro b7 w8 E S;refine wnQ (QJ (wsQ (wlA S 2 ty54 J (wmI J ?_))));obtain ⟨bq,b3,H⟩:=QM H;refine YZ fn177 (VH.con b3 W) (Γ1:=[]) (Γ2:=[_,_,_]) S J J (by rintro _ _ _ ⟨_,_,rfl,rfl⟩;exact (QK ZK (QK ZK Z9))) (eE4 E ?_);rintro _ b8 _ a7 E S ⟨ad,ae,rfl,rfl⟩;replace S:St b8 M F [_,_,_,_,_]:=S;refine wnQ ?_;refine Zg ?_;obtain ⟨b5,ak,al⟩:=QM H;refine Uh (σ:=Unit) (ε:=QS) (Γi:=[Blk ad (.cells #[.slice U G.length V] 54 (0,0)),Blk ae (.cells #[vI a1] 3 (0,0))]) (Γr:=[]) (Sum.elim (fun _=>AE (ι:=Unit) (fun (i:Unit)=>[Blk b7 (.cells #[.bool false] 4 (0,0)),Blk b4 (.cells cz18 51 (0,0)),Blk b1 (.cells #[.slice U G.length V] 54 (0,0))]) (fun _ _=>True) (fun _ _ _ _ _=>trivial)) (fun Y=>AE (ι:=Unit) (fun (i:Unit)=>[Blk b7 (.cells #[.bool true] 4 (0,0)),B51 b4 Y]) (fun _ _=>True) (fun _ _ _ _ _=>trivial))) (fun _=>Code.ret) fn178 J (St.close_ex (φ:=(fun _ _=>True)) (hφ:=(fun _ _ _ _ _=>trivial)) () trivial (S.pk [2,3,4,0,1])) (by rintro _ _ _ rfl;rfl) (by decide) (VI.con ak W) ?_ ?_
 ·intro nn lp O F yy vs ss tt w a8 henc hbd S;obtain ⟨K,bd⟩:=yy;obtain rfl:=henc;replace HM:=Hp.le_trans HM a8;replace W:=SlR.mono W a8;replace S:St w O F (AE (ι:=Unit) (fun (i:Unit)=>[Blk b7 (.cells #[.bool false] 4 (0,0)),Blk b4 (.cells cz18 51 (0,0)),Blk b1 (.cells #[.slice U G.length V] 54 (0,0))]) (fun _ _=>True) (fun _ _ _ _ _=>trivial)::[]):=S;obtain ⟨_,_,S⟩:=S.open_ex;replace S:St w O F [_,_,_]:=S;have E:=Ext.refl w;have am:=Hp.le_refl O;have H:=hbd;rw [Vj.eq_1] at H;refine wsQ (waI J (wnQ (QO (waB J (QH ?_)))));refine Ya ⟨_,_,am,E,S,?_⟩;intro w F E3 S;have E:=Ext.refl w;have a9:=Hp.le_refl O;refine Zg ?_;refine wsQ (wmB J (wmB J ?_));obtain ⟨b6,an,ao⟩:=QM H;refine Q7 7 (fun ρ w'=>∃ (a6:Bool),(a6)=b6∧QX ρ [(2,pt b1 0),(4,pt b4 0),(5,pt b7 0),(6,vI K),(21,.bool a6)]∧Ext w w'∧St w' O F [Blk b7 (.cells #[.bool false] 4 (0,0)),Blk b4 (.cells cz18 51 (0,0)),Blk b1 (.cells #[.slice U G.length V] 54 (0,0))]) ?_ ?_
  ·have H:=an;rcases Q0 H with ⟨B,H⟩ | ⟨B,H⟩
   ·refine QL (cS B) (wlA S 2 ty54 J (QL (cS B) (wmI J (QL (cS B) ?_))));obtain ⟨⟨af,ag⟩,H⟩:=Z3 H;obtain ⟨be,bf,bb,_,_,ap,aq,ar,au,av⟩:=SlW.at' W af ag;obtain rfl:ar=_:=au;refine W_v _ (QP Tryz.underlying54 ty51 (slA ap) J af ag) J (QL (cS B) (wfA Tryz.underlying51 ty4 J (QL (cS B) (W_v _ (YU (S.frz aq) ty4 J (av 2 _ J)) J (QL (cS B) (W_v _ (X2 (b:=((rd G K).Tomb)) J) J (wpB B J (QH ?_))))))));exact ⟨(!((rd G K).Tomb)),oi H,agP J,E,S.pk [0,1,2]⟩
   ·refine Qa (skT B) J (Qa (skT B) J (Qa (skT B) J (Qa (skT B) J (Qa (skT B) J (Qa (skT B) J (wqB B J (QH ?_)))))));exact ⟨false,oi H,agP J,E,S.pk [0,1,2]⟩
  rintro ρ bg ⟨a6,rfl,ba,E,S⟩;rw [QC ba];have H:=ao;refine wnQ ?_;rcases Q0 H with ⟨Z,H⟩ | ⟨Z,H⟩
  ·refine QD (cB Z) ?_;refine wsQ (wlA S 2 ty54 J (wmI J ?_));obtain ⟨⟨ah,ai⟩,H⟩:=Z3 H;obtain ⟨bh,bi,bc,_,_,aw,ax,ay,az,b0⟩:=SlW.at' W ah ai;obtain rfl:ay=_:=az;refine W_v _ (QP Tryz.underlying54 ty51 (slA aw) J ah ai) J (W_v (.agg (Z2 (rd G K))) (Qf (S.frz ax) ty51 J (X6 b0 0 J) J J) J ?_);refine Qq S 1 J ty51 J J [vI ((rd G K).Writer),vI ((rd G K).TS),.bool ((rd G K).Tomb),vS ((rd G K).Value)] J J J (Z2 (rd G K)) J J (eE1 E ?_);intro bj E S;refine Qq S 0 J ty4 J J [.bool true] J J J #[.bool true] J J (eE1 E ?_);intro bk E S;refine wnQ ?_;refine QR ?_;refine br (?_);obtain rfl:=oi H;exact Jm J a9 E (St.close_ex (φ:=(fun _ _=>True)) (hφ:=(fun _ _ _ _ _=>trivial)) () trivial (S.pk [0,1]))
  refine QA (cB Z) (QT (bn ?_));obtain rfl:=oi H;exact Jm trivial a9 E (St.close_ex (φ:=(fun _ _=>True)) (hφ:=(fun _ _ _ _ _=>trivial)) () trivial (S.pk [0,1,2]))
 intro a2 a3 a7 b2 E' hΨ S;obtain rfl:a7=_:=hΨ;replace E:=E.trans E';replace HM:=Hp.le_trans HM b2;have H:=al;rcases b5 with _ | Y
 ·replace H:=elimL H;refine KL ?_;replace S:St a2 a3 F (AE (ι:=Unit) (fun (i:Unit)=>[Blk b7 (.cells #[.bool false] 4 (0,0)),Blk b4 (.cells cz18 51 (0,0)),Blk b1 (.cells #[.slice U G.length V] 54 (0,0))]) (fun _ _=>True) (fun _ _ _ _ _=>trivial)::[Blk ad (.cells #[.slice U G.length V] 54 (0,0)),Blk ae (.cells #[vI a1] 3 (0,0))]):=S;obtain ⟨_,_,S⟩:=S.open_ex;replace S:St a2 a3 F [_,_,_,_,_]:=S;refine bn (tn (wsQ (W_v _ (xb2 [(0,1),(1,1),(2,1),(3,1)] cz18 Tryz.underlying51 ty51 J) J ?_)));refine Qq S 1 J ty51 J J [vI 0,vI 0,.bool false,vS ([]:Str)] J J J cz18 J J (eE1 E ?_);intro bm E S;refine Qq S 0 J ty4 J J [.bool false] J J J #[.bool false] J J (eE1 E ?_);intro bo E S;refine wnQ ?_;refine QR ?_;obtain rfl:=oi H;exact ⟨_,_,_,fun w1 e1=>Zk (vs:=[.agg cz18,.bool false]) (FA.cons (rcA S e1 1 ty51 J J J) (FA.cons (⟨_,J,UG ty4 ((S.of_eq e1).blk 0 J) J⟩) (FA.nil))),HM,E,S.pk [],⟨J,J⟩⟩
 ·replace H:=elimR H;refine QBp ?_;replace S:St a2 a3 F (AE (ι:=Unit) (fun (i:Unit)=>[Blk b7 (.cells #[.bool true] 4 (0,0)),B51 b4 Y]) (fun _ _=>True) (fun _ _ _ _ _=>trivial)::[Blk ad (.cells #[.slice U G.length V] 54 (0,0)),Blk ae (.cells #[vI a1] 3 (0,0))]):=S;obtain ⟨_,_,S⟩:=S.open_ex;replace S:St a2 a3 F [_,_,_,_]:=S;refine QR ?_;refine br (tr (?_));obtain rfl:=oi H;exact ⟨_,_,_,fun w1 e1=>Zk (vs:=[.agg (Z2 Y),.bool true]) (FA.cons (rcA S e1 1 ty51 J J J) (FA.cons (⟨_,J,UG ty4 ((S.of_eq e1).blk 0 J) J⟩) (FA.nil))),HM,E,S.pk [],⟨J,J⟩⟩
def Vf (k:Nat) (B:(List QS)) (G:Int):Option (Bool) :=
 (Option.bind (α:=Bool) (if (decide ((B.length:Int)>(0:Int)))=true then (if 0≤(0:Int)∧(0:Int)<(B.length:Int) then some ((decide ((rd B (0:Int)).TS>G))) else none) else some (false)) (fun E=>some E))
theorem Vf.mono {k B E}: OLe (Vf k B E) (Vf (k+1) B E):=by
 unfold Vf;exact mo
theorem Vf.con {k M A0 c0} {G:(List QS)} {V:Int} {r:Bool} (h:Vf k G V=some r) (a8:SlR ZG M (.slice A0 G.length c0) G): Con Tryz.prog 175 #[.slice A0 G.length c0,vI V] M [] (fun v M' a9=>v=.bool r∧a9=[]):=by
 refine cwA Tryz.func175 J Tryz.ntmps175 Tryz.results175 J h ?_;intro w F rn S af E HM H;unfold Vf at H;refine wsQ (waB J (wnQ (wsQ (wmL J (W_v _ (Qd (n:=G.length) Tryz.underlying54 J) J (wiB J J (wmB J ?_)))))));obtain ⟨aa,W,Y⟩:=QM H;refine Q7 7 (fun ρ w'=>∃ (K:Bool),(K)=aa∧QX ρ [(15,.bool K)]∧Ext w w'∧St w' M F []) ?_ ?_
 ·have H:=W;rcases Q0 H with ⟨B,H⟩ | ⟨B,H⟩
  ·refine QL (cS B) (wmL J (QL (cS B) ?_));obtain ⟨⟨O,U⟩,H⟩:=Z3 H;obtain ⟨ag,ah,ae,_,_,Z,a2,a3,a4,a5⟩:=SlW.at' a8 O U;obtain rfl:a3=_:=a4;refine W_v _ (QP Tryz.underlying54 ty51 (slA Z) J O U) J (QL (cS B) (wfA Tryz.underlying51 ty3 J (QL (cS B) (W_v _ (YU (S.frz a2) ty3 J (a5 1 _ J)) J (QL (cS B) (wmI J (QL (cS B) (wiB J J (wpB B J (QH ?_))))))))));exact ⟨(decide ((rd G (0:Int)).TS>V)),oi H,agP J,E,S.pk []⟩
  ·refine Qa (skT B) J (Qa (skT B) J (Qa (skT B) J (Qa (skT B) J (Qa (skT B) J (Qa (skT B) J (wqB B J (QH ?_)))))));exact ⟨false,oi H,agP J,E,S.pk []⟩
 rintro ρ ai ⟨K,rfl,ac,E,S⟩;rw [QC ac];have H:=Y;refine waB J (wnQ ?_);refine QR ?_;obtain rfl:=oi H;exact ⟨_,_,_,rsA (vs:=[_]) J,HM,E,S.pk [],⟨J,J⟩⟩
def Ye (k:Nat) (B:Str) (E:Str):Option (Int) :=
 some (Lib.compareBytes B E)
theorem Ye.mono {k B E}: OLe (Ye k B E) (Ye (k+1) B E):=by
 unfold Ye;exact mo
theorem Ye.con {k M} {B:Str} {G:Str} {r:Int} (h:Ye k B G=some r): Con Tryz.prog 95 #[vS B,vS G] M [] (fun v M' K=>v=vI r∧K=[]):=by
 refine cwA Tryz.func95 J Tryz.ntmps95 Tryz.results95 J h ?_;intro w F V S U E O H;unfold Ye at H;refine wsQ (waI J (wnQ (wsQ (wmS J (wmS J (W_v (vI (Lib.compareBytes B G)) (x_cmp cmp120 J J) J (waI J (wnQ ?_))))))));refine QR ?_;obtain rfl:=oi H;exact ⟨_,_,_,rsA (vs:=[_]) J,O,E,S.pk [],⟨J,J⟩⟩
def VJ (k:Nat) (B:Str) (E:Str):Option (Int) :=
 (Option.bind (Ye k B E) (fun G=>some G))
theorem VJ.mono {k B E}: OLe (VJ k B E) (VJ (k+1) B E):=by
 unfold VJ;have m1:=@Ye.mono;exact mo
theorem VJ.con {k M} {G:Str} {K:Str} {r:Int} (h:VJ k G K=some r): Con Tryz.prog 71 #[vS G,vS K] M [] (fun v M' B=>v=vI r∧B=[]):=by
 refine cwA Tryz.func71 J Tryz.ntmps71 Tryz.results71 J h ?_;intro w F W S V E U H;unfold VJ at H;refine wsQ (waI J (wnQ (wsQ (wmS J (wmS J ?_)))));obtain ⟨Y,O,H⟩:=QM H;refine Zb fn95 (Ye.con O) S J J flN (eE4 E ?_);rintro _ Z _ B E S ⟨rfl,rfl⟩;refine waI J (wnQ ?_);refine QR ?_;obtain rfl:=oi H;exact ⟨_,_,_,rsA (vs:=[_]) J,U,E,S.pk [],⟨J,J⟩⟩
def Vt (k:Nat) (B:Str) (E:Str):Option (Int) :=
 (Option.bind (VJ k B E) (fun G=>some G))
theorem Vt.mono {k B E}: OLe (Vt k B E) (Vt (k+1) B E):=by
 unfold Vt;have m1:=@VJ.mono;exact mo
theorem Vt.con (k:Nat) (M:Hp) (G:Str) (K:Str) (r:Int)  (h:Vt k G K=some r):Con Tryz.prog 41 #[vS G,vS K] M [] (fun v M' B=>v=vI r∧B=[]):=by
 refine cwA Tryz.func41 J Tryz.ntmps41 Tryz.results41 J h ?_;intro w F W S V E U H;unfold Vt at H;refine wsQ (waI J (wnQ (wsQ (wmS J (wmS J ?_)))));obtain ⟨Y,O,H⟩:=QM H;refine Zb fn71 (VJ.con O) S J J flN (eE4 E ?_);rintro _ Z _ B E S ⟨rfl,rfl⟩;refine waI J (wnQ ?_);refine QR ?_;obtain rfl:=oi H;exact ⟨_,_,_,rsA (vs:=[_]) J,U,E,S.pk [],⟨J,J⟩⟩
def Vl (k:Nat) (B:Str) (G:Str) (E:Str):Option (Bool) :=
 some ((sbin .leq G B)&&((sbin .eql E ([]:Str))||(sbin .lss B E)))
theorem Vl.mono {k B E G}: OLe (Vl k B E G) (Vl (k+1) B E G):=by
 unfold Vl;exact mo
theorem Vl.con {k M} {K:Str} {U:Str} {O:Str} {r:Bool} (h:Vl k K U O=some r): Con Tryz.prog 169 #[vS K,vS U,vS O] M [] (fun v M' Y=>v=.bool r∧Y=[]):=by
 refine cwA Tryz.func169 J Tryz.ntmps169 Tryz.results169 J h ?_;intro w F rn S a3 E Z H;unfold Vl at H;refine wsQ (waB J (wnQ (wsQ (wmS J (wmS J (W_v (.bool (sbin .leq U K)) (Ul J J J) J (wmB J ?_)))))));refine Q7 8 (fun V w'=>QX V [(18,.bool ((sbin .leq U K)&&((sbin .eql O ([]:Str))||(sbin .lss K O))))]∧w=w') ?_ ?_
 ·as_aux_lemma =>
   rcases Qr (sbin .leq U K) with B | B
   ·refine Qa (skT B) J (Qa (skT B) J (Qa (skT B) J (Qa (J) J (Qa (J) J (Qa (J) J (Qa (skT B) J (wqB B J (QH ?_))))))));exact ⟨⟨(flB B),trivial⟩,rfl⟩
   ·refine QL (cS B) (wmS J (QL (cS B) (W_v (.bool (sbin .eql O ([]:Str))) (Ul J J J) J (QL (cS B) (wmB J ?_)))));refine Q7 4 (fun V w'=>QX V [(10,.bool (sbin .leq U K)),(17,.bool ((sbin .eql O ([]:Str))||(sbin .lss K O)))]∧w=w') ?_ ?_
    ·rcases Qr (sbin .eql O ([]:Str)) with G | G
     ·refine QL (cS G) (wmS J (QL (cS G) (wmS J (QL (cS G) (W_v (.bool (sbin .lss K O)) (Ul J J J) J (QL (cS B) (wqB G J (QH ?_))))))));exact ⟨⟨J,(flB G),trivial⟩,rfl⟩
     ·refine Qa (skF G) J (Qa (skF G) J (Qa (skF G) J (QL (cS B) (wpB G J (QH ?_)))));exact ⟨⟨J,(flB G),trivial⟩,rfl⟩
    rintro V _ ⟨W,rfl⟩;rw [QC W];refine wpB B J (QH ?_);exact ⟨⟨(flB B),trivial⟩,rfl⟩
 rintro V _ ⟨W,rfl⟩;rw [QC W];refine waB J (wnQ ?_);refine QR ?_;obtain rfl:=oi H;exact ⟨_,_,_,rsA (vs:=[_]) J,Z,E,S.pk [],⟨J,J⟩⟩
def Qx (k:Nat) (B:List QS):Option (List QS) :=
 if ([]:List QS).length+B.length≤3518437208883 then some (([]:List QS)++B) else none
theorem Qx.mono {k B}: OLe (Qx k B) (Qx (k+1) B):=by
 unfold Qx;exact mo
theorem Qx.con {k M B K} {G:(List QS)} {r:(List QS)} (h:Qx k G=some r) (O:SlR ZG M (.slice B G.length K) G): Con Tryz.prog 42 #[.slice B G.length K] M [] (fun v M' V=>∃ (B:Option Addr) (K:Nat),v=.slice B r.length K∧V=[Rw ZG 51 B K r]):=by
 have H:=h;unfold Qx at H
 cases B with
 | none =>
  obtain ⟨_,H⟩:=Z3 H;obtain rfl:G=[]:=SlW.none_nil O;refine VY Tryz.func42 J Tryz.ntmps42 Tryz.results42 J ?_;intro w F rn S W;have E:=Ext.refl w;have U:=Hp.le_refl M;refine wsQ (waL J (wnQ (QJ (wsQ (wmL J (W_v (.bool true) (Va J J (run_equal_slice_nil _ _ _ _ _ _ Tryz.underlying54)) J (wnQ (QD J (wsQ (waL J ?_))))))))));refine wnQ ?_;refine QR ?_;refine tr (?_);obtain rfl:=oi H;replace S:=S.row_nil ZG 51;exact ⟨_,_,_,rsA (vs:=[_]) J,U,E,S.pk [0],⟨none,0,J,J⟩⟩
 | some ad =>
  refine VY Tryz.func42 J Tryz.ntmps42 Tryz.results42 J ?_;intro w F rn S W;have E:=Ext.refl w;have U:=Hp.le_refl M;refine wsQ (waL J (wnQ (QJ (wsQ (wmL J (W_v (.bool false) (Va J J (run_equal_slice_nil _ _ _ _ _ _ Tryz.underlying54)) J (wnQ (QA J (QT (tn (QJ ?_)))))))))));refine QO ?_;refine Xm S #[] Tryz.underlying54 ty51 J J #[] (by as_aux_lemma=>kernel_rfl) (by as_aux_lemma=>kernel_rfl) J (eE2 E ?_);intro b2 w3 E S;replace S:=S.blk_row (r:=ZG) (l:=([]:List QS)) 0 J 0 (Nat.le_refl 0) J Cells.nil;refine wmL J ?_;obtain ⟨p5,H⟩:=Z3 H;obtain ⟨a4,Y,Z⟩:=Yt (P:=Tryz.prog) (ρ:=ZG) (l:=G) (SlR.world O S) (by decide);refine X5 S 0 J J J Tryz.underlying54 (.inl Tryz.underlying54) ty51 J (by decide) (by decide) Y Z J (by omega) J (eE2 E ?_);intro v9 a5 E S;obtain ⟨a1,a2,rfl,_⟩:=(S.row_read 0 J).form;refine waL J (wnQ ?_);refine QR ?_;obtain rfl:=oi H;exact ⟨_,_,_,rsA (vs:=[_]) J,U,E,S.pk [0],⟨a1,a2,J,J⟩⟩
def Vk (O:(List QS)) (k:Nat):(Int×Bool)→Int→Option ((Int)⊕(Unit))
 | (B,E),G=>(Option.bind (α:=Int) (if (!E)=true then some (G) else (if 0≤B∧B<(O.length:Int) then (Option.bind (α:=Int) (if (!((rd O B).Tomb))=true then some ((IntKind.i64.wrap (B+(1:Int)))) else some (B)) (fun H=>some (H))) else none)) (fun K=>some (.inl K)))
theorem Vk.mono {B k}: ∀ x s,OLe (Vk B k x s) (Vk B (k+1) x s):=by
 intro x s;unfold Vk;exact mo
def Vq (k:Nat) (E:(List QS)) (K:Int):Option ((List QS)) :=
 (Option.bind (VH k E K) (fun O=>(Option.bind (VI k E K (Vk E k) (E.length:Int)) (fun G=>Sum.elim (fun B=>(if 0≤B∧B≤(E.length:Int) then (Option.bind (Qx k (List.take B.toNat E)) (fun H=>some H)) else none)) (fun _=>none) G))))
theorem Vq.mono {k B E}: OLe (Vq k B E) (Vq (k+1) B E):=by
 unfold Vq
 repeat' (first | with_reducible exact OLe.none | with_reducible exact OLe.some | with_reducible refine OLe.ite ?_ ?_ | with_reducible refine OLe.bind ?_ (fun _=>?_) | with_reducible exact Vk.mono | exact VI.mono (fun _ _=>by first | exact Vk.mono _ _) | with_reducible exact VH.mono | with_reducible exact Qx.mono | refine OLe.bind ?_ (fun _=>?_) | refine OLe.ite ?_ ?_ | refine OLe.elim (fun _=>?_) (fun _=>?_) | split)
theorem Vq.con {k M O U} {B:(List QS)} {a1:Int} {r:(List QS)} (h:Vq k B a1=some r) (W:SlR ZG M (.slice O B.length U) B): Con Tryz.prog 173 #[.slice O B.length U,vI a1] M [] (fun v M' a3=>∃ (O:Option Addr) (U:Nat),v=.slice O r.length U∧a3=[Rw ZG 51 O U r]):=by
 refine cwA Tryz.func173 J Tryz.ntmps173 Tryz.results173 J h ?_;intro w F rn S bo E HM H;unfold Vq at H;refine wsQ ?_;refine XS S #[.slice O B.length U] J J J (eE2 E ?_);intro b1 w2 E S;refine waL J (wnQ (wsQ (wlA S 0 ty54 J (W_v _ (Qd (n:=B.length) Tryz.underlying54 J) J ?_))));refine YX S #[vI 0] ty3 J J (eE2 E ?_);intro b4 w5 E S;refine Qq S 0 J ty3 J J [vI (B.length:Int)] J J J #[vI (B.length:Int)] J J (eE1 E ?_);intro w7 E S;refine wnQ (QJ (wsQ (wlA S 1 ty54 J (wmI J ?_))));obtain ⟨t8,bb,H⟩:=QM H;refine YZ fn177 (VH.con bb W) (Γ1:=[]) (Γ2:=[_,_]) S J J (by rintro _ _ _ ⟨_,_,rfl,rfl⟩;exact (QK ZK (QK ZK Z9))) (eE4 E ?_);rintro _ bc _ a3 E S ⟨az,b0,rfl,rfl⟩;replace S:St bc M F [_,_,_,_]:=S;refine wnQ ?_;refine Zg ?_;obtain ⟨b2,aj,ak⟩:=QM H;refine Uh (σ:=Int) (ε:=Unit) (Γi:=[Blk az (.cells #[.slice O B.length U] 54 (0,0)),Blk b0 (.cells #[vI a1] 3 (0,0))]) (Γr:=[]) (Sum.elim (fun G=>AE (ι:=Unit) (fun (i:Unit)=>[Blk b4 (.cells #[vI G] 3 (0,0)),Blk b1 (.cells #[.slice O B.length U] 54 (0,0))]) (fun _ _=>True) (fun _ _ _ _ _=>trivial)) (fun _=>Star [])) (fun _=>Code.ret) fn178 J (St.close_ex (φ:=(fun _ _=>True)) (hφ:=(fun _ _ _ _ _=>trivial)) () trivial (S.pk [2,3,0,1])) (by rintro _ _ _ rfl;rfl) (by decide) (VI.con aj W) ?_ ?_
 ·intro nn lp V F yy vs G tt w a7 henc hbd S;obtain ⟨K,b3⟩:=yy;obtain rfl:=henc;replace HM:=Hp.le_trans HM a7;replace W:=SlR.mono W a7;replace S:St w V F (AE (ι:=Unit) (fun (i:Unit)=>[Blk b4 (.cells #[vI G] 3 (0,0)),Blk b1 (.cells #[.slice O B.length U] 54 (0,0))]) (fun _ _=>True) (fun _ _ _ _ _=>trivial)::[]):=S;obtain ⟨_,_,S⟩:=S.open_ex;replace S:St w V F [_,_]:=S;have E:=Ext.refl w;have al:=Hp.le_refl V;have H:=hbd;rw [Vk.eq_1] at H;refine wsQ (waI J (wnQ (QO (waB J (QH ?_)))));refine Ya ⟨_,_,al,E,S,?_⟩;intro w F E3 S;have E:=Ext.refl w;have am:=Hp.le_refl V;obtain ⟨b5,an,a8⟩:=QM H;refine X3 (fun ρ w'=>∃ (a6:Int),(a6)=b5∧QX ρ [(2,pt b1 0),(4,.slice none 0 0),(5,pt b4 0)]∧Ext w w'∧St w' V F [Blk b4 (.cells #[vI a6] 3 (0,0)),Blk b1 (.cells #[.slice O B.length U] 54 (0,0))]) ?_ ?_
  ·as_aux_lemma =>
    clear a8;have H:=an;refine Zg ?_;refine QJ (wsQ (wmB J (W_v _ (X2 (b:=b3) J) J (wnQ ?_))));rcases Q0 H with ⟨Y,H⟩ | ⟨Y,H⟩
    ·refine QD (cB Y) ?_;refine Yn ?_;refine tx (bsm (?_));refine tn ?_;exact ⟨G,oi H,agP J,E,S.pk [0,1]⟩
    refine QA (cB Y) (QT (tn (wsQ (wmI J ?_))));refine Qq S 0 J ty3 J J [vI K] J J J #[vI K] J J (eE1 E ?_);intro be E S;refine wnQ (wsQ (wlA S 1 ty54 J (wmI J ?_)));obtain ⟨⟨ad,ae⟩,H⟩:=Z3 H;obtain ⟨bf,bg,bd,_,_,ao,ap,aq,ar,au⟩:=SlW.at' W ad ae;obtain rfl:aq=_:=ar;refine W_v _ (QP Tryz.underlying54 ty51 (slA ao) J ad ae) J (wfA Tryz.underlying51 ty4 J (W_v _ (YU (S.frz ap) ty4 J (au 2 _ J)) J (W_v _ (X2 (b:=((rd B K).Tomb)) J) J (wnQ ?_))));obtain ⟨b6,av,a9⟩:=QM H;refine X3 (fun ρ w'=>∃ (Z:Int),(Z)=b6∧QX ρ [(2,pt b1 0),(4,.slice none 0 0),(5,pt b4 0)]∧Ext w w'∧St w' V F [Blk b4 (.cells #[vI Z] 3 (0,0)),Blk b1 (.cells #[.slice O B.length U] 54 (0,0))]) ?_ ?_
    ·clear a9;have H:=av;rcases Q0 H with ⟨a2,H⟩ | ⟨a2,H⟩
     ·refine QD (cB a2) ?_;refine QO (wmI J (wiI J J ?_));refine Qq S 0 J ty3 J J [vI (IntKind.i64.wrap (K+(1:Int)))] J J J #[vI (IntKind.i64.wrap (K+(1:Int)))] J J (eE1 E ?_);intro bh E S;refine wnQ ?_;exact ⟨(IntKind.i64.wrap (K+(1:Int))),oi H,agP J,E,S.pk [0,1]⟩
     refine QA (cB a2) (QT (tn ?_));exact ⟨K,oi H,agP J,E,S.pk [0,1]⟩
    rintro ρ bi ⟨Z,rfl,af,E,S⟩;rw [QC af];have H:=a9;refine bn (tn ?_);exact ⟨Z,oi H,agP J,E,S.pk [0,1]⟩
  rintro ρ bj ⟨a6,rfl,af,E,S⟩;rw [QC af];have H:=a8;obtain rfl:=oi H;exact Jm trivial am E (St.close_ex (φ:=(fun _ _=>True)) (hφ:=(fun _ _ _ _ _=>trivial)) () trivial (S.pk [0,1]))
 intro ag ah a3 aa E' hΨ S;obtain rfl:a3=_:=hΨ;replace E:=E.trans E';replace HM:=Hp.le_trans HM aa;replace W:=SlR.mono W aa;have H:=ak;rcases b2 with G | _
 ·replace H:=elimL H;refine KL ?_;replace S:St ag ah F (AE (ι:=Unit) (fun (i:Unit)=>[Blk b4 (.cells #[vI G] 3 (0,0)),Blk b1 (.cells #[.slice O B.length U] 54 (0,0))]) (fun _ _=>True) (fun _ _ _ _ _=>trivial)::[Blk az (.cells #[.slice O B.length U] 54 (0,0)),Blk b0 (.cells #[vI a1] 3 (0,0))]):=S;obtain ⟨_,_,S⟩:=S.open_ex;replace S:St ag ah F [_,_,_,_]:=S;refine bn (tn (wsQ (wlA S 1 ty54 J (wlA S 0 ty3 J (wlA S 0 ty3 J ?_)))));obtain ⟨⟨b7,b8⟩,H⟩:=Z3 H;obtain ⟨aw,ax⟩:=sl_hm W b7 (Int.le_refl _) b8;refine W_v (.slice O (List.take G.toNat B).length G.toNat) (ax Tryz.underlying54 ty51 J J J) J ?_;obtain ⟨bl,ay,H⟩:=QM H;refine Zb fn42 (Qx.con ay aw) S J J (by rintro _ _ _ ⟨_,_,_,rfl⟩;exact (QK (YY (fun _ _ _ _ h=>h)) Z9)) (eE4 E ?_);rintro _ bm _ a3 E S ⟨b9,ba,rfl,rfl⟩;refine waL J (wnQ ?_);refine QR ?_;obtain rfl:=oi H;exact ⟨_,_,_,rsA (vs:=[_]) J,HM,E,S.pk [0],⟨b9,ba,J,J⟩⟩
 ·cases H
def ZL (E:(List Qo)) (G:(List Qo)):Nat→Int→Option ((Bool)⊕(Unit))
 | 0,_=>none
 | k+1,B=>(if (decide (B<(E.length:Int)))=true then (if 0≤B∧B<(E.length:Int) then (if 0≤B∧B<(G.length:Int) then (if (!(((rd E B).Key==(rd G B).Key)&&((rd E B).Value==(rd G B).Value)))=true then some (.inl false) else ZL E G k (IntKind.i64.wrap (B+(1:Int)))) else none) else none) else some (.inr ()))
theorem ZL.mono {B E}: ∀ {kl:Nat} {G},OLe (ZL B E kl G) (ZL B E (kl+1) G):=by
 intro kl
 induction kl with
 | zero=>intros;exact OLe.none
 | succ kl ih =>
  intros
  rw [ZL.eq_2,ZL.eq_2];exact mo
def Z4 (k:Nat) (E:(List Qo)) (G:(List Qo)):Option (Bool) :=
 (if ((E.length:Int) != (G.length:Int))=true then some false else (Option.bind (ZL E G k (0:Int)) (fun B=>Sum.elim (fun r'=>some r') (fun _=>some true) B)))
theorem Z4.mono {k B E}: OLe (Z4 k B E) (Z4 (k+1) B E):=by
 unfold Z4;have m1:=@ZL.mono;exact mo
theorem Z4.con {k M A0 c0} {G:(List Qo)} {A1 c1} {K:(List Qo)} {r:Bool} (h:Z4 k G K=some r) (ap:SlR Ql M (.slice A0 G.length c0) G) (aq:SlR Ql M (.slice A1 K.length c1) K): Con Tryz.prog 78 #[.slice A0 G.length c0,.slice A1 K.length c1] M [] (fun v M' ar=>v=.bool r∧ar=[]):=by
 refine cwA Tryz.func78 J Tryz.ntmps78 Tryz.results78 J h ?_;intro w F rn S b3 E HM H;unfold Z4 at H;refine wsQ (waB J (wnQ (QJ (wsQ (wmL J (W_v _ (Qd (n:=G.length) Tryz.underlying60 J) J (wmL J (W_v _ (Qd (n:=K.length) Tryz.underlying60 J) J (wiB J J (wnQ ?_))))))))));rcases Q0 H with ⟨Y,H⟩ | ⟨Y,H⟩
 ·refine QD (cB Y) ?_;refine wsQ (waB J (wnQ ?_));refine QR ?_;refine tr (?_);obtain rfl:=oi H;exact ⟨_,_,_,rsA (vs:=[_]) J,HM,E,S.pk [],⟨J,J⟩⟩
 refine QA (cB Y) (QT (tn (QJ (wsQ (wmL J (W_v _ (Qd (n:=G.length) Tryz.underlying60 J) J (wmI J (wnQ ?_))))))));obtain ⟨Z,a8,W⟩:=QM H;refine Zs (fun ρ w'=>.inr ()=Z∧QX ρ []∧Ext w w'∧St w' M F []) ?_ ?_
 ·refine Y8 (fun n ρ w'=>∃ (B:Int),ZL G K n B=some Z∧QX ρ [(0,.slice A0 G.length c0),(1,.slice A1 K.length c1),(12,vI (G.length:Int)),(13,vI B)]∧Ext w w'∧St w' M F []) k ?_ ?_
  ·exact ⟨(0:Int),a8,agP J,E,S.pk []⟩
  ·intro n;rintro ρ aw ⟨B,H,a3,E,S⟩;rw [QC a3]
   cases n with
   | zero=>cases H
   | succ k =>
    rw [ZL.eq_2] at H;refine wsQ (wiB J J (wnQ (QJ ?_)));rcases Q0 H with ⟨O,H⟩ | ⟨O,H⟩
    ·refine QD (cB O) ?_;refine QT (tn (QJ ?_));refine Zg ?_;refine wsQ (wmI J (waI J (wnQ (QJ ?_))));refine rgA S [] [] 9 mixed J (eE1 E ?_);intro ax E S U;refine tz0 0 J U (xmL J) (tz0 1 J U (xmI J) ?_);obtain ⟨⟨a4,a5⟩,H⟩:=Z3 H;obtain ⟨ay,az,au,_,_,a9,aa,ab,ac,ad⟩:=SlW.at' ap a4 a5;obtain rfl:ab=_:=ac;refine tz0 2 J U (QP Tryz.underlying60 ty66 (slA a9) J a4 a5) (Wt 3 J J J (.agg #[vS ((rd G B).Key),vS ((rd G B).Value)]) J (fun w' h'=>Qf (XT h' aa) ty66 J (X6 ad 0 J) J J) U (tz0 4 J U (xmL J) (tz0 5 J U (xmI J) ?_)));obtain ⟨⟨a6,a7⟩,H⟩:=Z3 H;obtain ⟨b0,b1,av,_,_,af,ag,ah,ai,aj⟩:=SlW.at' aq a6 a7;obtain rfl:ah=_:=ai;refine tz0 6 J U (QP Tryz.underlying60 ty66 (slA af) J a6 a7) (Wt 7 J J J (.agg #[vS ((rd K B).Key),vS ((rd K B).Value)]) J (fun w' h'=>Qf (XT h' ag) ty66 J (X6 aj 0 J) J J) U (Wt 8 J J J (.bool (!(((rd G B).Key==(rd K B).Key)&&((rd G B).Value==(rd K B).Value)))) J (fun w' h'=>U8 (en66 _ _ _ _) J (eq66 _ ((rd G B).Key) ((rd G B).Value) ((rd K B).Key) ((rd K B).Value))) U ?_));refine Wz ?_;refine tn ?_;rcases Q0 H with ⟨V,H⟩ | ⟨V,H⟩
     ·refine QD (cB V) ?_;refine wsQ (waB J (wnQ ?_));refine QR ?_;refine br (tr (tr (br (tr (tr (?_))))));obtain rfl:=oi H;have H:=W;replace H:=elimL H;obtain rfl:=oi H;exact ⟨_,_,_,rsA (vs:=[_]) J,HM,E,S.pk [],⟨J,J⟩⟩
     refine QA (cB V) (QT (bn (tn (QO (wiI J J (wmI J (wnQ ?_)))))));exact ⟨k,Nat.lt_succ_self k,⟨(IntKind.i64.wrap (B+(1:Int))),H,agP J,E,S.pk []⟩⟩
    refine QA (cB O) ?_;refine Yn ?_;refine tx (tx (bsm (?_)));refine tn ?_;exact ⟨oi H,trivial,E,S.pk []⟩
 rintro ρ b2 ⟨rfl,a3,E,S⟩;rw [QC a3];have H:=W;replace H:=elimR H;refine tn ?_
 as_aux_lemma =>
 refine wsQ (waB J (wnQ ?_));refine QR ?_;obtain rfl:=oi H;exact ⟨_,_,_,rsA (vs:=[_]) J,HM,E,S.pk [],⟨J,J⟩⟩
def X7 (k:Nat) (B:Qk) (E:Qk):Option (Bool) :=
 (Option.bind (α:=Bool) (if (((B.Err==E.Err)&&(B.Found==E.Found))&&(sbin .eql B.Value E.Value))=true then (Option.bind (Z4 k B.Pairs E.Pairs) (fun G=>some (G))) else some (false)) (fun H=>some H))
theorem X7.mono {k B E}: OLe (X7 k B E) (X7 (k+1) B E):=by
 unfold X7;have m1:=@Z4.mono;exact mo
theorem X7.con {k M A0_0 c0_0} {O:Qk} {A1_0 c1_0} {U:Qk} {r:Bool} (h:X7 k O U=some r) (hr0_0:SlR Ql M (.slice A0_0 O.Pairs.length c0_0) O.Pairs) (hr1_0:SlR Ql M (.slice A1_0 U.Pairs.length c1_0) U.Pairs): Con Tryz.prog 55 #[.agg #[vI O.Err,.bool O.Found,vS O.Value,.slice A0_0 O.Pairs.length c0_0],.agg #[vI U.Err,.bool U.Found,vS U.Value,.slice A1_0 U.Pairs.length c1_0]] M [] (fun v M' Z=>v=.bool r∧Z=[]):=by
 refine cwA Tryz.func55 J Tryz.ntmps55 Tryz.results55 J h ?_;intro w F rn S ab E HM H;unfold X7 at H;refine wsQ ?_;refine XS S #[vI O.Err,.bool O.Found,vS O.Value,.slice A0_0 O.Pairs.length c0_0] J J J (eE2 E ?_);intro b1 w2 E S;refine XS S #[vI U.Err,.bool U.Found,vS U.Value,.slice A1_0 U.Pairs.length c1_0] J J J (eE2 E ?_);intro b4 w5 E S;refine waB J (wnQ (wsQ (wfA Tryz.underlying62 ty28 J (wlA S 1 ty28 J (wfA Tryz.underlying62 ty28 J (wlA S 0 ty28 J (wiB J J (wmB J ?_))))))));refine Q7 6 (fun V w'=>QX V [(2,pt b1 0),(3,pt b4 0),(16,.bool ((O.Err==U.Err)&&(O.Found==U.Found)))]∧w5=w') ?_ ?_
 ·rcases Qr (O.Err==U.Err) with G | G
  ·refine Qa (skT G) J (Qa (skT G) J (Qa (skT G) J (Qa (skT G) J (Qa (skT G) J (wqB G J (QH ?_))))));exact ⟨⟨J,J,(flB G),trivial⟩,rfl⟩
  ·refine QL (cS G) (wfA Tryz.underlying62 ty4 J (QL (cS G) (wlA S 1 ty4 J (QL (cS G) (wfA Tryz.underlying62 ty4 J (QL (cS G) (wlA S 0 ty4 J (QL (cS G) (W_v (.bool (O.Found==U.Found)) (x_beq Tryz.underlying4 J J) J (wpB G J (QH ?_)))))))))));exact ⟨⟨J,J,(flB G),trivial⟩,rfl⟩
 as_aux_lemma =>
 rintro V _ ⟨W,rfl⟩;rw [QC W];refine wmB J ?_;refine Q7 6 (fun V w'=>QX V [(2,pt b1 0),(3,pt b4 0),(23,.bool (((O.Err==U.Err)&&(O.Found==U.Found))&&(sbin .eql O.Value U.Value)))]∧w5=w') ?_ ?_
 ·rcases Qr ((O.Err==U.Err)&&(O.Found==U.Found)) with K | K
  ·refine Qa (skT K) J (Qa (skT K) J (Qa (skT K) J (Qa (skT K) J (Qa (skT K) J (wqB K J (QH ?_))))));exact ⟨⟨J,J,(flB K),trivial⟩,rfl⟩
  ·refine QL (cS K) (wfA Tryz.underlying62 ty9 J (QL (cS K) (wlA S 1 ty9 J (QL (cS K) (wfA Tryz.underlying62 ty9 J (QL (cS K) (wlA S 0 ty9 J (QL (cS K) (W_v (.bool (sbin .eql O.Value U.Value)) (Ul J J J) J (wpB K J (QH ?_)))))))))));exact ⟨⟨J,J,(flB K),trivial⟩,rfl⟩
 as_aux_lemma =>
 rintro V _ ⟨W,rfl⟩;rw [QC W];refine wmB J ?_;obtain ⟨a8,a2,a3⟩:=QM H;refine Q7 6 (fun V w'=>∃ (Y:Bool),(Y)=a8∧QX V [(30,.bool Y)]∧Ext w w'∧St w' M F []) ?_ ?_
 ·have H:=a2;rcases Q0 H with ⟨B,H⟩ | ⟨B,H⟩
  ·refine QL (cS B) (wfA Tryz.underlying62 ty60 J (QL (cS B) (wlA S 1 ty60 J (QL (cS B) (wfA Tryz.underlying62 ty60 J (QL (cS B) (wlA S 0 ty60 J (QL (cS B) ?_))))))));obtain ⟨a9,a4,H⟩:=QM H;refine Zb fn78 (Z4.con a4 hr0_0 hr1_0) S J J flN (eE4 E ?_);rintro _ ac _ Z E S ⟨rfl,rfl⟩;refine wpB B J (QH ?_);exact ⟨a9,oi H,agP J,E,S.pk []⟩
  ·refine Qa (skT B) J (Qa (skT B) J (Qa (skT B) J (Qa (skT B) J (Qa (skT B) J (wqB B J (QH ?_))))));exact ⟨false,oi H,agP J,E,S.pk []⟩
 rintro V ad ⟨Y,rfl,W,E,S⟩;rw [QC W];have H:=a3;refine waB J (wnQ ?_);refine QR ?_;obtain rfl:=oi H;exact ⟨_,_,_,rsA (vs:=[_]) J,HM,E,S.pk [],⟨J,J⟩⟩
def YO (k:Nat) (B:List Qo):Option (List Qo) :=
 if ([]:List Qo).length+B.length≤4398046511104 then some (([]:List Qo)++B) else none
theorem YO.mono {k B}: OLe (YO k B) (YO (k+1) B):=by
 unfold YO;exact mo
theorem YO.con {k M B K} {G:(List Qo)} {r:(List Qo)} (h:YO k G=some r) (O:SlR Ql M (.slice B G.length K) G): Con Tryz.prog 101 #[.slice B G.length K] M [] (fun v M' V=>∃ (B:Option Addr) (K:Nat),v=.slice B r.length K∧V=[Rw Ql 66 B K r]):=by
 have H:=h;unfold YO at H
 cases B with
 | none =>
  obtain ⟨_,H⟩:=Z3 H;obtain rfl:G=[]:=SlW.none_nil O;refine VY Tryz.func101 J Tryz.ntmps101 Tryz.results101 J ?_;intro w F rn S W;have E:=Ext.refl w;have U:=Hp.le_refl M;refine wsQ (waL J (wnQ (QJ (wsQ (wmL J (W_v (.bool true) (Va J J (run_equal_slice_nil _ _ _ _ _ _ Tryz.underlying60)) J (wnQ (QD J (wsQ (waL J ?_))))))))));refine wnQ ?_;refine QR ?_;refine tr (?_);obtain rfl:=oi H;replace S:=S.row_nil Ql 66;exact ⟨_,_,_,rsA (vs:=[_]) J,U,E,S.pk [0],⟨none,0,J,J⟩⟩
 | some ad =>
  refine VY Tryz.func101 J Tryz.ntmps101 Tryz.results101 J ?_;intro w F rn S W;have E:=Ext.refl w;have U:=Hp.le_refl M;refine wsQ (waL J (wnQ (QJ (wsQ (wmL J (W_v (.bool false) (Va J J (run_equal_slice_nil _ _ _ _ _ _ Tryz.underlying60)) J (wnQ (QA J (QT (tn (QJ ?_)))))))))));refine QO ?_;refine Xm S #[] Tryz.underlying60 ty66 J J #[] (by as_aux_lemma=>kernel_rfl) (by as_aux_lemma=>kernel_rfl) J (eE2 E ?_);intro b2 w3 E S;replace S:=S.blk_row (r:=Ql) (l:=([]:List Qo)) 0 J 0 (Nat.le_refl 0) J Cells.nil;refine wmL J ?_;obtain ⟨p5,H⟩:=Z3 H;obtain ⟨a4,Y,Z⟩:=Yt (P:=Tryz.prog) (ρ:=Ql) (l:=G) (SlR.world O S) (by decide);refine X5 S 0 J J J Tryz.underlying60 (.inl Tryz.underlying60) ty66 J (by decide) (by decide) Y Z J (by omega) J (eE2 E ?_);intro v9 a5 E S;obtain ⟨a1,a2,rfl,_⟩:=(S.row_read 0 J).form;refine waL J (wnQ ?_);refine QR ?_;obtain rfl:=oi H;exact ⟨_,_,_,rsA (vs:=[_]) J,U,E,S.pk [0],⟨a1,a2,J,J⟩⟩
def Vg (k:Nat) (B:QB):Option (QB) :=
 (Option.bind (YO k B.Answer.Pairs) (fun E=>some (⟨B.What,B.Task,B.Call,⟨B.Answer.Err,B.Answer.Found,B.Answer.Value,E⟩⟩:QB)))
theorem Vg.mono {k B}: OLe (Vg k B) (Vg (k+1) B):=by
 unfold Vg;have m1:=@YO.mono;exact mo
theorem Vg.con {k M A0_0 c0_0} {B:QB} {r:QB} (h:Vg k B=some r) (hr0_0:SlR Ql M (.slice A0_0 B.Answer.Pairs.length c0_0) B.Answer.Pairs): Con Tryz.prog 80 #[.agg #[vU B.What,vI B.Task,vI B.Call,vI B.Answer.Err,.bool B.Answer.Found,vS B.Answer.Value,.slice A0_0 B.Answer.Pairs.length c0_0]] M [] (fun v M' U=>∃ (V:Option Addr) (W:Nat),v=.agg #[vU r.What,vI r.Task,vI r.Call,vI r.Answer.Err,.bool r.Answer.Found,vS r.Answer.Value,.slice V r.Answer.Pairs.length W]∧U=[Rw Ql 66 V W r.Answer.Pairs]):=by
 refine cwA Tryz.func80 J Tryz.ntmps80 Tryz.results80 J h ?_;intro w F rn S a2 E Z H;unfold Vg at H;refine wsQ ?_;refine XS S #[vU B.What,vI B.Task,vI B.Call,vI B.Answer.Err,.bool B.Answer.Found,vS B.Answer.Value,.slice A0_0 B.Answer.Pairs.length c0_0] J J J (eE2 E ?_);intro b1 w2 E S;refine YX S cz6 ty64 J J (eE2 E ?_);intro b4 w5 E S;refine wnQ (wsQ (wfA Tryz.underlying64 ty62 J (wfA Tryz.underlying62 ty60 J (wlA S 1 ty60 J ?_))));obtain ⟨O,Y,H⟩:=QM H;refine Zb fn101 (YO.con Y hr0_0) S J J (by rintro _ _ _ ⟨_,_,_,rfl⟩;exact (QK (YY (fun _ _ _ _ h=>h)) Z9)) (eE4 E ?_);rintro _ a3 _ U E S ⟨K,G,rfl,rfl⟩;refine wfA Tryz.underlying64 ty62 J (wfA Tryz.underlying62 ty60 J ?_);refine Qq S 2 J ty60 J J [.slice K O.length G] J J J #[vU B.What,vI B.Task,vI B.Call,vI B.Answer.Err,.bool B.Answer.Found,vS B.Answer.Value,.slice K O.length G] J J (eE1 E ?_);intro a4 E S;refine wnQ (wsQ (W_v (.agg #[vU B.What,vI B.Task,vI B.Call,vI B.Answer.Err,.bool B.Answer.Found,vS B.Answer.Value,.slice K O.length G]) (Qf (S.blk 2 J) ty64 J (QI J) J J) J ?_));refine Qq S 1 J ty64 J J [vU B.What,vI B.Task,vI B.Call,vI B.Answer.Err,.bool B.Answer.Found,vS B.Answer.Value,.slice K O.length G] J J J #[vU B.What,vI B.Task,vI B.Call,vI B.Answer.Err,.bool B.Answer.Found,vS B.Answer.Value,.slice K O.length G] (by as_aux_lemma=>kernel_rfl) J (eE1 E ?_);intro a5 E S;refine wnQ ?_;refine QR ?_;obtain rfl:=oi H;exact ⟨_,_,_,fun w1 e1=>Zk (vs:=[.agg #[vU B.What,vI B.Task,vI B.Call,vI B.Answer.Err,.bool B.Answer.Found,vS B.Answer.Value,.slice K O.length G]]) (FA.cons (rcA S e1 1 ty64 J J J) (FA.nil)),Z,E,S.pk [0],⟨K,G,J,J⟩⟩
def Vn (k:Nat) (B:Int):Option ((Unit)⊕(Qj)) :=
 (if ((decide (B<(1:Int)))||(decide (B>(6:Int))))=true then some (Sum.inl ()) else (if 0≤B∧B≤B∧B*16≤140737488355328∧B≤9223372036854775807 then some (Sum.inr (⟨(List.replicate B.toNat (⟨0,0⟩:Yh)),([]:List QB)⟩:Qj)) else none))
theorem Vn.mono {k B}: OLe (Vn k B) (Vn (k+1) B):=by
 unfold Vn;exact mo
theorem Vn.con {k M} {G:Int} {r:(Unit)⊕(Qj)} (h:Vn k G=some r): Con Tryz.prog 60 #[vI G] M [] (fun v M' O=>(Sum.elim (fun x=>v=.tuple cz21∧O=[]) (fun x=>∃ (U:Nat) (V:Option Addr) (W:Nat) (Y:Option Addr) (Z:Nat),v=.tuple #[pt U 0,vI 0]∧O=[Blk U (.cells #[.slice V x.tasks.length W,.slice Y x.l.length Z] 162 (0,0)),Rw YG 164 V W x.tasks,Rw QV 64 Y Z x.l])) r):=by
 refine cwA Tryz.func60 J Tryz.ntmps60 Tryz.results60 J h ?_;intro w F rn S aa E HM H;unfold Vn at H;refine wsQ (W_v (.pointer none) (YW J) J (waI J (wnQ (QJ (wsQ (wmI J (wiB J J (wmB J ?_))))))));refine Q7 3 (fun ρ w'=>QX ρ [(0,vI G),(9,.bool ((decide (G<(1:Int)))||(decide (G>(6:Int)))))]∧w=w') ?_ ?_
 ·rcases Qr (decide (G<(1:Int))) with B | B
  ·refine QL (cS B) (wmI J (QL (cS B) (wiB J J (wqB B J (QH ?_)))));exact ⟨⟨J,(flB B),trivial⟩,rfl⟩
  ·refine Qa (skF B) J (Qa (skF B) J (wpB B J (QH ?_)));exact ⟨⟨J,(flB B),trivial⟩,rfl⟩
 rintro ρ _ ⟨a4,rfl⟩;rw [QC a4];refine wnQ ?_;rcases Q0 H with ⟨K,H⟩ | ⟨K,H⟩
 ·refine QD (cB K) ?_;refine wsQ (W_v (.pointer none) (YW J) J (waI J (wnQ ?_)));refine QR ?_;refine tr (?_);obtain rfl:=oi H;exact ⟨_,_,_,rsA (vs:=[_,_]) J,HM,E,S.pk [],⟨J,J⟩⟩
 refine QA (cB K) (QT (tn ?_))
 as_aux_lemma =>
 refine wsQ (wmI J ?_);obtain ⟨⟨p3,p4,p5,p6⟩,H⟩:=Z3 H;refine QAG (r:=YG) S (⟨0,0⟩:Yh) Tryz.underlying160 ty164 J (by decide) (fun _=>J) J J p3 p4 p5 p6 J (eE2 E ?_);intro b7 w8 E S;refine W_v _ (xb2 [(0,1),(1,1)] #[.slice (some ⟨b7,0,none⟩) (List.replicate G.toNat (⟨0,0⟩:Yh)).length G.toNat,.slice none 0 0] Tryz.underlying162 ty162 J) J ?_;refine XS S #[.slice (some ⟨b7,0,none⟩) (List.replicate G.toNat (⟨0,0⟩:Yh)).length G.toNat,.slice none 0 0] J J J (eE2 E ?_);intro a5 ab E S;refine waP J (waI J (wnQ ?_));refine QR ?_;obtain rfl:=oi H;replace S:=S.row_nil QV 64;exact ⟨_,_,_,rsA (vs:=[_,_]) J,HM,E,S.pk [1,2,0],⟨a5,(some ⟨b7,0,none⟩),G.toNat,none,0,J,J⟩⟩
def VA (k:Nat) (B:Qb):Option ((Unit)⊕(QQ)) :=
 (Option.bind (Vb k B) (fun E=>(if (!E)=true then some (Sum.inl ()) else some (Sum.inr (⟨⟨B.Tasks,B.Active,B.Keys,B.Depth,B.TS,B.KeyLen,B.ValLen,B.Fan⟩,([]:List (XW×Int)),([]:List (Int×Int)),([]:List Xd),([]:List (Str×Qm)),(0:Int),(0:Int)⟩:QQ)))))
theorem VA.mono {k B}: OLe (VA k B) (VA (k+1) B):=by
 unfold VA;have m1:=@Vb.mono;exact mo
theorem VA.con {k M} {B:Qb} {r:(Unit)⊕(QQ)} (h:VA k B=some r): Con Tryz.prog 47 #[.agg (QN B)] M [] (fun v M' K=>(Sum.elim (fun x=>v=.tuple cz21∧K=[]) (fun x=>∃ (Z:Nat) (a1:Option Addr) (ae:Nat) (a2:Option Addr) (af:Nat) (a3:Option Addr) (O:Nat) (U:Option Addr) (ab:Nat) (G:List (Str×Value)),v=.tuple #[pt Z 0,vI 0]∧Xn Qv M' x.rows G∧K=[B107 Z x a1 a2 a3 O U,Y3 QF (Value.int .i64) a1 x.names,MpI a2 x.many,Rw QU 149 a3 O x.txs,MpV U G])) r):=by
 refine cwA Tryz.func47 J Tryz.ntmps47 Tryz.results47 J h ?_;intro w F rn S ag E HM H;unfold VA at H;refine wsQ ?_;refine XS S (QN B) J J J (eE2 E ?_);intro b1 w2 E S;refine W_v (.pointer none) (YW J) J (waI J (wnQ (QJ (wsQ (W_v (.agg (QN B)) (Qf (S.blk 0 J) ty23 J (QI J) J J) J ?_)))));obtain ⟨t4,a7,H⟩:=QM H;refine Zb fn34 (Vb.con a7) S J J flN (eE4 E ?_);rintro _ w6 _ K E S ⟨rfl,rfl⟩;refine W_v _ (X2 (b:=t4) J) J (wnQ ?_);rcases Q0 H with ⟨V,H⟩ | ⟨V,H⟩
 ·refine QD (cB V) ?_;refine wsQ (W_v (.pointer none) (YW J) J (waI J (wnQ ?_)));refine QR ?_;refine tr (?_);obtain rfl:=oi H;exact ⟨_,_,_,rsA (vs:=[_,_]) J,HM,E,S.pk [],⟨J,J⟩⟩
 refine QA (cB V) (QT (tn (wsQ (W_v (.agg (QN B)) (Qf (S.blk 0 J) ty23 J (QI J) J J) J ?_))));refine JZ (κ:=XW) (ν:=Int) QF (Value.int .i64) S J (eE2 E ?_);intro b8 w9 E S;replace S:St w9 M F [_,_]:=S;refine JZ (κ:=Int) (ν:=Int) (Value.int .i64) (Value.int .i64) S J (eE2 E ?_);intro W a8 E S;replace S:St a8 M F [_,_,_]:=S;refine JZ (κ:=Str) (ν:=Value) encS (fun v:Value=>v) S J (eE2 E ?_);intro Y a9 E S;have a5:Xn Qv M ([]:List (Str×Qm)) ([]:List (Str×Value)):=Xn.nil;replace S:St a9 M F [_,_,_,_]:=S;refine W_v _ (xb2 [(0,8),(8,1),(9,1),(10,1),(11,1),(12,1),(13,1)] #[vI B.Tasks,vI B.Active,vI B.Keys,vI B.Depth,vI B.TS,vI B.KeyLen,vI B.ValLen,vI B.Fan,.map (mb (some ⟨b8,0,none⟩)),.map (mb (some ⟨W,0,none⟩)),.slice none 0 0,.map (mb (some ⟨Y,0,none⟩)),vI 0,vI 0] Tryz.underlying107 ty107 J) J ?_;refine XS S #[vI B.Tasks,vI B.Active,vI B.Keys,vI B.Depth,vI B.TS,vI B.KeyLen,vI B.ValLen,vI B.Fan,.map (mb (some ⟨b8,0,none⟩)),.map (mb (some ⟨W,0,none⟩)),.slice none 0 0,.map (mb (some ⟨Y,0,none⟩)),vI 0,vI 0] J J J (eE2 E ?_);intro aa ah E S;refine waP J (waI J (wnQ ?_));refine QR ?_;obtain rfl:=oi H;replace S:=S.row_nil QU 149;exact ⟨_,_,_,rsA (vs:=[_,_]) J,HM,E,S.pk [1,4,3,0,2],⟨aa,(some ⟨b8,0,none⟩),0,(some ⟨W,0,none⟩),0,none,0,(some ⟨Y,0,none⟩),0,([]:List (Str×Value)),J,a5,J⟩⟩
def Yb (k:Nat) (B:Qb) (E:(List (List QZ))):Option ((Unit)⊕(XA)) :=
 (Option.bind (VB k B E) (fun O=>(if (!O)=true then some (Sum.inl ()) else (Option.bind (Vn k B.Tasks) (fun U=>(Sum.elim (fun V=>none) (fun G=>(Option.bind (VA k B) (fun H=>(Sum.elim (fun W=>none) (fun K=>(if 0≤B.Tasks∧B.Tasks≤B.Tasks∧B.Tasks*8≤140737488355328∧B.Tasks≤9223372036854775807 then some (Sum.inr (⟨E,G,K,([]:List Qw),(List.replicate B.Tasks.toNat (0:Int))⟩:XA)) else none))) H)))) U)))))
theorem Yb.mono {k B E}: OLe (Yb k B E) (Yb (k+1) B E):=by
 unfold Yb;have m1:=@Vn.mono;have m2:=@VA.mono;have m3:=@VB.mono;exact mo
theorem Yb.con {k M} {B:Qb} {W Y} {U:(List (List QZ))} {r:(Unit)⊕(XA)} (h:Yb k B U=some r) (G:SlR (rSl Yp) M (.slice W U.length Y) U): Con Tryz.prog 28 #[.agg (QN B),.slice W U.length Y] M [] (fun v M' K=>(Sum.elim (fun x=>v=.tuple #[.pointer none,.bool false]∧K=[]) (fun x=>∃ (aj:Nat) (ak:Option Addr) (al:Nat) (am:Nat) (an:Option Addr) (ao:Nat) (Z:Option Addr) (a2:Nat) (a3:Nat) (a4:Option Addr) (bk:Nat) (a5:Option Addr) (bl:Nat) (a6:Option Addr) (a7:Nat) (a8:Option Addr) (bm:Nat) (O:List (Str×Value)) (a9:Option Addr) (aa:Nat) (ab:Option Addr) (ac:Nat),v=.tuple #[pt aj 0,.bool true]∧SlR (rSl Yp) M' (.slice ak x.programs.length al) x.programs∧Xn Qv M' x.m.rows O∧K=[B86 aj x ak al am a3 a9 aa ab ac,Blk am (.cells #[.slice an x.r.tasks.length ao,.slice Z x.r.l.length a2] 162 (0,0)),Rw YG 164 an ao x.r.tasks,Rw QV 64 Z a2 x.r.l,B107 a3 x.m a4 a5 a6 a7 a8,Y3 QF (Value.int .i64) a4 x.m.names,MpI a5 x.m.many,Rw QU 149 a6 a7 x.m.txs,MpV a8 O,Stk YR 93 (.slice a9 x.done.length aa) x.done,Rw (rInt .i64) 3 ab ac x.last])) r):=by
 refine cwA Tryz.func28 J Tryz.ntmps28 Tryz.results28 J h ?_;intro w F rn S bq E V H;unfold Yb at H;refine wsQ ?_;refine XS S (QN B) J J J (eE2 E ?_);intro b1 w2 E S;refine W_v (.pointer none) (YW J) J (waB J (wnQ (QJ (wsQ (W_v (.agg (QN B)) (Qf (S.blk 0 J) ty23 J (QI J) J J) J (wmL J ?_))))));obtain ⟨t4,av,H⟩:=QM H;refine Zb fn10 (VB.con av G) S J J flN (eE4 E ?_);rintro _ w6 _ K E S ⟨rfl,rfl⟩;refine W_v _ (X2 (b:=t4) J) J (wnQ ?_);rcases Q0 H with ⟨ad,H⟩ | ⟨ad,H⟩
 ·refine QD (cB ad) ?_;refine wsQ (W_v (.pointer none) (YW J) J (waB J (wnQ ?_)));refine QR ?_;refine tr (?_);obtain rfl:=oi H;exact ⟨_,_,_,rsA (vs:=[_,_]) J,V,E,S.pk [],⟨J,J⟩⟩
 refine QA (cB ad) (QT (tn (wsQ (wfA Tryz.underlying23 ty3 J (wlA S 0 ty3 J ?_)))));obtain ⟨t8,aw,H⟩:=QM H;rcases t8 with bt | bu
 ·replace H:=elimL H
  cases H
 ·replace H:=elimR H;refine YN fn60 (Vn.con aw) (Γ1:=[]) (Γ2:=[_]) S J J ?_;rintro _ ax ay K ae E' S ⟨af,az,b0,b2,b3,rfl,rfl⟩;replace V:=Hp.le_trans V ae;replace G:=SlR.mono G ae;replace E:=E.trans E';replace S:St ax ay F [_,_,_,_]:=S;refine wmT J (W_v _ (QW J J) J (W_v _ (QW J J) J (waP J (waI J (wnQ (wsQ (W_v (.agg (QN B)) (Qf (S.blk 3 J) ty23 J (QI J) J J) J ?_)))))));obtain ⟨b4,aq,H⟩:=QM H;rcases b4 with bv | bw
  ·replace H:=elimL H
   cases H
  ·replace H:=elimR H;refine YN fn47 (VA.con aq) (Γ1:=[]) (Γ2:=[_,_,_,_]) S J J ?_;rintro _ b5 b6 K ag E' S ⟨ah,b7,b8,b9,ba,bb,bc,bd,be,ar,rfl,au,rfl⟩;replace V:=Hp.le_trans V ag;replace G:=SlR.mono G ag;replace E:=E.trans E';replace S:St b5 b6 F [_,_,_,_,_,_,_,_,_]:=S;refine wmT J (W_v _ (QW J J) J (W_v _ (QW J J) J (waP J (waI J (wnQ (wsQ (wmL J (wmP J (wmP J (wfA Tryz.underlying23 ty3 J (wlA S 8 ty3 J ?_)))))))))));obtain ⟨⟨bf,bg,bh,bi⟩,H⟩:=Z3 H;refine QAG (r:=(rInt .i64)) S (0:Int) Tryz.underlying84 ty3 J (by decide) (fun _=>J) J J bf bg bh bi J (eE2 E ?_);intro ai bz E S;refine W_v _ (xb2 [(0,1),(1,1),(2,1),(3,1),(4,1)] #[.slice W U.length Y,pt af 0,pt ah 0,.slice none 0 0,.slice (some ⟨ai,0,none⟩) (List.replicate B.Tasks.toNat (0:Int)).length B.Tasks.toNat] Tryz.underlying86 ty86 J) J ?_;refine XS S #[.slice W U.length Y,pt af 0,pt ah 0,.slice none 0 0,.slice (some ⟨ai,0,none⟩) (List.replicate B.Tasks.toNat (0:Int)).length B.Tasks.toNat] J J J (eE2 E ?_);intro bj c0 E S;refine wmI J (wiB J J (wmB J (QL (J) (wmI J (QL (J) (wiB J J (wpB J J (waP J (waB J (wnQ ?_))))))))));refine QR ?_;obtain rfl:=oi H;replace S:=S.stk_nil YR 93;exact ⟨_,_,_,rsA (vs:=[_,_]) J,V,E,S.pk [1,8,9,10,3,4,5,6,7,0,2],⟨bj,W,Y,af,az,b0,b2,b3,ah,b7,b8,b9,ba,bb,bc,bd,be,ar,none,0,(some ⟨ai,0,none⟩),B.Tasks.toNat,J,G,au,J⟩⟩
def Zn (k:Nat) (E:XA) (B:QB):Option (QZ×Bool) :=
 (Option.bind (α:=Bool) (if (((decide (B.Task<(0:Int)))||(decide (B.Task≥(E.programs.length:Int))))||(decide (B.Call<(0:Int))))=true then some (true) else (if 0≤B.Task∧B.Task<(E.programs.length:Int) then some ((decide (B.Call≥((rd E.programs B.Task).length:Int)))) else none)) (fun G=>(if G=true then some ((⟨(0:Int),(0:Int),([]:Str),([]:Str),([]:Str),(0:Int),(0:Int)⟩:QZ),false) else (if 0≤B.Task∧B.Task<(E.programs.length:Int) then (if 0≤B.Call∧B.Call<((rd E.programs B.Task).length:Int) then some ((rd (rd E.programs B.Task) B.Call),true) else none) else none))))
theorem Zn.mono {k B E}: OLe (Zn k B E) (Zn (k+1) B E):=by
 unfold Zn;exact mo
theorem Zn.con {k M A0_0 c0_0 A0_1_0 c0_1_0 A0_1_1 c0_1_1 A0_2_8 A0_2_9 A0_2_10 c0_2_10 A0_2_11} {vs0_2_11:List (Str×Value)} {A0_3 c0_3 A0_4 c0_4} {G:XA} {A1_0 c1_0} {U:QB} {bo0_1 bo0_2 a2} {r:QZ×Bool} (h:Zn k G U=some r) (hr0_0:SlR (rSl Yp) M (.slice A0_0 G.programs.length c0_0) G.programs) (hm0_2_11:Xn Qv M G.m.rows vs0_2_11) (hr1_0:SlR Ql M (.slice A1_0 U.Answer.Pairs.length c1_0) U.Answer.Pairs): Con Tryz.prog 61 #[pt a2 0,.agg #[vU U.What,vI U.Task,vI U.Call,vI U.Answer.Err,.bool U.Answer.Found,vS U.Answer.Value,.slice A1_0 U.Answer.Pairs.length c1_0]] M [B86 a2 G A0_0 c0_0 bo0_1 bo0_2 A0_3 c0_3 A0_4 c0_4,Blk bo0_1 (.cells #[.slice A0_1_0 G.r.tasks.length c0_1_0,.slice A0_1_1 G.r.l.length c0_1_1] 162 (0,0)),Rw YG 164 A0_1_0 c0_1_0 G.r.tasks,Rw QV 64 A0_1_1 c0_1_1 G.r.l,B107 bo0_2 G.m A0_2_8 A0_2_9 A0_2_10 c0_2_10 A0_2_11,Y3 QF (Value.int .i64) A0_2_8 G.m.names,MpI A0_2_9 G.m.many,Rw QU 149 A0_2_10 c0_2_10 G.m.txs,MpV A0_2_11 vs0_2_11,Stk YR 93 (.slice A0_3 G.done.length c0_3) G.done,Rw (rInt .i64) 3 A0_4 c0_4 G.last] (fun v M' b3=>v=.tuple #[.agg (ZJ r.1),.bool r.2]∧b3=[B86 a2 G A0_0 c0_0 bo0_1 bo0_2 A0_3 c0_3 A0_4 c0_4,Blk bo0_1 (.cells #[.slice A0_1_0 G.r.tasks.length c0_1_0,.slice A0_1_1 G.r.l.length c0_1_1] 162 (0,0)),Rw YG 164 A0_1_0 c0_1_0 G.r.tasks,Rw QV 64 A0_1_1 c0_1_1 G.r.l,B107 bo0_2 G.m A0_2_8 A0_2_9 A0_2_10 c0_2_10 A0_2_11,Y3 QF (Value.int .i64) A0_2_8 G.m.names,MpI A0_2_9 G.m.many,Rw QU 149 A0_2_10 c0_2_10 G.m.txs,MpV A0_2_11 vs0_2_11,Stk YR 93 (.slice A0_3 G.done.length c0_3) G.done,Rw (rInt .i64) 3 A0_4 c0_4 G.last]):=by
 refine cwA Tryz.func61 J Tryz.ntmps61 Tryz.results61 J h ?_;intro w F rn S bu E HM H;unfold Zn at H;refine wsQ ?_;refine XS S #[vU U.What,vI U.Task,vI U.Call,vI U.Answer.Err,.bool U.Answer.Found,vS U.Answer.Value,.slice A1_0 U.Answer.Pairs.length c1_0] J J J (eE2 E ?_);intro b1 w2 E S;refine YX S cz5 ty69 J J (eE2 E ?_);intro b4 w5 E S;refine waB J (wnQ (QJ (QJ ?_)));refine rgA S [0,1,2,3,4,5,6,7,8,9,10,11,12] [_,_,_,_,_,_,_,_,_,_,_,_,_] 32 mixed J (eE1 E ?_);intro a8 E S K;refine tz0 0 J K (xfA Tryz.underlying64 ty3 J) (tz1 1 J K (fun w' W=>xlA W 1 ty3 J) (tz0 2 J K (xiB J J) (tz0 3 J K (xmB J) ?_)));refine YV (fun ρ w'=>QX ρ [(0,pt a2 0),(3,pt b1 0),(4,pt b4 0),(18,.bool ((decide (U.Task<(0:Int)))||(decide (U.Task≥(G.programs.length:Int)))))]∧a8=w') 19 (Ls 32 [0,1,2,3,4,5,6,7,8,9,10,11,12]) ?_ ?_;rotate_left
 ·intro Y;rcases Qr (decide (U.Task<(0:Int))) with O | O
  ·refine tz2 4 J (cS O) K (xfA Tryz.underlying64 ty3 J) (tz3 5 J (cS O) K (fun w' W=>xlA W 1 ty3 J) (tz2 6 J (cS O) K (xmP J) (tz2 7 J (cS O) K (QY J) (tz2 8 J (cS O) K (xfA Tryz.underlying86 ty24 J) (tz3 9 J (cS O) K (fun w' W=>xlA W 2 ty24 J) (tz2 10 J (cS O) K (Qd (n:=G.programs.length) Tryz.underlying24 J) (tz2 11 J (cS O) K (xiB J J) (tz0 12 J K (xqB O J) ?_))))))));exact Y _ _ ⟨⟨J,J,J,(flB O),trivial⟩,rfl⟩
  ·refine tz4 4 J (skF O) K (tz4 5 J (skF O) K (tz4 6 J (skF O) K (tz4 7 J (skF O) K (tz4 8 J (skF O) K (tz4 9 J (skF O) K (tz4 10 J (skF O) K (tz4 11 J (skF O) K (tz0 12 J K (xpB O J) ?_))))))));exact Y _ _ ⟨⟨J,J,J,(flB O),trivial⟩,rfl⟩
 rintro ρ _ ⟨a5,rfl⟩;rw [QC a5];refine tz0 13 J (⟨M,Hp.le_refl M,(S.pk [0,1,2,3,4,5,6,7,8,9,10,11,12])⟩) (xmB J) ?_;refine YV (fun ρ w'=>QX ρ [(0,pt a2 0),(3,pt b1 0),(4,pt b4 0),(23,.bool (((decide (U.Task<(0:Int)))||(decide (U.Task≥(G.programs.length:Int))))||(decide (U.Call<(0:Int)))))]∧a8=w') 14 (Ls 32 [0,1,2,3,4,5,6,7,8,9,10,11,12,13,14,15,16,17]) ?_ ?_;rotate_left
 ·intro Y;rcases Qr ((decide (U.Task<(0:Int)))||(decide (U.Task≥(G.programs.length:Int)))) with V | V
  ·refine tz2 14 J (cS V) K (xfA Tryz.underlying64 ty3 J) (tz3 15 J (cS V) K (fun w' W=>xlA W 1 ty3 J) (tz2 16 J (cS V) K (xiB J J) (tz0 17 J K (xqB V J) ?_)));exact Y _ _ ⟨⟨J,J,J,(flB V),trivial⟩,rfl⟩
  ·refine tz4 14 J (skF V) K (tz4 15 J (skF V) K (tz4 16 J (skF V) K (tz0 17 J K (xpB V J) ?_)));exact Y _ _ ⟨⟨J,J,J,(flB V),trivial⟩,rfl⟩
 rintro ρ _ ⟨a5,rfl⟩;rw [QC a5];refine tz0 18 J (⟨M,Hp.le_refl M,(S.pk [0,1,2,3,4,5,6,7,8,9,10,11,12])⟩) (xmB J) ?_;obtain ⟨b0,ai,aj⟩:=QM H;refine YV (fun ρ w'=>∃ (a6:Bool),(a6)=b0∧QX ρ [(0,pt a2 0),(3,pt b1 0),(4,pt b4 0),(37,.bool a6)]∧Ext w w'∧St w' M F [Blk b4 (.cells cz5 69 (0,0)),B64 b1 U A1_0 c1_0,B86 a2 G A0_0 c0_0 bo0_1 bo0_2 A0_3 c0_3 A0_4 c0_4,Blk bo0_1 (.cells #[.slice A0_1_0 G.r.tasks.length c0_1_0,.slice A0_1_1 G.r.l.length c0_1_1] 162 (0,0)),Rw YG 164 A0_1_0 c0_1_0 G.r.tasks,Rw QV 64 A0_1_1 c0_1_1 G.r.l,B107 bo0_2 G.m A0_2_8 A0_2_9 A0_2_10 c0_2_10 A0_2_11,Y3 QF (Value.int .i64) A0_2_8 G.m.names,MpI A0_2_9 G.m.many,Rw QU 149 A0_2_10 c0_2_10 G.m.txs,MpV A0_2_11 vs0_2_11,Stk YR 93 (.slice A0_3 G.done.length c0_3) G.done,Rw (rInt .i64) 3 A0_4 c0_4 G.last]) 0 (Ls 32 [0,1,2,3,4,5,6,7,8,9,10,11,12,13,14,15,16,17,18,19,20,21,22,23,24,25,26,27,28,29,30,31]) ?_ ?_;rotate_left
 ·intro Y;have H:=ai;rcases Q0 H with ⟨B,H⟩ | ⟨B,H⟩
  ·refine tz4 19 J (skF B) K (tz4 20 J (skF B) K (tz4 21 J (skF B) K (tz4 22 J (skF B) K (tz4 23 J (skF B) K (tz4 24 J (skF B) K (tz4 25 J (skF B) K (tz4 26 J (skF B) K (tz4 27 J (skF B) K (tz4 28 J (skF B) K (tz4 29 J (skF B) K (tz4 30 J (skF B) K (tz0 31 J K (xpB B J) ?_))))))))))));exact Y _ _ ⟨true,oi H,agP J,E,S.pk [0,1,2,3,4,5,6,7,8,9,10,11,12]⟩
  ·refine tz2 19 J (cS B) K (xfA Tryz.underlying64 ty3 J) (tz3 20 J (cS B) K (fun w' W=>xlA W 1 ty3 J) (tz2 21 J (cS B) K (xmP J) (tz2 22 J (cS B) K (QY J) (tz2 23 J (cS B) K (xfA Tryz.underlying86 ty24 J) (tz3 24 J (cS B) K (fun w' W=>xlA W 2 ty24 J) (tz2 25 J (cS B) K (xfA Tryz.underlying64 ty3 J) (tz3 26 J (cS B) K (fun w' W=>xlA W 1 ty3 J) ?_)))))));obtain ⟨⟨a9,aa⟩,H⟩:=Z3 H;obtain ⟨bb,bc,b6,_,_,ak,al,b7,am,an⟩:=SlW.at' hr0_0 a9 aa;obtain ⟨bd,ao,rfl⟩:=am;obtain ⟨be,bf,rfl,_⟩:=ao.form;refine tz2 27 J (cS B) K (QP Tryz.underlying24 ty67 (slA ak) J a9 aa) (tz3 28 J (cS B) K (fun w' W=>YU (XT W al) ty67 J (an 0 _ J)) (tz2 29 J (cS B) K (Qd (n:=(rd G.programs U.Task).length) Tryz.underlying67 J) (tz2 30 J (cS B) K (xiB J J) (tz0 31 J K (xqB B J) ?_))));exact Y _ _ ⟨(decide (U.Call≥((rd G.programs U.Task).length:Int))),oi H,agP J,E,S.pk [0,1,2,3,4,5,6,7,8,9,10,11,12]⟩
 rintro ρ bg ⟨a6,rfl,a5,E,S⟩;rw [QC a5];have H:=aj;refine Wz ?_;refine tn ?_;rcases Q0 H with ⟨a3,H⟩ | ⟨a3,H⟩
 ·refine QD (cB a3) ?_;refine wsQ (W_v _ (xb2 [(0,1),(1,1),(2,1),(3,1),(4,1),(5,1),(6,1)] cz5 Tryz.underlying69 ty69 J) J ?_);refine Qq S 0 J ty69 J J [vU 0,vI 0,vS ([]:Str),vS ([]:Str),vS ([]:Str),vI 0,vU 0] J J J cz5 (by as_aux_lemma=>kernel_rfl) J (eE1 E ?_);intro bh E S;refine waB J (wnQ ?_);refine QR ?_;refine tr (?_);obtain rfl:=oi H;exact ⟨_,_,_,fun w1 e1=>Zk (vs:=[.agg cz5,.bool false]) (FA.cons (rcA S e1 0 ty69 J J J) (FA.cons (J) (FA.nil))),HM,E,S.pk [2,3,4,5,6,7,8,9,10,11,12],⟨J,J⟩⟩
 refine QA (cB a3) (QT (tn ?_))
 as_aux_lemma =>
 refine QJ ?_;refine rgA S [0,1,2,3,4,5,6,7,8,9,10,11,12] [_,_,_,_,_,_,_,_,_,_,_,_,_] 12 mixed J (eE1 E ?_);intro bi E S Z;refine tz0 0 J Z (xmP J) (tz0 1 J Z (QY J) (tz0 2 J Z (xfA Tryz.underlying86 ty24 J) (tz1 3 J Z (fun w' W=>xlA W 2 ty24 J) (tz0 4 J Z (xfA Tryz.underlying64 ty3 J) (tz1 5 J Z (fun w' W=>xlA W 1 ty3 J) ?_)))));obtain ⟨⟨ab,ac⟩,H⟩:=Z3 H;obtain ⟨bj,bk,b8,_,_,ap,aq,b9,ar,au⟩:=SlW.at' hr0_0 ab ac;obtain ⟨bl,a7,rfl⟩:=ar;obtain ⟨bm,bo,rfl,_⟩:=a7.form;have ad:=a7;refine tz0 6 J Z (QP Tryz.underlying24 ty67 (slA ap) J ab ac) (tz1 7 J Z (fun w' W=>YU (XT W aq) ty67 J (au 0 _ J)) (tz0 8 J Z (xfA Tryz.underlying64 ty3 J) (tz1 9 J Z (fun w' W=>xlA W 1 ty3 J) ?_)));obtain ⟨⟨ae,af⟩,H⟩:=Z3 H;obtain ⟨bp,bq,ba,_,_,av,aw,ax,ay,az⟩:=SlW.at' ad ae af;obtain rfl:ax=_:=ay;refine tz0 10 J Z (QP Tryz.underlying67 ty69 (slA av) J ae af) (Wt 11 J J J (.agg (ZJ (rd (rd G.programs U.Task) U.Call))) J (fun w' W=>Qf (XT W aw) ty69 J (X6 az 0 J) J J) Z ?_);refine Wo 12 J ?_;refine Qq S 0 J ty69 J J [vU ((rd (rd G.programs U.Task) U.Call).Kind),vI ((rd (rd G.programs U.Task) U.Call).Tx),vS ((rd (rd G.programs U.Task) U.Call).Key),vS ((rd (rd G.programs U.Task) U.Call).End),vS ((rd (rd G.programs U.Task) U.Call).Value),vI ((rd (rd G.programs U.Task) U.Call).Limit),vU ((rd (rd G.programs U.Task) U.Call).Engine)] J J J (ZJ (rd (rd G.programs U.Task) U.Call)) (by as_aux_lemma=>kernel_rfl) J (eE1 E ?_);intro bt E S;refine QH (Ya ⟨.inl (by decide),?_⟩);refine Wo 13 J ?_;refine waB J ?_;refine QH (Ya ⟨.inl (by decide),?_⟩);refine Wz ?_;refine tn ?_;refine QR ?_;obtain rfl:=oi H;exact ⟨_,_,_,fun w1 e1=>Zk (vs:=[.agg (ZJ (rd (rd G.programs U.Task) U.Call)),.bool true]) (FA.cons (rcA S e1 0 ty69 J J J) (FA.cons (J) (FA.nil))),HM,E,S.pk [2,3,4,5,6,7,8,9,10,11,12],⟨J,J⟩⟩
def YF (k:Nat) (E:Qj) (B:Int):Option (Int×Bool×Bool) :=
 (Option.bind (α:=Bool) (if ((decide (B<(0:Int)))||(decide (B≥(E.tasks.length:Int))))=true then some (true) else (if 0≤B∧B<(E.tasks.length:Int) then some (((rd E.tasks B).at_==(0:Int))) else none)) (fun G=>(if G=true then some ((0:Int),false,false) else (if 0≤B∧B<(E.tasks.length:Int) then some ((rd E.tasks B).calls,((rd E.tasks B).at_==(2:Int)),true) else none))))
theorem YF.mono {k B E}: OLe (YF k B E) (YF (k+1) B E):=by
 unfold YF;exact mo
theorem YF.con {k M A0_0 c0_0 A0_1 c0_1} {K:Qj} {O:Int} {U} {r:Int×Bool×Bool} (h:YF k K O=some r): Con Tryz.prog 62 #[pt U 0,vI O] M [Blk U (.cells #[.slice A0_0 K.tasks.length c0_0,.slice A0_1 K.l.length c0_1] 162 (0,0)),Rw YG 164 A0_0 c0_0 K.tasks,Rw QV 64 A0_1 c0_1 K.l] (fun v M' ak=>v=.tuple #[vI r.1,.bool r.2.1,.bool r.2.2]∧ak=[Blk U (.cells #[.slice A0_0 K.tasks.length c0_0,.slice A0_1 K.l.length c0_1] 162 (0,0)),Rw YG 164 A0_0 c0_0 K.tasks,Rw QV 64 A0_1 c0_1 K.l]):=by
 refine cwA Tryz.func62 J Tryz.ntmps62 Tryz.results62 J h ?_;intro w F rn S ap E HM H;unfold YF at H;refine wsQ (waI J (waB J (waB J (wnQ (QJ (wsQ (wmP J (W_v (.bool false) (Va (r:=false) J J (Vi Tryz.underlying83)) J (wmB J (QL (J) (wmI J (QL (J) ?_))))))))))));refine wiB J J (wqB J J (wmB J ?_));refine Q7 8 (fun Y w'=>QX Y [(0,pt U 0),(1,vI O),(22,.bool ((decide (O<(0:Int)))||(decide (O≥(K.tasks.length:Int)))))]∧w=w') ?_ ?_
 ·rcases Qr (decide (O<(0:Int))) with G | G
  ·refine QL (cS G) (wmI J (QL (cS G) (wmP J (QL (cS G) (W_v _ (QY J) J (QL (cS G) (wfA Tryz.underlying162 ty160 J (QL (cS G) (wlA S 0 ty160 J (QL (cS G) (W_v _ (Qd (n:=K.tasks.length) Tryz.underlying160 J) J (QL (cS G) (wiB J J (wqB G J (QH ?_)))))))))))))));exact ⟨⟨J,J,(flB G),trivial⟩,rfl⟩
  ·refine Qa (skF G) J (Qa (skF G) J (Qa (skF G) J (Qa (skF G) J (Qa (skF G) J (Qa (skF G) J (Qa (skF G) J (wpB G J (QH ?_))))))));exact ⟨⟨J,J,(flB G),trivial⟩,rfl⟩
 as_aux_lemma =>
 rintro Y _ ⟨Z,rfl⟩;rw [QC Z];refine wmB J ?_;obtain ⟨am,a7,a8⟩:=QM H;refine Q7 10 (fun Y w'=>∃ (a2:Bool),(a2)=am∧QX Y [(0,pt U 0),(1,vI O),(33,.bool a2)]∧Ext w w'∧St w' M F [Blk U (.cells #[.slice A0_0 K.tasks.length c0_0,.slice A0_1 K.l.length c0_1] 162 (0,0)),Rw YG 164 A0_0 c0_0 K.tasks,Rw QV 64 A0_1 c0_1 K.l]) ?_ ?_
 ·as_aux_lemma =>
   have H:=a7;rcases Q0 H with ⟨B,H⟩ | ⟨B,H⟩
   ·refine Qa (skF B) J (Qa (skF B) J (Qa (skF B) J (Qa (skF B) J (Qa (skF B) J (Qa (skF B) J (Qa (skF B) J (Qa (skF B) J (Qa (skF B) J (wpB B J (QH ?_))))))))));exact ⟨true,oi H,agP J,E,S.pk [0,1,2]⟩
   ·refine QL (cS B) (wmP J (QL (cS B) (W_v _ (QY J) J (QL (cS B) (wfA Tryz.underlying162 ty160 J (QL (cS B) (wlA S 0 ty160 J (QL (cS B) (wmI J (QL (cS B) ?_))))))))));obtain ⟨⟨a3,a4⟩,H⟩:=Z3 H;obtain ⟨aq,ar,an,_,_,a9,aa,ab,ac,ad⟩:=SlW.at' (S.row_read 1 J) a3 a4;obtain rfl:ab=_:=ac;refine W_v _ (QP Tryz.underlying160 ty164 (slA a9) J a3 a4) J (QL (cS B) (wfA Tryz.underlying164 ty3 J (QL (cS B) (W_v _ (YU (Hp.of_get aa) ty3 J (ad 0 _ J)) J (QL (cS B) (wiB J J (wqB B J (QH ?_))))))));exact ⟨((rd K.tasks O).at_==(0:Int)),oi H,agP J,E,S.pk [0,1,2]⟩
 as_aux_lemma =>
 rintro Y au ⟨a2,rfl,Z,E,S⟩;rw [QC Z];have H:=a8;refine wnQ ?_;rcases Q0 H with ⟨W,H⟩ | ⟨W,H⟩
 ·refine QD (cB W) ?_;refine wsQ (waI J (waB J (waB J (wnQ ?_))));refine QR ?_;refine tr (?_);obtain rfl:=oi H;exact ⟨_,_,_,rsA (vs:=[_,_,_]) J,HM,E,S.pk [0,1,2],⟨J,J⟩⟩
 refine QA (cB W) (QT (tn (wsQ (wmP J (W_v _ (QY J) J (wfA Tryz.underlying162 ty160 J (wlA S 0 ty160 J (wmI J ?_))))))));obtain ⟨⟨a5,a6⟩,H⟩:=Z3 H;obtain ⟨av,aw,ao,_,_,ae,af,ag,ah,ai⟩:=SlW.at' (S.row_read 1 J) a5 a6;obtain rfl:ag=_:=ah;refine W_v _ (QP Tryz.underlying160 ty164 (slA ae) J a5 a6) J (W_v (.agg #[vI ((rd K.tasks O).at_),vI ((rd K.tasks O).calls)]) (Qf (Hp.of_get af) ty164 J (X6 ai 0 J) J J) J ?_);refine YX S #[vI 0,vI 0] ty164 J J (eE2 E ?_);intro ax ay E S;refine Qq S 0 J ty164 J J [vI ((rd K.tasks O).at_),vI ((rd K.tasks O).calls)] J J J #[vI ((rd K.tasks O).at_),vI ((rd K.tasks O).calls)] J J (eE1 E ?_);intro az E S;refine wnQ (QJ ?_);refine rgA S [0,1,2,3] [_,_,_,_] 8 mixed J (eE1 E ?_);intro b0 E S V;refine tz0 0 J V (xfA Tryz.underlying164 ty3 J) (tz1 1 J V (fun w' h'=>xlA h' 0 ty3 J) (tz0 2 J V (xfA Tryz.underlying164 ty3 J) (tz1 3 J V (fun w' h'=>xlA h' 0 ty3 J) (tz0 4 J V (xiB J J) (tz0 5 J V (xaI J) (tz0 6 J V (xaB J) (tz0 7 J V (xaB J) ?_)))))));refine Wz ?_;refine tn ?_;refine QR ?_;obtain rfl:=oi H;exact ⟨_,_,_,rsA (vs:=[_,_,_]) J,HM,E,S.pk [1,2,3],⟨J,J⟩⟩
end Go.Proofs.YtnjbjpaiepefoaaGreatDoor
