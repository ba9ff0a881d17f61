import Derived.Test.YtnjbjpaiepefoaaGreatDoorGt1B
import Derived.Test.YtnjbjpaiepefoaaGreatDoorGt1LReplayTellsP4
namespace Go.Proofs.YtnjbjpaiepefoaaGreatDoor
open Go
set_option linter.unusedVariables false
set_option linter.unusedSimpArgs false
set_option maxHeartbeats 80000000
set_option maxRecDepth 100000
def Yl (E:(List QB)):Nat→Int→Option ((Bool)⊕(Unit))
 | 0,_=>none
 | k+1,B=>(if (decide (B<(E.length:Int)))=true then (if 0≤B∧B<(E.length:Int) then (Option.bind (α:=Bool) (if ((IntKind.i64.wrap ((rd E B).What)) != (IntKind.i64.wrap ((1:Int)+(Int.tmod B (3:Int)))))=true then some (true) else (if 0≤B∧B<(E.length:Int) then some (((rd E B).Call != (IntKind.i64.wrap (Int.tdiv B (3:Int))))) else none)) (fun G=>(Option.bind (α:=Bool) (if G=true then some (true) else (Option.bind (α:=Bool) (if ((Int.tmod B (3:Int)) != (2:Int))=true then (if 0≤B∧B<(E.length:Int) then (Option.bind (Zw k ((rd E B).Answer) cz8) (fun H=>some ((!H)))) else none) else some (false)) (fun K=>some (K)))) (fun O=>(if O=true then some (.inl false) else Yl E k (IntKind.i64.wrap (B+(1:Int)))))))) else none) else some (.inr ()))
theorem Yl.mono {B}: ∀ {kl:Nat} {E},OLe (Yl B kl E) (Yl B (kl+1) E):=by
 intro kl
 induction kl with
 | zero=>intros;exact OLe.none
 | succ kl ih =>
  intros
  rw [Yl.eq_2,Yl.eq_2];have m1:=@Zw.mono;exact mo
def Ym (K:Int) (O:(List QB)):Nat→Int→Int→Option ((Bool)⊕(Int))
 | 0,_,_=>none
 | k+1,E,B=>(if (decide (B<K))=true then (Option.bind (X4 k O B) (fun G=>(Option.bind (Yl G k (0:Int)) (fun H=>Sum.elim (fun r'=>some (.inl r')) (fun _=>Ym K O k (IntKind.i64.wrap (E+(G.length:Int))) (IntKind.i64.wrap (B+(1:Int)))) H)))) else some (.inr (E)))
theorem Ym.mono {B E}: ∀ {kl:Nat} {G H},OLe (Ym B E kl G H) (Ym B E (kl+1) G H):=by
 intro kl
 induction kl with
 | zero=>intros;exact OLe.none
 | succ kl ih =>
  intros
  rw [Ym.eq_2,Ym.eq_2];have m1:=@Yl.mono;have m2:=@X4.mono;exact mo
def Xe (k:Nat) (G:Int) (H:(List QB)):Option (Bool) :=
 (if ((decide (G<(1:Int)))||(decide (G>(6:Int))))=true then some false else (Option.bind (Ym G H k (0:Int) (0:Int)) (fun B=>Sum.elim (fun r'=>some r') (fun E=>some (E==(H.length:Int))) B)))
theorem Xe.mono {k B E}: OLe (Xe k B E) (Xe (k+1) B E):=by
 unfold Xe;have m1:=@Ym.mono;exact mo
theorem Xe.con {k M} {a0:Int} {A1 c1} {a1:(List QB)} {r:Bool} (h:Xe k a0 a1=some r) (ay:SlR QV M (.slice A1 a1.length c1) a1): Con Tryz.prog 63 #[vI a0,.slice A1 a1.length c1] M [] (fun v M' az=>v=.bool r∧az=[]):=by
 refine cwA Tryz.func63 J Tryz.ntmps63 Tryz.results63 J h ?_;intro w F rn S cz E HM H;unfold Xe at H;refine wsQ (waB J (wnQ (QJ (wsQ (wmI J (wiB J J (wmB J ?_)))))));refine Q7 3 (fun Y w'=>QX Y [(0,vI a0),(1,.slice A1 a1.length c1),(14,.bool ((decide (a0<(1:Int)))||(decide (a0>(6:Int)))))]∧w=w') ?_ ?_
 ·rcases Qr (decide (a0<(1:Int))) with a7 | a7
  ·refine QL (cS a7) (wmI J (QL (cS a7) (wiB J J (wqB a7 J (QH ?_)))));exact ⟨⟨J,J,(flB a7),trivial⟩,rfl⟩
  ·refine Qa (skF a7) J (Qa (skF a7) J (wpB a7 J (QH ?_)));exact ⟨⟨J,J,(flB a7),trivial⟩,rfl⟩
 as_aux_lemma =>
 rintro Y _ ⟨Z,rfl⟩;rw [QC Z];refine wnQ ?_;rcases Q0 H with ⟨b0,H⟩ | ⟨b0,H⟩
 ·refine QD (cB b0) ?_;refine wsQ (waB J (wnQ ?_));refine QR ?_;refine tr (?_);obtain rfl:=oi H;exact ⟨_,_,_,rsA (vs:=[_]) J,HM,E,S.pk [],⟨J,J⟩⟩
 refine QA (cB b0) (QT (tn (wsQ (waI J (wnQ (QJ (wsQ (waI J (wnQ ?_)))))))));obtain ⟨an,b1,aj⟩:=QM H;refine Zs (fun Y w'=>∃ (ah:Int) (Mj:Hp),.inr (ah)=an∧QX Y [(1,.slice A1 a1.length c1),(5,vI ah)]∧M.le Mj∧Ext w w'∧St w' Mj F []) ?_ ?_
 ·refine Y8 (fun n Y w'=>∃ (V:Int) (W:Int) (Mj:Hp),Ym a0 a1 n V W=some an∧QX Y [(0,vI a0),(1,.slice A1 a1.length c1),(5,vI V),(6,vI W)]∧M.le Mj∧Ext w w'∧St w' Mj F []) k ?_ ?_
  ·exact ⟨(0:Int),(0:Int),M,b1,agP J,(Hp.le_refl M),E,S.pk []⟩
  ·intro n;rintro Y c8 ⟨V,W,bt,H,Z,a4,E,S⟩;rw [QC Z];replace HM:=Hp.le_trans HM a4;replace ay:=SlR.mono ay a4
   cases n with
   | zero=>cases H
   | succ k =>
    rw [Ym.eq_2] at H;refine QJ (wsQ (wmI J (wmI J (wiB J J (wnQ ?_)))));rcases Q0 H with ⟨ab,H⟩ | ⟨ab,H⟩
    ·refine QD (cB ab) ?_;refine QT (tn (QJ ?_));refine Zg ?_;refine wsQ (wmL J (wmI J ?_));obtain ⟨B,b2,H⟩:=QM H;refine YN fn81 (X4.con b2 ay) (Γ1:=[]) (Γ2:=[]) S J J ?_;rintro _ c9 a5 az ak E' S ⟨a2,a3,rfl,rfl⟩;replace HM:=Hp.le_trans HM ak;replace a4:=Hp.le_trans a4 ak;replace E:=E.trans E';refine waL J (wnQ (wsQ (wmI J (wmL J (W_v _ (Qd (n:=B.length) Tryz.underlying25 J) J (wiI J J (waI J (wnQ (wsQ (waI J (QH ?_)))))))))));refine tn ?_;obtain ⟨ao,b3,al⟩:=QM H;refine Zs (fun Y w'=>.inr ()=ao∧QX Y [(0,vI a0),(1,.slice A1 a1.length c1),(5,vI (IntKind.i64.wrap (V+(B.length:Int)))),(6,vI W)]∧Ext w w'∧St w' a5 F []) ?_ ?_
     ·refine Y8 (fun n Y w'=>∃ (O:Int),Yl B n O=some ao∧QX Y [(0,vI a0),(1,.slice A1 a1.length c1),(5,vI (IntKind.i64.wrap (V+(B.length:Int)))),(6,vI W),(7,.slice a2 B.length a3),(8,vI O)]∧Ext w w'∧St w' a5 F [Rw QV 64 a2 a3 B]) k ?_ ?_
      ·exact ⟨(0:Int),b3,agP J,E,S.pk [0]⟩
      ·intro n;rintro Y ca ⟨O,H,Z,E,S⟩;rw [QC Z]
       cases n with
       | zero=>cases H
       | succ k =>
        rw [Yl.eq_2] at H;refine QJ (wsQ (wmI J (wmL J (W_v _ (Qd (n:=B.length) Tryz.underlying25 J) J (wiB J J (wnQ ?_))))));rcases Q0 H with ⟨ac,H⟩ | ⟨ac,H⟩
        ·refine QD (cB ac) ?_;refine QT (tn (QJ ?_));refine Zg ?_;refine wsQ (wmL J (wmI J ?_));obtain ⟨⟨ap,aq⟩,H⟩:=Z3 H;obtain ⟨cb,cc,c2,_,_,b4,b5,c3,b6,b7⟩:=SlW.at' (S.row_read 0 J) ap aq;obtain ⟨cd,b8,rfl⟩:=b6;obtain ⟨ce,cf,rfl,_⟩:=b8.form;refine W_v _ (QP Tryz.underlying25 ty64 (slA b4) J ap aq) J (wfA Tryz.underlying64 ty5 J (W_v _ (YU (Hp.of_get b5) ty5 J (b7 0 _ J)) J (W_v (vI (IntKind.i64.wrap ((rd B O).What))) (Ud Tryz.underlying5 Tryz.underlying3 J) J (wmI J (W_v (vI (Int.tmod O (3:Int))) (x_rem J J (by decide)) J (wiI J J (wiB J J (wmB J ?_))))))));obtain ⟨bu,b9,ba⟩:=QM H;refine Q7 9 (fun Y w'=>∃ (a9:Bool),(a9)=bu∧QX Y [(0,vI a0),(1,.slice A1 a1.length c1),(5,vI (IntKind.i64.wrap (V+(B.length:Int)))),(6,vI W),(7,.slice a2 B.length a3),(8,vI O),(52,.bool a9)]∧Ext w w'∧St w' a5 F [Rw QV 64 a2 a3 B]) ?_ ?_
         ·have H:=b9;rcases Q0 H with ⟨G,H⟩ | ⟨G,H⟩
          ·refine Qa (skF G) J (Qa (skF G) J (Qa (skF G) J (Qa (skF G) J (Qa (skF G) J (Qa (skF G) J (Qa (skF G) J (Qa (skF G) J (wpB G J (QH ?_)))))))));exact ⟨true,oi H,agP J,E,S.pk [0]⟩
          ·refine QL (cS G) (wmL J (QL (cS G) (wmI J (QL (cS G) ?_))));obtain ⟨⟨ar,au⟩,H⟩:=Z3 H;obtain ⟨cg,ch,c4,_,_,bb,bc,c5,bd,be⟩:=SlW.at' (S.row_read 0 J) ar au;obtain ⟨ci,bf,rfl⟩:=bd;obtain ⟨cj,cm,rfl,_⟩:=bf.form;refine W_v _ (QP Tryz.underlying25 ty64 (slA bb) J ar au) J (QL (cS G) (wfA Tryz.underlying64 ty3 J (QL (cS G) (W_v _ (YU (Hp.of_get bc) ty3 J (be 2 _ J)) J (QL (cS G) (wmI J (QL (cS G) (W_v (vI (IntKind.i64.wrap (Int.tdiv O (3:Int)))) (x_quo J J (by decide)) J (QL (cS G) (wiB J J (wqB G J (QH ?_))))))))))));exact ⟨((rd B O).Call != (IntKind.i64.wrap (Int.tdiv O (3:Int)))),oi H,agP J,E,S.pk [0]⟩
         as_aux_lemma =>
         rintro Y cn ⟨a9,rfl,Z,E,S⟩;rw [QC Z];have H:=ba;refine wmB J ?_;obtain ⟨bv,bg,bh⟩:=QM H;refine Q7 14 (fun Y w'=>∃ (ai:Bool),(ai)=bv∧QX Y [(0,vI a0),(1,.slice A1 a1.length c1),(5,vI (IntKind.i64.wrap (V+(B.length:Int)))),(6,vI W),(7,.slice a2 B.length a3),(8,vI O),(67,.bool ai)]∧Ext w w'∧St w' a5 F [Rw QV 64 a2 a3 B]) ?_ ?_
         ·as_aux_lemma =>
           have H:=bg;rcases Q0 H with ⟨U,H⟩ | ⟨U,H⟩
           ·refine Qa (skF U) J (Qa (skF U) J (Qa (skF U) J (Qa (skF U) J (Qa (J) J (Qa (J) J (Qa (J) J (Qa (J) J (Qa (J) J (Qa (J) J (Qa (J) J (Qa (J) J (Qa (skF U) J (wpB U J (QH ?_))))))))))))));exact ⟨true,oi H,agP J,E,S.pk [0]⟩
           ·refine QL (cS U) (wmI J (QL (cS U) (W_v (vI (Int.tmod O (3:Int))) (x_rem J J (by decide)) J (QL (cS U) (wiB J J (QL (cS U) (wmB J ?_)))))));obtain ⟨bw,bi,bj⟩:=QM H;refine Q7 9 (fun Y w'=>∃ (aa:Bool),(aa)=bw∧QX Y [(0,vI a0),(1,.slice A1 a1.length c1),(5,vI (IntKind.i64.wrap (V+(B.length:Int)))),(6,vI W),(7,.slice a2 B.length a3),(8,vI O),(53,.bool a9),(54,vI O),(55,vI (Int.tmod O (3:Int))),(56,.bool ((Int.tmod O (3:Int)) != (2:Int))),(57,.bool ((Int.tmod O (3:Int)) != (2:Int))),(66,.bool aa)]∧Ext w w'∧St w' a5 F [Rw QV 64 a2 a3 B]) ?_ ?_
            ·as_aux_lemma =>
              have H:=bi;rcases Q0 H with ⟨K,H⟩ | ⟨K,H⟩
              ·refine QL (cS K) (wmL J (QL (cS K) (wmI J (QL (cS K) ?_))));obtain ⟨⟨av,aw⟩,H⟩:=Z3 H;obtain ⟨co,cp,c6,_,_,bk,bl,c7,bm,bo⟩:=SlW.at' (S.row_read 0 J) av aw;obtain ⟨cq,am,rfl⟩:=bm;obtain ⟨bz,c0,rfl,_⟩:=am.form;refine W_v _ (QP Tryz.underlying25 ty64 (slA bk) J av aw) J (QL (cS K) (wfA Tryz.underlying64 ty62 J (QL (cS K) (W_v (.agg #[vI ((rd B O).Answer.Err),.bool ((rd B O).Answer.Found),vS ((rd B O).Answer.Value),.slice bz ((rd B O).Answer.Pairs).length c0]) (Qf (Hp.of_get bl) ty62 J (X6 bo 3 J) J J) J (QL (cS K) (W_v _ (xb2 [(0,1),(1,1),(2,1),(3,1)] cz17 Tryz.underlying62 ty62 J) J (QL (cS K) ?_)))))));obtain ⟨ax,bp,H⟩:=QM H;refine Zb fn38 (Zw.con bp am (SlW.nil _ _)) S J J flN (eE4 E ?_);rintro _ cr _ az E S ⟨rfl,rfl⟩;refine QL (cS K) (W_v _ (X2 (b:=ax) J) J (QL (cS U) (wpB K J (QH ?_))));exact ⟨(!ax),oi H,agP J,E,S.pk [0]⟩
              ·refine Qa (skT K) J (Qa (skT K) J (Qa (skT K) J (Qa (skT K) J (Qa (skT K) J (Qa (skT K) J (Qa (skT K) J (Qa (skT K) J (QL (cS U) (wqB K J (QH ?_))))))))));exact ⟨false,oi H,agP J,E,S.pk [0]⟩
            rintro Y ct ⟨aa,rfl,Z,E,S⟩;rw [QC Z];have H:=bj;refine wqB U J (QH ?_);exact ⟨aa,oi H,agP J,E,S.pk [0]⟩
         rintro Y cu ⟨ai,rfl,Z,E,S⟩;rw [QC Z];have H:=bh;refine wnQ ?_;rcases Q0 H with ⟨ad,H⟩ | ⟨ad,H⟩
         ·refine QD (cB ad) ?_;refine wsQ (waB J (wnQ ?_));refine QR ?_;refine br (tr (tr (br (tr (br (tr (tr (br (tr (tr (?_)))))))))));obtain rfl:=oi H;have H:=al;replace H:=elimL H;obtain rfl:=oi H;have H:=aj;replace H:=elimL H;obtain rfl:=oi H;exact ⟨_,_,_,rsA (vs:=[_]) J,HM,E,S.pk [],⟨J,J⟩⟩
         refine QA (cB ad) (QT (bn (tn (QO (wmI J (wiI J J (waI J (wnQ ?_))))))));exact ⟨k,Nat.lt_succ_self k,⟨(IntKind.i64.wrap (O+(1:Int))),H,agP J,E,S.pk [0]⟩⟩
        refine QA (cB ac) ?_;refine Yn ?_;refine tx (tx (bsm (?_)));refine tn ?_;exact ⟨oi H,agP J,E,S.pk []⟩
     rintro Y cv ⟨rfl,Z,E,S⟩;rw [QC Z];have H:=al;replace H:=elimR H;refine bn (tn (QO (wmI J (wiI J J (waI J (wnQ ?_))))));exact ⟨k,Nat.lt_succ_self k,⟨(IntKind.i64.wrap (V+(B.length:Int))),(IntKind.i64.wrap (W+(1:Int))),a5,H,agP J,a4,E,S.pk []⟩⟩
    refine QA (cB ab) ?_;refine Yn ?_;refine tx (tx (bsm (?_)));refine tn ?_;exact ⟨V,bt,oi H,agP J,a4,E,S.pk []⟩
 rintro Y cw ⟨ah,cx,rfl,Z,bq,E,S⟩;rw [QC Z];replace HM:=Hp.le_trans HM bq;have H:=aj;replace H:=elimR H;refine tn ?_
 as_aux_lemma =>
 refine wsQ (wmI J (wmL J (W_v _ (Qd (n:=a1.length) Tryz.underlying25 J) J (wiB J J (waB J (wnQ ?_))))));refine QR ?_;obtain rfl:=oi H;exact ⟨_,_,_,rsA (vs:=[_]) J,HM,E,S.pk [],⟨J,J⟩⟩
def XJ (G:(List (List QZ))) (E:(List QB)):Nat→Int→Option ((Bool)⊕(Unit))
 | 0,_=>none
 | k+1,B=>(if (decide (B<(E.length:Int)))=true then (if 0≤B∧B<(E.length:Int) then (Option.bind (α:=Bool) (if (decide ((rd E B).Task≥(G.length:Int)))=true then some (true) else (if 0≤B∧B<(E.length:Int) then (if 0≤B∧B<(E.length:Int) then (if 0≤(rd E B).Task∧(rd E B).Task<(G.length:Int) then some ((decide ((rd E B).Call≥((rd G ((rd E B).Task)).length:Int)))) else none) else none) else none)) (fun H=>(if H=true then some (.inl false) else XJ G E k (IntKind.i64.wrap (B+(1:Int)))))) else none) else some (.inr ()))
theorem XJ.mono {B E}: ∀ {kl:Nat} {G},OLe (XJ B E kl G) (XJ B E (kl+1) G):=by
 intro kl
 induction kl with
 | zero=>intros;exact OLe.none
 | succ kl ih =>
  intros
  rw [XJ.eq_2,XJ.eq_2];exact mo
def XC (k:Nat) (G:Qb) (H:(List (List QZ))) (E:(List QB)):Option (Bool) :=
 (Option.bind (Xe k G.Tasks E) (fun K=>(if (!K)=true then some false else (Option.bind (XJ H E k (0:Int)) (fun B=>Sum.elim (fun r'=>some r') (fun _=>some true) B)))))
theorem XC.mono {k B E G}: OLe (XC k B E G) (XC (k+1) B E G):=by
 unfold XC;have m1:=@Xe.mono;have m2:=@XJ.mono;exact mo
theorem XC.con {k M} {a0:Qb} {A1 c1} {U:(List (List QZ))} {A2 c2} {O:(List QB)} {r:Bool} (h:XC k a0 U O=some r) (bg:SlR (rSl Yp) M (.slice A1 U.length c1) U) (a5:SlR QV M (.slice A2 O.length c2) O): Con Tryz.prog 30 #[.agg (QN a0),.slice A1 U.length c1,.slice A2 O.length c2] M [] (fun v M' bc=>v=.bool r∧bc=[]):=by
 refine cwA Tryz.func30 J Tryz.ntmps30 Tryz.results30 J h ?_;intro w F rn S co E HM H;unfold XC at H;refine wsQ ?_;refine XS S (QN a0) J J J (eE2 E ?_);intro b1 w2 E S;refine waB J (wnQ (QJ (wsQ (wfA Tryz.underlying23 ty3 J (wlA S 0 ty3 J (wmL J ?_))))));obtain ⟨t4,bh,H⟩:=QM H;refine Zb fn63 (Xe.con bh a5) S J J flN (eE4 E ?_);rintro _ w6 _ bc E S ⟨rfl,rfl⟩;refine W_v _ (X2 (b:=t4) J) J (wnQ ?_);rcases Q0 H with ⟨a8,H⟩ | ⟨a8,H⟩
 ·refine QD (cB a8) ?_;refine wsQ (waB J (wnQ ?_));refine QR ?_;refine tr (?_);obtain rfl:=oi H;exact ⟨_,_,_,rsA (vs:=[_]) J,HM,E,S.pk [],⟨J,J⟩⟩
 refine QA (cB a8) (QT (tn (QJ (wsQ (waI J (wnQ ?_))))));obtain ⟨a9,am,a6⟩:=QM H;refine Zs (fun Y w'=>.inr ()=a9∧QX Y []∧Ext w w'∧St w' M F []) ?_ ?_
 ·refine Y8 (fun n Y w'=>∃ (K:Int),XJ U O n K=some a9∧QX Y [(1,.slice A1 U.length c1),(2,.slice A2 O.length c2),(7,vI K)]∧Ext w w'∧St w' M F []) k ?_ ?_
  ·exact ⟨(0:Int),am,agP J,E,S.pk []⟩
  ·intro n;rintro Y bu ⟨K,H,Z,E,S⟩;rw [QC Z]
   cases n with
   | zero=>cases H
   | succ k =>
    rw [XJ.eq_2] at H;refine QJ (wsQ (wmI J (wmL J (W_v _ (Qd (n:=O.length) Tryz.underlying25 J) J (wiB J J (wnQ ?_))))));rcases Q0 H with ⟨V,H⟩ | ⟨V,H⟩
    ·refine QD (cB V) ?_;refine QT (tn (QJ ?_));refine Zg ?_;refine QJ ?_;refine rgA S [] [] 25 mixed J (eE1 E ?_);intro bv E S G;refine tz0 0 J G (xmL J) (tz0 1 J G (xmI J) ?_);obtain ⟨⟨aa,ab⟩,H⟩:=Z3 H;obtain ⟨bw,bz,bi,_,_,an,ao,bj,ap,aq⟩:=SlW.at' a5 aa ab;obtain ⟨c0,ar,rfl⟩:=ap;obtain ⟨c3,c4,rfl,_⟩:=ar.form;refine tz0 2 J G (QP Tryz.underlying25 ty64 (slA an) J aa ab) (tz0 3 J G (xfA Tryz.underlying64 ty3 J) (tz1 4 J G (fun w' h'=>YU (XT h' ao) ty3 J (aq 1 _ J)) (tz0 5 J G (xmL J) (tz0 6 J G (Qd (n:=U.length) Tryz.underlying24 J) (tz0 7 J G (xiB J J) (tz0 8 J G (xmB J) ?_))))));obtain ⟨bf,au,av⟩:=QM H;refine YV (fun Y w'=>∃ (a4:Bool),(a4)=bf∧QX Y [(1,.slice A1 U.length c1),(2,.slice A2 O.length c2),(7,vI K),(43,.bool a4)]∧Ext w w'∧St w' M F []) 0 (Ls 25 [0,1,2,3,4,5,6,7,8,9,10,11,12,13,14,15,16,17,18,19,20,21,22,23,24]) ?_ ?_;rotate_left
     ·intro a7;have H:=au;rcases Q0 H with ⟨B,H⟩ | ⟨B,H⟩
      ·refine tz4 9 J (skF B) G (tz4 10 J (skF B) G (tz4 11 J (skF B) G (tz4 12 J (skF B) G (tz4 13 J (skF B) G (tz4 14 J (skF B) G (tz4 15 J (skF B) G (tz4 16 J (skF B) G (tz4 17 J (skF B) G (tz4 18 J (skF B) G (tz4 19 J (skF B) G (tz4 20 J (skF B) G (tz4 21 J (skF B) G (tz4 22 J (skF B) G (tz4 23 J (skF B) G (tz0 24 J G (xpB B J) ?_)))))))))))))));exact a7 _ _ ⟨true,oi H,agP J,E,S.pk []⟩
      ·refine tz2 9 J (cS B) G (xmL J) (tz2 10 J (cS B) G (xmI J) ?_);obtain ⟨⟨ac,ad⟩,H⟩:=Z3 H;obtain ⟨c5,c6,bk,_,_,aw,ax,bl,ay,az⟩:=SlW.at' a5 ac ad;obtain ⟨c7,b0,rfl⟩:=ay;obtain ⟨c8,c9,rfl,_⟩:=b0.form;refine tz2 11 J (cS B) G (QP Tryz.underlying25 ty64 (slA aw) J ac ad) (tz2 12 J (cS B) G (xfA Tryz.underlying64 ty3 J) (tz3 13 J (cS B) G (fun w' h'=>YU (XT h' ax) ty3 J (az 2 _ J)) (tz2 14 J (cS B) G (xmL J) (tz2 15 J (cS B) G (xmL J) (tz2 16 J (cS B) G (xmI J) ?_)))));obtain ⟨⟨ae,af⟩,H⟩:=Z3 H;obtain ⟨ca,cb,bm,_,_,b2,b3,bo,b4,b5⟩:=SlW.at' a5 ae af;obtain ⟨cc,b6,rfl⟩:=b4;obtain ⟨cd,ce,rfl,_⟩:=b6.form;refine tz2 17 J (cS B) G (QP Tryz.underlying25 ty64 (slA b2) J ae af) (tz2 18 J (cS B) G (xfA Tryz.underlying64 ty3 J) (tz3 19 J (cS B) G (fun w' h'=>YU (XT h' b3) ty3 J (b5 1 _ J)) ?_));obtain ⟨⟨ag,ah⟩,H⟩:=Z3 H;obtain ⟨cf,cg,bp,_,_,b7,b8,bq,b9,ba⟩:=SlW.at' bg ag ah;obtain ⟨ch,bb,rfl⟩:=b9;obtain ⟨ci,cj,rfl,_⟩:=bb.form;refine tz2 20 J (cS B) G (QP Tryz.underlying24 ty67 (slA b7) J ag ah) (tz3 21 J (cS B) G (fun w' h'=>YU (XT h' b8) ty67 J (ba 0 _ J)) (tz2 22 J (cS B) G (Qd (n:=(rd U ((rd O K).Task)).length) Tryz.underlying67 J) (tz2 23 J (cS B) G (xiB J J) (tz0 24 J G (xqB B J) ?_))));exact a7 _ _ ⟨(decide ((rd O K).Call≥((rd U ((rd O K).Task)).length:Int))),oi H,agP J,E,S.pk []⟩
     rintro Y cm ⟨a4,rfl,Z,E,S⟩;rw [QC Z];have H:=av;refine Wz ?_;refine tn ?_;rcases Q0 H with ⟨W,H⟩ | ⟨W,H⟩
     ·refine QD (cB W) ?_;refine wsQ (waB J (wnQ ?_));refine QR ?_;refine br (tr (tr (br (tr (tr (?_))))));obtain rfl:=oi H;have H:=a6;replace H:=elimL H;obtain rfl:=oi H;exact ⟨_,_,_,rsA (vs:=[_]) J,HM,E,S.pk [],⟨J,J⟩⟩
     refine QA (cB W) (QT (bn (tn (QO (wmI J (wiI J J (waI J (wnQ ?_))))))));exact ⟨k,Nat.lt_succ_self k,⟨(IntKind.i64.wrap (K+(1:Int))),H,agP J,E,S.pk []⟩⟩
    refine QA (cB V) ?_;refine Yn ?_;refine tx (tx (bsm (?_)));refine tn ?_;exact ⟨oi H,trivial,E,S.pk []⟩
 rintro Y cn ⟨rfl,Z,E,S⟩;rw [QC Z];have H:=a6;replace H:=elimR H;refine tn ?_
 as_aux_lemma =>
 refine wsQ (waB J (wnQ ?_));refine QR ?_;obtain rfl:=oi H;exact ⟨_,_,_,rsA (vs:=[_]) J,HM,E,S.pk [],⟨J,J⟩⟩
def Xz (k:Nat) (B:Qb) (H:Str):Option (Bool) :=
 (Option.bind (Z1 k B) (fun K=>(Option.bind (α:=Bool) (if K=true then (Option.bind (Q3 k (H.length:Int) (1:Int) B.KeyLen) (fun E=>some (E))) else some (false)) (fun G=>some G))))
theorem Xz.mono {k B E}: OLe (Xz k B E) (Xz (k+1) B E):=by
 unfold Xz;have m1:=@Z1.mono;have m2:=@Q3.mono;exact mo
theorem Xz.con {k M} {O:Qb} {Y:Str} {r:Bool} (h:Xz k O Y=some r): Con Tryz.prog 102 #[.agg (QN O),vS Y] M [] (fun v M' G=>v=.bool r∧G=[]):=by
 refine cwA Tryz.func102 J Tryz.ntmps102 Tryz.results102 J h ?_;intro w F rn S a7 E HM H;unfold Xz at H;refine wsQ ?_;refine XS S (QN O) J J J (eE2 E ?_);intro b1 w2 E S;refine waB J (wnQ (wsQ (W_v (.agg (QN O)) (Qf (S.blk 0 J) ty23 J (QI J) J J) J ?_)));obtain ⟨t4,Z,H⟩:=QM H;refine Zb fn37 (Z1.con Z) S J J flN (eE4 E ?_);rintro _ w6 _ G E S ⟨rfl,rfl⟩;refine wmB J ?_;obtain ⟨a2,U,V⟩:=QM H;refine Q7 6 (fun ρ w'=>∃ (K:Bool),(K)=a2∧QX ρ [(13,.bool K)]∧Ext w w'∧St w' M F []) ?_ ?_
 ·have H:=U;rcases Q0 H with ⟨B,H⟩ | ⟨B,H⟩
  ·refine QL (cS B) (wmS J (QL (cS B) (W_v _ (VQ Tryz.underlying9 J) J (QL (cS B) (wfA Tryz.underlying23 ty3 J (QL (cS B) (wlA S 0 ty3 J (QL (cS B) ?_))))))));obtain ⟨a4,W,H⟩:=QM H;refine Zb fn67 (Q3.con W) S J J flN (eE4 E ?_);rintro _ a8 _ G E S ⟨rfl,rfl⟩;refine wpB B J (QH ?_);exact ⟨a4,oi H,agP J,E,S.pk []⟩
  ·refine Qa (skT B) J (Qa (skT B) J (Qa (skT B) J (Qa (skT B) J (Qa (skT B) J (wqB B J (QH ?_))))));exact ⟨false,oi H,agP J,E,S.pk []⟩
 rintro ρ a9 ⟨K,rfl,a5,E,S⟩;rw [QC a5];have H:=V;refine waB J (wnQ ?_);refine QR ?_;obtain rfl:=oi H;exact ⟨_,_,_,rsA (vs:=[_]) J,HM,E,S.pk [],⟨J,J⟩⟩
def Xf (k:Nat) (B:Qb) (H:Str):Option (Bool) :=
 (Option.bind (Z1 k B) (fun K=>(Option.bind (α:=Bool) (if K=true then (Option.bind (Q3 k (H.length:Int) (0:Int) B.ValLen) (fun E=>some (E))) else some (false)) (fun G=>some G))))
theorem Xf.mono {k B E}: OLe (Xf k B E) (Xf (k+1) B E):=by
 unfold Xf;have m1:=@Z1.mono;have m2:=@Q3.mono;exact mo
theorem Xf.con {k M} {O:Qb} {Y:Str} {r:Bool} (h:Xf k O Y=some r): Con Tryz.prog 103 #[.agg (QN O),vS Y] M [] (fun v M' G=>v=.bool r∧G=[]):=by
 refine cwA Tryz.func103 J Tryz.ntmps103 Tryz.results103 J h ?_;intro w F rn S a7 E HM H;unfold Xf at H;refine wsQ ?_;refine XS S (QN O) J J J (eE2 E ?_);intro b1 w2 E S;refine waB J (wnQ (wsQ (W_v (.agg (QN O)) (Qf (S.blk 0 J) ty23 J (QI J) J J) J ?_)));obtain ⟨t4,Z,H⟩:=QM H;refine Zb fn37 (Z1.con Z) S J J flN (eE4 E ?_);rintro _ w6 _ G E S ⟨rfl,rfl⟩;refine wmB J ?_;obtain ⟨a2,U,V⟩:=QM H;refine Q7 6 (fun ρ w'=>∃ (K:Bool),(K)=a2∧QX ρ [(13,.bool K)]∧Ext w w'∧St w' M F []) ?_ ?_
 ·have H:=U;rcases Q0 H with ⟨B,H⟩ | ⟨B,H⟩
  ·refine QL (cS B) (wmS J (QL (cS B) (W_v _ (VQ Tryz.underlying9 J) J (QL (cS B) (wfA Tryz.underlying23 ty3 J (QL (cS B) (wlA S 0 ty3 J (QL (cS B) ?_))))))));obtain ⟨a4,W,H⟩:=QM H;refine Zb fn67 (Q3.con W) S J J flN (eE4 E ?_);rintro _ a8 _ G E S ⟨rfl,rfl⟩;refine wpB B J (QH ?_);exact ⟨a4,oi H,agP J,E,S.pk []⟩
  ·refine Qa (skT B) J (Qa (skT B) J (Qa (skT B) J (Qa (skT B) J (Qa (skT B) J (wqB B J (QH ?_))))));exact ⟨false,oi H,agP J,E,S.pk []⟩
 rintro ρ a9 ⟨K,rfl,a5,E,S⟩;rw [QC a5];have H:=V;refine waB J (wnQ ?_);refine QR ?_;obtain rfl:=oi H;exact ⟨_,_,_,rsA (vs:=[_]) J,HM,E,S.pk [],⟨J,J⟩⟩
def XL (k:Nat) (B:Qb) (H:Str):Option (Bool) :=
 (Option.bind (Z1 k B) (fun K=>(Option.bind (α:=Bool) (if K=true then (Option.bind (Q3 k (H.length:Int) (0:Int) B.KeyLen) (fun E=>some (E))) else some (false)) (fun G=>some G))))
theorem XL.mono {k B E}: OLe (XL k B E) (XL (k+1) B E):=by
 unfold XL;have m1:=@Z1.mono;have m2:=@Q3.mono;exact mo
theorem XL.con {k M} {O:Qb} {Y:Str} {r:Bool} (h:XL k O Y=some r): Con Tryz.prog 104 #[.agg (QN O),vS Y] M [] (fun v M' G=>v=.bool r∧G=[]):=by
 refine cwA Tryz.func104 J Tryz.ntmps104 Tryz.results104 J h ?_;intro w F rn S a7 E HM H;unfold XL at H;refine wsQ ?_;refine XS S (QN O) J J J (eE2 E ?_);intro b1 w2 E S;refine waB J (wnQ (wsQ (W_v (.agg (QN O)) (Qf (S.blk 0 J) ty23 J (QI J) J J) J ?_)));obtain ⟨t4,Z,H⟩:=QM H;refine Zb fn37 (Z1.con Z) S J J flN (eE4 E ?_);rintro _ w6 _ G E S ⟨rfl,rfl⟩;refine wmB J ?_;obtain ⟨a2,U,V⟩:=QM H;refine Q7 6 (fun ρ w'=>∃ (K:Bool),(K)=a2∧QX ρ [(13,.bool K)]∧Ext w w'∧St w' M F []) ?_ ?_
 ·have H:=U;rcases Q0 H with ⟨B,H⟩ | ⟨B,H⟩
  ·refine QL (cS B) (wmS J (QL (cS B) (W_v _ (VQ Tryz.underlying9 J) J (QL (cS B) (wfA Tryz.underlying23 ty3 J (QL (cS B) (wlA S 0 ty3 J (QL (cS B) ?_))))))));obtain ⟨a4,W,H⟩:=QM H;refine Zb fn67 (Q3.con W) S J J flN (eE4 E ?_);rintro _ a8 _ G E S ⟨rfl,rfl⟩;refine wpB B J (QH ?_);exact ⟨a4,oi H,agP J,E,S.pk []⟩
  ·refine Qa (skT B) J (Qa (skT B) J (Qa (skT B) J (Qa (skT B) J (Qa (skT B) J (wqB B J (QH ?_))))));exact ⟨false,oi H,agP J,E,S.pk []⟩
 rintro ρ a9 ⟨K,rfl,a5,E,S⟩;rw [QC a5];have H:=V;refine waB J (wnQ ?_);refine QR ?_;obtain rfl:=oi H;exact ⟨_,_,_,rsA (vs:=[_]) J,HM,E,S.pk [],⟨J,J⟩⟩
def XD (E:(List QS)) (G:Int):Nat→Int→Option ((Int)⊕(Unit))
 | 0,_=>none
 | k+1,B=>(if (decide (B<(E.length:Int)))=true then (if 0≤B∧B<(E.length:Int) then (if (decide ((rd E B).TS≤G))=true then some (.inl B) else XD E G k (IntKind.i64.wrap (B+(1:Int)))) else none) else some (.inr ()))
theorem XD.mono {B E}: ∀ {kl:Nat} {G},OLe (XD B E kl G) (XD B E (kl+1) G):=by
 intro kl
 induction kl with
 | zero=>intros;exact OLe.none
 | succ kl ih =>
  intros
  rw [XD.eq_2,XD.eq_2];exact mo
def XH (k:Nat) (E:(List QS)) (G:Int):Option (Int) :=
 (Option.bind (XD E G k (0:Int)) (fun B=>Sum.elim (fun r'=>some r') (fun _=>some (E.length:Int)) B))
theorem XH.mono {k B E}: OLe (XH k B E) (XH (k+1) B E):=by
 unfold XH;have m1:=@XD.mono;exact mo
theorem XH.con {k M Y Z} {B:(List QS)} {a1:Int} {r:Int} (h:XH k B a1=some r) (ac:SlR ZG M (.slice Y B.length Z) B): Con Tryz.prog 124 #[.slice Y B.length Z,vI a1] M [] (fun v M' ad=>v=vI r∧ad=[]):=by
 refine cwA Tryz.func124 J Tryz.ntmps124 Tryz.results124 J h ?_;intro w F rn S ag E HM H;unfold XH at H;refine wsQ (waI J (wnQ (QJ (wsQ (waI J (wnQ ?_))))));obtain ⟨a3,a6,U⟩:=QM H;refine Zs (fun V w'=>.inr ()=a3∧QX V [(0,.slice Y B.length Z)]∧Ext w w'∧St w' M F []) ?_ ?_
 ·refine Y8 (fun n V w'=>∃ (O:Int),XD B a1 n O=some a3∧QX V [(0,.slice Y B.length Z),(1,vI a1),(5,vI O)]∧Ext w w'∧St w' M F []) k ?_ ?_
  ·exact ⟨(0:Int),a6,agP J,E,S.pk []⟩
  ·intro n;rintro V ah ⟨O,H,W,E,S⟩;rw [QC W]
   cases n with
   | zero=>cases H
   | succ k =>
    rw [XD.eq_2] at H;refine QJ (wsQ (wmI J (wmL J (W_v _ (Qd (n:=B.length) Tryz.underlying54 J) J (wiB J J (wnQ ?_))))));rcases Q0 H with ⟨G,H⟩ | ⟨G,H⟩
    ·refine QD (cB G) ?_;refine QT (tn (QJ ?_));refine Zg ?_;refine wsQ (wmL J (wmI J ?_));obtain ⟨⟨a4,a5⟩,H⟩:=Z3 H;obtain ⟨ai,aj,af,_,_,a7,a8,a9,aa,ab⟩:=SlW.at' ac a4 a5;obtain rfl:a9=_:=aa;refine W_v _ (QP Tryz.underlying54 ty51 (slA a7) J a4 a5) J (wfA Tryz.underlying51 ty3 J (W_v _ (YU (S.frz a8) ty3 J (ab 1 _ J)) J (wmI J (wiB J J (wnQ ?_)))));rcases Q0 H with ⟨K,H⟩ | ⟨K,H⟩
     ·refine QD (cB K) ?_;refine wsQ (wmI J (waI J (wnQ ?_)));refine QR ?_;refine br (tr (tr (br (tr (tr (?_))))));obtain rfl:=oi H;have H:=U;replace H:=elimL H;obtain rfl:=oi H;exact ⟨_,_,_,rsA (vs:=[_]) J,HM,E,S.pk [],⟨J,J⟩⟩
     refine QA (cB K) (QT (bn (tn (QO (wmI J (wiI J J (waI J (wnQ ?_))))))));exact ⟨k,Nat.lt_succ_self k,⟨(IntKind.i64.wrap (O+(1:Int))),H,agP J,E,S.pk []⟩⟩
    refine QA (cB G) ?_;refine Yn ?_;refine tx (tx (bsm (?_)));refine tn ?_;exact ⟨oi H,agP J,E,S.pk []⟩
 rintro V ak ⟨rfl,W,E,S⟩;rw [QC W];have H:=U;replace H:=elimR H;refine tn ?_
 as_aux_lemma =>
 refine wsQ (wmL J (W_v _ (Qd (n:=B.length) Tryz.underlying54 J) J (waI J (wnQ ?_))));refine QR ?_;obtain rfl:=oi H;exact ⟨_,_,_,rsA (vs:=[_]) J,HM,E,S.pk [],⟨J,J⟩⟩
def XI (k:Nat) (E:(List QS)) (H:Int):Option (QS×Bool) :=
 (Option.bind (XH k E H) (fun B=>(Option.bind (α:=Bool) (if (B==(E.length:Int))=true then some (true) else (if 0≤B∧B<(E.length:Int) then some ((rd E B).Tomb) else none)) (fun G=>(if G=true then some ((⟨(0:Int),(0:Int),false,([]:Str)⟩:QS),false) else (if 0≤B∧B<(E.length:Int) then some ((rd E B),true) else none))))))
theorem XI.mono {k B E}: OLe (XI k B E) (XI (k+1) B E):=by
 unfold XI;have m1:=@XH.mono;exact mo
theorem XI.con {k M A0 c0} {G:(List QS)} {a1:Int} {r:QS×Bool} (h:XI k G a1=some r) (U:SlR ZG M (.slice A0 G.length c0) G): Con Tryz.prog 105 #[.slice A0 G.length c0,vI a1] M [] (fun v M' W=>v=.tuple #[.agg (Z2 r.1),.bool r.2]∧W=[]):=by
 refine cwA Tryz.func105 J Tryz.ntmps105 Tryz.results105 J h ?_;intro w F rn S au E HM H;unfold XI at H;refine wsQ ?_;refine YX S cz18 ty51 J J (eE2 E ?_);intro b1 w2 E S;refine waB J (wnQ (wsQ (wmL J (wmI J ?_))));obtain ⟨K,am,H⟩:=QM H;refine Zb fn124 (XH.con am U) S J J flN (eE4 E ?_);rintro _ w6 _ W E S ⟨rfl,rfl⟩;refine waI J (wnQ (QJ (wsQ (wmI J (wmL J (W_v _ (Qd (n:=G.length) Tryz.underlying54 J) J (wiB J J (wmB J ?_))))))));obtain ⟨an,a6,a7⟩:=QM H;refine Q7 6 (fun ρ w'=>∃ (V:Bool),(V)=an∧QX ρ [(0,.slice A0 G.length c0),(4,pt b1 0),(6,vI K),(20,.bool V)]∧Ext w w'∧St w' M F [Blk b1 (.cells cz18 51 (0,0))]) ?_ ?_
 ·have H:=a6;rcases Q0 H with ⟨B,H⟩ | ⟨B,H⟩
  ·refine Qa (skF B) J (Qa (skF B) J (Qa (skF B) J (Qa (skF B) J (Qa (skF B) J (wpB B J (QH ?_))))));exact ⟨true,oi H,agP J,E,S.pk [0]⟩
  ·refine QL (cS B) (wmL J (QL (cS B) (wmI J (QL (cS B) ?_))));obtain ⟨⟨Y,Z⟩,H⟩:=Z3 H;obtain ⟨av,aw,aq,_,_,a8,a9,aa,ab,ac⟩:=SlW.at' U Y Z;obtain rfl:aa=_:=ab;refine W_v _ (QP Tryz.underlying54 ty51 (slA a8) J Y Z) J (QL (cS B) (wfA Tryz.underlying51 ty4 J (QL (cS B) (W_v _ (YU (S.frz a9) ty4 J (ac 2 _ J)) J (wqB B J (QH ?_))))));exact ⟨((rd G K).Tomb),oi H,agP J,E,S.pk [0]⟩
 as_aux_lemma =>
 rintro ρ ax ⟨V,rfl,ap,E,S⟩;rw [QC ap];have H:=a7;refine wnQ ?_;rcases Q0 H with ⟨O,H⟩ | ⟨O,H⟩
 ·refine QD (cB O) ?_;refine wsQ (W_v _ (xb2 [(0,1),(1,1),(2,1),(3,1)] cz18 Tryz.underlying51 ty51 J) J ?_);refine Qq S 0 J ty51 J J [vI 0,vI 0,.bool false,vS ([]:Str)] J J J cz18 J J (eE1 E ?_);intro ay E S;refine waB J (wnQ ?_);refine QR ?_;refine tr (?_);obtain rfl:=oi H;exact ⟨_,_,_,fun w1 e1=>Zk (vs:=[.agg cz18,.bool false]) (FA.cons (rcA S e1 0 ty51 J J J) (FA.cons (J) (FA.nil))),HM,E,S.pk [],⟨J,J⟩⟩
 refine QA (cB O) (QT (tn (wsQ (wmL J (wmI J ?_)))));obtain ⟨⟨a2,a3⟩,H⟩:=Z3 H;obtain ⟨az,b0,ar,_,_,ae,af,ag,ah,ai⟩:=SlW.at' U a2 a3;obtain rfl:ag=_:=ah;refine W_v _ (QP Tryz.underlying54 ty51 (slA ae) J a2 a3) J (W_v (.agg (Z2 (rd G K))) (Qf (S.frz af) ty51 J (X6 ai 0 J) J J) J ?_);refine Qq S 0 J ty51 J J [vI ((rd G K).Writer),vI ((rd G K).TS),.bool ((rd G K).Tomb),vS ((rd G K).Value)] J J J (Z2 (rd G K)) J J (eE1 E ?_);intro b2 E S;refine waB J (wnQ ?_);refine QR ?_;obtain rfl:=oi H;exact ⟨_,_,_,fun w1 e1=>Zk (vs:=[.agg (Z2 (rd G K)),.bool true]) (FA.cons (rcA S e1 0 ty51 J J J) (FA.cons (J) (FA.nil))),HM,E,S.pk [],⟨J,J⟩⟩
def XY (k:Nat) (B:(List QS)) (G:Int):Option (Bool) :=
 (Option.bind (α:=Bool) (if (decide ((B.length:Int)>(0:Int)))=true then (if 0≤(0:Int)∧(0:Int)<(B.length:Int) then some ((decide ((rd B (0:Int)).TS>G))) else none) else some (false)) (fun E=>some E))
theorem XY.mono {k B E}: OLe (XY k B E) (XY (k+1) B E):=by
 unfold XY;exact mo
theorem XY.con {k M A0 c0} {G:(List QS)} {V:Int} {r:Bool} (h:XY k G V=some r) (a8:SlR ZG M (.slice A0 G.length c0) G): Con Tryz.prog 106 #[.slice A0 G.length c0,vI V] M [] (fun v M' a9=>v=.bool r∧a9=[]):=by
 refine cwA Tryz.func106 J Tryz.ntmps106 Tryz.results106 J h ?_;intro w F rn S af E HM H;unfold XY at H;refine wsQ (waB J (wnQ (wsQ (wmL J (W_v _ (Qd (n:=G.length) Tryz.underlying54 J) J (wiB J J (wmB J ?_)))))));obtain ⟨aa,W,Y⟩:=QM H;refine Q7 7 (fun ρ w'=>∃ (K:Bool),(K)=aa∧QX ρ [(15,.bool K)]∧Ext w w'∧St w' M F []) ?_ ?_
 ·have H:=W;rcases Q0 H with ⟨B,H⟩ | ⟨B,H⟩
  ·refine QL (cS B) (wmL J (QL (cS B) ?_));obtain ⟨⟨O,U⟩,H⟩:=Z3 H;obtain ⟨ag,ah,ae,_,_,Z,a2,a3,a4,a5⟩:=SlW.at' a8 O U;obtain rfl:a3=_:=a4;refine W_v _ (QP Tryz.underlying54 ty51 (slA Z) J O U) J (QL (cS B) (wfA Tryz.underlying51 ty3 J (QL (cS B) (W_v _ (YU (S.frz a2) ty3 J (a5 1 _ J)) J (QL (cS B) (wmI J (QL (cS B) (wiB J J (wpB B J (QH ?_))))))))));exact ⟨(decide ((rd G (0:Int)).TS>V)),oi H,agP J,E,S.pk []⟩
  ·refine Qa (skT B) J (Qa (skT B) J (Qa (skT B) J (Qa (skT B) J (Qa (skT B) J (Qa (skT B) J (wqB B J (QH ?_)))))));exact ⟨false,oi H,agP J,E,S.pk []⟩
 rintro ρ ai ⟨K,rfl,ac,E,S⟩;rw [QC ac];have H:=Y;refine waB J (wnQ ?_);refine QR ?_;obtain rfl:=oi H;exact ⟨_,_,_,rsA (vs:=[_]) J,HM,E,S.pk [],⟨J,J⟩⟩
def YT (E:Str) (G:Str):Nat→Int→Option ((Int)⊕(Unit))
 | 0,_=>none
 | k+1,B=>(if ((decide (B<(E.length:Int)))&&(decide (B<(G.length:Int))))=true then (if 0≤B∧B<(E.length:Int) then (if 0≤B∧B<(G.length:Int) then (if (decide ((((E).getD (B).toNat 0).toNat:Int)<(((G).getD (B).toNat 0).toNat:Int)))=true then some (.inl (-1:Int)) else (if 0≤B∧B<(E.length:Int) then (if 0≤B∧B<(G.length:Int) then (if (decide ((((E).getD (B).toNat 0).toNat:Int)>(((G).getD (B).toNat 0).toNat:Int)))=true then some (.inl (1:Int)) else YT E G k (IntKind.i64.wrap (B+(1:Int)))) else none) else none)) else none) else none) else some (.inr ()))
theorem YT.mono {B E}: ∀ {kl:Nat} {G},OLe (YT B E kl G) (YT B E (kl+1) G):=by
 intro kl
 induction kl with
 | zero=>intros;exact OLe.none
 | succ kl ih =>
  intros
  rw [YT.eq_2,YT.eq_2];exact mo
def YL (k:Nat) (B:Str) (E:Str):Option (Int) :=
 (Option.bind (YT B E k (0:Int)) (fun G=>Sum.elim (fun r'=>some r') (fun _=>(if (decide ((B.length:Int)<(E.length:Int)))=true then some (-1:Int) else (if (decide ((B.length:Int)>(E.length:Int)))=true then some (1:Int) else some (0:Int)))) G))
theorem YL.mono {k B E}: OLe (YL k B E) (YL (k+1) B E):=by
 unfold YL;have m1:=@YT.mono;exact mo
theorem YL.con {k M} {K:Str} {O:Str} {r:Int} (h:YL k K O=some r): Con Tryz.prog 108 #[vS K,vS O] M [] (fun v M' ac=>v=vI r∧ac=[]):=by
 refine cwA Tryz.func108 J Tryz.ntmps108 Tryz.results108 J h ?_;intro w F rn S am E HM H;unfold YL at H;refine wsQ (waI J (wnQ (QJ (wsQ (waI J (wnQ ?_))))));obtain ⟨a8,a9,a2⟩:=QM H;refine Zs (fun Y w'=>.inr ()=a8∧QX Y [(0,vS K),(1,vS O)]∧Ext w w'∧St w' M F []) ?_ ?_
 ·refine Y8 (fun n Y w'=>∃ (G:Int),YT K O n G=some a8∧QX Y [(0,vS K),(1,vS O),(5,vI G)]∧Ext w w'∧St w' M F []) k ?_ ?_
  ·exact ⟨(0:Int),a9,agP J,E,S.pk []⟩
  ·intro n;rintro Y ad ⟨G,H,Z,E,S⟩;rw [QC Z]
   cases n with
   | zero=>cases H
   | succ k =>
    rw [YT.eq_2] at H;refine QJ (wsQ (wmI J (wmS J (W_v _ (VQ Tryz.underlying9 J) J (wiB J J (wmB J ?_))))));refine Q7 5 (fun Y w'=>QX Y [(0,vS K),(1,vS O),(5,vI G),(15,.bool ((decide (G<(K.length:Int)))&&(decide (G<(O.length:Int)))))]∧ad=w') ?_ ?_
    ·rcases Qr (decide (G<(K.length:Int))) with B | B
     ·refine Qa (skT B) J (Qa (skT B) J (Qa (skT B) J (Qa (skT B) J (wqB B J (QH ?_)))));exact ⟨⟨J,J,J,(flB B),trivial⟩,rfl⟩
     ·refine QL (cS B) (wmI J (QL (cS B) (wmS J (QL (cS B) (W_v _ (VQ Tryz.underlying9 J) J (QL (cS B) (wiB J J (wpB B J (QH ?_)))))))));exact ⟨⟨J,J,J,(flB B),trivial⟩,rfl⟩
    as_aux_lemma =>
    rintro Y _ ⟨Z,rfl⟩;rw [QC Z];refine wnQ ?_;rcases Q0 H with ⟨a3,H⟩ | ⟨a3,H⟩
    ·refine QD (cB a3) ?_;refine QT (tn (QJ ?_));refine Zg ?_;refine QJ (QJ ?_);refine rgA S [] [] 7 mixed J (eE1 E ?_);intro an E S D1;refine tz0 0 J D1 (xmS J) (tz0 1 J D1 (xmI J) ?_);obtain ⟨⟨ae,af⟩,H⟩:=Z3 H;refine Wt 2 J J J (vU (((K).getD (G).toNat 0).toNat:Int)) J (fun w' h'=>Uc Tryz.underlying9 J J ae af) D1 (tz0 3 J D1 (xmS J) (tz0 4 J D1 (xmI J) ?_));obtain ⟨⟨ag,ah⟩,H⟩:=Z3 H;refine Wt 5 J J J (vU (((O).getD (G).toNat 0).toNat:Int)) J (fun w' h'=>Uc Tryz.underlying9 J J ag ah) D1 (tz0 6 J D1 (xiB J J) ?_);refine Wz ?_;refine tn ?_;rcases Q0 H with ⟨a5,H⟩ | ⟨a5,H⟩
     ·refine QD (cB a5) ?_;refine wsQ (waI J (wnQ ?_));refine QR ?_;refine tr (br (tr (tr (br (tr (tr (?_)))))));obtain rfl:=oi H;have H:=a2;replace H:=elimL H;obtain rfl:=oi H;exact ⟨_,_,_,rsA (vs:=[_]) J,HM,E,S.pk [],⟨J,J⟩⟩
     refine QA (cB a5) (QT (tn (QJ ?_)));refine rgA S [] [] 7 mixed J (eE1 E ?_);intro ao E S D2;refine tz0 0 J D2 (xmS J) (tz0 1 J D2 (xmI J) ?_);obtain ⟨⟨ai,aj⟩,H⟩:=Z3 H;refine Wt 2 J J J (vU (((K).getD (G).toNat 0).toNat:Int)) J (fun w' h'=>Uc Tryz.underlying9 J J ai aj) D2 (tz0 3 J D2 (xmS J) (tz0 4 J D2 (xmI J) ?_));obtain ⟨⟨ak,ab⟩,H⟩:=Z3 H;refine Wt 5 J J J (vU (((O).getD (G).toNat 0).toNat:Int)) J (fun w' h'=>Uc Tryz.underlying9 J J ak ab) D2 (tz0 6 J D2 (xiB J J) ?_);refine Wz ?_;refine tn ?_;rcases Q0 H with ⟨U,H⟩ | ⟨U,H⟩
     ·refine QD (cB U) ?_;refine wsQ (waI J (wnQ ?_));refine QR ?_;refine br (tr (tr (br (tr (tr (?_))))));obtain rfl:=oi H;have H:=a2;replace H:=elimL H;obtain rfl:=oi H;exact ⟨_,_,_,rsA (vs:=[_]) J,HM,E,S.pk [],⟨J,J⟩⟩
     refine QA (cB U) (QT (bn (tn (QO (wmI J (wiI J J (waI J (wnQ ?_))))))));exact ⟨k,Nat.lt_succ_self k,⟨(IntKind.i64.wrap (G+(1:Int))),H,agP J,E,S.pk []⟩⟩
    refine QA (cB a3) ?_;refine Yn ?_;refine tx (tx (bsm (?_)));refine tn ?_;exact ⟨oi H,agP J,E,S.pk []⟩
 rintro Y al ⟨rfl,Z,E,S⟩;rw [QC Z];have H:=a2;replace H:=elimR H;refine tn ?_
 as_aux_lemma =>
 refine QJ (wsQ (wmS J (W_v _ (VQ Tryz.underlying9 J) J (wmS J (W_v _ (VQ Tryz.underlying9 J) J (wiB J J (wnQ ?_)))))));rcases Q0 H with ⟨V,H⟩ | ⟨V,H⟩
 ·refine QD (cB V) ?_;refine wsQ (waI J (wnQ ?_));refine QR ?_;refine tr (?_);obtain rfl:=oi H;exact ⟨_,_,_,rsA (vs:=[_]) J,HM,E,S.pk [],⟨J,J⟩⟩
 refine QA (cB V) (QT (tn (QJ (wsQ (wmS J (W_v _ (VQ Tryz.underlying9 J) J (wmS J (W_v _ (VQ Tryz.underlying9 J) J (wiB J J (wnQ ?_))))))))));rcases Q0 H with ⟨W,H⟩ | ⟨W,H⟩
 ·refine QD (cB W) ?_;refine wsQ (waI J (wnQ ?_));refine QR ?_;refine tr (?_);obtain rfl:=oi H;exact ⟨_,_,_,rsA (vs:=[_]) J,HM,E,S.pk [],⟨J,J⟩⟩
 refine QA (cB W) (QT (tn ?_))
 as_aux_lemma =>
 refine wsQ (waI J (wnQ ?_));refine QR ?_;obtain rfl:=oi H;exact ⟨_,_,_,rsA (vs:=[_]) J,HM,E,S.pk [],⟨J,J⟩⟩
def XQ (k:Nat) (B:Str) (O:Str) (E:Str):Option (Bool) :=
 (Option.bind (YL k O B) (fun U=>(Option.bind (α:=Bool) (if (decide (U≤(0:Int)))=true then (Option.bind (α:=Bool) (if (sbin .eql E ([]:Str))=true then some (true) else (Option.bind (YL k B E) (fun G=>some ((decide (G<(0:Int))))))) (fun H=>some (H))) else some (false)) (fun K=>some K))))
theorem XQ.mono {k B E G}: OLe (XQ k B E G) (XQ (k+1) B E G):=by
 unfold XQ;have m1:=@YL.mono;exact mo
theorem XQ.con {k M} {a0:Str} {a1:Str} {Y:Str} {r:Bool} (h:XQ k a0 a1 Y=some r): Con Tryz.prog 88 #[vS a0,vS a1,vS Y] M [] (fun v M' O=>v=.bool r∧O=[]):=by
 refine cwA Tryz.func88 J Tryz.ntmps88 Tryz.results88 J h ?_;intro w F rn S af E HM H;unfold XQ at H;refine wsQ (waB J (wnQ (wsQ (wmS J (wmS J ?_)))));obtain ⟨t1,a9,H⟩:=QM H;refine Zb fn108 (YL.con a9) S J J flN (eE4 E ?_);rintro _ w3 _ O E S ⟨rfl,rfl⟩;refine wiB J J (wmB J ?_);obtain ⟨aa,Z,a3⟩:=QM H;refine Q7 9 (fun U w'=>∃ (V:Bool),(V)=aa∧QX U [(20,.bool V)]∧Ext w w'∧St w' M F []) ?_ ?_
 ·as_aux_lemma =>
   have H:=Z;rcases Q0 H with ⟨B,H⟩ | ⟨B,H⟩
   ·refine QL (cS B) (wmS J (QL (cS B) (W_v (.bool (sbin .eql Y ([]:Str))) (Ul J J J) J (QL (cS B) (wmB J ?_)))));obtain ⟨ab,a4,a5⟩:=QM H;refine Q7 5 (fun U w'=>∃ (K:Bool),(K)=ab∧QX U [(11,.bool (decide (t1≤(0:Int)))),(19,.bool K)]∧Ext w w'∧St w' M F []) ?_ ?_
    ·have H:=a4;rcases Q0 H with ⟨G,H⟩ | ⟨G,H⟩
     ·refine Qa (skF G) J (Qa (skF G) J (Qa (skF G) J (Qa (skF G) J (QL (cS B) (wpB G J (QH ?_))))));exact ⟨true,oi H,agP J,E,S.pk []⟩
     ·refine QL (cS G) (wmS J (QL (cS G) (wmS J (QL (cS G) ?_))));obtain ⟨ac,a6,H⟩:=QM H;refine Zb fn108 (YL.con a6) S J J flN (eE4 E ?_);rintro _ ag _ O E S ⟨rfl,rfl⟩;refine QL (cS G) (wiB J J (QL (cS B) (wqB G J (QH ?_))));exact ⟨(decide (ac<(0:Int))),oi H,agP J,E,S.pk []⟩
    rintro U ah ⟨K,rfl,W,E,S⟩;rw [QC W];have H:=a5;refine wpB B J (QH ?_);exact ⟨K,oi H,agP J,E,S.pk []⟩
   ·refine Qa (skT B) J (Qa (skT B) J (Qa (skT B) J (Qa (J) J (Qa (J) J (Qa (J) J (Qa (J) J (Qa (skT B) J (wqB B J (QH ?_)))))))));exact ⟨false,oi H,agP J,E,S.pk []⟩
 rintro U ai ⟨V,rfl,W,E,S⟩;rw [QC W];have H:=a3;refine waB J (wnQ ?_);refine QR ?_;obtain rfl:=oi H;exact ⟨_,_,_,rsA (vs:=[_]) J,HM,E,S.pk [],⟨J,J⟩⟩
def Yg (G:(List QS)) (H:Int):Nat→List QS→Int→Option ((List QS))
 | 0,_,_=>none
 | k+1,E,B=>(if ((decide (B<(G.length:Int)))&&(decide (B≤H)))=true then (Option.bind (α:=List QS) (Option.bind (α:=Bool) (if (decide (B<H))=true then some (true) else (if 0≤B∧B<(G.length:Int) then some ((!((rd G B).Tomb))) else none)) (fun K=>(Option.bind (α:=List QS) (if K=true then (if 0≤B∧B<(G.length:Int) then (if E.length+([(rd G B)]:List QS).length≤3518437208883 then some ((E++([(rd G B)]:List QS))) else none) else none) else some (E)) (fun O=>some (O))))) (fun U=>Yg G H k U (IntKind.i64.wrap (B+(1:Int))))) else some (E))
theorem Yg.mono {B E}: ∀ {kl:Nat} {G H},OLe (Yg B E kl G H) (Yg B E (kl+1) G H):=by
 intro kl
 induction kl with
 | zero=>intros;exact OLe.none
 | succ kl ih =>
  intros
  rw [Yg.eq_2,Yg.eq_2];exact mo
def Xt (k:Nat) (E:(List QS)) (G:Int):Option ((List QS)) :=
 (Option.bind (XH k E G) (fun H=>(Option.bind (Yg E H k ([]:List QS) (0:Int)) (fun B=>some B))))
theorem Xt.mono {k B E}: OLe (Xt k B E) (Xt (k+1) B E):=by
 unfold Xt;have m1:=@Yg.mono;have m2:=@XH.mono;exact mo
theorem Xt.con {k M A0 c0} {O:(List QS)} {a1:Int} {r:(List QS)} (h:Xt k O a1=some r) (ai:SlR ZG M (.slice A0 O.length c0) O): Con Tryz.prog 109 #[.slice A0 O.length c0,vI a1] M [] (fun v M' b8=>∃ (A0:Option Addr) (c0:Nat),v=.slice A0 r.length c0∧b8=[Rw ZG 51 A0 c0 r]):=by
 refine cwA Tryz.func109 J Tryz.ntmps109 Tryz.results109 J h ?_;intro w F rn S c4 E HM H;unfold Xt at H;refine wsQ (waL J (wnQ (wsQ (wmL J (wmI J ?_)))));obtain ⟨t1,bg,H⟩:=QM H;refine Zb fn124 (XH.con bg ai) S J J flN (eE4 E ?_);rintro _ w3 _ b8 E S ⟨rfl,rfl⟩;refine waI J (wnQ (wsQ (waL J (wnQ (QJ (wsQ (waI J (wnQ ?_))))))));obtain ⟨aj,ao,ap⟩:=QM H;refine Zs (fun ρ w'=>∃ (a5:List QS) (a6:Option Addr) (a7:Nat),(a5)=aj∧QX ρ [(6,.slice a6 a5.length a7)]∧Ext w w'∧St w' M F [Rw ZG 51 a6 a7 a5]) ?_ ?_
 ·refine Y8 (fun n ρ w'=>∃ (U:List QS) (B:Int) (V:Option Addr) (W:Nat),Yg O t1 n U B=some aj∧QX ρ [(0,.slice A0 O.length c0),(5,vI t1),(6,.slice V U.length W),(7,vI B)]∧Ext w w'∧St w' M F [Rw ZG 51 V W U]) k ?_ ?_
  ·replace S:=S.row_nil ZG 51;exact ⟨([]:List QS),(0:Int),none,0,ao,agP J,E,S.pk [0]⟩
  ·intro n;rintro ρ b9 ⟨U,B,V,W,H,Y,E,S⟩;rw [QC Y]
   cases n with
   | zero=>cases H
   | succ k =>
    rw [Yg.eq_2] at H;refine QJ (wsQ (wmI J (wmL J (W_v _ (Qd (n:=O.length) Tryz.underlying54 J) J (wiB J J (wmB J ?_))))));refine Q7 4 (fun ρ w'=>QX ρ [(0,.slice A0 O.length c0),(5,vI t1),(6,.slice V U.length W),(7,vI B),(19,.bool ((decide (B<(O.length:Int)))&&(decide (B≤t1))))]∧b9=w') ?_ ?_
    ·rcases Qr (decide (B<(O.length:Int))) with K | K
     ·refine Qa (skT K) J (Qa (skT K) J (Qa (skT K) J (wqB K J (QH ?_))));exact ⟨⟨J,J,J,J,(flB K),trivial⟩,rfl⟩
     ·refine QL (cS K) (wmI J (QL (cS K) (wmI J (QL (cS K) (wiB J J (wpB K J (QH ?_)))))));exact ⟨⟨J,J,J,J,(flB K),trivial⟩,rfl⟩
    as_aux_lemma =>
    rintro ρ _ ⟨Y,rfl⟩;rw [QC Y];refine wnQ ?_;rcases Q0 H with ⟨a8,H⟩ | ⟨a8,H⟩
    ·refine QD (cB a8) ?_;refine QT (tn (QJ ?_));obtain ⟨ba,aq,ag⟩:=QM H;refine X3 (fun ρ w'=>∃ (Z:List QS) (a9:Option Addr) (aa:Nat),(Z)=ba∧QX ρ [(0,.slice A0 O.length c0),(5,vI t1),(6,.slice a9 Z.length aa),(7,vI B)]∧Ext w w'∧St w' M F [Rw ZG 51 a9 aa Z]) ?_ ?_
     ·as_aux_lemma =>
       clear ag;have H:=aq;refine Zg ?_;refine wsQ (wmI J (wmI J (wiB J J (wmB J ?_))));obtain ⟨bb,ar,au⟩:=QM H;refine Q7 7 (fun ρ w'=>∃ (af:Bool),(af)=bb∧QX ρ [(0,.slice A0 O.length c0),(5,vI t1),(6,.slice V U.length W),(7,vI B),(32,.bool af)]∧Ext w w'∧St w' M F [Rw ZG 51 V W U]) ?_ ?_
       ·have H:=ar;rcases Q0 H with ⟨G,H⟩ | ⟨G,H⟩
        ·refine Qa (skF G) J (Qa (skF G) J (Qa (skF G) J (Qa (skF G) J (Qa (skF G) J (Qa (skF G) J (wpB G J (QH ?_)))))));exact ⟨true,oi H,agP J,E,S.pk [0]⟩
        ·refine QL (cS G) (wmL J (QL (cS G) (wmI J (QL (cS G) ?_))));obtain ⟨⟨ak,al⟩,H⟩:=Z3 H;obtain ⟨bl,bm,bi,_,_,av,aw,ax,ay,az⟩:=SlW.at' ai ak al;obtain rfl:ax=_:=ay;refine W_v _ (QP Tryz.underlying54 ty51 (slA av) J ak al) J (QL (cS G) (wfA Tryz.underlying51 ty4 J (QL (cS G) (W_v _ (YU (S.frz aw) ty4 J (az 2 _ J)) J (QL (cS G) (W_v _ (X2 (b:=((rd O B).Tomb)) J) J (wqB G J (QH ?_))))))));exact ⟨(!((rd O B).Tomb)),oi H,agP J,E,S.pk [0]⟩
       as_aux_lemma =>
       rintro ρ bo ⟨af,rfl,Y,E,S⟩;rw [QC Y];have H:=au;refine wnQ ?_;obtain ⟨bc,b0,ah⟩:=QM H;refine X3 (fun ρ w'=>∃ (a2:List QS) (ab:Option Addr) (ac:Nat),(a2)=bc∧QX ρ [(0,.slice A0 O.length c0),(5,vI t1),(6,.slice ab a2.length ac),(7,vI B)]∧Ext w w'∧St w' M F [Rw ZG 51 ab ac a2]) ?_ ?_
       ·clear ah;have H:=b0;rcases Q0 H with ⟨ad,H⟩ | ⟨ad,H⟩
        ·refine QD (cB ad) ?_;refine QO (wmL J (wmL J (wmI J ?_)));obtain ⟨⟨am,an⟩,H⟩:=Z3 H;obtain ⟨bp,bq,bj,_,_,b1,b2,b3,b4,b5⟩:=SlW.at' ai am an;obtain rfl:b3=_:=b4;refine W_v _ (QP Tryz.underlying54 ty51 (slA b1) J am an) J (W_v (.agg (Z2 (rd O B))) (Qf (S.frz b2) ty51 J (X6 b5 0 J) J J) J ?_);refine Xm S (Z2 (rd O B)) Tryz.underlying54 ty51 J J cz18 (by as_aux_lemma=>kernel_rfl) (by as_aux_lemma=>kernel_rfl) J (eE2 E ?_);intro bt bu E S;replace S:=S.blk_row (r:=ZG) (l:=([(rd O B)]:List QS)) 0 J 1 (Nat.le_refl 1) J (Cells.cons (vs:=[vI ((rd O B).Writer),vI ((rd O B).TS),.bool ((rd O B).Tomb),vS ((rd O B).Value)]) (J) Cells.nil);obtain ⟨bv,H⟩:=Z3 H;obtain ⟨bh,b6,b7⟩:=Yt (P:=Tryz.prog) (ρ:=ZG) (l:=([(rd O B)]:List QS)) (S.row_read 0 J) (by decide);refine X5 S 1 J J J Tryz.underlying54 (.inl Tryz.underlying54) ty51 J (by decide) (by decide) b6 b7 J (by omega) J (eE2 E ?_);intro bw bz E S;obtain ⟨bd,be,rfl,_⟩:=(S.row_read 1 J).form;refine waL J (wnQ ?_);exact ⟨(U++([(rd O B)]:List QS)),bd,be,oi H,agP J,E,S.pk [1]⟩
        refine QA (cB ad) (QT (tn ?_));exact ⟨U,V,W,oi H,agP J,E,S.pk [0]⟩
       rintro ρ c1 ⟨a2,ab,ac,rfl,Y,E,S⟩;rw [QC Y];have H:=ah;refine bn (tn ?_);exact ⟨a2,ab,ac,oi H,agP J,E,S.pk [0]⟩
     rintro ρ c2 ⟨Z,a9,aa,rfl,Y,E,S⟩;rw [QC Y];have H:=ag;refine tn (QO (wmI J (wiI J J (waI J (wnQ ?_)))));exact ⟨k,Nat.lt_succ_self k,⟨Z,(IntKind.i64.wrap (B+(1:Int))),a9,aa,H,agP J,E,S.pk [0]⟩⟩
    refine QA (cB a8) ?_;refine Yn ?_;refine tx (tx (bsm (?_)));refine tn ?_;exact ⟨U,V,W,oi H,agP J,E,S.pk [0]⟩
 rintro ρ c3 ⟨a5,a6,a7,rfl,Y,E,S⟩;rw [QC Y];have H:=ap;refine tn ?_
 as_aux_lemma =>
 refine wsQ (wmL J (waL J (wnQ ?_)));refine QR ?_;obtain rfl:=oi H;exact ⟨_,_,_,rsA (vs:=[_]) J,HM,E,S.pk [0],⟨a6,a7,J,J⟩⟩
def XX (k:Nat) (B:Qb):Option ((Unit)⊕(QG)) :=
 (Option.bind (Z1 k B) (fun E=>(if (!E)=true then some (Sum.inl ()) else some (Sum.inr (⟨⟨B.Tasks,B.Active,B.Keys,B.Depth,B.TS,B.KeyLen,B.ValLen,B.Fan⟩,([]:List Qh),([]:List Qn),(0:Int),(0:Int)⟩:QG)))))
theorem XX.mono {k B}: OLe (XX k B) (XX (k+1) B):=by
 unfold XX;have m1:=@Z1.mono;exact mo
theorem XX.con {k M} {B:Qb} {r:(Unit)⊕(QG)} (h:XX k B=some r): Con Tryz.prog 64 #[.agg (QN B)] M [] (fun v M' G=>(Sum.elim (fun x=>v=.tuple cz21∧G=[]) (fun x=>∃ (O:Nat) (U:Option Addr) (V:Nat) (W:Option Addr) (Y:Nat),v=.tuple #[pt O 0,vI 0]∧G=[B48 O x U V W Y,Rw QE 167 U V x.T,Rw Qg 56 W Y x.L])) r):=by
 refine cwA Tryz.func64 J Tryz.ntmps64 Tryz.results64 J h ?_;intro w F rn S a4 E Z H;unfold XX at H;refine wsQ ?_;refine XS S (QN B) J J J (eE2 E ?_);intro b1 w2 E S;refine W_v (.pointer none) (YW J) J (waI J (wnQ (QJ (wsQ (W_v (.agg (QN B)) (Qf (S.blk 0 J) ty23 J (QI J) J J) J ?_)))));obtain ⟨t4,a1,H⟩:=QM H;refine Zb fn37 (Z1.con a1) S J J flN (eE4 E ?_);rintro _ w6 _ G E S ⟨rfl,rfl⟩;refine W_v _ (X2 (b:=t4) J) J (wnQ ?_);rcases Q0 H with ⟨K,H⟩ | ⟨K,H⟩
 ·refine QD (cB K) ?_;refine wsQ (W_v (.pointer none) (YW J) J (waI J (wnQ ?_)));refine QR ?_;refine tr (?_);obtain rfl:=oi H;exact ⟨_,_,_,rsA (vs:=[_,_]) J,Z,E,S.pk [],⟨J,J⟩⟩
 refine QA (cB K) (QT (tn (wsQ (W_v (.agg (QN B)) (Qf (S.blk 0 J) ty23 J (QI J) J J) J (W_v _ (xb2 [(0,8),(8,1),(9,1),(10,1),(11,1)] #[vI B.Tasks,vI B.Active,vI B.Keys,vI B.Depth,vI B.TS,vI B.KeyLen,vI B.ValLen,vI B.Fan,.slice none 0 0,.slice none 0 0,vI 0,vI 0] Tryz.underlying48 ty48 J) J ?_)))));refine XS S #[vI B.Tasks,vI B.Active,vI B.Keys,vI B.Depth,vI B.TS,vI B.KeyLen,vI B.ValLen,vI B.Fan,.slice none 0 0,.slice none 0 0,vI 0,vI 0] J J J (eE2 E ?_);intro b8 w9 E S;refine waP J (waI J (wnQ ?_));refine QR ?_;obtain rfl:=oi H;replace S:=S.row_nil QE 167;replace S:=S.row_nil Qg 56;exact ⟨_,_,_,rsA (vs:=[_,_]) J,Z,E,S.pk [2,1,0],⟨b8,none,0,none,0,J,J⟩⟩
def Zd (H:QG) (U:Qn):Nat→List Qn→Bool→Int→Option ((List Qn×Bool))
 | 0,_,_,_=>none
 | k+1,E,K,B=>(if (decide (B<(H.L.length:Int)))=true then (Option.bind (α:=List Qn×Bool) (if 0≤B∧B<(H.L.length:Int) then (Option.bind (YL k ((rd H.L B).Key) U.Key) (fun O=>(Option.bind (α:=List Qn×Bool) (if ((decide (O≥(0:Int)))&&(!K))=true then (if E.length+([U]:List Qn).length≤1599289640401 then some ((E++([U]:List Qn)),true) else none) else some (E,K)) (fun ⟨G,V⟩=>(Option.bind (α:=List Qn) (if (O != (0:Int))=true then (if 0≤B∧B<(H.L.length:Int) then (if G.length+([(rd H.L B)]:List Qn).length≤1599289640401 then some ((G++([(rd H.L B)]:List Qn))) else none) else none) else some (G)) (fun W=>some (W,V))))))) else none) (fun ⟨Y,Z⟩=>Zd H U k Y Z (IntKind.i64.wrap (B+(1:Int))))) else some (E,K))
theorem Zd.mono {B E}: ∀ {kl:Nat} {G H K},OLe (Zd B E kl G H K) (Zd B E (kl+1) G H K):=by
 intro kl
 induction kl with
 | zero=>intros;exact OLe.none
 | succ kl ih =>
  intros
  rw [Zd.eq_2,Zd.eq_2];have m1:=@YL.mono;exact mo
def Qs (k:Nat) (B:QG) (G:Qn):Option (QG) :=
 (Option.bind (Zd B G k ([]:List Qn) (((G.L.length:Int)==(0:Int))&&(!G.Has)) (0:Int)) (fun ⟨E,H⟩=>(Option.bind (α:=List Qn) (if (!H)=true then (if E.length+([G]:List Qn).length≤1599289640401 then some ((E++([G]:List Qn))) else none) else some (E)) (fun K=>some (⟨⟨B.C.Tasks,B.C.Active,B.C.Keys,B.C.Depth,B.C.TS,B.C.KeyLen,B.C.ValLen,B.C.Fan⟩,B.T,K,B.Time,B.Low⟩:QG)))))
theorem Qs.mono {k B E}: OLe (Qs k B E) (Qs (k+1) B E):=by
 unfold Qs;have m1:=@Zd.mono;exact mo
theorem Qs.con {k M A0_8 c0_8 A0_9 c0_9} {K:QG} {A1_0 c1_0} {B:Qn} {U} {r:QG} (h:Qs k K B=some r) (hr0_9:SlR Qg M (.slice A0_9 K.L.length c0_9) K.L) (hr1_0:SlR ZG M (.slice A1_0 B.L.length c1_0) B.L): Con Tryz.prog 107 #[pt U 0,.agg #[vS B.Key,.slice A1_0 B.L.length c1_0,.bool B.Has,vI B.I.Writer,vI B.I.TS,.bool B.I.Tomb,vS B.I.Value]] M [B48 U K A0_8 c0_8 A0_9 c0_9,Rw QE 167 A0_8 c0_8 K.T] (fun v M' cb=>∃ (cc:Option Addr) (cd:Nat) (ce:Option Addr) (cf:Nat),v=.tuple #[]∧cb=[B48 U r cc cd ce cf,Rw QE 167 cc cd r.T,Rw Qg 56 ce cf r.L]):=by
 refine cwA Tryz.func107 J Tryz.ntmps107 Tryz.results107 J h ?_;intro w F rn S dr E HM H;unfold Qs at H;refine wsQ ?_;refine XS S #[vS B.Key,.slice A1_0 B.L.length c1_0,.bool B.Has,vI B.I.Writer,vI B.I.TS,.bool B.I.Tomb,vS B.I.Value] J J J (eE2 E ?_);intro b1 w2 E S;refine wnQ (wsQ (waL J (wnQ (wsQ (wfA Tryz.underlying56 ty54 J (wlA S 0 ty54 J (W_v _ (Qd (n:=B.L.length) Tryz.underlying54 J) J (wiB J J (wmB J ?_)))))))));refine Q7 4 (fun ρ w'=>QX ρ [(0,pt U 0),(3,pt b1 0),(4,.slice none 0 0),(16,.bool (((B.L.length:Int)==(0:Int))&&(!B.Has)))]∧w2=w') ?_ ?_
 ·rcases Qr ((B.L.length:Int)==(0:Int)) with W | W
  ·refine Qa (skT W) J (Qa (skT W) J (Qa (skT W) J (wqB W J (QH ?_))));exact ⟨⟨J,J,J,(flB W),trivial⟩,rfl⟩
  ·refine QL (cS W) (wfA Tryz.underlying56 ty4 J (QL (cS W) (wlA S 0 ty4 J (QL (cS W) (W_v _ (X2 (b:=B.Has) J) J (wpB W J (QH ?_)))))));exact ⟨⟨J,J,J,(flB W),trivial⟩,rfl⟩
 as_aux_lemma =>
 rintro ρ _ ⟨V,rfl⟩;rw [QC V];refine waB J (wnQ (QJ (wsQ (waI J (wnQ ?_)))));obtain ⟨b3,b8,b9⟩:=QM H;refine Zs (fun ρ w'=>∃ (a2:List Qn) (ad:Bool) (ae:Option Addr) (af:Nat),(a2,ad)=b3∧QX ρ [(0,pt U 0),(3,pt b1 0),(4,.slice ae a2.length af),(5,.bool ad)]∧Ext w w'∧St w' M F [Rw Qg 56 ae af a2,B56 b1 B A1_0 c1_0,B48 U K A0_8 c0_8 A0_9 c0_9,Rw QE 167 A0_8 c0_8 K.T]) ?_ ?_
 ·refine Y8 (fun n ρ w'=>∃ (Y:List Qn) (Z:Bool) (G:Int) (aa:Option Addr) (ab:Nat),Zd K B n Y Z G=some b3∧QX ρ [(0,pt U 0),(3,pt b1 0),(4,.slice aa Y.length ab),(5,.bool Z),(6,vI G)]∧Ext w w'∧St w' M F [Rw Qg 56 aa ab Y,B56 b1 B A1_0 c1_0,B48 U K A0_8 c0_8 A0_9 c0_9,Rw QE 167 A0_8 c0_8 K.T]) k ?_ ?_
  ·replace S:=S.row_nil Qg 56;exact ⟨([]:List Qn),(((B.L.length:Int)==(0:Int))&&(!B.Has)),(0:Int),none,0,b8,agP J,E,S.pk [0,1,2,3]⟩
  ·intro n;rintro ρ cp ⟨Y,Z,G,aa,ab,H,V,E,S⟩;rw [QC V]
   cases n with
   | zero=>cases H
   | succ k =>
    rw [Zd.eq_2] at H;refine QJ (wsQ (wmI J (wmP J (W_v _ (QY J) J (wfA Tryz.underlying48 ty46 J (wlA S 2 ty46 J (W_v _ (Qd (n:=K.L.length) Tryz.underlying46 J) J (wiB J J (wnQ ?_)))))))));rcases Q0 H with ⟨ao,H⟩ | ⟨ao,H⟩
    ·refine QD (cB ao) ?_;refine QT (tn (QJ ?_));obtain ⟨c0,ba,ax⟩:=QM H;refine X3 (fun ρ w'=>∃ (a7:List Qn) (ag:Bool) (ah:Option Addr) (ai:Nat),(a7,ag)=c0∧QX ρ [(0,pt U 0),(3,pt b1 0),(4,.slice ah a7.length ai),(5,.bool ag),(6,vI G)]∧Ext w w'∧St w' M F [Rw Qg 56 ah ai a7,B56 b1 B A1_0 c1_0,B48 U K A0_8 c0_8 A0_9 c0_9,Rw QE 167 A0_8 c0_8 K.T]) ?_ ?_
     ·as_aux_lemma =>
       clear ax;have H:=ba;refine Zg ?_;refine QJ ?_;refine rgA S [0,1,2,3] [_,_,_,_] 12 mixed J (eE1 E ?_);intro cq E S D1;refine tz0 0 J D1 (xmP J) (tz0 1 J D1 (QY J) (tz0 2 J D1 (xfA Tryz.underlying48 ty46 J) (tz1 3 J D1 (fun w' h'=>xlA h' 2 ty46 J) (tz0 4 J D1 (xmI J) ?_))));obtain ⟨⟨b4,b5⟩,H⟩:=Z3 H;obtain ⟨cr,ct,cj,_,_,bc,bd,cm,be,bf⟩:=SlW.at' hr0_9 b4 b5;obtain ⟨cu,bg,rfl⟩:=be;obtain ⟨cv,cw,rfl,_⟩:=bg.form;refine tz0 5 J D1 (QP Tryz.underlying46 ty56 (slA bc) J b4 b5) (tz0 6 J D1 (xfA Tryz.underlying56 ty9 J) (tz1 7 J D1 (fun w' h'=>YU (XT h' bd) ty9 J (bf 0 _ J)) (tz0 8 J D1 (xfA Tryz.underlying56 ty9 J) (tz1 9 J D1 (fun w' h'=>xlA h' 1 ty9 J) ?_))));refine Wo 10 J ?_;obtain ⟨aj,bh,H⟩:=QM H;refine Zb fn108 (YL.con bh) S J J flN (eE4 E ?_);rintro _ c1 _ cb E S ⟨rfl,rfl⟩;refine QH (Ya ⟨.inr ⟨M,Hp.le_refl M,(S.pk [0,1,2,3])⟩,?_⟩);refine tz0 11 J (⟨M,Hp.le_refl M,(S.pk [0,1,2,3])⟩) (xaI J) ?_;refine Wz ?_;refine tn (QJ (wsQ (wmI J (wiB J J (wmB J ?_)))));refine Q7 3 (fun ρ w'=>QX ρ [(0,pt U 0),(3,pt b1 0),(4,.slice aa Y.length ab),(5,.bool Z),(6,vI G),(7,vI aj),(42,.bool ((decide (aj≥(0:Int)))&&(!Z)))]∧c1=w') ?_ ?_
       ·rcases Qr (decide (aj≥(0:Int))) with O | O
        ·refine Qa (skT O) J (Qa (skT O) J (wqB O J (QH ?_)));exact ⟨⟨J,J,J,J,J,J,(flB O),trivial⟩,rfl⟩
        ·refine QL (cS O) (wmB J (QL (cS O) (W_v _ (X2 (b:=Z) J) J (wpB O J (QH ?_)))));exact ⟨⟨J,J,J,J,J,J,(flB O),trivial⟩,rfl⟩
       as_aux_lemma =>
       rintro ρ _ ⟨V,rfl⟩;rw [QC V];refine wnQ ?_;obtain ⟨c2,bi,ay⟩:=QM H;refine X3 (fun ρ w'=>∃ (a3:List Qn) (a8:Bool) (ak:Option Addr) (al:Nat),(a3,a8)=c2∧QX ρ [(0,pt U 0),(3,pt b1 0),(4,.slice ak a3.length al),(5,.bool a8),(6,vI G),(7,vI aj)]∧Ext w w'∧St w' M F [Rw Qg 56 ak al a3,B56 b1 B A1_0 c1_0,B48 U K A0_8 c0_8 A0_9 c0_9,Rw QE 167 A0_8 c0_8 K.T]) ?_ ?_
       ·clear ay;have H:=bi;rcases Q0 H with ⟨ap,H⟩ | ⟨ap,H⟩
        ·refine QD (cB ap) ?_;refine wsQ (wmL J (W_v (.agg #[vS B.Key,.slice A1_0 B.L.length c1_0,.bool B.Has,vI B.I.Writer,vI B.I.TS,.bool B.I.Tomb,vS B.I.Value]) (Qf (S.blk 1 J) ty56 J (QI J) J J) J ?_));refine Xm S #[vS B.Key,.slice A1_0 B.L.length c1_0,.bool B.Has,vI B.I.Writer,vI B.I.TS,.bool B.I.Tomb,vS B.I.Value] Tryz.underlying46 ty56 J J cz4 (by as_aux_lemma=>kernel_rfl) (by as_aux_lemma=>kernel_rfl) J (eE2 E ?_);intro cx cy E S;replace S:=S.blk_row (r:=Qg) (l:=([B]:List Qn)) 0 J 1 (Nat.le_refl 1) J (Cells.cons (vs:=[vS B.Key,.slice A1_0 B.L.length c1_0,.bool B.Has,vI B.I.Writer,vI B.I.TS,.bool B.I.Tomb,vS B.I.Value]) (⟨_,hr1_0,J⟩) Cells.nil);obtain ⟨cz,H⟩:=Z3 H;obtain ⟨cg,bj,bk⟩:=Yt (P:=Tryz.prog) (ρ:=Qg) (l:=([B]:List Qn)) (S.row_read 0 J) (by decide);refine X5 S 1 J J J Tryz.underlying46 (.inl Tryz.underlying46) ty56 J (by decide) (by decide) bj bk J (by omega) J (eE2 E ?_);intro d0 d1 E S;obtain ⟨c3,c4,rfl,_⟩:=(S.row_read 1 J).form;refine waL J (wnQ (QO (waB J (wnQ ?_))));exact ⟨(Y++([B]:List Qn)),true,c3,c4,oi H,agP J,E,S.pk [1,2,3,4]⟩
        refine QA (cB ap) (QT (tn ?_));exact ⟨Y,Z,aa,ab,oi H,agP J,E,S.pk [0,1,2,3]⟩
       as_aux_lemma =>
       rintro ρ d2 ⟨a3,a8,ak,al,rfl,V,E,S⟩;rw [QC V];have H:=ay;refine tn (wsQ (wmI J (wiB J J (wnQ ?_))));obtain ⟨c5,bl,az⟩:=QM H;refine X3 (fun ρ w'=>∃ (a9:List Qn) (am:Option Addr) (an:Nat),(a9)=c5∧QX ρ [(0,pt U 0),(3,pt b1 0),(4,.slice am a9.length an),(5,.bool a8),(6,vI G)]∧Ext w w'∧St w' M F [Rw Qg 56 am an a9,B56 b1 B A1_0 c1_0,B48 U K A0_8 c0_8 A0_9 c0_9,Rw QE 167 A0_8 c0_8 K.T]) ?_ ?_
       ·clear az;have H:=bl;rcases Q0 H with ⟨aq,H⟩ | ⟨aq,H⟩
        ·refine QD (cB aq) ?_;refine QO (wmL J (wmP J (W_v _ (QY J) J (wfA Tryz.underlying48 ty46 J (wlA S 2 ty46 J (wmI J ?_))))));obtain ⟨⟨b6,b7⟩,H⟩:=Z3 H;obtain ⟨d3,d4,cn,_,_,bm,bo,co,bp,bq⟩:=SlW.at' hr0_9 b6 b7;obtain ⟨d5,b0,rfl⟩:=bp;obtain ⟨av,aw,rfl,_⟩:=b0.form;refine W_v _ (QP Tryz.underlying46 ty56 (slA bm) J b6 b7) J (W_v (.agg #[vS ((rd K.L G).Key),.slice av ((rd K.L G).L).length aw,.bool ((rd K.L G).Has),vI ((rd K.L G).I.Writer),vI ((rd K.L G).I.TS),.bool ((rd K.L G).I.Tomb),vS ((rd K.L G).I.Value)]) (Qf (S.frz bo) ty56 J (X6 bq 0 J) J J) J ?_);refine Xm S #[vS ((rd K.L G).Key),.slice av ((rd K.L G).L).length aw,.bool ((rd K.L G).Has),vI ((rd K.L G).I.Writer),vI ((rd K.L G).I.TS),.bool ((rd K.L G).I.Tomb),vS ((rd K.L G).I.Value)] Tryz.underlying46 ty56 J J cz4 (by as_aux_lemma=>kernel_rfl) (by as_aux_lemma=>kernel_rfl) J (eE2 E ?_);intro d6 d7 E S;replace S:=S.blk_row (r:=Qg) (l:=([(rd K.L G)]:List Qn)) 0 J 1 (Nat.le_refl 1) J (Cells.cons (vs:=[vS ((rd K.L G).Key),.slice av ((rd K.L G).L).length aw,.bool ((rd K.L G).Has),vI ((rd K.L G).I.Writer),vI ((rd K.L G).I.TS),.bool ((rd K.L G).I.Tomb),vS ((rd K.L G).I.Value)]) (⟨_,b0,J⟩) Cells.nil);obtain ⟨d8,H⟩:=Z3 H;obtain ⟨ch,bt,bu⟩:=Yt (P:=Tryz.prog) (ρ:=Qg) (l:=([(rd K.L G)]:List Qn)) (S.row_read 0 J) (by decide);refine X5 S 1 J J J Tryz.underlying46 (.inl Tryz.underlying46) ty56 J (by decide) (by decide) bt bu J (by omega) J (eE2 E ?_);intro d9 da E S;obtain ⟨c6,c7,rfl,_⟩:=(S.row_read 1 J).form;refine waL J (wnQ ?_);exact ⟨(a3++([(rd K.L G)]:List Qn)),c6,c7,oi H,agP J,E,S.pk [1,2,3,4]⟩
        refine QA (cB aq) (QT (tn ?_));exact ⟨a3,ak,al,oi H,agP J,E,S.pk [0,1,2,3]⟩
       rintro ρ db ⟨a9,am,an,rfl,V,E,S⟩;rw [QC V];have H:=az;refine bn (tn ?_);exact ⟨a9,a8,am,an,oi H,agP J,E,S.pk [0,1,2,3]⟩
     rintro ρ dc ⟨a7,ag,ah,ai,rfl,V,E,S⟩;rw [QC V];have H:=ax;refine tn (QO (wmI J (wiI J J (waI J (wnQ ?_)))));exact ⟨k,Nat.lt_succ_self k,⟨a7,ag,(IntKind.i64.wrap (G+(1:Int))),ah,ai,H,agP J,E,S.pk [0,1,2,3]⟩⟩
    refine QA (cB ao) ?_;refine Yn ?_;refine tx (tx (bsm (?_)));refine tn ?_;exact ⟨Y,Z,aa,ab,oi H,agP J,E,S.pk [0,1,2,3]⟩
 rintro ρ dd ⟨a2,ad,ae,af,rfl,V,E,S⟩;rw [QC V];have H:=b9;refine tn ?_
 as_aux_lemma =>
 refine QJ (wsQ (wmB J (W_v _ (X2 (b:=ad) J) J (wnQ ?_))));obtain ⟨c8,bv,b2⟩:=QM H;refine X3 (fun ρ w'=>∃ (a4:List Qn) (a5:Option Addr) (a6:Nat),(a4)=c8∧QX ρ [(0,pt U 0),(4,.slice a5 a4.length a6)]∧Ext w w'∧St w' M F [Rw Qg 56 a5 a6 a4,B48 U K A0_8 c0_8 A0_9 c0_9,Rw QE 167 A0_8 c0_8 K.T]) ?_ ?_
 ·clear b2;have H:=bv;rcases Q0 H with ⟨ar,H⟩ | ⟨ar,H⟩
  ·refine QD (cB ar) ?_;refine QO (wmL J (W_v (.agg #[vS B.Key,.slice A1_0 B.L.length c1_0,.bool B.Has,vI B.I.Writer,vI B.I.TS,.bool B.I.Tomb,vS B.I.Value]) (Qf (S.blk 1 J) ty56 J (QI J) J J) J ?_));refine Xm S #[vS B.Key,.slice A1_0 B.L.length c1_0,.bool B.Has,vI B.I.Writer,vI B.I.TS,.bool B.I.Tomb,vS B.I.Value] Tryz.underlying46 ty56 J J cz4 (by as_aux_lemma=>kernel_rfl) (by as_aux_lemma=>kernel_rfl) J (eE2 E ?_);intro de df E S;replace S:=S.blk_row (r:=Qg) (l:=([B]:List Qn)) 0 J 1 (Nat.le_refl 1) J (Cells.cons (vs:=[vS B.Key,.slice A1_0 B.L.length c1_0,.bool B.Has,vI B.I.Writer,vI B.I.TS,.bool B.I.Tomb,vS B.I.Value]) (⟨_,hr1_0,J⟩) Cells.nil);obtain ⟨dg,H⟩:=Z3 H;obtain ⟨ci,bw,bz⟩:=Yt (P:=Tryz.prog) (ρ:=Qg) (l:=([B]:List Qn)) (S.row_read 0 J) (by decide);refine X5 S 1 J J J Tryz.underlying46 (.inl Tryz.underlying46) ty56 J (by decide) (by decide) bw bz J (by omega) J (eE2 E ?_);intro dh dj E S;obtain ⟨c9,ca,rfl,_⟩:=(S.row_read 1 J).form;refine waL J (wnQ ?_);exact ⟨(a2++([B]:List Qn)),c9,ca,oi H,agP J,E,S.pk [1,3,4]⟩
  refine QA (cB ar) (QT (tn ?_));exact ⟨a2,ae,af,oi H,agP J,E,S.pk [0,2,3]⟩
 rintro ρ dk ⟨a4,a5,a6,rfl,V,E,S⟩;rw [QC V];have H:=b2;refine tn (QO (wmP J (wmL J (W_v _ (QY J) J (wfA Tryz.underlying48 ty46 J ?_)))));refine Qq S 1 J ty46 J J [.slice a5 a4.length a6] J J J #[vI K.C.Tasks,vI K.C.Active,vI K.C.Keys,vI K.C.Depth,vI K.C.TS,vI K.C.KeyLen,vI K.C.ValLen,vI K.C.Fan,.slice A0_8 K.T.length c0_8,.slice a5 a4.length a6,vI K.Time,vI K.Low] J J (eE1 E ?_);intro dm E S;refine QH ?_;obtain rfl:=oi H;exact ⟨_,_,_,rsA (vs:=[]) J,HM,E,S.pk [1,2,0],⟨A0_8,c0_8,a5,a6,J,J⟩⟩
def ZQ (E:QG) (H:Int) (K:Int):Nat→Int→Option ((Int×Int×Int)⊕(Unit))
 | 0,_=>none
 | k+1,B=>(if (decide (B<(E.T.length:Int)))=true then (if 0≤B∧B<(E.T.length:Int) then (Option.bind (α:=Bool) (if ((rd E.T B).Task==H)=true then (if 0≤B∧B<(E.T.length:Int) then some (((rd E.T B).N==K)) else none) else some (false)) (fun G=>(if G=true then (if 0≤B∧B<(E.T.length:Int) then (if 0≤B∧B<(E.T.length:Int) then some (.inl ((IntKind.i64.wrap (B+(1:Int))),(rd E.T B).State,(rd E.T B).Snapshot)) else none) else none) else ZQ E H K k (IntKind.i64.wrap (B+(1:Int)))))) else none) else some (.inr ()))
theorem ZQ.mono {B E G}: ∀ {kl:Nat} {H},OLe (ZQ B E G kl H) (ZQ B E G (kl+1) H):=by
 intro kl
 induction kl with
 | zero=>intros;exact OLe.none
 | succ kl ih =>
  intros
  rw [ZQ.eq_2,ZQ.eq_2];exact mo
def Za (k:Nat) (E:QG) (G:Int) (H:Int):Option (Int×Int×Int) :=
 (Option.bind (ZQ E G H k (0:Int)) (fun B=>Sum.elim (fun r'=>some r') (fun _=>some ((0:Int),(0:Int),(0:Int))) B))
theorem Za.mono {k B E G}: OLe (Za k B E G) (Za (k+1) B E G):=by
 unfold Za;have m1:=@ZQ.mono;exact mo
theorem Za.con {k M A0_8 c0_8 A0_9 c0_9} {K:QG} {a1:Int} {a2:Int} {U} {r:Int×Int×Int} (h:Za k K a1 a2=some r) (hr0_9:SlR Qg M (.slice A0_9 K.L.length c0_9) K.L): Con Tryz.prog 83 #[pt U 0,vI a1,vI a2] M [B48 U K A0_8 c0_8 A0_9 c0_9,Rw QE 167 A0_8 c0_8 K.T] (fun v M' az=>v=.tuple #[vI r.1,vU r.2.1,vI r.2.2]∧az=[B48 U K A0_8 c0_8 A0_9 c0_9,Rw QE 167 A0_8 c0_8 K.T]):=by
 refine cwA Tryz.func83 J Tryz.ntmps83 Tryz.results83 J h ?_;intro w F rn S bf E HM H;unfold Za at H;refine wsQ (waI J (waI J (waI J (wnQ (QJ (wsQ (waI J (wnQ ?_))))))));obtain ⟨ae,aj,a9⟩:=QM H;refine Zs (fun Y w'=>.inr ()=ae∧QX Y []∧Ext w w'∧St w' M F [B48 U K A0_8 c0_8 A0_9 c0_9,Rw QE 167 A0_8 c0_8 K.T]) ?_ ?_
 ·refine Y8 (fun n Y w'=>∃ (O:Int),ZQ K a1 a2 n O=some ae∧QX Y [(0,pt U 0),(1,vI a1),(2,vI a2),(9,vI O)]∧Ext w w'∧St w' M F [B48 U K A0_8 c0_8 A0_9 c0_9,Rw QE 167 A0_8 c0_8 K.T]) k ?_ ?_
  ·exact ⟨(0:Int),aj,agP J,E,S.pk [0,1]⟩
  ·intro n;rintro Y b3 ⟨O,H,Z,E,S⟩;rw [QC Z]
   cases n with
   | zero=>cases H
   | succ k =>
    rw [ZQ.eq_2] at H;refine QJ (wsQ (wmI J (wmP J (W_v _ (QY J) J (wfA Tryz.underlying48 ty45 J (wlA S 0 ty45 J (W_v _ (Qd (n:=K.T.length) Tryz.underlying45 J) J (wiB J J (wnQ ?_)))))))));rcases Q0 H with ⟨V,H⟩ | ⟨V,H⟩
    ·refine QD (cB V) ?_;refine QT (tn (QJ ?_));refine Zg ?_;refine wsQ (wmP J (W_v _ (QY J) J (wfA Tryz.underlying48 ty45 J (wlA S 0 ty45 J (wmI J ?_)))));obtain ⟨⟨af,ag⟩,H⟩:=Z3 H;obtain ⟨b4,b5,b1,_,_,ak,al,am,an,ao⟩:=SlW.at' (S.row_read 1 J) af ag;obtain rfl:am=_:=an;refine W_v _ (QP Tryz.underlying45 ty167 (slA ak) J af ag) J (wfA Tryz.underlying167 ty3 J (W_v _ (YU (Hp.of_get al) ty3 J (ao 0 _ J)) J (wmI J (wiB J J (wmB J ?_)))));obtain ⟨ay,ap,aq⟩:=QM H;refine Q7 11 (fun Y w'=>∃ (a3:Bool),(a3)=ay∧QX Y [(0,pt U 0),(1,vI a1),(2,vI a2),(9,vI O),(40,.bool a3)]∧Ext w w'∧St w' M F [B48 U K A0_8 c0_8 A0_9 c0_9,Rw QE 167 A0_8 c0_8 K.T]) ?_ ?_
     ·as_aux_lemma =>
       have H:=ap;rcases Q0 H with ⟨B,H⟩ | ⟨B,H⟩
       ·refine QL (cS B) (wmP J (QL (cS B) (W_v _ (QY J) J (QL (cS B) (wfA Tryz.underlying48 ty45 J (QL (cS B) (wlA S 0 ty45 J (QL (cS B) (wmI J (QL (cS B) ?_))))))))));obtain ⟨⟨ah,ai⟩,H⟩:=Z3 H;obtain ⟨b6,b7,b2,_,_,ar,au,av,aw,ax⟩:=SlW.at' (S.row_read 1 J) ah ai;obtain rfl:av=_:=aw;refine W_v _ (QP Tryz.underlying45 ty167 (slA ar) J ah ai) J (QL (cS B) (wfA Tryz.underlying167 ty3 J (QL (cS B) (W_v _ (YU (Hp.of_get au) ty3 J (ax 1 _ J)) J (QL (cS B) (wmI J (QL (cS B) (wiB J J (wpB B J (QH ?_))))))))));exact ⟨((rd K.T O).N==a2),oi H,agP J,E,S.pk [0,1]⟩
       ·refine Qa (skT B) J (Qa (skT B) J (Qa (skT B) J (Qa (skT B) J (Qa (skT B) J (Qa (skT B) J (Qa (skT B) J (Qa (skT B) J (Qa (skT B) J (Qa (skT B) J (wqB B J (QH ?_)))))))))));exact ⟨false,oi H,agP J,E,S.pk [0,1]⟩
     as_aux_lemma =>
     rintro Y b8 ⟨a3,rfl,Z,E,S⟩;rw [QC Z];have H:=aq;refine wnQ ?_;rcases Q0 H with ⟨W,H⟩ | ⟨W,H⟩
     ·refine QD (cB W) ?_;refine QJ ?_;refine rgA S [0,1] [_,_] 21 mixed J (eE1 E ?_);intro b9 E S G;refine tz0 0 J G (xmI J) (tz0 1 J G (xiI J J) (tz0 2 J G (xmP J) (tz0 3 J G (QY J) (tz0 4 J G (xfA Tryz.underlying48 ty45 J) (tz1 5 J G (fun w' h'=>xlA h' 0 ty45 J) (tz0 6 J G (xmI J) ?_))))));obtain ⟨⟨a5,a6⟩,H⟩:=Z3 H;obtain ⟨ba,bb,_,_,_,aa,_⟩:=SlW.at' (S.row_read 1 J) a5 a6;refine tz0 7 J G (QP Tryz.underlying45 ty167 (slA aa) J a5 a6) (tz0 8 J G (xfA Tryz.underlying167 ty5 J) (Wt 9 J J J (vU ((rd K.T O).State)) J (fun w' h'=>VP h' 1 J aa a5 a6 2 (by rintro _ _ rfl;rfl) ty5 J) G (tz0 10 J G (xmP J) (tz0 11 J G (QY J) (tz0 12 J G (xfA Tryz.underlying48 ty45 J) (tz1 13 J G (fun w' h'=>xlA h' 0 ty45 J) (tz0 14 J G (xmI J) ?_)))))));obtain ⟨⟨a7,a8⟩,H⟩:=Z3 H;obtain ⟨bc,bd,_,_,_,ab,_⟩:=SlW.at' (S.row_read 1 J) a7 a8;refine tz0 15 J G (QP Tryz.underlying45 ty167 (slA ab) J a7 a8) (tz0 16 J G (xfA Tryz.underlying167 ty3 J) (Wt 17 J J J (vI ((rd K.T O).Snapshot)) J (fun w' h'=>VP h' 1 J ab a7 a8 3 (by rintro _ _ rfl;rfl) ty3 J) G (tz0 18 J G (xaI J) (tz0 19 J G (xaI J) (tz0 20 J G (xaI J) ?_)))));refine Wz ?_;refine tn ?_;refine QR ?_;refine br (tr (tr (br (tr (tr (?_))))));obtain rfl:=oi H;have H:=a9;replace H:=elimL H;obtain rfl:=oi H;exact ⟨_,_,_,rsA (vs:=[_,_,_]) J,HM,E,S.pk [0,1],⟨J,J⟩⟩
     refine QA (cB W) (QT (bn (tn (QO (wmI J (wiI J J (waI J (wnQ ?_))))))));exact ⟨k,Nat.lt_succ_self k,⟨(IntKind.i64.wrap (O+(1:Int))),H,agP J,E,S.pk [0,1]⟩⟩
    refine QA (cB V) ?_;refine Yn ?_;refine tx (tx (bsm (?_)));refine tn ?_;exact ⟨oi H,trivial,E,S.pk [0,1]⟩
 rintro Y be ⟨rfl,Z,E,S⟩;rw [QC Z];have H:=a9;replace H:=elimR H;refine tn ?_
 as_aux_lemma =>
 refine wsQ (waI J (waI J (waI J (wnQ ?_))));refine QR ?_;obtain rfl:=oi H;exact ⟨_,_,_,rsA (vs:=[_,_,_]) J,HM,E,S.pk [0,1],⟨J,J⟩⟩
def Zi (k:Nat) (E:QG) (H:Int) (B:QZ):Option (Int) :=
 (if (((((decide (H<(0:Int)))||(decide (H≥E.C.Tasks)))||(decide (B.Kind<(1:Int))))||(decide (B.Kind>(9:Int))))||(((B.Kind==(9:Int))&&(B.Engine != (1:Int)))&&(B.Engine != (2:Int))))=true then some (1:Int) else (if (((B.Kind==(1:Int))||(B.Kind==(8:Int)))||(B.Kind==(9:Int)))=true then some (0:Int) else (Option.bind (Za k E H B.Tx) (fun G=>(if (G.2.1==(0:Int))=true then some (30:Int) else (if (G.2.1 != (1:Int))=true then some (31:Int) else (Option.bind (α:=Bool) (if (((B.Kind==(2:Int))||(B.Kind==(3:Int)))||(B.Kind==(4:Int)))=true then (Option.bind (Xz k E.C B.Key) (fun W=>some ((!W)))) else some (false)) (fun Y=>(Option.bind (α:=Bool) (if Y=true then some (true) else (Option.bind (α:=Bool) (if (B.Kind==(3:Int))=true then (Option.bind (Xf k E.C B.Value) (fun Z=>some ((!Z)))) else some (false)) (fun a3=>some (a3)))) (fun a4=>(if a4=true then some (32:Int) else (Option.bind (α:=Bool) (if (B.Kind==(5:Int))=true then (Option.bind (XL k E.C B.Key) (fun K=>(Option.bind (α:=Bool) (if (!K)=true then some (true) else (Option.bind (XL k E.C B.End) (fun O=>some ((!O))))) (fun U=>some (((U||(decide (B.Limit<(0:Int))))||(decide (B.Limit>(128:Int))))))))) else some (false)) (fun V=>(if V=true then some (32:Int) else some (0:Int)))))))))))))))
theorem Zi.mono {k B E G}: OLe (Zi k B E G) (Zi (k+1) B E G):=by
 unfold Zi;have m1:=@XL.mono;have m2:=@Xz.mono;have m3:=@Xf.mono;have m4:=@Za.mono;exact mo
theorem Zi.con {k M A0_8 c0_8 A0_9 c0_9} {a0:QG} {a1:Int} {K:QZ} {a4} {r:Int} (h:Zi k a0 a1 K=some r) (hr0_9:SlR Qg M (.slice A0_9 a0.L.length c0_9) a0.L): Con Tryz.prog 82 #[pt a4 0,vI a1,.agg (ZJ K)] M [B48 a4 a0 A0_8 c0_8 A0_9 c0_9,Rw QE 167 A0_8 c0_8 a0.T] (fun v M' ar=>v=vI r∧ar=[B48 a4 a0 A0_8 c0_8 A0_9 c0_9,Rw QE 167 A0_8 c0_8 a0.T]):=by
 refine cwA Tryz.func82 J Tryz.ntmps82 Tryz.results82 J h ?_;intro w F rn S cd E HM H;unfold Zi at H;refine wsQ ?_;refine XS S (ZJ K) J J J (eE2 E ?_);intro b1 w2 E S;refine waI J (wnQ (QJ (wsQ (wmI J (wiB J J (wmB J ?_))))));refine Q7 8 (fun U w'=>QX U [(0,pt a4 0),(1,vI a1),(5,pt b1 0),(21,.bool ((decide (a1<(0:Int)))||(decide (a1≥a0.C.Tasks))))]∧w2=w') ?_ ?_
 ·rcases Qr (decide (a1<(0:Int))) with a7 | a7
  ·refine QL (cS a7) (wmI J (QL (cS a7) (wmP J (QL (cS a7) (W_v _ (QY J) J (QL (cS a7) (wfA Tryz.underlying48 ty23 J (QL (cS a7) (wfA Tryz.underlying23 ty3 J (QL (cS a7) (wlA S 1 ty3 J (QL (cS a7) (wiB J J (wqB a7 J (QH ?_)))))))))))))));exact ⟨⟨J,J,J,(flB a7),trivial⟩,rfl⟩
  ·refine Qa (skF a7) J (Qa (skF a7) J (Qa (skF a7) J (Qa (skF a7) J (Qa (skF a7) J (Qa (skF a7) J (Qa (skF a7) J (wpB a7 J (QH ?_))))))));exact ⟨⟨J,J,J,(flB a7),trivial⟩,rfl⟩
 as_aux_lemma =>
 rintro U _ ⟨V,rfl⟩;rw [QC V];refine wmB J ?_;refine Q7 4 (fun U w'=>QX U [(0,pt a4 0),(1,vI a1),(5,pt b1 0),(26,.bool (((decide (a1<(0:Int)))||(decide (a1≥a0.C.Tasks)))||(decide (K.Kind<(1:Int)))))]∧w2=w') ?_ ?_
 ·rcases Qr ((decide (a1<(0:Int)))||(decide (a1≥a0.C.Tasks))) with am | am
  ·refine QL (cS am) (wfA Tryz.underlying69 ty5 J (QL (cS am) (wlA S 0 ty5 J (QL (cS am) (wiB J J (wqB am J (QH ?_)))))));exact ⟨⟨J,J,J,(flB am),trivial⟩,rfl⟩
  ·refine Qa (skF am) J (Qa (skF am) J (Qa (skF am) J (wpB am J (QH ?_))));exact ⟨⟨J,J,J,(flB am),trivial⟩,rfl⟩
 as_aux_lemma =>
 rintro U _ ⟨V,rfl⟩;rw [QC V];refine wmB J ?_;refine Q7 4 (fun U w'=>QX U [(0,pt a4 0),(1,vI a1),(5,pt b1 0),(31,.bool ((((decide (a1<(0:Int)))||(decide (a1≥a0.C.Tasks)))||(decide (K.Kind<(1:Int))))||(decide (K.Kind>(9:Int)))))]∧w2=w') ?_ ?_
 ·rcases Qr (((decide (a1<(0:Int)))||(decide (a1≥a0.C.Tasks)))||(decide (K.Kind<(1:Int)))) with an | an
  ·refine QL (cS an) (wfA Tryz.underlying69 ty5 J (QL (cS an) (wlA S 0 ty5 J (QL (cS an) (wiB J J (wqB an J (QH ?_)))))));exact ⟨⟨J,J,J,(flB an),trivial⟩,rfl⟩
  ·refine Qa (skF an) J (Qa (skF an) J (Qa (skF an) J (wpB an J (QH ?_))));exact ⟨⟨J,J,J,(flB an),trivial⟩,rfl⟩
 as_aux_lemma =>
 rintro U _ ⟨V,rfl⟩;rw [QC V];refine wmB J ?_;refine Q7 14 (fun U w'=>QX U [(0,pt a4 0),(1,vI a1),(5,pt b1 0),(46,.bool (((((decide (a1<(0:Int)))||(decide (a1≥a0.C.Tasks)))||(decide (K.Kind<(1:Int))))||(decide (K.Kind>(9:Int))))||(((K.Kind==(9:Int))&&(K.Engine != (1:Int)))&&(K.Engine != (2:Int)))))]∧w2=w') ?_ ?_
 ·as_aux_lemma =>
   rcases Qr ((((decide (a1<(0:Int)))||(decide (a1≥a0.C.Tasks)))||(decide (K.Kind<(1:Int))))||(decide (K.Kind>(9:Int)))) with Y | Y
   ·refine QL (cS Y) (wfA Tryz.underlying69 ty5 J (QL (cS Y) (wlA S 0 ty5 J (QL (cS Y) (wiB J J (QL (cS Y) (wmB J ?_)))))));refine Q7 4 (fun U w'=>QX U [(0,pt a4 0),(1,vI a1),(5,pt b1 0),(32,.bool ((((decide (a1<(0:Int)))||(decide (a1≥a0.C.Tasks)))||(decide (K.Kind<(1:Int))))||(decide (K.Kind>(9:Int))))),(40,.bool ((K.Kind==(9:Int))&&(K.Engine != (1:Int))))]∧w2=w') ?_ ?_
    ·rcases Qr (K.Kind==(9:Int)) with ad | ad
     ·refine Qa (skT ad) J (Qa (skT ad) J (Qa (skT ad) J (QL (cS Y) (wqB ad J (QH ?_)))));exact ⟨⟨J,J,J,J,(flB ad),trivial⟩,rfl⟩
     ·refine QL (cS ad) (wfA Tryz.underlying69 ty5 J (QL (cS ad) (wlA S 0 ty5 J (QL (cS ad) (wiB J J (QL (cS Y) (wpB ad J (QH ?_))))))));exact ⟨⟨J,J,J,J,(flB ad),trivial⟩,rfl⟩
    rintro U _ ⟨V,rfl⟩;rw [QC V];refine QL (cS Y) (wmB J ?_);refine Q7 4 (fun U w'=>QX U [(0,pt a4 0),(1,vI a1),(5,pt b1 0),(32,.bool ((((decide (a1<(0:Int)))||(decide (a1≥a0.C.Tasks)))||(decide (K.Kind<(1:Int))))||(decide (K.Kind>(9:Int))))),(45,.bool (((K.Kind==(9:Int))&&(K.Engine != (1:Int)))&&(K.Engine != (2:Int))))]∧w2=w') ?_ ?_
    ·rcases Qr ((K.Kind==(9:Int))&&(K.Engine != (1:Int))) with ae | ae
     ·refine Qa (skT ae) J (Qa (skT ae) J (Qa (skT ae) J (QL (cS Y) (wqB ae J (QH ?_)))));exact ⟨⟨J,J,J,J,(flB ae),trivial⟩,rfl⟩
     ·refine QL (cS ae) (wfA Tryz.underlying69 ty5 J (QL (cS ae) (wlA S 0 ty5 J (QL (cS ae) (wiB J J (QL (cS Y) (wpB ae J (QH ?_))))))));exact ⟨⟨J,J,J,J,(flB ae),trivial⟩,rfl⟩
    rintro U _ ⟨V,rfl⟩;rw [QC V];refine wqB Y J (QH ?_);exact ⟨⟨J,J,J,(flB Y),trivial⟩,rfl⟩
   ·refine Qa (skF Y) J (Qa (skF Y) J (Qa (skF Y) J (Qa (skF Y) J (Qa (J) J (Qa (J) J (Qa (J) J (Qa (skF Y) J (Qa (skF Y) J (Qa (J) J (Qa (J) J (Qa (J) J (Qa (skF Y) J (wpB Y J (QH ?_))))))))))))));exact ⟨⟨J,J,J,(flB Y),trivial⟩,rfl⟩
 as_aux_lemma =>
 rintro U _ ⟨V,rfl⟩;rw [QC V];refine wnQ ?_;rcases Q0 H with ⟨ax,H⟩ | ⟨ax,H⟩
 ·refine QD (cB ax) ?_;refine wsQ (waI J (wnQ ?_));refine QR ?_;refine tr (?_);obtain rfl:=oi H;exact ⟨_,_,_,rsA (vs:=[_]) J,HM,E,S.pk [1,2],⟨J,J⟩⟩
 refine QA (cB ax) (QT (tn (QJ (wsQ (wfA Tryz.underlying69 ty5 J (wlA S 0 ty5 J (wiB J J (wmB J ?_))))))));refine Q7 4 (fun U w'=>QX U [(0,pt a4 0),(1,vI a1),(5,pt b1 0),(54,.bool ((K.Kind==(1:Int))||(K.Kind==(8:Int))))]∧w2=w') ?_ ?_
 ·rcases Qr (K.Kind==(1:Int)) with af | af
  ·refine QL (cS af) (wfA Tryz.underlying69 ty5 J (QL (cS af) (wlA S 0 ty5 J (QL (cS af) (wiB J J (wqB af J (QH ?_)))))));exact ⟨⟨J,J,J,(flB af),trivial⟩,rfl⟩
  ·refine Qa (skF af) J (Qa (skF af) J (Qa (skF af) J (wpB af J (QH ?_))));exact ⟨⟨J,J,J,(flB af),trivial⟩,rfl⟩
 as_aux_lemma =>
 rintro U _ ⟨V,rfl⟩;rw [QC V];refine wmB J ?_;refine Q7 4 (fun U w'=>QX U [(0,pt a4 0),(1,vI a1),(5,pt b1 0),(59,.bool (((K.Kind==(1:Int))||(K.Kind==(8:Int)))||(K.Kind==(9:Int))))]∧w2=w') ?_ ?_
 ·rcases Qr ((K.Kind==(1:Int))||(K.Kind==(8:Int))) with ag | ag
  ·refine QL (cS ag) (wfA Tryz.underlying69 ty5 J (QL (cS ag) (wlA S 0 ty5 J (QL (cS ag) (wiB J J (wqB ag J (QH ?_)))))));exact ⟨⟨J,J,J,(flB ag),trivial⟩,rfl⟩
  ·refine Qa (skF ag) J (Qa (skF ag) J (Qa (skF ag) J (wpB ag J (QH ?_))));exact ⟨⟨J,J,J,(flB ag),trivial⟩,rfl⟩
 as_aux_lemma =>
 rintro U _ ⟨V,rfl⟩;rw [QC V];refine wnQ ?_;rcases Q0 H with ⟨ay,H⟩ | ⟨ay,H⟩
 ·refine QD (cB ay) ?_;refine wsQ (waI J (wnQ ?_));refine QR ?_;refine tr (?_);obtain rfl:=oi H;exact ⟨_,_,_,rsA (vs:=[_]) J,HM,E,S.pk [1,2],⟨J,J⟩⟩
 refine QA (cB ay) (QT (tn (wsQ (wmP J (wmI J (wfA Tryz.underlying69 ty3 J (wlA S 0 ty3 J ?_)))))));obtain ⟨ce,bo,H⟩:=QM H;replace S:St w2 M F [_,_,_]:=S.pk [1,2,0];refine YZ fn83 (Za.con bo hr0_9) (Γ1:=[_,_]) (Γ2:=[_]) S J J (by rintro _ _ _ ⟨rfl,rfl⟩;exact (QK ZK (QK (YY (fun _ _ _ _ h=>h)) Z9))) (eE4 E ?_);rintro _ ba _ ar E S ⟨rfl,rfl⟩;replace S:St ba M F [_,_,_]:=S;refine wmT J (W_v _ (QW J J) J (W_v _ (QW J J) J (W_v _ (QW J J) J (waI J (waI J (waI J (wnQ (QJ (wsQ (wmI J (wiB J J (wnQ ?_))))))))))));rcases Q0 H with ⟨az,H⟩ | ⟨az,H⟩
 ·refine QD (cB az) ?_;refine wsQ (waI J (wnQ ?_));refine QR ?_;refine tr (?_);obtain rfl:=oi H;exact ⟨_,_,_,rsA (vs:=[_]) J,HM,E,S.pk [0,1],⟨J,J⟩⟩
 refine QA (cB az) (QT (tn ?_))
 as_aux_lemma =>
 refine QJ (wsQ (wmI J (wiB J J (wnQ ?_))));rcases Q0 H with ⟨b0,H⟩ | ⟨b0,H⟩
 ·refine QD (cB b0) ?_;refine wsQ (waI J (wnQ ?_));refine QR ?_;refine tr (?_);obtain rfl:=oi H;exact ⟨_,_,_,rsA (vs:=[_]) J,HM,E,S.pk [0,1],⟨J,J⟩⟩
 refine QA (cB b0) (QT (tn (wsQ (wfA Tryz.underlying69 ty5 J (wlA S 2 ty5 J (wiB J J (wmB J ?_)))))));refine Q7 4 (fun U w'=>QX U [(0,pt a4 0),(5,pt b1 0),(80,.bool ((K.Kind==(2:Int))||(K.Kind==(3:Int))))]∧ba=w') ?_ ?_
 ·rcases Qr (K.Kind==(2:Int)) with ah | ah
  ·refine QL (cS ah) (wfA Tryz.underlying69 ty5 J (QL (cS ah) (wlA S 2 ty5 J (QL (cS ah) (wiB J J (wqB ah J (QH ?_)))))));exact ⟨⟨J,J,(flB ah),trivial⟩,rfl⟩
  ·refine Qa (skF ah) J (Qa (skF ah) J (Qa (skF ah) J (wpB ah J (QH ?_))));exact ⟨⟨J,J,(flB ah),trivial⟩,rfl⟩
 as_aux_lemma =>
 rintro U _ ⟨V,rfl⟩;rw [QC V];refine wmB J ?_;refine Q7 4 (fun U w'=>QX U [(0,pt a4 0),(5,pt b1 0),(85,.bool (((K.Kind==(2:Int))||(K.Kind==(3:Int)))||(K.Kind==(4:Int))))]∧ba=w') ?_ ?_
 ·rcases Qr ((K.Kind==(2:Int))||(K.Kind==(3:Int))) with ai | ai
  ·refine QL (cS ai) (wfA Tryz.underlying69 ty5 J (QL (cS ai) (wlA S 2 ty5 J (QL (cS ai) (wiB J J (wqB ai J (QH ?_)))))));exact ⟨⟨J,J,(flB ai),trivial⟩,rfl⟩
  ·refine Qa (skF ai) J (Qa (skF ai) J (Qa (skF ai) J (wpB ai J (QH ?_))));exact ⟨⟨J,J,(flB ai),trivial⟩,rfl⟩
 as_aux_lemma =>
 rintro U _ ⟨V,rfl⟩;rw [QC V];refine waB J (wnQ (QJ (QJ ?_)));refine rgA S [0,1,2] [_,_,_] 26 mixed J (eE1 E ?_);intro cf E S D1;refine tz0 0 J D1 (xmB J) (tz0 1 J D1 (xmB J) ?_);obtain ⟨c4,bp,bq⟩:=QM H;refine YV (fun U w'=>∃ (b4:Bool),(b4)=c4∧QX U [(0,pt a4 0),(5,pt b1 0),(96,.bool b4)]∧Ext w w'∧St w' M F [B48 a4 a0 A0_8 c0_8 A0_9 c0_9,Rw QE 167 A0_8 c0_8 a0.T,B69 b1 K]) 15 (Ls 26 [0,1,2,3,4,5,6,7,8,9,10]) ?_ ?_;rotate_left
 ·intro O;have H:=bp;rcases Q0 H with ⟨Z,H⟩ | ⟨Z,H⟩
  ·refine tz2 2 J (cS Z) D1 (xmP J) (tz2 3 J (cS Z) D1 (QY J) (tz2 4 J (cS Z) D1 (xfA Tryz.underlying48 ty23 J) (WtY 5 J J J (.agg (QN a0.C)) J (cS Z) (fun w' h'=>Qf (Yq h' 0 J) ty23 J (QI J) J J) D1 (tz2 6 J (cS Z) D1 (xfA Tryz.underlying69 ty9 J) (tz3 7 J (cS Z) D1 (fun w' h'=>xlA h' 2 ty9 J) ?_)))));refine Wo 8 J ?_;refine QL (cS Z) ?_;obtain ⟨bk,bt,H⟩:=QM H;refine Zb fn102 (Xz.con bt) S J J flN (eE4 E ?_);rintro _ cg _ ar E S ⟨rfl,rfl⟩;refine QH (Ya ⟨.inr ⟨M,Hp.le_refl M,(S.pk [0,1,2])⟩,?_⟩);have D3:∃ Mx,Hp.le M Mx∧St _ Mx F [_,_,_]:=⟨_,Hp.le_refl _,S.pk [0,1,2]⟩;refine tz2 9 J (cS Z) D3 (X2 (b:=bk) J) (tz0 10 J D3 (xpB Z J) ?_);exact O _ _ ⟨(!bk),oi H,agP J,E,S.pk [0,1,2]⟩
  ·refine tz4 2 J (skT Z) D1 (tz4 3 J (skT Z) D1 (tz4 4 J (skT Z) D1 (tz4 5 J (skT Z) D1 (tz4 6 J (skT Z) D1 (tz4 7 J (skT Z) D1 (tz4 8 J (skT Z) D1 (tz4 9 J (skT Z) D1 (tz0 10 J D1 (xqB Z J) ?_))))))));exact O _ _ ⟨false,oi H,agP J,E,S.pk [0,1,2]⟩
 rintro U ch ⟨b4,rfl,V,E,S⟩;rw [QC V];have H:=bq;refine tz0 11 J (⟨M,Hp.le_refl M,(S.pk [0,1,2])⟩) (xmB J) ?_;obtain ⟨c6,bu,bv⟩:=QM H;refine YV (fun U w'=>∃ (bb:Bool),(bb)=c6∧QX U [(0,pt a4 0),(5,pt b1 0),(111,.bool bb)]∧Ext w w'∧St w' M F [B48 a4 a0 A0_8 c0_8 A0_9 c0_9,Rw QE 167 A0_8 c0_8 a0.T,B69 b1 K]) 0 (Ls 26 [0,1,2,3,4,5,6,7,8,9,10,11,12,13,14,15,16,17,18,19,20,21,22,23,24,25]) ?_ ?_;rotate_left
 ·intro O;have H:=bu;rcases Q0 H with ⟨a9,H⟩ | ⟨a9,H⟩
  ·have D6:∃ Mx,Hp.le M Mx∧St _ Mx F [_,_,_]:=⟨_,Hp.le_refl _,S.pk [0,1,2]⟩;refine tz4 12 J (skF a9) D6 (tz4 13 J (skF a9) D6 (tz4 14 J (skF a9) D6 (tz4 15 J (skF a9) D6 (tz4 16 J (J) D6 (tz4 17 J (J) D6 (tz4 18 J (J) D6 (tz4 19 J (J) D6 (tz4 20 J (J) D6 (tz4 21 J (J) D6 (tz4 22 J (J) D6 (tz4 23 J (J) D6 (tz4 24 J (skF a9) D6 (tz0 25 J D6 (xpB a9 J) ?_)))))))))))));exact O _ _ ⟨true,oi H,agP J,E,S.pk [0,1,2]⟩
  ·have D7:∃ Mx,Hp.le M Mx∧St _ Mx F [_,_,_]:=⟨_,Hp.le_refl _,S.pk [0,1,2]⟩;refine tz2 12 J (cS a9) D7 (xfA Tryz.underlying69 ty5 J) (tz3 13 J (cS a9) D7 (fun w' h'=>xlA h' 2 ty5 J) (tz2 14 J (cS a9) D7 (xiB J J) (tz2 15 J (cS a9) D7 (xmB J) ?_)));obtain ⟨c7,bw,bz⟩:=QM H;refine YV (fun U w'=>∃ (b5:Bool),(b5)=c7∧QX U [(0,pt a4 0),(5,pt b1 0),(97,.bool b4),(110,.bool b5)]∧Ext w w'∧St w' M F [B48 a4 a0 A0_8 c0_8 A0_9 c0_9,Rw QE 167 A0_8 c0_8 a0.T,B69 b1 K]) 1 (Ls 26 [0,1,2,3,4,5,6,7,8,9,10,11,12,13,14,15,16,17,18,19,20,21,22,23,24]) ?_ ?_;rotate_left
   ·intro O;have H:=bw;rcases Q0 H with ⟨a3,H⟩ | ⟨a3,H⟩
    ·refine tz2 16 J (cS a3) D7 (xmP J) (tz2 17 J (cS a3) D7 (QY J) (tz2 18 J (cS a3) D7 (xfA Tryz.underlying48 ty23 J) (WtY 19 J J J (.agg (QN a0.C)) J (cS a3) (fun w' h'=>Qf (Yq h' 0 J) ty23 J (QI J) J J) D7 (tz2 20 J (cS a3) D7 (xfA Tryz.underlying69 ty9 J) (tz3 21 J (cS a3) D7 (fun w' h'=>xlA h' 2 ty9 J) ?_)))));refine Wo 22 J ?_;refine QL (cS a3) ?_;obtain ⟨bl,c0,H⟩:=QM H;refine Zb fn103 (Xf.con c0) S J J flN (eE4 E ?_);rintro _ ci _ ar E S ⟨rfl,rfl⟩;refine QH (Ya ⟨.inr ⟨M,Hp.le_refl M,(S.pk [0,1,2])⟩,?_⟩);have D9:∃ Mx,Hp.le M Mx∧St _ Mx F [_,_,_]:=⟨_,Hp.le_refl _,S.pk [0,1,2]⟩;refine tz2 23 J (cS a3) D9 (X2 (b:=bl) J) (tz2 24 J (cS a9) D9 (xpB a3 J) ?_);exact O _ _ ⟨(!bl),oi H,agP J,E,S.pk [0,1,2]⟩
    ·refine tz4 16 J (skT a3) D7 (tz4 17 J (skT a3) D7 (tz4 18 J (skT a3) D7 (tz4 19 J (skT a3) D7 (tz4 20 J (skT a3) D7 (tz4 21 J (skT a3) D7 (tz4 22 J (skT a3) D7 (tz4 23 J (skT a3) D7 (tz2 24 J (cS a9) D7 (xqB a3 J) ?_))))))));exact O _ _ ⟨false,oi H,agP J,E,S.pk [0,1,2]⟩
   rintro U cj ⟨b5,rfl,V,E,S⟩;rw [QC V];have H:=bz;refine tz0 25 J (⟨M,Hp.le_refl M,(S.pk [0,1,2])⟩) (xqB a9 J) ?_;exact O _ _ ⟨b5,oi H,agP J,E,S.pk [0,1,2]⟩
 rintro U cm ⟨bb,rfl,V,E,S⟩;rw [QC V];have H:=bv;refine Wz ?_;refine tn ?_;rcases Q0 H with ⟨b2,H⟩ | ⟨b2,H⟩
 ·refine QD (cB b2) ?_;refine wsQ (waI J (wnQ ?_));refine QR ?_;refine tr (?_);obtain rfl:=oi H;exact ⟨_,_,_,rsA (vs:=[_]) J,HM,E,S.pk [0,1],⟨J,J⟩⟩
 refine QA (cB b2) (QT (tn ?_))
 as_aux_lemma =>
 refine QJ (QJ ?_);refine rgA S [0,1,2] [_,_,_] 33 mixed J (eE1 E ?_);intro c9 E S G;refine tz0 0 J G (xfA Tryz.underlying69 ty5 J) (tz1 1 J G (fun w' h'=>xlA h' 2 ty5 J) (tz0 2 J G (xiB J J) (tz0 3 J G (xmB J) ?_)));obtain ⟨c1,be,bf⟩:=QM H;refine YV (fun U w'=>∃ (b3:Bool),(b3)=c1∧QX U [(144,.bool b3)]∧Ext w w'∧St w' M F [B48 a4 a0 A0_8 c0_8 A0_9 c0_9,Rw QE 167 A0_8 c0_8 a0.T,B69 b1 K]) 0 (Ls 33 [0,1,2,3,4,5,6,7,8,9,10,11,12,13,14,15,16,17,18,19,20,21,22,23,24,25,26,27,28,29,30,31,32]) ?_ ?_;rotate_left
 ·intro O;have H:=be;rcases Q0 H with ⟨B,H⟩ | ⟨B,H⟩
  ·refine tz2 4 J (cS B) G (xmP J) (tz2 5 J (cS B) G (QY J) (tz2 6 J (cS B) G (xfA Tryz.underlying48 ty23 J) (WtY 7 J J J (.agg (QN a0.C)) J (cS B) (fun w' h'=>Qf (Yq h' 0 J) ty23 J (QI J) J J) G (tz2 8 J (cS B) G (xfA Tryz.underlying69 ty9 J) (tz3 9 J (cS B) G (fun w' h'=>xlA h' 2 ty9 J) ?_)))));refine Wo 10 J ?_;refine QL (cS B) ?_;obtain ⟨c2,bg,H⟩:=QM H;refine Zb fn104 (XL.con bg) S J J flN (eE4 E ?_);rintro _ ca _ ar E S ⟨rfl,rfl⟩;refine QH (Ya ⟨.inr ⟨M,Hp.le_refl M,(S.pk [0,1,2])⟩,?_⟩);have ac:∃ Mx,Hp.le M Mx∧St _ Mx F [_,_,_]:=⟨_,Hp.le_refl _,S.pk [0,1,2]⟩;refine tz2 11 J (cS B) ac (X2 (b:=c2) J) (tz2 12 J (cS B) ac (xmB J) ?_);obtain ⟨c3,bh,bi⟩:=QM H;refine YV (fun U w'=>∃ (ap:Bool),(ap)=c3∧QX U [(5,pt b1 0),(115,.bool (K.Kind==(5:Int))),(133,.bool ap)]∧Ext w w'∧St w' M F [B48 a4 a0 A0_8 c0_8 A0_9 c0_9,Rw QE 167 A0_8 c0_8 a0.T,B69 b1 K]) 11 (Ls 33 [0,1,2,3,4,5,6,7,8,9,10,11,12,13,14,15,16,17,18,19,20,21]) ?_ ?_;rotate_left
   ·intro O;have H:=bh;rcases Q0 H with ⟨W,H⟩ | ⟨W,H⟩
    ·refine tz4 13 J (skF W) ac (tz4 14 J (skF W) ac (tz4 15 J (skF W) ac (tz4 16 J (skF W) ac (tz4 17 J (skF W) ac (tz4 18 J (skF W) ac (tz4 19 J (skF W) ac (tz4 20 J (skF W) ac (tz2 21 J (cS B) ac (xpB W J) ?_))))))));exact O _ _ ⟨true,oi H,agP J,E,S.pk [0,1,2]⟩
    ·refine tz2 13 J (cS W) ac (xmP J) (tz2 14 J (cS W) ac (QY J) (tz2 15 J (cS W) ac (xfA Tryz.underlying48 ty23 J) (WtY 16 J J J (.agg (QN a0.C)) J (cS W) (fun w' h'=>Qf (Yq h' 0 J) ty23 J (QI J) J J) ac (tz2 17 J (cS W) ac (xfA Tryz.underlying69 ty9 J) (tz3 18 J (cS W) ac (fun w' h'=>xlA h' 2 ty9 J) ?_)))));refine Wo 19 J ?_;refine QL (cS W) ?_;obtain ⟨bc,bj,H⟩:=QM H;refine Zb fn104 (XL.con bj) S J J flN (eE4 E ?_);rintro _ cb _ ar E S ⟨rfl,rfl⟩;refine QH (Ya ⟨.inr ⟨M,Hp.le_refl M,(S.pk [0,1,2])⟩,?_⟩);have bm:∃ Mx,Hp.le M Mx∧St _ Mx F [_,_,_]:=⟨_,Hp.le_refl _,S.pk [0,1,2]⟩;refine tz2 20 J (cS W) bm (X2 (b:=bc) J) (tz2 21 J (cS B) bm (xqB W J) ?_);exact O _ _ ⟨(!bc),oi H,agP J,E,S.pk [0,1,2]⟩
   rintro U bd ⟨ap,rfl,V,E,S⟩;rw [QC V];have H:=bi;refine tz2 22 J (cS B) (⟨M,Hp.le_refl M,(S.pk [0,1,2])⟩) (xmB J) ?_;refine YV (fun U w'=>QX U [(5,pt b1 0),(115,.bool (K.Kind==(5:Int))),(138,.bool (ap||(decide (K.Limit<(0:Int)))))]∧bd=w') 6 (Ls 33 [0,1,2,3,4,5,6,7,8,9,10,11,12,13,14,15,16,17,18,19,20,21,22,23,24,25,26]) ?_ ?_;rotate_left
   ·intro O;rcases Qr ap with aa | aa
    ·have b6:∃ Mx,Hp.le M Mx∧St _ Mx F [_,_,_]:=⟨_,Hp.le_refl _,S.pk [0,1,2]⟩;refine tz2 23 J (cS aa) b6 (xfA Tryz.underlying69 ty3 J) (tz3 24 J (cS aa) b6 (fun w' h'=>xlA h' 2 ty3 J) (tz2 25 J (cS aa) b6 (xiB J J) (tz2 26 J (cS B) b6 (xqB aa J) ?_)));exact O _ _ ⟨⟨J,J,(flB aa),trivial⟩,rfl⟩
    ·have b7:∃ Mx,Hp.le M Mx∧St _ Mx F [_,_,_]:=⟨_,Hp.le_refl _,S.pk [0,1,2]⟩;refine tz4 23 J (skF aa) b7 (tz4 24 J (skF aa) b7 (tz4 25 J (skF aa) b7 (tz2 26 J (cS B) b7 (xpB aa J) ?_)));exact O _ _ ⟨⟨J,J,(flB aa),trivial⟩,rfl⟩
   rintro U _ ⟨V,rfl⟩;rw [QC V];refine tz2 27 J (cS B) (⟨M,Hp.le_refl M,(S.pk [0,1,2])⟩) (xmB J) ?_;refine YV (fun U w'=>QX U [(115,.bool (K.Kind==(5:Int))),(143,.bool ((ap||(decide (K.Limit<(0:Int))))||(decide (K.Limit>(128:Int)))))]∧bd=w') 1 (Ls 33 [0,1,2,3,4,5,6,7,8,9,10,11,12,13,14,15,16,17,18,19,20,21,22,23,24,25,26,27,28,29,30,31]) ?_ ?_;rotate_left
   ·intro O;rcases Qr (ap||(decide (K.Limit<(0:Int)))) with ab | ab
    ·have b8:∃ Mx,Hp.le M Mx∧St _ Mx F [_,_,_]:=⟨_,Hp.le_refl _,S.pk [0,1,2]⟩;refine tz2 28 J (cS ab) b8 (xfA Tryz.underlying69 ty3 J) (tz3 29 J (cS ab) b8 (fun w' h'=>xlA h' 2 ty3 J) (tz2 30 J (cS ab) b8 (xiB J J) (tz2 31 J (cS B) b8 (xqB ab J) ?_)));exact O _ _ ⟨⟨J,(flB ab),trivial⟩,rfl⟩
    ·have b9:∃ Mx,Hp.le M Mx∧St _ Mx F [_,_,_]:=⟨_,Hp.le_refl _,S.pk [0,1,2]⟩;refine tz4 28 J (skF ab) b9 (tz4 29 J (skF ab) b9 (tz4 30 J (skF ab) b9 (tz2 31 J (cS B) b9 (xpB ab J) ?_)));exact O _ _ ⟨⟨J,(flB ab),trivial⟩,rfl⟩
   rintro U _ ⟨V,rfl⟩;rw [QC V];refine tz0 32 J (⟨M,Hp.le_refl M,(S.pk [0,1,2])⟩) (xpB B J) ?_;exact O _ _ ⟨((ap||(decide (K.Limit<(0:Int))))||(decide (K.Limit>(128:Int)))),oi H,agP J,E,S.pk [0,1,2]⟩
  ·refine tz4 4 J (skT B) G (tz4 5 J (skT B) G (tz4 6 J (skT B) G (tz4 7 J (skT B) G (tz4 8 J (skT B) G (tz4 9 J (skT B) G (tz4 10 J (skT B) G (tz4 11 J (skT B) G (tz4 12 J (skT B) G (tz4 13 J (J) G (tz4 14 J (J) G (tz4 15 J (J) G (tz4 16 J (J) G (tz4 17 J (J) G (tz4 18 J (J) G (tz4 19 J (J) G ?_)))))))))))))));refine tz4 20 J (J) G (tz4 21 J (skT B) G (tz4 22 J (skT B) G (tz4 23 J (J) G (tz4 24 J (J) G (tz4 25 J (J) G (tz4 26 J (skT B) G (tz4 27 J (skT B) G (tz4 28 J (J) G (tz4 29 J (J) G (tz4 30 J (J) G (tz4 31 J (skT B) G (tz0 32 J G (xqB B J) ?_))))))))))));exact O _ _ ⟨false,oi H,agP J,E,S.pk [0,1,2]⟩
 rintro U cc ⟨b3,rfl,V,E,S⟩;rw [QC V];have H:=bf;refine Wz ?_;refine tn ?_;rcases Q0 H with ⟨av,H⟩ | ⟨av,H⟩
 ·refine QD (cB av) ?_;refine wsQ (waI J (wnQ ?_));refine QR ?_;refine tr (?_);obtain rfl:=oi H;exact ⟨_,_,_,rsA (vs:=[_]) J,HM,E,S.pk [0,1],⟨J,J⟩⟩
 refine QA (cB av) (QT (tn ?_))
 as_aux_lemma =>
 refine wsQ (waI J (wnQ ?_));refine QR ?_;obtain rfl:=oi H;exact ⟨_,_,_,rsA (vs:=[_]) J,HM,E,S.pk [0,1],⟨J,J⟩⟩
def ZO (G:QG):Nat→Int→Int→Option ((Int))
 | 0,_,_=>none
 | k+1,E,B=>(if (decide (B<(G.T.length:Int)))=true then (Option.bind (α:=Int) (if 0≤B∧B<(G.T.length:Int) then (Option.bind (α:=Int) (if ((rd G.T B).State==(1:Int))=true then some ((IntKind.i64.wrap (E+(1:Int)))) else some (E)) (fun H=>some (H))) else none) (fun K=>ZO G k K (IntKind.i64.wrap (B+(1:Int))))) else some (E))
theorem ZO.mono {B}: ∀ {kl:Nat} {E G},OLe (ZO B kl E G) (ZO B (kl+1) E G):=by
 intro kl
 induction kl with
 | zero=>intros;exact OLe.none
 | succ kl ih =>
  intros
  rw [ZO.eq_2,ZO.eq_2];exact mo
def Zp (k:Nat) (E:QG):Option (Int) :=
 (Option.bind (ZO E k (0:Int) (0:Int)) (fun B=>some B))
theorem Zp.mono {k B}: OLe (Zp k B) (Zp (k+1) B):=by
 unfold Zp;have m1:=@ZO.mono;exact mo
theorem Zp.con {k M A0_8 c0_8 A0_9 c0_9} {B:QG} {G} {r:Int} (h:Zp k B=some r) (hr0_9:SlR Qg M (.slice A0_9 B.L.length c0_9) B.L): Con Tryz.prog 84 #[pt G 0] M [B48 G B A0_8 c0_8 A0_9 c0_9,Rw QE 167 A0_8 c0_8 B.T] (fun v M' aj=>v=vI r∧aj=[B48 G B A0_8 c0_8 A0_9 c0_9,Rw QE 167 A0_8 c0_8 B.T]):=by
 refine cwA Tryz.func84 J Tryz.ntmps84 Tryz.results84 J h ?_;intro w F rn S au E HM H;unfold Zp at H;refine wsQ (waI J (wnQ (wsQ (waI J (wnQ (QJ (wsQ (waI J (wnQ ?_)))))))));obtain ⟨a5,a8,a9⟩:=QM H;refine Zs (fun K w'=>∃ (a2:Int),(a2)=a5∧QX K [(3,vI a2)]∧Ext w w'∧St w' M F [B48 G B A0_8 c0_8 A0_9 c0_9,Rw QE 167 A0_8 c0_8 B.T]) ?_ ?_
 ·refine Y8 (fun n K w'=>∃ (U:Int) (V:Int),ZO B n U V=some a5∧QX K [(0,pt G 0),(3,vI U),(4,vI V)]∧Ext w w'∧St w' M F [B48 G B A0_8 c0_8 A0_9 c0_9,Rw QE 167 A0_8 c0_8 B.T]) k ?_ ?_
  ·exact ⟨(0:Int),(0:Int),a8,agP J,E,S.pk [0,1]⟩
  ·intro n;rintro K am ⟨U,V,H,O,E,S⟩;rw [QC O]
   cases n with
   | zero=>cases H
   | succ k =>
    rw [ZO.eq_2] at H;refine QJ (wsQ (wmI J (wmP J (W_v _ (QY J) J (wfA Tryz.underlying48 ty45 J (wlA S 0 ty45 J (W_v _ (Qd (n:=B.T.length) Tryz.underlying45 J) J (wiB J J (wnQ ?_)))))))));rcases Q0 H with ⟨W,H⟩ | ⟨W,H⟩
    ·refine QD (cB W) ?_;refine QT (tn (QJ ?_));obtain ⟨ah,aa,a3⟩:=QM H;refine X3 (fun K w'=>∃ (Y:Int),(Y)=ah∧QX K [(0,pt G 0),(3,vI Y),(4,vI V)]∧Ext w w'∧St w' M F [B48 G B A0_8 c0_8 A0_9 c0_9,Rw QE 167 A0_8 c0_8 B.T]) ?_ ?_
     ·as_aux_lemma =>
       clear a3;have H:=aa;refine Zg ?_;refine wsQ (wmP J (W_v _ (QY J) J (wfA Tryz.underlying48 ty45 J (wlA S 0 ty45 J (wmI J ?_)))));obtain ⟨⟨a6,a7⟩,H⟩:=Z3 H;obtain ⟨an,ao,ak,_,_,ab,ac,ad,ae,af⟩:=SlW.at' (S.row_read 1 J) a6 a7;obtain rfl:ad=_:=ae;refine W_v _ (QP Tryz.underlying45 ty167 (slA ab) J a6 a7) J (wfA Tryz.underlying167 ty5 J (W_v _ (YU (Hp.of_get ac) ty5 J (af 2 _ J)) J (wiB J J (wnQ ?_))));obtain ⟨ai,ag,a4⟩:=QM H;refine X3 (fun K w'=>∃ (Z:Int),(Z)=ai∧QX K [(0,pt G 0),(3,vI Z),(4,vI V)]∧Ext w w'∧St w' M F [B48 G B A0_8 c0_8 A0_9 c0_9,Rw QE 167 A0_8 c0_8 B.T]) ?_ ?_
       ·clear a4;have H:=ag;rcases Q0 H with ⟨a1,H⟩ | ⟨a1,H⟩
        ·refine QD (cB a1) ?_;refine QO (wmI J (wiI J J (waI J (wnQ ?_))));exact ⟨(IntKind.i64.wrap (U+(1:Int))),oi H,agP J,E,S.pk [0,1]⟩
        refine QA (cB a1) (QT (tn ?_));exact ⟨U,oi H,agP J,E,S.pk [0,1]⟩
       rintro K ap ⟨Z,rfl,O,E,S⟩;rw [QC O];have H:=a4;refine bn (tn ?_);exact ⟨Z,oi H,agP J,E,S.pk [0,1]⟩
     rintro K aq ⟨Y,rfl,O,E,S⟩;rw [QC O];have H:=a3;refine tn (QO (wmI J (wiI J J (waI J (wnQ ?_)))));exact ⟨k,Nat.lt_succ_self k,⟨Y,(IntKind.i64.wrap (V+(1:Int))),H,agP J,E,S.pk [0,1]⟩⟩
    refine QA (cB W) ?_;refine Yn ?_;refine tx (tx (bsm (?_)));refine tn ?_;exact ⟨U,oi H,agP J,E,S.pk [0,1]⟩
 rintro K ar ⟨a2,rfl,O,E,S⟩;rw [QC O];have H:=a9;refine tn ?_
 as_aux_lemma =>
 refine wsQ (wmI J (waI J (wnQ ?_)));refine QR ?_;obtain rfl:=oi H;exact ⟨_,_,_,rsA (vs:=[_]) J,HM,E,S.pk [0,1],⟨J,J⟩⟩
def ZP (E:QG) (G:Str):Nat→Int→Option ((Qn)⊕(Unit))
 | 0,_=>none
 | k+1,B=>(if (decide (B<(E.L.length:Int)))=true then (if 0≤B∧B<(E.L.length:Int) then (if (sbin .eql ((rd E.L B).Key) G)=true then (if 0≤B∧B<(E.L.length:Int) then some (.inl (rd E.L B)) else none) else ZP E G k (IntKind.i64.wrap (B+(1:Int)))) else none) else some (.inr ()))
theorem ZP.mono {B E}: ∀ {kl:Nat} {G},OLe (ZP B E kl G) (ZP B E (kl+1) G):=by
 intro kl
 induction kl with
 | zero=>intros;exact OLe.none
 | succ kl ih =>
  intros
  rw [ZP.eq_2,ZP.eq_2];exact mo
def Zh (k:Nat) (G:QG) (E:Str):Option (Qn) :=
 (Option.bind (ZP G E k (0:Int)) (fun B=>Sum.elim (fun r'=>some r') (fun _=>some (⟨E,([]:(List QS)),false,⟨(0:Int),(0:Int),false,([]:Str)⟩⟩:Qn)) B))
theorem Zh.mono {k B E}: OLe (Zh k B E) (Zh (k+1) B E):=by
 unfold Zh;have m1:=@ZP.mono;exact mo
theorem Zh.con {k M A0_8 c0_8 A0_9 c0_9} {G:QG} {U:Str} {V} {r:Qn} (h:Zh k G U=some r) (hr0_9:SlR Qg M (.slice A0_9 G.L.length c0_9) G.L): Con Tryz.prog 86 #[pt V 0,vS U] M [B48 V G A0_8 c0_8 A0_9 c0_9,Rw QE 167 A0_8 c0_8 G.T] (fun v M' ao=>∃ (al:Option Addr) (am:Nat),v=.agg #[vS r.Key,.slice al r.L.length am,.bool r.Has,vI r.I.Writer,vI r.I.TS,.bool r.I.Tomb,vS r.I.Value]∧SlR ZG M' (.slice al r.L.length am) r.L∧ao=[B48 V G A0_8 c0_8 A0_9 c0_9,Rw QE 167 A0_8 c0_8 G.T]):=by
 refine cwA Tryz.func86 J Tryz.ntmps86 Tryz.results86 J h ?_;intro w F rn S b9 E HM H;unfold Zh at H;refine wsQ ?_;refine YX S cz4 ty56 J J (eE2 E ?_);intro b1 w2 E S;refine wnQ (QJ (wsQ (waI J (wnQ ?_))));obtain ⟨a3,ab,Z⟩:=QM H;refine Zs (fun ρ w'=>.inr ()=a3∧QX ρ [(1,vS U),(4,pt b1 0)]∧Ext w w'∧St w' M F [Blk b1 (.cells cz4 56 (0,0)),B48 V G A0_8 c0_8 A0_9 c0_9,Rw QE 167 A0_8 c0_8 G.T]) ?_ ?_
 ·refine Y8 (fun n ρ w'=>∃ (B:Int),ZP G U n B=some a3∧QX ρ [(0,pt V 0),(1,vS U),(4,pt b1 0),(5,vI B)]∧Ext w w'∧St w' M F [Blk b1 (.cells cz4 56 (0,0)),B48 V G A0_8 c0_8 A0_9 c0_9,Rw QE 167 A0_8 c0_8 G.T]) k ?_ ?_
  ·exact ⟨(0:Int),ab,agP J,E,S.pk [0,1,2]⟩
  ·intro n;rintro ρ aw ⟨B,H,a5,E,S⟩;rw [QC a5]
   cases n with
   | zero=>cases H
   | succ k =>
    rw [ZP.eq_2] at H;refine QJ (wsQ (wmI J (wmP J (W_v _ (QY J) J (wfA Tryz.underlying48 ty46 J (wlA S 1 ty46 J (W_v _ (Qd (n:=G.L.length) Tryz.underlying46 J) J (wiB J J (wnQ ?_)))))))));rcases Q0 H with ⟨W,H⟩ | ⟨W,H⟩
    ·refine QD (cB W) ?_;refine QT (tn (QJ ?_));refine Zg ?_;refine wsQ (wmP J (W_v _ (QY J) J (wfA Tryz.underlying48 ty46 J (wlA S 1 ty46 J (wmI J ?_)))));obtain ⟨⟨a6,a7⟩,H⟩:=Z3 H;obtain ⟨ax,ay,aq,_,_,ac,ad,ar,ae,af⟩:=SlW.at' hr0_9 a6 a7;obtain ⟨az,ag,rfl⟩:=ae;obtain ⟨b0,b2,rfl,_⟩:=ag.form;refine W_v _ (QP Tryz.underlying46 ty56 (slA ac) J a6 a7) J (wfA Tryz.underlying56 ty9 J (W_v _ (YU (S.frz ad) ty9 J (af 0 _ J)) J (wmS J (W_v (.bool (sbin .eql ((rd G.L B).Key) U)) (Ul J J J) J (wnQ ?_)))));rcases Q0 H with ⟨Y,H⟩ | ⟨Y,H⟩
     ·refine QD (cB Y) ?_;refine wsQ (wmP J (W_v _ (QY J) J (wfA Tryz.underlying48 ty46 J (wlA S 1 ty46 J (wmI J ?_)))));obtain ⟨⟨a8,a9⟩,H⟩:=Z3 H;obtain ⟨b3,b4,au,_,_,ah,ai,av,aj,ak⟩:=SlW.at' hr0_9 a8 a9;obtain ⟨b5,a2,rfl⟩:=aj;obtain ⟨K,O,rfl,_⟩:=a2.form;refine W_v _ (QP Tryz.underlying46 ty56 (slA ah) J a8 a9) J (W_v (.agg #[vS ((rd G.L B).Key),.slice K ((rd G.L B).L).length O,.bool ((rd G.L B).Has),vI ((rd G.L B).I.Writer),vI ((rd G.L B).I.TS),.bool ((rd G.L B).I.Tomb),vS ((rd G.L B).I.Value)]) (Qf (S.frz ai) ty56 J (X6 ak 0 J) J J) J ?_);refine Qq S 0 J ty56 J J [vS ((rd G.L B).Key),.slice K ((rd G.L B).L).length O,.bool ((rd G.L B).Has),vI ((rd G.L B).I.Writer),vI ((rd G.L B).I.TS),.bool ((rd G.L B).I.Tomb),vS ((rd G.L B).I.Value)] J J J #[vS ((rd G.L B).Key),.slice K ((rd G.L B).L).length O,.bool ((rd G.L B).Has),vI ((rd G.L B).I.Writer),vI ((rd G.L B).I.TS),.bool ((rd G.L B).I.Tomb),vS ((rd G.L B).I.Value)] (by as_aux_lemma=>kernel_rfl) J (eE1 E ?_);intro b6 E S;refine wnQ ?_;refine QR ?_;refine br (tr (tr (br (tr (tr (?_))))));obtain rfl:=oi H;have H:=Z;replace H:=elimL H;obtain rfl:=oi H;exact ⟨_,_,_,fun w1 e1=>Zk (vs:=[.agg #[vS ((rd G.L B).Key),.slice K ((rd G.L B).L).length O,.bool ((rd G.L B).Has),vI ((rd G.L B).I.Writer),vI ((rd G.L B).I.TS),.bool ((rd G.L B).I.Tomb),vS ((rd G.L B).I.Value)]]) (FA.cons (rcA S e1 0 ty56 J J J) (FA.nil)),HM,E,S.pk [1,2],⟨K,O,J,a2,J⟩⟩
     refine QA (cB Y) (QT (bn (tn (QO (wmI J (wiI J J (waI J (wnQ ?_))))))));exact ⟨k,Nat.lt_succ_self k,⟨(IntKind.i64.wrap (B+(1:Int))),H,agP J,E,S.pk [0,1,2]⟩⟩
    refine QA (cB W) ?_;refine Yn ?_;refine tx (tx (bsm (?_)));refine tn ?_;exact ⟨oi H,agP J,E,S.pk [0,1,2]⟩
 rintro ρ b7 ⟨rfl,a5,E,S⟩;rw [QC a5];have H:=Z;replace H:=elimR H;refine tn ?_
 as_aux_lemma =>
 refine wsQ (wmS J (W_v _ (xb2 [(0,1),(1,1),(2,1),(3,4)] #[vS U,.slice none 0 0,.bool false,vI 0,vI 0,.bool false,vS ([]:Str)] Tryz.underlying56 ty56 J) J ?_));refine Qq S 0 J ty56 J J [vS U,.slice none 0 0,.bool false,vI 0,vI 0,.bool false,vS ([]:Str)] J J J #[vS U,.slice none 0 0,.bool false,vI 0,vI 0,.bool false,vS ([]:Str)] (by as_aux_lemma=>kernel_rfl) J (eE1 E ?_);intro b8 E S;refine wnQ ?_;refine QR ?_;obtain rfl:=oi H;exact ⟨_,_,_,fun w1 e1=>Zk (vs:=[.agg #[vS U,.slice none 0 0,.bool false,vI 0,vI 0,.bool false,vS ([]:Str)]]) (FA.cons (rcA S e1 0 ty56 J J J) (FA.nil)),HM,E,S.pk [1,2],⟨none,0,J,SlW.nil _ _,J⟩⟩
def Q4 (k:Nat) (O:QG) (G:Int) (E:Qn):Option (Str×Bool) :=
 (if (E.Has&&(E.I.Writer==G))=true then some (E.I.Value,(!E.I.Tomb)) else (if 0≤(IntKind.i64.wrap (G-(1:Int)))∧(IntKind.i64.wrap (G-(1:Int)))<(O.T.length:Int) then (Option.bind (α:=Int×Int×Bool×Str×Bool) (Option.bind (XI k E.L ((rd O.T (IntKind.i64.wrap (G-(1:Int)))).Snapshot)) (fun B=>some (B.1.Writer,B.1.TS,B.1.Tomb,B.1.Value,B.2))) (fun ⟨U,V,W,H,K⟩=>some (H,K))) else none))
theorem Q4.mono {k B E G}: OLe (Q4 k B E G) (Q4 (k+1) B E G):=by
 unfold Q4;have m1:=@XI.mono;exact mo
theorem Q4.con {k M A0_8 c0_8 A0_9 c0_9} {K:QG} {a1:Int} {A2_0 c2_0} {B:Qn} {O} {r:Str×Bool} (h:Q4 k K a1 B=some r) (hr0_9:SlR Qg M (.slice A0_9 K.L.length c0_9) K.L) (hr2_0:SlR ZG M (.slice A2_0 B.L.length c2_0) B.L): Con Tryz.prog 85 #[pt O 0,vI a1,.agg #[vS B.Key,.slice A2_0 B.L.length c2_0,.bool B.Has,vI B.I.Writer,vI B.I.TS,.bool B.I.Tomb,vS B.I.Value]] M [B48 O K A0_8 c0_8 A0_9 c0_9,Rw QE 167 A0_8 c0_8 K.T] (fun v M' am=>v=.tuple #[vS r.1,.bool r.2]∧am=[B48 O K A0_8 c0_8 A0_9 c0_9,Rw QE 167 A0_8 c0_8 K.T]):=by
 refine cwA Tryz.func85 J Tryz.ntmps85 Tryz.results85 J h ?_;intro w F rn S bg E HM H;unfold Q4 at H;refine wsQ ?_;refine XS S #[vS B.Key,.slice A2_0 B.L.length c2_0,.bool B.Has,vI B.I.Writer,vI B.I.TS,.bool B.I.Tomb,vS B.I.Value] J J J (eE2 E ?_);intro b1 w2 E S;refine waS J (waB J (wnQ (QJ (wsQ (wfA Tryz.underlying56 ty4 J (wlA S 0 ty4 J (wmB J ?_)))))));refine Q7 6 (fun U w'=>QX U [(0,pt O 0),(1,vI a1),(5,pt b1 0),(18,.bool (B.Has&&(B.I.Writer==a1)))]∧w2=w') ?_ ?_
 ·rcases Qr B.Has with G | G
  ·refine Qa (skT G) J (Qa (skT G) J (Qa (skT G) J (Qa (skT G) J (Qa (skT G) J (wqB G J (QH ?_))))));exact ⟨⟨J,J,J,(flB G),trivial⟩,rfl⟩
  ·refine QL (cS G) (wfA Tryz.underlying56 ty51 J (QL (cS G) (wfA Tryz.underlying51 ty3 J (QL (cS G) (wlA S 0 ty3 J (QL (cS G) (wmI J (QL (cS G) (wiB J J (wpB G J (QH ?_)))))))))));exact ⟨⟨J,J,J,(flB G),trivial⟩,rfl⟩
 as_aux_lemma =>
 rintro U _ ⟨V,rfl⟩;rw [QC V];refine wnQ ?_;rcases Q0 H with ⟨an,H⟩ | ⟨an,H⟩
 ·refine QD (cB an) ?_;refine QJ ?_;refine rgA S [0,1,2] [_,_,_] 9 mixed J (eE1 E ?_);intro w6 E S D1;refine tz0 0 J D1 (xfA Tryz.underlying56 ty51 J) (tz0 1 J D1 (xfA Tryz.underlying51 ty9 J) (tz1 2 J D1 (fun w' h'=>xlA h' 0 ty9 J) (tz0 3 J D1 (xfA Tryz.underlying56 ty51 J) (tz0 4 J D1 (xfA Tryz.underlying51 ty4 J) (tz1 5 J D1 (fun w' h'=>xlA h' 0 ty4 J) (tz0 6 J D1 (X2 (b:=B.I.Tomb) J) (tz0 7 J D1 (xaS J) (tz0 8 J D1 (xaB J) ?_))))))));refine Wz ?_;refine tn ?_;refine QR ?_;refine tr (?_);obtain rfl:=oi H;exact ⟨_,_,_,rsA (vs:=[_,_]) J,HM,E,S.pk [1,2],⟨J,J⟩⟩
 refine QA (cB an) (QT (tn (QJ ?_)));refine rgA S [0,1,2] [_,_,_] 18 mixed J (eE1 E ?_);intro bh E S W;refine tz0 0 J W (xfA Tryz.underlying56 ty54 J) (tz1 1 J W (fun w' h'=>xlA h' 0 ty54 J) (tz0 2 J W (xmP J) (tz0 3 J W (QY J) (tz0 4 J W (xfA Tryz.underlying48 ty45 J) (tz1 5 J W (fun w' h'=>xlA h' 1 ty45 J) (tz0 6 J W (xmI J) (tz0 7 J W (xiI J J) ?_)))))));obtain ⟨⟨ao,ap⟩,H⟩:=Z3 H;obtain ⟨bi,b6,_,_,_,aq,_⟩:=SlW.at' (S.row_read 2 J) ao ap;refine tz0 8 J W (QP Tryz.underlying45 ty167 (slA aq) J ao ap) (tz0 9 J W (VF (o:=b6+(IntKind.i64.wrap (a1-(1:Int))).toNat*4) (off:=3) Tryz.underlying167 J ty3 J J) (Wt 10 J J J (vI ((rd K.T (IntKind.i64.wrap (a1-(1:Int)))).Snapshot)) J (fun w' h'=>VP h' 2 J aq ao ap 3 (by rintro _ _ rfl;rfl) ty3 J) W ?_));obtain ⟨ad,aa,av⟩:=QM H;refine YV (fun U w'=>∃ (Y:Int) (Z:Int) (a3:Bool) (a4:Str) (ae:Bool) (af:Nat),(Y,Z,a3,a4,ae)=ad∧QX U [(8,pt af 0),(39,.agg #[vI Y,vI Z,.bool a3,vS a4]),(40,.bool ae)]∧Ext w w'∧St w' M F [Blk af (.cells cz18 51 (0,0)),B56 b1 B A2_0 c2_0,B48 O K A0_8 c0_8 A0_9 c0_9,Rw QE 167 A0_8 c0_8 K.T]) 2 (Ls 18 [0,1,2,3,4,5,6,7,8,9,10,11,12,13,14,15]) ?_ ?_;rotate_left
 ·intro ag;refine YV (fun U w'=>∃ (ah:Int) (ai:Int) (aj:Bool) (ak:Str) (ab:Bool),some (ah,ai,aj,ak,ab)=some ad∧QX U [(39,.agg #[vI ah,vI ai,.bool aj,vS ak]),(40,.bool ab)]∧Ext w w'∧St w' M F [B56 b1 B A2_0 c2_0,B48 O K A0_8 c0_8 A0_9 c0_9,Rw QE 167 A0_8 c0_8 K.T]) 3 (Ls 18 [0,1,2,3,4,5,6,7,8,9,10,11,12,13,14]) ?_ ?_
  ·clear aa;rintro U b8 ⟨ah,ai,aj,ak,ab,H,V,E,S⟩;rw [QC V];refine Wo 15 J ?_;refine YX S cz18 ty51 J J (eE2 E ?_);intro b0 b9 E S;refine QH (Ya ⟨.inr ⟨M,Hp.le_refl M,(S.pk [1,2,3])⟩,?_⟩);exact ag _ _ ⟨ah,ai,aj,ak,ab,b0,oi H,agP J,E,S.pk [0,1,2,3]⟩
  intro aw;refine YV (fun U w'=>∃ (al:Nat),(Option.bind (XI k B.L ((rd K.T (IntKind.i64.wrap (a1-(1:Int)))).Snapshot)) (fun a5=>some (a5.1.Writer,a5.1.TS,a5.1.Tomb,a5.1.Value,a5.2)))=some ad∧QX U [(8,pt al 0),(28,.slice A2_0 B.L.length c2_0),(37,vI ((rd K.T (IntKind.i64.wrap (a1-(1:Int)))).Snapshot))]∧Ext w w'∧St w' M F [Blk al (.cells cz18 51 (0,0)),B56 b1 B A2_0 c2_0,B48 O K A0_8 c0_8 A0_9 c0_9,Rw QE 167 A0_8 c0_8 K.T]) 6 (Ls 18 [0,1,2,3,4,5,6,7,8,9,10,15]) ?_ ?_
  ·clear aa;rintro U ba ⟨al,H,V,E,S⟩;rw [QC V];refine Wo 11 J ?_;obtain ⟨a6,ax,H⟩:=QM H;refine Zb fn105 (XI.con ax hr2_0) S J J flN (eE4 E ?_);rintro _ bb _ am E S ⟨rfl,rfl⟩;refine QH (Ya ⟨.inr ⟨M,Hp.le_refl M,(S.pk [1,2,3])⟩,?_⟩);have D3:∃ Mx,Hp.le M Mx∧St _ Mx F [_,_,_]:=⟨_,Hp.le_refl _,S.pk [1,2,3]⟩;refine tz0 12 J D3 (xmT J) (tz0 13 J D3 (QW J J) (tz0 14 J D3 (QW J J) ?_));exact ag _ _ ⟨a6.1.Writer,a6.1.TS,a6.1.Tomb,a6.1.Value,a6.2,al,oi H,agP J,E,S.pk [0,1,2,3]⟩
  intro ay;have H:=aa;refine Us (rs:=[11,15]) (by kernel_rfl) (by decide) ?_;simp only [List.forall_mem_cons,List.not_mem_nil,false_implies,implies_true,and_true];refine ⟨?_,?_⟩
  ·refine ⟨_,J,?_⟩;obtain ⟨a7,az,H⟩:=QM H;refine Zb fn105 (XI.con az hr2_0) S J J flN (eE4 E ?_);rintro _ bc _ am E S ⟨rfl,rfl⟩;refine QH (Ya ⟨.inr ⟨M,Hp.le_refl M,(S.pk [0,1,2])⟩,?_⟩);have D4:∃ Mx,Hp.le M Mx∧St _ Mx F [_,_,_]:=⟨_,Hp.le_refl _,S.pk [0,1,2]⟩;refine tz0 12 J D4 (xmT J) (tz0 13 J D4 (QW J J) (tz0 14 J D4 (QW J J) ?_));exact aw _ _ ⟨a7.1.Writer,a7.1.TS,a7.1.Tomb,a7.1.Value,a7.2,H,agP J,E,S.pk [0,1,2]⟩
  ·refine ⟨_,J,?_⟩;refine YX S cz18 ty51 J J (eE2 E ?_);intro b4 bd E S;refine QH (Ya ⟨.inr ⟨M,Hp.le_refl M,(S.pk [1,2,3])⟩,?_⟩);exact ay _ _ ⟨b4,H,agP J,E,S.pk [0,1,2,3]⟩
 rintro U be ⟨Y,Z,a3,a4,ae,af,rfl,V,E,S⟩;rw [QC V];have H:=av;refine Wo 16 J ?_;refine Qq S 0 J ty51 J J [vI Y,vI Z,.bool a3,vS a4] J J J #[vI Y,vI Z,.bool a3,vS a4] J J (eE1 E ?_);intro bf E S;refine QH (Ya ⟨.inr ⟨M,Hp.le_refl M,(S.pk [1,2,3])⟩,?_⟩);refine tz0 17 J (⟨M,Hp.le_refl M,(S.pk [1,2,3])⟩) (xaB J) ?_;refine Wz ?_;refine tn ?_
 as_aux_lemma =>
 refine wsQ (wfA Tryz.underlying51 ty9 J (wlA S 0 ty9 J (wmB J (waS J (waB J (wnQ ?_))))));refine QR ?_;obtain rfl:=oi H;exact ⟨_,_,_,rsA (vs:=[_,_]) J,HM,E,S.pk [2,3],⟨J,J⟩⟩
end Go.Proofs.YtnjbjpaiepefoaaGreatDoor
