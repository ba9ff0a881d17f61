import Derived.Test.YtnjbjpaiepefoaaGreatDoorGt1B
import Derived.Test.YtnjbjpaiepefoaaGreatDoorGt1LReplayTellsP0
import Derived.Test.YtnjbjpaiepefoaaGreatDoorGt1LReplayTellsP1
import Derived.Test.YtnjbjpaiepefoaaGreatDoorGt1LReplayTellsP3
import Derived.Test.YtnjbjpaiepefoaaGreatDoorGt1LReplayTellsP4
import Derived.Test.YtnjbjpaiepefoaaGreatDoorGt1LReplayTellsP5
import Derived.Test.YtnjbjpaiepefoaaGreatDoorGt1LReplayTellsP6
namespace Go.Proofs.YtnjbjpaiepefoaaGreatDoor
open Go
set_option linter.unusedVariables false
set_option linter.unusedSimpArgs false
set_option maxHeartbeats 80000000
set_option maxRecDepth 100000
def Yj (K:(List QB)) (E:(List Qi)×QG):Nat→Int→Option ((Bool)⊕(Unit))
 | 0,_=>none
 | k+1,B=>(if (decide (B<(E.1.length:Int)))=true then (if 0≤B∧B<(E.1.length:Int) then (Option.bind (α:=Bool) (if (decide ((rd E.1 B).Back≥(0:Int)))=true then (if 0≤B∧B<(E.1.length:Int) then (if 0≤(rd E.1 B).Back∧(rd E.1 B).Back<(K.length:Int) then (if 0≤B∧B<(E.1.length:Int) then (Option.bind (Zw k ((rd K ((rd E.1 B).Back)).Answer) ((rd E.1 B).Answer)) (fun G=>some ((!G)))) else none) else none) else none) else some (false)) (fun H=>(if H=true then some (.inl false) else Yj K E k (IntKind.i64.wrap (B+(1:Int)))))) else none) else some (.inr ()))
theorem Yj.mono {B E}: ∀ {kl:Nat} {G},OLe (Yj B E kl G) (Yj B E (kl+1) G):=by
 intro kl
 induction kl with
 | zero=>intros;exact OLe.none
 | succ kl ih =>
  intros
  rw [Yj.eq_2,Yj.eq_2];have m1:=@Zw.mono;exact mo
def Xv (k:Nat) (G:Qb) (H:(List (List QZ))) (E:(List QB)):Option (Bool) :=
 (Option.bind (YM k G H E) (fun K=>(Option.bind (Yj E K k (0:Int)) (fun B=>Sum.elim (fun r'=>some r') (fun _=>some true) B))))
theorem Xv.mono {k B E G}: OLe (Xv k B E G) (Xv (k+1) B E G):=by
 unfold Xv;have m1:=@YM.mono;have m2:=@Yj.mono;exact mo
theorem Xv.con {k M} {a0:Qb} {A1 c1} {a1:(List (List QZ))} {A2 c2} {V:(List QB)} {r:Bool} (h:Xv k a0 a1 V=some r) (bv:SlR (rSl Yp) M (.slice A1 a1.length c1) a1) (Z:SlR QV M (.slice A2 V.length c2) V): Con Tryz.prog 31 #[.agg (QN a0),.slice A1 a1.length c1,.slice A2 V.length c2] M [] (fun v M' ao=>v=.bool r∧ao=[]):=by
 refine cwA Tryz.func31 J Tryz.ntmps31 Tryz.results31 J h ?_;intro w F rn S d5 E HM H;unfold Xv at H;refine wsQ ?_;refine XS S (QN a0) J J J (eE2 E ?_);intro b1 w2 E S;refine waB J (wnQ (wsQ (W_v (.agg (QN a0)) (Qf (S.blk 0 J) ty23 J (QI J) J J) J (wmL J (wmL J ?_)))));obtain ⟨O,bw,H⟩:=QM H;refine YN fn33 (YM.con bw bv Z) (Γ1:=[]) (Γ2:=[_]) S J J ?_;rintro _ bz c0 ao ap E' S ⟨A6,c7,b9,d6,d7,d8,d9,rfl,d4,rfl⟩;replace HM:=Hp.le_trans HM ap;replace Z:=SlR.mono Z ap;replace E:=E.trans E';replace S:St bz c0 F [_,_,_,_]:=S;refine wmT J (W_v _ (QW J J) J (W_v _ (QW J J) J (waL J (waP J (wnQ (QJ (wsQ (waI J (wnQ ?_)))))))));obtain ⟨U,ab,a3,S⟩:=S.row_freeze 0 J;replace HM:=Hp.le_trans HM ab;replace Z:=SlR.mono Z ab;obtain ⟨ac,aq,a5⟩:=QM H;refine Zs (fun ρ w'=>.inr ()=ac∧QX ρ []∧Ext w w'∧St w' U F []) ?_ ?_
 ·refine Y8 (fun n ρ w'=>∃ (K:Int),Yj V O n K=some ac∧QX ρ [(2,.slice A2 V.length c2),(7,.slice A6 O.1.length c7),(9,vI K)]∧Ext w w'∧St w' U F []) k ?_ ?_
  ·exact ⟨(0:Int),aq,agP J,E,S.pk []⟩
  ·intro n;rintro ρ cg ⟨K,H,a7,E,S⟩;rw [QC a7]
   cases n with
   | zero=>cases H
   | succ k =>
    rw [Yj.eq_2] at H;refine QJ (wsQ (wmI J (wmL J (W_v _ (Qd (n:=O.1.length) Tryz.underlying41 J) J (wiB J J (wnQ ?_))))));rcases Q0 H with ⟨W,H⟩ | ⟨W,H⟩
    ·refine QD (cB W) ?_;refine QT (tn (QJ ?_));refine Zg ?_;refine QJ ?_;refine rgA S [] [] 24 mixed J (eE1 E ?_);intro ch E S G;refine tz0 0 J G (xmL J) (tz0 1 J G (xmI J) ?_);obtain ⟨⟨ad,ae⟩,H⟩:=Z3 H;obtain ⟨ci,cj,c5,_,_,ar,au,c6,av,aw⟩:=SlW.at' a3 ad ae;obtain ⟨cm,ax,rfl⟩:=av;obtain ⟨cn,co,rfl,_⟩:=ax.form;refine tz0 2 J G (QP Tryz.underlying41 ty94 (slA ar) J ad ae) (tz0 3 J G (xfA Tryz.underlying94 ty3 J) (tz1 4 J G (fun w' h'=>YU (XT h' au) ty3 J (aw 7 _ J)) (tz0 5 J G (xiB J J) (tz0 6 J G (xmB J) ?_))));obtain ⟨bk,ay,az⟩:=QM H;refine YV (fun ρ w'=>∃ (a4:Bool),(a4)=bk∧QX ρ [(2,.slice A2 V.length c2),(7,.slice A6 O.1.length c7),(9,vI K),(46,.bool a4)]∧Ext w w'∧St w' U F []) 0 (Ls 24 [0,1,2,3,4,5,6,7,8,9,10,11,12,13,14,15,16,17,18,19,20,21,22,23]) ?_ ?_;rotate_left
     ·intro af;have H:=ay;rcases Q0 H with ⟨B,H⟩ | ⟨B,H⟩
      ·refine tz2 7 J (cS B) G (xmL J) (tz2 8 J (cS B) G (xmL J) (tz2 9 J (cS B) G (xmI J) ?_));obtain ⟨⟨ag,ah⟩,H⟩:=Z3 H;obtain ⟨cp,cq,c8,_,_,b0,b2,c9,b3,b4⟩:=SlW.at' a3 ag ah;obtain ⟨cr,b5,rfl⟩:=b3;obtain ⟨ct,cu,rfl,_⟩:=b5.form;refine tz2 10 J (cS B) G (QP Tryz.underlying41 ty94 (slA b0) J ag ah) (tz2 11 J (cS B) G (xfA Tryz.underlying94 ty3 J) (tz3 12 J (cS B) G (fun w' h'=>YU (XT h' b2) ty3 J (b4 7 _ J)) ?_));obtain ⟨⟨ai,aj⟩,H⟩:=Z3 H;obtain ⟨cv,bl,ca,_,_,b6,b7,cb,b8,ba⟩:=SlW.at' Z ai aj;obtain ⟨cw,a8,rfl⟩:=b8;obtain ⟨bm,bo,rfl,_⟩:=a8.form;refine tz2 13 J (cS B) G (QP Tryz.underlying25 ty64 (slA b6) J ai aj) (tz2 14 J (cS B) G (VF (o:=bl+((rd O.1 K).Back).toNat*7) (off:=3) Tryz.underlying64 J ty62 J J) (WtY 15 J J J (.agg #[vI ((rd V ((rd O.1 K).Back)).Answer.Err),.bool ((rd V ((rd O.1 K).Back)).Answer.Found),vS ((rd V ((rd O.1 K).Back)).Answer.Value),.slice bm ((rd V ((rd O.1 K).Back)).Answer.Pairs).length bo]) J (cS B) (fun w' h'=>Qf (XT h' b7) ty62 J (X6 ba 3 J) J J) G (tz2 16 J (cS B) G (xmL J) (tz2 17 J (cS B) G (xmI J) ?_))));obtain ⟨⟨ak,al⟩,H⟩:=Z3 H;obtain ⟨cx,cy,cc,_,_,bb,bc,cd,bd,be⟩:=SlW.at' a3 ak al;obtain ⟨cz,a9,rfl⟩:=bd;obtain ⟨bp,bq,rfl,_⟩:=a9.form;refine tz2 18 J (cS B) G (QP Tryz.underlying41 ty94 (slA bb) J ak al) (tz2 19 J (cS B) G (xfA Tryz.underlying94 ty62 J) (WtY 20 J J J (.agg #[vI ((rd O.1 K).Answer.Err),.bool ((rd O.1 K).Answer.Found),vS ((rd O.1 K).Answer.Value),.slice bp ((rd O.1 K).Answer.Pairs).length bq]) J (cS B) (fun w' h'=>Qf (XT h' bc) ty62 J (X6 be 2 J) J J) G ?_));refine Wo 21 J ?_;refine QL (cS B) ?_;obtain ⟨am,bf,H⟩:=QM H;refine Zb fn38 (Zw.con bf a8 a9) S J J flN (eE4 E ?_);rintro _ d0 _ ao E S ⟨rfl,rfl⟩;refine QH (Ya ⟨.inr ⟨U,Hp.le_refl U,(S.pk [])⟩,?_⟩);have D3:∃ Mx,Hp.le U Mx∧St _ Mx F []:=⟨_,Hp.le_refl _,S.pk []⟩;refine tz2 22 J (cS B) D3 (X2 (b:=am) J) (tz0 23 J D3 (xpB B J) ?_);exact af _ _ ⟨(!am),oi H,agP J,E,S.pk []⟩
      ·refine tz4 7 J (skT B) G (tz4 8 J (skT B) G (tz4 9 J (skT B) G (tz4 10 J (skT B) G (tz4 11 J (skT B) G (tz4 12 J (skT B) G (tz4 13 J (skT B) G (tz4 14 J (skT B) G (tz4 15 J (skT B) G (tz4 16 J (skT B) G (tz4 17 J (skT B) G (tz4 18 J (skT B) G (tz4 19 J (skT B) G (tz4 20 J (skT B) G (tz4 21 J (skT B) G (tz4 22 J (skT B) G ?_)))))))))))))));refine tz0 23 J G (xqB B J) ?_;exact af _ _ ⟨false,oi H,agP J,E,S.pk []⟩
     rintro ρ d1 ⟨a4,rfl,a7,E,S⟩;rw [QC a7];have H:=az;refine Wz ?_;refine tn ?_;rcases Q0 H with ⟨Y,H⟩ | ⟨Y,H⟩
     ·refine QD (cB Y) ?_;refine wsQ (waB J (wnQ ?_));refine QR ?_;refine br (tr (tr (br (tr (tr (?_))))));obtain rfl:=oi H;have H:=a5;replace H:=elimL H;obtain rfl:=oi H;exact ⟨_,_,_,rsA (vs:=[_]) J,HM,E,S.pk [],⟨J,J⟩⟩
     refine QA (cB Y) (QT (bn (tn (QO (wmI J (wiI J J (waI J (wnQ ?_))))))));exact ⟨k,Nat.lt_succ_self k,⟨(IntKind.i64.wrap (K+(1:Int))),H,agP J,E,S.pk []⟩⟩
    refine QA (cB W) ?_;refine Yn ?_;refine tx (tx (bsm (?_)));refine tn ?_;exact ⟨oi H,trivial,E,S.pk []⟩
 rintro ρ d2 ⟨rfl,a7,E,S⟩;rw [QC a7];have H:=a5;replace H:=elimR H;refine tn ?_
 as_aux_lemma =>
 refine wsQ (waB J (wnQ ?_));refine QR ?_;obtain rfl:=oi H;exact ⟨_,_,_,rsA (vs:=[_]) J,HM,E,S.pk [],⟨J,J⟩⟩
def Yk (G:Qb) (H:(List (List QZ))) (E:(List QB)):Nat→Int→Option ((Int×Int)⊕(Unit))
 | 0,_=>none
 | k+1,B=>(if (decide (B≤(E.length:Int)))=true then (if 0≤B∧B≤(E.length:Int) then (Option.bind (XC k G H (List.take B.toNat E)) (fun K=>(if (!K)=true then some (.inl ((IntKind.i64.wrap (B-(1:Int))),(4:Int))) else (if 0≤B∧B≤(E.length:Int) then (Option.bind (Xv k G H (List.take B.toNat E)) (fun O=>(if (!O)=true then some (.inl ((IntKind.i64.wrap (B-(1:Int))),(7:Int))) else Yk G H E k (IntKind.i64.wrap (B+(1:Int)))))) else none)))) else none) else some (.inr ()))
theorem Yk.mono {B E G}: ∀ {kl:Nat} {H},OLe (Yk B E G kl H) (Yk B E G (kl+1) H):=by
 intro kl
 induction kl with
 | zero=>intros;exact OLe.none
 | succ kl ih =>
  intros
  rw [Yk.eq_2,Yk.eq_2];have m1:=@XC.mono;have m2:=@Xv.mono;exact mo
def Xw (k:Nat) (E:Qb) (G:(List (List QZ))) (H:(List QB)):Option (Int×Int) :=
 (Option.bind (Zq k E G) (fun K=>(if (!K)=true then some ((-1:Int),(1:Int)) else (Option.bind (Yk E G H k (1:Int)) (fun B=>Sum.elim (fun r'=>some r') (fun _=>some ((-1:Int),(0:Int))) B)))))
theorem Xw.mono {k B E G}: OLe (Xw k B E G) (Xw (k+1) B E G):=by
 unfold Xw;have m1:=@Yk.mono;have m2:=@Zq.mono;exact mo
theorem Xw.con {k M} {W:Qb} {A1 c1} {Z:(List (List QZ))} {A2 c2} {G:(List QB)} {r:Int×Int} (h:Xw k W Z G=some r) (a5:SlR (rSl Yp) M (.slice A1 Z.length c1) Z) (al:SlR QV M (.slice A2 G.length c2) G): Con Tryz.prog 7 #[.agg (QN W),.slice A1 Z.length c1,.slice A2 G.length c2] M [] (fun v M' Y=>v=.tuple #[vI r.1,vI r.2]∧Y=[]):=by
 refine cwA Tryz.func7 J Tryz.ntmps7 Tryz.results7 J h ?_;intro w F rn S b6 E HM H;unfold Xw at H;refine wsQ ?_;refine XS S (QN W) J J J (eE2 E ?_);intro b1 w2 E S;refine waI J (waI J (wnQ (QJ (wsQ (W_v (.agg (QN W)) (Qf (S.blk 0 J) ty23 J (QI J) J J) J (wmL J ?_))))));obtain ⟨t4,ax,H⟩:=QM H;refine Zb fn11 (Zq.con ax a5) S J J flN (eE4 E ?_);rintro _ w6 _ Y E S ⟨rfl,rfl⟩;refine W_v _ (X2 (b:=t4) J) J (wnQ ?_);rcases Q0 H with ⟨a6,H⟩ | ⟨a6,H⟩
 ·refine QD (cB a6) ?_;refine wsQ (waI J (waI J (wnQ ?_)));refine QR ?_;refine tr (?_);obtain rfl:=oi H;exact ⟨_,_,_,rsA (vs:=[_,_]) J,HM,E,S.pk [],⟨J,J⟩⟩
 refine QA (cB a6) (QT (tn (QJ (wsQ (waI J (wnQ ?_))))));obtain ⟨a7,ae,K⟩:=QM H;refine Zs (fun ρ w'=>.inr ()=a7∧QX ρ []∧Ext w w'∧St w' M F []) ?_ ?_
 ·refine Y8 (fun n ρ w'=>∃ (B:Int),Yk W Z G n B=some a7∧QX ρ [(1,.slice A1 Z.length c1),(2,.slice A2 G.length c2),(3,pt b1 0),(8,vI B)]∧Ext w w'∧St w' M F [B23 b1 W]) k ?_ ?_
  ·exact ⟨(1:Int),ae,agP J,E,S.pk [0]⟩
  ·intro n;rintro ρ az ⟨B,H,a9,E,S⟩;rw [QC a9]
   cases n with
   | zero=>cases H
   | succ k =>
    rw [Yk.eq_2] at H;refine QJ (wsQ (wmI J (wmL J (W_v _ (Qd (n:=G.length) Tryz.underlying25 J) J (wiB J J (wnQ ?_))))));rcases Q0 H with ⟨O,H⟩ | ⟨O,H⟩
    ·refine QD (cB O) ?_;refine QT (tn (QJ ?_));refine Zg ?_;refine QJ (QJ ?_);refine rgA S [0] [_] 7 mixed J (eE1 E ?_);intro b0 E S D1;refine Wt 0 J J J (.agg (QN W)) J (fun w' h'=>Qf (Yq h' 0 J) ty23 J (QI J) J J) D1 (tz0 1 J D1 (xmL J) (tz0 2 J D1 (xmL J) (tz0 3 J D1 (xmI J) ?_)));obtain ⟨⟨ao,ap⟩,H⟩:=Z3 H;obtain ⟨af,ag⟩:=sl_hi al ao ap;refine Wt 4 J J J (.slice A2 (List.take B.toNat G).length c2) J (fun w' h'=>ag Tryz.underlying25 ty64 J J) D1 ?_;refine Wo 5 J ?_;obtain ⟨aq,ah,H⟩:=QM H;refine Zb fn30 (XC.con ah a5 af) S J J flN (eE4 E ?_);rintro _ b2 _ Y E S ⟨rfl,rfl⟩;refine QH (Ya ⟨.inr ⟨M,Hp.le_refl M,(S.pk [0])⟩,?_⟩);refine tz0 6 J (⟨M,Hp.le_refl M,(S.pk [0])⟩) (X2 (b:=aq) J) ?_;refine Wz ?_;refine tn ?_;rcases Q0 H with ⟨U,H⟩ | ⟨U,H⟩
     ·refine QD (cB U) ?_;refine wsQ (wmI J (wiI J J (waI J (waI J (wnQ ?_)))));refine QR ?_;refine tr (br (tr (tr (br (tr (tr (?_)))))));obtain rfl:=oi H;have H:=K;replace H:=elimL H;obtain rfl:=oi H;exact ⟨_,_,_,rsA (vs:=[_,_]) J,HM,E,S.pk [],⟨J,J⟩⟩
     refine QA (cB U) (QT (tn ?_))
     as_aux_lemma =>
     refine QJ ?_;refine rgA S [0] [_] 7 mixed J (eE1 E ?_);intro b3 E S D3;refine Wt 0 J J J (.agg (QN W)) J (fun w' h'=>Qf (Yq h' 0 J) ty23 J (QI J) J J) D3 (tz0 1 J D3 (xmL J) (tz0 2 J D3 (xmL J) (tz0 3 J D3 (xmI J) ?_)));obtain ⟨⟨ar,au⟩,H⟩:=Z3 H;obtain ⟨ai,aj⟩:=sl_hi al ar au;refine Wt 4 J J J (.slice A2 (List.take B.toNat G).length c2) J (fun w' h'=>aj Tryz.underlying25 ty64 J J) D3 ?_;refine Wo 5 J ?_;obtain ⟨av,ak,H⟩:=QM H;refine Zb fn31 (Xv.con ak a5 ai) S J J flN (eE4 E ?_);rintro _ b4 _ Y E S ⟨rfl,rfl⟩;refine QH (Ya ⟨.inr ⟨M,Hp.le_refl M,(S.pk [0])⟩,?_⟩);refine tz0 6 J (⟨M,Hp.le_refl M,(S.pk [0])⟩) (X2 (b:=av) J) ?_;refine Wz ?_;refine tn ?_;rcases Q0 H with ⟨V,H⟩ | ⟨V,H⟩
     ·refine QD (cB V) ?_;refine wsQ (wmI J (wiI J J (waI J (waI J (wnQ ?_)))));refine QR ?_;refine br (tr (tr (br (tr (tr (?_))))));obtain rfl:=oi H;have H:=K;replace H:=elimL H;obtain rfl:=oi H;exact ⟨_,_,_,rsA (vs:=[_,_]) J,HM,E,S.pk [],⟨J,J⟩⟩
     refine QA (cB V) (QT (bn (tn (QO (wmI J (wiI J J (waI J (wnQ ?_))))))));exact ⟨k,Nat.lt_succ_self k,⟨(IntKind.i64.wrap (B+(1:Int))),H,agP J,E,S.pk [0]⟩⟩
    refine QA (cB O) ?_;refine Yn ?_;refine tx (tx (bsm (?_)));refine tn ?_;exact ⟨oi H,trivial,E,S.pk []⟩
 rintro ρ b5 ⟨rfl,a9,E,S⟩;rw [QC a9];have H:=K;replace H:=elimR H;refine tn ?_
 as_aux_lemma =>
 refine wsQ (waI J (waI J (wnQ ?_)));refine QR ?_;obtain rfl:=oi H;exact ⟨_,_,_,rsA (vs:=[_,_]) J,HM,E,S.pk [],⟨J,J⟩⟩
def Xk (k:Nat) (B:Qb) (E:(List (List QZ))) (G:(List QB)):Option ((List Qw)) :=
 (Option.bind (Yy k B E G) (fun H=>(Sum.elim (fun O=>some ([]:(List Qw))) (Sum.elim (fun U=>some ([]:(List Qw))) (fun K=>some K.done))) H))
theorem Xk.mono {k B E G}: OLe (Xk k B E G) (Xk (k+1) B E G):=by
 unfold Xk;have m1:=@Yy.mono;exact mo
theorem Xk.con {k M} {Y:Qb} {A1 c1} {Z:(List (List QZ))} {A2 c2} {a2:(List QB)} {r:(List Qw)} (h:Xk k Y Z a2=some r) (G:SlR (rSl Yp) M (.slice A1 Z.length c1) Z) (K:SlR QV M (.slice A2 a2.length c2) a2) (O:∃ gt fr,M 0=some (.cells cz3 gt fr)) (U:∃ gt fr,M 1=some (.cells cz1 gt fr)): Con Tryz.prog 13 #[.agg (QN Y),.slice A1 Z.length c1,.slice A2 a2.length c2] M [] (fun v M' B=>∃ (A0:Option Addr) (c0:Nat),v=.slice A0 r.length c0∧B=[Stk YR 93 (.slice A0 r.length c0) r]):=by
 refine cwA Tryz.func13 J Tryz.ntmps13 Tryz.results13 J h ?_;intro w F rn S am E V H;unfold Xk at H;refine wsQ ?_;refine XS S (QN Y) J J J (eE2 E ?_);intro b1 w2 E S;refine waL J (wnQ (wsQ (W_v (.agg (QN Y)) (Qf (S.blk 0 J) ty23 J (QI J) J J) J (wmL J (wmL J ?_)))));obtain ⟨t4,W,H⟩:=QM H;rcases t4 with t6 | t7 | t8
 ·replace H:=elimL H;refine YZ fn32 (Yy.con W G K O U) (Γ1:=[]) (Γ2:=[_]) S J J flN (eE4 E ?_);rintro _ w9 _ B E S ⟨rfl,rfl⟩;replace S:St w9 M F [_]:=S;refine wmT J (W_v _ (QW J J) J (W_v _ (QW J J) J (W_v (.pointer none) (YW J) J (waI J (wnQ (QJ (wsQ (wmI J (wiB J J (wnQ (QD J (QJ ?_))))))))))));refine QO (waL J (wnQ ?_));refine QR ?_;refine tr (?_);obtain rfl:=oi H;replace S:=S.stk_nil YR 93;exact ⟨_,_,_,rsA (vs:=[_]) J,V,E,S.pk [0],⟨none,0,J,J⟩⟩
 ·replace H:=elimR H;replace H:=elimL H;refine YZ fn32 (Yy.con W G K O U) (Γ1:=[]) (Γ2:=[_]) S J J flN (eE4 E ?_);rintro _ ab _ B E S ⟨rfl,rfl⟩;replace S:St ab M F [_]:=S;refine wmT J (W_v _ (QW J J) J (W_v _ (QW J J) J (W_v (.pointer none) (YW J) J (waI J (wnQ (QJ (wsQ (wmI J (wiB J J (wnQ (QD J (QJ ?_))))))))))));refine QO (waL J (wnQ ?_));refine QR ?_;refine tr (?_);obtain rfl:=oi H;replace S:=S.stk_nil YR 93;exact ⟨_,_,_,rsA (vs:=[_]) J,V,E,S.pk [0],⟨none,0,J,J⟩⟩
 ·replace H:=elimR H;replace H:=elimR H;refine YN fn32 (Yy.con W G K O U) (Γ1:=[]) (Γ2:=[_]) S J J ?_;rintro _ ac ad B a4 E' S ⟨an,ao,ap,aq,ar,au,av,aw,ax,ay,az,b0,b2,b3,b4,b5,b6,aj,ae,af,b7,b8,rfl,ak,al,rfl⟩;replace V:=Hp.le_trans V a4;replace E:=E.trans E';replace S:St ac ad F [_,_,_,_,_,_,_,_,_,_,_,_]:=S;refine wmT J (W_v _ (QW J J) J (W_v _ (QW J J) J (waP J (waI J (wnQ (QJ (wsQ (wmI J (wiB J J (wnQ (QA J (QT ?_))))))))))));refine tn (wsQ (wmP J (W_v _ (QY J) J (wfA Tryz.underlying86 ty39 J (wlA S 0 ty39 J (waL J (wnQ ?_)))))));refine QR ?_;obtain rfl:=oi H;exact ⟨_,_,_,rsA (vs:=[_]) J,V,E,S.pk [9],⟨ae,af,J,J⟩⟩
def YK (k:Nat) (B:Qb) (E:(List (List QZ))) (G:(List QB)):Option ((List Qi)) :=
 (Option.bind (Zq k B E) (fun U=>(Option.bind (α:=Bool) (if (!U)=true then some (true) else (Option.bind (XC k B E G) (fun H=>some ((!H))))) (fun K=>(if K=true then some ([]:(List Qi)) else (Option.bind (YM k B E G) (fun O=>some O.1)))))))
theorem YK.mono {k B E G}: OLe (YK k B E G) (YK (k+1) B E G):=by
 unfold YK;have m1:=@Zq.mono;have m2:=@YM.mono;have m3:=@XC.mono;exact mo
theorem YK.con {k M} {G:Qb} {A1 c1} {U:(List (List QZ))} {A2 c2} {V:(List QB)} {r:(List Qi)} (h:YK k G U V=some r) (W:SlR (rSl Yp) M (.slice A1 U.length c1) U) (a3:SlR QV M (.slice A2 V.length c2) V): Con Tryz.prog 14 #[.agg (QN G),.slice A1 U.length c1,.slice A2 V.length c2] M [] (fun v M' O=>∃ (A0:Option Addr) (c0:Nat),v=.slice A0 r.length c0∧O=[Rw Yu 94 A0 c0 r]):=by
 refine cwA Tryz.func14 J Tryz.ntmps14 Tryz.results14 J h ?_;intro w F rn S au E Z H;unfold YK at H;refine wsQ ?_;refine XS S (QN G) J J J (eE2 E ?_);intro b1 w2 E S;refine waL J (wnQ (QJ (wsQ (W_v (.agg (QN G)) (Qf (S.blk 0 J) ty23 J (QI J) J J) J (wmL J ?_)))));obtain ⟨t4,ah,H⟩:=QM H;refine Zb fn11 (Zq.con ah W) S J J flN (eE4 E ?_);rintro _ w6 _ O E S ⟨rfl,rfl⟩;refine W_v _ (X2 (b:=t4) J) J (wmB J ?_);obtain ⟨ai,a9,aa⟩:=QM H;refine Q7 6 (fun ρ w'=>∃ (Y:Bool),(Y)=ai∧QX ρ [(1,.slice A1 U.length c1),(2,.slice A2 V.length c2),(3,pt b1 0),(19,.bool Y)]∧Ext w w'∧St w' M F [B23 b1 G]) ?_ ?_
 ·have H:=a9;rcases Q0 H with ⟨B,H⟩ | ⟨B,H⟩
  ·refine Qa (skF B) J (Qa (skF B) J (Qa (skF B) J (Qa (skF B) J (Qa (skF B) J (wpB B J (QH ?_))))));exact ⟨true,oi H,agP J,E,S.pk [0]⟩
  ·refine QL (cS B) (W_v (.agg (QN G)) (Qf (S.blk 0 J) ty23 J (QI J) J J) J (QL (cS B) (wmL J (QL (cS B) (wmL J (QL (cS B) ?_))))));obtain ⟨a4,ab,H⟩:=QM H;refine Zb fn30 (XC.con ab W a3) S J J flN (eE4 E ?_);rintro _ av _ O E S ⟨rfl,rfl⟩;refine QL (cS B) (W_v _ (X2 (b:=a4) J) J (wqB B J (QH ?_)));exact ⟨(!a4),oi H,agP J,E,S.pk [0]⟩
 as_aux_lemma =>
 rintro ρ aw ⟨Y,rfl,ak,E,S⟩;rw [QC ak];have H:=aa;refine wnQ ?_;rcases Q0 H with ⟨K,H⟩ | ⟨K,H⟩
 ·refine QD (cB K) ?_;refine wsQ (waL J (wnQ ?_));refine QR ?_;refine tr (?_);obtain rfl:=oi H;replace S:=S.row_nil Yu 94;exact ⟨_,_,_,rsA (vs:=[_]) J,Z,E,S.pk [0],⟨none,0,J,J⟩⟩
 refine QA (cB K) (QT (tn (wsQ (W_v (.agg (QN G)) (Qf (S.blk 0 J) ty23 J (QI J) J J) J (wmL J (wmL J ?_))))));obtain ⟨ax,ac,H⟩:=QM H;refine YN fn33 (YM.con ac W a3) (Γ1:=[]) (Γ2:=[_]) S J J ?_;rintro _ al am O ad E' S ⟨an,ao,ay,az,b0,b2,b3,rfl,ar,rfl⟩;replace Z:=Hp.le_trans Z ad;replace E:=E.trans E';replace S:St al am F [_,_,_,_]:=S;refine wmT J (W_v _ (QW J J) J (W_v _ (QW J J) J (waL J (waP J (wnQ (wsQ (wmL J (waL J (wnQ ?_)))))))));refine QR ?_;obtain rfl:=oi H;exact ⟨_,_,_,rsA (vs:=[_]) J,Z,E,S.pk [0],⟨an,ao,J,J⟩⟩
def Y2 (E:(List QS)) (G:(List QS)):Nat→Int→Option ((Bool)⊕(Unit))
 | 0,_=>none
 | k+1,B=>(if (decide (B<(E.length:Int)))=true then (if 0≤B∧B<(E.length:Int) then (if 0≤B∧B<(G.length:Int) then (if (!(((rd E B).Writer==(rd G B).Writer)&&(((rd E B).TS==(rd G B).TS)&&(((rd E B).Tomb==(rd G B).Tomb)&&((rd E B).Value==(rd G B).Value)))))=true then some (.inl false) else Y2 E G k (IntKind.i64.wrap (B+(1:Int)))) else none) else none) else some (.inr ()))
theorem Y2.mono {B E}: ∀ {kl:Nat} {G},OLe (Y2 B E kl G) (Y2 B E (kl+1) G):=by
 intro kl
 induction kl with
 | zero=>intros;exact OLe.none
 | succ kl ih =>
  intros
  rw [Y2.eq_2,Y2.eq_2];exact mo
def Xc (k:Nat) (E:(List QS)) (G:(List QS)):Option (Bool) :=
 (if ((E.length:Int) != (G.length:Int))=true then some false else (Option.bind (Y2 E G k (0:Int)) (fun B=>Sum.elim (fun r'=>some r') (fun _=>some true) B)))
theorem Xc.mono {k B E}: OLe (Xc k B E) (Xc (k+1) B E):=by
 unfold Xc;have m1:=@Y2.mono;exact mo
theorem Xc.con {k M A0 c0} {G:(List QS)} {A1 c1} {K:(List QS)} {r:Bool} (h:Xc k G K=some r) (ap:SlR ZG M (.slice A0 G.length c0) G) (aq:SlR ZG M (.slice A1 K.length c1) K): Con Tryz.prog 20 #[.slice A0 G.length c0,.slice A1 K.length c1] M [] (fun v M' ar=>v=.bool r∧ar=[]):=by
 refine cwA Tryz.func20 J Tryz.ntmps20 Tryz.results20 J h ?_;intro w F rn S b3 E HM H;unfold Xc at H;refine wsQ (waB J (wnQ (QJ (wsQ (wmL J (W_v _ (Qd (n:=G.length) Tryz.underlying54 J) J (wmL J (W_v _ (Qd (n:=K.length) Tryz.underlying54 J) J (wiB J J (wnQ ?_))))))))));rcases Q0 H with ⟨Y,H⟩ | ⟨Y,H⟩
 ·refine QD (cB Y) ?_;refine wsQ (waB J (wnQ ?_));refine QR ?_;refine tr (?_);obtain rfl:=oi H;exact ⟨_,_,_,rsA (vs:=[_]) J,HM,E,S.pk [],⟨J,J⟩⟩
 refine QA (cB Y) (QT (tn (QJ (wsQ (waI J (wnQ ?_))))));obtain ⟨Z,a8,W⟩:=QM H;refine Zs (fun ρ w'=>.inr ()=Z∧QX ρ []∧Ext w w'∧St w' M F []) ?_ ?_
 ·refine Y8 (fun n ρ w'=>∃ (B:Int),Y2 G K n B=some Z∧QX ρ [(0,.slice A0 G.length c0),(1,.slice A1 K.length c1),(5,vI B)]∧Ext w w'∧St w' M F []) k ?_ ?_
  ·exact ⟨(0:Int),a8,agP J,E,S.pk []⟩
  ·intro n;rintro ρ aw ⟨B,H,a3,E,S⟩;rw [QC a3]
   cases n with
   | zero=>cases H
   | succ k =>
    rw [Y2.eq_2] at H;refine QJ (wsQ (wmI J (wmL J (W_v _ (Qd (n:=G.length) Tryz.underlying54 J) J (wiB J J (wnQ ?_))))));rcases Q0 H with ⟨O,H⟩ | ⟨O,H⟩
    ·refine QD (cB O) ?_;refine QT (tn (QJ ?_));refine Zg ?_;refine QJ ?_;refine rgA S [] [] 9 mixed J (eE1 E ?_);intro ax E S U;refine tz0 0 J U (xmL J) (tz0 1 J U (xmI J) ?_);obtain ⟨⟨a4,a5⟩,H⟩:=Z3 H;obtain ⟨ay,az,au,_,_,a9,aa,ab,ac,ad⟩:=SlW.at' ap a4 a5;obtain rfl:ab=_:=ac;refine tz0 2 J U (QP Tryz.underlying54 ty51 (slA a9) J a4 a5) (Wt 3 J J J (.agg (Z2 (rd G B))) J (fun w' h'=>Qf (XT h' aa) ty51 J (X6 ad 0 J) J J) U (tz0 4 J U (xmL J) (tz0 5 J U (xmI J) ?_)));obtain ⟨⟨a6,a7⟩,H⟩:=Z3 H;obtain ⟨b0,b1,av,_,_,af,ag,ah,ai,aj⟩:=SlW.at' aq a6 a7;obtain rfl:ah=_:=ai;refine tz0 6 J U (QP Tryz.underlying54 ty51 (slA af) J a6 a7) (Wt 7 J J J (.agg (Z2 (rd K B))) J (fun w' h'=>Qf (XT h' ag) ty51 J (X6 aj 0 J) J J) U (Wt 8 J J J (.bool (!(((rd G B).Writer==(rd K B).Writer)&&(((rd G B).TS==(rd K B).TS)&&(((rd G B).Tomb==(rd K B).Tomb)&&((rd G B).Value==(rd K B).Value)))))) J (fun w' h'=>U8 (en51 _ _ _ _) J (eq51 _ ((rd G B).Writer) ((rd G B).TS) ((rd G B).Tomb) ((rd G B).Value) ((rd K B).Writer) ((rd K B).TS) ((rd K B).Tomb) ((rd K B).Value))) U ?_));refine Wz ?_;refine tn ?_;rcases Q0 H with ⟨V,H⟩ | ⟨V,H⟩
     ·refine QD (cB V) ?_;refine wsQ (waB J (wnQ ?_));refine QR ?_;refine br (tr (tr (br (tr (tr (?_))))));obtain rfl:=oi H;have H:=W;replace H:=elimL H;obtain rfl:=oi H;exact ⟨_,_,_,rsA (vs:=[_]) J,HM,E,S.pk [],⟨J,J⟩⟩
     refine QA (cB V) (QT (bn (tn (QO (wmI J (wiI J J (waI J (wnQ ?_))))))));exact ⟨k,Nat.lt_succ_self k,⟨(IntKind.i64.wrap (B+(1:Int))),H,agP J,E,S.pk []⟩⟩
    refine QA (cB O) ?_;refine Yn ?_;refine tx (tx (bsm (?_)));refine tn ?_;exact ⟨oi H,trivial,E,S.pk []⟩
 rintro ρ b2 ⟨rfl,a3,E,S⟩;rw [QC a3];have H:=W;replace H:=elimR H;refine tn ?_
 as_aux_lemma =>
 refine wsQ (waB J (wnQ ?_));refine QR ?_;obtain rfl:=oi H;exact ⟨_,_,_,rsA (vs:=[_]) J,HM,E,S.pk [],⟨J,J⟩⟩
def X0 (k:Nat) (B:Qb) (E:(List (List QZ))) (G:(List QB)):Option ((Unit)⊕(Unit)⊕(QQ)) :=
 (Option.bind (Yy k B E G) (fun H=>(Sum.elim (fun O=>some (Sum.inl ())) (Sum.elim (fun U=>some (Sum.inr (Sum.inl ()))) (fun K=>some (Sum.inr (Sum.inr K.m))))) H))
theorem X0.mono {k B E G}: OLe (X0 k B E G) (X0 (k+1) B E G):=by
 unfold X0;have m1:=@Yy.mono;exact mo
theorem X0.con {k M} {a0:Qb} {A1 c1} {a1:(List (List QZ))} {A2 c2} {a2:(List QB)} {r:(Unit)⊕(Unit)⊕(QQ)} (h:X0 k a0 a1 a2=some r) (K:SlR (rSl Yp) M (.slice A1 a1.length c1) a1) (O:SlR QV M (.slice A2 a2.length c2) a2) (U:∃ gt fr,M 0=some (.cells cz3 gt fr)) (V:∃ gt fr,M 1=some (.cells cz1 gt fr)): Con Tryz.prog 8 #[.agg (QN a0),.slice A1 a1.length c1,.slice A2 a2.length c2] M [] (fun v M' B=>(Sum.elim (fun x=>v=.tuple cz21∧B=[]) (Sum.elim (fun x=>v=.tuple cz22∧B=[]) (fun x=>∃ (a7:Nat) (a8:Option Addr) (b2:Nat) (a9:Option Addr) (b3:Nat) (aa:Option Addr) (W:Nat) (Y:Option Addr) (aw:Nat) (G:List (Str×Value)),v=.tuple #[pt a7 0,vI 0]∧Xn Qv M' x.rows G∧B=[B107 a7 x a8 a9 aa W Y,Y3 QF (Value.int .i64) a8 x.names,MpI a9 x.many,Rw QU 149 aa W x.txs,MpV Y G]))) r):=by
 refine cwA Tryz.func8 J Tryz.ntmps8 Tryz.results8 J h ?_;intro w F rn S b4 E Z H;unfold X0 at H;refine wsQ ?_;refine XS S (QN a0) J J J (eE2 E ?_);intro b1 w2 E S;refine W_v (.pointer none) (YW J) J (waI J (wnQ (wsQ (W_v (.agg (QN a0)) (Qf (S.blk 0 J) ty23 J (QI J) J J) J (wmL J (wmL J ?_))))));obtain ⟨t4,a3,H⟩:=QM H;rcases t4 with t6 | t7 | t8
 ·replace H:=elimL H;refine YZ fn32 (Yy.con a3 K O U V) (Γ1:=[]) (Γ2:=[_]) S J J flN (eE4 E ?_);rintro _ w9 _ B E S ⟨rfl,rfl⟩;replace S:St w9 M F [_]:=S;refine wmT J (W_v _ (QW J J) J (W_v _ (QW J J) J (W_v (.pointer none) (YW J) J (waI J (wnQ (QJ (wsQ (wmI J (wiB J J (wnQ (QD J (QJ ?_))))))))))));refine QO (wmI J (W_v (.pointer none) (YW J) J (waI J (wnQ ?_))));refine QR ?_;refine tr (?_);obtain rfl:=oi H;exact ⟨_,_,_,rsA (vs:=[_,_]) J,Z,E,S.pk [],⟨J,J⟩⟩
 ·replace H:=elimR H;replace H:=elimL H;refine YZ fn32 (Yy.con a3 K O U V) (Γ1:=[]) (Γ2:=[_]) S J J flN (eE4 E ?_);rintro _ ai _ B E S ⟨rfl,rfl⟩;replace S:St ai M F [_]:=S;refine wmT J (W_v _ (QW J J) J (W_v _ (QW J J) J (W_v (.pointer none) (YW J) J (waI J (wnQ (QJ (wsQ (wmI J (wiB J J (wnQ (QD J (QJ ?_))))))))))));refine QO (wmI J (W_v (.pointer none) (YW J) J (waI J (wnQ ?_))));refine QR ?_;refine tr (?_);obtain rfl:=oi H;exact ⟨_,_,_,rsA (vs:=[_,_]) J,Z,E,S.pk [],⟨J,J⟩⟩
 ·replace H:=elimR H;replace H:=elimR H;refine YN fn32 (Yy.con a3 K O U V) (Γ1:=[]) (Γ2:=[_]) S J J ?_;rintro _ aj ak B ab E' S ⟨b5,b6,b7,b8,b9,ba,bb,bc,al,am,an,ao,ap,aq,ar,au,av,ac,bd,be,bf,bg,rfl,b0,ad,rfl⟩;replace Z:=Hp.le_trans Z ab;replace E:=E.trans E';replace S:St aj ak F [_,_,_,_,_,_,_,_,_,_,_,_]:=S;refine wmT J (W_v _ (QW J J) J (W_v _ (QW J J) J (waP J (waI J (wnQ (QJ (wsQ (wmI J (wiB J J (wnQ (QA J (QT ?_))))))))))));refine tn (wsQ (wmP J (W_v _ (QY J) J (wfA Tryz.underlying86 ty31 J (wlA S 0 ty31 J (waP J (waI J (wnQ ?_))))))));refine QR ?_;obtain rfl:=oi H;exact ⟨_,_,_,rsA (vs:=[_,_]) J,Z,E,S.pk [4,5,6,7,8],⟨al,am,an,ao,ap,aq,ar,au,av,ac,J,ad,J⟩⟩
def YJ (k:Nat) (B:Qb) (E:(List (List QZ))) (G:(List QB)):Option ((Unit)⊕(Unit)⊕(QG)) :=
 (Option.bind (Zq k B E) (fun K=>(if (!K)=true then some (Sum.inl ()) else (Option.bind (XC k B E G) (fun O=>(if (!O)=true then some (Sum.inr (Sum.inl ())) else (Option.bind (YM k B E G) (fun H=>some (Sum.inr (Sum.inr H.2))))))))))
theorem YJ.mono {k B E G}: OLe (YJ k B E G) (YJ (k+1) B E G):=by
 unfold YJ;have m1:=@Zq.mono;have m2:=@YM.mono;have m3:=@XC.mono;exact mo
theorem YJ.con {k M} {K:Qb} {A1 c1} {W:(List (List QZ))} {A2 c2} {Y:(List QB)} {r:(Unit)⊕(Unit)⊕(QG)} (h:YJ k K W Y=some r) (O:SlR (rSl Yp) M (.slice A1 W.length c1) W) (Z:SlR QV M (.slice A2 Y.length c2) Y): Con Tryz.prog 9 #[.agg (QN K),.slice A1 W.length c1,.slice A2 Y.length c2] M [] (fun v M' B=>(Sum.elim (fun x=>v=.tuple cz21∧B=[]) (Sum.elim (fun x=>v=.tuple cz22∧B=[]) (fun x=>∃ (a3:Nat) (a4:Option Addr) (a5:Nat) (a6:Option Addr) (a7:Nat),v=.tuple #[pt a3 0,vI 0]∧SlR Qg M' (.slice a6 x.L.length a7) x.L∧B=[B48 a3 x a4 a5 a6 a7,Rw QE 167 a4 a5 x.T]))) r):=by
 refine cwA Tryz.func9 J Tryz.ntmps9 Tryz.results9 J h ?_;intro w F rn S ar E U H;unfold YJ at H;refine wsQ ?_;refine XS S (QN K) J J J (eE2 E ?_);intro b1 w2 E S;refine W_v (.pointer none) (YW J) J (waI J (wnQ (QJ (wsQ (W_v (.agg (QN K)) (Qf (S.blk 0 J) ty23 J (QI J) J J) J (wmL J ?_))))));obtain ⟨t4,af,H⟩:=QM H;refine Zb fn11 (Zq.con af O) S J J flN (eE4 E ?_);rintro _ w6 _ B E S ⟨rfl,rfl⟩;refine W_v _ (X2 (b:=t4) J) J (wnQ ?_);rcases Q0 H with ⟨V,H⟩ | ⟨V,H⟩
 ·refine QD (cB V) ?_;refine wsQ (W_v (.pointer none) (YW J) J (waI J (wnQ ?_)));refine QR ?_;refine tr (?_);obtain rfl:=oi H;exact ⟨_,_,_,rsA (vs:=[_,_]) J,U,E,S.pk [],⟨J,J⟩⟩
 refine QA (cB V) (QT (tn (QJ (wsQ (W_v (.agg (QN K)) (Qf (S.blk 0 J) ty23 J (QI J) J J) J (wmL J (wmL J ?_)))))));obtain ⟨t8,ag,H⟩:=QM H;refine Zb fn30 (XC.con ag O Z) S J J flN (eE4 E ?_);rintro _ au _ B E S ⟨rfl,rfl⟩;refine W_v _ (X2 (b:=t8) J) J (wnQ ?_);rcases Q0 H with ⟨G,H⟩ | ⟨G,H⟩
 ·refine QD (cB G) ?_;refine wsQ (W_v (.pointer none) (YW J) J (waI J (wnQ ?_)));refine QR ?_;refine tr (?_);obtain rfl:=oi H;exact ⟨_,_,_,rsA (vs:=[_,_]) J,U,E,S.pk [],⟨J,J⟩⟩
 refine QA (cB G) (QT (tn ?_))
 as_aux_lemma =>
 refine wsQ (W_v (.agg (QN K)) (Qf (S.blk 0 J) ty23 J (QI J) J J) J (wmL J (wmL J ?_)));obtain ⟨av,a8,H⟩:=QM H;refine YN fn33 (YM.con a8 O Z) (Γ1:=[]) (Γ2:=[_]) S J J ?_;rintro _ ah ai B a9 E' S ⟨aw,ax,aj,ak,al,am,an,rfl,aa,rfl⟩;replace U:=Hp.le_trans U a9;replace E:=E.trans E';replace S:St ah ai F [_,_,_,_]:=S;refine wmT J (W_v _ (QW J J) J (W_v _ (QW J J) J (waL J (waP J (wnQ (wsQ (wmP J (waP J (waI J (wnQ ?_))))))))));refine QR ?_;obtain rfl:=oi H;exact ⟨_,_,_,rsA (vs:=[_,_]) J,U,E,S.pk [1,2],⟨aj,ak,al,am,an,J,aa,J⟩⟩
def YC (B:Int):Nat→List Qw→Int→Option ((List Qw))
 | 0,_,_=>none
 | k+1,E,G=>(if 0≤B∧B<(E.length:Int) then (if (decide (G<(((rd E B).Answer.Pairs).length:Int)))=true then (if 0≤B∧B<(E.length:Int) then (if 0≤G∧G<(((rd E B).Answer.Pairs).length:Int) then (Option.bind (α:=List Qo) (some (List.set ((rd E B).Answer.Pairs) G.toNat (⟨([115,112,111,105,108,116]:Str),(rd ((rd E B).Answer.Pairs) G).Value⟩:Qo))) (fun H=>(Option.bind (α:=List Qw) (some (List.set E B.toNat (⟨(rd E B).Task,(rd E B).Call,⟨(rd E B).Answer.Err,(rd E B).Answer.Found,(rd E B).Answer.Value,H⟩,(rd E B).Mark,(rd E B).Back⟩:Qw))) (fun K=>YC B k K (IntKind.i64.wrap (G+(1:Int))))))) else none) else none) else some (E)) else none)
theorem YC.mono {B}: ∀ {kl:Nat} {E G},OLe (YC B kl E G) (YC B (kl+1) E G):=by
 intro kl
 induction kl with
 | zero=>intros;exact OLe.none
 | succ kl ih =>
  intros
  rw [YC.eq_2,YC.eq_2];exact mo
def YD (G:(List Qi)):Nat→List Qw→Int→Option ((Bool)⊕(Unit))
 | 0,_,_=>none
 | k+1,E,B=>(if (decide (B<(E.length:Int)))=true then (if 0≤B∧B<(E.length:Int) then (if 0≤B∧B<(G.length:Int) then (Option.bind (α:=Bool) (if ((rd E B).Task != (rd G B).Task)=true then some (true) else (if 0≤B∧B<(G.length:Int) then some (((rd E B).Call != (rd G B).Call)) else none)) (fun H=>(Option.bind (α:=Bool) (if H=true then some (true) else (if 0≤B∧B<(G.length:Int) then some (((rd E B).Mark != (rd G B).Mark)) else none)) (fun K=>(Option.bind (α:=Bool) (if K=true then some (true) else (if 0≤B∧B<(G.length:Int) then some (((rd E B).Back != (rd G B).Back)) else none)) (fun O=>(Option.bind (α:=Bool) (if O=true then some (true) else (if 0≤B∧B<(G.length:Int) then (Option.bind (Zw k ((rd E B).Answer) ((rd G B).Answer)) (fun U=>some ((!U)))) else none)) (fun V=>(if V=true then some (.inl false) else (Option.bind (YC B k E (0:Int)) (fun W=>YD G k W (IntKind.i64.wrap (B+(1:Int)))))))))))))) else none) else none) else some (.inr ()))
theorem YD.mono {B}: ∀ {kl:Nat} {E G},OLe (YD B kl E G) (YD B (kl+1) E G):=by
 intro kl
 induction kl with
 | zero=>intros;exact OLe.none
 | succ kl ih =>
  intros
  rw [YD.eq_2,YD.eq_2];have m1:=@YC.mono;have m2:=@Zw.mono;exact mo
def Zz (k:Nat) (E:(List Qw)) (G:(List Qi)):Option (Bool) :=
 (if ((E.length:Int) != (G.length:Int))=true then some false else (Option.bind (YD G k E (0:Int)) (fun B=>Sum.elim (fun r'=>some r') (fun _=>some true) B)))
theorem Zz.mono {k B E}: OLe (Zz k B E) (Zz (k+1) B E):=by
 unfold Zz;have m1:=@YD.mono;exact mo
theorem Zz.con {k M A0 c0} {a0:(List Qw)} {A1 c1} {a1:(List Qi)} {r:Bool} (h:Zz k a0 a1=some r): Con Tryz.prog 12 #[.slice A0 a0.length c0,.slice A1 a1.length c1] M [Stk YR 93 (.slice A0 a0.length c0) a0,Rw Yu 94 A1 c1 a1] (fun v M' dv=>v=.bool r∧dv=[]):=by
 refine cwA Tryz.func12 J Tryz.ntmps12 Tryz.results12 J h ?_;intro w F rn S fi E HM H;unfold Zz at H;refine wsQ (waB J (wnQ (QJ (wsQ (wmL J (W_v _ (Qd (n:=a0.length) Tryz.underlying39 J) J (wmL J (W_v _ (Qd (n:=a1.length) Tryz.underlying41 J) J (wiB J J (wnQ ?_))))))))));rcases Q0 H with ⟨c9,H⟩ | ⟨c9,H⟩
 ·refine QD (cB c9) ?_;refine wsQ (waB J (wnQ ?_));refine QR ?_;refine tr (?_);obtain rfl:=oi H;exact ⟨_,_,_,rsA (vs:=[_]) J,HM,E,S.pk [],⟨J,J⟩⟩
 refine QA (cB c9) (QT (tn (QJ (wsQ (waI J (wnQ ?_))))));obtain ⟨O,ca,ag,S⟩:=S.row_freeze 1 J;replace HM:=Hp.le_trans HM ca;obtain ⟨bi,cb,bb⟩:=QM H;refine Zs (fun ρ w'=>.inr ()=bi∧QX ρ []∧Ext w w'∧St w' O F []) ?_ ?_
 ·refine Y8 (fun n ρ w'=>∃ (G:List Qw) (B:Int) (a3:Option Addr) (a4:Nat),YD a1 n G B=some bi∧QX ρ [(0,.slice a3 G.length a4),(1,.slice A1 a1.length c1),(5,vI B)]∧Ext w w'∧St w' O F [Stk YR 93 (.slice a3 G.length a4) G]) k ?_ ?_
  ·exact ⟨a0,(0:Int),A0,c0,cb,agP J,E,S.pk [0]⟩
  ·intro n;rintro ρ dg ⟨G,B,a3,a4,H,a9,E,S⟩;rw [QC a9]
   cases n with
   | zero=>cases H
   | succ k =>
    rw [YD.eq_2] at H;refine QJ (wsQ (wmI J (wmL J (W_v _ (Qd (n:=G.length) Tryz.underlying39 J) J (wiB J J (wnQ ?_))))));rcases Q0 H with ⟨ay,H⟩ | ⟨ay,H⟩
    ·refine QD (cB ay) ?_;refine QT (tn (QJ ?_));refine Zg ?_;refine QJ (QJ ?_);obtain ⟨⟨ai,aj⟩,H⟩:=Z3 H;obtain ⟨a6,a7,S⟩:=S.stk_out 0 J (Jl ai aj);obtain ⟨ee,a2⟩:=S.stkx_at 1 J;replace S:St dg O F [_,_]:=S;refine rgA S [0,1] [_,_] 64 mixed J (eE1 E ?_);intro ef E S Z;refine tz0 0 J Z (xmL J) (tz0 1 J Z (xmI J) (tz0 2 J Z (QP Tryz.underlying39 ty93 (slA a2) J ai aj) (tz0 3 J Z (xfA Tryz.underlying93 ty3 J) (Wt 4 J J J (vI ((rd G B).Task)) J (fun w' h'=>V7 h' 1 J a2 0 J ty3 J) Z (tz0 5 J Z (xmL J) (tz0 6 J Z (xmI J) ?_))))));obtain ⟨⟨bj,bk⟩,H⟩:=Z3 H;obtain ⟨eg,eh,dz,_,_,cc,cd,e0,ce,cf⟩:=SlW.at' ag bj bk;obtain ⟨ei,cg,rfl⟩:=ce;obtain ⟨ej,ek,rfl,_⟩:=cg.form;refine tz0 7 J Z (QP Tryz.underlying41 ty94 (slA cc) J bj bk) (tz0 8 J Z (xfA Tryz.underlying94 ty3 J) (tz1 9 J Z (fun w' h'=>YU (XT h' cd) ty3 J (cf 0 _ J)) (tz0 10 J Z (xiB J J) (tz0 11 J Z (xmB J) ?_))));obtain ⟨dh,ch,ci⟩:=QM H;refine YV (fun ρ w'=>∃ (b3:Bool),(b3)=dh∧QX ρ [(0,.slice a3 G.length a4),(1,.slice A1 a1.length c1),(5,vI B),(41,.bool b3)]∧Ext w w'∧St w' O F [Row Ql 66 (.slice a6 ((rd G B).Answer.Pairs).length a7) ((rd G B).Answer.Pairs),StkX YR 93 (.slice a3 G.length a4) G B.toNat (rd G B) (a6,a7)]) 40 (Ls 64 [0,1,2,3,4,5,6,7,8,9,10,11,12,13,14,15,16,17,18,19,20,21,22,23]) ?_ ?_;rotate_left
     ·intro a5;have H:=ch;rcases Q0 H with ⟨U,H⟩ | ⟨U,H⟩
      ·refine tz4 12 J (skF U) Z (tz4 13 J (skF U) Z (tz4 14 J (skF U) Z (tz4 15 J (skF U) Z (tz4 16 J (skF U) Z (tz4 17 J (skF U) Z (tz4 18 J (skF U) Z (tz4 19 J (skF U) Z (tz4 20 J (skF U) Z (tz4 21 J (skF U) Z (tz4 22 J (skF U) Z (tz0 23 J Z (xpB U J) ?_)))))))))));exact a5 _ _ ⟨true,oi H,agP J,E,S.pk [0,1]⟩
      ·refine tz2 12 J (cS U) Z (xmL J) (tz2 13 J (cS U) Z (xmI J) (tz2 14 J (cS U) Z (QP Tryz.underlying39 ty93 (slA a2) J ai aj) (tz2 15 J (cS U) Z (xfA Tryz.underlying93 ty3 J) (WtY 16 J J J (vI ((rd G B).Call)) J (cS U) (fun w' h'=>V7 h' 1 J a2 1 J ty3 J) Z (tz2 17 J (cS U) Z (xmL J) (tz2 18 J (cS U) Z (xmI J) ?_))))));obtain ⟨⟨bl,bm⟩,H⟩:=Z3 H;obtain ⟨el,em,e1,_,_,cj,cm,e2,cn,co⟩:=SlW.at' ag bl bm;obtain ⟨en,cp,rfl⟩:=cn;obtain ⟨eo,ep,rfl,_⟩:=cp.form;refine tz2 19 J (cS U) Z (QP Tryz.underlying41 ty94 (slA cj) J bl bm) (tz2 20 J (cS U) Z (xfA Tryz.underlying94 ty3 J) (tz3 21 J (cS U) Z (fun w' h'=>YU (XT h' cm) ty3 J (co 1 _ J)) (tz2 22 J (cS U) Z (xiB J J) (tz0 23 J Z (xqB U J) ?_))));exact a5 _ _ ⟨((rd G B).Call != (rd a1 B).Call),oi H,agP J,E,S.pk [0,1]⟩
     rintro ρ es ⟨b3,rfl,a9,E,S⟩;rw [QC a9];have H:=ci;refine tz0 24 J (⟨O,Hp.le_refl O,(S.pk [0,1])⟩) (xmB J) ?_;obtain ⟨dj,cq,cr⟩:=QM H;refine YV (fun ρ w'=>∃ (b4:Bool),(b4)=dj∧QX ρ [(0,.slice a3 G.length a4),(1,.slice A1 a1.length c1),(5,vI B),(54,.bool b4)]∧Ext w w'∧St w' O F [Row Ql 66 (.slice a6 ((rd G B).Answer.Pairs).length a7) ((rd G B).Answer.Pairs),StkX YR 93 (.slice a3 G.length a4) G B.toNat (rd G B) (a6,a7)]) 27 (Ls 64 [0,1,2,3,4,5,6,7,8,9,10,11,12,13,14,15,16,17,18,19,20,21,22,23,24,25,26,27,28,29,30,31,32,33,34,35,36]) ?_ ?_;rotate_left
     ·intro a5;have H:=cq;rcases Q0 H with ⟨V,H⟩ | ⟨V,H⟩
      ·have D5:∃ Mx,Hp.le O Mx∧St _ Mx F [_,_]:=⟨_,Hp.le_refl _,S.pk [0,1]⟩;refine tz4 25 J (skF V) D5 (tz4 26 J (skF V) D5 (tz4 27 J (skF V) D5 (tz4 28 J (skF V) D5 (tz4 29 J (skF V) D5 (tz4 30 J (skF V) D5 (tz4 31 J (skF V) D5 (tz4 32 J (skF V) D5 (tz4 33 J (skF V) D5 (tz4 34 J (skF V) D5 (tz4 35 J (skF V) D5 (tz0 36 J D5 (xpB V J) ?_)))))))))));exact a5 _ _ ⟨true,oi H,agP J,E,S.pk [0,1]⟩
      ·have D6:∃ Mx,Hp.le O Mx∧St _ Mx F [_,_]:=⟨_,Hp.le_refl _,S.pk [0,1]⟩;refine tz2 25 J (cS V) D6 (xmL J) (tz2 26 J (cS V) D6 (xmI J) (tz2 27 J (cS V) D6 (QP Tryz.underlying39 ty93 (slA a2) J ai aj) (tz2 28 J (cS V) D6 (xfA Tryz.underlying93 ty3 J) (WtY 29 J J J (vI ((rd G B).Mark)) J (cS V) (fun w' h'=>V7 h' 1 J a2 6 J ty3 J) D6 (tz2 30 J (cS V) D6 (xmL J) (tz2 31 J (cS V) D6 (xmI J) ?_))))));obtain ⟨⟨bo,bp⟩,H⟩:=Z3 H;obtain ⟨et,eu,e3,_,_,ct,cu,e4,cv,cw⟩:=SlW.at' ag bo bp;obtain ⟨ev,cx,rfl⟩:=cv;obtain ⟨ew,ey,rfl,_⟩:=cx.form;refine tz2 32 J (cS V) D6 (QP Tryz.underlying41 ty94 (slA ct) J bo bp) (tz2 33 J (cS V) D6 (xfA Tryz.underlying94 ty3 J) (tz3 34 J (cS V) D6 (fun w' h'=>YU (XT h' cu) ty3 J (cw 6 _ J)) (tz2 35 J (cS V) D6 (xiB J J) (tz0 36 J D6 (xqB V J) ?_))));exact a5 _ _ ⟨((rd G B).Mark != (rd a1 B).Mark),oi H,agP J,E,S.pk [0,1]⟩
     rintro ρ ez ⟨b4,rfl,a9,E,S⟩;rw [QC a9];have H:=cr;refine tz0 37 J (⟨O,Hp.le_refl O,(S.pk [0,1])⟩) (xmB J) ?_;obtain ⟨dk,cy,cz⟩:=QM H;refine YV (fun ρ w'=>∃ (b5:Bool),(b5)=dk∧QX ρ [(0,.slice a3 G.length a4),(1,.slice A1 a1.length c1),(5,vI B),(67,.bool b5)]∧Ext w w'∧St w' O F [Row Ql 66 (.slice a6 ((rd G B).Answer.Pairs).length a7) ((rd G B).Answer.Pairs),StkX YR 93 (.slice a3 G.length a4) G B.toNat (rd G B) (a6,a7)]) 14 (Ls 64 [0,1,2,3,4,5,6,7,8,9,10,11,12,13,14,15,16,17,18,19,20,21,22,23,24,25,26,27,28,29,30,31,32,33,34,35,36,37,38,39,40,41,42,43,44,45,46,47,48,49]) ?_ ?_;rotate_left
     ·intro a5;have H:=cy;rcases Q0 H with ⟨W,H⟩ | ⟨W,H⟩
      ·have D8:∃ Mx,Hp.le O Mx∧St _ Mx F [_,_]:=⟨_,Hp.le_refl _,S.pk [0,1]⟩;refine tz4 38 J (skF W) D8 (tz4 39 J (skF W) D8 (tz4 40 J (skF W) D8 (tz4 41 J (skF W) D8 (tz4 42 J (skF W) D8 (tz4 43 J (skF W) D8 (tz4 44 J (skF W) D8 (tz4 45 J (skF W) D8 (tz4 46 J (skF W) D8 (tz4 47 J (skF W) D8 (tz4 48 J (skF W) D8 (tz0 49 J D8 (xpB W J) ?_)))))))))));exact a5 _ _ ⟨true,oi H,agP J,E,S.pk [0,1]⟩
      ·have D9:∃ Mx,Hp.le O Mx∧St _ Mx F [_,_]:=⟨_,Hp.le_refl _,S.pk [0,1]⟩;refine tz2 38 J (cS W) D9 (xmL J) (tz2 39 J (cS W) D9 (xmI J) (tz2 40 J (cS W) D9 (QP Tryz.underlying39 ty93 (slA a2) J ai aj) (tz2 41 J (cS W) D9 (xfA Tryz.underlying93 ty3 J) (WtY 42 J J J (vI ((rd G B).Back)) J (cS W) (fun w' h'=>V7 h' 1 J a2 7 J ty3 J) D9 (tz2 43 J (cS W) D9 (xmL J) (tz2 44 J (cS W) D9 (xmI J) ?_))))));obtain ⟨⟨bq,bt⟩,H⟩:=Z3 H;obtain ⟨f1,f2,e5,_,_,d0,d1,e6,d2,d3⟩:=SlW.at' ag bq bt;obtain ⟨f3,d4,rfl⟩:=d2;obtain ⟨f4,f5,rfl,_⟩:=d4.form;refine tz2 45 J (cS W) D9 (QP Tryz.underlying41 ty94 (slA d0) J bq bt) (tz2 46 J (cS W) D9 (xfA Tryz.underlying94 ty3 J) (tz3 47 J (cS W) D9 (fun w' h'=>YU (XT h' d1) ty3 J (d3 7 _ J)) (tz2 48 J (cS W) D9 (xiB J J) (tz0 49 J D9 (xqB W J) ?_))));exact a5 _ _ ⟨((rd G B).Back != (rd a1 B).Back),oi H,agP J,E,S.pk [0,1]⟩
     rintro ρ f6 ⟨b5,rfl,a9,E,S⟩;rw [QC a9];have H:=cz;refine tz0 50 J (⟨O,Hp.le_refl O,(S.pk [0,1])⟩) (xmB J) ?_;obtain ⟨dm,d5,d6⟩:=QM H;refine YV (fun ρ w'=>∃ (b6:Bool),(b6)=dm∧QX ρ [(0,.slice a3 G.length a4),(1,.slice A1 a1.length c1),(5,vI B),(81,.bool b6)]∧Ext w w'∧St w' O F [Row Ql 66 (.slice a6 ((rd G B).Answer.Pairs).length a7) ((rd G B).Answer.Pairs),StkX YR 93 (.slice a3 G.length a4) G B.toNat (rd G B) (a6,a7)]) 0 (Ls 64 [0,1,2,3,4,5,6,7,8,9,10,11,12,13,14,15,16,17,18,19,20,21,22,23,24,25,26,27,28,29,30,31,32,33,34,35,36,37,38,39,40,41,42,43,44,45,46,47,48,49,50,51,52,53,54,55,56,57,58,59,60,61,62,63]) ?_ ?_;rotate_left
     ·intro a5;have H:=d5;rcases Q0 H with ⟨K,H⟩ | ⟨K,H⟩
      ·have ab:∃ Mx,Hp.le O Mx∧St _ Mx F [_,_]:=⟨_,Hp.le_refl _,S.pk [0,1]⟩;refine tz4 51 J (skF K) ab (tz4 52 J (skF K) ab (tz4 53 J (skF K) ab (tz4 54 J (skF K) ab (tz4 55 J (skF K) ab (tz4 56 J (skF K) ab (tz4 57 J (skF K) ab (tz4 58 J (skF K) ab (tz4 59 J (skF K) ab (tz4 60 J (skF K) ab (tz4 61 J (skF K) ab (tz4 62 J (skF K) ab (tz0 63 J ab (xpB K J) ?_))))))))))));exact a5 _ _ ⟨true,oi H,agP J,E,S.pk [0,1]⟩
      ·have am:∃ Mx,Hp.le O Mx∧St _ Mx F [_,_]:=⟨_,Hp.le_refl _,S.pk [0,1]⟩;refine tz2 51 J (cS K) am (xmL J) (tz2 52 J (cS K) am (xmI J) (tz2 53 J (cS K) am (QP Tryz.underlying39 ty93 (slA a2) J ai aj) (tz2 54 J (cS K) am (xfA Tryz.underlying93 ty62 J) (WtY 55 J J J (.agg #[vI ((rd G B).Answer.Err),.bool ((rd G B).Answer.Found),vS ((rd G B).Answer.Value),.slice a6 ((rd G B).Answer.Pairs).length a7]) J (cS K) (fun w' h'=>Jb h' 1 J a2 2 J ty62 J J J) am (tz2 56 J (cS K) am (xmL J) (tz2 57 J (cS K) am (xmI J) ?_))))));obtain ⟨⟨bu,bv⟩,H⟩:=Z3 H;obtain ⟨f7,f8,e7,_,_,d7,d8,e8,d9,da⟩:=SlW.at' ag bu bv;obtain ⟨f9,bc,rfl⟩:=d9;obtain ⟨dp,dq,rfl,_⟩:=bc.form;refine tz2 58 J (cS K) am (QP Tryz.underlying41 ty94 (slA d7) J bu bv) (tz2 59 J (cS K) am (xfA Tryz.underlying94 ty62 J) (WtY 60 J J J (.agg #[vI ((rd a1 B).Answer.Err),.bool ((rd a1 B).Answer.Found),vS ((rd a1 B).Answer.Value),.slice dp ((rd a1 B).Answer.Pairs).length dq]) J (cS K) (fun w' h'=>Qf (XT h' d8) ty62 J (X6 da 2 J) J J) am ?_));refine Wo 61 J ?_;refine QL (cS K) ?_;obtain ⟨bw,db,H⟩:=QM H;refine V2 1 fn38 (fun h9 e9 ea=>Zw.con db (Sats.row e9 ea 0 J) (SlR.mono bc (Hp.le_union_left _ _))) S J J flN (eE4 E ?_);rintro _ fa _ dv E S ⟨rfl,rfl⟩;refine QH (Ya ⟨.inr ⟨O,Hp.le_refl O,(S.pk [0,1])⟩,?_⟩);have dw:∃ Mx,Hp.le O Mx∧St _ Mx F [_,_]:=⟨_,Hp.le_refl _,S.pk [0,1]⟩;refine tz2 62 J (cS K) dw (X2 (b:=bw) J) (tz0 63 J dw (xqB K J) ?_);exact a5 _ _ ⟨(!bw),oi H,agP J,E,S.pk [0,1]⟩
     rintro ρ dr ⟨b6,rfl,a9,E,S⟩;rw [QC a9];have H:=d6;refine Wz ?_;replace S:=S.stk_in 1 J 0 J;replace S:St dr O F [_]:=S;refine tn ?_;rcases Q0 H with ⟨az,H⟩ | ⟨az,H⟩
     ·refine QD (cB az) ?_;refine wsQ (waB J (wnQ ?_));refine QR ?_;refine tr (br (tr (tr (br (tr (tr (?_)))))));obtain rfl:=oi H;have H:=bb;replace H:=elimL H;obtain rfl:=oi H;exact ⟨_,_,_,rsA (vs:=[_]) J,HM,E,S.pk [],⟨J,J⟩⟩
     refine QA (cB az) (QT (tn ?_))
     as_aux_lemma =>
     refine wsQ (waI J (wnQ ?_));obtain ⟨bz,dc,dd⟩:=QM H;refine Zs (fun ρ w'=>∃ (ak:List Qw) (av:Option Addr) (aw:Nat),(ak)=bz∧QX ρ [(0,.slice av ak.length aw),(1,.slice A1 a1.length c1),(5,vI B)]∧Ext w w'∧St w' O F [Stk YR 93 (.slice av ak.length aw) ak]) ?_ ?_
     ·refine Y8 (fun n ρ w'=>∃ (Y:List Qw) (al:Int) (ae:Option Addr) (af:Nat),YC B n Y al=some bz∧QX ρ [(0,.slice ae Y.length af),(1,.slice A1 a1.length c1),(5,vI B),(6,vI al)]∧Ext w w'∧St w' O F [Stk YR 93 (.slice ae Y.length af) Y]) k ?_ ?_
      ·exact ⟨G,(0:Int),a3,a4,dc,agP J,E,S.pk [0]⟩
      ·intro n;rintro ρ b7 ⟨Y,al,ae,af,H,a9,E,S⟩;rw [QC a9]
       cases n with
       | zero=>cases H
       | succ k =>
        rw [YC.eq_2] at H;refine QJ (QJ ?_);obtain ⟨⟨c2,c3⟩,H⟩:=Z3 H;obtain ⟨ds,dt,S⟩:=S.stk_out 0 J (Jl c2 c3);obtain ⟨fb,bd⟩:=S.stkx_at 1 J;replace S:St b7 O F [_,_]:=S;refine QO (wmI J (wmL J (wmI J (W_v _ (QP Tryz.underlying39 ty93 (slA bd) J c2 c3) J (wfA Tryz.underlying93 ty62 J (wfA Tryz.underlying62 ty60 J (W_v (.slice ds ((rd Y B).Answer.Pairs).length dt) (V7 ⟨O,Hp.le_refl _,S⟩ 1 J bd 5 J ty60 J) J (W_v _ (Qd (n:=((rd Y B).Answer.Pairs).length) Tryz.underlying60 J) J (wiB J J (QH ?_))))))))));replace S:=S.stk_in 1 J 0 J;replace S:St b7 O F [_]:=S;refine tn ?_;rcases Q0 H with ⟨b0,H⟩ | ⟨b0,H⟩
        ·refine QD (cB b0) ?_;refine QT (tn (QJ ?_));refine Zg ?_;obtain ⟨⟨c4,c5⟩,H⟩:=Z3 H;obtain ⟨b8,b9,S⟩:=S.stk_out 0 J (Jl c4 c5);obtain ⟨fc,be⟩:=S.stkx_at 1 J;replace S:St b7 O F [_,_]:=S;refine QO (wmL J (wmI J (W_v _ (QP Tryz.underlying39 ty93 (slA be) J c4 c5) J (wfA Tryz.underlying93 ty62 J (wfA Tryz.underlying62 ty60 J (W_v (.slice b8 ((rd Y B).Answer.Pairs).length b9) (V7 ⟨O,Hp.le_refl _,S⟩ 1 J be 5 J ty60 J) J (wmI J ?_)))))));obtain ⟨⟨ax,an⟩,H⟩:=Z3 H;obtain ⟨fd,fe,eb,_,_,bf,ec,de,df,ed⟩:=SlW.at' (S.row_read 0 J) ax an;obtain rfl:de=_:=df;refine W_v _ (QP Tryz.underlying60 ty66 (slA bf) J ax an) J (wfA Tryz.underlying66 ty9 J ?_);obtain ⟨ba,ah,H⟩:=QM H;replace ah:=oi ah;refine Vh S 0 J J bf (by first | exact ax | simpa using ax) (by first | exact an | simpa using an) 0 ty9 rfl rfl [vS ([115,112,111,105,108,116]:Str)] rfl rfl rfl rfl (⟨([115,112,111,105,108,116]:Str),(rd ((rd Y B).Answer.Pairs) al).Value⟩:Qo) (by rintro _ rfl;rfl) ah (eE1 E ?_);intro du E S;have bg:Value.slice b8 ((rd Y B).Answer.Pairs).length b9=Value.slice b8 ba.length b9:=by rw [← ah,List.length_set]
         try rw [bg] at S
         try rw [bg]
         have ff:al<(ba.length:Int):=by rw [← ah,List.length_set];exact an
         obtain ⟨c6,ao,H⟩:=QM H;replace ao:=oi ao;replace S:=S.stk_inL 1 J (⟨(rd Y B).Task,(rd Y B).Call,⟨(rd Y B).Answer.Err,(rd Y B).Answer.Found,(rd Y B).Answer.Value,ba⟩,(rd Y B).Mark,(rd Y B).Back⟩:Qw) 0 J (fun _=>J) (by subst_vars;exact List.length_set);rw [ao] at S;have bh:Value.slice ae Y.length af=Value.slice ae c6.length af:=by rw [← ao,List.length_set]
         try rw [bh] at S
         try rw [bh]
         replace S:St du O F [_]:=S;refine QH (bn (tn (QO (wmI J (wiI J J (waI J (wnQ ?_)))))));exact ⟨k,Nat.lt_succ_self k,⟨c6,(IntKind.i64.wrap (al+(1:Int))),ae,af,H,agP J,E,S.pk [0]⟩⟩
        refine QA (cB b0) ?_;refine Yn ?_;refine tx (tx (bsm (?_)));refine tn ?_;exact ⟨Y,ae,af,oi H,agP J,E,S.pk [0]⟩
     rintro ρ fg ⟨ak,av,aw,rfl,a9,E,S⟩;rw [QC a9];have H:=dd;refine bn (tn (QO (wmI J (wiI J J (waI J (wnQ ?_))))));exact ⟨k,Nat.lt_succ_self k,⟨ak,(IntKind.i64.wrap (B+(1:Int))),av,aw,H,agP J,E,S.pk [0]⟩⟩
    refine QA (cB ay) ?_;refine Yn ?_;refine tx (tx (bsm (?_)));refine tn ?_;exact ⟨oi H,trivial,E,S.pk []⟩
 rintro ρ fh ⟨rfl,a9,E,S⟩;rw [QC a9];have H:=bb;replace H:=elimR H;refine tn ?_
 as_aux_lemma =>
 refine wsQ (waB J (wnQ ?_));refine QR ?_;obtain rfl:=oi H;exact ⟨_,_,_,rsA (vs:=[_]) J,HM,E,S.pk [],⟨J,J⟩⟩
def XZ (k:Nat) (B:QQ):Option (Int) :=
 some B.clock
theorem XZ.mono {k B}: OLe (XZ k B) (XZ (k+1) B):=by
 unfold XZ;exact mo
theorem XZ.con {k M A0_8 A0_9 A0_10 c0_10 A0_11} {vs0_11:List (Str×Value)} {B:QQ} {G} {r:Int} (h:XZ k B=some r) (hm0_11:Xn Qv M B.rows vs0_11): Con Tryz.prog 16 #[pt G 0] M [B107 G B A0_8 A0_9 A0_10 c0_10 A0_11,Y3 QF (Value.int .i64) A0_8 B.names,MpI A0_9 B.many,Rw QU 149 A0_10 c0_10 B.txs,MpV A0_11 vs0_11] (fun v M' K=>v=vI r∧K=[B107 G B A0_8 A0_9 A0_10 c0_10 A0_11,Y3 QF (Value.int .i64) A0_8 B.names,MpI A0_9 B.many,Rw QU 149 A0_10 c0_10 B.txs,MpV A0_11 vs0_11]):=by
 refine cwA Tryz.func16 J Tryz.ntmps16 Tryz.results16 J h ?_;intro w F V S U E O H;unfold XZ at H;refine wsQ (waI J (wnQ (QJ (wsQ (wmP J (W_v (.bool false) (Va (r:=false) J J (Vi Tryz.underlying31)) J (wnQ (QA J (QT (tn (QJ ?_)))))))))));refine QO (wmP J (W_v _ (QY J) J (wfA Tryz.underlying107 ty3 J (wlA S 0 ty3 J (waI J (wnQ ?_))))));refine QR ?_;obtain rfl:=oi H;exact ⟨_,_,_,rsA (vs:=[_]) J,O,E,S.pk [0,1,2,3,4],⟨J,J⟩⟩
def ZZ (H:QQ) (E:(List Str)):Nat→Int→Int→Option ((Int))
 | 0,_,_=>none
 | k+1,G,B=>(if (decide (B<(E.length:Int)))=true then (if 0≤B∧B<(E.length:Int) then ZZ H E k (IntKind.i64.wrap (G+(IntKind.i64.wrap (((((mget H.rows (rd E B)).getD cz19).l).length:Int)+(imin (1:Int) (((mget H.rows (rd E B)).getD cz19).intent.Writer)))))) (IntKind.i64.wrap (B+(1:Int))) else none) else some (G))
theorem ZZ.mono {B E}: ∀ {kl:Nat} {G H},OLe (ZZ B E kl G H) (ZZ B E (kl+1) G H):=by
 intro kl
 induction kl with
 | zero=>intros;exact OLe.none
 | succ kl ih =>
  intros
  rw [ZZ.eq_2,ZZ.eq_2];exact mo
def Yx (k:Nat) (E:QQ):Option (Int) :=
 (Option.bind (Zc k E) (fun G=>(Option.bind (ZZ E G k (0:Int) (0:Int)) (fun B=>some B))))
theorem Yx.mono {k B}: OLe (Yx k B) (Yx (k+1) B):=by
 unfold Yx;have m1:=@Zc.mono;have m2:=@ZZ.mono;exact mo
theorem Yx.con {k M A0_8 A0_9 A0_10 c0_10 A0_11} {vs0_11:List (Str×Value)} {G:QQ} {V} {r:Int} (h:Yx k G=some r) (hm0_11:Xn Qv M G.rows vs0_11): Con Tryz.prog 17 #[pt V 0] M [B107 V G A0_8 A0_9 A0_10 c0_10 A0_11,Y3 QF (Value.int .i64) A0_8 G.names,MpI A0_9 G.many,Rw QU 149 A0_10 c0_10 G.txs,MpV A0_11 vs0_11] (fun v M' al=>v=vI r∧al=[B107 V G A0_8 A0_9 A0_10 c0_10 A0_11,Y3 QF (Value.int .i64) A0_8 G.names,MpI A0_9 G.many,Rw QU 149 A0_10 c0_10 G.txs,MpV A0_11 vs0_11]):=by
 refine cwA Tryz.func17 J Tryz.ntmps17 Tryz.results17 J h ?_;intro w F rn S b7 E HM H;unfold Yx at H;refine wsQ (waI J (wnQ (wsQ (waI J (wnQ (QJ (wsQ (wmP J ?_))))))));obtain ⟨K,ap,H⟩:=QM H;refine YZ fn15 (Zc.con ap hm0_11) (Γ1:=[_,_,_,_,_]) (Γ2:=[]) S J J (by rintro _ _ _ ⟨_,_,rfl,rfl⟩;exact (QK (YY (fun _ _ _ _ h=>h)) (QK ZK (QK ZH (QK ZH (QK (YY (fun _ _ _ _ h=>h)) (QK ZH Z9))))))) (eE4 E ?_);rintro _ w6 _ al E S ⟨A3,c4,rfl,rfl⟩;replace S:St w6 M F [_,_,_,_,_,_]:=S;refine W_v _ (Qd (n:=K.length) Tryz.underlying43 J) J (wmI J (wnQ ?_));obtain ⟨a1,a8,a9⟩:=QM H;refine Zs (fun ρ w'=>∃ (Z:Int),(Z)=a1∧QX ρ [(3,vI Z)]∧Ext w w'∧St w' M F [B107 V G A0_8 A0_9 A0_10 c0_10 A0_11,Y3 QF (Value.int .i64) A0_8 G.names,MpI A0_9 G.many,Rw QU 149 A0_10 c0_10 G.txs,MpV A0_11 vs0_11]) ?_ ?_
 ·refine Y8 (fun n ρ w'=>∃ (W:Int) (B:Int),ZZ G K n W B=some a1∧QX ρ [(0,pt V 0),(3,vI W),(7,.slice A3 K.length c4),(8,vI (K.length:Int)),(9,vI B)]∧Ext w w'∧St w' M F [Rw rStr 9 A3 c4 K,B107 V G A0_8 A0_9 A0_10 c0_10 A0_11,Y3 QF (Value.int .i64) A0_8 G.names,MpI A0_9 G.many,Rw QU 149 A0_10 c0_10 G.txs,MpV A0_11 vs0_11]) k ?_ ?_
  ·exact ⟨(0:Int),(0:Int),a8,agP J,E,S.pk [0,1,2,3,4,5]⟩
  ·intro n;rintro ρ az ⟨W,B,H,a3,E,S⟩;rw [QC a3]
   cases n with
   | zero=>cases H
   | succ k =>
    rw [ZZ.eq_2] at H;refine wsQ (wiB J J (wnQ (QJ ?_)));rcases Q0 H with ⟨Y,H⟩ | ⟨Y,H⟩
    ·refine QD (cB Y) ?_;refine QT (tn (QJ ?_));refine Zg ?_;refine wsQ ?_;obtain ⟨⟨a4,a5⟩,H⟩:=Z3 H;obtain ⟨b0,b1,au,_,_,aa,ab,ac,ad,ae⟩:=SlW.at' (S.row_read 0 J) a4 a5;obtain rfl:ac=_:=ad;refine W_v _ (QP Tryz.underlying43 ty9 (slA aa) J a4 a5) J (W_v _ (YU (Hp.of_get ab) ty9 J (ae 0 _ J)) J (waS J (wnQ ?_)));refine rgA S [0,1,2,3,4,5] [_,_,_,_,_,_] 21 mixed J (eE1 E ?_);intro b2 E S O;refine tz0 0 J O (xmI J) (tz0 1 J O (xmP J) (tz0 2 J O (QY J) (tz0 3 J O (xfA Tryz.underlying107 ty100 J) (tz1 4 J O (fun w' U=>xlA U 1 ty100 J) (tz0 5 J O (xmS J) ?_)))));obtain ⟨av,af,ag⟩:=hm0_11.get (rd K B) (z:=cz19) (zc:=[.slice none 0 0,vI 0,vI 0,.bool false,vS ([]:Str)]) ⟨_,SlW.nil _ _,J⟩;obtain ⟨b3,ah,rfl⟩:=af;obtain ⟨a6,a7,rfl,_⟩:=ah.form;refine Wt 6 J J J (.agg #[.slice a6 (((mget G.rows (rd K B)).getD cz19).l).length a7,vI (((mget G.rows (rd K B)).getD cz19).intent.Writer),vI (((mget G.rows (rd K B)).getD cz19).intent.TS),.bool (((mget G.rows (rd K B)).getD cz19).intent.Tomb),vS (((mget G.rows (rd K B)).getD cz19).intent.Value)]) J (fun w' U=>Exists.elim U fun Mx h9=>(Eq.trans (V4 h9.2 5 J Tryz.underlying100 key9 (Value.agg cz13) (fun _=>ty102.zero) (rd K B) J J) (by rw [show (mget vs0_11 (rd K B)).getD (Value.agg cz13)=_ from ag]))) O (Wt 7 rfl rfl rfl (.slice a6 (((mget G.rows (rd K B)).getD cz19).l).length a7) rfl (fun w' U=>Ki Tryz.underlying102 rfl rfl ty54 rfl) O (Wt 8 rfl rfl rfl (vI ((((mget G.rows (rd K B)).getD cz19).l).length:Int)) rfl (fun w' U=>Qd (n:=(((mget G.rows (rd K B)).getD cz19).l).length) Tryz.underlying54 rfl) O (Wt 9 rfl rfl rfl (pt V 0) rfl (fun w' U=>XF rfl) O (Wt 10 rfl rfl rfl (pt V 0) rfl (fun w' U=>QY rfl) O (Wt 11 rfl rfl rfl (pt V 11) rfl (fun w' U=>VF (o:=0) (off:=11) Tryz.underlying107 rfl ty100 rfl rfl) O (Wt 12 rfl rfl rfl (.map (mb A0_11)) rfl (fun w' U=>YU (Yq U 1 rfl) ty100 rfl rfl) O (Wt 13 rfl rfl rfl (vS (rd K B)) rfl (fun w' U=>XF rfl) O ?_)))))));obtain ⟨aw,ai,aj⟩:=hm0_11.get (rd K B) (z:=cz19) (zc:=[.slice none 0 0,vI 0,vI 0,.bool false,vS ([]:Str)]) ⟨_,SlW.nil _ _,J⟩;obtain ⟨b5,ak,rfl⟩:=ai;obtain ⟨an,ao,rfl,_⟩:=ak.form;refine Wt 14 J J J (.agg #[.slice an (((mget G.rows (rd K B)).getD cz19).l).length ao,vI (((mget G.rows (rd K B)).getD cz19).intent.Writer),vI (((mget G.rows (rd K B)).getD cz19).intent.TS),.bool (((mget G.rows (rd K B)).getD cz19).intent.Tomb),vS (((mget G.rows (rd K B)).getD cz19).intent.Value)]) J (fun w' U=>Exists.elim U fun Mx h9=>(Eq.trans (V4 h9.2 5 J Tryz.underlying100 key9 (Value.agg cz13) (fun _=>ty102.zero) (rd K B) J J) (by rw [show (mget vs0_11 (rd K B)).getD (Value.agg cz13)=_ from aj]))) O (Wt 15 rfl rfl rfl (.agg (Z2 ((mget G.rows (rd K B)).getD cz19).intent)) rfl (fun w' U=>Jt Tryz.underlying102 rfl rfl ty51 rfl) O (Wt 16 rfl rfl rfl (vI (((mget G.rows (rd K B)).getD cz19).intent.Writer)) rfl (fun w' U=>Ki Tryz.underlying51 rfl rfl ty3 rfl) O (Wt 17 rfl rfl rfl (vI (imin (1:Int) (((mget G.rows (rd K B)).getD cz19).intent.Writer))) rfl (fun w' U=>UU rfl rfl) O (Wt 18 rfl rfl rfl (vI (IntKind.i64.wrap (((((mget G.rows (rd K B)).getD cz19).l).length:Int)+(imin (1:Int) (((mget G.rows (rd K B)).getD cz19).intent.Writer))))) rfl (fun w' U=>V3 rfl rfl rfl rfl) O (Wt 19 rfl rfl rfl (vI (IntKind.i64.wrap (W+(IntKind.i64.wrap (((((mget G.rows (rd K B)).getD cz19).l).length:Int)+(imin (1:Int) (((mget G.rows (rd K B)).getD cz19).intent.Writer))))))) rfl (fun w' U=>V3 rfl rfl rfl rfl) O (Wt 20 rfl rfl rfl (vI (IntKind.i64.wrap (W+(IntKind.i64.wrap (((((mget G.rows (rd K B)).getD cz19).l).length:Int)+(imin (1:Int) (((mget G.rows (rd K B)).getD cz19).intent.Writer))))))) rfl (fun w' U=>YW rfl) O ?_))))));refine Wz ?_;refine bn (tn (QO (wiI J J (wmI J (wnQ ?_)))));exact ⟨k,Nat.lt_succ_self k,⟨(IntKind.i64.wrap (W+(IntKind.i64.wrap (((((mget G.rows (rd K B)).getD cz19).l).length:Int)+(imin (1:Int) (((mget G.rows (rd K B)).getD cz19).intent.Writer)))))),(IntKind.i64.wrap (B+(1:Int))),H,agP J,E,S.pk [0,1,2,3,4,5]⟩⟩
    refine QA (cB Y) ?_;refine Yn ?_;refine tx (tx (bsm (?_)));refine tn ?_;exact ⟨W,oi H,agP J,E,S.pk [1,2,3,4,5]⟩
 rintro ρ b6 ⟨Z,rfl,a3,E,S⟩;rw [QC a3];have H:=a9;refine tn ?_
 as_aux_lemma =>
 refine wsQ (wmI J (waI J (wnQ ?_)));refine QR ?_;obtain rfl:=oi H;exact ⟨_,_,_,rsA (vs:=[_]) J,HM,E,S.pk [0,1,2,3,4],⟨J,J⟩⟩
def ZA (E:QG):Nat→Int→Int→Option ((Int))
 | 0,_,_=>none
 | k+1,G,B=>(if (decide (B<(E.L.length:Int)))=true then (Option.bind (α:=Int) (if 0≤B∧B<(E.L.length:Int) then (if 0≤B∧B<(E.L.length:Int) then (Option.bind (α:=Int) (if (rd E.L B).Has=true then some ((IntKind.i64.wrap ((IntKind.i64.wrap (G+(((rd E.L B).L).length:Int)))+(1:Int)))) else some ((IntKind.i64.wrap (G+(((rd E.L B).L).length:Int))))) (fun H=>some (H))) else none) else none) (fun K=>ZA E k K (IntKind.i64.wrap (B+(1:Int))))) else some (G))
theorem ZA.mono {B}: ∀ {kl:Nat} {E G},OLe (ZA B kl E G) (ZA B (kl+1) E G):=by
 intro kl
 induction kl with
 | zero=>intros;exact OLe.none
 | succ kl ih =>
  intros
  rw [ZA.eq_2,ZA.eq_2];exact mo
def Zf (k:Nat) (E:QG):Option (Int) :=
 (Option.bind (ZA E k (0:Int) (0:Int)) (fun B=>some B))
theorem Zf.mono {k B}: OLe (Zf k B) (Zf (k+1) B):=by
 unfold Zf;have m1:=@ZA.mono;exact mo
theorem Zf.con {k M A0_8 c0_8 A0_9 c0_9} {B:QG} {K} {r:Int} (h:Zf k B=some r) (hr0_9:SlR Qg M (.slice A0_9 B.L.length c0_9) B.L): Con Tryz.prog 18 #[pt K 0] M [B48 K B A0_8 c0_8 A0_9 c0_9,Rw QE 167 A0_8 c0_8 B.T] (fun v M' aq=>v=vI r∧aq=[B48 K B A0_8 c0_8 A0_9 c0_9,Rw QE 167 A0_8 c0_8 B.T]):=by
 refine cwA Tryz.func18 J Tryz.ntmps18 Tryz.results18 J h ?_;intro w F rn S bc E HM H;unfold Zf at H;refine wsQ (waI J (wnQ (wsQ (waI J (wnQ (QJ (wsQ (waI J (wnQ ?_)))))))));obtain ⟨a5,aa,ab⟩:=QM H;refine Zs (fun U w'=>∃ (a2:Int),(a2)=a5∧QX U [(3,vI a2)]∧Ext w w'∧St w' M F [B48 K B A0_8 c0_8 A0_9 c0_9,Rw QE 167 A0_8 c0_8 B.T]) ?_ ?_
 ·refine Y8 (fun n U w'=>∃ (O:Int) (G:Int),ZA B n O G=some a5∧QX U [(0,pt K 0),(3,vI O),(4,vI G)]∧Ext w w'∧St w' M F [B48 K B A0_8 c0_8 A0_9 c0_9,Rw QE 167 A0_8 c0_8 B.T]) k ?_ ?_
  ·exact ⟨(0:Int),(0:Int),aa,agP J,E,S.pk [0,1]⟩
  ·intro n;rintro U ay ⟨O,G,H,V,E,S⟩;rw [QC V]
   cases n with
   | zero=>cases H
   | succ k =>
    rw [ZA.eq_2] at H;refine QJ (wsQ (wmI J (wmP J (W_v _ (QY J) J (wfA Tryz.underlying48 ty46 J (wlA S 0 ty46 J (W_v _ (Qd (n:=B.L.length) Tryz.underlying46 J) J (wiB J J (wnQ ?_)))))))));rcases Q0 H with ⟨W,H⟩ | ⟨W,H⟩
    ·refine QD (cB W) ?_;refine QT (tn (QJ ?_));obtain ⟨ao,ac,a3⟩:=QM H;refine X3 (fun U w'=>∃ (Y:Int),(Y)=ao∧QX U [(0,pt K 0),(3,vI Y),(4,vI G)]∧Ext w w'∧St w' M F [B48 K B A0_8 c0_8 A0_9 c0_9,Rw QE 167 A0_8 c0_8 B.T]) ?_ ?_
     ·as_aux_lemma =>
       clear a3;have H:=ac;refine Zg ?_;refine wsQ (wmI J (wmP J (W_v _ (QY J) J (wfA Tryz.underlying48 ty46 J (wlA S 0 ty46 J (wmI J ?_))))));obtain ⟨⟨a6,a7⟩,H⟩:=Z3 H;obtain ⟨az,b0,ar,_,_,ad,ae,au,af,ag⟩:=SlW.at' hr0_9 a6 a7;obtain ⟨b1,ah,rfl⟩:=af;obtain ⟨b2,b3,rfl,_⟩:=ah.form;refine W_v _ (QP Tryz.underlying46 ty56 (slA ad) J a6 a7) J (wfA Tryz.underlying56 ty54 J (W_v _ (YU (S.frz ae) ty54 J (ag 1 _ J)) J (W_v _ (Qd (n:=((rd B.L G).L).length) Tryz.underlying54 J) J (wiI J J (waI J (wnQ (wsQ (wmP J (W_v _ (QY J) J (wfA Tryz.underlying48 ty46 J (wlA S 0 ty46 J (wmI J ?_))))))))))));obtain ⟨⟨a8,a9⟩,H⟩:=Z3 H;obtain ⟨b4,b5,av,_,_,ai,aj,aw,ak,al⟩:=SlW.at' hr0_9 a8 a9;obtain ⟨b6,am,rfl⟩:=ak;obtain ⟨b7,b8,rfl,_⟩:=am.form;refine W_v _ (QP Tryz.underlying46 ty56 (slA ai) J a8 a9) J (wfA Tryz.underlying56 ty4 J (W_v _ (YU (S.frz aj) ty4 J (al 2 _ J)) J (wnQ ?_)));obtain ⟨ap,an,a4⟩:=QM H;refine X3 (fun U w'=>∃ (Z:Int),(Z)=ap∧QX U [(0,pt K 0),(3,vI Z),(4,vI G)]∧Ext w w'∧St w' M F [B48 K B A0_8 c0_8 A0_9 c0_9,Rw QE 167 A0_8 c0_8 B.T]) ?_ ?_
       ·clear a4;have H:=an;rcases Q0 H with ⟨a1,H⟩ | ⟨a1,H⟩
        ·refine QD (cB a1) ?_;refine QO (wmI J (wiI J J (waI J (wnQ ?_))));exact ⟨(IntKind.i64.wrap ((IntKind.i64.wrap (O+(((rd B.L G).L).length:Int)))+(1:Int))),oi H,agP J,E,S.pk [0,1]⟩
        refine QA (cB a1) (QT (tn ?_));exact ⟨(IntKind.i64.wrap (O+(((rd B.L G).L).length:Int))),oi H,agP J,E,S.pk [0,1]⟩
       rintro U b9 ⟨Z,rfl,V,E,S⟩;rw [QC V];have H:=a4;refine bn (tn ?_);exact ⟨Z,oi H,agP J,E,S.pk [0,1]⟩
     rintro U ba ⟨Y,rfl,V,E,S⟩;rw [QC V];have H:=a3;refine tn (QO (wmI J (wiI J J (waI J (wnQ ?_)))));exact ⟨k,Nat.lt_succ_self k,⟨Y,(IntKind.i64.wrap (G+(1:Int))),H,agP J,E,S.pk [0,1]⟩⟩
    refine QA (cB W) ?_;refine Yn ?_;refine tx (tx (bsm (?_)));refine tn ?_;exact ⟨O,oi H,agP J,E,S.pk [0,1]⟩
 rintro U bb ⟨a2,rfl,V,E,S⟩;rw [QC V];have H:=ab;refine tn ?_
 as_aux_lemma =>
 refine wsQ (wmI J (waI J (wnQ ?_)));refine QR ?_;obtain rfl:=oi H;exact ⟨_,_,_,rsA (vs:=[_]) J,HM,E,S.pk [0,1],⟨J,J⟩⟩
def XE (k:Nat) (B:QQ) (E:Str):Option (QS×Bool) :=
 some (((mget B.rows E).getD cz19).intent,(((mget B.rows E).getD cz19).intent.Writer != (0:Int)))
theorem XE.mono {k B E}: OLe (XE k B E) (XE (k+1) B E):=by
 unfold XE;exact mo
theorem XE.con {k M A0_8 A0_9 A0_10 c0_10 A0_11} {vs0_11:List (Str×Value)} {B:QQ} {G:Str} {K} {r:QS×Bool} (h:XE k B G=some r) (hm0_11:Xn Qv M B.rows vs0_11): Con Tryz.prog 19 #[pt K 0,vS G] M [B107 K B A0_8 A0_9 A0_10 c0_10 A0_11,Y3 QF (Value.int .i64) A0_8 B.names,MpI A0_9 B.many,Rw QU 149 A0_10 c0_10 B.txs,MpV A0_11 vs0_11] (fun v M' V=>v=.tuple #[.agg (Z2 r.1),.bool r.2]∧V=[B107 K B A0_8 A0_9 A0_10 c0_10 A0_11,Y3 QF (Value.int .i64) A0_8 B.names,MpI A0_9 B.many,Rw QU 149 A0_10 c0_10 B.txs,MpV A0_11 vs0_11]):=by
 refine cwA Tryz.func19 J Tryz.ntmps19 Tryz.results19 J h ?_;intro w F rn S a6 E HM H;unfold XE at H;refine wsQ ?_;refine YX S cz18 ty51 J J (eE2 E ?_);intro b1 w2 E S;refine waB J (wnQ (QJ (wsQ (wmP J (W_v (.bool false) (Va (r:=false) J J (Vi Tryz.underlying31)) J (wnQ (QA J (QT (tn (wsQ (wmP J ?_)))))))))));refine W_v _ (QY J) J (wfA Tryz.underlying107 ty100 J (wlA S 1 ty100 J (wmS J ?_)));obtain ⟨a7,W,Y⟩:=hm0_11.get G (z:=cz19) (zc:=[.slice none 0 0,vI 0,vI 0,.bool false,vS ([]:Str)]) ⟨_,SlW.nil _ _,J⟩;obtain ⟨a8,Z,rfl⟩:=W;obtain ⟨A7,c8,rfl,_⟩:=Z.form;refine W_v (.agg #[.slice A7 (((mget B.rows G).getD cz19).l).length c8,vI (((mget B.rows G).getD cz19).intent.Writer),vI (((mget B.rows G).getD cz19).intent.TS),.bool (((mget B.rows G).getD cz19).intent.Tomb),vS (((mget B.rows G).getD cz19).intent.Value)]) ((Eq.trans (V4 S 5 J Tryz.underlying100 key9 (Value.agg cz13) (fun _=>ty102.zero) G J J) (by rw [show (mget vs0_11 G).getD (Value.agg cz13)=_ from Y]))) rfl (W_v (.agg (Z2 ((mget B.rows G).getD cz19).intent)) (Jt Tryz.underlying102 rfl rfl ty51 rfl) rfl ?_);refine YX S cz18 ty51 J J (eE2 E ?_);intro a9 aa E S;refine Qq S 0 J ty51 J J [vI (((mget B.rows G).getD cz19).intent.Writer),vI (((mget B.rows G).getD cz19).intent.TS),.bool (((mget B.rows G).getD cz19).intent.Tomb),vS (((mget B.rows G).getD cz19).intent.Value)] J J J (Z2 ((mget B.rows G).getD cz19).intent) J J (eE1 E ?_);intro ab E S;refine wnQ (QJ ?_);refine rgA S [0,2,3,4,5,6] [_,_,_,_,_,_] 6 mixed J (eE1 E ?_);intro ac E S O;refine Wt 0 J J J (.agg (Z2 ((mget B.rows G).getD cz19).intent)) J (fun w' U=>Qf (Yq U 0 J) ty51 J (QI J) J J) O (tz0 1 J O (xfA Tryz.underlying51 ty3 J) (tz1 2 J O (fun w' U=>xlA U 0 ty3 J) (tz0 3 J O (xiB J J) ?_)));refine Wo 4 J ?_;refine Qq S 1 J ty51 J J [vI (((mget B.rows G).getD cz19).intent.Writer),vI (((mget B.rows G).getD cz19).intent.TS),.bool (((mget B.rows G).getD cz19).intent.Tomb),vS (((mget B.rows G).getD cz19).intent.Value)] J J J (Z2 ((mget B.rows G).getD cz19).intent) J J (eE1 E ?_);intro ad E S;refine QH (Ya ⟨.inr ⟨M,Hp.le_refl M,(S.pk [0,2,3,4,5,6])⟩,?_⟩);refine tz0 5 J (⟨M,Hp.le_refl M,(S.pk [0,2,3,4,5,6])⟩) (xaB J) ?_;refine Wz ?_;refine tn ?_;refine QR ?_;obtain rfl:=oi H;exact ⟨_,_,_,fun w1 e1=>Zk (vs:=[.agg (Z2 ((mget B.rows G).getD cz19).intent),.bool (((mget B.rows G).getD cz19).intent.Writer != (0:Int))]) (FA.cons (rcA S e1 1 ty51 J J J) (FA.cons (J) (FA.nil))),HM,E,S.pk [2,3,4,5,6],⟨J,J⟩⟩
def Yv (k:Nat) (B:QQ) (E:Str):Option ((List QS)) :=
 (Option.bind (Qx k (((mget B.rows E).getD cz19).l)) (fun G=>some G))
theorem Yv.mono {k B E}: OLe (Yv k B E) (Yv (k+1) B E):=by
 unfold Yv;have m1:=@Qx.mono;exact mo
theorem Yv.con {k M A0_8 A0_9 A0_10 c0_10 A0_11} {vs0_11:List (Str×Value)} {B:QQ} {G:Str} {K} {r:(List QS)} (h:Yv k B G=some r) (hm0_11:Xn Qv M B.rows vs0_11): Con Tryz.prog 21 #[pt K 0,vS G] M [B107 K B A0_8 A0_9 A0_10 c0_10 A0_11,Y3 QF (Value.int .i64) A0_8 B.names,MpI A0_9 B.many,Rw QU 149 A0_10 c0_10 B.txs,MpV A0_11 vs0_11] (fun v M' O=>∃ (U:Option Addr) (V:Nat),v=.slice U r.length V∧O=[Rw ZG 51 U V r,B107 K B A0_8 A0_9 A0_10 c0_10 A0_11,Y3 QF (Value.int .i64) A0_8 B.names,MpI A0_9 B.many,Rw QU 149 A0_10 c0_10 B.txs,MpV A0_11 vs0_11]):=by
 refine cwA Tryz.func21 J Tryz.ntmps21 Tryz.results21 J h ?_;intro w F rn S a8 E HM H;unfold Yv at H;refine wsQ (waL J (wnQ (QJ (wsQ (wmP J (W_v (.bool false) (Va (r:=false) J J (Vi Tryz.underlying31)) J (wnQ (QA J (QT (tn (QJ ?_)))))))))));refine QO (wmP J (W_v _ (QY J) J (wfA Tryz.underlying107 ty100 J (wlA S 0 ty100 J (wmS J ?_)))));obtain ⟨a9,Y,Z⟩:=hm0_11.get G (z:=cz19) (zc:=[.slice none 0 0,vI 0,vI 0,.bool false,vS ([]:Str)]) ⟨_,SlW.nil _ _,J⟩;obtain ⟨v7,W,rfl⟩:=Y;obtain ⟨A4,c5,rfl,_⟩:=W.form;refine W_v (.agg #[.slice A4 (((mget B.rows G).getD cz19).l).length c5,vI (((mget B.rows G).getD cz19).intent.Writer),vI (((mget B.rows G).getD cz19).intent.TS),.bool (((mget B.rows G).getD cz19).intent.Tomb),vS (((mget B.rows G).getD cz19).intent.Value)]) ((Eq.trans (V4 S 4 J Tryz.underlying100 key9 (Value.agg cz13) (fun _=>ty102.zero) G J J) (by rw [show (mget vs0_11 G).getD (Value.agg cz13)=_ from Z]))) rfl (W_v (.slice A4 (((mget B.rows G).getD cz19).l).length c5) (Ki Tryz.underlying102 rfl rfl ty54 rfl) rfl ?_);obtain ⟨t8,a4,H⟩:=QM H;refine Zb fn42 (Qx.con a4 W) S J J (by rintro _ _ _ ⟨_,_,_,rfl⟩;exact (QK (YY (fun _ _ _ _ h=>h)) Z9)) (eE4 E ?_);rintro _ aa _ O E S ⟨a5,a6,rfl,rfl⟩;refine waL J (wnQ ?_);refine QR ?_;obtain rfl:=oi H;exact ⟨_,_,_,rsA (vs:=[_]) J,HM,E,S.pk [0,1,2,3,4,5],⟨a5,a6,J,J⟩⟩
end Go.Proofs.YtnjbjpaiepefoaaGreatDoor
