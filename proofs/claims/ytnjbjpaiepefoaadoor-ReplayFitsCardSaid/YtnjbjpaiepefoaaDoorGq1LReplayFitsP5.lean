import Derived.Test.YtnjbjpaiepefoaaDoorGq1B
import Derived.Test.YtnjbjpaiepefoaaDoorGq1LReplayFitsP4
namespace Go.Proofs.YtnjbjpaiepefoaaDoor
open Go
set_option linter.unusedVariables false
set_option linter.unusedSimpArgs false
set_option maxHeartbeats 80000000
set_option maxRecDepth 100000
def Yc (E:(List QA)):Nat→Int→Option ((Bool)⊕(Unit))
 | 0,_=>none
 | k+1,B=>(if (decide (B<(E.length:Int)))=true then (if 0≤B∧B<(E.length:Int) then (Option.bind (α:=Bool) (if ((IntKind.i64.wrap ((rd E B).What)) != (IntKind.i64.wrap ((1:Int)+(Int.tmod B (3:Int)))))=true then some (true) else (if 0≤B∧B<(E.length:Int) then some (((rd E B).Call != (IntKind.i64.wrap (Int.tdiv B (3:Int))))) else none)) (fun H=>(Option.bind (α:=Bool) (if H=true then some (true) else (Option.bind (α:=Bool) (if ((Int.tmod B (3:Int)) != (2:Int))=true then (if 0≤B∧B<(E.length:Int) then (Option.bind (ZG k ((rd E B).Answer) cz9) (fun K=>some ((!K)))) else none) else some (false)) (fun U=>some (U)))) (fun V=>(if V=true then some (.inl false) else Yc E k (IntKind.i64.wrap (B+(1:Int)))))))) else none) else some (.inr ()))
theorem Yc.mono {B}: ∀ {kl:Nat} {x0},OLe (Yc B kl x0) (Yc B (kl+1) x0):=by
 intro kl
 induction kl with
 | zero=>intros;exact OLe.none
 | succ kl ih =>
  intros
  rw [Yc.eq_2,Yc.eq_2];have m1:=@ZG.mono;exact mo
def Yd (U:Int) (V:(List QA)):Nat→Int→Int→Option ((Bool)⊕(Int))
 | 0,_,_=>none
 | k+1,E,B=>(if (decide (B<U))=true then (Option.bind (Xb k V B) (fun H=>(Option.bind (Yc H k (0:Int)) (fun K=>Sum.elim (fun r'=>some (.inl r')) (fun _=>Yd U V k (IntKind.i64.wrap (E+(H.length:Int))) (IntKind.i64.wrap (B+(1:Int)))) K)))) else some (.inr (E)))
theorem Yd.mono {B E}: ∀ {kl:Nat} {x0 H},OLe (Yd B E kl x0 H) (Yd B E (kl+1) x0 H):=by
 intro kl
 induction kl with
 | zero=>intros;exact OLe.none
 | succ kl ih =>
  intros
  rw [Yd.eq_2,Yd.eq_2];have m1:=@Yc.mono;have m2:=@Xb.mono;exact mo
def Xe (k:Nat) (H:Int) (K:(List QA)):Option (Bool) :=
 (if ((decide (H<(1:Int)))||(decide (H>(6:Int))))=true then some false else (Option.bind (Yd H K k (0:Int) (0:Int)) (fun B=>Sum.elim (fun r'=>some r') (fun E=>some (E==(K.length:Int))) B)))
theorem Xe.mono {k B E}: OLe (Xe k B E) (Xe (k+1) B E):=by
 unfold Xe;have m1:=@Yd.mono;exact mo
theorem Xe.con {k M} {a0:Int} {A1 c1} {a1:(List QA)} {r:Bool} (h:Xe k a0 a1=some r) (b1:SlR QH M (.slice A1 a1.length c1) a1): Con Tryd.prog 61 #[vI a0,.slice A1 a1.length c1] M [] (fun v M' b2=>v=.bool r∧b2=[]):=by
 refine cwA Tryd.func61 J Tryd.ntmps61 Tryd.results61 J h ?_;intro w F rn S d2 E HM H;unfold Xe at H;refine wsQ (waB J (wnQ (QG (wsQ (wmI J (wiB J J (wmB J ?_)))))));refine Q4 3 (fun ρ w'=>QY ρ [(0,vI a0),(1,.slice A1 a1.length c1),(14,.bool ((decide (a0<(1:Int)))||(decide (a0>(6:Int)))))]∧w=w') ?_ ?_
 ·rcases Qw (decide (a0<(1:Int))) with a9 | a9
  ·refine QJ (cS a9) (wmI J (QJ (cS a9) (wiB J J (wqB a9 J (QF ?_)))));exact ⟨⟨J,J,(flB a9),trivial⟩,rfl⟩
  ·refine QX (skF a9) J (QX (skF a9) J (wpB a9 J (QF ?_)));exact ⟨⟨J,J,(flB a9),trivial⟩,rfl⟩
 as_aux_lemma =>
 rintro ρ _ ⟨a3,rfl⟩;rw [QC a3];refine wnQ ?_;rcases Q7 H with ⟨b3,H⟩ | ⟨b3,H⟩
 ·refine QD (cB b3) ?_;refine wsQ (waB J (wnQ ?_));refine QS ?_;refine tr (?_);obtain rfl:=oi H;exact ⟨_,_,_,rsA (vs:=[_]) J,HM,E,S.pk [],⟨J,J⟩⟩
 refine QB (cB b3) (QW (tn (wsQ (waI J (wnQ (QG (wsQ (waI J (wnQ ?_)))))))));obtain ⟨aq,b4,am⟩:=QL H;refine Zr (fun ρ w'=>∃ (aj:Int) (Mj:Hp),.inr (aj)=aq∧QY ρ [(1,.slice A1 a1.length c1),(5,vI aj)]∧M.le Mj∧Ext w w'∧St w' Mj F []) ?_ ?_
 ·refine Yt (fun n ρ w'=>∃ (Y:Int) (Z:Int) (Mj:Hp),Yd a0 a1 n Y Z=some aq∧QY ρ [(0,vI a0),(1,.slice A1 a1.length c1),(5,vI Y),(6,vI Z)]∧M.le Mj∧Ext w w'∧St w' Mj F []) k ?_ ?_
  ·exact ⟨(0:Int),(0:Int),M,b4,agP J,(Hp.le_refl M),E,S.pk []⟩
  ·intro n;rintro ρ cb ⟨Y,Z,bw,H,a3,a6,E,S⟩;rw [QC a3];replace HM:=Hp.le_trans HM a6;replace b1:=SlR.mono b1 a6
   cases n with
   | zero=>cases H
   | succ k =>
    rw [Yd.eq_2] at H;refine QG (wsQ (wmI J (wmI J (wiB J J (wnQ ?_)))));rcases Q7 H with ⟨ad,H⟩ | ⟨ad,H⟩
    ·refine QD (cB ad) ?_;refine QW (tn (QG ?_));refine Ze ?_;refine wsQ (wmL J (wmI J ?_));obtain ⟨B,b5,H⟩:=QL H;refine YE fn75 (Xb.con b5 b1) (Γ1:=[]) (Γ2:=[]) S J J ?_;rintro _ cc a7 b2 an E' S ⟨a4,a5,rfl,rfl⟩;replace HM:=Hp.le_trans HM an;replace a6:=Hp.le_trans a6 an;replace E:=E.trans E';refine waL J (wnQ (wsQ (wmI J (wmL J (W_v _ (Qd (n:=B.length) Tryd.underlying25 J) J (wiI J J (waI J (wnQ (wsQ (waI J (QF ?_)))))))))));refine tn ?_;obtain ⟨ar,b6,ao⟩:=QL H;refine Zr (fun ρ w'=>.inr ()=ar∧QY ρ [(0,vI a0),(1,.slice A1 a1.length c1),(5,vI (IntKind.i64.wrap (Y+(B.length:Int)))),(6,vI Z)]∧Ext w w'∧St w' a7 F []) ?_ ?_
     ·refine Yt (fun n ρ w'=>∃ (V:Int),Yc B n V=some ar∧QY ρ [(0,vI a0),(1,.slice A1 a1.length c1),(5,vI (IntKind.i64.wrap (Y+(B.length:Int)))),(6,vI Z),(7,.slice a4 B.length a5),(8,vI V)]∧Ext w w'∧St w' a7 F [Rw QH 55 a4 a5 B]) k ?_ ?_
      ·exact ⟨(0:Int),b6,agP J,E,S.pk [0]⟩
      ·intro n;rintro ρ cd ⟨V,H,a3,E,S⟩;rw [QC a3]
       cases n with
       | zero=>cases H
       | succ k =>
        rw [Yc.eq_2] at H;refine QG (wsQ (wmI J (wmL J (W_v _ (Qd (n:=B.length) Tryd.underlying25 J) J (wiB J J (wnQ ?_))))));rcases Q7 H with ⟨ae,H⟩ | ⟨ae,H⟩
        ·refine QD (cB ae) ?_;refine QW (tn (QG ?_));refine Ze ?_;refine wsQ (wmL J (wmI J ?_));obtain ⟨⟨au,av⟩,H⟩:=Zj H;obtain ⟨ce,cf,c5,_,_,b7,b8,c6,b9,ba⟩:=SlW.at' (S.row_read 0 J) au av;obtain ⟨cg,bb,rfl⟩:=b9;obtain ⟨ch,ci,rfl,_⟩:=bb.form;refine W_v _ (QQ Tryd.underlying25 ty55 (slA b7) J au av) J (wfA Tryd.underlying55 ty5 J (W_v _ (YG (Hp.of_get b8) ty5 J (ba 0 _ J)) J (W_v (vI (IntKind.i64.wrap ((rd B V).What))) (Ue Tryd.underlying5 Tryd.underlying3 J) J (wmI J (W_v (vI (Int.tmod V (3:Int))) (QAN J J (by decide)) J (wiI J J (wiB J J (wmB J ?_))))))));obtain ⟨bz,bc,bd⟩:=QL H;refine Q4 9 (fun ρ w'=>∃ (ab:Bool),(ab)=bz∧QY ρ [(0,vI a0),(1,.slice A1 a1.length c1),(5,vI (IntKind.i64.wrap (Y+(B.length:Int)))),(6,vI Z),(7,.slice a4 B.length a5),(8,vI V),(52,.bool ab)]∧Ext w w'∧St w' a7 F [Rw QH 55 a4 a5 B]) ?_ ?_
         ·have H:=bc;rcases Q7 H with ⟨K,H⟩ | ⟨K,H⟩
          ·refine QX (skF K) J (QX (skF K) J (QX (skF K) J (QX (skF K) J (QX (skF K) J (QX (skF K) J (QX (skF K) J (QX (skF K) J (wpB K J (QF ?_)))))))));exact ⟨true,oi H,agP J,E,S.pk [0]⟩
          ·refine QJ (cS K) (wmL J (QJ (cS K) (wmI J (QJ (cS K) ?_))));obtain ⟨⟨aw,ax⟩,H⟩:=Zj H;obtain ⟨cj,cm,c7,_,_,be,bf,c8,bg,bh⟩:=SlW.at' (S.row_read 0 J) aw ax;obtain ⟨cn,bi,rfl⟩:=bg;obtain ⟨co,cp,rfl,_⟩:=bi.form;refine W_v _ (QQ Tryd.underlying25 ty55 (slA be) J aw ax) J (QJ (cS K) (wfA Tryd.underlying55 ty3 J (QJ (cS K) (W_v _ (YG (Hp.of_get bf) ty3 J (bh 2 _ J)) J (QJ (cS K) (wmI J (QJ (cS K) (W_v (vI (IntKind.i64.wrap (Int.tdiv V (3:Int)))) (x_quo J J (by decide)) J (QJ (cS K) (wiB J J (wqB K J (QF ?_))))))))))));exact ⟨((rd B V).Call != (IntKind.i64.wrap (Int.tdiv V (3:Int)))),oi H,agP J,E,S.pk [0]⟩
         as_aux_lemma =>
         rintro ρ cq ⟨ab,rfl,a3,E,S⟩;rw [QC a3];have H:=bd;refine wmB J ?_;obtain ⟨c0,bj,bk⟩:=QL H;refine Q4 14 (fun ρ w'=>∃ (ak:Bool),(ak)=c0∧QY ρ [(0,vI a0),(1,.slice A1 a1.length c1),(5,vI (IntKind.i64.wrap (Y+(B.length:Int)))),(6,vI Z),(7,.slice a4 B.length a5),(8,vI V),(67,.bool ak)]∧Ext w w'∧St w' a7 F [Rw QH 55 a4 a5 B]) ?_ ?_
         ·as_aux_lemma =>
           have H:=bj;rcases Q7 H with ⟨W,H⟩ | ⟨W,H⟩
           ·refine QX (skF W) J (QX (skF W) J (QX (skF W) J (QX (skF W) J (QX (J) J (QX (J) J (QX (J) J (QX (J) J (QX (J) J (QX (J) J (QX (J) J (QX (J) J (QX (skF W) J (wpB W J (QF ?_))))))))))))));exact ⟨true,oi H,agP J,E,S.pk [0]⟩
           ·refine QJ (cS W) (wmI J (QJ (cS W) (W_v (vI (Int.tmod V (3:Int))) (QAN J J (by decide)) J (QJ (cS W) (wiB J J (QJ (cS W) (wmB J ?_)))))));obtain ⟨c2,bl,bm⟩:=QL H;refine Q4 9 (fun ρ w'=>∃ (ac:Bool),(ac)=c2∧QY ρ [(0,vI a0),(1,.slice A1 a1.length c1),(5,vI (IntKind.i64.wrap (Y+(B.length:Int)))),(6,vI Z),(7,.slice a4 B.length a5),(8,vI V),(53,.bool ab),(54,vI V),(55,vI (Int.tmod V (3:Int))),(56,.bool ((Int.tmod V (3:Int)) != (2:Int))),(57,.bool ((Int.tmod V (3:Int)) != (2:Int))),(66,.bool ac)]∧Ext w w'∧St w' a7 F [Rw QH 55 a4 a5 B]) ?_ ?_
            ·as_aux_lemma =>
              have H:=bl;rcases Q7 H with ⟨U,H⟩ | ⟨U,H⟩
              ·refine QJ (cS U) (wmL J (QJ (cS U) (wmI J (QJ (cS U) ?_))));obtain ⟨⟨ay,az⟩,H⟩:=Zj H;obtain ⟨cr,ct,c9,_,_,bo,bp,ca,bq,bt⟩:=SlW.at' (S.row_read 0 J) ay az;obtain ⟨cu,ap,rfl⟩:=bq;obtain ⟨c3,c4,rfl,_⟩:=ap.form;refine W_v _ (QQ Tryd.underlying25 ty55 (slA bo) J ay az) J (QJ (cS U) (wfA Tryd.underlying55 ty34 J (QJ (cS U) (W_v (.agg #[vI ((rd B V).Answer.Err),.bool ((rd B V).Answer.Found),vS ((rd B V).Answer.Value),.slice c3 ((rd B V).Answer.Pairs).length c4]) (Ql (Hp.of_get bp) ty34 J (X1 bt 3 J) J J) J (QJ (cS U) (W_v _ (xb2 [(0,1),(1,1),(2,1),(3,1)] cz18 Tryd.underlying34 ty34 J) J (QJ (cS U) ?_)))))));obtain ⟨b0,bu,H⟩:=QL H;refine Zs fn16 (ZG.con bu ap (SlW.nil _ _)) S J J flN (eE4 E ?_);rintro _ cv _ b2 E S ⟨rfl,rfl⟩;refine QJ (cS U) (W_v _ (X5 (b:=b0) J) J (QJ (cS W) (wpB U J (QF ?_))));exact ⟨(!b0),oi H,agP J,E,S.pk [0]⟩
              ·refine QX (skT U) J (QX (skT U) J (QX (skT U) J (QX (skT U) J (QX (skT U) J (QX (skT U) J (QX (skT U) J (QX (skT U) J (QJ (cS W) (wqB U J (QF ?_))))))))));exact ⟨false,oi H,agP J,E,S.pk [0]⟩
            rintro ρ cw ⟨ac,rfl,a3,E,S⟩;rw [QC a3];have H:=bm;refine wqB W J (QF ?_);exact ⟨ac,oi H,agP J,E,S.pk [0]⟩
         rintro ρ cx ⟨ak,rfl,a3,E,S⟩;rw [QC a3];have H:=bk;refine wnQ ?_;rcases Q7 H with ⟨af,H⟩ | ⟨af,H⟩
         ·refine QD (cB af) ?_;refine wsQ (waB J (wnQ ?_));refine QS ?_;refine br (tr (tr (br (tr (br (tr (tr (br (tr (tr (?_)))))))))));obtain rfl:=oi H;have H:=ao;replace H:=elimL H;obtain rfl:=oi H;have H:=am;replace H:=elimL H;obtain rfl:=oi H;exact ⟨_,_,_,rsA (vs:=[_]) J,HM,E,S.pk [],⟨J,J⟩⟩
         refine QB (cB af) (QW (bn (tn (QN (wmI J (wiI J J (waI J (wnQ ?_))))))));exact ⟨k,Nat.lt_succ_self k,⟨(IntKind.i64.wrap (V+(1:Int))),H,agP J,E,S.pk [0]⟩⟩
        refine QB (cB ae) ?_;refine YV ?_;refine tx (tx (bsm (?_)));refine tn ?_;exact ⟨oi H,agP J,E,S.pk []⟩
     rintro ρ cy ⟨rfl,a3,E,S⟩;rw [QC a3];have H:=ao;replace H:=elimR H;refine bn (tn (QN (wmI J (wiI J J (waI J (wnQ ?_))))));exact ⟨k,Nat.lt_succ_self k,⟨(IntKind.i64.wrap (Y+(B.length:Int))),(IntKind.i64.wrap (Z+(1:Int))),a7,H,agP J,a6,E,S.pk []⟩⟩
    refine QB (cB ad) ?_;refine YV ?_;refine tx (tx (bsm (?_)));refine tn ?_;exact ⟨Y,bw,oi H,agP J,a6,E,S.pk []⟩
 rintro ρ cz ⟨aj,d0,rfl,a3,bv,E,S⟩;rw [QC a3];replace HM:=Hp.le_trans HM bv;have H:=am;replace H:=elimR H;refine tn ?_
 as_aux_lemma =>
 refine wsQ (wmI J (wmL J (W_v _ (Qd (n:=a1.length) Tryd.underlying25 J) J (wiB J J (waB J (wnQ ?_))))));refine QS ?_;obtain rfl:=oi H;exact ⟨_,_,_,rsA (vs:=[_]) J,HM,E,S.pk [],⟨J,J⟩⟩
def XC (H:(List (List QV))) (E:(List QA)):Nat→Int→Option ((Bool)⊕(Unit))
 | 0,_=>none
 | k+1,B=>(if (decide (B<(E.length:Int)))=true then (if 0≤B∧B<(E.length:Int) then (Option.bind (α:=Bool) (if (decide ((rd E B).Task≥(H.length:Int)))=true then some (true) else (if 0≤B∧B<(E.length:Int) then (if 0≤B∧B<(E.length:Int) then (if 0≤(rd E B).Task∧(rd E B).Task<(H.length:Int) then some ((decide ((rd E B).Call≥((rd H ((rd E B).Task)).length:Int)))) else none) else none) else none)) (fun K=>(if K=true then some (.inl false) else XC H E k (IntKind.i64.wrap (B+(1:Int)))))) else none) else some (.inr ()))
theorem XC.mono {B E}: ∀ {kl:Nat} {x0},OLe (XC B E kl x0) (XC B E (kl+1) x0):=by
 intro kl
 induction kl with
 | zero=>intros;exact OLe.none
 | succ kl ih =>
  intros
  rw [XC.eq_2,XC.eq_2];exact mo
def Y2 (k:Nat) (H:Qa) (K:(List (List QV))) (E:(List QA)):Option (Bool) :=
 (Option.bind (Xe k H.Tasks E) (fun U=>(if (!U)=true then some false else (Option.bind (XC K E k (0:Int)) (fun B=>Sum.elim (fun r'=>some r') (fun _=>some true) B)))))
theorem Y2.mono {k B E H}: OLe (Y2 k B E H) (Y2 (k+1) B E H):=by
 unfold Y2;have m1:=@Xe.mono;have m2:=@XC.mono;exact mo
theorem Y2.con {k M} {a0:Qa} {A1 c1} {W:(List (List QV))} {A2 c2} {V:(List QA)} {r:Bool} (h:Y2 k a0 W V=some r) (bj:SlR (rSl YM) M (.slice A1 W.length c1) W) (a7:SlR QH M (.slice A2 V.length c2) V): Con Tryd.prog 41 #[.agg (QR a0),.slice A1 W.length c1,.slice A2 V.length c2] M [] (fun v M' bf=>v=.bool r∧bf=[]):=by
 refine cwA Tryd.func41 J Tryd.ntmps41 Tryd.results41 J h ?_;intro w F rn S cr E HM H;unfold Y2 at H;refine wsQ ?_;refine Y5 S (QR a0) J J J (eE2 E ?_);intro b1 w2 E S;refine waB J (wnQ (QG (wsQ (wfA Tryd.underlying23 ty3 J (wlA S 0 ty3 J (wmL J ?_))))));obtain ⟨t4,bk,H⟩:=QL H;refine Zs fn61 (Xe.con bk a7) S J J flN (eE4 E ?_);rintro _ w6 _ bf E S ⟨rfl,rfl⟩;refine W_v _ (X5 (b:=t4) J) J (wnQ ?_);rcases Q7 H with ⟨aa,H⟩ | ⟨aa,H⟩
 ·refine QD (cB aa) ?_;refine wsQ (waB J (wnQ ?_));refine QS ?_;refine tr (?_);obtain rfl:=oi H;exact ⟨_,_,_,rsA (vs:=[_]) J,HM,E,S.pk [],⟨J,J⟩⟩
 refine QB (cB aa) (QW (tn (QG (wsQ (waI J (wnQ ?_))))));obtain ⟨ab,ap,a8⟩:=QL H;refine Zr (fun ρ w'=>.inr ()=ab∧QY ρ []∧Ext w w'∧St w' M F []) ?_ ?_
 ·refine Yt (fun n ρ w'=>∃ (U:Int),XC W V n U=some ab∧QY ρ [(1,.slice A1 W.length c1),(2,.slice A2 V.length c2),(7,vI U)]∧Ext w w'∧St w' M F []) k ?_ ?_
  ·exact ⟨(0:Int),ap,agP J,E,S.pk []⟩
  ·intro n;rintro ρ bz ⟨U,H,a4,E,S⟩;rw [QC a4]
   cases n with
   | zero=>cases H
   | succ k =>
    rw [XC.eq_2] at H;refine QG (wsQ (wmI J (wmL J (W_v _ (Qd (n:=V.length) Tryd.underlying25 J) J (wiB J J (wnQ ?_))))));rcases Q7 H with ⟨Y,H⟩ | ⟨Y,H⟩
    ·refine QD (cB Y) ?_;refine QW (tn (QG ?_));refine Ze ?_;refine QG ?_;refine rgA S [] [] 25 mixed J (eE1 E ?_);intro c0 E S K;refine tz0 0 J K (xmL J) (tz0 1 J K (xmI J) ?_);obtain ⟨⟨ac,ad⟩,H⟩:=Zj H;obtain ⟨c3,c4,bl,_,_,aq,ar,bm,au,av⟩:=SlW.at' a7 ac ad;obtain ⟨c5,aw,rfl⟩:=au;obtain ⟨c6,c7,rfl,_⟩:=aw.form;refine tz0 2 J K (QQ Tryd.underlying25 ty55 (slA aq) J ac ad) (tz0 3 J K (xfA Tryd.underlying55 ty3 J) (tz1 4 J K (fun w' h'=>YG (Ys h' ar) ty3 J (av 1 _ J)) (tz0 5 J K (xmL J) (tz0 6 J K (Qd (n:=W.length) Tryd.underlying24 J) (tz0 7 J K (xiB J J) (tz0 8 J K (xmB J) ?_))))));obtain ⟨bi,ax,ay⟩:=QL H;refine Yg (fun ρ w'=>∃ (a6:Bool),(a6)=bi∧QY ρ [(1,.slice A1 W.length c1),(2,.slice A2 V.length c2),(7,vI U),(43,.bool a6)]∧Ext w w'∧St w' M F []) 0 (Ls 25 [0,1,2,3,4,5,6,7,8,9,10,11,12,13,14,15,16,17,18,19,20,21,22,23,24]) ?_ ?_;rotate_left
     ·intro a9;have H:=ax;rcases Q7 H with ⟨B,H⟩ | ⟨B,H⟩
      ·refine tz4 9 J (skF B) K (tz4 10 J (skF B) K (tz4 11 J (skF B) K (tz4 12 J (skF B) K (tz4 13 J (skF B) K (tz4 14 J (skF B) K (tz4 15 J (skF B) K (tz4 16 J (skF B) K (tz4 17 J (skF B) K (tz4 18 J (skF B) K (tz4 19 J (skF B) K (tz4 20 J (skF B) K (tz4 21 J (skF B) K (tz4 22 J (skF B) K (tz4 23 J (skF B) K (tz0 24 J K (xpB B J) ?_)))))))))))))));exact a9 _ _ ⟨true,oi H,agP J,E,S.pk []⟩
      ·refine tz2 9 J (cS B) K (xmL J) (tz2 10 J (cS B) K (xmI J) ?_);obtain ⟨⟨ae,af⟩,H⟩:=Zj H;obtain ⟨c8,c9,bo,_,_,az,b0,bp,b2,b3⟩:=SlW.at' a7 ae af;obtain ⟨ca,b4,rfl⟩:=b2;obtain ⟨cb,cc,rfl,_⟩:=b4.form;refine tz2 11 J (cS B) K (QQ Tryd.underlying25 ty55 (slA az) J ae af) (tz2 12 J (cS B) K (xfA Tryd.underlying55 ty3 J) (tz3 13 J (cS B) K (fun w' h'=>YG (Ys h' b0) ty3 J (b3 2 _ J)) (tz2 14 J (cS B) K (xmL J) (tz2 15 J (cS B) K (xmL J) (tz2 16 J (cS B) K (xmI J) ?_)))));obtain ⟨⟨ag,ah⟩,H⟩:=Zj H;obtain ⟨cd,ce,bq,_,_,b5,b6,bt,b7,b8⟩:=SlW.at' a7 ag ah;obtain ⟨cf,b9,rfl⟩:=b7;obtain ⟨cg,ch,rfl,_⟩:=b9.form;refine tz2 17 J (cS B) K (QQ Tryd.underlying25 ty55 (slA b5) J ag ah) (tz2 18 J (cS B) K (xfA Tryd.underlying55 ty3 J) (tz3 19 J (cS B) K (fun w' h'=>YG (Ys h' b6) ty3 J (b8 1 _ J)) ?_));obtain ⟨⟨ai,aj⟩,H⟩:=Zj H;obtain ⟨ci,cj,bu,_,_,ba,bb,bv,bc,bd⟩:=SlW.at' bj ai aj;obtain ⟨cm,be,rfl⟩:=bc;obtain ⟨cn,co,rfl,_⟩:=be.form;refine tz2 20 J (cS B) K (QQ Tryd.underlying24 ty44 (slA ba) J ai aj) (tz3 21 J (cS B) K (fun w' h'=>YG (Ys h' bb) ty44 J (bd 0 _ J)) (tz2 22 J (cS B) K (Qd (n:=(rd W ((rd V U).Task)).length) Tryd.underlying44 J) (tz2 23 J (cS B) K (xiB J J) (tz0 24 J K (xqB B J) ?_))));exact a9 _ _ ⟨(decide ((rd V U).Call≥((rd W ((rd V U).Task)).length:Int))),oi H,agP J,E,S.pk []⟩
     rintro ρ cp ⟨a6,rfl,a4,E,S⟩;rw [QC a4];have H:=ay;refine Wz ?_;refine tn ?_;rcases Q7 H with ⟨Z,H⟩ | ⟨Z,H⟩
     ·refine QD (cB Z) ?_;refine wsQ (waB J (wnQ ?_));refine QS ?_;refine br (tr (tr (br (tr (tr (?_))))));obtain rfl:=oi H;have H:=a8;replace H:=elimL H;obtain rfl:=oi H;exact ⟨_,_,_,rsA (vs:=[_]) J,HM,E,S.pk [],⟨J,J⟩⟩
     refine QB (cB Z) (QW (bn (tn (QN (wmI J (wiI J J (waI J (wnQ ?_))))))));exact ⟨k,Nat.lt_succ_self k,⟨(IntKind.i64.wrap (U+(1:Int))),H,agP J,E,S.pk []⟩⟩
    refine QB (cB Y) ?_;refine YV ?_;refine tx (tx (bsm (?_)));refine tn ?_;exact ⟨oi H,trivial,E,S.pk []⟩
 rintro ρ cq ⟨rfl,a4,E,S⟩;rw [QC a4];have H:=a8;replace H:=elimR H;refine tn ?_
 as_aux_lemma =>
 refine wsQ (waB J (wnQ ?_));refine QS ?_;obtain rfl:=oi H;exact ⟨_,_,_,rsA (vs:=[_]) J,HM,E,S.pk [],⟨J,J⟩⟩
def YR (E:(List QA)):Nat→List QA→Int→Option ((List QA))
 | 0,_,_=>none
 | k+1,H,B=>(if (decide (B<(E.length:Int)))=true then (if 0≤B∧B<(E.length:Int) then (Option.bind (α:=List QA) (if ((rd E B).What==(3:Int))=true then (if 0≤B∧B<(E.length:Int) then (if 0≤B∧B<(E.length:Int) then (if H.length+([(⟨(2:Int),((rd E B).Task),((rd E B).Call),⟨(0:Int),false,([]:Str),([]:(List Qn))⟩⟩:QA)]:List QA).length≤1759218604441 then some ((H++([(⟨(2:Int),((rd E B).Task),((rd E B).Call),⟨(0:Int),false,([]:Str),([]:(List Qn))⟩⟩:QA)]:List QA))) else none) else none) else none) else some (H)) (fun K=>(if 0≤B∧B<(E.length:Int) then (if K.length+([(rd E B)]:List QA).length≤1759218604441 then YR E k (K++([(rd E B)]:List QA)) (IntKind.i64.wrap (B+(1:Int))) else none) else none))) else none) else some (H))
theorem YR.mono {B}: ∀ {kl:Nat} {x0 E},OLe (YR B kl x0 E) (YR B (kl+1) x0 E):=by
 intro kl
 induction kl with
 | zero=>intros;exact OLe.none
 | succ kl ih =>
  intros
  rw [YR.eq_2,YR.eq_2];exact mo
def XJ (k:Nat) (E:(List QA)):Option ((List QA)) :=
 (Option.bind (YR E k ([]:List QA) (0:Int)) (fun B=>some B))
theorem XJ.mono {k B}: OLe (XJ k B) (XJ (k+1) B):=by
 unfold XJ;have m1:=@YR.mono;exact mo
theorem XJ.con {k M A0 c0} {K:(List QA)} {r:(List QA)} (h:XJ k K=some r) (af:SlR QH M (.slice A0 K.length c0) K): Con Tryd.prog 42 #[.slice A0 K.length c0] M [] (fun v M' bt=>∃ (A0:Option Addr) (c0:Nat),v=.slice A0 r.length c0∧bt=[Rw QH 55 A0 c0 r]):=by
 refine cwA Tryd.func42 J Tryd.ntmps42 Tryd.results42 J h ?_;intro w F rn S d5 E HM H;unfold XJ at H;refine wsQ (waL J (wnQ (wsQ (waL J (wnQ (QG (wsQ (waI J (wnQ ?_)))))))));obtain ⟨an,bb,bc⟩:=QL H;refine Zr (fun ρ w'=>∃ (a2:List QA) (a3:Option Addr) (a4:Nat),(a2)=an∧QY ρ [(3,.slice a3 a2.length a4)]∧Ext w w'∧St w' M F [Rw QH 55 a3 a4 a2]) ?_ ?_
 ·refine Yt (fun n ρ w'=>∃ (U:List QA) (B:Int) (Y:Option Addr) (Z:Nat),YR K n U B=some an∧QY ρ [(0,.slice A0 K.length c0),(3,.slice Y U.length Z),(4,vI B)]∧Ext w w'∧St w' M F [Rw QH 55 Y Z U]) k ?_ ?_
  ·replace S:=S.row_nil QH 55;exact ⟨([]:List QA),(0:Int),none,0,bb,agP J,E,S.pk [0]⟩
  ·intro n;rintro ρ cz ⟨U,B,Y,Z,H,aa,E,S⟩;rw [QC aa]
   cases n with
   | zero=>cases H
   | succ k =>
    rw [YR.eq_2] at H;refine QG (wsQ (wmI J (wmL J (W_v _ (Qd (n:=K.length) Tryd.underlying25 J) J (wiB J J (wnQ ?_))))));rcases Q7 H with ⟨a5,H⟩ | ⟨a5,H⟩
    ·refine QD (cB a5) ?_;refine QW (tn (QG ?_));refine Ze ?_;refine QG (wsQ (wmL J (wmI J ?_)));obtain ⟨⟨ao,ap⟩,H⟩:=Zj H;obtain ⟨d0,d1,c3,_,_,bd,be,c4,bf,bg⟩:=SlW.at' af ao ap;obtain ⟨d2,bh,rfl⟩:=bf;obtain ⟨d3,d4,rfl,_⟩:=bh.form;refine W_v _ (QQ Tryd.underlying25 ty55 (slA bd) J ao ap) J (wfA Tryd.underlying55 ty5 J (W_v _ (YG (S.frz be) ty5 J (bg 0 _ J)) J (wiB J J (wnQ ?_))));obtain ⟨bi,aq,ab⟩:=QL H;refine Xz (fun ρ w'=>∃ (V:List QA) (a6:Option Addr) (a7:Nat),(V)=bi∧QY ρ [(0,.slice A0 K.length c0),(3,.slice a6 V.length a7),(4,vI B)]∧Ext w w'∧St w' M F [Rw QH 55 a6 a7 V]) ?_ ?_
     ·as_aux_lemma =>
       clear ab;have H:=aq;rcases Q7 H with ⟨a1,H⟩ | ⟨a1,H⟩
       ·refine QD (cB a1) ?_;refine rgA S [] [] 15 mixed J (eE1 E ?_);intro c5 E S W;refine tz0 0 J W (xmL J) (tz0 1 J W (xmL J) (tz0 2 J W (xmI J) ?_));obtain ⟨⟨ag,ah⟩,H⟩:=Zj H;obtain ⟨c6,c7,bu,_,_,ar,au,bv,av,aw⟩:=SlW.at' af ag ah;obtain ⟨c8,ax,rfl⟩:=av;obtain ⟨c9,ca,rfl,_⟩:=ax.form;refine tz0 3 J W (QQ Tryd.underlying25 ty55 (slA ar) J ag ah) (tz0 4 J W (xfA Tryd.underlying55 ty3 J) (tz1 5 J W (fun w' h'=>YG (Ys h' au) ty3 J (aw 1 _ J)) (tz0 6 J W (xmL J) (tz0 7 J W (xmI J) ?_))));obtain ⟨⟨ai,aj⟩,H⟩:=Zj H;obtain ⟨cb,cc,bw,_,_,ay,az,bz,b0,b1⟩:=SlW.at' af ai aj;obtain ⟨cd,b2,rfl⟩:=b0;obtain ⟨ce,cf,rfl,_⟩:=b2.form;refine tz0 8 J W (QQ Tryd.underlying25 ty55 (slA ay) J ai aj) (tz0 9 J W (xfA Tryd.underlying55 ty3 J) (tz1 10 J W (fun w' h'=>YG (Ys h' az) ty3 J (b1 2 _ J)) (tz0 11 J W (xb2 [(0,1),(1,1),(2,1),(3,4)] #[vU 2,vI ((rd K B).Task),vI ((rd K B).Call),vI 0,.bool false,vS ([]:Str),.slice none 0 0] Tryd.underlying55 ty55 J) ?_)));refine Wo 12 J ?_;refine Yw S #[vU 2,vI ((rd K B).Task),vI ((rd K B).Call),vI 0,.bool false,vS ([]:Str),.slice none 0 0] Tryd.underlying25 ty55 J J cz7 (by as_aux_lemma=>kernel_rfl) (by as_aux_lemma=>kernel_rfl) J (eE2 E ?_);intro cg ch E S;replace S:=S.blk_row (r:=QH) (l:=([(⟨(2:Int),((rd K B).Task),((rd K B).Call),⟨(0:Int),false,([]:Str),([]:(List Qn))⟩⟩:QA)]:List QA)) 0 J 1 (Nat.le_refl 1) J (Cells.cons (vs:=[vU 2,vI ((rd K B).Task),vI ((rd K B).Call),vI 0,.bool false,vS ([]:Str),.slice none 0 0]) (⟨_,(SlW.nil _ _),J⟩) Cells.nil);refine QF (YS ⟨.inr ⟨M,Hp.le_refl M,(S.pk [])⟩,?_⟩);refine Wo 13 J ?_;obtain ⟨ci,H⟩:=Zj H;obtain ⟨bp,b3,b4⟩:=Z2 (P:=Tryd.prog) (ρ:=QH) (l:=([(⟨(2:Int),((rd K B).Task),((rd K B).Call),⟨(0:Int),false,([]:Str),([]:(List Qn))⟩⟩:QA)]:List QA)) (S.row_read 0 J) (by decide);refine XW S 1 J J J Tryd.underlying25 (.inl Tryd.underlying25) ty55 J (by decide) (by decide) b3 b4 J (by omega) J (eE2 E ?_);intro cj cm E S;obtain ⟨bj,bk,rfl,_⟩:=(S.row_read 1 J).form;refine QF (YS ⟨.inr ⟨M,Hp.le_refl M,(S.pk [])⟩,?_⟩);refine tz0 14 J (⟨M,Hp.le_refl M,(S.pk [])⟩) (xaL J) ?_;refine Wz ?_;refine tn ?_;exact ⟨(U++([(⟨(2:Int),((rd K B).Task),((rd K B).Call),⟨(0:Int),false,([]:Str),([]:(List Qn))⟩⟩:QA)]:List QA)),bj,bk,oi H,agP J,E,S.pk [1]⟩
       refine QB (cB a1) (QW (tn ?_));exact ⟨U,Y,Z,oi H,agP J,E,S.pk [0]⟩
     rintro ρ cn ⟨V,a6,a7,rfl,aa,E,S⟩;rw [QC aa];have H:=ab;refine tn (QN (wmL J (wmL J (wmI J ?_))));obtain ⟨⟨ak,am⟩,H⟩:=Zj H;obtain ⟨co,cp,c1,_,_,b5,b6,c2,b7,b8⟩:=SlW.at' af ak am;obtain ⟨cq,ac,rfl⟩:=b7;obtain ⟨a8,a9,rfl,_⟩:=ac.form;refine W_v _ (QQ Tryd.underlying25 ty55 (slA b5) J ak am) J (W_v (.agg #[vU ((rd K B).What),vI ((rd K B).Task),vI ((rd K B).Call),vI ((rd K B).Answer.Err),.bool ((rd K B).Answer.Found),vS ((rd K B).Answer.Value),.slice a8 ((rd K B).Answer.Pairs).length a9]) (Ql (S.frz b6) ty55 J (X1 b8 0 J) J J) J ?_);refine Yw S #[vU ((rd K B).What),vI ((rd K B).Task),vI ((rd K B).Call),vI ((rd K B).Answer.Err),.bool ((rd K B).Answer.Found),vS ((rd K B).Answer.Value),.slice a8 ((rd K B).Answer.Pairs).length a9] Tryd.underlying25 ty55 J J cz7 (by as_aux_lemma=>kernel_rfl) (by as_aux_lemma=>kernel_rfl) J (eE2 E ?_);intro cr ct E S;replace S:=S.blk_row (r:=QH) (l:=([(rd K B)]:List QA)) 0 J 1 (Nat.le_refl 1) J (Cells.cons (vs:=[vU ((rd K B).What),vI ((rd K B).Task),vI ((rd K B).Call),vI ((rd K B).Answer.Err),.bool ((rd K B).Answer.Found),vS ((rd K B).Answer.Value),.slice a8 ((rd K B).Answer.Pairs).length a9]) (⟨_,ac,J⟩) Cells.nil);obtain ⟨cu,H⟩:=Zj H;obtain ⟨bq,b9,ba⟩:=Z2 (P:=Tryd.prog) (ρ:=QH) (l:=([(rd K B)]:List QA)) (S.row_read 0 J) (by decide);refine XW S 1 J J J Tryd.underlying25 (.inl Tryd.underlying25) ty55 J (by decide) (by decide) b9 ba J (by omega) J (eE2 E ?_);intro cv cw E S;obtain ⟨bl,bm,rfl,_⟩:=(S.row_read 1 J).form;refine waL J (QF (bn (tn (QN (wmI J (wiI J J (waI J (wnQ ?_))))))));exact ⟨k,Nat.lt_succ_self k,⟨(V++([(rd K B)]:List QA)),(IntKind.i64.wrap (B+(1:Int))),bl,bm,H,agP J,E,S.pk [1]⟩⟩
    refine QB (cB a5) ?_;refine YV ?_;refine tx (tx (bsm (?_)));refine tn ?_;exact ⟨U,Y,Z,oi H,agP J,E,S.pk [0]⟩
 rintro ρ cx ⟨a2,a3,a4,rfl,aa,E,S⟩;rw [QC aa];have H:=bc;refine tn ?_
 as_aux_lemma =>
 refine wsQ (wmL J (waL J (wnQ ?_)));refine QS ?_;obtain rfl:=oi H;exact ⟨_,_,_,rsA (vs:=[_]) J,HM,E,S.pk [0],⟨a3,a4,J,J⟩⟩
def X4 (k:Nat) (B:Qa) (K:Str):Option (Bool) :=
 (Option.bind (Z0 k B) (fun U=>(Option.bind (α:=Bool) (if U=true then (Option.bind (Q8 k (K.length:Int) (1:Int) B.KeyLen) (fun E=>some (E))) else some (false)) (fun H=>some H))))
theorem X4.mono {k B E}: OLe (X4 k B E) (X4 (k+1) B E):=by
 unfold X4;have m1:=@Z0.mono;have m2:=@Q8.mono;exact mo
theorem X4.con {k M} {V:Qa} {a1:Str} {r:Bool} (h:X4 k V a1=some r): Con Tryd.prog 95 #[.agg (QR V),vS a1] M [] (fun v M' K=>v=.bool r∧K=[]):=by
 refine cwA Tryd.func95 J Tryd.ntmps95 Tryd.results95 J h ?_;intro w F rn S a9 E HM H;unfold X4 at H;refine wsQ ?_;refine Y5 S (QR V) J J J (eE2 E ?_);intro b1 w2 E S;refine waB J (wnQ (wsQ (W_v (.agg (QR V)) (Ql (S.blk 0 J) ty23 J (QM J) J J) J ?_)));obtain ⟨t4,a3,H⟩:=QL H;refine Zs fn60 (Z0.con a3) S J J flN (eE4 E ?_);rintro _ w6 _ K E S ⟨rfl,rfl⟩;refine wmB J ?_;obtain ⟨a4,W,Y⟩:=QL H;refine Q4 6 (fun ρ w'=>∃ (U:Bool),(U)=a4∧QY ρ [(13,.bool U)]∧Ext w w'∧St w' M F []) ?_ ?_
 ·have H:=W;rcases Q7 H with ⟨B,H⟩ | ⟨B,H⟩
  ·refine QJ (cS B) (wmS J (QJ (cS B) (W_v _ (VP Tryd.underlying9 J) J (QJ (cS B) (wfA Tryd.underlying23 ty3 J (QJ (cS B) (wlA S 0 ty3 J (QJ (cS B) ?_))))))));obtain ⟨a6,Z,H⟩:=QL H;refine Zs fn74 (Q8.con Z) S J J flN (eE4 E ?_);rintro _ aa _ K E S ⟨rfl,rfl⟩;refine wpB B J (QF ?_);exact ⟨a6,oi H,agP J,E,S.pk []⟩
  ·refine QX (skT B) J (QX (skT B) J (QX (skT B) J (QX (skT B) J (QX (skT B) J (wqB B J (QF ?_))))));exact ⟨false,oi H,agP J,E,S.pk []⟩
 rintro ρ ab ⟨U,rfl,a7,E,S⟩;rw [QC a7];have H:=Y;refine waB J (wnQ ?_);refine QS ?_;obtain rfl:=oi H;exact ⟨_,_,_,rsA (vs:=[_]) J,HM,E,S.pk [],⟨J,J⟩⟩
def Xf (k:Nat) (B:Qa) (K:Str):Option (Bool) :=
 (Option.bind (Z0 k B) (fun U=>(Option.bind (α:=Bool) (if U=true then (Option.bind (Q8 k (K.length:Int) (0:Int) B.ValLen) (fun E=>some (E))) else some (false)) (fun H=>some H))))
theorem Xf.mono {k B E}: OLe (Xf k B E) (Xf (k+1) B E):=by
 unfold Xf;have m1:=@Z0.mono;have m2:=@Q8.mono;exact mo
theorem Xf.con {k M} {V:Qa} {a1:Str} {r:Bool} (h:Xf k V a1=some r): Con Tryd.prog 96 #[.agg (QR V),vS a1] M [] (fun v M' K=>v=.bool r∧K=[]):=by
 refine cwA Tryd.func96 J Tryd.ntmps96 Tryd.results96 J h ?_;intro w F rn S a9 E HM H;unfold Xf at H;refine wsQ ?_;refine Y5 S (QR V) J J J (eE2 E ?_);intro b1 w2 E S;refine waB J (wnQ (wsQ (W_v (.agg (QR V)) (Ql (S.blk 0 J) ty23 J (QM J) J J) J ?_)));obtain ⟨t4,a3,H⟩:=QL H;refine Zs fn60 (Z0.con a3) S J J flN (eE4 E ?_);rintro _ w6 _ K E S ⟨rfl,rfl⟩;refine wmB J ?_;obtain ⟨a4,W,Y⟩:=QL H;refine Q4 6 (fun ρ w'=>∃ (U:Bool),(U)=a4∧QY ρ [(13,.bool U)]∧Ext w w'∧St w' M F []) ?_ ?_
 ·have H:=W;rcases Q7 H with ⟨B,H⟩ | ⟨B,H⟩
  ·refine QJ (cS B) (wmS J (QJ (cS B) (W_v _ (VP Tryd.underlying9 J) J (QJ (cS B) (wfA Tryd.underlying23 ty3 J (QJ (cS B) (wlA S 0 ty3 J (QJ (cS B) ?_))))))));obtain ⟨a6,Z,H⟩:=QL H;refine Zs fn74 (Q8.con Z) S J J flN (eE4 E ?_);rintro _ aa _ K E S ⟨rfl,rfl⟩;refine wpB B J (QF ?_);exact ⟨a6,oi H,agP J,E,S.pk []⟩
  ·refine QX (skT B) J (QX (skT B) J (QX (skT B) J (QX (skT B) J (QX (skT B) J (wqB B J (QF ?_))))));exact ⟨false,oi H,agP J,E,S.pk []⟩
 rintro ρ ab ⟨U,rfl,a7,E,S⟩;rw [QC a7];have H:=Y;refine waB J (wnQ ?_);refine QS ?_;obtain rfl:=oi H;exact ⟨_,_,_,rsA (vs:=[_]) J,HM,E,S.pk [],⟨J,J⟩⟩
def XF (k:Nat) (B:Qa) (K:Str):Option (Bool) :=
 (Option.bind (Z0 k B) (fun U=>(Option.bind (α:=Bool) (if U=true then (Option.bind (Q8 k (K.length:Int) (0:Int) B.KeyLen) (fun E=>some (E))) else some (false)) (fun H=>some H))))
theorem XF.mono {k B E}: OLe (XF k B E) (XF (k+1) B E):=by
 unfold XF;have m1:=@Z0.mono;have m2:=@Q8.mono;exact mo
theorem XF.con {k M} {V:Qa} {a1:Str} {r:Bool} (h:XF k V a1=some r): Con Tryd.prog 97 #[.agg (QR V),vS a1] M [] (fun v M' K=>v=.bool r∧K=[]):=by
 refine cwA Tryd.func97 J Tryd.ntmps97 Tryd.results97 J h ?_;intro w F rn S a9 E HM H;unfold XF at H;refine wsQ ?_;refine Y5 S (QR V) J J J (eE2 E ?_);intro b1 w2 E S;refine waB J (wnQ (wsQ (W_v (.agg (QR V)) (Ql (S.blk 0 J) ty23 J (QM J) J J) J ?_)));obtain ⟨t4,a3,H⟩:=QL H;refine Zs fn60 (Z0.con a3) S J J flN (eE4 E ?_);rintro _ w6 _ K E S ⟨rfl,rfl⟩;refine wmB J ?_;obtain ⟨a4,W,Y⟩:=QL H;refine Q4 6 (fun ρ w'=>∃ (U:Bool),(U)=a4∧QY ρ [(13,.bool U)]∧Ext w w'∧St w' M F []) ?_ ?_
 ·have H:=W;rcases Q7 H with ⟨B,H⟩ | ⟨B,H⟩
  ·refine QJ (cS B) (wmS J (QJ (cS B) (W_v _ (VP Tryd.underlying9 J) J (QJ (cS B) (wfA Tryd.underlying23 ty3 J (QJ (cS B) (wlA S 0 ty3 J (QJ (cS B) ?_))))))));obtain ⟨a6,Z,H⟩:=QL H;refine Zs fn74 (Q8.con Z) S J J flN (eE4 E ?_);rintro _ aa _ K E S ⟨rfl,rfl⟩;refine wpB B J (QF ?_);exact ⟨a6,oi H,agP J,E,S.pk []⟩
  ·refine QX (skT B) J (QX (skT B) J (QX (skT B) J (QX (skT B) J (QX (skT B) J (wqB B J (QF ?_))))));exact ⟨false,oi H,agP J,E,S.pk []⟩
 rintro ρ ab ⟨U,rfl,a7,E,S⟩;rw [QC a7];have H:=Y;refine waB J (wnQ ?_);refine QS ?_;obtain rfl:=oi H;exact ⟨_,_,_,rsA (vs:=[_]) J,HM,E,S.pk [],⟨J,J⟩⟩
def Y3 (E:(List QZ)) (H:Int):Nat→Int→Option ((Int)⊕(Unit))
 | 0,_=>none
 | k+1,B=>(if (decide (B<(E.length:Int)))=true then (if 0≤B∧B<(E.length:Int) then (if (decide ((rd E B).TS≤H))=true then some (.inl B) else Y3 E H k (IntKind.i64.wrap (B+(1:Int)))) else none) else some (.inr ()))
theorem Y3.mono {B E}: ∀ {kl:Nat} {x0},OLe (Y3 B E kl x0) (Y3 B E (kl+1) x0):=by
 intro kl
 induction kl with
 | zero=>intros;exact OLe.none
 | succ kl ih =>
  intros
  rw [Y3.eq_2,Y3.eq_2];exact mo
def XA (k:Nat) (E:(List QZ)) (H:Int):Option (Int) :=
 (Option.bind (Y3 E H k (0:Int)) (fun B=>Sum.elim (fun r'=>some r') (fun _=>some (E.length:Int)) B))
theorem XA.mono {k B E}: OLe (XA k B E) (XA (k+1) B E):=by
 unfold XA;have m1:=@Y3.mono;exact mo
theorem XA.con {k M A0 c0} {B:(List QZ)} {a1:Int} {r:Int} (h:XA k B a1=some r) (ae:SlR ZU M (.slice A0 B.length c0) B): Con Tryd.prog 103 #[.slice A0 B.length c0,vI a1] M [] (fun v M' af=>v=vI r∧af=[]):=by
 refine cwA Tryd.func103 J Tryd.ntmps103 Tryd.results103 J h ?_;intro w F rn S ai E HM H;unfold XA at H;refine wsQ (waI J (wnQ (QG (wsQ (waI J (wnQ ?_))))));obtain ⟨a5,a8,W⟩:=QL H;refine Zr (fun Y w'=>.inr ()=a5∧QY Y [(0,.slice A0 B.length c0)]∧Ext w w'∧St w' M F []) ?_ ?_
 ·refine Yt (fun n Y w'=>∃ (V:Int),Y3 B a1 n V=some a5∧QY Y [(0,.slice A0 B.length c0),(1,vI a1),(5,vI V)]∧Ext w w'∧St w' M F []) k ?_ ?_
  ·exact ⟨(0:Int),a8,agP J,E,S.pk []⟩
  ·intro n;rintro Y aj ⟨V,H,Z,E,S⟩;rw [QC Z]
   cases n with
   | zero=>cases H
   | succ k =>
    rw [Y3.eq_2] at H;refine QG (wsQ (wmI J (wmL J (W_v _ (Qd (n:=B.length) Tryd.underlying115 J) J (wiB J J (wnQ ?_))))));rcases Q7 H with ⟨K,H⟩ | ⟨K,H⟩
    ·refine QD (cB K) ?_;refine QW (tn (QG ?_));refine Ze ?_;refine wsQ (wmL J (wmI J ?_));obtain ⟨⟨a6,a7⟩,H⟩:=Zj H;obtain ⟨ak,am,ah,_,_,a9,aa,ab,ac,ad⟩:=SlW.at' ae a6 a7;obtain rfl:ab=_:=ac;refine W_v _ (QQ Tryd.underlying115 ty117 (slA a9) J a6 a7) J (wfA Tryd.underlying117 ty3 J (W_v _ (YG (S.frz aa) ty3 J (ad 1 _ J)) J (wmI J (wiB J J (wnQ ?_)))));rcases Q7 H with ⟨U,H⟩ | ⟨U,H⟩
     ·refine QD (cB U) ?_;refine wsQ (wmI J (waI J (wnQ ?_)));refine QS ?_;refine br (tr (tr (br (tr (tr (?_))))));obtain rfl:=oi H;have H:=W;replace H:=elimL H;obtain rfl:=oi H;exact ⟨_,_,_,rsA (vs:=[_]) J,HM,E,S.pk [],⟨J,J⟩⟩
     refine QB (cB U) (QW (bn (tn (QN (wmI J (wiI J J (waI J (wnQ ?_))))))));exact ⟨k,Nat.lt_succ_self k,⟨(IntKind.i64.wrap (V+(1:Int))),H,agP J,E,S.pk []⟩⟩
    refine QB (cB K) ?_;refine YV ?_;refine tx (tx (bsm (?_)));refine tn ?_;exact ⟨oi H,agP J,E,S.pk []⟩
 rintro Y an ⟨rfl,Z,E,S⟩;rw [QC Z];have H:=W;replace H:=elimR H;refine tn ?_
 as_aux_lemma =>
 refine wsQ (wmL J (W_v _ (Qd (n:=B.length) Tryd.underlying115 J) J (waI J (wnQ ?_))));refine QS ?_;obtain rfl:=oi H;exact ⟨_,_,_,rsA (vs:=[_]) J,HM,E,S.pk [],⟨J,J⟩⟩
def XB (k:Nat) (E:(List QZ)) (K:Int):Option (QZ×Bool) :=
 (Option.bind (XA k E K) (fun B=>(Option.bind (α:=Bool) (if (B==(E.length:Int))=true then some (true) else (if 0≤B∧B<(E.length:Int) then some ((rd E B).Tomb) else none)) (fun H=>(if H=true then some ((⟨(0:Int),(0:Int),false,([]:Str)⟩:QZ),false) else (if 0≤B∧B<(E.length:Int) then some ((rd E B),true) else none))))))
theorem XB.mono {k B E}: OLe (XB k B E) (XB (k+1) B E):=by
 unfold XB;have m1:=@XA.mono;exact mo
theorem XB.con {k M A0 c0} {K:(List QZ)} {a1:Int} {r:QZ×Bool} (h:XB k K a1=some r) (W:SlR ZU M (.slice A0 K.length c0) K): Con Tryd.prog 98 #[.slice A0 K.length c0,vI a1] M [] (fun v M' Z=>v=.tuple #[.agg (XX r.1),.bool r.2]∧Z=[]):=by
 refine cwA Tryd.func98 J Tryd.ntmps98 Tryd.results98 J h ?_;intro w F rn S ax E HM H;unfold XB at H;refine wsQ ?_;refine YN S cz19 ty117 J J (eE2 E ?_);intro b1 w2 E S;refine waB J (wnQ (wsQ (wmL J (wmI J ?_))));obtain ⟨U,ap,H⟩:=QL H;refine Zs fn103 (XA.con ap W) S J J flN (eE4 E ?_);rintro _ w6 _ Z E S ⟨rfl,rfl⟩;refine waI J (wnQ (QG (wsQ (wmI J (wmL J (W_v _ (Qd (n:=K.length) Tryd.underlying115 J) J (wiB J J (wmB J ?_))))))));obtain ⟨aq,a8,a9⟩:=QL H;refine Q4 6 (fun ρ w'=>∃ (Y:Bool),(Y)=aq∧QY ρ [(0,.slice A0 K.length c0),(4,pt b1 0),(6,vI U),(20,.bool Y)]∧Ext w w'∧St w' M F [Blk b1 (.cells cz19 117 (0,0))]) ?_ ?_
 ·have H:=a8;rcases Q7 H with ⟨B,H⟩ | ⟨B,H⟩
  ·refine QX (skF B) J (QX (skF B) J (QX (skF B) J (QX (skF B) J (QX (skF B) J (wpB B J (QF ?_))))));exact ⟨true,oi H,agP J,E,S.pk [0]⟩
  ·refine QJ (cS B) (wmL J (QJ (cS B) (wmI J (QJ (cS B) ?_))));obtain ⟨⟨a2,a3⟩,H⟩:=Zj H;obtain ⟨ay,az,av,_,_,aa,ab,ac,ad,ae⟩:=SlW.at' W a2 a3;obtain rfl:ac=_:=ad;refine W_v _ (QQ Tryd.underlying115 ty117 (slA aa) J a2 a3) J (QJ (cS B) (wfA Tryd.underlying117 ty4 J (QJ (cS B) (W_v _ (YG (S.frz ab) ty4 J (ae 2 _ J)) J (wqB B J (QF ?_))))));exact ⟨((rd K U).Tomb),oi H,agP J,E,S.pk [0]⟩
 as_aux_lemma =>
 rintro ρ b0 ⟨Y,rfl,au,E,S⟩;rw [QC au];have H:=a9;refine wnQ ?_;rcases Q7 H with ⟨V,H⟩ | ⟨V,H⟩
 ·refine QD (cB V) ?_;refine wsQ (W_v _ (xb2 [(0,1),(1,1),(2,1),(3,1)] cz19 Tryd.underlying117 ty117 J) J ?_);refine Qu S 0 J ty117 J J [vI 0,vI 0,.bool false,vS ([]:Str)] J J J cz19 J J (eE1 E ?_);intro b2 E S;refine waB J (wnQ ?_);refine QS ?_;refine tr (?_);obtain rfl:=oi H;exact ⟨_,_,_,fun w1 e1=>Zk (vs:=[.agg cz19,.bool false]) (FA.cons (rcA S e1 0 ty117 J J J) (FA.cons (J) (FA.nil))),HM,E,S.pk [],⟨J,J⟩⟩
 refine QB (cB V) (QW (tn (wsQ (wmL J (wmI J ?_)))));obtain ⟨⟨a4,a5⟩,H⟩:=Zj H;obtain ⟨b3,b4,aw,_,_,ag,ah,ai,aj,ak⟩:=SlW.at' W a4 a5;obtain rfl:ai=_:=aj;refine W_v _ (QQ Tryd.underlying115 ty117 (slA ag) J a4 a5) J (W_v (.agg (XX (rd K U))) (Ql (S.frz ah) ty117 J (X1 ak 0 J) J J) J ?_);refine Qu S 0 J ty117 J J [vI ((rd K U).Writer),vI ((rd K U).TS),.bool ((rd K U).Tomb),vS ((rd K U).Value)] J J J (XX (rd K U)) J J (eE1 E ?_);intro b5 E S;refine waB J (wnQ ?_);refine QS ?_;obtain rfl:=oi H;exact ⟨_,_,_,fun w1 e1=>Zk (vs:=[.agg (XX (rd K U)),.bool true]) (FA.cons (rcA S e1 0 ty117 J J J) (FA.cons (J) (FA.nil))),HM,E,S.pk [],⟨J,J⟩⟩
def XU (k:Nat) (B:(List QZ)) (H:Int):Option (Bool) :=
 (Option.bind (α:=Bool) (if (decide ((B.length:Int)>(0:Int)))=true then (if 0≤(0:Int)∧(0:Int)<(B.length:Int) then some ((decide ((rd B (0:Int)).TS>H))) else none) else some (false)) (fun E=>some E))
theorem XU.mono {k B E}: OLe (XU k B E) (XU (k+1) B E):=by
 unfold XU;exact mo
theorem XU.con {k M A0 c0} {K:(List QZ)} {Y:Int} {r:Bool} (h:XU k K Y=some r) (aa:SlR ZU M (.slice A0 K.length c0) K): Con Tryd.prog 99 #[.slice A0 K.length c0,vI Y] M [] (fun v M' ab=>v=.bool r∧ab=[]):=by
 refine cwA Tryd.func99 J Tryd.ntmps99 Tryd.results99 J h ?_;intro w F rn S ah E HM H;unfold XU at H;refine wsQ (waB J (wnQ (wsQ (wmL J (W_v _ (Qd (n:=K.length) Tryd.underlying115 J) J (wiB J J (wmB J ?_)))))));obtain ⟨ac,Z,a2⟩:=QL H;refine Q4 7 (fun ρ w'=>∃ (U:Bool),(U)=ac∧QY ρ [(15,.bool U)]∧Ext w w'∧St w' M F []) ?_ ?_
 ·have H:=Z;rcases Q7 H with ⟨B,H⟩ | ⟨B,H⟩
  ·refine QJ (cS B) (wmL J (QJ (cS B) ?_));obtain ⟨⟨V,W⟩,H⟩:=Zj H;obtain ⟨ai,aj,ag,_,_,a3,a4,a5,a6,a7⟩:=SlW.at' aa V W;obtain rfl:a5=_:=a6;refine W_v _ (QQ Tryd.underlying115 ty117 (slA a3) J V W) J (QJ (cS B) (wfA Tryd.underlying117 ty3 J (QJ (cS B) (W_v _ (YG (S.frz a4) ty3 J (a7 1 _ J)) J (QJ (cS B) (wmI J (QJ (cS B) (wiB J J (wpB B J (QF ?_))))))))));exact ⟨(decide ((rd K (0:Int)).TS>Y)),oi H,agP J,E,S.pk []⟩
  ·refine QX (skT B) J (QX (skT B) J (QX (skT B) J (QX (skT B) J (QX (skT B) J (QX (skT B) J (wqB B J (QF ?_)))))));exact ⟨false,oi H,agP J,E,S.pk []⟩
 rintro ρ ak ⟨U,rfl,ae,E,S⟩;rw [QC ae];have H:=a2;refine waB J (wnQ ?_);refine QS ?_;obtain rfl:=oi H;exact ⟨_,_,_,rsA (vs:=[_]) J,HM,E,S.pk [],⟨J,J⟩⟩
def YL (E:Str) (H:Str):Nat→Int→Option ((Int)⊕(Unit))
 | 0,_=>none
 | k+1,B=>(if ((decide (B<(E.length:Int)))&&(decide (B<(H.length:Int))))=true then (if 0≤B∧B<(E.length:Int) then (if 0≤B∧B<(H.length:Int) then (if (decide ((((E).getD (B).toNat 0).toNat:Int)<(((H).getD (B).toNat 0).toNat:Int)))=true then some (.inl (-1:Int)) else (if 0≤B∧B<(E.length:Int) then (if 0≤B∧B<(H.length:Int) then (if (decide ((((E).getD (B).toNat 0).toNat:Int)>(((H).getD (B).toNat 0).toNat:Int)))=true then some (.inl (1:Int)) else YL E H k (IntKind.i64.wrap (B+(1:Int)))) else none) else none)) else none) else none) else some (.inr ()))
theorem YL.mono {B E}: ∀ {kl:Nat} {x0},OLe (YL B E kl x0) (YL B E (kl+1) x0):=by
 intro kl
 induction kl with
 | zero=>intros;exact OLe.none
 | succ kl ih =>
  intros
  rw [YL.eq_2,YL.eq_2];exact mo
def YF (k:Nat) (B:Str) (E:Str):Option (Int) :=
 (Option.bind (YL B E k (0:Int)) (fun H=>Sum.elim (fun r'=>some r') (fun _=>(if (decide ((B.length:Int)<(E.length:Int)))=true then some (-1:Int) else (if (decide ((B.length:Int)>(E.length:Int)))=true then some (1:Int) else some (0:Int)))) H))
theorem YF.mono {k B E}: OLe (YF k B E) (YF (k+1) B E):=by
 unfold YF;have m1:=@YL.mono;exact mo
theorem YF.con {k M} {U:Str} {V:Str} {r:Int} (h:YF k U V=some r): Con Tryd.prog 101 #[vS U,vS V] M [] (fun v M' ae=>v=vI r∧ae=[]):=by
 refine cwA Tryd.func101 J Tryd.ntmps101 Tryd.results101 J h ?_;intro w F rn S ap E HM H;unfold YF at H;refine wsQ (waI J (wnQ (QG (wsQ (waI J (wnQ ?_))))));obtain ⟨aa,ab,a4⟩:=QL H;refine Zr (fun ρ w'=>.inr ()=aa∧QY ρ [(0,vS U),(1,vS V)]∧Ext w w'∧St w' M F []) ?_ ?_
 ·refine Yt (fun n ρ w'=>∃ (K:Int),YL U V n K=some aa∧QY ρ [(0,vS U),(1,vS V),(5,vI K)]∧Ext w w'∧St w' M F []) k ?_ ?_
  ·exact ⟨(0:Int),ab,agP J,E,S.pk []⟩
  ·intro n;rintro ρ af ⟨K,H,a3,E,S⟩;rw [QC a3]
   cases n with
   | zero=>cases H
   | succ k =>
    rw [YL.eq_2] at H;refine QG (wsQ (wmI J (wmS J (W_v _ (VP Tryd.underlying9 J) J (wiB J J (wmB J ?_))))));refine Q4 5 (fun ρ w'=>QY ρ [(0,vS U),(1,vS V),(5,vI K),(15,.bool ((decide (K<(U.length:Int)))&&(decide (K<(V.length:Int)))))]∧af=w') ?_ ?_
    ·rcases Qw (decide (K<(U.length:Int))) with B | B
     ·refine QX (skT B) J (QX (skT B) J (QX (skT B) J (QX (skT B) J (wqB B J (QF ?_)))));exact ⟨⟨J,J,J,(flB B),trivial⟩,rfl⟩
     ·refine QJ (cS B) (wmI J (QJ (cS B) (wmS J (QJ (cS B) (W_v _ (VP Tryd.underlying9 J) J (QJ (cS B) (wiB J J (wpB B J (QF ?_)))))))));exact ⟨⟨J,J,J,(flB B),trivial⟩,rfl⟩
    as_aux_lemma =>
    rintro ρ _ ⟨a3,rfl⟩;rw [QC a3];refine wnQ ?_;rcases Q7 H with ⟨a5,H⟩ | ⟨a5,H⟩
    ·refine QD (cB a5) ?_;refine QW (tn (QG ?_));refine Ze ?_;refine QG (QG ?_);refine rgA S [] [] 7 mixed J (eE1 E ?_);intro aq E S D1;refine tz0 0 J D1 (xmS J) (tz0 1 J D1 (xmI J) ?_);obtain ⟨⟨ag,ah⟩,H⟩:=Zj H;refine Wt 2 J J J (vU (((U).getD (K).toNat 0).toNat:Int)) J (fun w' h'=>Ud Tryd.underlying9 J J ag ah) D1 (tz0 3 J D1 (xmS J) (tz0 4 J D1 (xmI J) ?_));obtain ⟨⟨ai,aj⟩,H⟩:=Zj H;refine Wt 5 J J J (vU (((V).getD (K).toNat 0).toNat:Int)) J (fun w' h'=>Ud Tryd.underlying9 J J ai aj) D1 (tz0 6 J D1 (xiB J J) ?_);refine Wz ?_;refine tn ?_;rcases Q7 H with ⟨a7,H⟩ | ⟨a7,H⟩
     ·refine QD (cB a7) ?_;refine wsQ (waI J (wnQ ?_));refine QS ?_;refine tr (br (tr (tr (br (tr (tr (?_)))))));obtain rfl:=oi H;have H:=a4;replace H:=elimL H;obtain rfl:=oi H;exact ⟨_,_,_,rsA (vs:=[_]) J,HM,E,S.pk [],⟨J,J⟩⟩
     refine QB (cB a7) (QW (tn (QG ?_)));refine rgA S [] [] 7 mixed J (eE1 E ?_);intro ar E S D2;refine tz0 0 J D2 (xmS J) (tz0 1 J D2 (xmI J) ?_);obtain ⟨⟨ak,am⟩,H⟩:=Zj H;refine Wt 2 J J J (vU (((U).getD (K).toNat 0).toNat:Int)) J (fun w' h'=>Ud Tryd.underlying9 J J ak am) D2 (tz0 3 J D2 (xmS J) (tz0 4 J D2 (xmI J) ?_));obtain ⟨⟨an,ad⟩,H⟩:=Zj H;refine Wt 5 J J J (vU (((V).getD (K).toNat 0).toNat:Int)) J (fun w' h'=>Ud Tryd.underlying9 J J an ad) D2 (tz0 6 J D2 (xiB J J) ?_);refine Wz ?_;refine tn ?_;rcases Q7 H with ⟨W,H⟩ | ⟨W,H⟩
     ·refine QD (cB W) ?_;refine wsQ (waI J (wnQ ?_));refine QS ?_;refine br (tr (tr (br (tr (tr (?_))))));obtain rfl:=oi H;have H:=a4;replace H:=elimL H;obtain rfl:=oi H;exact ⟨_,_,_,rsA (vs:=[_]) J,HM,E,S.pk [],⟨J,J⟩⟩
     refine QB (cB W) (QW (bn (tn (QN (wmI J (wiI J J (waI J (wnQ ?_))))))));exact ⟨k,Nat.lt_succ_self k,⟨(IntKind.i64.wrap (K+(1:Int))),H,agP J,E,S.pk []⟩⟩
    refine QB (cB a5) ?_;refine YV ?_;refine tx (tx (bsm (?_)));refine tn ?_;exact ⟨oi H,agP J,E,S.pk []⟩
 rintro ρ ao ⟨rfl,a3,E,S⟩;rw [QC a3];have H:=a4;replace H:=elimR H;refine tn ?_
 as_aux_lemma =>
 refine QG (wsQ (wmS J (W_v _ (VP Tryd.underlying9 J) J (wmS J (W_v _ (VP Tryd.underlying9 J) J (wiB J J (wnQ ?_)))))));rcases Q7 H with ⟨Y,H⟩ | ⟨Y,H⟩
 ·refine QD (cB Y) ?_;refine wsQ (waI J (wnQ ?_));refine QS ?_;refine tr (?_);obtain rfl:=oi H;exact ⟨_,_,_,rsA (vs:=[_]) J,HM,E,S.pk [],⟨J,J⟩⟩
 refine QB (cB Y) (QW (tn (QG (wsQ (wmS J (W_v _ (VP Tryd.underlying9 J) J (wmS J (W_v _ (VP Tryd.underlying9 J) J (wiB J J (wnQ ?_))))))))));rcases Q7 H with ⟨Z,H⟩ | ⟨Z,H⟩
 ·refine QD (cB Z) ?_;refine wsQ (waI J (wnQ ?_));refine QS ?_;refine tr (?_);obtain rfl:=oi H;exact ⟨_,_,_,rsA (vs:=[_]) J,HM,E,S.pk [],⟨J,J⟩⟩
 refine QB (cB Z) (QW (tn ?_))
 as_aux_lemma =>
 refine wsQ (waI J (wnQ ?_));refine QS ?_;obtain rfl:=oi H;exact ⟨_,_,_,rsA (vs:=[_]) J,HM,E,S.pk [],⟨J,J⟩⟩
def XL (k:Nat) (B:Str) (V:Str) (E:Str):Option (Bool) :=
 (Option.bind (YF k V B) (fun W=>(Option.bind (α:=Bool) (if (decide (W≤(0:Int)))=true then (Option.bind (α:=Bool) (if (sbin .eql E ([]:Str))=true then some (true) else (Option.bind (YF k B E) (fun H=>some ((decide (H<(0:Int))))))) (fun K=>some (K))) else some (false)) (fun U=>some U))))
theorem XL.mono {k B E H}: OLe (XL k B E H) (XL (k+1) B E H):=by
 unfold XL;have m1:=@YF.mono;exact mo
theorem XL.con {k M} {a0:Str} {a1:Str} {a2:Str} {r:Bool} (h:XL k a0 a1 a2=some r): Con Tryd.prog 90 #[vS a0,vS a1,vS a2] M [] (fun v M' V=>v=.bool r∧V=[]):=by
 refine cwA Tryd.func90 J Tryd.ntmps90 Tryd.results90 J h ?_;intro w F rn S ah E HM H;unfold XL at H;refine wsQ (waB J (wnQ (wsQ (wmS J (wmS J ?_)))));obtain ⟨t1,ab,H⟩:=QL H;refine Zs fn101 (YF.con ab) S J J flN (eE4 E ?_);rintro _ w3 _ V E S ⟨rfl,rfl⟩;refine wiB J J (wmB J ?_);obtain ⟨ac,a4,a5⟩:=QL H;refine Q4 9 (fun W w'=>∃ (Y:Bool),(Y)=ac∧QY W [(20,.bool Y)]∧Ext w w'∧St w' M F []) ?_ ?_
 ·as_aux_lemma =>
   have H:=a4;rcases Q7 H with ⟨B,H⟩ | ⟨B,H⟩
   ·refine QJ (cS B) (wmS J (QJ (cS B) (W_v (.bool (sbin .eql a2 ([]:Str))) (U2 J J J) J (QJ (cS B) (wmB J ?_)))));obtain ⟨ad,a6,a7⟩:=QL H;refine Q4 5 (fun W w'=>∃ (U:Bool),(U)=ad∧QY W [(11,.bool (decide (t1≤(0:Int)))),(19,.bool U)]∧Ext w w'∧St w' M F []) ?_ ?_
    ·have H:=a6;rcases Q7 H with ⟨K,H⟩ | ⟨K,H⟩
     ·refine QX (skF K) J (QX (skF K) J (QX (skF K) J (QX (skF K) J (QJ (cS B) (wpB K J (QF ?_))))));exact ⟨true,oi H,agP J,E,S.pk []⟩
     ·refine QJ (cS K) (wmS J (QJ (cS K) (wmS J (QJ (cS K) ?_))));obtain ⟨ae,a8,H⟩:=QL H;refine Zs fn101 (YF.con a8) S J J flN (eE4 E ?_);rintro _ ai _ V E S ⟨rfl,rfl⟩;refine QJ (cS K) (wiB J J (QJ (cS B) (wqB K J (QF ?_))));exact ⟨(decide (ae<(0:Int))),oi H,agP J,E,S.pk []⟩
    rintro W aj ⟨U,rfl,Z,E,S⟩;rw [QC Z];have H:=a7;refine wpB B J (QF ?_);exact ⟨U,oi H,agP J,E,S.pk []⟩
   ·refine QX (skT B) J (QX (skT B) J (QX (skT B) J (QX (J) J (QX (J) J (QX (J) J (QX (J) J (QX (skT B) J (wqB B J (QF ?_)))))))));exact ⟨false,oi H,agP J,E,S.pk []⟩
 rintro W ak ⟨Y,rfl,Z,E,S⟩;rw [QC Z];have H:=a5;refine waB J (wnQ ?_);refine QS ?_;obtain rfl:=oi H;exact ⟨_,_,_,rsA (vs:=[_]) J,HM,E,S.pk [],⟨J,J⟩⟩
def YY (H:(List QZ)) (K:Int):Nat→List QZ→Int→Option ((List QZ))
 | 0,_,_=>none
 | k+1,E,B=>(if ((decide (B<(H.length:Int)))&&(decide (B≤K)))=true then (Option.bind (α:=List QZ) (Option.bind (α:=Bool) (if (decide (B<K))=true then some (true) else (if 0≤B∧B<(H.length:Int) then some ((!((rd H B).Tomb))) else none)) (fun U=>(Option.bind (α:=List QZ) (if U=true then (if 0≤B∧B<(H.length:Int) then (if E.length+([(rd H B)]:List QZ).length≤3518437208883 then some ((E++([(rd H B)]:List QZ))) else none) else none) else some (E)) (fun V=>some (V))))) (fun W=>YY H K k W (IntKind.i64.wrap (B+(1:Int))))) else some (E))
theorem YY.mono {B E}: ∀ {kl:Nat} {x0 H},OLe (YY B E kl x0 H) (YY B E (kl+1) x0 H):=by
 intro kl
 induction kl with
 | zero=>intros;exact OLe.none
 | succ kl ih =>
  intros
  rw [YY.eq_2,YY.eq_2];exact mo
def Xw (k:Nat) (E:(List QZ)) (H:Int):Option ((List QZ)) :=
 (Option.bind (XA k E H) (fun K=>(Option.bind (YY E K k ([]:List QZ) (0:Int)) (fun B=>some B))))
theorem Xw.mono {k B E}: OLe (Xw k B E) (Xw (k+1) B E):=by
 unfold Xw;have m1:=@YY.mono;have m2:=@XA.mono;exact mo
theorem Xw.con {k M A0 c0} {V:(List QZ)} {a1:Int} {r:(List QZ)} (h:Xw k V a1=some r) (ak:SlR ZU M (.slice A0 V.length c0) V): Con Tryd.prog 102 #[.slice A0 V.length c0,vI a1] M [] (fun v M' bb=>∃ (A0:Option Addr) (c0:Nat),v=.slice A0 r.length c0∧bb=[Rw ZU 117 A0 c0 r]):=by
 refine cwA Tryd.func102 J Tryd.ntmps102 Tryd.results102 J h ?_;intro w F rn S c7 E HM H;unfold Xw at H;refine wsQ (waL J (wnQ (wsQ (wmL J (wmI J ?_)))));obtain ⟨t1,bj,H⟩:=QL H;refine Zs fn103 (XA.con bj ak) S J J flN (eE4 E ?_);rintro _ w3 _ bb E S ⟨rfl,rfl⟩;refine waI J (wnQ (wsQ (waL J (wnQ (QG (wsQ (waI J (wnQ ?_))))))));obtain ⟨am,ar,au⟩:=QL H;refine Zr (fun ρ w'=>∃ (a7:List QZ) (a8:Option Addr) (a9:Nat),(a7)=am∧QY ρ [(6,.slice a8 a7.length a9)]∧Ext w w'∧St w' M F [Rw ZU 117 a8 a9 a7]) ?_ ?_
 ·refine Yt (fun n ρ w'=>∃ (W:List QZ) (B:Int) (Y:Option Addr) (Z:Nat),YY V t1 n W B=some am∧QY ρ [(0,.slice A0 V.length c0),(5,vI t1),(6,.slice Y W.length Z),(7,vI B)]∧Ext w w'∧St w' M F [Rw ZU 117 Y Z W]) k ?_ ?_
  ·replace S:=S.row_nil ZU 117;exact ⟨([]:List QZ),(0:Int),none,0,ar,agP J,E,S.pk [0]⟩
  ·intro n;rintro ρ bc ⟨W,B,Y,Z,H,a2,E,S⟩;rw [QC a2]
   cases n with
   | zero=>cases H
   | succ k =>
    rw [YY.eq_2] at H;refine QG (wsQ (wmI J (wmL J (W_v _ (Qd (n:=V.length) Tryd.underlying115 J) J (wiB J J (wmB J ?_))))));refine Q4 4 (fun ρ w'=>QY ρ [(0,.slice A0 V.length c0),(5,vI t1),(6,.slice Y W.length Z),(7,vI B),(19,.bool ((decide (B<(V.length:Int)))&&(decide (B≤t1))))]∧bc=w') ?_ ?_
    ·rcases Qw (decide (B<(V.length:Int))) with U | U
     ·refine QX (skT U) J (QX (skT U) J (QX (skT U) J (wqB U J (QF ?_))));exact ⟨⟨J,J,J,J,(flB U),trivial⟩,rfl⟩
     ·refine QJ (cS U) (wmI J (QJ (cS U) (wmI J (QJ (cS U) (wiB J J (wpB U J (QF ?_)))))));exact ⟨⟨J,J,J,J,(flB U),trivial⟩,rfl⟩
    as_aux_lemma =>
    rintro ρ _ ⟨a2,rfl⟩;rw [QC a2];refine wnQ ?_;rcases Q7 H with ⟨aa,H⟩ | ⟨aa,H⟩
    ·refine QD (cB aa) ?_;refine QW (tn (QG ?_));obtain ⟨bd,av,ai⟩:=QL H;refine Xz (fun ρ w'=>∃ (a3:List QZ) (ab:Option Addr) (ac:Nat),(a3)=bd∧QY ρ [(0,.slice A0 V.length c0),(5,vI t1),(6,.slice ab a3.length ac),(7,vI B)]∧Ext w w'∧St w' M F [Rw ZU 117 ab ac a3]) ?_ ?_
     ·as_aux_lemma =>
       clear ai;have H:=av;refine Ze ?_;refine wsQ (wmI J (wmI J (wiB J J (wmB J ?_))));obtain ⟨be,aw,ax⟩:=QL H;refine Q4 7 (fun ρ w'=>∃ (ah:Bool),(ah)=be∧QY ρ [(0,.slice A0 V.length c0),(5,vI t1),(6,.slice Y W.length Z),(7,vI B),(32,.bool ah)]∧Ext w w'∧St w' M F [Rw ZU 117 Y Z W]) ?_ ?_
       ·have H:=aw;rcases Q7 H with ⟨K,H⟩ | ⟨K,H⟩
        ·refine QX (skF K) J (QX (skF K) J (QX (skF K) J (QX (skF K) J (QX (skF K) J (QX (skF K) J (wpB K J (QF ?_)))))));exact ⟨true,oi H,agP J,E,S.pk [0]⟩
        ·refine QJ (cS K) (wmL J (QJ (cS K) (wmI J (QJ (cS K) ?_))));obtain ⟨⟨an,ao⟩,H⟩:=Zj H;obtain ⟨bp,bq,bl,_,_,ay,az,b0,b1,b2⟩:=SlW.at' ak an ao;obtain rfl:b0=_:=b1;refine W_v _ (QQ Tryd.underlying115 ty117 (slA ay) J an ao) J (QJ (cS K) (wfA Tryd.underlying117 ty4 J (QJ (cS K) (W_v _ (YG (S.frz az) ty4 J (b2 2 _ J)) J (QJ (cS K) (W_v _ (X5 (b:=((rd V B).Tomb)) J) J (wqB K J (QF ?_))))))));exact ⟨(!((rd V B).Tomb)),oi H,agP J,E,S.pk [0]⟩
       as_aux_lemma =>
       rintro ρ bt ⟨ah,rfl,a2,E,S⟩;rw [QC a2];have H:=ax;refine wnQ ?_;obtain ⟨bf,b3,aj⟩:=QL H;refine Xz (fun ρ w'=>∃ (a4:List QZ) (ad:Option Addr) (ae:Nat),(a4)=bf∧QY ρ [(0,.slice A0 V.length c0),(5,vI t1),(6,.slice ad a4.length ae),(7,vI B)]∧Ext w w'∧St w' M F [Rw ZU 117 ad ae a4]) ?_ ?_
       ·clear aj;have H:=b3;rcases Q7 H with ⟨af,H⟩ | ⟨af,H⟩
        ·refine QD (cB af) ?_;refine QN (wmL J (wmL J (wmI J ?_)));obtain ⟨⟨ap,aq⟩,H⟩:=Zj H;obtain ⟨bu,bv,bm,_,_,b4,b5,b6,b7,b8⟩:=SlW.at' ak ap aq;obtain rfl:b6=_:=b7;refine W_v _ (QQ Tryd.underlying115 ty117 (slA b4) J ap aq) J (W_v (.agg (XX (rd V B))) (Ql (S.frz b5) ty117 J (X1 b8 0 J) J J) J ?_);refine Yw S (XX (rd V B)) Tryd.underlying115 ty117 J J cz19 (by as_aux_lemma=>kernel_rfl) (by as_aux_lemma=>kernel_rfl) J (eE2 E ?_);intro bw bz E S;replace S:=S.blk_row (r:=ZU) (l:=([(rd V B)]:List QZ)) 0 J 1 (Nat.le_refl 1) J (Cells.cons (vs:=[vI ((rd V B).Writer),vI ((rd V B).TS),.bool ((rd V B).Tomb),vS ((rd V B).Value)]) (J) Cells.nil);obtain ⟨c1,H⟩:=Zj H;obtain ⟨bk,b9,ba⟩:=Z2 (P:=Tryd.prog) (ρ:=ZU) (l:=([(rd V B)]:List QZ)) (S.row_read 0 J) (by decide);refine XW S 1 J J J Tryd.underlying115 (.inl Tryd.underlying115) ty117 J (by decide) (by decide) b9 ba J (by omega) J (eE2 E ?_);intro c2 c3 E S;obtain ⟨bg,bh,rfl,_⟩:=(S.row_read 1 J).form;refine waL J (wnQ ?_);exact ⟨(W++([(rd V B)]:List QZ)),bg,bh,oi H,agP J,E,S.pk [1]⟩
        refine QB (cB af) (QW (tn ?_));exact ⟨W,Y,Z,oi H,agP J,E,S.pk [0]⟩
       rintro ρ c4 ⟨a4,ad,ae,rfl,a2,E,S⟩;rw [QC a2];have H:=aj;refine bn (tn ?_);exact ⟨a4,ad,ae,oi H,agP J,E,S.pk [0]⟩
     rintro ρ c5 ⟨a3,ab,ac,rfl,a2,E,S⟩;rw [QC a2];have H:=ai;refine tn (QN (wmI J (wiI J J (waI J (wnQ ?_)))));exact ⟨k,Nat.lt_succ_self k,⟨a3,(IntKind.i64.wrap (B+(1:Int))),ab,ac,H,agP J,E,S.pk [0]⟩⟩
    refine QB (cB aa) ?_;refine YV ?_;refine tx (tx (bsm (?_)));refine tn ?_;exact ⟨W,Y,Z,oi H,agP J,E,S.pk [0]⟩
 rintro ρ c6 ⟨a7,a8,a9,rfl,a2,E,S⟩;rw [QC a2];have H:=au;refine tn ?_
 as_aux_lemma =>
 refine wsQ (wmL J (waL J (wnQ ?_)));refine QS ?_;obtain rfl:=oi H;exact ⟨_,_,_,rsA (vs:=[_]) J,HM,E,S.pk [0],⟨a8,a9,J,J⟩⟩
def XD (k:Nat) (B:Qa):Option ((Unit)⊕(QI)) :=
 (Option.bind (Z0 k B) (fun E=>(if (!E)=true then some (Sum.inl ()) else some (Sum.inr (⟨⟨B.Tasks,B.Active,B.Keys,B.Depth,B.TS,B.KeyLen,B.ValLen,B.Fan⟩,([]:List Qj),([]:List Qs),(0:Int),(0:Int)⟩:QI)))))
theorem XD.mono {k B}: OLe (XD k B) (XD (k+1) B):=by
 unfold XD;have m1:=@Z0.mono;exact mo
theorem XD.con {k M} {B:Qa} {r:(Unit)⊕(QI)} (h:XD k B=some r): Con Tryd.prog 81 #[.agg (QR B)] M [] (fun v M' K=>(Sum.elim (fun x=>v=.tuple cz22∧K=[]) (fun x=>∃ (V:Nat) (W:Option Addr) (Y:Nat) (Z:Option Addr) (a1:Nat),v=.tuple #[pt V 0,vI 0]∧K=[B169 V x W Y Z a1,Rw QE 172 W Y x.T,Rw Qm 176 Z a1 x.L])) r):=by
 refine cwA Tryd.func81 J Tryd.ntmps81 Tryd.results81 J h ?_;intro w F rn S a6 E HM H;unfold XD at H;refine wsQ ?_;refine Y5 S (QR B) J J J (eE2 E ?_);intro b1 w2 E S;refine W_v (.pointer none) (YZ J) J (waI J (wnQ (QG (wsQ (W_v (.agg (QR B)) (Ql (S.blk 0 J) ty23 J (QM J) J J) J ?_)))));obtain ⟨t4,a3,H⟩:=QL H;refine Zs fn60 (Z0.con a3) S J J flN (eE4 E ?_);rintro _ w6 _ K E S ⟨rfl,rfl⟩;refine W_v _ (X5 (b:=t4) J) J (wnQ ?_);rcases Q7 H with ⟨U,H⟩ | ⟨U,H⟩
 ·refine QD (cB U) ?_;refine wsQ (W_v (.pointer none) (YZ J) J (waI J (wnQ ?_)));refine QS ?_;refine tr (?_);obtain rfl:=oi H;exact ⟨_,_,_,rsA (vs:=[_,_]) J,HM,E,S.pk [],⟨J,J⟩⟩
 refine QB (cB U) (QW (tn (wsQ (W_v (.agg (QR B)) (Ql (S.blk 0 J) ty23 J (QM J) J J) J (W_v _ (xb2 [(0,8),(8,1),(9,1),(10,1),(11,1)] #[vI B.Tasks,vI B.Active,vI B.Keys,vI B.Depth,vI B.TS,vI B.KeyLen,vI B.ValLen,vI B.Fan,.slice none 0 0,.slice none 0 0,vI 0,vI 0] Tryd.underlying169 ty169 J) J ?_)))));refine Y5 S #[vI B.Tasks,vI B.Active,vI B.Keys,vI B.Depth,vI B.TS,vI B.KeyLen,vI B.ValLen,vI B.Fan,.slice none 0 0,.slice none 0 0,vI 0,vI 0] J J J (eE2 E ?_);intro b8 w9 E S;refine waP J (waI J (wnQ ?_));refine QS ?_;obtain rfl:=oi H;replace S:=S.row_nil QE 172;replace S:=S.row_nil Qm 176;exact ⟨_,_,_,rsA (vs:=[_,_]) J,HM,E,S.pk [2,1,0],⟨b8,none,0,none,0,J,J⟩⟩
def Yf (k:Nat) (B:Int) (E:QV):Option (Int) :=
 (Option.bind (α:=Unit) (if (decide (B<(0:Int)))=true then some () else none) (fun _=>some (1:Int)))
theorem Yf.mono {k B E}: OLe (Yf k B E) (Yf (k+1) B E):=by
 unfold Yf;exact mo
theorem Yf.con {k M} {U:Int} {K:QV} {r:Int} (h:Yf k U K=some r): Con Tryd.prog 84 #[.pointer none,vI U,.agg (ZA K)] M [] (fun v M' V=>v=vI r∧V=[]):=by
 refine cwA Tryd.func84 J Tryd.ntmps84 Tryd.results84 J h ?_;intro w F rn S a6 E HM H;unfold Yf at H;refine wsQ ?_;refine Y5 S (ZA K) J J J (eE2 E ?_);intro W w2 E S;refine waI J (wnQ (QG (wsQ (wmI J (wiB J J (wmB J ?_))))));obtain ⟨o5,Y,Z⟩:=QL H;refine Q4 8 (fun ρ w'=>()=o5∧QY ρ [(0,.pointer none),(1,vI U),(5,pt W 0),(21,.bool true)]∧Ext w w'∧St w' M F [B47 W K]) ?_ ?_
 ·have H:=Y;rcases Q7 H with ⟨B,H⟩ | ⟨B,H⟩
  ·refine QX (skF B) J (QX (skF B) J (QX (skF B) J (QX (skF B) J (QX (skF B) J (QX (skF B) J (QX (skF B) J (wpB B J (QF ?_))))))));exact ⟨oi H,agP J,E,S.pk [0]⟩
  ·refine QJ (cS B) (wmI J (QJ (cS B) (W_v (.pointer none) (Yr J) J (QJ (cS B) ?_))))
   cases H
 as_aux_lemma =>
 rintro ρ w6 ⟨rfl,a3,E,S⟩;rw [QC a3];have H:=Z;refine wmB J (QX (J) J (QX (J) J (QX (J) J (wpB J J (wmB J (QX (J) J (QX (J) J (QX (J) J (wpB J J (wmB J (QX (J) J (QX (J) J (QX (J) J (QX (J) J (QX (J) J ?_)))))))))))))));refine QX (J) J (QX (J) J (QX (J) J (QX (J) J (QX (J) J (QX (J) J (QX (J) J (QX (J) J (wpB J J (wnQ (QD J (wsQ (waI J (QF ?_)))))))))))));refine tn ?_;refine QS ?_;refine tr (?_);obtain rfl:=oi H;exact ⟨_,_,_,rsA (vs:=[_]) J,HM,E,S.pk [],⟨J,J⟩⟩
def XQ (k:Nat) (E:Int) (H:QV):Option (Qc) :=
 (Option.bind (Yf k E H) (fun B=>(if (B != (0:Int))=true then some (⟨B,false,([]:Str),([]:List Qn)⟩:Qc) else none)))
theorem XQ.mono {k B E}: OLe (XQ k B E) (XQ (k+1) B E):=by
 unfold XQ;have m1:=@Yf.mono;exact mo
theorem XQ.con {k M} {Z:Int} {K:QV} {r:Qc} (h:XQ k Z K=some r): Con Tryd.prog 82 #[.pointer none,vI Z,.agg (ZA K)] M [] (fun v M' V=>∃ (W:Option Addr) (Y:Nat),v=.agg #[vI r.Err,.bool r.Found,vS r.Value,.slice W r.Pairs.length Y]∧V=[Rw Qr 72 W Y r.Pairs]):=by
 refine cwA Tryd.func82 J Tryd.ntmps82 Tryd.results82 J h ?_;intro w F rn S a6 E HM H;unfold XQ at H;refine wsQ ?_;refine Y5 S (ZA K) J J J (eE2 E ?_);intro b1 w2 E S;refine YN S cz18 ty34 J J (eE2 E ?_);intro b4 w5 E S;refine wnQ (wsQ (W_v (.pointer none) (Yr J) J (wmI J (W_v (.agg (ZA K)) (Ql (S.blk 1 J) ty47 J (QM J) J J) J ?_))));obtain ⟨U,a0,H⟩:=QL H;refine Y0 fn84 (Yf.con a0) (Γ1:=[]) (Γ2:=[_,_]) S J J flN (eE4 E ?_);rintro _ w9 _ V E S ⟨rfl,rfl⟩;replace S:St w9 M F [_,_]:=S;refine waI J (wnQ (QG (wsQ (wmI J (wiB J J (wnQ ?_))))));rcases Q7 H with ⟨B,H⟩ | ⟨B,H⟩
 ·refine QD (cB B) ?_;refine wsQ (wmI J (W_v _ (xb2 [(0,1),(1,1),(2,1),(3,1)] #[vI U,.bool false,vS ([]:Str),.slice none 0 0] Tryd.underlying34 ty34 J) J ?_));refine Qu S 0 J ty34 J J [vI U,.bool false,vS ([]:Str),.slice none 0 0] J J J #[vI U,.bool false,vS ([]:Str),.slice none 0 0] J J (eE1 E ?_);intro a7 E S;refine wnQ ?_;refine QS ?_;refine tr (?_);obtain rfl:=oi H;replace S:=S.row_nil Qr 72;exact ⟨_,_,_,fun w1 e1=>Zk (vs:=[.agg #[vI U,.bool false,vS ([]:Str),.slice none ([]:List Qn).length 0]]) (FA.cons (rcA S e1 1 ty34 J J J) (FA.nil)),HM,E,S.pk [0],⟨none,0,J,J⟩⟩
 refine QB (cB B) (QW (tn ?_))
 as_aux_lemma =>
 refine wsQ (W_v (.pointer none) (Yr J) J (wmI J (wfA Tryd.underlying47 ty3 J (wlA S 1 ty3 J ?_))))
 cases H
def Zc (K:QI) (W:Qs):Nat→List Qs→Bool→Int→Option ((List Qs×Bool))
 | 0,_,_,_=>none
 | k+1,E,U,B=>(if (decide (B<(K.L.length:Int)))=true then (Option.bind (α:=List Qs×Bool) (if 0≤B∧B<(K.L.length:Int) then (Option.bind (YF k ((rd K.L B).Key) W.Key) (fun V=>(Option.bind (α:=List Qs×Bool) (if ((decide (V≥(0:Int)))&&(!U))=true then (if E.length+([W]:List Qs).length≤1599289640401 then some ((E++([W]:List Qs)),true) else none) else some (E,U)) (fun ⟨H,Y⟩=>(Option.bind (α:=List Qs) (if (V != (0:Int))=true then (if 0≤B∧B<(K.L.length:Int) then (if H.length+([(rd K.L B)]:List Qs).length≤1599289640401 then some ((H++([(rd K.L B)]:List Qs))) else none) else none) else some (H)) (fun Z=>some (Z,Y))))))) else none) (fun ⟨a2,a3⟩=>Zc K W k a2 a3 (IntKind.i64.wrap (B+(1:Int))))) else some (E,U))
theorem Zc.mono {B E}: ∀ {kl:Nat} {x0 H K},OLe (Zc B E kl x0 H K) (Zc B E (kl+1) x0 H K):=by
 intro kl
 induction kl with
 | zero=>intros;exact OLe.none
 | succ kl ih =>
  intros
  rw [Zc.eq_2,Zc.eq_2];have m1:=@YF.mono;exact mo
def Qx (k:Nat) (B:QI) (H:Qs):Option (QI) :=
 (Option.bind (Zc B H k ([]:List Qs) (((H.L.length:Int)==(0:Int))&&(!H.Has)) (0:Int)) (fun ⟨E,K⟩=>(Option.bind (α:=List Qs) (if (!K)=true then (if E.length+([H]:List Qs).length≤1599289640401 then some ((E++([H]:List Qs))) else none) else some (E)) (fun U=>some (⟨⟨B.C.Tasks,B.C.Active,B.C.Keys,B.C.Depth,B.C.TS,B.C.KeyLen,B.C.ValLen,B.C.Fan⟩,B.T,U,B.Time,B.Low⟩:QI)))))
theorem Qx.mono {k B E}: OLe (Qx k B E) (Qx (k+1) B E):=by
 unfold Qx;have m1:=@Zc.mono;exact mo
theorem Qx.con {k M A0_8 c0_8 A0_9 c0_9} {U:QI} {A1_0 c1_0} {B:Qs} {W} {r:QI} (h:Qx k U B=some r) (hr0_9:SlR Qm M (.slice A0_9 U.L.length c0_9) U.L) (hr1_0:SlR ZU M (.slice A1_0 B.L.length c1_0) B.L): Con Tryd.prog 100 #[pt W 0,.agg #[vS B.Key,.slice A1_0 B.L.length c1_0,.bool B.Has,vI B.I.Writer,vI B.I.TS,.bool B.I.Tomb,vS B.I.Value]] M [B169 W U A0_8 c0_8 A0_9 c0_9,Rw QE 172 A0_8 c0_8 U.T] (fun v M' ce=>∃ (cf:Option Addr) (cg:Nat) (ch:Option Addr) (ci:Nat),v=.tuple #[]∧ce=[B169 W r cf cg ch ci,Rw QE 172 cf cg r.T,Rw Qm 176 ch ci r.L]):=by
 refine cwA Tryd.func100 J Tryd.ntmps100 Tryd.results100 J h ?_;intro w F rn S du E HM H;unfold Qx at H;refine wsQ ?_;refine Y5 S #[vS B.Key,.slice A1_0 B.L.length c1_0,.bool B.Has,vI B.I.Writer,vI B.I.TS,.bool B.I.Tomb,vS B.I.Value] J J J (eE2 E ?_);intro b1 w2 E S;refine wnQ (wsQ (waL J (wnQ (wsQ (wfA Tryd.underlying176 ty115 J (wlA S 0 ty115 J (W_v _ (Qd (n:=B.L.length) Tryd.underlying115 J) J (wiB J J (wmB J ?_)))))))));refine Q4 4 (fun ρ w'=>QY ρ [(0,pt W 0),(3,pt b1 0),(4,.slice none 0 0),(16,.bool (((B.L.length:Int)==(0:Int))&&(!B.Has)))]∧w2=w') ?_ ?_
 ·rcases Qw ((B.L.length:Int)==(0:Int)) with Z | Z
  ·refine QX (skT Z) J (QX (skT Z) J (QX (skT Z) J (wqB Z J (QF ?_))));exact ⟨⟨J,J,J,(flB Z),trivial⟩,rfl⟩
  ·refine QJ (cS Z) (wfA Tryd.underlying176 ty4 J (QJ (cS Z) (wlA S 0 ty4 J (QJ (cS Z) (W_v _ (X5 (b:=B.Has) J) J (wpB Z J (QF ?_)))))));exact ⟨⟨J,J,J,(flB Z),trivial⟩,rfl⟩
 as_aux_lemma =>
 rintro ρ _ ⟨Y,rfl⟩;rw [QC Y];refine waB J (wnQ (QG (wsQ (waI J (wnQ ?_)))));obtain ⟨b6,bb,bc⟩:=QL H;refine Zr (fun ρ w'=>∃ (a4:List Qs) (af:Bool) (ag:Option Addr) (ah:Nat),(a4,af)=b6∧QY ρ [(0,pt W 0),(3,pt b1 0),(4,.slice ag a4.length ah),(5,.bool af)]∧Ext w w'∧St w' M F [Rw Qm 176 ag ah a4,B176 b1 B A1_0 c1_0,B169 W U A0_8 c0_8 A0_9 c0_9,Rw QE 172 A0_8 c0_8 U.T]) ?_ ?_
 ·refine Yt (fun n ρ w'=>∃ (a2:List Qs) (a3:Bool) (K:Int) (ac:Option Addr) (ad:Nat),Zc U B n a2 a3 K=some b6∧QY ρ [(0,pt W 0),(3,pt b1 0),(4,.slice ac a2.length ad),(5,.bool a3),(6,vI K)]∧Ext w w'∧St w' M F [Rw Qm 176 ac ad a2,B176 b1 B A1_0 c1_0,B169 W U A0_8 c0_8 A0_9 c0_9,Rw QE 172 A0_8 c0_8 U.T]) k ?_ ?_
  ·replace S:=S.row_nil Qm 176;exact ⟨([]:List Qs),(((B.L.length:Int)==(0:Int))&&(!B.Has)),(0:Int),none,0,bb,agP J,E,S.pk [0,1,2,3]⟩
  ·intro n;rintro ρ ct ⟨a2,a3,K,ac,ad,H,Y,E,S⟩;rw [QC Y]
   cases n with
   | zero=>cases H
   | succ k =>
    rw [Zc.eq_2] at H;refine QG (wsQ (wmI J (wmP J (W_v _ (Qf J) J (wfA Tryd.underlying169 ty167 J (wlA S 2 ty167 J (W_v _ (Qd (n:=U.L.length) Tryd.underlying167 J) J (wiB J J (wnQ ?_)))))))));rcases Q7 H with ⟨ar,H⟩ | ⟨ar,H⟩
    ·refine QD (cB ar) ?_;refine QW (tn (QG ?_));obtain ⟨c3,bd,b0⟩:=QL H;refine Xz (fun ρ w'=>∃ (a9:List Qs) (ai:Bool) (aj:Option Addr) (ak:Nat),(a9,ai)=c3∧QY ρ [(0,pt W 0),(3,pt b1 0),(4,.slice aj a9.length ak),(5,.bool ai),(6,vI K)]∧Ext w w'∧St w' M F [Rw Qm 176 aj ak a9,B176 b1 B A1_0 c1_0,B169 W U A0_8 c0_8 A0_9 c0_9,Rw QE 172 A0_8 c0_8 U.T]) ?_ ?_
     ·as_aux_lemma =>
       clear b0;have H:=bd;refine Ze ?_;refine QG ?_;refine rgA S [0,1,2,3] [_,_,_,_] 12 mixed J (eE1 E ?_);intro cu E S D1;refine tz0 0 J D1 (xmP J) (tz0 1 J D1 (Qf J) (tz0 2 J D1 (xfA Tryd.underlying169 ty167 J) (tz1 3 J D1 (fun w' h'=>xlA h' 2 ty167 J) (tz0 4 J D1 (xmI J) ?_))));obtain ⟨⟨b7,b8⟩,H⟩:=Zj H;obtain ⟨cv,cw,co,_,_,bf,bg,cp,bh,bi⟩:=SlW.at' hr0_9 b7 b8;obtain ⟨cx,bj,rfl⟩:=bh;obtain ⟨cy,cz,rfl,_⟩:=bj.form;refine tz0 5 J D1 (QQ Tryd.underlying167 ty176 (slA bf) J b7 b8) (tz0 6 J D1 (xfA Tryd.underlying176 ty9 J) (tz1 7 J D1 (fun w' h'=>YG (Ys h' bg) ty9 J (bi 0 _ J)) (tz0 8 J D1 (xfA Tryd.underlying176 ty9 J) (tz1 9 J D1 (fun w' h'=>xlA h' 1 ty9 J) ?_))));refine Wo 10 J ?_;obtain ⟨am,bk,H⟩:=QL H;refine Zs fn101 (YF.con bk) S J J flN (eE4 E ?_);rintro _ c4 _ ce E S ⟨rfl,rfl⟩;refine QF (YS ⟨.inr ⟨M,Hp.le_refl M,(S.pk [0,1,2,3])⟩,?_⟩);refine tz0 11 J (⟨M,Hp.le_refl M,(S.pk [0,1,2,3])⟩) (xaI J) ?_;refine Wz ?_;refine tn (QG (wsQ (wmI J (wiB J J (wmB J ?_)))));refine Q4 3 (fun ρ w'=>QY ρ [(0,pt W 0),(3,pt b1 0),(4,.slice ac a2.length ad),(5,.bool a3),(6,vI K),(7,vI am),(42,.bool ((decide (am≥(0:Int)))&&(!a3)))]∧c4=w') ?_ ?_
       ·rcases Qw (decide (am≥(0:Int))) with V | V
        ·refine QX (skT V) J (QX (skT V) J (wqB V J (QF ?_)));exact ⟨⟨J,J,J,J,J,J,(flB V),trivial⟩,rfl⟩
        ·refine QJ (cS V) (wmB J (QJ (cS V) (W_v _ (X5 (b:=a3) J) J (wpB V J (QF ?_)))));exact ⟨⟨J,J,J,J,J,J,(flB V),trivial⟩,rfl⟩
       as_aux_lemma =>
       rintro ρ _ ⟨Y,rfl⟩;rw [QC Y];refine wnQ ?_;obtain ⟨c5,bl,b2⟩:=QL H;refine Xz (fun ρ w'=>∃ (a5:List Qs) (aa:Bool) (an:Option Addr) (ao:Nat),(a5,aa)=c5∧QY ρ [(0,pt W 0),(3,pt b1 0),(4,.slice an a5.length ao),(5,.bool aa),(6,vI K),(7,vI am)]∧Ext w w'∧St w' M F [Rw Qm 176 an ao a5,B176 b1 B A1_0 c1_0,B169 W U A0_8 c0_8 A0_9 c0_9,Rw QE 172 A0_8 c0_8 U.T]) ?_ ?_
       ·clear b2;have H:=bl;rcases Q7 H with ⟨au,H⟩ | ⟨au,H⟩
        ·refine QD (cB au) ?_;refine wsQ (wmL J (W_v (.agg #[vS B.Key,.slice A1_0 B.L.length c1_0,.bool B.Has,vI B.I.Writer,vI B.I.TS,.bool B.I.Tomb,vS B.I.Value]) (Ql (S.blk 1 J) ty176 J (QM J) J J) J ?_));refine Yw S #[vS B.Key,.slice A1_0 B.L.length c1_0,.bool B.Has,vI B.I.Writer,vI B.I.TS,.bool B.I.Tomb,vS B.I.Value] Tryd.underlying167 ty176 J J cz4 (by as_aux_lemma=>kernel_rfl) (by as_aux_lemma=>kernel_rfl) J (eE2 E ?_);intro d0 d1 E S;replace S:=S.blk_row (r:=Qm) (l:=([B]:List Qs)) 0 J 1 (Nat.le_refl 1) J (Cells.cons (vs:=[vS B.Key,.slice A1_0 B.L.length c1_0,.bool B.Has,vI B.I.Writer,vI B.I.TS,.bool B.I.Tomb,vS B.I.Value]) (⟨_,hr1_0,J⟩) Cells.nil);obtain ⟨d2,H⟩:=Zj H;obtain ⟨cj,bm,bo⟩:=Z2 (P:=Tryd.prog) (ρ:=Qm) (l:=([B]:List Qs)) (S.row_read 0 J) (by decide);refine XW S 1 J J J Tryd.underlying167 (.inl Tryd.underlying167) ty176 J (by decide) (by decide) bm bo J (by omega) J (eE2 E ?_);intro d3 d4 E S;obtain ⟨c6,c7,rfl,_⟩:=(S.row_read 1 J).form;refine waL J (wnQ (QN (waB J (wnQ ?_))));exact ⟨(a2++([B]:List Qs)),true,c6,c7,oi H,agP J,E,S.pk [1,2,3,4]⟩
        refine QB (cB au) (QW (tn ?_));exact ⟨a2,a3,ac,ad,oi H,agP J,E,S.pk [0,1,2,3]⟩
       as_aux_lemma =>
       rintro ρ d5 ⟨a5,aa,an,ao,rfl,Y,E,S⟩;rw [QC Y];have H:=b2;refine tn (wsQ (wmI J (wiB J J (wnQ ?_))));obtain ⟨c8,bp,b3⟩:=QL H;refine Xz (fun ρ w'=>∃ (ab:List Qs) (ap:Option Addr) (aq:Nat),(ab)=c8∧QY ρ [(0,pt W 0),(3,pt b1 0),(4,.slice ap ab.length aq),(5,.bool aa),(6,vI K)]∧Ext w w'∧St w' M F [Rw Qm 176 ap aq ab,B176 b1 B A1_0 c1_0,B169 W U A0_8 c0_8 A0_9 c0_9,Rw QE 172 A0_8 c0_8 U.T]) ?_ ?_
       ·clear b3;have H:=bp;rcases Q7 H with ⟨av,H⟩ | ⟨av,H⟩
        ·refine QD (cB av) ?_;refine QN (wmL J (wmP J (W_v _ (Qf J) J (wfA Tryd.underlying169 ty167 J (wlA S 2 ty167 J (wmI J ?_))))));obtain ⟨⟨b9,ba⟩,H⟩:=Zj H;obtain ⟨d6,d7,cq,_,_,bq,bt,cr,bu,bv⟩:=SlW.at' hr0_9 b9 ba;obtain ⟨d8,b4,rfl⟩:=bu;obtain ⟨ay,az,rfl,_⟩:=b4.form;refine W_v _ (QQ Tryd.underlying167 ty176 (slA bq) J b9 ba) J (W_v (.agg #[vS ((rd U.L K).Key),.slice ay ((rd U.L K).L).length az,.bool ((rd U.L K).Has),vI ((rd U.L K).I.Writer),vI ((rd U.L K).I.TS),.bool ((rd U.L K).I.Tomb),vS ((rd U.L K).I.Value)]) (Ql (S.frz bt) ty176 J (X1 bv 0 J) J J) J ?_);refine Yw S #[vS ((rd U.L K).Key),.slice ay ((rd U.L K).L).length az,.bool ((rd U.L K).Has),vI ((rd U.L K).I.Writer),vI ((rd U.L K).I.TS),.bool ((rd U.L K).I.Tomb),vS ((rd U.L K).I.Value)] Tryd.underlying167 ty176 J J cz4 (by as_aux_lemma=>kernel_rfl) (by as_aux_lemma=>kernel_rfl) J (eE2 E ?_);intro d9 da E S;replace S:=S.blk_row (r:=Qm) (l:=([(rd U.L K)]:List Qs)) 0 J 1 (Nat.le_refl 1) J (Cells.cons (vs:=[vS ((rd U.L K).Key),.slice ay ((rd U.L K).L).length az,.bool ((rd U.L K).Has),vI ((rd U.L K).I.Writer),vI ((rd U.L K).I.TS),.bool ((rd U.L K).I.Tomb),vS ((rd U.L K).I.Value)]) (⟨_,b4,J⟩) Cells.nil);obtain ⟨db,H⟩:=Zj H;obtain ⟨cm,bw,bz⟩:=Z2 (P:=Tryd.prog) (ρ:=Qm) (l:=([(rd U.L K)]:List Qs)) (S.row_read 0 J) (by decide);refine XW S 1 J J J Tryd.underlying167 (.inl Tryd.underlying167) ty176 J (by decide) (by decide) bw bz J (by omega) J (eE2 E ?_);intro dc dd E S;obtain ⟨c9,ca,rfl,_⟩:=(S.row_read 1 J).form;refine waL J (wnQ ?_);exact ⟨(a5++([(rd U.L K)]:List Qs)),c9,ca,oi H,agP J,E,S.pk [1,2,3,4]⟩
        refine QB (cB av) (QW (tn ?_));exact ⟨a5,an,ao,oi H,agP J,E,S.pk [0,1,2,3]⟩
       rintro ρ de ⟨ab,ap,aq,rfl,Y,E,S⟩;rw [QC Y];have H:=b3;refine bn (tn ?_);exact ⟨ab,aa,ap,aq,oi H,agP J,E,S.pk [0,1,2,3]⟩
     rintro ρ df ⟨a9,ai,aj,ak,rfl,Y,E,S⟩;rw [QC Y];have H:=b0;refine tn (QN (wmI J (wiI J J (waI J (wnQ ?_)))));exact ⟨k,Nat.lt_succ_self k,⟨a9,ai,(IntKind.i64.wrap (K+(1:Int))),aj,ak,H,agP J,E,S.pk [0,1,2,3]⟩⟩
    refine QB (cB ar) ?_;refine YV ?_;refine tx (tx (bsm (?_)));refine tn ?_;exact ⟨a2,a3,ac,ad,oi H,agP J,E,S.pk [0,1,2,3]⟩
 rintro ρ dg ⟨a4,af,ag,ah,rfl,Y,E,S⟩;rw [QC Y];have H:=bc;refine tn ?_
 as_aux_lemma =>
 refine QG (wsQ (wmB J (W_v _ (X5 (b:=af) J) J (wnQ ?_))));obtain ⟨cb,c0,b5⟩:=QL H;refine Xz (fun ρ w'=>∃ (a6:List Qs) (a7:Option Addr) (a8:Nat),(a6)=cb∧QY ρ [(0,pt W 0),(4,.slice a7 a6.length a8)]∧Ext w w'∧St w' M F [Rw Qm 176 a7 a8 a6,B169 W U A0_8 c0_8 A0_9 c0_9,Rw QE 172 A0_8 c0_8 U.T]) ?_ ?_
 ·clear b5;have H:=c0;rcases Q7 H with ⟨aw,H⟩ | ⟨aw,H⟩
  ·refine QD (cB aw) ?_;refine QN (wmL J (W_v (.agg #[vS B.Key,.slice A1_0 B.L.length c1_0,.bool B.Has,vI B.I.Writer,vI B.I.TS,.bool B.I.Tomb,vS B.I.Value]) (Ql (S.blk 1 J) ty176 J (QM J) J J) J ?_));refine Yw S #[vS B.Key,.slice A1_0 B.L.length c1_0,.bool B.Has,vI B.I.Writer,vI B.I.TS,.bool B.I.Tomb,vS B.I.Value] Tryd.underlying167 ty176 J J cz4 (by as_aux_lemma=>kernel_rfl) (by as_aux_lemma=>kernel_rfl) J (eE2 E ?_);intro dh dj E S;replace S:=S.blk_row (r:=Qm) (l:=([B]:List Qs)) 0 J 1 (Nat.le_refl 1) J (Cells.cons (vs:=[vS B.Key,.slice A1_0 B.L.length c1_0,.bool B.Has,vI B.I.Writer,vI B.I.TS,.bool B.I.Tomb,vS B.I.Value]) (⟨_,hr1_0,J⟩) Cells.nil);obtain ⟨dk,H⟩:=Zj H;obtain ⟨cn,c1,c2⟩:=Z2 (P:=Tryd.prog) (ρ:=Qm) (l:=([B]:List Qs)) (S.row_read 0 J) (by decide);refine XW S 1 J J J Tryd.underlying167 (.inl Tryd.underlying167) ty176 J (by decide) (by decide) c1 c2 J (by omega) J (eE2 E ?_);intro dm dp E S;obtain ⟨cc,cd,rfl,_⟩:=(S.row_read 1 J).form;refine waL J (wnQ ?_);exact ⟨(a4++([B]:List Qs)),cc,cd,oi H,agP J,E,S.pk [1,3,4]⟩
  refine QB (cB aw) (QW (tn ?_));exact ⟨a4,ag,ah,oi H,agP J,E,S.pk [0,2,3]⟩
 rintro ρ dq ⟨a6,a7,a8,rfl,Y,E,S⟩;rw [QC Y];have H:=b5;refine tn (QN (wmP J (wmL J (W_v _ (Qf J) J (wfA Tryd.underlying169 ty167 J ?_)))));refine Qu S 1 J ty167 J J [.slice a7 a6.length a8] J J J #[vI U.C.Tasks,vI U.C.Active,vI U.C.Keys,vI U.C.Depth,vI U.C.TS,vI U.C.KeyLen,vI U.C.ValLen,vI U.C.Fan,.slice A0_8 U.T.length c0_8,.slice a7 a6.length a8,vI U.Time,vI U.Low] J J (eE1 E ?_);intro dr E S;refine QF ?_;obtain rfl:=oi H;exact ⟨_,_,_,rsA (vs:=[]) J,HM,E,S.pk [1,2,0],⟨A0_8,c0_8,a7,a8,J,J⟩⟩
def ZP (E:QI) (K:Int) (U:Int):Nat→Int→Option ((Int×Int×Int)⊕(Unit))
 | 0,_=>none
 | k+1,B=>(if (decide (B<(E.T.length:Int)))=true then (if 0≤B∧B<(E.T.length:Int) then (Option.bind (α:=Bool) (if ((rd E.T B).Task==K)=true then (if 0≤B∧B<(E.T.length:Int) then some (((rd E.T B).N==U)) else none) else some (false)) (fun H=>(if H=true then (if 0≤B∧B<(E.T.length:Int) then (if 0≤B∧B<(E.T.length:Int) then some (.inl ((IntKind.i64.wrap (B+(1:Int))),(rd E.T B).State,(rd E.T B).Snapshot)) else none) else none) else ZP E K U k (IntKind.i64.wrap (B+(1:Int)))))) else none) else some (.inr ()))
theorem ZP.mono {B E H}: ∀ {kl:Nat} {x0},OLe (ZP B E H kl x0) (ZP B E H (kl+1) x0):=by
 intro kl
 induction kl with
 | zero=>intros;exact OLe.none
 | succ kl ih =>
  intros
  rw [ZP.eq_2,ZP.eq_2];exact mo
def ZZ (k:Nat) (E:QI) (H:Int) (K:Int):Option (Int×Int×Int) :=
 (Option.bind (ZP E H K k (0:Int)) (fun B=>Sum.elim (fun r'=>some r') (fun _=>some ((0:Int),(0:Int),(0:Int))) B))
theorem ZZ.mono {k B E H}: OLe (ZZ k B E H) (ZZ (k+1) B E H):=by
 unfold ZZ;have m1:=@ZP.mono;exact mo
theorem ZZ.con {k M A0_8 c0_8 A0_9 c0_9} {U:QI} {a1:Int} {a2:Int} {W} {r:Int×Int×Int} (h:ZZ k U a1 a2=some r) (hr0_9:SlR Qm M (.slice A0_9 U.L.length c0_9) U.L): Con Tryd.prog 85 #[pt W 0,vI a1,vI a2] M [B169 W U A0_8 c0_8 A0_9 c0_9,Rw QE 172 A0_8 c0_8 U.T] (fun v M' b2=>v=.tuple #[vI r.1,vU r.2.1,vI r.2.2]∧b2=[B169 W U A0_8 c0_8 A0_9 c0_9,Rw QE 172 A0_8 c0_8 U.T]):=by
 refine cwA Tryd.func85 J Tryd.ntmps85 Tryd.results85 J h ?_;intro w F rn S bi E HM H;unfold ZZ at H;refine wsQ (waI J (waI J (waI J (wnQ (QG (wsQ (waI J (wnQ ?_))))))));obtain ⟨ag,am,ab⟩:=QL H;refine Zr (fun ρ w'=>.inr ()=ag∧QY ρ []∧Ext w w'∧St w' M F [B169 W U A0_8 c0_8 A0_9 c0_9,Rw QE 172 A0_8 c0_8 U.T]) ?_ ?_
 ·refine Yt (fun n ρ w'=>∃ (V:Int),ZP U a1 a2 n V=some ag∧QY ρ [(0,pt W 0),(1,vI a1),(2,vI a2),(9,vI V)]∧Ext w w'∧St w' M F [B169 W U A0_8 c0_8 A0_9 c0_9,Rw QE 172 A0_8 c0_8 U.T]) k ?_ ?_
  ·exact ⟨(0:Int),am,agP J,E,S.pk [0,1]⟩
  ·intro n;rintro ρ b6 ⟨V,H,a4,E,S⟩;rw [QC a4]
   cases n with
   | zero=>cases H
   | succ k =>
    rw [ZP.eq_2] at H;refine QG (wsQ (wmI J (wmP J (W_v _ (Qf J) J (wfA Tryd.underlying169 ty166 J (wlA S 0 ty166 J (W_v _ (Qd (n:=U.T.length) Tryd.underlying166 J) J (wiB J J (wnQ ?_)))))))));rcases Q7 H with ⟨Y,H⟩ | ⟨Y,H⟩
    ·refine QD (cB Y) ?_;refine QW (tn (QG ?_));refine Ze ?_;refine wsQ (wmP J (W_v _ (Qf J) J (wfA Tryd.underlying169 ty166 J (wlA S 0 ty166 J (wmI J ?_)))));obtain ⟨⟨ah,ai⟩,H⟩:=Zj H;obtain ⟨b7,b8,b4,_,_,an,ao,ap,aq,ar⟩:=SlW.at' (S.row_read 1 J) ah ai;obtain rfl:ap=_:=aq;refine W_v _ (QQ Tryd.underlying166 ty172 (slA an) J ah ai) J (wfA Tryd.underlying172 ty3 J (W_v _ (YG (Hp.of_get ao) ty3 J (ar 0 _ J)) J (wmI J (wiB J J (wmB J ?_)))));obtain ⟨b1,au,av⟩:=QL H;refine Q4 11 (fun ρ w'=>∃ (a5:Bool),(a5)=b1∧QY ρ [(0,pt W 0),(1,vI a1),(2,vI a2),(9,vI V),(40,.bool a5)]∧Ext w w'∧St w' M F [B169 W U A0_8 c0_8 A0_9 c0_9,Rw QE 172 A0_8 c0_8 U.T]) ?_ ?_
     ·as_aux_lemma =>
       have H:=au;rcases Q7 H with ⟨B,H⟩ | ⟨B,H⟩
       ·refine QJ (cS B) (wmP J (QJ (cS B) (W_v _ (Qf J) J (QJ (cS B) (wfA Tryd.underlying169 ty166 J (QJ (cS B) (wlA S 0 ty166 J (QJ (cS B) (wmI J (QJ (cS B) ?_))))))))));obtain ⟨⟨aj,ak⟩,H⟩:=Zj H;obtain ⟨b9,ba,b5,_,_,aw,ax,ay,az,b0⟩:=SlW.at' (S.row_read 1 J) aj ak;obtain rfl:ay=_:=az;refine W_v _ (QQ Tryd.underlying166 ty172 (slA aw) J aj ak) J (QJ (cS B) (wfA Tryd.underlying172 ty3 J (QJ (cS B) (W_v _ (YG (Hp.of_get ax) ty3 J (b0 1 _ J)) J (QJ (cS B) (wmI J (QJ (cS B) (wiB J J (wpB B J (QF ?_))))))))));exact ⟨((rd U.T V).N==a2),oi H,agP J,E,S.pk [0,1]⟩
       ·refine QX (skT B) J (QX (skT B) J (QX (skT B) J (QX (skT B) J (QX (skT B) J (QX (skT B) J (QX (skT B) J (QX (skT B) J (QX (skT B) J (QX (skT B) J (wqB B J (QF ?_)))))))))));exact ⟨false,oi H,agP J,E,S.pk [0,1]⟩
     as_aux_lemma =>
     rintro ρ bb ⟨a5,rfl,a4,E,S⟩;rw [QC a4];have H:=av;refine wnQ ?_;rcases Q7 H with ⟨Z,H⟩ | ⟨Z,H⟩
     ·refine QD (cB Z) ?_;refine QG ?_;refine rgA S [0,1] [_,_] 21 mixed J (eE1 E ?_);intro bc E S K;refine tz0 0 J K (xmI J) (tz0 1 J K (xiI J J) (tz0 2 J K (xmP J) (tz0 3 J K (Qf J) (tz0 4 J K (xfA Tryd.underlying169 ty166 J) (tz1 5 J K (fun w' h'=>xlA h' 0 ty166 J) (tz0 6 J K (xmI J) ?_))))));obtain ⟨⟨a7,a8⟩,H⟩:=Zj H;obtain ⟨bd,be,_,_,_,ac,_⟩:=SlW.at' (S.row_read 1 J) a7 a8;refine tz0 7 J K (QQ Tryd.underlying166 ty172 (slA ac) J a7 a8) (tz0 8 J K (xfA Tryd.underlying172 ty5 J) (Wt 9 J J J (vU ((rd U.T V).State)) J (fun w' h'=>Va h' 1 J ac a7 a8 2 (by rintro _ _ rfl;rfl) ty5 J) K (tz0 10 J K (xmP J) (tz0 11 J K (Qf J) (tz0 12 J K (xfA Tryd.underlying169 ty166 J) (tz1 13 J K (fun w' h'=>xlA h' 0 ty166 J) (tz0 14 J K (xmI J) ?_)))))));obtain ⟨⟨a9,aa⟩,H⟩:=Zj H;obtain ⟨bf,bg,_,_,_,ad,_⟩:=SlW.at' (S.row_read 1 J) a9 aa;refine tz0 15 J K (QQ Tryd.underlying166 ty172 (slA ad) J a9 aa) (tz0 16 J K (xfA Tryd.underlying172 ty3 J) (Wt 17 J J J (vI ((rd U.T V).Snapshot)) J (fun w' h'=>Va h' 1 J ad a9 aa 3 (by rintro _ _ rfl;rfl) ty3 J) K (tz0 18 J K (xaI J) (tz0 19 J K (xaI J) (tz0 20 J K (xaI J) ?_)))));refine Wz ?_;refine tn ?_;refine QS ?_;refine br (tr (tr (br (tr (tr (?_))))));obtain rfl:=oi H;have H:=ab;replace H:=elimL H;obtain rfl:=oi H;exact ⟨_,_,_,rsA (vs:=[_,_,_]) J,HM,E,S.pk [0,1],⟨J,J⟩⟩
     refine QB (cB Z) (QW (bn (tn (QN (wmI J (wiI J J (waI J (wnQ ?_))))))));exact ⟨k,Nat.lt_succ_self k,⟨(IntKind.i64.wrap (V+(1:Int))),H,agP J,E,S.pk [0,1]⟩⟩
    refine QB (cB Y) ?_;refine YV ?_;refine tx (tx (bsm (?_)));refine tn ?_;exact ⟨oi H,trivial,E,S.pk [0,1]⟩
 rintro ρ bh ⟨rfl,a4,E,S⟩;rw [QC a4];have H:=ab;replace H:=elimR H;refine tn ?_
 as_aux_lemma =>
 refine wsQ (waI J (waI J (waI J (wnQ ?_))));refine QS ?_;obtain rfl:=oi H;exact ⟨_,_,_,rsA (vs:=[_,_,_]) J,HM,E,S.pk [0,1],⟨J,J⟩⟩
def Zh (k:Nat) (E:QI) (K:Int) (B:QV):Option (Int) :=
 (if (((((decide (K<(0:Int)))||(decide (K≥E.C.Tasks)))||(decide (B.Kind<(1:Int))))||(decide (B.Kind>(9:Int))))||(((B.Kind==(9:Int))&&(B.Engine != (1:Int)))&&(B.Engine != (2:Int))))=true then some (1:Int) else (if (((B.Kind==(1:Int))||(B.Kind==(8:Int)))||(B.Kind==(9:Int)))=true then some (0:Int) else (Option.bind (ZZ k E K B.Tx) (fun H=>(if (H.2.1==(0:Int))=true then some (30:Int) else (if (H.2.1 != (1:Int))=true then some (31:Int) else (Option.bind (α:=Bool) (if (((B.Kind==(2:Int))||(B.Kind==(3:Int)))||(B.Kind==(4:Int)))=true then (Option.bind (X4 k E.C B.Key) (fun Z=>some ((!Z)))) else some (false)) (fun a3=>(Option.bind (α:=Bool) (if a3=true then some (true) else (Option.bind (α:=Bool) (if (B.Kind==(3:Int))=true then (Option.bind (Xf k E.C B.Value) (fun a4=>some ((!a4)))) else some (false)) (fun a5=>some (a5)))) (fun a6=>(if a6=true then some (32:Int) else (Option.bind (α:=Bool) (if (B.Kind==(5:Int))=true then (Option.bind (XF k E.C B.Key) (fun U=>(Option.bind (α:=Bool) (if (!U)=true then some (true) else (Option.bind (XF k E.C B.End) (fun V=>some ((!V))))) (fun W=>some (((W||(decide (B.Limit<(0:Int))))||(decide (B.Limit>(128:Int))))))))) else some (false)) (fun Y=>(if Y=true then some (32:Int) else some (0:Int)))))))))))))))
theorem Zh.mono {k B E H}: OLe (Zh k B E H) (Zh (k+1) B E H):=by
 unfold Zh;have m1:=@XF.mono;have m2:=@X4.mono;have m3:=@Xf.mono;have m4:=@ZZ.mono;exact mo
theorem Zh.con {k M A0_8 c0_8 A0_9 c0_9} {a0:QI} {a1:Int} {U:QV} {a6} {r:Int} (h:Zh k a0 a1 U=some r) (hr0_9:SlR Qm M (.slice A0_9 a0.L.length c0_9) a0.L): Con Tryd.prog 84 #[pt a6 0,vI a1,.agg (ZA U)] M [B169 a6 a0 A0_8 c0_8 A0_9 c0_9,Rw QE 172 A0_8 c0_8 a0.T] (fun v M' aw=>v=vI r∧aw=[B169 a6 a0 A0_8 c0_8 A0_9 c0_9,Rw QE 172 A0_8 c0_8 a0.T]):=by
 refine cwA Tryd.func84 J Tryd.ntmps84 Tryd.results84 J h ?_;intro w F rn S cg E HM H;unfold Zh at H;refine wsQ ?_;refine Y5 S (ZA U) J J J (eE2 E ?_);intro b1 w2 E S;refine waI J (wnQ (QG (wsQ (wmI J (wiB J J (wmB J ?_))))));refine Q4 8 (fun W w'=>QY W [(0,pt a6 0),(1,vI a1),(5,pt b1 0),(21,.bool ((decide (a1<(0:Int)))||(decide (a1≥a0.C.Tasks))))]∧w2=w') ?_ ?_
 ·rcases Qw (decide (a1<(0:Int))) with a9 | a9
  ·refine QJ (cS a9) (wmI J (QJ (cS a9) (wmP J (QJ (cS a9) (W_v _ (Qf J) J (QJ (cS a9) (wfA Tryd.underlying169 ty23 J (QJ (cS a9) (wfA Tryd.underlying23 ty3 J (QJ (cS a9) (wlA S 1 ty3 J (QJ (cS a9) (wiB J J (wqB a9 J (QF ?_)))))))))))))));exact ⟨⟨J,J,J,(flB a9),trivial⟩,rfl⟩
  ·refine QX (skF a9) J (QX (skF a9) J (QX (skF a9) J (QX (skF a9) J (QX (skF a9) J (QX (skF a9) J (QX (skF a9) J (wpB a9 J (QF ?_))))))));exact ⟨⟨J,J,J,(flB a9),trivial⟩,rfl⟩
 as_aux_lemma =>
 rintro W _ ⟨Y,rfl⟩;rw [QC Y];refine wmB J ?_;refine Q4 4 (fun W w'=>QY W [(0,pt a6 0),(1,vI a1),(5,pt b1 0),(26,.bool (((decide (a1<(0:Int)))||(decide (a1≥a0.C.Tasks)))||(decide (U.Kind<(1:Int)))))]∧w2=w') ?_ ?_
 ·rcases Qw ((decide (a1<(0:Int)))||(decide (a1≥a0.C.Tasks))) with ap | ap
  ·refine QJ (cS ap) (wfA Tryd.underlying47 ty5 J (QJ (cS ap) (wlA S 0 ty5 J (QJ (cS ap) (wiB J J (wqB ap J (QF ?_)))))));exact ⟨⟨J,J,J,(flB ap),trivial⟩,rfl⟩
  ·refine QX (skF ap) J (QX (skF ap) J (QX (skF ap) J (wpB ap J (QF ?_))));exact ⟨⟨J,J,J,(flB ap),trivial⟩,rfl⟩
 as_aux_lemma =>
 rintro W _ ⟨Y,rfl⟩;rw [QC Y];refine wmB J ?_;refine Q4 4 (fun W w'=>QY W [(0,pt a6 0),(1,vI a1),(5,pt b1 0),(31,.bool ((((decide (a1<(0:Int)))||(decide (a1≥a0.C.Tasks)))||(decide (U.Kind<(1:Int))))||(decide (U.Kind>(9:Int)))))]∧w2=w') ?_ ?_
 ·rcases Qw (((decide (a1<(0:Int)))||(decide (a1≥a0.C.Tasks)))||(decide (U.Kind<(1:Int)))) with aq | aq
  ·refine QJ (cS aq) (wfA Tryd.underlying47 ty5 J (QJ (cS aq) (wlA S 0 ty5 J (QJ (cS aq) (wiB J J (wqB aq J (QF ?_)))))));exact ⟨⟨J,J,J,(flB aq),trivial⟩,rfl⟩
  ·refine QX (skF aq) J (QX (skF aq) J (QX (skF aq) J (wpB aq J (QF ?_))));exact ⟨⟨J,J,J,(flB aq),trivial⟩,rfl⟩
 as_aux_lemma =>
 rintro W _ ⟨Y,rfl⟩;rw [QC Y];refine wmB J ?_;refine Q4 14 (fun W w'=>QY W [(0,pt a6 0),(1,vI a1),(5,pt b1 0),(46,.bool (((((decide (a1<(0:Int)))||(decide (a1≥a0.C.Tasks)))||(decide (U.Kind<(1:Int))))||(decide (U.Kind>(9:Int))))||(((U.Kind==(9:Int))&&(U.Engine != (1:Int)))&&(U.Engine != (2:Int)))))]∧w2=w') ?_ ?_
 ·as_aux_lemma =>
   rcases Qw ((((decide (a1<(0:Int)))||(decide (a1≥a0.C.Tasks)))||(decide (U.Kind<(1:Int))))||(decide (U.Kind>(9:Int)))) with a3 | a3
   ·refine QJ (cS a3) (wfA Tryd.underlying47 ty5 J (QJ (cS a3) (wlA S 0 ty5 J (QJ (cS a3) (wiB J J (QJ (cS a3) (wmB J ?_)))))));refine Q4 4 (fun W w'=>QY W [(0,pt a6 0),(1,vI a1),(5,pt b1 0),(32,.bool ((((decide (a1<(0:Int)))||(decide (a1≥a0.C.Tasks)))||(decide (U.Kind<(1:Int))))||(decide (U.Kind>(9:Int))))),(40,.bool ((U.Kind==(9:Int))&&(U.Engine != (1:Int))))]∧w2=w') ?_ ?_
    ·rcases Qw (U.Kind==(9:Int)) with af | af
     ·refine QX (skT af) J (QX (skT af) J (QX (skT af) J (QJ (cS a3) (wqB af J (QF ?_)))));exact ⟨⟨J,J,J,J,(flB af),trivial⟩,rfl⟩
     ·refine QJ (cS af) (wfA Tryd.underlying47 ty5 J (QJ (cS af) (wlA S 0 ty5 J (QJ (cS af) (wiB J J (QJ (cS a3) (wpB af J (QF ?_))))))));exact ⟨⟨J,J,J,J,(flB af),trivial⟩,rfl⟩
    rintro W _ ⟨Y,rfl⟩;rw [QC Y];refine QJ (cS a3) (wmB J ?_);refine Q4 4 (fun W w'=>QY W [(0,pt a6 0),(1,vI a1),(5,pt b1 0),(32,.bool ((((decide (a1<(0:Int)))||(decide (a1≥a0.C.Tasks)))||(decide (U.Kind<(1:Int))))||(decide (U.Kind>(9:Int))))),(45,.bool (((U.Kind==(9:Int))&&(U.Engine != (1:Int)))&&(U.Engine != (2:Int))))]∧w2=w') ?_ ?_
    ·rcases Qw ((U.Kind==(9:Int))&&(U.Engine != (1:Int))) with ag | ag
     ·refine QX (skT ag) J (QX (skT ag) J (QX (skT ag) J (QJ (cS a3) (wqB ag J (QF ?_)))));exact ⟨⟨J,J,J,J,(flB ag),trivial⟩,rfl⟩
     ·refine QJ (cS ag) (wfA Tryd.underlying47 ty5 J (QJ (cS ag) (wlA S 0 ty5 J (QJ (cS ag) (wiB J J (QJ (cS a3) (wpB ag J (QF ?_))))))));exact ⟨⟨J,J,J,J,(flB ag),trivial⟩,rfl⟩
    rintro W _ ⟨Y,rfl⟩;rw [QC Y];refine wqB a3 J (QF ?_);exact ⟨⟨J,J,J,(flB a3),trivial⟩,rfl⟩
   ·refine QX (skF a3) J (QX (skF a3) J (QX (skF a3) J (QX (skF a3) J (QX (J) J (QX (J) J (QX (J) J (QX (skF a3) J (QX (skF a3) J (QX (J) J (QX (J) J (QX (J) J (QX (skF a3) J (wpB a3 J (QF ?_))))))))))))));exact ⟨⟨J,J,J,(flB a3),trivial⟩,rfl⟩
 as_aux_lemma =>
 rintro W _ ⟨Y,rfl⟩;rw [QC Y];refine wnQ ?_;rcases Q7 H with ⟨b0,H⟩ | ⟨b0,H⟩
 ·refine QD (cB b0) ?_;refine wsQ (waI J (wnQ ?_));refine QS ?_;refine tr (?_);obtain rfl:=oi H;exact ⟨_,_,_,rsA (vs:=[_]) J,HM,E,S.pk [1,2],⟨J,J⟩⟩
 refine QB (cB b0) (QW (tn (QG (wsQ (wfA Tryd.underlying47 ty5 J (wlA S 0 ty5 J (wiB J J (wmB J ?_))))))));refine Q4 4 (fun W w'=>QY W [(0,pt a6 0),(1,vI a1),(5,pt b1 0),(54,.bool ((U.Kind==(1:Int))||(U.Kind==(8:Int))))]∧w2=w') ?_ ?_
 ·rcases Qw (U.Kind==(1:Int)) with ah | ah
  ·refine QJ (cS ah) (wfA Tryd.underlying47 ty5 J (QJ (cS ah) (wlA S 0 ty5 J (QJ (cS ah) (wiB J J (wqB ah J (QF ?_)))))));exact ⟨⟨J,J,J,(flB ah),trivial⟩,rfl⟩
  ·refine QX (skF ah) J (QX (skF ah) J (QX (skF ah) J (wpB ah J (QF ?_))));exact ⟨⟨J,J,J,(flB ah),trivial⟩,rfl⟩
 as_aux_lemma =>
 rintro W _ ⟨Y,rfl⟩;rw [QC Y];refine wmB J ?_;refine Q4 4 (fun W w'=>QY W [(0,pt a6 0),(1,vI a1),(5,pt b1 0),(59,.bool (((U.Kind==(1:Int))||(U.Kind==(8:Int)))||(U.Kind==(9:Int))))]∧w2=w') ?_ ?_
 ·rcases Qw ((U.Kind==(1:Int))||(U.Kind==(8:Int))) with ai | ai
  ·refine QJ (cS ai) (wfA Tryd.underlying47 ty5 J (QJ (cS ai) (wlA S 0 ty5 J (QJ (cS ai) (wiB J J (wqB ai J (QF ?_)))))));exact ⟨⟨J,J,J,(flB ai),trivial⟩,rfl⟩
  ·refine QX (skF ai) J (QX (skF ai) J (QX (skF ai) J (wpB ai J (QF ?_))));exact ⟨⟨J,J,J,(flB ai),trivial⟩,rfl⟩
 as_aux_lemma =>
 rintro W _ ⟨Y,rfl⟩;rw [QC Y];refine wnQ ?_;rcases Q7 H with ⟨b2,H⟩ | ⟨b2,H⟩
 ·refine QD (cB b2) ?_;refine wsQ (waI J (wnQ ?_));refine QS ?_;refine tr (?_);obtain rfl:=oi H;exact ⟨_,_,_,rsA (vs:=[_]) J,HM,E,S.pk [1,2],⟨J,J⟩⟩
 refine QB (cB b2) (QW (tn (wsQ (wmP J (wmI J (wfA Tryd.underlying47 ty3 J (wlA S 0 ty3 J ?_)))))));obtain ⟨ch,bt,H⟩:=QL H;replace S:St w2 M F [_,_,_]:=S.pk [1,2,0];refine Y0 fn85 (ZZ.con bt hr0_9) (Γ1:=[_,_]) (Γ2:=[_]) S J J (by rintro _ _ _ ⟨rfl,rfl⟩;exact (QO Za (QO (Y9 (fun _ _ _ _ h=>h)) YQ))) (eE4 E ?_);rintro _ bd _ aw E S ⟨rfl,rfl⟩;replace S:St bd M F [_,_,_]:=S;refine wmT J (W_v _ (QU J J) J (W_v _ (QU J J) J (W_v _ (QU J J) J (waI J (waI J (waI J (wnQ (QG (wsQ (wmI J (wiB J J (wnQ ?_))))))))))));rcases Q7 H with ⟨b3,H⟩ | ⟨b3,H⟩
 ·refine QD (cB b3) ?_;refine wsQ (waI J (wnQ ?_));refine QS ?_;refine tr (?_);obtain rfl:=oi H;exact ⟨_,_,_,rsA (vs:=[_]) J,HM,E,S.pk [0,1],⟨J,J⟩⟩
 refine QB (cB b3) (QW (tn ?_))
 as_aux_lemma =>
 refine QG (wsQ (wmI J (wiB J J (wnQ ?_))));rcases Q7 H with ⟨b4,H⟩ | ⟨b4,H⟩
 ·refine QD (cB b4) ?_;refine wsQ (waI J (wnQ ?_));refine QS ?_;refine tr (?_);obtain rfl:=oi H;exact ⟨_,_,_,rsA (vs:=[_]) J,HM,E,S.pk [0,1],⟨J,J⟩⟩
 refine QB (cB b4) (QW (tn (wsQ (wfA Tryd.underlying47 ty5 J (wlA S 2 ty5 J (wiB J J (wmB J ?_)))))));refine Q4 4 (fun W w'=>QY W [(0,pt a6 0),(5,pt b1 0),(80,.bool ((U.Kind==(2:Int))||(U.Kind==(3:Int))))]∧bd=w') ?_ ?_
 ·rcases Qw (U.Kind==(2:Int)) with aj | aj
  ·refine QJ (cS aj) (wfA Tryd.underlying47 ty5 J (QJ (cS aj) (wlA S 2 ty5 J (QJ (cS aj) (wiB J J (wqB aj J (QF ?_)))))));exact ⟨⟨J,J,(flB aj),trivial⟩,rfl⟩
  ·refine QX (skF aj) J (QX (skF aj) J (QX (skF aj) J (wpB aj J (QF ?_))));exact ⟨⟨J,J,(flB aj),trivial⟩,rfl⟩
 as_aux_lemma =>
 rintro W _ ⟨Y,rfl⟩;rw [QC Y];refine wmB J ?_;refine Q4 4 (fun W w'=>QY W [(0,pt a6 0),(5,pt b1 0),(85,.bool (((U.Kind==(2:Int))||(U.Kind==(3:Int)))||(U.Kind==(4:Int))))]∧bd=w') ?_ ?_
 ·rcases Qw ((U.Kind==(2:Int))||(U.Kind==(3:Int))) with ak | ak
  ·refine QJ (cS ak) (wfA Tryd.underlying47 ty5 J (QJ (cS ak) (wlA S 2 ty5 J (QJ (cS ak) (wiB J J (wqB ak J (QF ?_)))))));exact ⟨⟨J,J,(flB ak),trivial⟩,rfl⟩
  ·refine QX (skF ak) J (QX (skF ak) J (QX (skF ak) J (wpB ak J (QF ?_))));exact ⟨⟨J,J,(flB ak),trivial⟩,rfl⟩
 as_aux_lemma =>
 rintro W _ ⟨Y,rfl⟩;rw [QC Y];refine waB J (wnQ (QG (QG ?_)));refine rgA S [0,1,2] [_,_,_] 26 mixed J (eE1 E ?_);intro ci E S D1;refine tz0 0 J D1 (xmB J) (tz0 1 J D1 (xmB J) ?_);obtain ⟨c7,bu,bv⟩:=QL H;refine Yg (fun W w'=>∃ (b7:Bool),(b7)=c7∧QY W [(0,pt a6 0),(5,pt b1 0),(96,.bool b7)]∧Ext w w'∧St w' M F [B169 a6 a0 A0_8 c0_8 A0_9 c0_9,Rw QE 172 A0_8 c0_8 a0.T,B47 b1 U]) 15 (Ls 26 [0,1,2,3,4,5,6,7,8,9,10]) ?_ ?_;rotate_left
 ·intro V;have H:=bu;rcases Q7 H with ⟨a4,H⟩ | ⟨a4,H⟩
  ·refine tz2 2 J (cS a4) D1 (xmP J) (tz2 3 J (cS a4) D1 (Qf J) (tz2 4 J (cS a4) D1 (xfA Tryd.underlying169 ty23 J) (WtY 5 J J J (.agg (QR a0.C)) J (cS a4) (fun w' h'=>Ql (XV h' 0 J) ty23 J (QM J) J J) D1 (tz2 6 J (cS a4) D1 (xfA Tryd.underlying47 ty9 J) (tz3 7 J (cS a4) D1 (fun w' h'=>xlA h' 2 ty9 J) ?_)))));refine Wo 8 J ?_;refine QJ (cS a4) ?_;obtain ⟨bo,bw,H⟩:=QL H;refine Zs fn95 (X4.con bw) S J J flN (eE4 E ?_);rintro _ cj _ aw E S ⟨rfl,rfl⟩;refine QF (YS ⟨.inr ⟨M,Hp.le_refl M,(S.pk [0,1,2])⟩,?_⟩);have D3:∃ Mx,Hp.le M Mx∧St _ Mx F [_,_,_]:=⟨_,Hp.le_refl _,S.pk [0,1,2]⟩;refine tz2 9 J (cS a4) D3 (X5 (b:=bo) J) (tz0 10 J D3 (xpB a4 J) ?_);exact V _ _ ⟨(!bo),oi H,agP J,E,S.pk [0,1,2]⟩
  ·refine tz4 2 J (skT a4) D1 (tz4 3 J (skT a4) D1 (tz4 4 J (skT a4) D1 (tz4 5 J (skT a4) D1 (tz4 6 J (skT a4) D1 (tz4 7 J (skT a4) D1 (tz4 8 J (skT a4) D1 (tz4 9 J (skT a4) D1 (tz0 10 J D1 (xqB a4 J) ?_))))))));exact V _ _ ⟨false,oi H,agP J,E,S.pk [0,1,2]⟩
 rintro W cm ⟨b7,rfl,Y,E,S⟩;rw [QC Y];have H:=bv;refine tz0 11 J (⟨M,Hp.le_refl M,(S.pk [0,1,2])⟩) (xmB J) ?_;obtain ⟨c9,bz,c0⟩:=QL H;refine Yg (fun W w'=>∃ (be:Bool),(be)=c9∧QY W [(0,pt a6 0),(5,pt b1 0),(111,.bool be)]∧Ext w w'∧St w' M F [B169 a6 a0 A0_8 c0_8 A0_9 c0_9,Rw QE 172 A0_8 c0_8 a0.T,B47 b1 U]) 0 (Ls 26 [0,1,2,3,4,5,6,7,8,9,10,11,12,13,14,15,16,17,18,19,20,21,22,23,24,25]) ?_ ?_;rotate_left
 ·intro V;have H:=bz;rcases Q7 H with ⟨ab,H⟩ | ⟨ab,H⟩
  ·have D6:∃ Mx,Hp.le M Mx∧St _ Mx F [_,_,_]:=⟨_,Hp.le_refl _,S.pk [0,1,2]⟩;refine tz4 12 J (skF ab) D6 (tz4 13 J (skF ab) D6 (tz4 14 J (skF ab) D6 (tz4 15 J (skF ab) D6 (tz4 16 J (J) D6 (tz4 17 J (J) D6 (tz4 18 J (J) D6 (tz4 19 J (J) D6 (tz4 20 J (J) D6 (tz4 21 J (J) D6 (tz4 22 J (J) D6 (tz4 23 J (J) D6 (tz4 24 J (skF ab) D6 (tz0 25 J D6 (xpB ab J) ?_)))))))))))));exact V _ _ ⟨true,oi H,agP J,E,S.pk [0,1,2]⟩
  ·have D7:∃ Mx,Hp.le M Mx∧St _ Mx F [_,_,_]:=⟨_,Hp.le_refl _,S.pk [0,1,2]⟩;refine tz2 12 J (cS ab) D7 (xfA Tryd.underlying47 ty5 J) (tz3 13 J (cS ab) D7 (fun w' h'=>xlA h' 2 ty5 J) (tz2 14 J (cS ab) D7 (xiB J J) (tz2 15 J (cS ab) D7 (xmB J) ?_)));obtain ⟨ca,c1,c2⟩:=QL H;refine Yg (fun W w'=>∃ (b8:Bool),(b8)=ca∧QY W [(0,pt a6 0),(5,pt b1 0),(97,.bool b7),(110,.bool b8)]∧Ext w w'∧St w' M F [B169 a6 a0 A0_8 c0_8 A0_9 c0_9,Rw QE 172 A0_8 c0_8 a0.T,B47 b1 U]) 1 (Ls 26 [0,1,2,3,4,5,6,7,8,9,10,11,12,13,14,15,16,17,18,19,20,21,22,23,24]) ?_ ?_;rotate_left
   ·intro V;have H:=c1;rcases Q7 H with ⟨a5,H⟩ | ⟨a5,H⟩
    ·refine tz2 16 J (cS a5) D7 (xmP J) (tz2 17 J (cS a5) D7 (Qf J) (tz2 18 J (cS a5) D7 (xfA Tryd.underlying169 ty23 J) (WtY 19 J J J (.agg (QR a0.C)) J (cS a5) (fun w' h'=>Ql (XV h' 0 J) ty23 J (QM J) J J) D7 (tz2 20 J (cS a5) D7 (xfA Tryd.underlying47 ty9 J) (tz3 21 J (cS a5) D7 (fun w' h'=>xlA h' 2 ty9 J) ?_)))));refine Wo 22 J ?_;refine QJ (cS a5) ?_;obtain ⟨bp,c3,H⟩:=QL H;refine Zs fn96 (Xf.con c3) S J J flN (eE4 E ?_);rintro _ cn _ aw E S ⟨rfl,rfl⟩;refine QF (YS ⟨.inr ⟨M,Hp.le_refl M,(S.pk [0,1,2])⟩,?_⟩);have D9:∃ Mx,Hp.le M Mx∧St _ Mx F [_,_,_]:=⟨_,Hp.le_refl _,S.pk [0,1,2]⟩;refine tz2 23 J (cS a5) D9 (X5 (b:=bp) J) (tz2 24 J (cS ab) D9 (xpB a5 J) ?_);exact V _ _ ⟨(!bp),oi H,agP J,E,S.pk [0,1,2]⟩
    ·refine tz4 16 J (skT a5) D7 (tz4 17 J (skT a5) D7 (tz4 18 J (skT a5) D7 (tz4 19 J (skT a5) D7 (tz4 20 J (skT a5) D7 (tz4 21 J (skT a5) D7 (tz4 22 J (skT a5) D7 (tz4 23 J (skT a5) D7 (tz2 24 J (cS ab) D7 (xqB a5 J) ?_))))))));exact V _ _ ⟨false,oi H,agP J,E,S.pk [0,1,2]⟩
   rintro W co ⟨b8,rfl,Y,E,S⟩;rw [QC Y];have H:=c2;refine tz0 25 J (⟨M,Hp.le_refl M,(S.pk [0,1,2])⟩) (xqB ab J) ?_;exact V _ _ ⟨b8,oi H,agP J,E,S.pk [0,1,2]⟩
 rintro W cp ⟨be,rfl,Y,E,S⟩;rw [QC Y];have H:=c0;refine Wz ?_;refine tn ?_;rcases Q7 H with ⟨b5,H⟩ | ⟨b5,H⟩
 ·refine QD (cB b5) ?_;refine wsQ (waI J (wnQ ?_));refine QS ?_;refine tr (?_);obtain rfl:=oi H;exact ⟨_,_,_,rsA (vs:=[_]) J,HM,E,S.pk [0,1],⟨J,J⟩⟩
 refine QB (cB b5) (QW (tn ?_))
 as_aux_lemma =>
 refine QG (QG ?_);refine rgA S [0,1,2] [_,_,_] 33 mixed J (eE1 E ?_);intro cc E S K;refine tz0 0 J K (xfA Tryd.underlying47 ty5 J) (tz1 1 J K (fun w' h'=>xlA h' 2 ty5 J) (tz0 2 J K (xiB J J) (tz0 3 J K (xmB J) ?_)));obtain ⟨c4,bh,bi⟩:=QL H;refine Yg (fun W w'=>∃ (b6:Bool),(b6)=c4∧QY W [(144,.bool b6)]∧Ext w w'∧St w' M F [B169 a6 a0 A0_8 c0_8 A0_9 c0_9,Rw QE 172 A0_8 c0_8 a0.T,B47 b1 U]) 0 (Ls 33 [0,1,2,3,4,5,6,7,8,9,10,11,12,13,14,15,16,17,18,19,20,21,22,23,24,25,26,27,28,29,30,31,32]) ?_ ?_;rotate_left
 ·intro V;have H:=bh;rcases Q7 H with ⟨B,H⟩ | ⟨B,H⟩
  ·refine tz2 4 J (cS B) K (xmP J) (tz2 5 J (cS B) K (Qf J) (tz2 6 J (cS B) K (xfA Tryd.underlying169 ty23 J) (WtY 7 J J J (.agg (QR a0.C)) J (cS B) (fun w' h'=>Ql (XV h' 0 J) ty23 J (QM J) J J) K (tz2 8 J (cS B) K (xfA Tryd.underlying47 ty9 J) (tz3 9 J (cS B) K (fun w' h'=>xlA h' 2 ty9 J) ?_)))));refine Wo 10 J ?_;refine QJ (cS B) ?_;obtain ⟨c5,bj,H⟩:=QL H;refine Zs fn97 (XF.con bj) S J J flN (eE4 E ?_);rintro _ cd _ aw E S ⟨rfl,rfl⟩;refine QF (YS ⟨.inr ⟨M,Hp.le_refl M,(S.pk [0,1,2])⟩,?_⟩);have ae:∃ Mx,Hp.le M Mx∧St _ Mx F [_,_,_]:=⟨_,Hp.le_refl _,S.pk [0,1,2]⟩;refine tz2 11 J (cS B) ae (X5 (b:=c5) J) (tz2 12 J (cS B) ae (xmB J) ?_);obtain ⟨c6,bk,bl⟩:=QL H;refine Yg (fun W w'=>∃ (au:Bool),(au)=c6∧QY W [(5,pt b1 0),(115,.bool (U.Kind==(5:Int))),(133,.bool au)]∧Ext w w'∧St w' M F [B169 a6 a0 A0_8 c0_8 A0_9 c0_9,Rw QE 172 A0_8 c0_8 a0.T,B47 b1 U]) 11 (Ls 33 [0,1,2,3,4,5,6,7,8,9,10,11,12,13,14,15,16,17,18,19,20,21]) ?_ ?_;rotate_left
   ·intro V;have H:=bk;rcases Q7 H with ⟨Z,H⟩ | ⟨Z,H⟩
    ·refine tz4 13 J (skF Z) ae (tz4 14 J (skF Z) ae (tz4 15 J (skF Z) ae (tz4 16 J (skF Z) ae (tz4 17 J (skF Z) ae (tz4 18 J (skF Z) ae (tz4 19 J (skF Z) ae (tz4 20 J (skF Z) ae (tz2 21 J (cS B) ae (xpB Z J) ?_))))))));exact V _ _ ⟨true,oi H,agP J,E,S.pk [0,1,2]⟩
    ·refine tz2 13 J (cS Z) ae (xmP J) (tz2 14 J (cS Z) ae (Qf J) (tz2 15 J (cS Z) ae (xfA Tryd.underlying169 ty23 J) (WtY 16 J J J (.agg (QR a0.C)) J (cS Z) (fun w' h'=>Ql (XV h' 0 J) ty23 J (QM J) J J) ae (tz2 17 J (cS Z) ae (xfA Tryd.underlying47 ty9 J) (tz3 18 J (cS Z) ae (fun w' h'=>xlA h' 2 ty9 J) ?_)))));refine Wo 19 J ?_;refine QJ (cS Z) ?_;obtain ⟨bf,bm,H⟩:=QL H;refine Zs fn97 (XF.con bm) S J J flN (eE4 E ?_);rintro _ ce _ aw E S ⟨rfl,rfl⟩;refine QF (YS ⟨.inr ⟨M,Hp.le_refl M,(S.pk [0,1,2])⟩,?_⟩);have bq:∃ Mx,Hp.le M Mx∧St _ Mx F [_,_,_]:=⟨_,Hp.le_refl _,S.pk [0,1,2]⟩;refine tz2 20 J (cS Z) bq (X5 (b:=bf) J) (tz2 21 J (cS B) bq (xqB Z J) ?_);exact V _ _ ⟨(!bf),oi H,agP J,E,S.pk [0,1,2]⟩
   rintro W bg ⟨au,rfl,Y,E,S⟩;rw [QC Y];have H:=bl;refine tz2 22 J (cS B) (⟨M,Hp.le_refl M,(S.pk [0,1,2])⟩) (xmB J) ?_;refine Yg (fun W w'=>QY W [(5,pt b1 0),(115,.bool (U.Kind==(5:Int))),(138,.bool (au||(decide (U.Limit<(0:Int)))))]∧bg=w') 6 (Ls 33 [0,1,2,3,4,5,6,7,8,9,10,11,12,13,14,15,16,17,18,19,20,21,22,23,24,25,26]) ?_ ?_;rotate_left
   ·intro V;rcases Qw au with ac | ac
    ·have b9:∃ Mx,Hp.le M Mx∧St _ Mx F [_,_,_]:=⟨_,Hp.le_refl _,S.pk [0,1,2]⟩;refine tz2 23 J (cS ac) b9 (xfA Tryd.underlying47 ty3 J) (tz3 24 J (cS ac) b9 (fun w' h'=>xlA h' 2 ty3 J) (tz2 25 J (cS ac) b9 (xiB J J) (tz2 26 J (cS B) b9 (xqB ac J) ?_)));exact V _ _ ⟨⟨J,J,(flB ac),trivial⟩,rfl⟩
    ·have ba:∃ Mx,Hp.le M Mx∧St _ Mx F [_,_,_]:=⟨_,Hp.le_refl _,S.pk [0,1,2]⟩;refine tz4 23 J (skF ac) ba (tz4 24 J (skF ac) ba (tz4 25 J (skF ac) ba (tz2 26 J (cS B) ba (xpB ac J) ?_)));exact V _ _ ⟨⟨J,J,(flB ac),trivial⟩,rfl⟩
   rintro W _ ⟨Y,rfl⟩;rw [QC Y];refine tz2 27 J (cS B) (⟨M,Hp.le_refl M,(S.pk [0,1,2])⟩) (xmB J) ?_;refine Yg (fun W w'=>QY W [(115,.bool (U.Kind==(5:Int))),(143,.bool ((au||(decide (U.Limit<(0:Int))))||(decide (U.Limit>(128:Int)))))]∧bg=w') 1 (Ls 33 [0,1,2,3,4,5,6,7,8,9,10,11,12,13,14,15,16,17,18,19,20,21,22,23,24,25,26,27,28,29,30,31]) ?_ ?_;rotate_left
   ·intro V;rcases Qw (au||(decide (U.Limit<(0:Int)))) with ad | ad
    ·have bb:∃ Mx,Hp.le M Mx∧St _ Mx F [_,_,_]:=⟨_,Hp.le_refl _,S.pk [0,1,2]⟩;refine tz2 28 J (cS ad) bb (xfA Tryd.underlying47 ty3 J) (tz3 29 J (cS ad) bb (fun w' h'=>xlA h' 2 ty3 J) (tz2 30 J (cS ad) bb (xiB J J) (tz2 31 J (cS B) bb (xqB ad J) ?_)));exact V _ _ ⟨⟨J,(flB ad),trivial⟩,rfl⟩
    ·have bc:∃ Mx,Hp.le M Mx∧St _ Mx F [_,_,_]:=⟨_,Hp.le_refl _,S.pk [0,1,2]⟩;refine tz4 28 J (skF ad) bc (tz4 29 J (skF ad) bc (tz4 30 J (skF ad) bc (tz2 31 J (cS B) bc (xpB ad J) ?_)));exact V _ _ ⟨⟨J,(flB ad),trivial⟩,rfl⟩
   rintro W _ ⟨Y,rfl⟩;rw [QC Y];refine tz0 32 J (⟨M,Hp.le_refl M,(S.pk [0,1,2])⟩) (xpB B J) ?_;exact V _ _ ⟨((au||(decide (U.Limit<(0:Int))))||(decide (U.Limit>(128:Int)))),oi H,agP J,E,S.pk [0,1,2]⟩
  ·refine tz4 4 J (skT B) K (tz4 5 J (skT B) K (tz4 6 J (skT B) K (tz4 7 J (skT B) K (tz4 8 J (skT B) K (tz4 9 J (skT B) K (tz4 10 J (skT B) K (tz4 11 J (skT B) K (tz4 12 J (skT B) K (tz4 13 J (J) K (tz4 14 J (J) K (tz4 15 J (J) K (tz4 16 J (J) K (tz4 17 J (J) K (tz4 18 J (J) K (tz4 19 J (J) K ?_)))))))))))))));refine tz4 20 J (J) K (tz4 21 J (skT B) K (tz4 22 J (skT B) K (tz4 23 J (J) K (tz4 24 J (J) K (tz4 25 J (J) K (tz4 26 J (skT B) K (tz4 27 J (skT B) K (tz4 28 J (J) K (tz4 29 J (J) K (tz4 30 J (J) K (tz4 31 J (skT B) K (tz0 32 J K (xqB B J) ?_))))))))))));exact V _ _ ⟨false,oi H,agP J,E,S.pk [0,1,2]⟩
 rintro W cf ⟨b6,rfl,Y,E,S⟩;rw [QC Y];have H:=bi;refine Wz ?_;refine tn ?_;rcases Q7 H with ⟨ay,H⟩ | ⟨ay,H⟩
 ·refine QD (cB ay) ?_;refine wsQ (waI J (wnQ ?_));refine QS ?_;refine tr (?_);obtain rfl:=oi H;exact ⟨_,_,_,rsA (vs:=[_]) J,HM,E,S.pk [0,1],⟨J,J⟩⟩
 refine QB (cB ay) (QW (tn ?_))
 as_aux_lemma =>
 refine wsQ (waI J (wnQ ?_));refine QS ?_;obtain rfl:=oi H;exact ⟨_,_,_,rsA (vs:=[_]) J,HM,E,S.pk [0,1],⟨J,J⟩⟩
def ZN (H:QI):Nat→Int→Int→Option ((Int))
 | 0,_,_=>none
 | k+1,E,B=>(if (decide (B<(H.T.length:Int)))=true then (Option.bind (α:=Int) (if 0≤B∧B<(H.T.length:Int) then (Option.bind (α:=Int) (if ((rd H.T B).State==(1:Int))=true then some ((IntKind.i64.wrap (E+(1:Int)))) else some (E)) (fun K=>some (K))) else none) (fun U=>ZN H k U (IntKind.i64.wrap (B+(1:Int))))) else some (E))
theorem ZN.mono {B}: ∀ {kl:Nat} {x0 E},OLe (ZN B kl x0 E) (ZN B (kl+1) x0 E):=by
 intro kl
 induction kl with
 | zero=>intros;exact OLe.none
 | succ kl ih =>
  intros
  rw [ZN.eq_2,ZN.eq_2];exact mo
def Zq (k:Nat) (E:QI):Option (Int) :=
 (Option.bind (ZN E k (0:Int) (0:Int)) (fun B=>some B))
theorem Zq.mono {k B}: OLe (Zq k B) (Zq (k+1) B):=by
 unfold Zq;have m1:=@ZN.mono;exact mo
theorem Zq.con {k M A0_8 c0_8 A0_9 c0_9} {B:QI} {K} {r:Int} (h:Zq k B=some r) (hr0_9:SlR Qm M (.slice A0_9 B.L.length c0_9) B.L): Con Tryd.prog 86 #[pt K 0] M [B169 K B A0_8 c0_8 A0_9 c0_9,Rw QE 172 A0_8 c0_8 B.T] (fun v M' am=>v=vI r∧am=[B169 K B A0_8 c0_8 A0_9 c0_9,Rw QE 172 A0_8 c0_8 B.T]):=by
 refine cwA Tryd.func86 J Tryd.ntmps86 Tryd.results86 J h ?_;intro w F rn S ax E HM H;unfold Zq at H;refine wsQ (waI J (wnQ (wsQ (waI J (wnQ (QG (wsQ (waI J (wnQ ?_)))))))));obtain ⟨a7,aa,ab⟩:=QL H;refine Zr (fun U w'=>∃ (a4:Int),(a4)=a7∧QY U [(3,vI a4)]∧Ext w w'∧St w' M F [B169 K B A0_8 c0_8 A0_9 c0_9,Rw QE 172 A0_8 c0_8 B.T]) ?_ ?_
 ·refine Yt (fun n U w'=>∃ (W:Int) (Y:Int),ZN B n W Y=some a7∧QY U [(0,pt K 0),(3,vI W),(4,vI Y)]∧Ext w w'∧St w' M F [B169 K B A0_8 c0_8 A0_9 c0_9,Rw QE 172 A0_8 c0_8 B.T]) k ?_ ?_
  ·exact ⟨(0:Int),(0:Int),aa,agP J,E,S.pk [0,1]⟩
  ·intro n;rintro U ap ⟨W,Y,H,V,E,S⟩;rw [QC V]
   cases n with
   | zero=>cases H
   | succ k =>
    rw [ZN.eq_2] at H;refine QG (wsQ (wmI J (wmP J (W_v _ (Qf J) J (wfA Tryd.underlying169 ty166 J (wlA S 0 ty166 J (W_v _ (Qd (n:=B.T.length) Tryd.underlying166 J) J (wiB J J (wnQ ?_)))))))));rcases Q7 H with ⟨Z,H⟩ | ⟨Z,H⟩
    ·refine QD (cB Z) ?_;refine QW (tn (QG ?_));obtain ⟨aj,ac,a5⟩:=QL H;refine Xz (fun U w'=>∃ (a1:Int),(a1)=aj∧QY U [(0,pt K 0),(3,vI a1),(4,vI Y)]∧Ext w w'∧St w' M F [B169 K B A0_8 c0_8 A0_9 c0_9,Rw QE 172 A0_8 c0_8 B.T]) ?_ ?_
     ·as_aux_lemma =>
       clear a5;have H:=ac;refine Ze ?_;refine wsQ (wmP J (W_v _ (Qf J) J (wfA Tryd.underlying169 ty166 J (wlA S 0 ty166 J (wmI J ?_)))));obtain ⟨⟨a8,a9⟩,H⟩:=Zj H;obtain ⟨aq,ar,an,_,_,ad,ae,af,ag,ah⟩:=SlW.at' (S.row_read 1 J) a8 a9;obtain rfl:af=_:=ag;refine W_v _ (QQ Tryd.underlying166 ty172 (slA ad) J a8 a9) J (wfA Tryd.underlying172 ty5 J (W_v _ (YG (Hp.of_get ae) ty5 J (ah 2 _ J)) J (wiB J J (wnQ ?_))));obtain ⟨ak,ai,a6⟩:=QL H;refine Xz (fun U w'=>∃ (a2:Int),(a2)=ak∧QY U [(0,pt K 0),(3,vI a2),(4,vI Y)]∧Ext w w'∧St w' M F [B169 K B A0_8 c0_8 A0_9 c0_9,Rw QE 172 A0_8 c0_8 B.T]) ?_ ?_
       ·clear a6;have H:=ai;rcases Q7 H with ⟨a3,H⟩ | ⟨a3,H⟩
        ·refine QD (cB a3) ?_;refine QN (wmI J (wiI J J (waI J (wnQ ?_))));exact ⟨(IntKind.i64.wrap (W+(1:Int))),oi H,agP J,E,S.pk [0,1]⟩
        refine QB (cB a3) (QW (tn ?_));exact ⟨W,oi H,agP J,E,S.pk [0,1]⟩
       rintro U au ⟨a2,rfl,V,E,S⟩;rw [QC V];have H:=a6;refine bn (tn ?_);exact ⟨a2,oi H,agP J,E,S.pk [0,1]⟩
     rintro U av ⟨a1,rfl,V,E,S⟩;rw [QC V];have H:=a5;refine tn (QN (wmI J (wiI J J (waI J (wnQ ?_)))));exact ⟨k,Nat.lt_succ_self k,⟨a1,(IntKind.i64.wrap (Y+(1:Int))),H,agP J,E,S.pk [0,1]⟩⟩
    refine QB (cB Z) ?_;refine YV ?_;refine tx (tx (bsm (?_)));refine tn ?_;exact ⟨W,oi H,agP J,E,S.pk [0,1]⟩
 rintro U aw ⟨a4,rfl,V,E,S⟩;rw [QC V];have H:=ab;refine tn ?_
 as_aux_lemma =>
 refine wsQ (wmI J (waI J (wnQ ?_)));refine QS ?_;obtain rfl:=oi H;exact ⟨_,_,_,rsA (vs:=[_]) J,HM,E,S.pk [0,1],⟨J,J⟩⟩
def ZO (E:QI) (H:Str):Nat→Int→Option ((Qs)⊕(Unit))
 | 0,_=>none
 | k+1,B=>(if (decide (B<(E.L.length:Int)))=true then (if 0≤B∧B<(E.L.length:Int) then (if (sbin .eql ((rd E.L B).Key) H)=true then (if 0≤B∧B<(E.L.length:Int) then some (.inl (rd E.L B)) else none) else ZO E H k (IntKind.i64.wrap (B+(1:Int)))) else none) else some (.inr ()))
theorem ZO.mono {B E}: ∀ {kl:Nat} {x0},OLe (ZO B E kl x0) (ZO B E (kl+1) x0):=by
 intro kl
 induction kl with
 | zero=>intros;exact OLe.none
 | succ kl ih =>
  intros
  rw [ZO.eq_2,ZO.eq_2];exact mo
def Zg (k:Nat) (H:QI) (E:Str):Option (Qs) :=
 (Option.bind (ZO H E k (0:Int)) (fun B=>Sum.elim (fun r'=>some r') (fun _=>some (⟨E,([]:(List QZ)),false,⟨(0:Int),(0:Int),false,([]:Str)⟩⟩:Qs)) B))
theorem Zg.mono {k B E}: OLe (Zg k B E) (Zg (k+1) B E):=by
 unfold Zg;have m1:=@ZO.mono;exact mo
theorem Zg.con {k M A0_8 c0_8 A0_9 c0_9} {K:QI} {W:Str} {Y} {r:Qs} (h:Zg k K W=some r) (hr0_9:SlR Qm M (.slice A0_9 K.L.length c0_9) K.L): Con Tryd.prog 88 #[pt Y 0,vS W] M [B169 Y K A0_8 c0_8 A0_9 c0_9,Rw QE 172 A0_8 c0_8 K.T] (fun v M' ar=>∃ (ao:Option Addr) (ap:Nat),v=.agg #[vS r.Key,.slice ao r.L.length ap,.bool r.Has,vI r.I.Writer,vI r.I.TS,.bool r.I.Tomb,vS r.I.Value]∧SlR ZU M' (.slice ao r.L.length ap) r.L∧ar=[B169 Y K A0_8 c0_8 A0_9 c0_9,Rw QE 172 A0_8 c0_8 K.T]):=by
 refine cwA Tryd.func88 J Tryd.ntmps88 Tryd.results88 J h ?_;intro w F rn S bc E HM H;unfold Zg at H;refine wsQ ?_;refine YN S cz4 ty176 J J (eE2 E ?_);intro b1 w2 E S;refine wnQ (QG (wsQ (waI J (wnQ ?_))));obtain ⟨a5,ad,a3⟩:=QL H;refine Zr (fun ρ w'=>.inr ()=a5∧QY ρ [(1,vS W),(4,pt b1 0)]∧Ext w w'∧St w' M F [Blk b1 (.cells cz4 176 (0,0)),B169 Y K A0_8 c0_8 A0_9 c0_9,Rw QE 172 A0_8 c0_8 K.T]) ?_ ?_
 ·refine Yt (fun n ρ w'=>∃ (B:Int),ZO K W n B=some a5∧QY ρ [(0,pt Y 0),(1,vS W),(4,pt b1 0),(5,vI B)]∧Ext w w'∧St w' M F [Blk b1 (.cells cz4 176 (0,0)),B169 Y K A0_8 c0_8 A0_9 c0_9,Rw QE 172 A0_8 c0_8 K.T]) k ?_ ?_
  ·exact ⟨(0:Int),ad,agP J,E,S.pk [0,1,2]⟩
  ·intro n;rintro ρ az ⟨B,H,a7,E,S⟩;rw [QC a7]
   cases n with
   | zero=>cases H
   | succ k =>
    rw [ZO.eq_2] at H;refine QG (wsQ (wmI J (wmP J (W_v _ (Qf J) J (wfA Tryd.underlying169 ty167 J (wlA S 1 ty167 J (W_v _ (Qd (n:=K.L.length) Tryd.underlying167 J) J (wiB J J (wnQ ?_)))))))));rcases Q7 H with ⟨Z,H⟩ | ⟨Z,H⟩
    ·refine QD (cB Z) ?_;refine QW (tn (QG ?_));refine Ze ?_;refine wsQ (wmP J (W_v _ (Qf J) J (wfA Tryd.underlying169 ty167 J (wlA S 1 ty167 J (wmI J ?_)))));obtain ⟨⟨a8,a9⟩,H⟩:=Zj H;obtain ⟨b0,b2,av,_,_,ae,af,aw,ag,ah⟩:=SlW.at' hr0_9 a8 a9;obtain ⟨b3,ai,rfl⟩:=ag;obtain ⟨b4,b5,rfl,_⟩:=ai.form;refine W_v _ (QQ Tryd.underlying167 ty176 (slA ae) J a8 a9) J (wfA Tryd.underlying176 ty9 J (W_v _ (YG (S.frz af) ty9 J (ah 0 _ J)) J (wmS J (W_v (.bool (sbin .eql ((rd K.L B).Key) W)) (U2 J J J) J (wnQ ?_)))));rcases Q7 H with ⟨a2,H⟩ | ⟨a2,H⟩
     ·refine QD (cB a2) ?_;refine wsQ (wmP J (W_v _ (Qf J) J (wfA Tryd.underlying169 ty167 J (wlA S 1 ty167 J (wmI J ?_)))));obtain ⟨⟨aa,ab⟩,H⟩:=Zj H;obtain ⟨b6,b7,ax,_,_,aj,ak,ay,am,an⟩:=SlW.at' hr0_9 aa ab;obtain ⟨b8,a4,rfl⟩:=am;obtain ⟨U,V,rfl,_⟩:=a4.form;refine W_v _ (QQ Tryd.underlying167 ty176 (slA aj) J aa ab) J (W_v (.agg #[vS ((rd K.L B).Key),.slice U ((rd K.L B).L).length V,.bool ((rd K.L B).Has),vI ((rd K.L B).I.Writer),vI ((rd K.L B).I.TS),.bool ((rd K.L B).I.Tomb),vS ((rd K.L B).I.Value)]) (Ql (S.frz ak) ty176 J (X1 an 0 J) J J) J ?_);refine Qu S 0 J ty176 J J [vS ((rd K.L B).Key),.slice U ((rd K.L B).L).length V,.bool ((rd K.L B).Has),vI ((rd K.L B).I.Writer),vI ((rd K.L B).I.TS),.bool ((rd K.L B).I.Tomb),vS ((rd K.L B).I.Value)] J J J #[vS ((rd K.L B).Key),.slice U ((rd K.L B).L).length V,.bool ((rd K.L B).Has),vI ((rd K.L B).I.Writer),vI ((rd K.L B).I.TS),.bool ((rd K.L B).I.Tomb),vS ((rd K.L B).I.Value)] (by as_aux_lemma=>kernel_rfl) J (eE1 E ?_);intro b9 E S;refine wnQ ?_;refine QS ?_;refine br (tr (tr (br (tr (tr (?_))))));obtain rfl:=oi H;have H:=a3;replace H:=elimL H;obtain rfl:=oi H;exact ⟨_,_,_,fun w1 e1=>Zk (vs:=[.agg #[vS ((rd K.L B).Key),.slice U ((rd K.L B).L).length V,.bool ((rd K.L B).Has),vI ((rd K.L B).I.Writer),vI ((rd K.L B).I.TS),.bool ((rd K.L B).I.Tomb),vS ((rd K.L B).I.Value)]]) (FA.cons (rcA S e1 0 ty176 J J J) (FA.nil)),HM,E,S.pk [1,2],⟨U,V,J,a4,J⟩⟩
     refine QB (cB a2) (QW (bn (tn (QN (wmI J (wiI J J (waI J (wnQ ?_))))))));exact ⟨k,Nat.lt_succ_self k,⟨(IntKind.i64.wrap (B+(1:Int))),H,agP J,E,S.pk [0,1,2]⟩⟩
    refine QB (cB Z) ?_;refine YV ?_;refine tx (tx (bsm (?_)));refine tn ?_;exact ⟨oi H,agP J,E,S.pk [0,1,2]⟩
 rintro ρ ba ⟨rfl,a7,E,S⟩;rw [QC a7];have H:=a3;replace H:=elimR H;refine tn ?_
 as_aux_lemma =>
 refine wsQ (wmS J (W_v _ (xb2 [(0,1),(1,1),(2,1),(3,4)] #[vS W,.slice none 0 0,.bool false,vI 0,vI 0,.bool false,vS ([]:Str)] Tryd.underlying176 ty176 J) J ?_));refine Qu S 0 J ty176 J J [vS W,.slice none 0 0,.bool false,vI 0,vI 0,.bool false,vS ([]:Str)] J J J #[vS W,.slice none 0 0,.bool false,vI 0,vI 0,.bool false,vS ([]:Str)] (by as_aux_lemma=>kernel_rfl) J (eE1 E ?_);intro bb E S;refine wnQ ?_;refine QS ?_;obtain rfl:=oi H;exact ⟨_,_,_,fun w1 e1=>Zk (vs:=[.agg #[vS W,.slice none 0 0,.bool false,vI 0,vI 0,.bool false,vS ([]:Str)]]) (FA.cons (rcA S e1 0 ty176 J J J) (FA.nil)),HM,E,S.pk [1,2],⟨none,0,J,SlW.nil _ _,J⟩⟩
end Go.Proofs.YtnjbjpaiepefoaaDoor
