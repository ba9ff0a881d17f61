import Derived.Test.YtkknoimjgifhlaaGreatDoorGr3B
import Derived.Test.YtkknoimjgifhlaaGreatDoorGr3LRoomTellsP0
import Derived.Test.YtkknoimjgifhlaaGreatDoorGr3LRoomTellsP3
import Derived.Test.YtkknoimjgifhlaaGreatDoorGr3LRoomTellsP4
import Derived.Test.YtkknoimjgifhlaaGreatDoorGr3LRoomTellsP6
namespace Go.Proofs.YtkknoimjgifhlaaGreatDoor
open Go
set_option linter.unusedVariables false
set_option linter.unusedSimpArgs false
set_option maxHeartbeats 80000000
set_option maxRecDepth 100000
def Xh (a1:(List (List QY))) (t46:(List QQ)):Nat→Option ((Unit))
 | 0=>none
 | k+1=>(if (decide ((0:Int)<(t46.length:Int)))=true then (if 0≤(0:Int)∧(0:Int)<(t46.length:Int) then (if 0≤(rd t46 (0:Int)).Task∧(rd t46 (0:Int)).Task<(a1.length:Int) then (if 0≤(0:Int)∧(0:Int)<(t46.length:Int) then (if 0≤(rd t46 (0:Int)).Call∧(rd t46 (0:Int)).Call<((rd a1 ((rd t46 (0:Int)).Task)).length:Int) then none else none) else none) else none) else none) else some ())
theorem Xh.mono {a1 t46}: ∀ {kl:Nat},OLe (Xh a1 t46 kl ) (Xh a1 t46 (kl+1) ):=by
 intro kl
 induction kl with
 | zero=>intros;exact OLe.none
 | succ kl ih =>
  intros
  rw [Xh.eq_2,Xh.eq_2]
  exact mo
def XS (a0:QI) (a1:(List (List QY))) (t46:(List QQ)):Nat→Int→Int→Int→QE→Option ((Int×Int))
 | 0,_,_,_,_=>none
 | k+1,x4311,x4312,x4313,x4314=>(if (decide (x4313<(t46.length:Int)))=true then (Option.bind (α:=Int×Int×QE) (if 0≤x4313∧x4313<(t46.length:Int) then (if 0≤(rd t46 x4313).Task∧(rd t46 x4313).Task<(a1.length:Int) then (if 0≤x4313∧x4313<(t46.length:Int) then (if 0≤(rd t46 x4313).Call∧(rd t46 x4313).Call<((rd a1 ((rd t46 x4313).Task)).length:Int) then (Option.bind (Qj k x4314) (fun t5277=>(if 0≤x4313∧x4313<(t46.length:Int) then (Option.bind (Q5 k x4314 ((rd t46 x4313).Task) (rd (rd a1 ((rd t46 x4313).Task)) ((rd t46 x4313).Call))) (fun t5326=>(Option.bind (Qj k t5326.2) (fun t5340=>(if 0≤x4313∧x4313<(t46.length:Int) then (if (decide ((rd t46 x4313).Back≥(0:Int)))=true then some (x4311,x4312,t5326.2) else (Option.bind (α:=Int×Int) (Option.bind (α:=Bool) (if ((rd (rd a1 ((rd t46 x4313).Task)) ((rd t46 x4313).Call)).Kind==(3:Int))=true then some (((rd (rd a1 ((rd t46 x4313).Task)) ((rd t46 x4313).Call)).Kind==(3:Int))) else some (((rd (rd a1 ((rd t46 x4313).Task)) ((rd t46 x4313).Call)).Kind==(4:Int)))) (fun x5399=>(Option.bind (α:=Int×Int) (if x5399=true then some ((IntKind.i64.wrap (x4311+(2:Int))),(IntKind.i64.wrap (x4312+(1:Int)))) else (Option.bind (α:=Int×Int) (if ((rd (rd a1 ((rd t46 x4313).Task)) ((rd t46 x4313).Call)).Kind==(9:Int))=true then some ((IntKind.i64.wrap ((IntKind.i64.wrap (x4311+a0.Depth))+(1:Int))),x4312) else some ((IntKind.i64.wrap (x4311+(imax (0:Int) (IntKind.i64.wrap (t5277-t5340))))),(IntKind.i64.wrap (x4312+(imax (0:Int) (IntKind.i64.wrap (t5277-t5340))))))) (fun ⟨x5425,x5426⟩=>some (x5425,x5426)))) (fun ⟨x5419,x5420⟩=>some (x5419,x5420))))) (fun ⟨x5394,x5395⟩=>some (x5394,x5395,t5326.2)))) else none))))) else none))) else none) else none) else none) else none) (fun ⟨x5152,x5153,x5154⟩=>XS a0 a1 t46 k x5152 x5153 (IntKind.i64.wrap (x4313+(1:Int))) x5154)) else some (x4311,x4312))
theorem XS.mono {a0 a1 t46}: ∀ {kl:Nat} {x0 x1 x2 x3},OLe (XS a0 a1 t46 kl x0 x1 x2 x3) (XS a0 a1 t46 (kl+1) x0 x1 x2 x3):=by
 intro kl
 induction kl with
 | zero=>intros;exact OLe.none
 | succ kl ih =>
  intros
  rw [XS.eq_2,XS.eq_2]
  have m1:=@Q5.mono
  have m2:=@Qj.mono
  exact mo
def Xg (a1:(List (List QY))) (t47:(List QQ)×QE):Nat→Option ((Unit))
 | 0=>none
 | k+1=>(if (decide ((0:Int)<(t47.1.length:Int)))=true then (if 0≤(0:Int)∧(0:Int)<(t47.1.length:Int) then (if 0≤(rd t47.1 (0:Int)).Task∧(rd t47.1 (0:Int)).Task<(a1.length:Int) then (if 0≤(0:Int)∧(0:Int)<(t47.1.length:Int) then (if 0≤(rd t47.1 (0:Int)).Call∧(rd t47.1 (0:Int)).Call<((rd a1 ((rd t47.1 (0:Int)).Task)).length:Int) then none else none) else none) else none) else none) else some ())
theorem Xg.mono {a1 t47}: ∀ {kl:Nat},OLe (Xg a1 t47 kl ) (Xg a1 t47 (kl+1) ):=by
 intro kl
 induction kl with
 | zero=>intros;exact OLe.none
 | succ kl ih =>
  intros
  rw [Xg.eq_2,Xg.eq_2]
  exact mo
def YF (a0:QI) (a1:(List (List QY))) (t47:(List QQ)×QE):Nat→Int→Int→Int→QE→Option ((Int×Int))
 | 0,_,_,_,_=>none
 | k+1,x9709,x9710,x9711,x9712=>(if (decide (x9711<(t47.1.length:Int)))=true then (Option.bind (α:=Int×Int×QE) (if 0≤x9711∧x9711<(t47.1.length:Int) then (if 0≤(rd t47.1 x9711).Task∧(rd t47.1 x9711).Task<(a1.length:Int) then (if 0≤x9711∧x9711<(t47.1.length:Int) then (if 0≤(rd t47.1 x9711).Call∧(rd t47.1 x9711).Call<((rd a1 ((rd t47.1 x9711).Task)).length:Int) then (Option.bind (Qj k x9712) (fun t10675=>(if 0≤x9711∧x9711<(t47.1.length:Int) then (Option.bind (Q5 k x9712 ((rd t47.1 x9711).Task) (rd (rd a1 ((rd t47.1 x9711).Task)) ((rd t47.1 x9711).Call))) (fun t10724=>(Option.bind (Qj k t10724.2) (fun t10738=>(if 0≤x9711∧x9711<(t47.1.length:Int) then (if (decide ((rd t47.1 x9711).Back≥(0:Int)))=true then some (x9709,x9710,t10724.2) else (Option.bind (α:=Int×Int) (Option.bind (α:=Bool) (if ((rd (rd a1 ((rd t47.1 x9711).Task)) ((rd t47.1 x9711).Call)).Kind==(3:Int))=true then some (((rd (rd a1 ((rd t47.1 x9711).Task)) ((rd t47.1 x9711).Call)).Kind==(3:Int))) else some (((rd (rd a1 ((rd t47.1 x9711).Task)) ((rd t47.1 x9711).Call)).Kind==(4:Int)))) (fun x10797=>(Option.bind (α:=Int×Int) (if x10797=true then some ((IntKind.i64.wrap (x9709+(2:Int))),(IntKind.i64.wrap (x9710+(1:Int)))) else (Option.bind (α:=Int×Int) (if ((rd (rd a1 ((rd t47.1 x9711).Task)) ((rd t47.1 x9711).Call)).Kind==(9:Int))=true then some ((IntKind.i64.wrap ((IntKind.i64.wrap (x9709+a0.Depth))+(1:Int))),x9710) else some ((IntKind.i64.wrap (x9709+(imax (0:Int) (IntKind.i64.wrap (t10675-t10738))))),(IntKind.i64.wrap (x9710+(imax (0:Int) (IntKind.i64.wrap (t10675-t10738))))))) (fun ⟨x10823,x10824⟩=>some (x10823,x10824)))) (fun ⟨x10817,x10818⟩=>some (x10817,x10818))))) (fun ⟨x10792,x10793⟩=>some (x10792,x10793,t10724.2)))) else none))))) else none))) else none) else none) else none) else none) (fun ⟨x10550,x10551,x10552⟩=>YF a0 a1 t47 k x10550 x10551 (IntKind.i64.wrap (x9711+(1:Int))) x10552)) else some (x9709,x9710))
theorem YF.mono {a0 a1 t47}: ∀ {kl:Nat} {x0 x1 x2 x3},OLe (YF a0 a1 t47 kl x0 x1 x2 x3) (YF a0 a1 t47 (kl+1) x0 x1 x2 x3):=by
 intro kl
 induction kl with
 | zero=>intros;exact OLe.none
 | succ kl ih =>
  intros
  rw [YF.eq_2,YF.eq_2]
  have m1:=@Q5.mono
  have m2:=@Qj.mono
  exact mo
def XV (k:Nat) (a0:QI) (a1:(List (List QY))) (a2:(List QL)):Option (Int×Int×Int) :=
 (Option.bind (Z6 k a0 a1 a2) (fun t4=>(Sum.elim (fun t6=>none) (Sum.elim (fun t7=>some ((0:Int),(0:Int),(1:Int))) (Sum.elim (fun t8=>some ((0:Int),(0:Int),(4:Int))) (fun t9=>(Option.bind (Qj k t9) (fun t39=>(Option.bind (YG k a0 a1 a2) (fun t44=>(Sum.elim (fun t46=>(Option.bind (Zk k a0) (fun t54=>(Sum.elim (fun t56=>(Option.bind (Xh a1 t46 k ) (fun _=>some (t39,(t9.L.length:Int),(0:Int))))) (fun t57=>(Option.bind (XS a0 a1 t46 k t39 (t9.L.length:Int) (0:Int) t57) (fun ⟨x4875,x4876⟩=>some (x4875,x4876,(0:Int)))))) t54))) (fun t47=>(Option.bind (Zk k a0) (fun t5452=>(Sum.elim (fun t5454=>(Option.bind (Xg a1 t47 k ) (fun _=>some (t39,(t9.L.length:Int),(0:Int))))) (fun t5455=>(Option.bind (YF a0 a1 t47 k t39 (t9.L.length:Int) (0:Int) t5455) (fun ⟨x10273,x10274⟩=>some (x10273,x10274,(0:Int)))))) t5452)))) t44)))))))) t4))
theorem XV.mono {k a0 a1 a2}: OLe (XV k a0 a1 a2) (XV (k+1) a0 a1 a2):=by
 unfold XV
 have m1:=@Qj.mono
 have m2:=@Zk.mono
 have m3:=@Z6.mono
 have m4:=@YG.mono
 have m5:=@Xh.mono
 have m6:=@XS.mono
 have m7:=@Xg.mono
 have m8:=@YF.mono
 exact mo
theorem XV.con {k M} {a0:QI} {A1 c1} {a1:(List (List QY))} {A2 c2} {a2:(List QL)} {r:Int×Int×Int} (h:XV k a0 a1 a2=some r) (hr1:SlR (rSl Yk) M (.slice A1 a1.length c1) a1) (hr2:SlR Qs M (.slice A2 a2.length c2) a2): Con Tryz.prog 9 #[.agg (QF a0),.slice A1 a1.length c1,.slice A2 a2.length c2] M [] (fun v M' Γ'=>v=.tuple #[vI r.1,vI r.2.1,vI r.2.2]∧Γ'=[]):=by
 refine cwA Tryz.func9 J Tryz.ntmps9 Tryz.results9 J h ?_
 intro w F rn S hrn E HM H
 unfold XV at H
 refine wsQ ?_
 refine Yz S (QF a0) J J J (eE2 E ?_)
 intro b1 w2 E S
 refine waI J (waI J (waI J (wnQ (wsQ (W_v (.agg (QF a0)) (Qi (S.blk 0 J) ty23 J (QG J) J J) J (wmL J (wmL J ?_)))))))
 obtain ⟨t4,ht5,H⟩:=QO H
 rcases t4 with t6 | t7 | t8 | t9
 ·replace H:=elimL H
  refine Zy fn26 (Z6.con ht5 hr1 hr2) (Γ1:=[]) (Γ2:=[_]) S J J flN (eE4 E ?_)
  rintro _ w10 _ Γ' E S ⟨rfl,rfl⟩
  replace S:St w10 M F [_]:=S
  refine wmT J (W_v _ (QR J J) J (W_v _ (QR J J) J (W_v (.pointer none) (Zm J) J (waI J (wnQ (QH (wsQ (wmI J (wiB J J (wnQ (QA J (QX ?_))))))))))))
  refine tn (QH ?_)
  refine rgA S [0] [_] 9 mixed J (eE1 E ?_)
  intro w13 E S D1
  refine Wt 0 J J J (.pointer none) J (fun w' h'=>YW J) D1 (Wt 2 J J J (.pointer none) J (fun w' h'=>YW J) D1 ?_)
  cases H
 ·replace H:=elimR H
  replace H:=elimL H
  refine Zy fn26 (Z6.con ht5 hr1 hr2) (Γ1:=[]) (Γ2:=[_]) S J J flN (eE4 E ?_)
  rintro _ w15 _ Γ' E S ⟨rfl,rfl⟩
  replace S:St w15 M F [_]:=S
  refine wmT J (W_v _ (QR J J) J (W_v _ (QR J J) J (W_v (.pointer none) (Zm J) J (waI J (wnQ (QH (wsQ (wmI J (wiB J J (wnQ (QC J (QH ?_))))))))))))
  refine QJ (wmI J (waI J (waI J (waI J (wnQ ?_)))))
  refine QT ?_
  refine tr (?_)
  obtain rfl:=oi H
  exact ⟨_,_,_,rsA (vs:=[_,_,_]) J,HM,E,S.pk [],⟨J,J⟩⟩
 ·replace H:=elimR H
  replace H:=elimR H
  replace H:=elimL H
  refine Zy fn26 (Z6.con ht5 hr1 hr2) (Γ1:=[]) (Γ2:=[_]) S J J flN (eE4 E ?_)
  rintro _ w18 _ Γ' E S ⟨rfl,rfl⟩
  replace S:St w18 M F [_]:=S
  refine wmT J (W_v _ (QR J J) J (W_v _ (QR J J) J (W_v (.pointer none) (Zm J) J (waI J (wnQ (QH (wsQ (wmI J (wiB J J (wnQ (QC J (QH ?_))))))))))))
  refine QJ (wmI J (waI J (waI J (waI J (wnQ ?_)))))
  refine QT ?_
  refine tr (?_)
  obtain rfl:=oi H
  exact ⟨_,_,_,rsA (vs:=[_,_,_]) J,HM,E,S.pk [],⟨J,J⟩⟩
 ·replace H:=elimR H
  replace H:=elimR H
  replace H:=elimR H
  refine Y2 fn26 (Z6.con ht5 hr1 hr2) (Γ1:=[]) (Γ2:=[_]) S J J ?_
  rintro _ w29 M30 Γ' hM31 E' S ⟨b21,A23,c24,A26,c27,rfl,hs28,rfl⟩
  replace HM:=Hp.le_trans HM hM31
  replace hr1:=SlR.mono hr1 hM31
  replace hr2:=SlR.mono hr2 hM31
  replace E:=E.trans E'
  replace S:St w29 M30 F [_,_,_]:=S
  refine wmT J (W_v _ (QR J J) J (W_v _ (QR J J) J (waP J (waI J (wnQ (QH (wsQ (wmI J (wiB J J (wnQ (QA J (QX ?_))))))))))))
  refine tn (QH ?_)
  refine rgA S [0,1,2] [_,_,_] 9 mixed J (eE1 E ?_)
  intro w37 E S D2
  refine tz0 0 J D2 (xmP J) (tz0 2 J D2 (xmP J) (tz0 3 J D2 (Qb J) (tz0 4 J D2 (xfA Tryz.underlying69 ty67 J) (tz1 5 J D2 (fun w' h'=>xlA h' 0 ty67 J) (tz0 6 J D2 (Qm (n:=t9.L.length) Tryz.underlying67 J) ?_)))))
  refine Wo 1 J ?_
  obtain ⟨t39,ht40,H⟩:=QO H
  refine Zy fn27 (Qj.con ht40 hs28) (Γ1:=[_,_]) (Γ2:=[_]) S J J (by rintro _ _ _ ⟨rfl,rfl⟩;exact (QP Zs (QP (YX (fun _ _ _ _ h=>h)) YE))) (eE4 E ?_)
  rintro _ w41 _ Γ' E S ⟨rfl,rfl⟩
  replace S:St w41 M30 F [_,_,_]:=S
  refine QK (Yl ⟨.inr ⟨M30,Hp.le_refl M30,(S.pk [0,1,2])⟩,?_⟩)
  have D3:∃ Mx,Hp.le M30 Mx∧St _ Mx F [_,_,_]:=⟨_,Hp.le_refl _,S.pk [0,1,2]⟩
  refine tz0 7 J D3 (xaI J) (tz0 8 J D3 (xaI J) ?_)
  refine Wz ?_
  refine tn (wsQ (W_v (.agg (QF a0)) (Qi (S.blk 2 J) ty23 J (QG J) J J) J (wmL J (wmL J ?_))))
  obtain ⟨t44,ht45,H⟩:=QO H
  rcases t44 with t46 | t47
  ·replace H:=elimL H
   refine Y2 fn28 (YG.con ht45 hr1 hr2) (Γ1:=[]) (Γ2:=[_,_,_]) S J J ?_
   rintro _ w51 M52 Γ' hM53 E' S ⟨A48,c49,rfl,rfl⟩
   replace HM:=Hp.le_trans HM hM53
   replace hr1:=SlR.mono hr1 hM53
   replace E:=E.trans E'
   replace S:St w51 M52 F [_,_,_,_]:=S
   refine wmT J (W_v _ (QR J J) J (W_v _ (QR J J) J (waL J (W_v (.pointer none) (Zm J) J (wnQ (wsQ (W_v (.agg (QF a0)) (Qi (S.blk 3 J) ty23 J (QG J) J J) J ?_)))))))
   obtain ⟨t54,ht55,H⟩:=QO H
   rcases t54 with t56 | t57
   ·replace H:=elimL H
    refine Zy fn29 (Zk.con ht55) (Γ1:=[]) (Γ2:=[_,_,_,_]) S J J flN (eE4 E ?_)
    rintro _ w58 _ Γ' E S ⟨rfl,rfl⟩
    replace S:St w58 M52 F [_,_,_,_]:=S
    refine wmT J (W_v _ (QR J J) J (W_v _ (QR J J) J (W_v (.pointer none) (Zm J) J (waI J (wnQ (QH (wsQ (waI J (wnQ ?_)))))))))
    obtain ⟨o592,o592h,o592H⟩:=QO H
    refine Zr (fun ρ w'=>()=o592∧QV ρ [(11,vI t39),(12,vI (t9.L.length:Int))]∧Ext w w'∧St w' M52 F []) ?_ ?_
    ·refine Yr (fun n ρ w'=>Xh a1 t46 n =some o592∧QV ρ [(1,.slice A1 a1.length c1),(3,pt b1 0),(11,vI t39),(12,vI (t9.L.length:Int)),(13,.slice A48 t46.length c49),(15,.pointer none),(17,vI 0)]∧Ext w w'∧St w' M52 F [Rw ZA 74 A48 c49 t46,B23 b1 a0]) k ?_ ?_
     ·exact ⟨o592h,agP J,E,S.pk [0,3]⟩
     ·intro n
      rintro ρ w593 ⟨H,hρ,E,S⟩
      rw [QB hρ]
      cases n with
      | zero=>cases H
      | succ k =>
       rw [Xh.eq_2] at H
       refine QH (wsQ (wmI J (wmL J (W_v _ (Qm (n:=t46.length) Tryz.underlying70 J) J (wiB J J (wnQ ?_))))))
       rcases Q3 H with ⟨hb594,H⟩ | ⟨hb594,H⟩
       ·refine QC (cB hb594) ?_
        refine QX (tn (QH ?_))
        refine ZW ?_
        refine QH ?_
        obtain ⟨M654,hM655,hf656,S⟩:=S.row_freeze 0 J
        replace HM:=Hp.le_trans HM hM655
        replace hr1:=SlR.mono hr1 hM655
        refine rgA S [0] [_] 16 mixed J (eE1 E ?_)
        intro w713 E S D4
        refine tz0 0 J D4 (xmL J) (tz0 1 J D4 (xmL J) (tz0 2 J D4 (xmI J) ?_))
        obtain ⟨⟨p715,p716⟩,H⟩:=Z8 H
        obtain ⟨b717,o718,cs719,_,_,ee724,hb720,vs721,hR722,hc723⟩:=SlW.at' hf656 p715 p716
        obtain ⟨v728,hs727,rfl⟩:=hR722
        obtain ⟨A725,c726,rfl,_⟩:=hs727.form
        refine tz0 3 J D4 (QS Tryz.underlying70 ty74 (slA ee724) J p715 p716) (tz0 4 J D4 (xfA Tryz.underlying74 ty3 J) (tz1 5 J D4 (fun w' h'=>Z0 (Yj h' hb720) ty3 J (hc723 0 _ J)) ?_))
        obtain ⟨⟨p729,p730⟩,H⟩:=Z8 H
        obtain ⟨b731,o732,cs733,_,_,ee738,hb734,vs735,hR736,hc737⟩:=SlW.at' hr1 p729 p730
        obtain ⟨v742,hs741,rfl⟩:=hR736
        obtain ⟨A739,c740,rfl,_⟩:=hs741.form
        have hs741z:=hs741
        refine tz0 6 J D4 (QS Tryz.underlying24 ty41 (slA ee738) J p729 p730) (tz1 7 J D4 (fun w' h'=>Z0 (Yj h' hb734) ty41 J (hc737 0 _ J)) (tz0 8 J D4 (xmL J) (tz0 9 J D4 (xmI J) ?_)))
        obtain ⟨⟨p743,p744⟩,H⟩:=Z8 H
        obtain ⟨b745,o746,cs747,_,_,ee752,hb748,vs749,hR750,hc751⟩:=SlW.at' hf656 p743 p744
        obtain ⟨v756,hs755,rfl⟩:=hR750
        obtain ⟨A753,c754,rfl,_⟩:=hs755.form
        refine tz0 10 J D4 (QS Tryz.underlying70 ty74 (slA ee752) J p743 p744) (tz0 11 J D4 (xfA Tryz.underlying74 ty3 J) (tz1 12 J D4 (fun w' h'=>Z0 (Yj h' hb748) ty3 J (hc751 1 _ J)) ?_))
        obtain ⟨⟨p757,p758⟩,H⟩:=Z8 H
        obtain ⟨b759,o760,cs761,_,_,ee766,hb762,vs763,hR764,hc765⟩:=SlW.at' hs741z p757 p758
        obtain rfl:vs763=_:=hR764
        refine tz0 13 J D4 (QS Tryz.underlying41 ty43 (slA ee766) J p757 p758) (Wt 14 J J J (.agg (Qo (rd (rd a1 ((rd t46 (0:Int)).Task)) ((rd t46 (0:Int)).Call)))) J (fun w' h'=>Qi (Yj h' hb762) ty43 J (X1 hc765 0 J) J J) D4 ?_)
        refine Wo 15 J ?_
        refine YN S cz5 ty43 J J (eE2 E ?_)
        intro b767 w768 E S
        refine QK (Yl ⟨.inr ⟨M654,Hp.le_refl M654,(S.pk [1])⟩,?_⟩)
        refine Wo 16 J ?_
        refine Qu S 0 J ty43 J J [vU ((rd (rd a1 ((rd t46 (0:Int)).Task)) ((rd t46 (0:Int)).Call)).Kind),vI ((rd (rd a1 ((rd t46 (0:Int)).Task)) ((rd t46 (0:Int)).Call)).Tx),vS ((rd (rd a1 ((rd t46 (0:Int)).Task)) ((rd t46 (0:Int)).Call)).Key),vS ((rd (rd a1 ((rd t46 (0:Int)).Task)) ((rd t46 (0:Int)).Call)).End),vS ((rd (rd a1 ((rd t46 (0:Int)).Task)) ((rd t46 (0:Int)).Call)).Value),vI ((rd (rd a1 ((rd t46 (0:Int)).Task)) ((rd t46 (0:Int)).Call)).Limit),vU ((rd (rd a1 ((rd t46 (0:Int)).Task)) ((rd t46 (0:Int)).Call)).Engine)] J J J (Qo (rd (rd a1 ((rd t46 (0:Int)).Task)) ((rd t46 (0:Int)).Call))) (by as_aux_lemma=>kernel_rfl) J (eE1 E ?_)
        intro w770 E S
        refine QK (Yl ⟨.inl (by decide),?_⟩)
        refine Wz ?_
        refine tn ?_
        as_aux_lemma =>
        refine wsQ (W_v (.pointer none) (YW J) J ?_)
        cases H
       refine QA (cB hb594) ?_
       refine YZ ?_
       refine tx (tx (bsm (?_)))
       refine tn ?_
       exact ⟨oi H,agP J,E,S.pk []⟩
    rintro ρ w771 ⟨rfl,hρ,E,S⟩
    rw [QB hρ]
    have H:=o592H
    refine tn ?_
    as_aux_lemma =>
    refine wsQ (wmI J (wmI J (waI J (waI J (waI J (wnQ ?_))))))
    refine QT ?_
    obtain rfl:=oi H
    exact ⟨_,_,_,rsA (vs:=[_,_,_]) J,HM,E,S.pk [],⟨J,J⟩⟩
   ·replace H:=elimR H
    refine Y2 fn29 (Zk.con ht55) (Γ1:=[]) (Γ2:=[_,_,_,_]) S J J ?_
    rintro _ w780 M781 Γ' hM782 E' S ⟨b772,A774,c775,A777,c778,rfl,rfl⟩
    replace HM:=Hp.le_trans HM hM782
    replace hr1:=SlR.mono hr1 hM782
    replace E:=E.trans E'
    replace S:St w780 M781 F [_,_,_,_,_,_,_]:=S
    refine wmT J (W_v _ (QR J J) J (W_v _ (QR J J) J (waP J (waI J (wnQ (QH (wsQ (waI J (wnQ ?_)))))))))
    obtain ⟨M2048,hM2049,hf2050,S⟩:=S.row_freeze 3 J
    replace HM:=Hp.le_trans HM hM2049
    replace hr1:=SlR.mono hr1 hM2049
    obtain ⟨M3180,hM3181,hf3182,S⟩:=S.row_freeze 2 J
    replace HM:=Hp.le_trans HM hM3181
    replace hr1:=SlR.mono hr1 hM3181
    replace hf2050:=SlR.mono hf2050 hM3181
    obtain ⟨o4877,o4877h,o4877H⟩:=QO H
    refine Zr (fun ρ w'=>∃ (x4875:Int) (x4876:Int) (Mj:Hp),(x4875,x4876)=o4877∧QV ρ [(11,vI x4875),(12,vI x4876)]∧M3180.le Mj∧Ext w w'∧St w' Mj F []) ?_ ?_
    ·refine Yr (fun n ρ w'=>∃ (x4311:Int) (x4312:Int) (x4313:Int) (x4314:QE) (A4315:Option Addr) (c4316:Nat) (A4318:Option Addr) (c4319:Nat) (Mj:Hp),XS a0 a1 t46 n x4311 x4312 x4313 x4314=some o4877∧QV ρ [(1,.slice A1 a1.length c1),(3,pt b1 0),(11,vI x4311),(12,vI x4312),(13,.slice A48 t46.length c49),(15,pt b772 0),(17,vI x4313)]∧M3180.le Mj∧Ext w w'∧St w' Mj F [Rw QD 112 A4315 c4316 x4314.T,B69 b772 x4314 A4315 c4316 A4318 c4319,B23 b1 a0]∧SlR Qa Mj (.slice A4318 x4314.L.length c4319) x4314.L) k ?_ ?_
     ·exact ⟨t39,(t9.L.length:Int),(0:Int),t57,A774,c775,A777,c778,M3180,o4877h,agP J,(Hp.le_refl M3180),E,S.pk [1,0,4],hf3182⟩
     ·intro n
      rintro ρ w4878 ⟨x4311,x4312,x4313,x4314,A4315,c4316,A4318,c4319,M4879,H,hρ,hM4880,E,S,hs4320⟩
      rw [QB hρ]
      replace HM:=Hp.le_trans HM hM4880
      replace hr1:=SlR.mono hr1 hM4880
      replace hf2050:=SlR.mono hf2050 hM4880
      cases n with
      | zero=>cases H
      | succ k =>
       rw [XS.eq_2] at H
       refine QH (wsQ (wmI J (wmL J (W_v _ (Qm (n:=t46.length) Tryz.underlying70 J) J (wiB J J (wnQ ?_))))))
       rcases Q3 H with ⟨hb4881,H⟩ | ⟨hb4881,H⟩
       ·refine QC (cB hb4881) ?_
        refine QX (tn (QH ?_))
        obtain ⟨o5161,o5161h,o5161H⟩:=QO H
        refine Yc (fun ρ w'=>∃ (x5152:Int) (x5153:Int) (x5154:QE) (A5155:Option Addr) (c5156:Nat) (A5158:Option Addr) (c5159:Nat) (Mj:Hp),(x5152,x5153,x5154)=o5161∧QV ρ [(1,.slice A1 a1.length c1),(3,pt b1 0),(11,vI x5152),(12,vI x5153),(13,.slice A48 t46.length c49),(15,pt b772 0),(17,vI x4313)]∧M4879.le Mj∧Ext w w'∧St w' Mj F [Rw QD 112 A5155 c5156 x5154.T,B69 b772 x5154 A5155 c5156 A5158 c5159,B23 b1 a0]∧SlR Qa Mj (.slice A5158 x5154.L.length c5159) x5154.L) ?_ ?_
        ·as_aux_lemma =>
          clear o5161H
          have H:=o5161h
          have LE5162:=Hp.le_refl M4879
          refine ZW ?_
          refine QH ?_
          refine rgA S [0,1,2] [_,_,_] 16 mixed J (eE1 E ?_)
          intro w5219 E S D5
          refine tz0 0 J D5 (xmL J) (tz0 1 J D5 (xmL J) (tz0 2 J D5 (xmI J) ?_))
          obtain ⟨⟨p5221,p5222⟩,H⟩:=Z8 H
          obtain ⟨b5223,o5224,cs5225,_,_,ee5230,hb5226,vs5227,hR5228,hc5229⟩:=SlW.at' hf2050 p5221 p5222
          obtain ⟨v5234,hs5233,rfl⟩:=hR5228
          obtain ⟨A5231,c5232,rfl,_⟩:=hs5233.form
          refine tz0 3 J D5 (QS Tryz.underlying70 ty74 (slA ee5230) J p5221 p5222) (tz0 4 J D5 (xfA Tryz.underlying74 ty3 J) (tz1 5 J D5 (fun w' h'=>Z0 (Yj h' hb5226) ty3 J (hc5229 0 _ J)) ?_))
          obtain ⟨⟨p5235,p5236⟩,H⟩:=Z8 H
          obtain ⟨b5237,o5238,cs5239,_,_,ee5244,hb5240,vs5241,hR5242,hc5243⟩:=SlW.at' hr1 p5235 p5236
          obtain ⟨v5248,hs5247,rfl⟩:=hR5242
          obtain ⟨A5245,c5246,rfl,_⟩:=hs5247.form
          have hs5247z:=hs5247
          refine tz0 6 J D5 (QS Tryz.underlying24 ty41 (slA ee5244) J p5235 p5236) (tz1 7 J D5 (fun w' h'=>Z0 (Yj h' hb5240) ty41 J (hc5243 0 _ J)) (tz0 8 J D5 (xmL J) (tz0 9 J D5 (xmI J) ?_)))
          obtain ⟨⟨p5249,p5250⟩,H⟩:=Z8 H
          obtain ⟨b5251,o5252,cs5253,_,_,ee5258,hb5254,vs5255,hR5256,hc5257⟩:=SlW.at' hf2050 p5249 p5250
          obtain ⟨v5262,hs5261,rfl⟩:=hR5256
          obtain ⟨A5259,c5260,rfl,_⟩:=hs5261.form
          refine tz0 10 J D5 (QS Tryz.underlying70 ty74 (slA ee5258) J p5249 p5250) (tz0 11 J D5 (xfA Tryz.underlying74 ty3 J) (tz1 12 J D5 (fun w' h'=>Z0 (Yj h' hb5254) ty3 J (hc5257 1 _ J)) ?_))
          obtain ⟨⟨p5263,p5264⟩,H⟩:=Z8 H
          obtain ⟨b5265,o5266,cs5267,_,_,ee5272,hb5268,vs5269,hR5270,hc5271⟩:=SlW.at' hs5247z p5263 p5264
          obtain rfl:vs5269=_:=hR5270
          refine tz0 13 J D5 (QS Tryz.underlying41 ty43 (slA ee5272) J p5263 p5264) (Wt 14 J J J (.agg (Qo (rd (rd a1 ((rd t46 x4313).Task)) ((rd t46 x4313).Call)))) J (fun w' h'=>Qi (Yj h' hb5268) ty43 J (X1 hc5271 0 J) J J) D5 ?_)
          refine Wo 15 J ?_
          refine YN S cz5 ty43 J J (eE2 E ?_)
          intro b5273 w5274 E S
          refine QK (Yl ⟨.inr ⟨M4879,Hp.le_refl M4879,(S.pk [1,2,3])⟩,?_⟩)
          refine Wo 16 J ?_
          refine Qu S 0 J ty43 J J [vU ((rd (rd a1 ((rd t46 x4313).Task)) ((rd t46 x4313).Call)).Kind),vI ((rd (rd a1 ((rd t46 x4313).Task)) ((rd t46 x4313).Call)).Tx),vS ((rd (rd a1 ((rd t46 x4313).Task)) ((rd t46 x4313).Call)).Key),vS ((rd (rd a1 ((rd t46 x4313).Task)) ((rd t46 x4313).Call)).End),vS ((rd (rd a1 ((rd t46 x4313).Task)) ((rd t46 x4313).Call)).Value),vI ((rd (rd a1 ((rd t46 x4313).Task)) ((rd t46 x4313).Call)).Limit),vU ((rd (rd a1 ((rd t46 x4313).Task)) ((rd t46 x4313).Call)).Engine)] J J J (Qo (rd (rd a1 ((rd t46 x4313).Task)) ((rd t46 x4313).Call))) (by as_aux_lemma=>kernel_rfl) J (eE1 E ?_)
          intro w5276 E S
          refine QK (Yl ⟨.inl (by decide),?_⟩)
          refine Wz ?_
          refine tn ?_
          as_aux_lemma =>
          refine wsQ (wmP J ?_)
          obtain ⟨t5277,ht5278,H⟩:=QO H
          replace S:St w5276 M4879 F [_,_,_,_]:=S.pk [2,1,0,3]
          refine Zy fn27 (Qj.con ht5278 hs4320) (Γ1:=[_,_]) (Γ2:=[_,_]) S J J (by rintro _ _ _ ⟨rfl,rfl⟩;exact (QP Zs (QP (YX (fun _ _ _ _ h=>h)) YE))) (eE4 E ?_)
          rintro _ w5279 _ Γ' E S ⟨rfl,rfl⟩
          replace S:St w5279 M4879 F [_,_,_,_]:=S
          refine waI J (wnQ (QH ?_))
          refine VX (S:=fun w'=>∃ Mx,M4879.le Mx∧St w' Mx F [B43 b5273 (rd (rd a1 ((rd t46 x4313).Task)) ((rd t46 x4313).Call)),B23 b1 a0]) (L:=8) mixed ?_
          intro w5310 hw5311 E'
          replace S:=S.heap hw5311
          replace E:=E.trans E'
          have hf2050z:=hf2050
          have D6:∃ Mx,Hp.le M4879 Mx∧St _ Mx F [_,_]:=⟨_,Hp.le_refl _,S.pk [2,3]⟩
          refine tz0 0 J D6 (xmP J) (tz0 1 J D6 (xmL J) (tz0 2 J D6 (xmI J) ?_))
          obtain ⟨⟨p5312,p5313⟩,H⟩:=Z8 H
          obtain ⟨b5314,o5315,cs5316,_,_,ee5321,hb5317,vs5318,hR5319,hc5320⟩:=SlW.at' hf2050z p5312 p5313
          obtain ⟨v5325,hs5324,rfl⟩:=hR5319
          obtain ⟨A5322,c5323,rfl,_⟩:=hs5324.form
          refine tz0 3 J D6 (QS Tryz.underlying70 ty74 (slA ee5321) J p5312 p5313) (tz0 4 J D6 (xfA Tryz.underlying74 ty3 J) (tz1 5 J D6 (fun w' h'=>Z0 (Yj h' hb5317) ty3 J (hc5320 0 _ J)) (Wt 6 J J J (.agg (Qo (rd (rd a1 ((rd t46 x4313).Task)) ((rd t46 x4313).Call)))) J (fun w' h'=>Qi (Y1 h' 0 J) ty43 J (QG J) J J) D6 ?_)))
          refine Wo 7 J ?_
          obtain ⟨t5326,ht5327,H⟩:=QO H
          refine Y2 fn30 (Q5.con ht5327 hs4320) (Γ1:=[_,_]) (Γ2:=[_,_]) S J J ?_
          rintro _ w5337 M5338 Γ' hM5339 E' S ⟨A5328,c5329,A5331,c5332,A5334,c5335,rfl,hs5336,rfl⟩
          replace HM:=Hp.le_trans HM hM5339
          replace LE5162:=Hp.le_trans LE5162 hM5339
          replace hf2050:=SlR.mono hf2050 hM5339
          replace E:=E.trans E'
          replace S:St w5337 M5338 F [_,_,_,_,_]:=S
          refine QK (Yl ⟨.inr ⟨M5338,LE5162,(S.pk [3,4])⟩,?_⟩)
          refine Wz ?_
          refine tn ?_
          as_aux_lemma =>
          refine wsQ (wmI J (wmP J ?_))
          obtain ⟨t5340,ht5341,H⟩:=QO H
          replace S:St w5337 M5338 F [_,_,_,_,_]:=S.pk [1,2,0,3,4]
          refine Zy fn27 (Qj.con ht5341 hs5336) (Γ1:=[_,_]) (Γ2:=[_,_,_]) S J J (by rintro _ _ _ ⟨rfl,rfl⟩;exact (QP Zs (QP (YX (fun _ _ _ _ h=>h)) YE))) (eE4 E ?_)
          rintro _ w5342 _ Γ' E S ⟨rfl,rfl⟩
          replace S:St w5342 M5338 F [_,_,_,_,_]:=S
          refine wiI J J (W_v (vI (imax (0:Int) (IntKind.i64.wrap (t5277-t5340)))) (Un J J) J (waI J (wnQ (QH (wsQ (wmL J (wmI J ?_)))))))
          obtain ⟨⟨p5345,p5346⟩,H⟩:=Z8 H
          obtain ⟨b5347,o5348,cs5349,_,_,ee5354,hb5350,vs5351,hR5352,hc5353⟩:=SlW.at' hf2050 p5345 p5346
          obtain ⟨v5358,hs5357,rfl⟩:=hR5352
          obtain ⟨A5355,c5356,rfl,_⟩:=hs5357.form
          refine W_v _ (QS Tryz.underlying70 ty74 (slA ee5354) J p5345 p5346) J (wfA Tryz.underlying74 ty3 J (W_v _ (Z0 (S.frz hb5350) ty3 J (hc5353 7 _ J)) J (wiB J J (wnQ ?_))))
          rcases Q3 H with ⟨hb5359,H⟩ | ⟨hb5359,H⟩
          ·refine QC (cB hb5359) ?_
           refine YZ ?_
           refine tx (bsm (?_))
           refine tn ?_
           exact ⟨x4311,x4312,t5326.2,A5331,c5332,A5334,c5335,M5338,oi H,agP J,LE5162,E,S.pk [1,0,4],hs5336⟩
          refine QA (cB hb5359) (QX (tn (wsQ (wfA Tryz.underlying43 ty5 J (wlA S 3 ty5 J (wnQ ?_))))))
          obtain ⟨o5396,o5396h,o5396H⟩:=QO H
          refine Yc (fun ρ w'=>∃ (x5394:Int) (x5395:Int),(x5394,x5395)=o5396∧QV ρ [(1,.slice A1 a1.length c1),(3,pt b1 0),(11,vI x5394),(12,vI x5395),(13,.slice A48 t46.length c49),(15,pt b772 0),(17,vI x4313)]∧Ext w w'∧St w' M5338 F [B69 b772 t5326.2 A5331 c5332 A5334 c5335,Rw QD 112 A5331 c5332 t5326.2.T,B23 b1 a0]) ?_ ?_
          ·as_aux_lemma =>
            clear o5396H
            have H:=o5396h
            refine ZW ?_
            refine QH (wsQ (wiB J J (waB J (wnQ ?_))))
            obtain ⟨o5400,o5400h,o5400H⟩:=QO H
            refine Yc (fun ρ w'=>∃ (x5399:Bool),(x5399)=o5400∧QV ρ [(1,.slice A1 a1.length c1),(3,pt b1 0),(11,vI x4311),(12,vI x4312),(13,.slice A48 t46.length c49),(15,pt b772 0),(17,vI x4313),(20,vI (imax (0:Int) (IntKind.i64.wrap (t5277-t5340)))),(93,vU ((rd (rd a1 ((rd t46 x4313).Task)) ((rd t46 x4313).Call)).Kind)),(100,.bool x5399)]∧Ext w w'∧St w' M5338 F [B69 b772 t5326.2 A5331 c5332 A5334 c5335,Rw QD 112 A5331 c5332 t5326.2.T,B23 b1 a0]) ?_ ?_
            ·clear o5400H
             have H:=o5400h
             rcases Q3 H with ⟨hb5401,H⟩ | ⟨hb5401,H⟩
             ·refine QC (cB hb5401) ?_
              refine QX (tn ?_)
              exact ⟨((rd (rd a1 ((rd t46 x4313).Task)) ((rd t46 x4313).Call)).Kind==(3:Int)),oi H,agP J,E,S.pk [0,1,4]⟩
             refine QA (cB hb5401) (QJ (wiB J J (waB J (wnQ ?_))))
             exact ⟨((rd (rd a1 ((rd t46 x4313).Task)) ((rd t46 x4313).Call)).Kind==(4:Int)),oi H,agP J,E,S.pk [0,1,4]⟩
            as_aux_lemma =>
            rintro ρ w5402 ⟨x5399,rfl,hρ,E,S⟩
            rw [QB hρ]
            have H:=o5400H
            refine tn ?_
            obtain ⟨o5421,o5421h,o5421H⟩:=QO H
            refine Yc (fun ρ w'=>∃ (x5419:Int) (x5420:Int),(x5419,x5420)=o5421∧QV ρ [(1,.slice A1 a1.length c1),(3,pt b1 0),(11,vI x5419),(12,vI x5420),(13,.slice A48 t46.length c49),(15,pt b772 0),(17,vI x4313)]∧Ext w w'∧St w' M5338 F [B69 b772 t5326.2 A5331 c5332 A5334 c5335,Rw QD 112 A5331 c5332 t5326.2.T,B23 b1 a0]) ?_ ?_
            ·as_aux_lemma =>
              clear o5421H
              have H:=o5421h
              rcases Q3 H with ⟨hb5422,H⟩ | ⟨hb5422,H⟩
              ·refine QC (cB hb5422) ?_
               refine wsQ (wmI J (wiI J J (waI J (wnQ (QJ (wmI J (wiI J J (waI J (wnQ ?_)))))))))
               exact ⟨(IntKind.i64.wrap (x4311+(2:Int))),(IntKind.i64.wrap (x4312+(1:Int))),oi H,agP J,E,S.pk [0,1,2]⟩
              refine QA (cB hb5422) (wsQ (wiB J J (waB J (wnQ ?_))))
              obtain ⟨o5427,o5427h,o5427H⟩:=QO H
              refine Yc (fun ρ w'=>∃ (x5425:Int) (x5426:Int),(x5425,x5426)=o5427∧QV ρ [(1,.slice A1 a1.length c1),(3,pt b1 0),(11,vI x5425),(12,vI x5426),(13,.slice A48 t46.length c49),(15,pt b772 0),(17,vI x4313)]∧Ext w w'∧St w' M5338 F [B69 b772 t5326.2 A5331 c5332 A5334 c5335,Rw QD 112 A5331 c5332 t5326.2.T,B23 b1 a0]) ?_ ?_
              ·clear o5427H
               have H:=o5427h
               rcases Q3 H with ⟨hb5428,H⟩ | ⟨hb5428,H⟩
               ·refine QC (cB hb5428) ?_
                refine QJ (wmI J (wfA Tryz.underlying23 ty3 J (wlA S 2 ty3 J (wiI J J (wiI J J (waI J (wnQ ?_)))))))
                exact ⟨(IntKind.i64.wrap ((IntKind.i64.wrap (x4311+a0.Depth))+(1:Int))),x4312,oi H,agP J,E,S.pk [0,1,2]⟩
               refine QA (cB hb5428) (wsQ (wmI J (wmI J (wiI J J (waI J (wnQ (QJ (wmI J (wmI J (wiI J J (waI J (wnQ ?_))))))))))))
               exact ⟨(IntKind.i64.wrap (x4311+(imax (0:Int) (IntKind.i64.wrap (t5277-t5340))))),(IntKind.i64.wrap (x4312+(imax (0:Int) (IntKind.i64.wrap (t5277-t5340))))),oi H,agP J,E,S.pk [0,1,2]⟩
              rintro ρ w5429 ⟨x5425,x5426,rfl,hρ,E,S⟩
              rw [QB hρ]
              have H:=o5427H
              refine tn ?_
              exact ⟨x5425,x5426,oi H,agP J,E,S.pk [0,1,2]⟩
            rintro ρ w5430 ⟨x5419,x5420,rfl,hρ,E,S⟩
            rw [QB hρ]
            have H:=o5421H
            refine bn (tn ?_)
            exact ⟨x5419,x5420,oi H,agP J,E,S.pk [0,1,2]⟩
          rintro ρ w5431 ⟨x5394,x5395,rfl,hρ,E,S⟩
          rw [QB hρ]
          have H:=o5396H
          refine bn (tn ?_)
          exact ⟨x5394,x5395,t5326.2,A5331,c5332,A5334,c5335,M5338,oi H,agP J,LE5162,E,S.pk [1,0,2],hs5336⟩
        rintro ρ w5432 ⟨x5152,x5153,x5154,A5155,c5156,A5158,c5159,M5433,rfl,hρ,hM5434,E,S,hs5160⟩
        rw [QB hρ]
        replace HM:=Hp.le_trans HM hM5434
        replace hM4880:=Hp.le_trans hM4880 hM5434
        have H:=o5161H
        refine tn (QJ (wmI J (wiI J J (waI J (wnQ ?_)))))
        exact ⟨k,Nat.lt_succ_self k,⟨x5152,x5153,(IntKind.i64.wrap (x4313+(1:Int))),x5154,A5155,c5156,A5158,c5159,M5433,H,agP J,hM4880,E,S.pk [0,1,2],hs5160⟩⟩
       refine QA (cB hb4881) ?_
       refine YZ ?_
       refine tx (tx (bsm (?_)))
       refine tn ?_
       exact ⟨x4311,x4312,M4879,oi H,agP J,hM4880,E,S.pk []⟩
    rintro ρ w5435 ⟨x4875,x4876,M5436,rfl,hρ,hM5437,E,S⟩
    rw [QB hρ]
    replace HM:=Hp.le_trans HM hM5437
    have H:=o4877H
    refine tn ?_
    as_aux_lemma =>
    refine wsQ (wmI J (wmI J (waI J (waI J (waI J (wnQ ?_))))))
    refine QT ?_
    obtain rfl:=oi H
    exact ⟨_,_,_,rsA (vs:=[_,_,_]) J,HM,E,S.pk [],⟨J,J⟩⟩
  ·replace H:=elimR H
   refine Y2 fn28 (YG.con ht45 hr1 hr2) (Γ1:=[]) (Γ2:=[_,_,_]) S J J ?_
   rintro _ w5449 M5450 Γ' hM5451 E' S ⟨A5438,c5439,b5441,A5443,c5444,A5446,c5447,rfl,hs5448,rfl⟩
   replace HM:=Hp.le_trans HM hM5451
   replace hr1:=SlR.mono hr1 hM5451
   replace E:=E.trans E'
   replace S:St w5449 M5450 F [_,_,_,_,_,_]:=S
   refine wmT J (W_v _ (QR J J) J (W_v _ (QR J J) J (waL J (waP J (wnQ (wsQ (W_v (.agg (QF a0)) (Qi (S.blk 5 J) ty23 J (QG J) J J) J ?_)))))))
   obtain ⟨t5452,ht5453,H⟩:=QO H
   rcases t5452 with t5454 | t5455
   ·replace H:=elimL H
    refine Zy fn29 (Zk.con ht5453) (Γ1:=[]) (Γ2:=[_,_,_,_,_,_]) S J J flN (eE4 E ?_)
    rintro _ w5456 _ Γ' E S ⟨rfl,rfl⟩
    replace S:St w5456 M5450 F [_,_,_,_,_,_]:=S
    refine wmT J (W_v _ (QR J J) J (W_v _ (QR J J) J (W_v (.pointer none) (Zm J) J (waI J (wnQ (QH (wsQ (waI J (wnQ ?_)))))))))
    obtain ⟨o5990,o5990h,o5990H⟩:=QO H
    refine Zr (fun ρ w'=>()=o5990∧QV ρ [(11,vI t39),(12,vI (t9.L.length:Int))]∧Ext w w'∧St w' M5450 F []) ?_ ?_
    ·refine Yr (fun n ρ w'=>Xg a1 t47 n =some o5990∧QV ρ [(1,.slice A1 a1.length c1),(3,pt b1 0),(11,vI t39),(12,vI (t9.L.length:Int)),(13,.slice A5438 t47.1.length c5439),(15,.pointer none),(17,vI 0)]∧Ext w w'∧St w' M5450 F [Rw ZA 74 A5438 c5439 t47.1,B23 b1 a0]) k ?_ ?_
     ·exact ⟨o5990h,agP J,E,S.pk [0,5]⟩
     ·intro n
      rintro ρ w5991 ⟨H,hρ,E,S⟩
      rw [QB hρ]
      cases n with
      | zero=>cases H
      | succ k =>
       rw [Xg.eq_2] at H
       refine QH (wsQ (wmI J (wmL J (W_v _ (Qm (n:=t47.1.length) Tryz.underlying70 J) J (wiB J J (wnQ ?_))))))
       rcases Q3 H with ⟨hb5992,H⟩ | ⟨hb5992,H⟩
       ·refine QC (cB hb5992) ?_
        refine QX (tn (QH ?_))
        refine ZW ?_
        refine QH ?_
        obtain ⟨M6052,hM6053,hf6054,S⟩:=S.row_freeze 0 J
        replace HM:=Hp.le_trans HM hM6053
        replace hr1:=SlR.mono hr1 hM6053
        refine rgA S [0] [_] 16 mixed J (eE1 E ?_)
        intro w6111 E S D7
        refine tz0 0 J D7 (xmL J) (tz0 1 J D7 (xmL J) (tz0 2 J D7 (xmI J) ?_))
        obtain ⟨⟨p6113,p6114⟩,H⟩:=Z8 H
        obtain ⟨b6115,o6116,cs6117,_,_,ee6122,hb6118,vs6119,hR6120,hc6121⟩:=SlW.at' hf6054 p6113 p6114
        obtain ⟨v6126,hs6125,rfl⟩:=hR6120
        obtain ⟨A6123,c6124,rfl,_⟩:=hs6125.form
        refine tz0 3 J D7 (QS Tryz.underlying70 ty74 (slA ee6122) J p6113 p6114) (tz0 4 J D7 (xfA Tryz.underlying74 ty3 J) (tz1 5 J D7 (fun w' h'=>Z0 (Yj h' hb6118) ty3 J (hc6121 0 _ J)) ?_))
        obtain ⟨⟨p6127,p6128⟩,H⟩:=Z8 H
        obtain ⟨b6129,o6130,cs6131,_,_,ee6136,hb6132,vs6133,hR6134,hc6135⟩:=SlW.at' hr1 p6127 p6128
        obtain ⟨v6140,hs6139,rfl⟩:=hR6134
        obtain ⟨A6137,c6138,rfl,_⟩:=hs6139.form
        have hs6139z:=hs6139
        refine tz0 6 J D7 (QS Tryz.underlying24 ty41 (slA ee6136) J p6127 p6128) (tz1 7 J D7 (fun w' h'=>Z0 (Yj h' hb6132) ty41 J (hc6135 0 _ J)) (tz0 8 J D7 (xmL J) (tz0 9 J D7 (xmI J) ?_)))
        obtain ⟨⟨p6141,p6142⟩,H⟩:=Z8 H
        obtain ⟨b6143,o6144,cs6145,_,_,ee6150,hb6146,vs6147,hR6148,hc6149⟩:=SlW.at' hf6054 p6141 p6142
        obtain ⟨v6154,hs6153,rfl⟩:=hR6148
        obtain ⟨A6151,c6152,rfl,_⟩:=hs6153.form
        refine tz0 10 J D7 (QS Tryz.underlying70 ty74 (slA ee6150) J p6141 p6142) (tz0 11 J D7 (xfA Tryz.underlying74 ty3 J) (tz1 12 J D7 (fun w' h'=>Z0 (Yj h' hb6146) ty3 J (hc6149 1 _ J)) ?_))
        obtain ⟨⟨p6155,p6156⟩,H⟩:=Z8 H
        obtain ⟨b6157,o6158,cs6159,_,_,ee6164,hb6160,vs6161,hR6162,hc6163⟩:=SlW.at' hs6139z p6155 p6156
        obtain rfl:vs6161=_:=hR6162
        refine tz0 13 J D7 (QS Tryz.underlying41 ty43 (slA ee6164) J p6155 p6156) (Wt 14 J J J (.agg (Qo (rd (rd a1 ((rd t47.1 (0:Int)).Task)) ((rd t47.1 (0:Int)).Call)))) J (fun w' h'=>Qi (Yj h' hb6160) ty43 J (X1 hc6163 0 J) J J) D7 ?_)
        refine Wo 15 J ?_
        refine YN S cz5 ty43 J J (eE2 E ?_)
        intro b6165 w6166 E S
        refine QK (Yl ⟨.inr ⟨M6052,Hp.le_refl M6052,(S.pk [1])⟩,?_⟩)
        refine Wo 16 J ?_
        refine Qu S 0 J ty43 J J [vU ((rd (rd a1 ((rd t47.1 (0:Int)).Task)) ((rd t47.1 (0:Int)).Call)).Kind),vI ((rd (rd a1 ((rd t47.1 (0:Int)).Task)) ((rd t47.1 (0:Int)).Call)).Tx),vS ((rd (rd a1 ((rd t47.1 (0:Int)).Task)) ((rd t47.1 (0:Int)).Call)).Key),vS ((rd (rd a1 ((rd t47.1 (0:Int)).Task)) ((rd t47.1 (0:Int)).Call)).End),vS ((rd (rd a1 ((rd t47.1 (0:Int)).Task)) ((rd t47.1 (0:Int)).Call)).Value),vI ((rd (rd a1 ((rd t47.1 (0:Int)).Task)) ((rd t47.1 (0:Int)).Call)).Limit),vU ((rd (rd a1 ((rd t47.1 (0:Int)).Task)) ((rd t47.1 (0:Int)).Call)).Engine)] J J J (Qo (rd (rd a1 ((rd t47.1 (0:Int)).Task)) ((rd t47.1 (0:Int)).Call))) (by as_aux_lemma=>kernel_rfl) J (eE1 E ?_)
        intro w6168 E S
        refine QK (Yl ⟨.inl (by decide),?_⟩)
        refine Wz ?_
        refine tn ?_
        as_aux_lemma =>
        refine wsQ (W_v (.pointer none) (YW J) J ?_)
        cases H
       refine QA (cB hb5992) ?_
       refine YZ ?_
       refine tx (tx (bsm (?_)))
       refine tn ?_
       exact ⟨oi H,agP J,E,S.pk []⟩
    rintro ρ w6169 ⟨rfl,hρ,E,S⟩
    rw [QB hρ]
    have H:=o5990H
    refine tn ?_
    as_aux_lemma =>
    refine wsQ (wmI J (wmI J (waI J (waI J (waI J (wnQ ?_))))))
    refine QT ?_
    obtain rfl:=oi H
    exact ⟨_,_,_,rsA (vs:=[_,_,_]) J,HM,E,S.pk [],⟨J,J⟩⟩
   ·replace H:=elimR H
    refine Y2 fn29 (Zk.con ht5453) (Γ1:=[]) (Γ2:=[_,_,_,_,_,_]) S J J ?_
    rintro _ w6178 M6179 Γ' hM6180 E' S ⟨b6170,A6172,c6173,A6175,c6176,rfl,rfl⟩
    replace HM:=Hp.le_trans HM hM6180
    replace hr1:=SlR.mono hr1 hM6180
    replace E:=E.trans E'
    replace S:St w6178 M6179 F [_,_,_,_,_,_,_,_,_]:=S
    refine wmT J (W_v _ (QR J J) J (W_v _ (QR J J) J (waP J (waI J (wnQ (QH (wsQ (waI J (wnQ ?_)))))))))
    obtain ⟨M7446,hM7447,hf7448,S⟩:=S.row_freeze 3 J
    replace HM:=Hp.le_trans HM hM7447
    replace hr1:=SlR.mono hr1 hM7447
    obtain ⟨M8578,hM8579,hf8580,S⟩:=S.row_freeze 2 J
    replace HM:=Hp.le_trans HM hM8579
    replace hr1:=SlR.mono hr1 hM8579
    replace hf7448:=SlR.mono hf7448 hM8579
    obtain ⟨o10275,o10275h,o10275H⟩:=QO H
    refine Zr (fun ρ w'=>∃ (x10273:Int) (x10274:Int) (Mj:Hp),(x10273,x10274)=o10275∧QV ρ [(11,vI x10273),(12,vI x10274)]∧M8578.le Mj∧Ext w w'∧St w' Mj F []) ?_ ?_
    ·refine Yr (fun n ρ w'=>∃ (x9709:Int) (x9710:Int) (x9711:Int) (x9712:QE) (A9713:Option Addr) (c9714:Nat) (A9716:Option Addr) (c9717:Nat) (Mj:Hp),YF a0 a1 t47 n x9709 x9710 x9711 x9712=some o10275∧QV ρ [(1,.slice A1 a1.length c1),(3,pt b1 0),(11,vI x9709),(12,vI x9710),(13,.slice A5438 t47.1.length c5439),(15,pt b6170 0),(17,vI x9711)]∧M8578.le Mj∧Ext w w'∧St w' Mj F [Rw QD 112 A9713 c9714 x9712.T,B69 b6170 x9712 A9713 c9714 A9716 c9717,B23 b1 a0]∧SlR Qa Mj (.slice A9716 x9712.L.length c9717) x9712.L) k ?_ ?_
     ·exact ⟨t39,(t9.L.length:Int),(0:Int),t5455,A6172,c6173,A6175,c6176,M8578,o10275h,agP J,(Hp.le_refl M8578),E,S.pk [1,0,6],hf8580⟩
     ·intro n
      rintro ρ w10276 ⟨x9709,x9710,x9711,x9712,A9713,c9714,A9716,c9717,M10277,H,hρ,hM10278,E,S,hs9718⟩
      rw [QB hρ]
      replace HM:=Hp.le_trans HM hM10278
      replace hr1:=SlR.mono hr1 hM10278
      replace hf7448:=SlR.mono hf7448 hM10278
      cases n with
      | zero=>cases H
      | succ k =>
       rw [YF.eq_2] at H
       refine QH (wsQ (wmI J (wmL J (W_v _ (Qm (n:=t47.1.length) Tryz.underlying70 J) J (wiB J J (wnQ ?_))))))
       rcases Q3 H with ⟨hb10279,H⟩ | ⟨hb10279,H⟩
       ·refine QC (cB hb10279) ?_
        refine QX (tn (QH ?_))
        obtain ⟨o10559,o10559h,o10559H⟩:=QO H
        refine Yc (fun ρ w'=>∃ (x10550:Int) (x10551:Int) (x10552:QE) (A10553:Option Addr) (c10554:Nat) (A10556:Option Addr) (c10557:Nat) (Mj:Hp),(x10550,x10551,x10552)=o10559∧QV ρ [(1,.slice A1 a1.length c1),(3,pt b1 0),(11,vI x10550),(12,vI x10551),(13,.slice A5438 t47.1.length c5439),(15,pt b6170 0),(17,vI x9711)]∧M10277.le Mj∧Ext w w'∧St w' Mj F [Rw QD 112 A10553 c10554 x10552.T,B69 b6170 x10552 A10553 c10554 A10556 c10557,B23 b1 a0]∧SlR Qa Mj (.slice A10556 x10552.L.length c10557) x10552.L) ?_ ?_
        ·as_aux_lemma =>
          clear o10559H
          have H:=o10559h
          have LE10560:=Hp.le_refl M10277
          refine ZW ?_
          refine QH ?_
          refine rgA S [0,1,2] [_,_,_] 16 mixed J (eE1 E ?_)
          intro w10617 E S D8
          refine tz0 0 J D8 (xmL J) (tz0 1 J D8 (xmL J) (tz0 2 J D8 (xmI J) ?_))
          obtain ⟨⟨p10619,p10620⟩,H⟩:=Z8 H
          obtain ⟨b10621,o10622,cs10623,_,_,ee10628,hb10624,vs10625,hR10626,hc10627⟩:=SlW.at' hf7448 p10619 p10620
          obtain ⟨v10632,hs10631,rfl⟩:=hR10626
          obtain ⟨A10629,c10630,rfl,_⟩:=hs10631.form
          refine tz0 3 J D8 (QS Tryz.underlying70 ty74 (slA ee10628) J p10619 p10620) (tz0 4 J D8 (xfA Tryz.underlying74 ty3 J) (tz1 5 J D8 (fun w' h'=>Z0 (Yj h' hb10624) ty3 J (hc10627 0 _ J)) ?_))
          obtain ⟨⟨p10633,p10634⟩,H⟩:=Z8 H
          obtain ⟨b10635,o10636,cs10637,_,_,ee10642,hb10638,vs10639,hR10640,hc10641⟩:=SlW.at' hr1 p10633 p10634
          obtain ⟨v10646,hs10645,rfl⟩:=hR10640
          obtain ⟨A10643,c10644,rfl,_⟩:=hs10645.form
          have hs10645z:=hs10645
          refine tz0 6 J D8 (QS Tryz.underlying24 ty41 (slA ee10642) J p10633 p10634) (tz1 7 J D8 (fun w' h'=>Z0 (Yj h' hb10638) ty41 J (hc10641 0 _ J)) (tz0 8 J D8 (xmL J) (tz0 9 J D8 (xmI J) ?_)))
          obtain ⟨⟨p10647,p10648⟩,H⟩:=Z8 H
          obtain ⟨b10649,o10650,cs10651,_,_,ee10656,hb10652,vs10653,hR10654,hc10655⟩:=SlW.at' hf7448 p10647 p10648
          obtain ⟨v10660,hs10659,rfl⟩:=hR10654
          obtain ⟨A10657,c10658,rfl,_⟩:=hs10659.form
          refine tz0 10 J D8 (QS Tryz.underlying70 ty74 (slA ee10656) J p10647 p10648) (tz0 11 J D8 (xfA Tryz.underlying74 ty3 J) (tz1 12 J D8 (fun w' h'=>Z0 (Yj h' hb10652) ty3 J (hc10655 1 _ J)) ?_))
          obtain ⟨⟨p10661,p10662⟩,H⟩:=Z8 H
          obtain ⟨b10663,o10664,cs10665,_,_,ee10670,hb10666,vs10667,hR10668,hc10669⟩:=SlW.at' hs10645z p10661 p10662
          obtain rfl:vs10667=_:=hR10668
          refine tz0 13 J D8 (QS Tryz.underlying41 ty43 (slA ee10670) J p10661 p10662) (Wt 14 J J J (.agg (Qo (rd (rd a1 ((rd t47.1 x9711).Task)) ((rd t47.1 x9711).Call)))) J (fun w' h'=>Qi (Yj h' hb10666) ty43 J (X1 hc10669 0 J) J J) D8 ?_)
          refine Wo 15 J ?_
          refine YN S cz5 ty43 J J (eE2 E ?_)
          intro b10671 w10672 E S
          refine QK (Yl ⟨.inr ⟨M10277,Hp.le_refl M10277,(S.pk [1,2,3])⟩,?_⟩)
          refine Wo 16 J ?_
          refine Qu S 0 J ty43 J J [vU ((rd (rd a1 ((rd t47.1 x9711).Task)) ((rd t47.1 x9711).Call)).Kind),vI ((rd (rd a1 ((rd t47.1 x9711).Task)) ((rd t47.1 x9711).Call)).Tx),vS ((rd (rd a1 ((rd t47.1 x9711).Task)) ((rd t47.1 x9711).Call)).Key),vS ((rd (rd a1 ((rd t47.1 x9711).Task)) ((rd t47.1 x9711).Call)).End),vS ((rd (rd a1 ((rd t47.1 x9711).Task)) ((rd t47.1 x9711).Call)).Value),vI ((rd (rd a1 ((rd t47.1 x9711).Task)) ((rd t47.1 x9711).Call)).Limit),vU ((rd (rd a1 ((rd t47.1 x9711).Task)) ((rd t47.1 x9711).Call)).Engine)] J J J (Qo (rd (rd a1 ((rd t47.1 x9711).Task)) ((rd t47.1 x9711).Call))) (by as_aux_lemma=>kernel_rfl) J (eE1 E ?_)
          intro w10674 E S
          refine QK (Yl ⟨.inl (by decide),?_⟩)
          refine Wz ?_
          refine tn ?_
          as_aux_lemma =>
          refine wsQ (wmP J ?_)
          obtain ⟨t10675,ht10676,H⟩:=QO H
          replace S:St w10674 M10277 F [_,_,_,_]:=S.pk [2,1,0,3]
          refine Zy fn27 (Qj.con ht10676 hs9718) (Γ1:=[_,_]) (Γ2:=[_,_]) S J J (by rintro _ _ _ ⟨rfl,rfl⟩;exact (QP Zs (QP (YX (fun _ _ _ _ h=>h)) YE))) (eE4 E ?_)
          rintro _ w10677 _ Γ' E S ⟨rfl,rfl⟩
          replace S:St w10677 M10277 F [_,_,_,_]:=S
          refine waI J (wnQ (QH ?_))
          refine VX (S:=fun w'=>∃ Mx,M10277.le Mx∧St w' Mx F [B43 b10671 (rd (rd a1 ((rd t47.1 x9711).Task)) ((rd t47.1 x9711).Call)),B23 b1 a0]) (L:=8) mixed ?_
          intro w10708 hw10709 E'
          replace S:=S.heap hw10709
          replace E:=E.trans E'
          have hf7448z:=hf7448
          have D9:∃ Mx,Hp.le M10277 Mx∧St _ Mx F [_,_]:=⟨_,Hp.le_refl _,S.pk [2,3]⟩
          refine tz0 0 J D9 (xmP J) (tz0 1 J D9 (xmL J) (tz0 2 J D9 (xmI J) ?_))
          obtain ⟨⟨p10710,p10711⟩,H⟩:=Z8 H
          obtain ⟨b10712,o10713,cs10714,_,_,ee10719,hb10715,vs10716,hR10717,hc10718⟩:=SlW.at' hf7448z p10710 p10711
          obtain ⟨v10723,hs10722,rfl⟩:=hR10717
          obtain ⟨A10720,c10721,rfl,_⟩:=hs10722.form
          refine tz0 3 J D9 (QS Tryz.underlying70 ty74 (slA ee10719) J p10710 p10711) (tz0 4 J D9 (xfA Tryz.underlying74 ty3 J) (tz1 5 J D9 (fun w' h'=>Z0 (Yj h' hb10715) ty3 J (hc10718 0 _ J)) (Wt 6 J J J (.agg (Qo (rd (rd a1 ((rd t47.1 x9711).Task)) ((rd t47.1 x9711).Call)))) J (fun w' h'=>Qi (Y1 h' 0 J) ty43 J (QG J) J J) D9 ?_)))
          refine Wo 7 J ?_
          obtain ⟨t10724,ht10725,H⟩:=QO H
          refine Y2 fn30 (Q5.con ht10725 hs9718) (Γ1:=[_,_]) (Γ2:=[_,_]) S J J ?_
          rintro _ w10735 M10736 Γ' hM10737 E' S ⟨A10726,c10727,A10729,c10730,A10732,c10733,rfl,hs10734,rfl⟩
          replace HM:=Hp.le_trans HM hM10737
          replace LE10560:=Hp.le_trans LE10560 hM10737
          replace hf7448:=SlR.mono hf7448 hM10737
          replace E:=E.trans E'
          replace S:St w10735 M10736 F [_,_,_,_,_]:=S
          refine QK (Yl ⟨.inr ⟨M10736,LE10560,(S.pk [3,4])⟩,?_⟩)
          refine Wz ?_
          refine tn ?_
          as_aux_lemma =>
          refine wsQ (wmI J (wmP J ?_))
          obtain ⟨t10738,ht10739,H⟩:=QO H
          replace S:St w10735 M10736 F [_,_,_,_,_]:=S.pk [1,2,0,3,4]
          refine Zy fn27 (Qj.con ht10739 hs10734) (Γ1:=[_,_]) (Γ2:=[_,_,_]) S J J (by rintro _ _ _ ⟨rfl,rfl⟩;exact (QP Zs (QP (YX (fun _ _ _ _ h=>h)) YE))) (eE4 E ?_)
          rintro _ w10740 _ Γ' E S ⟨rfl,rfl⟩
          replace S:St w10740 M10736 F [_,_,_,_,_]:=S
          refine wiI J J (W_v (vI (imax (0:Int) (IntKind.i64.wrap (t10675-t10738)))) (Un J J) J (waI J (wnQ (QH (wsQ (wmL J (wmI J ?_)))))))
          obtain ⟨⟨p10743,p10744⟩,H⟩:=Z8 H
          obtain ⟨b10745,o10746,cs10747,_,_,ee10752,hb10748,vs10749,hR10750,hc10751⟩:=SlW.at' hf7448 p10743 p10744
          obtain ⟨v10756,hs10755,rfl⟩:=hR10750
          obtain ⟨A10753,c10754,rfl,_⟩:=hs10755.form
          refine W_v _ (QS Tryz.underlying70 ty74 (slA ee10752) J p10743 p10744) J (wfA Tryz.underlying74 ty3 J (W_v _ (Z0 (S.frz hb10748) ty3 J (hc10751 7 _ J)) J (wiB J J (wnQ ?_))))
          rcases Q3 H with ⟨hb10757,H⟩ | ⟨hb10757,H⟩
          ·refine QC (cB hb10757) ?_
           refine YZ ?_
           refine tx (bsm (?_))
           refine tn ?_
           exact ⟨x9709,x9710,t10724.2,A10729,c10730,A10732,c10733,M10736,oi H,agP J,LE10560,E,S.pk [1,0,4],hs10734⟩
          refine QA (cB hb10757) (QX (tn (wsQ (wfA Tryz.underlying43 ty5 J (wlA S 3 ty5 J (wnQ ?_))))))
          obtain ⟨o10794,o10794h,o10794H⟩:=QO H
          refine Yc (fun ρ w'=>∃ (x10792:Int) (x10793:Int),(x10792,x10793)=o10794∧QV ρ [(1,.slice A1 a1.length c1),(3,pt b1 0),(11,vI x10792),(12,vI x10793),(13,.slice A5438 t47.1.length c5439),(15,pt b6170 0),(17,vI x9711)]∧Ext w w'∧St w' M10736 F [B69 b6170 t10724.2 A10729 c10730 A10732 c10733,Rw QD 112 A10729 c10730 t10724.2.T,B23 b1 a0]) ?_ ?_
          ·as_aux_lemma =>
            clear o10794H
            have H:=o10794h
            refine ZW ?_
            refine QH (wsQ (wiB J J (waB J (wnQ ?_))))
            obtain ⟨o10798,o10798h,o10798H⟩:=QO H
            refine Yc (fun ρ w'=>∃ (x10797:Bool),(x10797)=o10798∧QV ρ [(1,.slice A1 a1.length c1),(3,pt b1 0),(11,vI x9709),(12,vI x9710),(13,.slice A5438 t47.1.length c5439),(15,pt b6170 0),(17,vI x9711),(20,vI (imax (0:Int) (IntKind.i64.wrap (t10675-t10738)))),(93,vU ((rd (rd a1 ((rd t47.1 x9711).Task)) ((rd t47.1 x9711).Call)).Kind)),(100,.bool x10797)]∧Ext w w'∧St w' M10736 F [B69 b6170 t10724.2 A10729 c10730 A10732 c10733,Rw QD 112 A10729 c10730 t10724.2.T,B23 b1 a0]) ?_ ?_
            ·clear o10798H
             have H:=o10798h
             rcases Q3 H with ⟨hb10799,H⟩ | ⟨hb10799,H⟩
             ·refine QC (cB hb10799) ?_
              refine QX (tn ?_)
              exact ⟨((rd (rd a1 ((rd t47.1 x9711).Task)) ((rd t47.1 x9711).Call)).Kind==(3:Int)),oi H,agP J,E,S.pk [0,1,4]⟩
             refine QA (cB hb10799) (QJ (wiB J J (waB J (wnQ ?_))))
             exact ⟨((rd (rd a1 ((rd t47.1 x9711).Task)) ((rd t47.1 x9711).Call)).Kind==(4:Int)),oi H,agP J,E,S.pk [0,1,4]⟩
            as_aux_lemma =>
            rintro ρ w10800 ⟨x10797,rfl,hρ,E,S⟩
            rw [QB hρ]
            have H:=o10798H
            refine tn ?_
            obtain ⟨o10819,o10819h,o10819H⟩:=QO H
            refine Yc (fun ρ w'=>∃ (x10817:Int) (x10818:Int),(x10817,x10818)=o10819∧QV ρ [(1,.slice A1 a1.length c1),(3,pt b1 0),(11,vI x10817),(12,vI x10818),(13,.slice A5438 t47.1.length c5439),(15,pt b6170 0),(17,vI x9711)]∧Ext w w'∧St w' M10736 F [B69 b6170 t10724.2 A10729 c10730 A10732 c10733,Rw QD 112 A10729 c10730 t10724.2.T,B23 b1 a0]) ?_ ?_
            ·as_aux_lemma =>
              clear o10819H
              have H:=o10819h
              rcases Q3 H with ⟨hb10820,H⟩ | ⟨hb10820,H⟩
              ·refine QC (cB hb10820) ?_
               refine wsQ (wmI J (wiI J J (waI J (wnQ (QJ (wmI J (wiI J J (waI J (wnQ ?_)))))))))
               exact ⟨(IntKind.i64.wrap (x9709+(2:Int))),(IntKind.i64.wrap (x9710+(1:Int))),oi H,agP J,E,S.pk [0,1,2]⟩
              refine QA (cB hb10820) (wsQ (wiB J J (waB J (wnQ ?_))))
              obtain ⟨o10825,o10825h,o10825H⟩:=QO H
              refine Yc (fun ρ w'=>∃ (x10823:Int) (x10824:Int),(x10823,x10824)=o10825∧QV ρ [(1,.slice A1 a1.length c1),(3,pt b1 0),(11,vI x10823),(12,vI x10824),(13,.slice A5438 t47.1.length c5439),(15,pt b6170 0),(17,vI x9711)]∧Ext w w'∧St w' M10736 F [B69 b6170 t10724.2 A10729 c10730 A10732 c10733,Rw QD 112 A10729 c10730 t10724.2.T,B23 b1 a0]) ?_ ?_
              ·clear o10825H
               have H:=o10825h
               rcases Q3 H with ⟨hb10826,H⟩ | ⟨hb10826,H⟩
               ·refine QC (cB hb10826) ?_
                refine QJ (wmI J (wfA Tryz.underlying23 ty3 J (wlA S 2 ty3 J (wiI J J (wiI J J (waI J (wnQ ?_)))))))
                exact ⟨(IntKind.i64.wrap ((IntKind.i64.wrap (x9709+a0.Depth))+(1:Int))),x9710,oi H,agP J,E,S.pk [0,1,2]⟩
               refine QA (cB hb10826) (wsQ (wmI J (wmI J (wiI J J (waI J (wnQ (QJ (wmI J (wmI J (wiI J J (waI J (wnQ ?_))))))))))))
               exact ⟨(IntKind.i64.wrap (x9709+(imax (0:Int) (IntKind.i64.wrap (t10675-t10738))))),(IntKind.i64.wrap (x9710+(imax (0:Int) (IntKind.i64.wrap (t10675-t10738))))),oi H,agP J,E,S.pk [0,1,2]⟩
              rintro ρ w10827 ⟨x10823,x10824,rfl,hρ,E,S⟩
              rw [QB hρ]
              have H:=o10825H
              refine tn ?_
              exact ⟨x10823,x10824,oi H,agP J,E,S.pk [0,1,2]⟩
            rintro ρ w10828 ⟨x10817,x10818,rfl,hρ,E,S⟩
            rw [QB hρ]
            have H:=o10819H
            refine bn (tn ?_)
            exact ⟨x10817,x10818,oi H,agP J,E,S.pk [0,1,2]⟩
          rintro ρ w10829 ⟨x10792,x10793,rfl,hρ,E,S⟩
          rw [QB hρ]
          have H:=o10794H
          refine bn (tn ?_)
          exact ⟨x10792,x10793,t10724.2,A10729,c10730,A10732,c10733,M10736,oi H,agP J,LE10560,E,S.pk [1,0,2],hs10734⟩
        rintro ρ w10830 ⟨x10550,x10551,x10552,A10553,c10554,A10556,c10557,M10831,rfl,hρ,hM10832,E,S,hs10558⟩
        rw [QB hρ]
        replace HM:=Hp.le_trans HM hM10832
        replace hM10278:=Hp.le_trans hM10278 hM10832
        have H:=o10559H
        refine tn (QJ (wmI J (wiI J J (waI J (wnQ ?_)))))
        exact ⟨k,Nat.lt_succ_self k,⟨x10550,x10551,(IntKind.i64.wrap (x9711+(1:Int))),x10552,A10553,c10554,A10556,c10557,M10831,H,agP J,hM10278,E,S.pk [0,1,2],hs10558⟩⟩
       refine QA (cB hb10279) ?_
       refine YZ ?_
       refine tx (tx (bsm (?_)))
       refine tn ?_
       exact ⟨x9709,x9710,M10277,oi H,agP J,hM10278,E,S.pk []⟩
    rintro ρ w10833 ⟨x10273,x10274,M10834,rfl,hρ,hM10835,E,S⟩
    rw [QB hρ]
    replace HM:=Hp.le_trans HM hM10835
    have H:=o10275H
    refine tn ?_
    as_aux_lemma =>
    refine wsQ (wmI J (wmI J (waI J (waI J (waI J (wnQ ?_))))))
    refine QT ?_
    obtain rfl:=oi H
    exact ⟨_,_,_,rsA (vs:=[_,_,_]) J,HM,E,S.pk [],⟨J,J⟩⟩
def Ye (k:Nat) (a0:QI) (a1:Int):Option (Int) :=
 (Option.bind (Yf k a0) (fun t4=>(if (t4.1==(0:Int))=true then some (0:Int) else (if a0.Fan≠0 then (if (a1==(1:Int))=true then some (3:Int) else (Option.bind (α:=Bool) (if (a1==(2:Int))=true then some ((a1==(2:Int))) else (Option.bind (α:=Bool) (if (a1==(3:Int))=true then some ((a1==(3:Int))) else some ((a1==(4:Int)))) (fun x29=>some (x29)))) (fun x24=>(if x24=true then some (IntKind.i64.wrap ((IntKind.i64.wrap ((IntKind.i64.wrap ((IntKind.i64.wrap ((4:Int)*(IntKind.i64.wrap ((IntKind.i64.wrap ((IntKind.i64.wrap (Int.tdiv (IntKind.i64.wrap (t4.2-(1:Int))) a0.Fan))+(1:Int)))+(2:Int)))))+(IntKind.i64.wrap ((IntKind.i64.wrap (Int.tdiv (IntKind.i64.wrap (t4.2-(1:Int))) a0.Fan))+(1:Int)))))+(16:Int)))+(IntKind.i64.wrap ((8:Int)*(IntKind.i64.wrap ((IntKind.i64.wrap (t4.1+(IntKind.i64.wrap ((2:Int)*a0.Tasks))))+(1:Int))))))) else (Option.bind (α:=Bool) (if (a1==(6:Int))=true then some ((a1==(6:Int))) else some ((a1==(7:Int)))) (fun x37=>(if x37=true then some (IntKind.i64.wrap ((IntKind.i64.wrap ((4:Int)+(IntKind.i64.wrap (a0.Keys*(IntKind.i64.wrap ((IntKind.i64.wrap ((IntKind.i64.wrap ((4:Int)*(IntKind.i64.wrap ((IntKind.i64.wrap ((IntKind.i64.wrap (Int.tdiv (IntKind.i64.wrap (t4.2-(1:Int))) a0.Fan))+(1:Int)))+(2:Int)))))+(IntKind.i64.wrap ((IntKind.i64.wrap (Int.tdiv (IntKind.i64.wrap (t4.2-(1:Int))) a0.Fan))+(1:Int)))))+(16:Int)))))))+(IntKind.i64.wrap ((8:Int)*(IntKind.i64.wrap ((IntKind.i64.wrap (t4.1+(IntKind.i64.wrap ((2:Int)*a0.Tasks))))+(1:Int))))))) else (Option.bind (α:=Bool) (if (a1==(5:Int))=true then some ((a1==(5:Int))) else (Option.bind (α:=Bool) (if (a1==(8:Int))=true then some ((a1==(8:Int))) else some ((a1==(9:Int)))) (fun x61=>some (x61)))) (fun x56=>(if x56=true then some (IntKind.i64.wrap ((IntKind.i64.wrap ((6:Int)+(IntKind.i64.wrap ((IntKind.i64.wrap ((IntKind.i64.wrap (t4.2+a0.Tasks))+(1:Int)))*(IntKind.i64.wrap ((IntKind.i64.wrap ((IntKind.i64.wrap ((4:Int)*(IntKind.i64.wrap ((IntKind.i64.wrap ((IntKind.i64.wrap (Int.tdiv (IntKind.i64.wrap (t4.2-(1:Int))) a0.Fan))+(1:Int)))+(2:Int)))))+(IntKind.i64.wrap ((IntKind.i64.wrap (Int.tdiv (IntKind.i64.wrap (t4.2-(1:Int))) a0.Fan))+(1:Int)))))+(16:Int)))))))+(IntKind.i64.wrap ((8:Int)*(IntKind.i64.wrap ((IntKind.i64.wrap (t4.1+(IntKind.i64.wrap ((2:Int)*a0.Tasks))))+(1:Int))))))) else some (2:Int))))))))))) else none))))
theorem Ye.mono {k a0 a1}: OLe (Ye k a0 a1) (Ye (k+1) a0 a1):=by
 unfold Ye
 have m1:=@Yf.mono
 exact mo
theorem Ye.con {k M} {a0:QI} {a1:Int} {r:Int} (h:Ye k a0 a1=some r): Con Tryz.prog 11 #[.agg (QF a0),vU a1] M [] (fun v M' Γ'=>v=vI r∧Γ'=[]):=by
 refine cwA Tryz.func11 J Tryz.ntmps11 Tryz.results11 J h ?_
 intro w F rn S hrn E HM H
 unfold Ye at H
 refine wsQ ?_
 refine Yz S (QF a0) J J J (eE2 E ?_)
 intro b1 w2 E S
 refine waI J (wnQ (wsQ (W_v (.agg (QF a0)) (Qi (S.blk 0 J) ty23 J (QG J) J J) J ?_)))
 obtain ⟨t4,ht5,H⟩:=QO H
 refine ZR fn7 (Yf.con ht5) S J J flN (eE4 E ?_)
 rintro _ w6 _ Γ' E S ⟨rfl,rfl⟩
 refine wmT J (W_v _ (QR J J) J (W_v _ (QR J J) J (waI J (waI J (wnQ (QH (wsQ (wmI J (wiB J J (wnQ ?_))))))))))
 rcases Q3 H with ⟨hb7,H⟩ | ⟨hb7,H⟩
 ·refine QC (cB hb7) ?_
  refine wsQ (waI J (wnQ ?_))
  refine QT ?_
  refine tr (?_)
  obtain rfl:=oi H
  exact ⟨_,_,_,rsA (vs:=[_]) J,HM,E,S.pk [],⟨J,J⟩⟩
 refine QA (cB hb7) (QX (tn (wsQ (wmI J (wiI J J (wfA Tryz.underlying23 ty3 J (wlA S 0 ty3 J ?_)))))))
 obtain ⟨p8,H⟩:=Z8 H
 refine W_v (vI (IntKind.i64.wrap (Int.tdiv (IntKind.i64.wrap (t4.2-(1:Int))) a0.Fan))) (QAL J J p8) J (wiI J J (waI J (wnQ ?_)))
 as_aux_lemma =>
 refine wsQ (wmI J (wiI J J (wiI J J (wmI J (wiI J J (wiI J J (waI J (wnQ (wsQ (wmI J (wfA Tryz.underlying23 ty3 J (wlA S 0 ty3 J ?_))))))))))))
 refine wiI J J (wiI J J (wiI J J (wiI J J (waI J (wnQ (QH (wsQ (wmI J (wnQ ?_)))))))))
 refine ZW ?_
 refine wsQ (wiB J J (waB J (wnQ ?_)))
 rcases Q3 H with ⟨hb9,H⟩ | ⟨hb9,H⟩
 ·refine QC (cB hb9) ?_
  refine wsQ (waI J (wnQ ?_))
  refine QT ?_
  refine br (tr (?_))
  obtain rfl:=oi H
  exact ⟨_,_,_,rsA (vs:=[_]) J,HM,E,S.pk [],⟨J,J⟩⟩
 refine QA (cB hb9) ?_
 as_aux_lemma =>
 refine QH (wsQ (wiB J J (waB J (wnQ ?_))))
 obtain ⟨o25,o25h,o25H⟩:=QO H
 refine Yc (fun ρ w'=>∃ (x24:Bool),(x24)=o25∧QV ρ [(2,pt b1 0),(6,vI t4.2),(8,vI (IntKind.i64.wrap ((IntKind.i64.wrap ((IntKind.i64.wrap ((4:Int)*(IntKind.i64.wrap ((IntKind.i64.wrap ((IntKind.i64.wrap (Int.tdiv (IntKind.i64.wrap (t4.2-(1:Int))) a0.Fan))+(1:Int)))+(2:Int)))))+(IntKind.i64.wrap ((IntKind.i64.wrap (Int.tdiv (IntKind.i64.wrap (t4.2-(1:Int))) a0.Fan))+(1:Int)))))+(16:Int)))),(9,vI (IntKind.i64.wrap ((8:Int)*(IntKind.i64.wrap ((IntKind.i64.wrap (t4.1+(IntKind.i64.wrap ((2:Int)*a0.Tasks))))+(1:Int)))))),(36,vU a1),(39,.bool x24)]∧Ext w w'∧St w' M F [B23 b1 a0]) ?_ ?_
 ·clear o25H
  have H:=o25h
  rcases Q3 H with ⟨hb26,H⟩ | ⟨hb26,H⟩
  ·refine QC (cB hb26) ?_
   refine QX (tn ?_)
   exact ⟨(a1==(2:Int)),oi H,agP J,E,S.pk [0]⟩
  refine QA (cB hb26) (wsQ (wiB J J (waB J (wnQ ?_))))
  obtain ⟨o30,o30h,o30H⟩:=QO H
  refine Yc (fun ρ w'=>∃ (x29:Bool),(x29)=o30∧QV ρ [(2,pt b1 0),(6,vI t4.2),(8,vI (IntKind.i64.wrap ((IntKind.i64.wrap ((IntKind.i64.wrap ((4:Int)*(IntKind.i64.wrap ((IntKind.i64.wrap ((IntKind.i64.wrap (Int.tdiv (IntKind.i64.wrap (t4.2-(1:Int))) a0.Fan))+(1:Int)))+(2:Int)))))+(IntKind.i64.wrap ((IntKind.i64.wrap (Int.tdiv (IntKind.i64.wrap (t4.2-(1:Int))) a0.Fan))+(1:Int)))))+(16:Int)))),(9,vI (IntKind.i64.wrap ((8:Int)*(IntKind.i64.wrap ((IntKind.i64.wrap (t4.1+(IntKind.i64.wrap ((2:Int)*a0.Tasks))))+(1:Int)))))),(36,vU a1),(39,.bool x29)]∧Ext w w'∧St w' M F [B23 b1 a0]) ?_ ?_
  ·clear o30H
   have H:=o30h
   rcases Q3 H with ⟨hb31,H⟩ | ⟨hb31,H⟩
   ·refine QC (cB hb31) ?_
    refine QX (tn ?_)
    exact ⟨(a1==(3:Int)),oi H,agP J,E,S.pk [0]⟩
   refine QA (cB hb31) (QJ (wiB J J (waB J (wnQ ?_))))
   exact ⟨(a1==(4:Int)),oi H,agP J,E,S.pk [0]⟩
  rintro ρ w32 ⟨x29,rfl,hρ,E,S⟩
  rw [QB hρ]
  have H:=o30H
  refine tn ?_
  exact ⟨x29,oi H,agP J,E,S.pk [0]⟩
 as_aux_lemma =>
 rintro ρ w33 ⟨x24,rfl,hρ,E,S⟩
 rw [QB hρ]
 have H:=o25H
 refine tn ?_
 rcases Q3 H with ⟨hb34,H⟩ | ⟨hb34,H⟩
 ·refine QC (cB hb34) ?_
  refine wsQ (wmI J (wmI J (wiI J J (waI J (wnQ ?_)))))
  refine QT ?_
  refine br (tr (?_))
  obtain rfl:=oi H
  exact ⟨_,_,_,rsA (vs:=[_]) J,HM,E,S.pk [],⟨J,J⟩⟩
 refine QA (cB hb34) (QH (wsQ (wiB J J (waB J (wnQ ?_)))))
 obtain ⟨o38,o38h,o38H⟩:=QO H
 refine Yc (fun ρ w'=>∃ (x37:Bool),(x37)=o38∧QV ρ [(2,pt b1 0),(6,vI t4.2),(8,vI (IntKind.i64.wrap ((IntKind.i64.wrap ((IntKind.i64.wrap ((4:Int)*(IntKind.i64.wrap ((IntKind.i64.wrap ((IntKind.i64.wrap (Int.tdiv (IntKind.i64.wrap (t4.2-(1:Int))) a0.Fan))+(1:Int)))+(2:Int)))))+(IntKind.i64.wrap ((IntKind.i64.wrap (Int.tdiv (IntKind.i64.wrap (t4.2-(1:Int))) a0.Fan))+(1:Int)))))+(16:Int)))),(9,vI (IntKind.i64.wrap ((8:Int)*(IntKind.i64.wrap ((IntKind.i64.wrap (t4.1+(IntKind.i64.wrap ((2:Int)*a0.Tasks))))+(1:Int)))))),(36,vU a1),(46,.bool x37)]∧Ext w w'∧St w' M F [B23 b1 a0]) ?_ ?_
 ·clear o38H
  have H:=o38h
  rcases Q3 H with ⟨hb39,H⟩ | ⟨hb39,H⟩
  ·refine QC (cB hb39) ?_
   refine QX (tn ?_)
   exact ⟨(a1==(6:Int)),oi H,agP J,E,S.pk [0]⟩
  refine QA (cB hb39) (QJ (wiB J J (waB J (wnQ ?_))))
  exact ⟨(a1==(7:Int)),oi H,agP J,E,S.pk [0]⟩
 as_aux_lemma =>
 rintro ρ w40 ⟨x37,rfl,hρ,E,S⟩
 rw [QB hρ]
 have H:=o38H
 refine tn ?_
 rcases Q3 H with ⟨hb41,H⟩ | ⟨hb41,H⟩
 ·refine QC (cB hb41) ?_
  refine wsQ (wfA Tryz.underlying23 ty3 J (wlA S 0 ty3 J (wmI J (wiI J J (wiI J J (wmI J (wiI J J (waI J (wnQ ?_)))))))))
  refine QT ?_
  refine br (tr (?_))
  obtain rfl:=oi H
  exact ⟨_,_,_,rsA (vs:=[_]) J,HM,E,S.pk [],⟨J,J⟩⟩
 refine QA (cB hb41) (QH (wsQ (wiB J J (waB J (wnQ ?_)))))
 obtain ⟨o57,o57h,o57H⟩:=QO H
 refine Yc (fun ρ w'=>∃ (x56:Bool),(x56)=o57∧QV ρ [(2,pt b1 0),(6,vI t4.2),(8,vI (IntKind.i64.wrap ((IntKind.i64.wrap ((IntKind.i64.wrap ((4:Int)*(IntKind.i64.wrap ((IntKind.i64.wrap ((IntKind.i64.wrap (Int.tdiv (IntKind.i64.wrap (t4.2-(1:Int))) a0.Fan))+(1:Int)))+(2:Int)))))+(IntKind.i64.wrap ((IntKind.i64.wrap (Int.tdiv (IntKind.i64.wrap (t4.2-(1:Int))) a0.Fan))+(1:Int)))))+(16:Int)))),(9,vI (IntKind.i64.wrap ((8:Int)*(IntKind.i64.wrap ((IntKind.i64.wrap (t4.1+(IntKind.i64.wrap ((2:Int)*a0.Tasks))))+(1:Int)))))),(56,.bool x56)]∧Ext w w'∧St w' M F [B23 b1 a0]) ?_ ?_
 ·clear o57H
  have H:=o57h
  rcases Q3 H with ⟨hb58,H⟩ | ⟨hb58,H⟩
  ·refine QC (cB hb58) ?_
   refine QX (tn ?_)
   exact ⟨(a1==(5:Int)),oi H,agP J,E,S.pk [0]⟩
  refine QA (cB hb58) (wsQ (wiB J J (waB J (wnQ ?_))))
  obtain ⟨o62,o62h,o62H⟩:=QO H
  refine Yc (fun ρ w'=>∃ (x61:Bool),(x61)=o62∧QV ρ [(2,pt b1 0),(6,vI t4.2),(8,vI (IntKind.i64.wrap ((IntKind.i64.wrap ((IntKind.i64.wrap ((4:Int)*(IntKind.i64.wrap ((IntKind.i64.wrap ((IntKind.i64.wrap (Int.tdiv (IntKind.i64.wrap (t4.2-(1:Int))) a0.Fan))+(1:Int)))+(2:Int)))))+(IntKind.i64.wrap ((IntKind.i64.wrap (Int.tdiv (IntKind.i64.wrap (t4.2-(1:Int))) a0.Fan))+(1:Int)))))+(16:Int)))),(9,vI (IntKind.i64.wrap ((8:Int)*(IntKind.i64.wrap ((IntKind.i64.wrap (t4.1+(IntKind.i64.wrap ((2:Int)*a0.Tasks))))+(1:Int)))))),(56,.bool x61)]∧Ext w w'∧St w' M F [B23 b1 a0]) ?_ ?_
  ·clear o62H
   have H:=o62h
   rcases Q3 H with ⟨hb63,H⟩ | ⟨hb63,H⟩
   ·refine QC (cB hb63) ?_
    refine QX (tn ?_)
    exact ⟨(a1==(8:Int)),oi H,agP J,E,S.pk [0]⟩
   refine QA (cB hb63) (QJ (wiB J J (waB J (wnQ ?_))))
   exact ⟨(a1==(9:Int)),oi H,agP J,E,S.pk [0]⟩
  rintro ρ w64 ⟨x61,rfl,hρ,E,S⟩
  rw [QB hρ]
  have H:=o62H
  refine tn ?_
  exact ⟨x61,oi H,agP J,E,S.pk [0]⟩
 rintro ρ w65 ⟨x56,rfl,hρ,E,S⟩
 rw [QB hρ]
 have H:=o57H
 refine tn ?_
 rcases Q3 H with ⟨hb66,H⟩ | ⟨hb66,H⟩
 ·refine QC (cB hb66) ?_
  refine wsQ (wmI J (wfA Tryz.underlying23 ty3 J (wlA S 0 ty3 J (wiI J J (wiI J J (wmI J (wiI J J (wiI J J (wmI J (wiI J J (waI J (wnQ ?_))))))))))))
  refine QT ?_
  refine br (tr (?_))
  obtain rfl:=oi H
  exact ⟨_,_,_,rsA (vs:=[_]) J,HM,E,S.pk [],⟨J,J⟩⟩
 refine QA (cB hb66) (QX (bn (tn ?_)))
 as_aux_lemma =>
 refine wsQ (waI J (wnQ ?_))
 refine QT ?_
 obtain rfl:=oi H
 exact ⟨_,_,_,rsA (vs:=[_]) J,HM,E,S.pk [],⟨J,J⟩⟩
def Z9 (a0:QI):Nat→Int→Int→Option ((Int))
 | 0,_,_=>none
 | k+1,x15,x16=>(if (decide (x16<(12:Int)))=true then (Option.bind (Ye k a0 x16) (fun t25=>Z9 a0 k (imax x15 t25) (IntKind.u8.wrap (x16+(1:Int))))) else some (x15))
theorem Z9.mono {a0}: ∀ {kl:Nat} {x0 x1},OLe (Z9 a0 kl x0 x1) (Z9 a0 (kl+1) x0 x1):=by
 intro kl
 induction kl with
 | zero=>intros;exact OLe.none
 | succ kl ih =>
  intros
  rw [Z9.eq_2,Z9.eq_2]
  have m1:=@Ye.mono
  exact mo
def Y6 (k:Nat) (a0:QI):Option (Int) :=
 (Option.bind (Z9 a0 k (0:Int) (0:Int)) (fun x21=>some (IntKind.i64.wrap (a0.Tasks*x21))))
theorem Y6.mono {k a0}: OLe (Y6 k a0) (Y6 (k+1) a0):=by
 unfold Y6
 have m1:=@Z9.mono
 exact mo
theorem Y6.con {k M} {a0:QI} {r:Int} (h:Y6 k a0=some r): Con Tryz.prog 13 #[.agg (QF a0)] M [] (fun v M' Γ'=>v=vI r∧Γ'=[]):=by
 refine cwA Tryz.func13 J Tryz.ntmps13 Tryz.results13 J h ?_
 intro w F rn S hrn E HM H
 unfold Y6 at H
 refine wsQ ?_
 refine Yz S (QF a0) J J J (eE2 E ?_)
 intro b1 w2 E S
 refine waI J (wnQ (wsQ (waI J (wnQ (QH (wsQ (waI J (wnQ ?_))))))))
 obtain ⟨o22,o22h,o22H⟩:=QO H
 refine Zr (fun ρ w'=>∃ (x21:Int),(x21)=o22∧QV ρ [(1,pt b1 0),(3,vI x21)]∧Ext w w'∧St w' M F [B23 b1 a0]) ?_ ?_
 ·refine Yr (fun n ρ w'=>∃ (x15:Int) (x16:Int),Z9 a0 n x15 x16=some o22∧QV ρ [(1,pt b1 0),(3,vI x15),(4,vU x16)]∧Ext w w'∧St w' M F [B23 b1 a0]) k ?_ ?_
  ·exact ⟨(0:Int),(0:Int),o22h,agP J,E,S.pk [0]⟩
  ·intro n
   rintro ρ w23 ⟨x15,x16,H,hρ,E,S⟩
   rw [QB hρ]
   cases n with
   | zero=>cases H
   | succ k =>
    rw [Z9.eq_2] at H
    refine QH (wsQ (wmI J (wiB J J (wnQ ?_))))
    rcases Q3 H with ⟨hb24,H⟩ | ⟨hb24,H⟩
    ·refine QC (cB hb24) ?_
     refine QX (tn (QH ?_))
     refine ZW ?_
     refine QJ (wmI J (W_v (.agg (QF a0)) (Qi (S.blk 0 J) ty23 J (QG J) J J) J (wmI J ?_)))
     obtain ⟨t25,ht26,H⟩:=QO H
     refine ZR fn11 (Ye.con ht26) S J J flN (eE4 E ?_)
     rintro _ w27 _ Γ' E S ⟨rfl,rfl⟩
     refine W_v (vI (imax x15 t25)) (Un J J) J (waI J (QK (bn (tn (QJ (wmI J (wiI J J (waI J (wnQ ?_)))))))))
     exact ⟨k,Nat.lt_succ_self k,⟨(imax x15 t25),(IntKind.u8.wrap (x16+(1:Int))),H,agP J,E,S.pk [0]⟩⟩
    refine QA (cB hb24) ?_
    refine YZ ?_
    refine tx (tx (bsm (?_)))
    refine tn ?_
    exact ⟨x15,oi H,agP J,E,S.pk [0]⟩
 rintro ρ w28 ⟨x21,rfl,hρ,E,S⟩
 rw [QB hρ]
 have H:=o22H
 refine tn ?_
 as_aux_lemma =>
 refine wsQ (wfA Tryz.underlying23 ty3 J (wlA S 0 ty3 J (wmI J (wiI J J (waI J (wnQ ?_))))))
 refine QT ?_
 obtain rfl:=oi H
 exact ⟨_,_,_,rsA (vs:=[_]) J,HM,E,S.pk [],⟨J,J⟩⟩
def Yx (k:Nat) (a0:QI) (a1:Int) (a2:(List (List QY))) (a3:(List QL)):Option (Bool) :=
 (Option.bind (XQ k a2 a3) (fun t4=>(if t4=true then (Option.bind (YO k ) (fun t8=>some t8)) else (Option.bind (Xm k a0) (fun t11=>(Option.bind (Yf k a0) (fun t14=>(Option.bind (VO k a0 a2 a3) (fun t17=>(Option.bind (XV k a0 a2 a3) (fun t20=>(Option.bind (α:=Bool) (if (((((t11.1==t14.1)&&(t11.2==t14.2))&&(t17.1==t20.1))&&(t17.2.1==t20.2.1))&&(t17.2.2==t20.2.2))=true then (Option.bind (XL k a0 a1) (fun t84=>(Option.bind (Ye k a0 a1) (fun t87=>some ((t84==t87)))))) else some (false)) (fun x82=>(Option.bind (α:=Bool) (if x82=true then (Option.bind (Xo k a0) (fun t100=>(Option.bind (Y6 k a0) (fun t103=>some ((t100==t103)))))) else some (false)) (fun x98=>(Option.bind (α:=Bool) (if x98=true then (Option.bind (YO k ) (fun t113=>some (t113))) else some (false)) (fun x111=>some x111)))))))))))))))))
theorem Yx.mono {k a0 a1 a2 a3}: OLe (Yx k a0 a1 a2 a3) (Yx (k+1) a0 a1 a2 a3):=by
 unfold Yx
 have m1:=@XQ.mono
 have m2:=@YO.mono
 have m3:=@Yf.mono
 have m4:=@XV.mono
 have m5:=@Y6.mono
 have m6:=@Ye.mono
 have m7:=@Xm.mono
 have m8:=@VO.mono
 have m9:=@Xo.mono
 have m10:=@XL.mono
 exact mo
theorem Yx.con (k:Nat) (M:Hp) (a0:QI) (a1:Int) (A2:Option Addr) (c2:Nat) (a2:(List (List QY))) (A3:Option Addr) (c3:Nat) (a3:(List QL)) (r:Bool) (hr2:SlR (rSl Yk) M (.slice A2 a2.length c2) a2) (hr3:SlR Qs M (.slice A3 a3.length c3) a3) (hg0:∃ gt fr,M 0=some (.cells cz1 gt fr)) (hg1:∃ gt fr,M 1=some (.cells cz2 gt fr)) (h:Yx k a0 a1 a2 a3=some r):Con Tryz.prog 3 #[.agg (QF a0),vU a1,.slice A2 a2.length c2,.slice A3 a3.length c3] M [] (fun v M' Γ'=>v=.bool r∧Γ'=[]):=by
 refine cwA Tryz.func3 J Tryz.ntmps3 Tryz.results3 J h ?_
 intro w F rn S hrn E HM H
 unfold Yx at H
 refine wsQ ?_
 refine Yz S (QF a0) J J J (eE2 E ?_)
 intro b1 w2 E S
 refine waB J (wnQ (QH (wsQ (wmL J (wmL J ?_)))))
 obtain ⟨t4,ht5,H⟩:=QO H
 refine ZR fn4 (XQ.con ht5 hr2 hr3) S J J flN (eE4 E ?_)
 rintro _ w6 _ Γ' E S ⟨rfl,rfl⟩
 refine wnQ ?_
 rcases Q3 H with ⟨hb7,H⟩ | ⟨hb7,H⟩
 ·refine QC (cB hb7) ?_
  refine wsQ ?_
  obtain ⟨t8,ht9,H⟩:=QO H
  refine ZR fn5 (YO.con ht9 hg0 hg1) S J J flN (eE4 E ?_)
  rintro _ w10 _ Γ' E S ⟨rfl,rfl⟩
  refine waB J (wnQ ?_)
  refine QT ?_
  refine tr (?_)
  obtain rfl:=oi H
  exact ⟨_,_,_,rsA (vs:=[_]) J,HM,E,S.pk [],⟨J,J⟩⟩
 refine QA (cB hb7) (QX (tn (wsQ (W_v (.agg (QF a0)) (Qi (S.blk 0 J) ty23 J (QG J) J J) J ?_))))
 obtain ⟨t11,ht12,H⟩:=QO H
 refine ZR fn6 (Xm.con ht12) S J J flN (eE4 E ?_)
 rintro _ w13 _ Γ' E S ⟨rfl,rfl⟩
 refine wmT J (W_v _ (QR J J) J (W_v _ (QR J J) J (waI J (waI J (wnQ ?_)))))
 as_aux_lemma =>
 refine wsQ (W_v (.agg (QF a0)) (Qi (S.blk 0 J) ty23 J (QG J) J J) J ?_)
 obtain ⟨t14,ht15,H⟩:=QO H
 refine ZR fn7 (Yf.con ht15) S J J flN (eE4 E ?_)
 rintro _ w16 _ Γ' E S ⟨rfl,rfl⟩
 refine wmT J (W_v _ (QR J J) J (W_v _ (QR J J) J (waI J (waI J (wnQ (wsQ (W_v (.agg (QF a0)) (Qi (S.blk 0 J) ty23 J (QG J) J J) J (wmL J (wmL J ?_)))))))))
 obtain ⟨t17,ht18,H⟩:=QO H
 refine ZR fn8 (VO.con ht18 hr2 hr3 hg0 hg1) S J J flN (eE4 E ?_)
 rintro _ w19 _ Γ' E S ⟨rfl,rfl⟩
 refine wmT J (W_v _ (QR J J) J (W_v _ (QR J J) J (W_v _ (QR J J) J (waI J (waI J (waI J (wnQ (wsQ (W_v (.agg (QF a0)) (Qi (S.blk 0 J) ty23 J (QG J) J J) J (wmL J (wmL J ?_)))))))))))
 obtain ⟨t20,ht21,H⟩:=QO H
 refine ZR fn9 (XV.con ht21 hr2 hr3) S J J flN (eE4 E ?_)
 rintro _ w22 _ Γ' E S ⟨rfl,rfl⟩
 refine wmT J (W_v _ (QR J J) J (W_v _ (QR J J) J (W_v _ (QR J J) J (waI J (waI J (waI J (wnQ ?_)))))))
 as_aux_lemma =>
 refine QH ?_
 refine rgA S [0] [_] 43 mixed J (eE1 E ?_)
 intro w69 E S D1
 refine tz0 0 J D1 (xmI J) (tz0 1 J D1 (xmI J) (tz0 2 J D1 (xiB J J) (tz0 3 J D1 (xmB J) ?_)))
 refine YB (fun ρ w'=>QV ρ [(1,vU a1),(4,pt b1 0),(8,.bool false),(13,vI t17.1),(14,vI t17.2.1),(15,vI t17.2.2),(16,vI t20.1),(17,vI t20.2.1),(18,vI t20.2.2),(56,.bool ((t11.1==t14.1)&&(t11.2==t14.2)))]∧w69=w') 35 (Ls 43 [0,1,2,3,4,5,6,7]) ?_ ?_
 rotate_left
 ·intro hrest
  rcases Qy (t11.1==t14.1) with hb71 | hb71
  ·refine tz4 4 J (skT hb71) D1 (tz4 5 J (skT hb71) D1 (tz4 6 J (skT hb71) D1 (tz0 7 J D1 (xqB hb71 J) ?_)))
   exact hrest _ _ ⟨⟨J,J,J,J,J,J,J,J,J,(flB hb71),trivial⟩,rfl⟩
  ·refine tz2 4 J (cS hb71) D1 (xmI J) (tz2 5 J (cS hb71) D1 (xmI J) (tz2 6 J (cS hb71) D1 (xiB J J) (tz0 7 J D1 (xpB hb71 J) ?_)))
   exact hrest _ _ ⟨⟨J,J,J,J,J,J,J,J,J,(flB hb71),trivial⟩,rfl⟩
 rintro ρ _ ⟨hρ,rfl⟩
 rw [QB hρ]
 refine tz0 8 J (⟨M,Hp.le_refl M,(S.pk [0])⟩) (xmB J) ?_
 refine YB (fun ρ w'=>QV ρ [(1,vU a1),(4,pt b1 0),(8,.bool false),(14,vI t17.2.1),(15,vI t17.2.2),(17,vI t20.2.1),(18,vI t20.2.2),(61,.bool (((t11.1==t14.1)&&(t11.2==t14.2))&&(t17.1==t20.1)))]∧w69=w') 30 (Ls 43 [0,1,2,3,4,5,6,7,8,9,10,11,12]) ?_ ?_
 rotate_left
 ·intro hrest
  rcases Qy ((t11.1==t14.1)&&(t11.2==t14.2)) with hb72 | hb72
  ·refine tz4 9 J (skT hb72) D1 (tz4 10 J (skT hb72) D1 (tz4 11 J (skT hb72) D1 (tz0 12 J D1 (xqB hb72 J) ?_)))
   exact hrest _ _ ⟨⟨J,J,J,J,J,J,J,(flB hb72),trivial⟩,rfl⟩
  ·refine tz2 9 J (cS hb72) D1 (xmI J) (tz2 10 J (cS hb72) D1 (xmI J) (tz2 11 J (cS hb72) D1 (xiB J J) (tz0 12 J D1 (xpB hb72 J) ?_)))
   exact hrest _ _ ⟨⟨J,J,J,J,J,J,J,(flB hb72),trivial⟩,rfl⟩
 rintro ρ _ ⟨hρ,rfl⟩
 rw [QB hρ]
 refine tz0 13 J (⟨M,Hp.le_refl M,(S.pk [0])⟩) (xmB J) ?_
 refine YB (fun ρ w'=>QV ρ [(1,vU a1),(4,pt b1 0),(8,.bool false),(15,vI t17.2.2),(18,vI t20.2.2),(66,.bool ((((t11.1==t14.1)&&(t11.2==t14.2))&&(t17.1==t20.1))&&(t17.2.1==t20.2.1)))]∧w69=w') 25 (Ls 43 [0,1,2,3,4,5,6,7,8,9,10,11,12,13,14,15,16,17]) ?_ ?_
 rotate_left
 ·intro hrest
  rcases Qy (((t11.1==t14.1)&&(t11.2==t14.2))&&(t17.1==t20.1)) with hb73 | hb73
  ·refine tz4 14 J (skT hb73) D1 (tz4 15 J (skT hb73) D1 (tz4 16 J (skT hb73) D1 (tz0 17 J D1 (xqB hb73 J) ?_)))
   exact hrest _ _ ⟨⟨J,J,J,J,J,(flB hb73),trivial⟩,rfl⟩
  ·refine tz2 14 J (cS hb73) D1 (xmI J) (tz2 15 J (cS hb73) D1 (xmI J) (tz2 16 J (cS hb73) D1 (xiB J J) (tz0 17 J D1 (xpB hb73 J) ?_)))
   exact hrest _ _ ⟨⟨J,J,J,J,J,(flB hb73),trivial⟩,rfl⟩
 rintro ρ _ ⟨hρ,rfl⟩
 rw [QB hρ]
 refine tz0 18 J (⟨M,Hp.le_refl M,(S.pk [0])⟩) (xmB J) ?_
 refine YB (fun ρ w'=>QV ρ [(1,vU a1),(4,pt b1 0),(8,.bool false),(71,.bool (((((t11.1==t14.1)&&(t11.2==t14.2))&&(t17.1==t20.1))&&(t17.2.1==t20.2.1))&&(t17.2.2==t20.2.2)))]∧w69=w') 20 (Ls 43 [0,1,2,3,4,5,6,7,8,9,10,11,12,13,14,15,16,17,18,19,20,21,22]) ?_ ?_
 rotate_left
 ·intro hrest
  rcases Qy ((((t11.1==t14.1)&&(t11.2==t14.2))&&(t17.1==t20.1))&&(t17.2.1==t20.2.1)) with hb74 | hb74
  ·refine tz4 19 J (skT hb74) D1 (tz4 20 J (skT hb74) D1 (tz4 21 J (skT hb74) D1 (tz0 22 J D1 (xqB hb74 J) ?_)))
   exact hrest _ _ ⟨⟨J,J,J,(flB hb74),trivial⟩,rfl⟩
  ·refine tz2 19 J (cS hb74) D1 (xmI J) (tz2 20 J (cS hb74) D1 (xmI J) (tz2 21 J (cS hb74) D1 (xiB J J) (tz0 22 J D1 (xpB hb74 J) ?_)))
   exact hrest _ _ ⟨⟨J,J,J,(flB hb74),trivial⟩,rfl⟩
 rintro ρ _ ⟨hρ,rfl⟩
 rw [QB hρ]
 refine tz0 23 J (⟨M,Hp.le_refl M,(S.pk [0])⟩) (xmB J) ?_
 obtain ⟨o83,o83h,o83H⟩:=QO H
 refine YB (fun ρ w'=>∃ (x82:Bool),(x82)=o83∧QV ρ [(4,pt b1 0),(8,.bool false),(80,.bool x82)]∧Ext w w'∧St w' M F [B23 b1 a0]) 11 (Ls 43 [0,1,2,3,4,5,6,7,8,9,10,11,12,13,14,15,16,17,18,19,20,21,22,23,24,25,27,28,26,29,30,31]) ?_ ?_
 rotate_left
 ·intro hrest
  have H:=o83h
  rcases Q3 H with ⟨hb81,H⟩ | ⟨hb81,H⟩
  ·refine WtY 24 J J J (.agg (QF a0)) J (cS hb81) (fun w' h'=>Qi (Y1 h' 0 J) ty23 J (QG J) J J) D1 (tz2 25 J (cS hb81) D1 (xmI J) (WtY 27 J J J (.agg (QF a0)) J (cS hb81) (fun w' h'=>Qi (Y1 h' 0 J) ty23 J (QG J) J J) D1 (tz2 28 J (cS hb81) D1 (xmI J) ?_)))
   refine Wo 26 J ?_
   refine QN (cS hb81) ?_
   obtain ⟨t84,ht85,H⟩:=QO H
   refine ZR fn10 (XL.con ht85) S J J flN (eE4 E ?_)
   rintro _ w86 _ Γ' E S ⟨rfl,rfl⟩
   refine QK (Yl ⟨.inr ⟨M,Hp.le_refl M,(S.pk [0])⟩,?_⟩)
   refine Wo 29 J ?_
   refine QN (cS hb81) ?_
   obtain ⟨t87,ht88,H⟩:=QO H
   refine ZR fn11 (Ye.con ht88) S J J flN (eE4 E ?_)
   rintro _ w89 _ Γ' E S ⟨rfl,rfl⟩
   refine QK (Yl ⟨.inr ⟨M,Hp.le_refl M,(S.pk [0])⟩,?_⟩)
   have D15:∃ Mx,Hp.le M Mx∧St _ Mx F [_]:=⟨_,Hp.le_refl _,S.pk [0]⟩
   refine tz2 30 J (cS hb81) D15 (xiB J J) (tz0 31 J D15 (xpB hb81 J) ?_)
   exact hrest _ _ ⟨(t84==t87),oi H,agP J,E,S.pk [0]⟩
  ·refine tz4 24 J (skT hb81) D1 (tz4 25 J (skT hb81) D1 (tz4 26 J (skT hb81) D1 (tz4 27 J (skT hb81) D1 (tz4 28 J (skT hb81) D1 (tz4 29 J (skT hb81) D1 (tz4 30 J (skT hb81) D1 (tz0 31 J D1 (xqB hb81 J) ?_)))))))
   exact hrest _ _ ⟨false,oi H,agP J,E,S.pk [0]⟩
 rintro ρ w90 ⟨x82,rfl,hρ,E,S⟩
 rw [QB hρ]
 have H:=o83H
 refine tz0 32 J (⟨M,Hp.le_refl M,(S.pk [0])⟩) (xmB J) ?_
 obtain ⟨o99,o99h,o99H⟩:=QO H
 refine YB (fun ρ w'=>∃ (x98:Bool),(x98)=o99∧QV ρ [(8,.bool false),(87,.bool x98)]∧Ext w w'∧St w' M F [B23 b1 a0]) 4 (Ls 43 [0,1,2,3,4,5,6,7,8,9,10,11,12,13,14,15,16,17,18,19,20,21,22,23,24,25,27,28,26,29,30,31,32,33,35,34,36,37,38]) ?_ ?_
 rotate_left
 ·intro hrest
  have H:=o99h
  rcases Q3 H with ⟨hb97,H⟩ | ⟨hb97,H⟩
  ·have D18:∃ Mx,Hp.le M Mx∧St _ Mx F [_]:=⟨_,Hp.le_refl _,S.pk [0]⟩
   refine WtY 33 J J J (.agg (QF a0)) J (cS hb97) (fun w' h'=>Qi (Y1 h' 0 J) ty23 J (QG J) J J) D18 (WtY 35 J J J (.agg (QF a0)) J (cS hb97) (fun w' h'=>Qi (Y1 h' 0 J) ty23 J (QG J) J J) D18 ?_)
   refine Wo 34 J ?_
   refine QN (cS hb97) ?_
   obtain ⟨t100,ht101,H⟩:=QO H
   refine ZR fn12 (Xo.con ht101) S J J flN (eE4 E ?_)
   rintro _ w102 _ Γ' E S ⟨rfl,rfl⟩
   refine QK (Yl ⟨.inr ⟨M,Hp.le_refl M,(S.pk [0])⟩,?_⟩)
   refine Wo 36 J ?_
   refine QN (cS hb97) ?_
   obtain ⟨t103,ht104,H⟩:=QO H
   refine ZR fn13 (Y6.con ht104) S J J flN (eE4 E ?_)
   rintro _ w105 _ Γ' E S ⟨rfl,rfl⟩
   refine QK (Yl ⟨.inr ⟨M,Hp.le_refl M,(S.pk [0])⟩,?_⟩)
   have D19:∃ Mx,Hp.le M Mx∧St _ Mx F [_]:=⟨_,Hp.le_refl _,S.pk [0]⟩
   refine tz2 37 J (cS hb97) D19 (xiB J J) (tz0 38 J D19 (xpB hb97 J) ?_)
   exact hrest _ _ ⟨(t100==t103),oi H,agP J,E,S.pk [0]⟩
  ·have D20:∃ Mx,Hp.le M Mx∧St _ Mx F [_]:=⟨_,Hp.le_refl _,S.pk [0]⟩
   refine tz4 33 J (skT hb97) D20 (tz4 34 J (skT hb97) D20 (tz4 35 J (skT hb97) D20 (tz4 36 J (skT hb97) D20 (tz4 37 J (skT hb97) D20 (tz0 38 J D20 (xqB hb97 J) ?_)))))
   exact hrest _ _ ⟨false,oi H,agP J,E,S.pk [0]⟩
 rintro ρ w106 ⟨x98,rfl,hρ,E,S⟩
 rw [QB hρ]
 have H:=o99H
 refine tz0 39 J (⟨M,Hp.le_refl M,(S.pk [0])⟩) (xmB J) ?_
 obtain ⟨o112,o112h,o112H⟩:=QO H
 refine YB (fun ρ w'=>∃ (x111:Bool),(x111)=o112∧QV ρ [(8,.bool false),(90,.bool x111)]∧Ext w w'∧St w' M F [B23 b1 a0]) 1 (Ls 43 [0,1,2,3,4,5,6,7,8,9,10,11,12,13,14,15,16,17,18,19,20,21,22,23,24,25,27,28,26,29,30,31,32,33,35,34,36,37,38,39,40,41]) ?_ ?_
 rotate_left
 ·intro hrest
  have H:=o112h
  rcases Q3 H with ⟨hb110,H⟩ | ⟨hb110,H⟩
  ·refine Wo 40 J ?_
   refine QN (cS hb110) ?_
   obtain ⟨t113,ht114,H⟩:=QO H
   refine ZR fn5 (YO.con ht114 hg0 hg1) S J J flN (eE4 E ?_)
   rintro _ w115 _ Γ' E S ⟨rfl,rfl⟩
   refine QK (Yl ⟨.inr ⟨M,Hp.le_refl M,(S.pk [0])⟩,?_⟩)
   refine tz0 41 J (⟨M,Hp.le_refl M,(S.pk [0])⟩) (xpB hb110 J) ?_
   exact hrest _ _ ⟨t113,oi H,agP J,E,S.pk [0]⟩
  ·have D23:∃ Mx,Hp.le M Mx∧St _ Mx F [_]:=⟨_,Hp.le_refl _,S.pk [0]⟩
   refine tz4 40 J (skT hb110) D23 (tz0 41 J D23 (xqB hb110 J) ?_)
   exact hrest _ _ ⟨false,oi H,agP J,E,S.pk [0]⟩
 rintro ρ w116 ⟨x111,rfl,hρ,E,S⟩
 rw [QB hρ]
 have H:=o112H
 refine tz0 42 J (⟨M,Hp.le_refl M,(S.pk [0])⟩) (xaB J) ?_
 refine Wz ?_
 refine tn ?_
 refine QT ?_
 obtain rfl:=oi H
 exact ⟨_,_,_,rsA (vs:=[_]) J,HM,E,S.pk [],⟨J,J⟩⟩
end Go.Proofs.YtkknoimjgifhlaaGreatDoor
