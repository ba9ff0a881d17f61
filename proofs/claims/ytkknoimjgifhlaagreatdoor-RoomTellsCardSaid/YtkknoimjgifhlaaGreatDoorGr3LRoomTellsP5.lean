import Derived.Test.YtkknoimjgifhlaaGreatDoorGr3B
import Derived.Test.YtkknoimjgifhlaaGreatDoorGr3LRoomTellsP4
namespace Go.Proofs.YtkknoimjgifhlaaGreatDoor
open Go
set_option linter.unusedVariables false
set_option linter.unusedSimpArgs false
set_option maxHeartbeats 80000000
set_option maxRecDepth 100000
def ZG (a0:QE) (a1:Int) (a2:Int):Nat→Int→Option ((Int×Int×Int)⊕(Unit))
 | 0,_=>none
 | k+1,x139=>(if (decide (x139<(a0.T.length:Int)))=true then (if 0≤x139∧x139<(a0.T.length:Int) then (Option.bind (α:=Bool) (if ((rd a0.T x139).Task==a1)=true then (if 0≤x139∧x139<(a0.T.length:Int) then some (((rd a0.T x139).N==a2)) else none) else some (false)) (fun x242=>(if x242=true then (if 0≤x139∧x139<(a0.T.length:Int) then (if 0≤x139∧x139<(a0.T.length:Int) then some (.inl ((IntKind.i64.wrap (x139+(1:Int))),(rd a0.T x139).State,(rd a0.T x139).Snapshot)) else none) else none) else ZG a0 a1 a2 k (IntKind.i64.wrap (x139+(1:Int)))))) else none) else some (.inr ()))
theorem ZG.mono {a0 a1 a2}: ∀ {kl:Nat} {x0},OLe (ZG a0 a1 a2 kl x0) (ZG a0 a1 a2 (kl+1) x0):=by
 intro kl
 induction kl with
 | zero=>intros;exact OLe.none
 | succ kl ih =>
  intros
  rw [ZG.eq_2,ZG.eq_2]
  exact mo
def ZQ (k:Nat) (a0:QE) (a1:Int) (a2:Int):Option (Int×Int×Int) :=
 (Option.bind (ZG a0 a1 a2 k (0:Int)) (fun o208o=>Sum.elim (fun r'=>some r') (fun _=>some ((0:Int),(0:Int),(0:Int))) o208o))
theorem ZQ.mono {k a0 a1 a2}: OLe (ZQ k a0 a1 a2) (ZQ (k+1) a0 a1 a2):=by
 unfold ZQ
 have m1:=@ZG.mono
 exact mo
theorem ZQ.con {k M A0_8 c0_8 A0_9 c0_9} {a0:QE} {a1:Int} {a2:Int} {bo0} {r:Int×Int×Int} (h:ZQ k a0 a1 a2=some r) (hr0_9:SlR Qa M (.slice A0_9 a0.L.length c0_9) a0.L): Con Tryz.prog 41 #[pt bo0 0,vI a1,vI a2] M [B69 bo0 a0 A0_8 c0_8 A0_9 c0_9,Rw QD 112 A0_8 c0_8 a0.T] (fun v M' Γ'=>v=.tuple #[vI r.1,vU r.2.1,vI r.2.2]∧Γ'=[B69 bo0 a0 A0_8 c0_8 A0_9 c0_9,Rw QD 112 A0_8 c0_8 a0.T]):=by
 refine cwA Tryz.func41 J Tryz.ntmps41 Tryz.results41 J h ?_
 intro w F rn S hrn E HM H
 unfold ZQ at H
 refine wsQ (waI J (waI J (waI J (wnQ (QH (wsQ (waI J (wnQ ?_))))))))
 obtain ⟨o208,o208h,o208H⟩:=QO H
 refine Zr (fun ρ w'=>.inr ()=o208∧QV ρ []∧Ext w w'∧St w' M F [B69 bo0 a0 A0_8 c0_8 A0_9 c0_9,Rw QD 112 A0_8 c0_8 a0.T]) ?_ ?_
 ·refine Yr (fun n ρ w'=>∃ (x139:Int),ZG a0 a1 a2 n x139=some o208∧QV ρ [(0,pt bo0 0),(1,vI a1),(2,vI a2),(9,vI x139)]∧Ext w w'∧St w' M F [B69 bo0 a0 A0_8 c0_8 A0_9 c0_9,Rw QD 112 A0_8 c0_8 a0.T]) k ?_ ?_
  ·exact ⟨(0:Int),o208h,agP J,E,S.pk [0,1]⟩
  ·intro n
   rintro ρ w209 ⟨x139,H,hρ,E,S⟩
   rw [QB hρ]
   cases n with
   | zero=>cases H
   | succ k =>
    rw [ZG.eq_2] at H
    refine QH (wsQ (wmI J (wmP J (W_v _ (Qb J) J (wfA Tryz.underlying69 ty66 J (wlA S 0 ty66 J (W_v _ (Qm (n:=a0.T.length) Tryz.underlying66 J) J (wiB J J (wnQ ?_)))))))))
    rcases Q3 H with ⟨hb210,H⟩ | ⟨hb210,H⟩
    ·refine QC (cB hb210) ?_
     refine QX (tn (QH ?_))
     refine ZW ?_
     refine wsQ (wmP J (W_v _ (Qb J) J (wfA Tryz.underlying69 ty66 J (wlA S 0 ty66 J (wmI J ?_)))))
     obtain ⟨⟨p211,p212⟩,H⟩:=Z8 H
     obtain ⟨b213,o214,cs215,_,_,ee220,hb216,vs217,hR218,hc219⟩:=SlW.at' (S.row_read 1 J) p211 p212
     obtain rfl:vs217=_:=hR218
     refine W_v _ (QS Tryz.underlying66 ty112 (slA ee220) J p211 p212) J (wfA Tryz.underlying112 ty3 J (W_v _ (Z0 (Hp.of_get hb216) ty3 J (hc219 0 _ J)) J (wmI J (wiB J J (wmB J ?_)))))
     obtain ⟨o243,o243h,o243H⟩:=QO H
     refine ZO 11 (fun ρ w'=>∃ (x242:Bool),(x242)=o243∧QV ρ [(0,pt bo0 0),(1,vI a1),(2,vI a2),(9,vI x139),(40,.bool x242)]∧Ext w w'∧St w' M F [B69 bo0 a0 A0_8 c0_8 A0_9 c0_9,Rw QD 112 A0_8 c0_8 a0.T]) ?_ ?_
     ·as_aux_lemma =>
       have H:=o243h
       rcases Q3 H with ⟨hb241,H⟩ | ⟨hb241,H⟩
       ·refine QN (cS hb241) (wmP J (QN (cS hb241) (W_v _ (Qb J) J (QN (cS hb241) (wfA Tryz.underlying69 ty66 J (QN (cS hb241) (wlA S 0 ty66 J (QN (cS hb241) (wmI J (QN (cS hb241) ?_))))))))))
        obtain ⟨⟨p244,p245⟩,H⟩:=Z8 H
        obtain ⟨b246,o247,cs248,_,_,ee253,hb249,vs250,hR251,hc252⟩:=SlW.at' (S.row_read 1 J) p244 p245
        obtain rfl:vs250=_:=hR251
        refine W_v _ (QS Tryz.underlying66 ty112 (slA ee253) J p244 p245) J (QN (cS hb241) (wfA Tryz.underlying112 ty3 J (QN (cS hb241) (W_v _ (Z0 (Hp.of_get hb249) ty3 J (hc252 1 _ J)) J (QN (cS hb241) (wmI J (QN (cS hb241) (wiB J J (wpB hb241 J (QK ?_))))))))))
        exact ⟨((rd a0.T x139).N==a2),oi H,agP J,E,S.pk [0,1]⟩
       ·refine QZ (skT hb241) J (QZ (skT hb241) J (QZ (skT hb241) J (QZ (skT hb241) J (QZ (skT hb241) J (QZ (skT hb241) J (QZ (skT hb241) J (QZ (skT hb241) J (QZ (skT hb241) J (QZ (skT hb241) J (wqB hb241 J (QK ?_)))))))))))
        exact ⟨false,oi H,agP J,E,S.pk [0,1]⟩
     as_aux_lemma =>
     rintro ρ w254 ⟨x242,rfl,hρ,E,S⟩
     rw [QB hρ]
     have H:=o243H
     refine wnQ ?_
     rcases Q3 H with ⟨hb255,H⟩ | ⟨hb255,H⟩
     ·refine QC (cB hb255) ?_
      refine QH ?_
      refine rgA S [0,1] [_,_] 21 mixed J (eE1 E ?_)
      intro w266 E S D1
      refine tz0 0 J D1 (xmI J) (tz0 1 J D1 (xiI J J) (tz0 2 J D1 (xmP J) (tz0 3 J D1 (Qb J) (tz0 4 J D1 (xfA Tryz.underlying69 ty66 J) (tz1 5 J D1 (fun w' h'=>xlA h' 0 ty66 J) (tz0 6 J D1 (xmI J) ?_))))))
      obtain ⟨⟨p268,p269⟩,H⟩:=Z8 H
      obtain ⟨b270,o271,_,_,_,ee272,_⟩:=SlW.at' (S.row_read 1 J) p268 p269
      refine tz0 7 J D1 (QS Tryz.underlying66 ty112 (slA ee272) J p268 p269) (tz0 8 J D1 (xfA Tryz.underlying112 ty5 J) (Wt 9 J J J (vU ((rd a0.T x139).State)) J (fun w' h'=>X9 h' 1 J ee272 p268 p269 2 (by rintro _ _ rfl;rfl) ty5 J) D1 (tz0 10 J D1 (xmP J) (tz0 11 J D1 (Qb J) (tz0 12 J D1 (xfA Tryz.underlying69 ty66 J) (tz1 13 J D1 (fun w' h'=>xlA h' 0 ty66 J) (tz0 14 J D1 (xmI J) ?_)))))))
      obtain ⟨⟨p273,p274⟩,H⟩:=Z8 H
      obtain ⟨b275,o276,_,_,_,ee277,_⟩:=SlW.at' (S.row_read 1 J) p273 p274
      refine tz0 15 J D1 (QS Tryz.underlying66 ty112 (slA ee277) J p273 p274) (tz0 16 J D1 (xfA Tryz.underlying112 ty3 J) (Wt 17 J J J (vI ((rd a0.T x139).Snapshot)) J (fun w' h'=>X9 h' 1 J ee277 p273 p274 3 (by rintro _ _ rfl;rfl) ty3 J) D1 (tz0 18 J D1 (xaI J) (tz0 19 J D1 (xaI J) (tz0 20 J D1 (xaI J) ?_)))))
      refine Wz ?_
      refine tn ?_
      refine QT ?_
      refine br (tr (tr (br (tr (tr (?_))))))
      obtain rfl:=oi H
      have H:=o208H
      replace H:=elimL H
      obtain rfl:=oi H
      exact ⟨_,_,_,rsA (vs:=[_,_,_]) J,HM,E,S.pk [0,1],⟨J,J⟩⟩
     refine QA (cB hb255) (QX (bn (tn (QJ (wmI J (wiI J J (waI J (wnQ ?_))))))))
     exact ⟨k,Nat.lt_succ_self k,⟨(IntKind.i64.wrap (x139+(1:Int))),H,agP J,E,S.pk [0,1]⟩⟩
    refine QA (cB hb210) ?_
    refine YZ ?_
    refine tx (tx (bsm (?_)))
    refine tn ?_
    exact ⟨oi H,trivial,E,S.pk [0,1]⟩
 rintro ρ w278 ⟨rfl,hρ,E,S⟩
 rw [QB hρ]
 have H:=o208H
 replace H:=elimR H
 refine tn ?_
 as_aux_lemma =>
 refine wsQ (waI J (waI J (waI J (wnQ ?_))))
 refine QT ?_
 obtain rfl:=oi H
 exact ⟨_,_,_,rsA (vs:=[_,_,_]) J,HM,E,S.pk [0,1],⟨J,J⟩⟩
def Za (k:Nat) (a0:QE) (a1:Int) (a2:QY):Option (Int) :=
 (if (((((decide (a1<(0:Int)))||(decide (a1≥a0.C.Tasks)))||(decide (a2.Kind<(1:Int))))||(decide (a2.Kind>(9:Int))))||(((a2.Kind==(9:Int))&&(a2.Engine != (1:Int)))&&(a2.Engine != (2:Int))))=true then some (1:Int) else (if (((a2.Kind==(1:Int))||(a2.Kind==(8:Int)))||(a2.Kind==(9:Int)))=true then some (0:Int) else (Option.bind (ZQ k a0 a1 a2.Tx) (fun t18=>(if (t18.2.1==(0:Int))=true then some (30:Int) else (if (t18.2.1 != (1:Int))=true then some (31:Int) else (Option.bind (α:=Bool) (if (((a2.Kind==(2:Int))||(a2.Kind==(3:Int)))||(a2.Kind==(4:Int)))=true then (Option.bind (XX k a0.C a2.Key) (fun t69=>some ((!t69)))) else some (false)) (fun x67=>(Option.bind (α:=Bool) (if x67=true then some (true) else (Option.bind (α:=Bool) (if (a2.Kind==(3:Int))=true then (Option.bind (XE k a0.C a2.Value) (fun t92=>some ((!t92)))) else some (false)) (fun x90=>some (x90)))) (fun x84=>(if x84=true then some (32:Int) else (Option.bind (α:=Bool) (if (a2.Kind==(5:Int))=true then (Option.bind (Yq k a0.C a2.Key) (fun t152=>(Option.bind (α:=Bool) (if (!t152)=true then some (true) else (Option.bind (Yq k a0.C a2.End) (fun t161=>some ((!t161))))) (fun x159=>some (((x159||(decide (a2.Limit<(0:Int))))||(decide (a2.Limit>(128:Int))))))))) else some (false)) (fun x150=>(if x150=true then some (32:Int) else some (0:Int)))))))))))))))
theorem Za.mono {k a0 a1 a2}: OLe (Za k a0 a1 a2) (Za (k+1) a0 a1 a2):=by
 unfold Za
 have m1:=@Yq.mono
 have m2:=@XX.mono
 have m3:=@XE.mono
 have m4:=@ZQ.mono
 exact mo
theorem Za.con {k M A0_8 c0_8 A0_9 c0_9} {a0:QE} {a1:Int} {a2:QY} {bo0} {r:Int} (h:Za k a0 a1 a2=some r) (hr0_9:SlR Qa M (.slice A0_9 a0.L.length c0_9) a0.L): Con Tryz.prog 40 #[pt bo0 0,vI a1,.agg (Qo a2)] M [B69 bo0 a0 A0_8 c0_8 A0_9 c0_9,Rw QD 112 A0_8 c0_8 a0.T] (fun v M' Γ'=>v=vI r∧Γ'=[B69 bo0 a0 A0_8 c0_8 A0_9 c0_9,Rw QD 112 A0_8 c0_8 a0.T]):=by
 refine cwA Tryz.func40 J Tryz.ntmps40 Tryz.results40 J h ?_
 intro w F rn S hrn E HM H
 unfold Za at H
 refine wsQ ?_
 refine Yz S (Qo a2) J J J (eE2 E ?_)
 intro b1 w2 E S
 refine waI J (wnQ (QH (wsQ (wmI J (wiB J J (wmB J ?_))))))
 refine ZO 8 (fun ρ w'=>QV ρ [(0,pt bo0 0),(1,vI a1),(5,pt b1 0),(21,.bool ((decide (a1<(0:Int)))||(decide (a1≥a0.C.Tasks))))]∧w2=w') ?_ ?_
 ·rcases Qy (decide (a1<(0:Int))) with hb4 | hb4
  ·refine QN (cS hb4) (wmI J (QN (cS hb4) (wmP J (QN (cS hb4) (W_v _ (Qb J) J (QN (cS hb4) (wfA Tryz.underlying69 ty23 J (QN (cS hb4) (wfA Tryz.underlying23 ty3 J (QN (cS hb4) (wlA S 1 ty3 J (QN (cS hb4) (wiB J J (wqB hb4 J (QK ?_)))))))))))))))
   exact ⟨⟨J,J,J,(flB hb4),trivial⟩,rfl⟩
  ·refine QZ (skF hb4) J (QZ (skF hb4) J (QZ (skF hb4) J (QZ (skF hb4) J (QZ (skF hb4) J (QZ (skF hb4) J (QZ (skF hb4) J (wpB hb4 J (QK ?_))))))))
   exact ⟨⟨J,J,J,(flB hb4),trivial⟩,rfl⟩
 as_aux_lemma =>
 rintro ρ _ ⟨hρ,rfl⟩
 rw [QB hρ]
 refine wmB J ?_
 refine ZO 4 (fun ρ w'=>QV ρ [(0,pt bo0 0),(1,vI a1),(5,pt b1 0),(26,.bool (((decide (a1<(0:Int)))||(decide (a1≥a0.C.Tasks)))||(decide (a2.Kind<(1:Int)))))]∧w2=w') ?_ ?_
 ·rcases Qy ((decide (a1<(0:Int)))||(decide (a1≥a0.C.Tasks))) with hb5 | hb5
  ·refine QN (cS hb5) (wfA Tryz.underlying43 ty5 J (QN (cS hb5) (wlA S 0 ty5 J (QN (cS hb5) (wiB J J (wqB hb5 J (QK ?_)))))))
   exact ⟨⟨J,J,J,(flB hb5),trivial⟩,rfl⟩
  ·refine QZ (skF hb5) J (QZ (skF hb5) J (QZ (skF hb5) J (wpB hb5 J (QK ?_))))
   exact ⟨⟨J,J,J,(flB hb5),trivial⟩,rfl⟩
 as_aux_lemma =>
 rintro ρ _ ⟨hρ,rfl⟩
 rw [QB hρ]
 refine wmB J ?_
 refine ZO 4 (fun ρ w'=>QV ρ [(0,pt bo0 0),(1,vI a1),(5,pt b1 0),(31,.bool ((((decide (a1<(0:Int)))||(decide (a1≥a0.C.Tasks)))||(decide (a2.Kind<(1:Int))))||(decide (a2.Kind>(9:Int)))))]∧w2=w') ?_ ?_
 ·rcases Qy (((decide (a1<(0:Int)))||(decide (a1≥a0.C.Tasks)))||(decide (a2.Kind<(1:Int)))) with hb6 | hb6
  ·refine QN (cS hb6) (wfA Tryz.underlying43 ty5 J (QN (cS hb6) (wlA S 0 ty5 J (QN (cS hb6) (wiB J J (wqB hb6 J (QK ?_)))))))
   exact ⟨⟨J,J,J,(flB hb6),trivial⟩,rfl⟩
  ·refine QZ (skF hb6) J (QZ (skF hb6) J (QZ (skF hb6) J (wpB hb6 J (QK ?_))))
   exact ⟨⟨J,J,J,(flB hb6),trivial⟩,rfl⟩
 as_aux_lemma =>
 rintro ρ _ ⟨hρ,rfl⟩
 rw [QB hρ]
 refine wmB J ?_
 refine ZO 14 (fun ρ w'=>QV ρ [(0,pt bo0 0),(1,vI a1),(5,pt b1 0),(46,.bool (((((decide (a1<(0:Int)))||(decide (a1≥a0.C.Tasks)))||(decide (a2.Kind<(1:Int))))||(decide (a2.Kind>(9:Int))))||(((a2.Kind==(9:Int))&&(a2.Engine != (1:Int)))&&(a2.Engine != (2:Int)))))]∧w2=w') ?_ ?_
 ·as_aux_lemma =>
   rcases Qy ((((decide (a1<(0:Int)))||(decide (a1≥a0.C.Tasks)))||(decide (a2.Kind<(1:Int))))||(decide (a2.Kind>(9:Int)))) with hb11 | hb11
   ·refine QN (cS hb11) (wfA Tryz.underlying43 ty5 J (QN (cS hb11) (wlA S 0 ty5 J (QN (cS hb11) (wiB J J (QN (cS hb11) (wmB J ?_)))))))
    refine ZO 4 (fun ρ w'=>QV ρ [(0,pt bo0 0),(1,vI a1),(5,pt b1 0),(32,.bool ((((decide (a1<(0:Int)))||(decide (a1≥a0.C.Tasks)))||(decide (a2.Kind<(1:Int))))||(decide (a2.Kind>(9:Int))))),(40,.bool ((a2.Kind==(9:Int))&&(a2.Engine != (1:Int))))]∧w2=w') ?_ ?_
    ·rcases Qy (a2.Kind==(9:Int)) with hb12 | hb12
     ·refine QZ (skT hb12) J (QZ (skT hb12) J (QZ (skT hb12) J (QN (cS hb11) (wqB hb12 J (QK ?_)))))
      exact ⟨⟨J,J,J,J,(flB hb12),trivial⟩,rfl⟩
     ·refine QN (cS hb12) (wfA Tryz.underlying43 ty5 J (QN (cS hb12) (wlA S 0 ty5 J (QN (cS hb12) (wiB J J (QN (cS hb11) (wpB hb12 J (QK ?_))))))))
      exact ⟨⟨J,J,J,J,(flB hb12),trivial⟩,rfl⟩
    rintro ρ _ ⟨hρ,rfl⟩
    rw [QB hρ]
    refine QN (cS hb11) (wmB J ?_)
    refine ZO 4 (fun ρ w'=>QV ρ [(0,pt bo0 0),(1,vI a1),(5,pt b1 0),(32,.bool ((((decide (a1<(0:Int)))||(decide (a1≥a0.C.Tasks)))||(decide (a2.Kind<(1:Int))))||(decide (a2.Kind>(9:Int))))),(45,.bool (((a2.Kind==(9:Int))&&(a2.Engine != (1:Int)))&&(a2.Engine != (2:Int))))]∧w2=w') ?_ ?_
    ·rcases Qy ((a2.Kind==(9:Int))&&(a2.Engine != (1:Int))) with hb13 | hb13
     ·refine QZ (skT hb13) J (QZ (skT hb13) J (QZ (skT hb13) J (QN (cS hb11) (wqB hb13 J (QK ?_)))))
      exact ⟨⟨J,J,J,J,(flB hb13),trivial⟩,rfl⟩
     ·refine QN (cS hb13) (wfA Tryz.underlying43 ty5 J (QN (cS hb13) (wlA S 0 ty5 J (QN (cS hb13) (wiB J J (QN (cS hb11) (wpB hb13 J (QK ?_))))))))
      exact ⟨⟨J,J,J,J,(flB hb13),trivial⟩,rfl⟩
    rintro ρ _ ⟨hρ,rfl⟩
    rw [QB hρ]
    refine wqB hb11 J (QK ?_)
    exact ⟨⟨J,J,J,(flB hb11),trivial⟩,rfl⟩
   ·refine QZ (skF hb11) J (QZ (skF hb11) J (QZ (skF hb11) J (QZ (skF hb11) J (QZ (J) J (QZ (J) J (QZ (J) J (QZ (skF hb11) J (QZ (skF hb11) J (QZ (J) J (QZ (J) J (QZ (J) J (QZ (skF hb11) J (wpB hb11 J (QK ?_))))))))))))))
    exact ⟨⟨J,J,J,(flB hb11),trivial⟩,rfl⟩
 as_aux_lemma =>
 rintro ρ _ ⟨hρ,rfl⟩
 rw [QB hρ]
 refine wnQ ?_
 rcases Q3 H with ⟨hb14,H⟩ | ⟨hb14,H⟩
 ·refine QC (cB hb14) ?_
  refine wsQ (waI J (wnQ ?_))
  refine QT ?_
  refine tr (?_)
  obtain rfl:=oi H
  exact ⟨_,_,_,rsA (vs:=[_]) J,HM,E,S.pk [1,2],⟨J,J⟩⟩
 refine QA (cB hb14) (QX (tn (QH (wsQ (wfA Tryz.underlying43 ty5 J (wlA S 0 ty5 J (wiB J J (wmB J ?_))))))))
 refine ZO 4 (fun ρ w'=>QV ρ [(0,pt bo0 0),(1,vI a1),(5,pt b1 0),(54,.bool ((a2.Kind==(1:Int))||(a2.Kind==(8:Int))))]∧w2=w') ?_ ?_
 ·rcases Qy (a2.Kind==(1:Int)) with hb15 | hb15
  ·refine QN (cS hb15) (wfA Tryz.underlying43 ty5 J (QN (cS hb15) (wlA S 0 ty5 J (QN (cS hb15) (wiB J J (wqB hb15 J (QK ?_)))))))
   exact ⟨⟨J,J,J,(flB hb15),trivial⟩,rfl⟩
  ·refine QZ (skF hb15) J (QZ (skF hb15) J (QZ (skF hb15) J (wpB hb15 J (QK ?_))))
   exact ⟨⟨J,J,J,(flB hb15),trivial⟩,rfl⟩
 as_aux_lemma =>
 rintro ρ _ ⟨hρ,rfl⟩
 rw [QB hρ]
 refine wmB J ?_
 refine ZO 4 (fun ρ w'=>QV ρ [(0,pt bo0 0),(1,vI a1),(5,pt b1 0),(59,.bool (((a2.Kind==(1:Int))||(a2.Kind==(8:Int)))||(a2.Kind==(9:Int))))]∧w2=w') ?_ ?_
 ·rcases Qy ((a2.Kind==(1:Int))||(a2.Kind==(8:Int))) with hb16 | hb16
  ·refine QN (cS hb16) (wfA Tryz.underlying43 ty5 J (QN (cS hb16) (wlA S 0 ty5 J (QN (cS hb16) (wiB J J (wqB hb16 J (QK ?_)))))))
   exact ⟨⟨J,J,J,(flB hb16),trivial⟩,rfl⟩
  ·refine QZ (skF hb16) J (QZ (skF hb16) J (QZ (skF hb16) J (wpB hb16 J (QK ?_))))
   exact ⟨⟨J,J,J,(flB hb16),trivial⟩,rfl⟩
 as_aux_lemma =>
 rintro ρ _ ⟨hρ,rfl⟩
 rw [QB hρ]
 refine wnQ ?_
 rcases Q3 H with ⟨hb17,H⟩ | ⟨hb17,H⟩
 ·refine QC (cB hb17) ?_
  refine wsQ (waI J (wnQ ?_))
  refine QT ?_
  refine tr (?_)
  obtain rfl:=oi H
  exact ⟨_,_,_,rsA (vs:=[_]) J,HM,E,S.pk [1,2],⟨J,J⟩⟩
 refine QA (cB hb17) (QX (tn (wsQ (wmP J (wmI J (wfA Tryz.underlying43 ty3 J (wlA S 0 ty3 J ?_)))))))
 obtain ⟨t18,ht19,H⟩:=QO H
 replace S:St w2 M F [_,_,_]:=S.pk [1,2,0]
 refine Zy fn41 (ZQ.con ht19 hr0_9) (Γ1:=[_,_]) (Γ2:=[_]) S J J (by rintro _ _ _ ⟨rfl,rfl⟩;exact (QP Zs (QP (YX (fun _ _ _ _ h=>h)) YE))) (eE4 E ?_)
 rintro _ w20 _ Γ' E S ⟨rfl,rfl⟩
 replace S:St w20 M F [_,_,_]:=S
 refine wmT J (W_v _ (QR J J) J (W_v _ (QR J J) J (W_v _ (QR J J) J (waI J (waI J (waI J (wnQ (QH (wsQ (wmI J (wiB J J (wnQ ?_))))))))))))
 rcases Q3 H with ⟨hb23,H⟩ | ⟨hb23,H⟩
 ·refine QC (cB hb23) ?_
  refine wsQ (waI J (wnQ ?_))
  refine QT ?_
  refine tr (?_)
  obtain rfl:=oi H
  exact ⟨_,_,_,rsA (vs:=[_]) J,HM,E,S.pk [0,1],⟨J,J⟩⟩
 refine QA (cB hb23) (QX (tn ?_))
 as_aux_lemma =>
 refine QH (wsQ (wmI J (wiB J J (wnQ ?_))))
 rcases Q3 H with ⟨hb24,H⟩ | ⟨hb24,H⟩
 ·refine QC (cB hb24) ?_
  refine wsQ (waI J (wnQ ?_))
  refine QT ?_
  refine tr (?_)
  obtain rfl:=oi H
  exact ⟨_,_,_,rsA (vs:=[_]) J,HM,E,S.pk [0,1],⟨J,J⟩⟩
 refine QA (cB hb24) (QX (tn (wsQ (wfA Tryz.underlying43 ty5 J (wlA S 2 ty5 J (wiB J J (wmB J ?_)))))))
 refine ZO 4 (fun ρ w'=>QV ρ [(0,pt bo0 0),(5,pt b1 0),(80,.bool ((a2.Kind==(2:Int))||(a2.Kind==(3:Int))))]∧w20=w') ?_ ?_
 ·rcases Qy (a2.Kind==(2:Int)) with hb25 | hb25
  ·refine QN (cS hb25) (wfA Tryz.underlying43 ty5 J (QN (cS hb25) (wlA S 2 ty5 J (QN (cS hb25) (wiB J J (wqB hb25 J (QK ?_)))))))
   exact ⟨⟨J,J,(flB hb25),trivial⟩,rfl⟩
  ·refine QZ (skF hb25) J (QZ (skF hb25) J (QZ (skF hb25) J (wpB hb25 J (QK ?_))))
   exact ⟨⟨J,J,(flB hb25),trivial⟩,rfl⟩
 as_aux_lemma =>
 rintro ρ _ ⟨hρ,rfl⟩
 rw [QB hρ]
 refine wmB J ?_
 refine ZO 4 (fun ρ w'=>QV ρ [(0,pt bo0 0),(5,pt b1 0),(85,.bool (((a2.Kind==(2:Int))||(a2.Kind==(3:Int)))||(a2.Kind==(4:Int))))]∧w20=w') ?_ ?_
 ·rcases Qy ((a2.Kind==(2:Int))||(a2.Kind==(3:Int))) with hb26 | hb26
  ·refine QN (cS hb26) (wfA Tryz.underlying43 ty5 J (QN (cS hb26) (wlA S 2 ty5 J (QN (cS hb26) (wiB J J (wqB hb26 J (QK ?_)))))))
   exact ⟨⟨J,J,(flB hb26),trivial⟩,rfl⟩
  ·refine QZ (skF hb26) J (QZ (skF hb26) J (QZ (skF hb26) J (wpB hb26 J (QK ?_))))
   exact ⟨⟨J,J,(flB hb26),trivial⟩,rfl⟩
 as_aux_lemma =>
 rintro ρ _ ⟨hρ,rfl⟩
 rw [QB hρ]
 refine waB J (wnQ (QH (QH ?_)))
 refine rgA S [0,1,2] [_,_,_] 26 mixed J (eE1 E ?_)
 intro w61 E S D1
 refine tz0 0 J D1 (xmB J) (tz0 1 J D1 (xmB J) ?_)
 obtain ⟨o68,o68h,o68H⟩:=QO H
 refine YB (fun ρ w'=>∃ (x67:Bool),(x67)=o68∧QV ρ [(0,pt bo0 0),(5,pt b1 0),(96,.bool x67)]∧Ext w w'∧St w' M F [B69 bo0 a0 A0_8 c0_8 A0_9 c0_9,Rw QD 112 A0_8 c0_8 a0.T,B43 b1 a2]) 15 (Ls 26 [0,1,2,3,4,5,6,7,8,9,10]) ?_ ?_
 rotate_left
 ·intro hrest
  have H:=o68h
  rcases Q3 H with ⟨hb66,H⟩ | ⟨hb66,H⟩
  ·refine tz2 2 J (cS hb66) D1 (xmP J) (tz2 3 J (cS hb66) D1 (Qb J) (tz2 4 J (cS hb66) D1 (xfA Tryz.underlying69 ty23 J) (WtY 5 J J J (.agg (QF a0.C)) J (cS hb66) (fun w' h'=>Qi (Y1 h' 0 J) ty23 J (QG J) J J) D1 (tz2 6 J (cS hb66) D1 (xfA Tryz.underlying43 ty9 J) (tz3 7 J (cS hb66) D1 (fun w' h'=>xlA h' 2 ty9 J) ?_)))))
   refine Wo 8 J ?_
   refine QN (cS hb66) ?_
   obtain ⟨t69,ht70,H⟩:=QO H
   refine ZR fn59 (XX.con ht70) S J J flN (eE4 E ?_)
   rintro _ w71 _ Γ' E S ⟨rfl,rfl⟩
   refine QK (Yl ⟨.inr ⟨M,Hp.le_refl M,(S.pk [0,1,2])⟩,?_⟩)
   have D3:∃ Mx,Hp.le M Mx∧St _ Mx F [_,_,_]:=⟨_,Hp.le_refl _,S.pk [0,1,2]⟩
   refine tz2 9 J (cS hb66) D3 (Xr (b:=t69) J) (tz0 10 J D3 (xpB hb66 J) ?_)
   exact hrest _ _ ⟨(!t69),oi H,agP J,E,S.pk [0,1,2]⟩
  ·refine tz4 2 J (skT hb66) D1 (tz4 3 J (skT hb66) D1 (tz4 4 J (skT hb66) D1 (tz4 5 J (skT hb66) D1 (tz4 6 J (skT hb66) D1 (tz4 7 J (skT hb66) D1 (tz4 8 J (skT hb66) D1 (tz4 9 J (skT hb66) D1 (tz0 10 J D1 (xqB hb66 J) ?_))))))))
   exact hrest _ _ ⟨false,oi H,agP J,E,S.pk [0,1,2]⟩
 rintro ρ w72 ⟨x67,rfl,hρ,E,S⟩
 rw [QB hρ]
 have H:=o68H
 refine tz0 11 J (⟨M,Hp.le_refl M,(S.pk [0,1,2])⟩) (xmB J) ?_
 obtain ⟨o85,o85h,o85H⟩:=QO H
 refine YB (fun ρ w'=>∃ (x84:Bool),(x84)=o85∧QV ρ [(0,pt bo0 0),(5,pt b1 0),(111,.bool x84)]∧Ext w w'∧St w' M F [B69 bo0 a0 A0_8 c0_8 A0_9 c0_9,Rw QD 112 A0_8 c0_8 a0.T,B43 b1 a2]) 0 (Ls 26 [0,1,2,3,4,5,6,7,8,9,10,11,12,13,14,15,16,17,18,19,20,21,22,23,24,25]) ?_ ?_
 rotate_left
 ·intro hrest
  have H:=o85h
  rcases Q3 H with ⟨hb83,H⟩ | ⟨hb83,H⟩
  ·have D6:∃ Mx,Hp.le M Mx∧St _ Mx F [_,_,_]:=⟨_,Hp.le_refl _,S.pk [0,1,2]⟩
   refine tz4 12 J (skF hb83) D6 (tz4 13 J (skF hb83) D6 (tz4 14 J (skF hb83) D6 (tz4 15 J (skF hb83) D6 (tz4 16 J (J) D6 (tz4 17 J (J) D6 (tz4 18 J (J) D6 (tz4 19 J (J) D6 (tz4 20 J (J) D6 (tz4 21 J (J) D6 (tz4 22 J (J) D6 (tz4 23 J (J) D6 (tz4 24 J (skF hb83) D6 (tz0 25 J D6 (xpB hb83 J) ?_)))))))))))))
   exact hrest _ _ ⟨true,oi H,agP J,E,S.pk [0,1,2]⟩
  ·have D7:∃ Mx,Hp.le M Mx∧St _ Mx F [_,_,_]:=⟨_,Hp.le_refl _,S.pk [0,1,2]⟩
   refine tz2 12 J (cS hb83) D7 (xfA Tryz.underlying43 ty5 J) (tz3 13 J (cS hb83) D7 (fun w' h'=>xlA h' 2 ty5 J) (tz2 14 J (cS hb83) D7 (xiB J J) (tz2 15 J (cS hb83) D7 (xmB J) ?_)))
   obtain ⟨o91,o91h,o91H⟩:=QO H
   refine YB (fun ρ w'=>∃ (x90:Bool),(x90)=o91∧QV ρ [(0,pt bo0 0),(5,pt b1 0),(97,.bool x67),(110,.bool x90)]∧Ext w w'∧St w' M F [B69 bo0 a0 A0_8 c0_8 A0_9 c0_9,Rw QD 112 A0_8 c0_8 a0.T,B43 b1 a2]) 1 (Ls 26 [0,1,2,3,4,5,6,7,8,9,10,11,12,13,14,15,16,17,18,19,20,21,22,23,24]) ?_ ?_
   rotate_left
   ·intro hrest
    have H:=o91h
    rcases Q3 H with ⟨hb89,H⟩ | ⟨hb89,H⟩
    ·refine tz2 16 J (cS hb89) D7 (xmP J) (tz2 17 J (cS hb89) D7 (Qb J) (tz2 18 J (cS hb89) D7 (xfA Tryz.underlying69 ty23 J) (WtY 19 J J J (.agg (QF a0.C)) J (cS hb89) (fun w' h'=>Qi (Y1 h' 0 J) ty23 J (QG J) J J) D7 (tz2 20 J (cS hb89) D7 (xfA Tryz.underlying43 ty9 J) (tz3 21 J (cS hb89) D7 (fun w' h'=>xlA h' 2 ty9 J) ?_)))))
     refine Wo 22 J ?_
     refine QN (cS hb89) ?_
     obtain ⟨t92,ht93,H⟩:=QO H
     refine ZR fn60 (XE.con ht93) S J J flN (eE4 E ?_)
     rintro _ w94 _ Γ' E S ⟨rfl,rfl⟩
     refine QK (Yl ⟨.inr ⟨M,Hp.le_refl M,(S.pk [0,1,2])⟩,?_⟩)
     have D9:∃ Mx,Hp.le M Mx∧St _ Mx F [_,_,_]:=⟨_,Hp.le_refl _,S.pk [0,1,2]⟩
     refine tz2 23 J (cS hb89) D9 (Xr (b:=t92) J) (tz2 24 J (cS hb83) D9 (xpB hb89 J) ?_)
     exact hrest _ _ ⟨(!t92),oi H,agP J,E,S.pk [0,1,2]⟩
    ·refine tz4 16 J (skT hb89) D7 (tz4 17 J (skT hb89) D7 (tz4 18 J (skT hb89) D7 (tz4 19 J (skT hb89) D7 (tz4 20 J (skT hb89) D7 (tz4 21 J (skT hb89) D7 (tz4 22 J (skT hb89) D7 (tz4 23 J (skT hb89) D7 (tz2 24 J (cS hb83) D7 (xqB hb89 J) ?_))))))))
     exact hrest _ _ ⟨false,oi H,agP J,E,S.pk [0,1,2]⟩
   rintro ρ w95 ⟨x90,rfl,hρ,E,S⟩
   rw [QB hρ]
   have H:=o91H
   refine tz0 25 J (⟨M,Hp.le_refl M,(S.pk [0,1,2])⟩) (xqB hb83 J) ?_
   exact hrest _ _ ⟨x90,oi H,agP J,E,S.pk [0,1,2]⟩
 rintro ρ w96 ⟨x84,rfl,hρ,E,S⟩
 rw [QB hρ]
 have H:=o85H
 refine Wz ?_
 refine tn ?_
 rcases Q3 H with ⟨hb97,H⟩ | ⟨hb97,H⟩
 ·refine QC (cB hb97) ?_
  refine wsQ (waI J (wnQ ?_))
  refine QT ?_
  refine tr (?_)
  obtain rfl:=oi H
  exact ⟨_,_,_,rsA (vs:=[_]) J,HM,E,S.pk [0,1],⟨J,J⟩⟩
 refine QA (cB hb97) (QX (tn ?_))
 as_aux_lemma =>
 refine QH (QH ?_)
 refine rgA S [0,1,2] [_,_,_] 33 mixed J (eE1 E ?_)
 intro w132 E S D12
 refine tz0 0 J D12 (xfA Tryz.underlying43 ty5 J) (tz1 1 J D12 (fun w' h'=>xlA h' 2 ty5 J) (tz0 2 J D12 (xiB J J) (tz0 3 J D12 (xmB J) ?_)))
 obtain ⟨o151,o151h,o151H⟩:=QO H
 refine YB (fun ρ w'=>∃ (x150:Bool),(x150)=o151∧QV ρ [(144,.bool x150)]∧Ext w w'∧St w' M F [B69 bo0 a0 A0_8 c0_8 A0_9 c0_9,Rw QD 112 A0_8 c0_8 a0.T,B43 b1 a2]) 0 (Ls 33 [0,1,2,3,4,5,6,7,8,9,10,11,12,13,14,15,16,17,18,19,20,21,22,23,24,25,26,27,28,29,30,31,32]) ?_ ?_
 rotate_left
 ·intro hrest
  have H:=o151h
  rcases Q3 H with ⟨hb149,H⟩ | ⟨hb149,H⟩
  ·refine tz2 4 J (cS hb149) D12 (xmP J) (tz2 5 J (cS hb149) D12 (Qb J) (tz2 6 J (cS hb149) D12 (xfA Tryz.underlying69 ty23 J) (WtY 7 J J J (.agg (QF a0.C)) J (cS hb149) (fun w' h'=>Qi (Y1 h' 0 J) ty23 J (QG J) J J) D12 (tz2 8 J (cS hb149) D12 (xfA Tryz.underlying43 ty9 J) (tz3 9 J (cS hb149) D12 (fun w' h'=>xlA h' 2 ty9 J) ?_)))))
   refine Wo 10 J ?_
   refine QN (cS hb149) ?_
   obtain ⟨t152,ht153,H⟩:=QO H
   refine ZR fn61 (Yq.con ht153) S J J flN (eE4 E ?_)
   rintro _ w154 _ Γ' E S ⟨rfl,rfl⟩
   refine QK (Yl ⟨.inr ⟨M,Hp.le_refl M,(S.pk [0,1,2])⟩,?_⟩)
   have D14:∃ Mx,Hp.le M Mx∧St _ Mx F [_,_,_]:=⟨_,Hp.le_refl _,S.pk [0,1,2]⟩
   refine tz2 11 J (cS hb149) D14 (Xr (b:=t152) J) (tz2 12 J (cS hb149) D14 (xmB J) ?_)
   obtain ⟨o160,o160h,o160H⟩:=QO H
   refine YB (fun ρ w'=>∃ (x159:Bool),(x159)=o160∧QV ρ [(5,pt b1 0),(115,.bool (a2.Kind==(5:Int))),(133,.bool x159)]∧Ext w w'∧St w' M F [B69 bo0 a0 A0_8 c0_8 A0_9 c0_9,Rw QD 112 A0_8 c0_8 a0.T,B43 b1 a2]) 11 (Ls 33 [0,1,2,3,4,5,6,7,8,9,10,11,12,13,14,15,16,17,18,19,20,21]) ?_ ?_
   rotate_left
   ·intro hrest
    have H:=o160h
    rcases Q3 H with ⟨hb158,H⟩ | ⟨hb158,H⟩
    ·refine tz4 13 J (skF hb158) D14 (tz4 14 J (skF hb158) D14 (tz4 15 J (skF hb158) D14 (tz4 16 J (skF hb158) D14 (tz4 17 J (skF hb158) D14 (tz4 18 J (skF hb158) D14 (tz4 19 J (skF hb158) D14 (tz4 20 J (skF hb158) D14 (tz2 21 J (cS hb149) D14 (xpB hb158 J) ?_))))))))
     exact hrest _ _ ⟨true,oi H,agP J,E,S.pk [0,1,2]⟩
    ·refine tz2 13 J (cS hb158) D14 (xmP J) (tz2 14 J (cS hb158) D14 (Qb J) (tz2 15 J (cS hb158) D14 (xfA Tryz.underlying69 ty23 J) (WtY 16 J J J (.agg (QF a0.C)) J (cS hb158) (fun w' h'=>Qi (Y1 h' 0 J) ty23 J (QG J) J J) D14 (tz2 17 J (cS hb158) D14 (xfA Tryz.underlying43 ty9 J) (tz3 18 J (cS hb158) D14 (fun w' h'=>xlA h' 2 ty9 J) ?_)))))
     refine Wo 19 J ?_
     refine QN (cS hb158) ?_
     obtain ⟨t161,ht162,H⟩:=QO H
     refine ZR fn61 (Yq.con ht162) S J J flN (eE4 E ?_)
     rintro _ w163 _ Γ' E S ⟨rfl,rfl⟩
     refine QK (Yl ⟨.inr ⟨M,Hp.le_refl M,(S.pk [0,1,2])⟩,?_⟩)
     have D17:∃ Mx,Hp.le M Mx∧St _ Mx F [_,_,_]:=⟨_,Hp.le_refl _,S.pk [0,1,2]⟩
     refine tz2 20 J (cS hb158) D17 (Xr (b:=t161) J) (tz2 21 J (cS hb149) D17 (xqB hb158 J) ?_)
     exact hrest _ _ ⟨(!t161),oi H,agP J,E,S.pk [0,1,2]⟩
   rintro ρ w164 ⟨x159,rfl,hρ,E,S⟩
   rw [QB hρ]
   have H:=o160H
   refine tz2 22 J (cS hb149) (⟨M,Hp.le_refl M,(S.pk [0,1,2])⟩) (xmB J) ?_
   refine YB (fun ρ w'=>QV ρ [(5,pt b1 0),(115,.bool (a2.Kind==(5:Int))),(138,.bool (x159||(decide (a2.Limit<(0:Int)))))]∧w164=w') 6 (Ls 33 [0,1,2,3,4,5,6,7,8,9,10,11,12,13,14,15,16,17,18,19,20,21,22,23,24,25,26]) ?_ ?_
   rotate_left
   ·intro hrest
    rcases Qy x159 with hb165 | hb165
    ·have D19:∃ Mx,Hp.le M Mx∧St _ Mx F [_,_,_]:=⟨_,Hp.le_refl _,S.pk [0,1,2]⟩
     refine tz2 23 J (cS hb165) D19 (xfA Tryz.underlying43 ty3 J) (tz3 24 J (cS hb165) D19 (fun w' h'=>xlA h' 2 ty3 J) (tz2 25 J (cS hb165) D19 (xiB J J) (tz2 26 J (cS hb149) D19 (xqB hb165 J) ?_)))
     exact hrest _ _ ⟨⟨J,J,(flB hb165),trivial⟩,rfl⟩
    ·have D20:∃ Mx,Hp.le M Mx∧St _ Mx F [_,_,_]:=⟨_,Hp.le_refl _,S.pk [0,1,2]⟩
     refine tz4 23 J (skF hb165) D20 (tz4 24 J (skF hb165) D20 (tz4 25 J (skF hb165) D20 (tz2 26 J (cS hb149) D20 (xpB hb165 J) ?_)))
     exact hrest _ _ ⟨⟨J,J,(flB hb165),trivial⟩,rfl⟩
   rintro ρ _ ⟨hρ,rfl⟩
   rw [QB hρ]
   refine tz2 27 J (cS hb149) (⟨M,Hp.le_refl M,(S.pk [0,1,2])⟩) (xmB J) ?_
   refine YB (fun ρ w'=>QV ρ [(115,.bool (a2.Kind==(5:Int))),(143,.bool ((x159||(decide (a2.Limit<(0:Int))))||(decide (a2.Limit>(128:Int)))))]∧w164=w') 1 (Ls 33 [0,1,2,3,4,5,6,7,8,9,10,11,12,13,14,15,16,17,18,19,20,21,22,23,24,25,26,27,28,29,30,31]) ?_ ?_
   rotate_left
   ·intro hrest
    rcases Qy (x159||(decide (a2.Limit<(0:Int)))) with hb166 | hb166
    ·have D22:∃ Mx,Hp.le M Mx∧St _ Mx F [_,_,_]:=⟨_,Hp.le_refl _,S.pk [0,1,2]⟩
     refine tz2 28 J (cS hb166) D22 (xfA Tryz.underlying43 ty3 J) (tz3 29 J (cS hb166) D22 (fun w' h'=>xlA h' 2 ty3 J) (tz2 30 J (cS hb166) D22 (xiB J J) (tz2 31 J (cS hb149) D22 (xqB hb166 J) ?_)))
     exact hrest _ _ ⟨⟨J,(flB hb166),trivial⟩,rfl⟩
    ·have D23:∃ Mx,Hp.le M Mx∧St _ Mx F [_,_,_]:=⟨_,Hp.le_refl _,S.pk [0,1,2]⟩
     refine tz4 28 J (skF hb166) D23 (tz4 29 J (skF hb166) D23 (tz4 30 J (skF hb166) D23 (tz2 31 J (cS hb149) D23 (xpB hb166 J) ?_)))
     exact hrest _ _ ⟨⟨J,(flB hb166),trivial⟩,rfl⟩
   rintro ρ _ ⟨hρ,rfl⟩
   rw [QB hρ]
   refine tz0 32 J (⟨M,Hp.le_refl M,(S.pk [0,1,2])⟩) (xpB hb149 J) ?_
   exact hrest _ _ ⟨((x159||(decide (a2.Limit<(0:Int))))||(decide (a2.Limit>(128:Int)))),oi H,agP J,E,S.pk [0,1,2]⟩
  ·refine tz4 4 J (skT hb149) D12 (tz4 5 J (skT hb149) D12 (tz4 6 J (skT hb149) D12 (tz4 7 J (skT hb149) D12 (tz4 8 J (skT hb149) D12 (tz4 9 J (skT hb149) D12 (tz4 10 J (skT hb149) D12 (tz4 11 J (skT hb149) D12 (tz4 12 J (skT hb149) D12 (tz4 13 J (J) D12 (tz4 14 J (J) D12 (tz4 15 J (J) D12 (tz4 16 J (J) D12 (tz4 17 J (J) D12 (tz4 18 J (J) D12 (tz4 19 J (J) D12 ?_)))))))))))))))
   refine tz4 20 J (J) D12 (tz4 21 J (skT hb149) D12 (tz4 22 J (skT hb149) D12 (tz4 23 J (J) D12 (tz4 24 J (J) D12 (tz4 25 J (J) D12 (tz4 26 J (skT hb149) D12 (tz4 27 J (skT hb149) D12 (tz4 28 J (J) D12 (tz4 29 J (J) D12 (tz4 30 J (J) D12 (tz4 31 J (skT hb149) D12 (tz0 32 J D12 (xqB hb149 J) ?_))))))))))))
   exact hrest _ _ ⟨false,oi H,agP J,E,S.pk [0,1,2]⟩
 rintro ρ w167 ⟨x150,rfl,hρ,E,S⟩
 rw [QB hρ]
 have H:=o151H
 refine Wz ?_
 refine tn ?_
 rcases Q3 H with ⟨hb168,H⟩ | ⟨hb168,H⟩
 ·refine QC (cB hb168) ?_
  refine wsQ (waI J (wnQ ?_))
  refine QT ?_
  refine tr (?_)
  obtain rfl:=oi H
  exact ⟨_,_,_,rsA (vs:=[_]) J,HM,E,S.pk [0,1],⟨J,J⟩⟩
 refine QA (cB hb168) (QX (tn ?_))
 as_aux_lemma =>
 refine wsQ (waI J (wnQ ?_))
 refine QT ?_
 obtain rfl:=oi H
 exact ⟨_,_,_,rsA (vs:=[_]) J,HM,E,S.pk [0,1],⟨J,J⟩⟩
def ZE (a0:QE):Nat→Int→Int→Option ((Int))
 | 0,_,_=>none
 | k+1,x77,x78=>(if (decide (x78<(a0.T.length:Int)))=true then (Option.bind (α:=Int) (if 0≤x78∧x78<(a0.T.length:Int) then (Option.bind (α:=Int) (if ((rd a0.T x78).State==(1:Int))=true then some ((IntKind.i64.wrap (x77+(1:Int)))) else some (x77)) (fun x149=>some (x149))) else none) (fun x135=>ZE a0 k x135 (IntKind.i64.wrap (x78+(1:Int))))) else some (x77))
theorem ZE.mono {a0}: ∀ {kl:Nat} {x0 x1},OLe (ZE a0 kl x0 x1) (ZE a0 (kl+1) x0 x1):=by
 intro kl
 induction kl with
 | zero=>intros;exact OLe.none
 | succ kl ih =>
  intros
  rw [ZE.eq_2,ZE.eq_2]
  exact mo
def Zf (k:Nat) (a0:QE):Option (Int) :=
 (Option.bind (ZE a0 k (0:Int) (0:Int)) (fun x115=>some x115))
theorem Zf.mono {k a0}: OLe (Zf k a0) (Zf (k+1) a0):=by
 unfold Zf
 have m1:=@ZE.mono
 exact mo
theorem Zf.con {k M A0_8 c0_8 A0_9 c0_9} {a0:QE} {bo0} {r:Int} (h:Zf k a0=some r) (hr0_9:SlR Qa M (.slice A0_9 a0.L.length c0_9) a0.L): Con Tryz.prog 42 #[pt bo0 0] M [B69 bo0 a0 A0_8 c0_8 A0_9 c0_9,Rw QD 112 A0_8 c0_8 a0.T] (fun v M' Γ'=>v=vI r∧Γ'=[B69 bo0 a0 A0_8 c0_8 A0_9 c0_9,Rw QD 112 A0_8 c0_8 a0.T]):=by
 refine cwA Tryz.func42 J Tryz.ntmps42 Tryz.results42 J h ?_
 intro w F rn S hrn E HM H
 unfold Zf at H
 refine wsQ (waI J (wnQ (wsQ (waI J (wnQ (QH (wsQ (waI J (wnQ ?_)))))))))
 obtain ⟨o116,o116h,o116H⟩:=QO H
 refine Zr (fun ρ w'=>∃ (x115:Int),(x115)=o116∧QV ρ [(3,vI x115)]∧Ext w w'∧St w' M F [B69 bo0 a0 A0_8 c0_8 A0_9 c0_9,Rw QD 112 A0_8 c0_8 a0.T]) ?_ ?_
 ·refine Yr (fun n ρ w'=>∃ (x77:Int) (x78:Int),ZE a0 n x77 x78=some o116∧QV ρ [(0,pt bo0 0),(3,vI x77),(4,vI x78)]∧Ext w w'∧St w' M F [B69 bo0 a0 A0_8 c0_8 A0_9 c0_9,Rw QD 112 A0_8 c0_8 a0.T]) k ?_ ?_
  ·exact ⟨(0:Int),(0:Int),o116h,agP J,E,S.pk [0,1]⟩
  ·intro n
   rintro ρ w117 ⟨x77,x78,H,hρ,E,S⟩
   rw [QB hρ]
   cases n with
   | zero=>cases H
   | succ k =>
    rw [ZE.eq_2] at H
    refine QH (wsQ (wmI J (wmP J (W_v _ (Qb J) J (wfA Tryz.underlying69 ty66 J (wlA S 0 ty66 J (W_v _ (Qm (n:=a0.T.length) Tryz.underlying66 J) J (wiB J J (wnQ ?_)))))))))
    rcases Q3 H with ⟨hb118,H⟩ | ⟨hb118,H⟩
    ·refine QC (cB hb118) ?_
     refine QX (tn (QH ?_))
     obtain ⟨o136,o136h,o136H⟩:=QO H
     refine Yc (fun ρ w'=>∃ (x135:Int),(x135)=o136∧QV ρ [(0,pt bo0 0),(3,vI x135),(4,vI x78)]∧Ext w w'∧St w' M F [B69 bo0 a0 A0_8 c0_8 A0_9 c0_9,Rw QD 112 A0_8 c0_8 a0.T]) ?_ ?_
     ·as_aux_lemma =>
       clear o136H
       have H:=o136h
       refine ZW ?_
       refine wsQ (wmP J (W_v _ (Qb J) J (wfA Tryz.underlying69 ty66 J (wlA S 0 ty66 J (wmI J ?_)))))
       obtain ⟨⟨p137,p138⟩,H⟩:=Z8 H
       obtain ⟨b139,o140,cs141,_,_,ee146,hb142,vs143,hR144,hc145⟩:=SlW.at' (S.row_read 1 J) p137 p138
       obtain rfl:vs143=_:=hR144
       refine W_v _ (QS Tryz.underlying66 ty112 (slA ee146) J p137 p138) J (wfA Tryz.underlying112 ty5 J (W_v _ (Z0 (Hp.of_get hb142) ty5 J (hc145 2 _ J)) J (wiB J J (wnQ ?_))))
       obtain ⟨o150,o150h,o150H⟩:=QO H
       refine Yc (fun ρ w'=>∃ (x149:Int),(x149)=o150∧QV ρ [(0,pt bo0 0),(3,vI x149),(4,vI x78)]∧Ext w w'∧St w' M F [B69 bo0 a0 A0_8 c0_8 A0_9 c0_9,Rw QD 112 A0_8 c0_8 a0.T]) ?_ ?_
       ·clear o150H
        have H:=o150h
        rcases Q3 H with ⟨hb151,H⟩ | ⟨hb151,H⟩
        ·refine QC (cB hb151) ?_
         refine QJ (wmI J (wiI J J (waI J (wnQ ?_))))
         exact ⟨(IntKind.i64.wrap (x77+(1:Int))),oi H,agP J,E,S.pk [0,1]⟩
        refine QA (cB hb151) (QX (tn ?_))
        exact ⟨x77,oi H,agP J,E,S.pk [0,1]⟩
       rintro ρ w152 ⟨x149,rfl,hρ,E,S⟩
       rw [QB hρ]
       have H:=o150H
       refine bn (tn ?_)
       exact ⟨x149,oi H,agP J,E,S.pk [0,1]⟩
     rintro ρ w153 ⟨x135,rfl,hρ,E,S⟩
     rw [QB hρ]
     have H:=o136H
     refine tn (QJ (wmI J (wiI J J (waI J (wnQ ?_)))))
     exact ⟨k,Nat.lt_succ_self k,⟨x135,(IntKind.i64.wrap (x78+(1:Int))),H,agP J,E,S.pk [0,1]⟩⟩
    refine QA (cB hb118) ?_
    refine YZ ?_
    refine tx (tx (bsm (?_)))
    refine tn ?_
    exact ⟨x77,oi H,agP J,E,S.pk [0,1]⟩
 rintro ρ w154 ⟨x115,rfl,hρ,E,S⟩
 rw [QB hρ]
 have H:=o116H
 refine tn ?_
 as_aux_lemma =>
 refine wsQ (wmI J (waI J (wnQ ?_)))
 refine QT ?_
 obtain rfl:=oi H
 exact ⟨_,_,_,rsA (vs:=[_]) J,HM,E,S.pk [0,1],⟨J,J⟩⟩
def ZF (a0:QE) (a1:Str):Nat→Int→Option ((Qk)⊕(Unit))
 | 0,_=>none
 | k+1,x68=>(if (decide (x68<(a0.L.length:Int)))=true then (if 0≤x68∧x68<(a0.L.length:Int) then (if (sbin .eql ((rd a0.L x68).Key) a1)=true then (if 0≤x68∧x68<(a0.L.length:Int) then some (.inl (rd a0.L x68)) else none) else ZF a0 a1 k (IntKind.i64.wrap (x68+(1:Int)))) else none) else some (.inr ()))
theorem ZF.mono {a0 a1}: ∀ {kl:Nat} {x0},OLe (ZF a0 a1 kl x0) (ZF a0 a1 (kl+1) x0):=by
 intro kl
 induction kl with
 | zero=>intros;exact OLe.none
 | succ kl ih =>
  intros
  rw [ZF.eq_2,ZF.eq_2]
  exact mo
def ZZ (k:Nat) (a0:QE) (a1:Str):Option (Qk) :=
 (Option.bind (ZF a0 a1 k (0:Int)) (fun o100o=>Sum.elim (fun r'=>some r') (fun _=>some (⟨a1,([]:(List QU)),false,⟨(0:Int),(0:Int),false,([]:Str)⟩⟩:Qk)) o100o))
theorem ZZ.mono {k a0 a1}: OLe (ZZ k a0 a1) (ZZ (k+1) a0 a1):=by
 unfold ZZ
 have m1:=@ZF.mono
 exact mo
theorem ZZ.con {k M A0_8 c0_8 A0_9 c0_9} {a0:QE} {a1:Str} {bo0} {r:Qk} (h:ZZ k a0 a1=some r) (hr0_9:SlR Qa M (.slice A0_9 a0.L.length c0_9) a0.L): Con Tryz.prog 44 #[pt bo0 0,vS a1] M [B69 bo0 a0 A0_8 c0_8 A0_9 c0_9,Rw QD 112 A0_8 c0_8 a0.T] (fun v M' Γ'=>∃ (Aq1:Option Addr) (cq2:Nat),v=.agg #[vS r.Key,.slice Aq1 r.L.length cq2,.bool r.Has,vI r.I.Writer,vI r.I.TS,.bool r.I.Tomb,vS r.I.Value]∧SlR ZL M' (.slice Aq1 r.L.length cq2) r.L∧Γ'=[B69 bo0 a0 A0_8 c0_8 A0_9 c0_9,Rw QD 112 A0_8 c0_8 a0.T]):=by
 refine cwA Tryz.func44 J Tryz.ntmps44 Tryz.results44 J h ?_
 intro w F rn S hrn E HM H
 unfold ZZ at H
 refine wsQ ?_
 refine YN S cz3 ty110 J J (eE2 E ?_)
 intro b1 w2 E S
 refine wnQ (QH (wsQ (waI J (wnQ ?_))))
 obtain ⟨o100,o100h,o100H⟩:=QO H
 refine Zr (fun ρ w'=>.inr ()=o100∧QV ρ [(1,vS a1),(4,pt b1 0)]∧Ext w w'∧St w' M F [Blk b1 (.cells cz3 110 (0,0)),B69 bo0 a0 A0_8 c0_8 A0_9 c0_9,Rw QD 112 A0_8 c0_8 a0.T]) ?_ ?_
 ·refine Yr (fun n ρ w'=>∃ (x68:Int),ZF a0 a1 n x68=some o100∧QV ρ [(0,pt bo0 0),(1,vS a1),(4,pt b1 0),(5,vI x68)]∧Ext w w'∧St w' M F [Blk b1 (.cells cz3 110 (0,0)),B69 bo0 a0 A0_8 c0_8 A0_9 c0_9,Rw QD 112 A0_8 c0_8 a0.T]) k ?_ ?_
  ·exact ⟨(0:Int),o100h,agP J,E,S.pk [0,1,2]⟩
  ·intro n
   rintro ρ w101 ⟨x68,H,hρ,E,S⟩
   rw [QB hρ]
   cases n with
   | zero=>cases H
   | succ k =>
    rw [ZF.eq_2] at H
    refine QH (wsQ (wmI J (wmP J (W_v _ (Qb J) J (wfA Tryz.underlying69 ty67 J (wlA S 1 ty67 J (W_v _ (Qm (n:=a0.L.length) Tryz.underlying67 J) J (wiB J J (wnQ ?_)))))))))
    rcases Q3 H with ⟨hb102,H⟩ | ⟨hb102,H⟩
    ·refine QC (cB hb102) ?_
     refine QX (tn (QH ?_))
     refine ZW ?_
     refine wsQ (wmP J (W_v _ (Qb J) J (wfA Tryz.underlying69 ty67 J (wlA S 1 ty67 J (wmI J ?_)))))
     obtain ⟨⟨p103,p104⟩,H⟩:=Z8 H
     obtain ⟨b105,o106,cs107,_,_,ee112,hb108,vs109,hR110,hc111⟩:=SlW.at' hr0_9 p103 p104
     obtain ⟨v116,hs115,rfl⟩:=hR110
     obtain ⟨A113,c114,rfl,_⟩:=hs115.form
     refine W_v _ (QS Tryz.underlying67 ty110 (slA ee112) J p103 p104) J (wfA Tryz.underlying110 ty9 J (W_v _ (Z0 (S.frz hb108) ty9 J (hc111 0 _ J)) J (wmS J (W_v (.bool (sbin .eql ((rd a0.L x68).Key) a1)) (UV J J J) J (wnQ ?_)))))
     rcases Q3 H with ⟨hb117,H⟩ | ⟨hb117,H⟩
     ·refine QC (cB hb117) ?_
      refine wsQ (wmP J (W_v _ (Qb J) J (wfA Tryz.underlying69 ty67 J (wlA S 1 ty67 J (wmI J ?_)))))
      obtain ⟨⟨p118,p119⟩,H⟩:=Z8 H
      obtain ⟨b120,o121,cs122,_,_,ee127,hb123,vs124,hR125,hc126⟩:=SlW.at' hr0_9 p118 p119
      obtain ⟨v131,hs130,rfl⟩:=hR125
      obtain ⟨A128,c129,rfl,_⟩:=hs130.form
      refine W_v _ (QS Tryz.underlying67 ty110 (slA ee127) J p118 p119) J (W_v (.agg #[vS ((rd a0.L x68).Key),.slice A128 ((rd a0.L x68).L).length c129,.bool ((rd a0.L x68).Has),vI ((rd a0.L x68).I.Writer),vI ((rd a0.L x68).I.TS),.bool ((rd a0.L x68).I.Tomb),vS ((rd a0.L x68).I.Value)]) (Qi (S.frz hb123) ty110 J (X1 hc126 0 J) J J) J ?_)
      refine Qu S 0 J ty110 J J [vS ((rd a0.L x68).Key),.slice A128 ((rd a0.L x68).L).length c129,.bool ((rd a0.L x68).Has),vI ((rd a0.L x68).I.Writer),vI ((rd a0.L x68).I.TS),.bool ((rd a0.L x68).I.Tomb),vS ((rd a0.L x68).I.Value)] J J J #[vS ((rd a0.L x68).Key),.slice A128 ((rd a0.L x68).L).length c129,.bool ((rd a0.L x68).Has),vI ((rd a0.L x68).I.Writer),vI ((rd a0.L x68).I.TS),.bool ((rd a0.L x68).I.Tomb),vS ((rd a0.L x68).I.Value)] (by as_aux_lemma=>kernel_rfl) J (eE1 E ?_)
      intro w132 E S
      refine wnQ ?_
      refine QT ?_
      refine br (tr (tr (br (tr (tr (?_))))))
      obtain rfl:=oi H
      have H:=o100H
      replace H:=elimL H
      obtain rfl:=oi H
      exact ⟨_,_,_,fun w1 e1=>Zg (vs:=[.agg #[vS ((rd a0.L x68).Key),.slice A128 ((rd a0.L x68).L).length c129,.bool ((rd a0.L x68).Has),vI ((rd a0.L x68).I.Writer),vI ((rd a0.L x68).I.TS),.bool ((rd a0.L x68).I.Tomb),vS ((rd a0.L x68).I.Value)]]) (FA.cons (rcA S e1 0 ty110 J J J) (FA.nil)),HM,E,S.pk [1,2],⟨A128,c129,J,hs130,J⟩⟩
     refine QA (cB hb117) (QX (bn (tn (QJ (wmI J (wiI J J (waI J (wnQ ?_))))))))
     exact ⟨k,Nat.lt_succ_self k,⟨(IntKind.i64.wrap (x68+(1:Int))),H,agP J,E,S.pk [0,1,2]⟩⟩
    refine QA (cB hb102) ?_
    refine YZ ?_
    refine tx (tx (bsm (?_)))
    refine tn ?_
    exact ⟨oi H,agP J,E,S.pk [0,1,2]⟩
 rintro ρ w133 ⟨rfl,hρ,E,S⟩
 rw [QB hρ]
 have H:=o100H
 replace H:=elimR H
 refine tn ?_
 as_aux_lemma =>
 refine wsQ (wmS J (W_v _ (xb2 [(0,1),(1,1),(2,1),(3,4)] #[vS a1,.slice none 0 0,.bool false,vI 0,vI 0,.bool false,vS ([]:Str)] Tryz.underlying110 ty110 J) J ?_))
 refine Qu S 0 J ty110 J J [vS a1,.slice none 0 0,.bool false,vI 0,vI 0,.bool false,vS ([]:Str)] J J J #[vS a1,.slice none 0 0,.bool false,vI 0,vI 0,.bool false,vS ([]:Str)] (by as_aux_lemma=>kernel_rfl) J (eE1 E ?_)
 intro w134 E S
 refine wnQ ?_
 refine QT ?_
 obtain rfl:=oi H
 exact ⟨_,_,_,fun w1 e1=>Zg (vs:=[.agg #[vS a1,.slice none 0 0,.bool false,vI 0,vI 0,.bool false,vS ([]:Str)]]) (FA.cons (rcA S e1 0 ty110 J J J) (FA.nil)),HM,E,S.pk [1,2],⟨none,0,J,SlW.nil _ _,J⟩⟩
def Q4 (k:Nat) (a0:QE) (a1:Int) (a2:Qk):Option (Str×Bool) :=
 (if (a2.Has&&(a2.I.Writer==a1))=true then some (a2.I.Value,(!a2.I.Tomb)) else (if 0≤(IntKind.i64.wrap (a1-(1:Int)))∧(IntKind.i64.wrap (a1-(1:Int)))<(a0.T.length:Int) then (Option.bind (α:=Int×Int×Bool×Str×Bool) (Option.bind (Yn k a2.L ((rd a0.T (IntKind.i64.wrap (a1-(1:Int)))).Snapshot)) (fun t111=>some (t111.1.Writer,t111.1.TS,t111.1.Tomb,t111.1.Value,t111.2))) (fun ⟨x106,x107,x108,x109,x110⟩=>some (x109,x110))) else none))
theorem Q4.mono {k a0 a1 a2}: OLe (Q4 k a0 a1 a2) (Q4 (k+1) a0 a1 a2):=by
 unfold Q4
 have m1:=@Yn.mono
 exact mo
theorem Q4.con {k M A0_8 c0_8 A0_9 c0_9} {a0:QE} {a1:Int} {A2_0 c2_0} {a2:Qk} {bo0} {r:Str×Bool} (h:Q4 k a0 a1 a2=some r) (hr0_9:SlR Qa M (.slice A0_9 a0.L.length c0_9) a0.L) (hr2_0:SlR ZL M (.slice A2_0 a2.L.length c2_0) a2.L): Con Tryz.prog 43 #[pt bo0 0,vI a1,.agg #[vS a2.Key,.slice A2_0 a2.L.length c2_0,.bool a2.Has,vI a2.I.Writer,vI a2.I.TS,.bool a2.I.Tomb,vS a2.I.Value]] M [B69 bo0 a0 A0_8 c0_8 A0_9 c0_9,Rw QD 112 A0_8 c0_8 a0.T] (fun v M' Γ'=>v=.tuple #[vS r.1,.bool r.2]∧Γ'=[B69 bo0 a0 A0_8 c0_8 A0_9 c0_9,Rw QD 112 A0_8 c0_8 a0.T]):=by
 refine cwA Tryz.func43 J Tryz.ntmps43 Tryz.results43 J h ?_
 intro w F rn S hrn E HM H
 unfold Q4 at H
 refine wsQ ?_
 refine Yz S #[vS a2.Key,.slice A2_0 a2.L.length c2_0,.bool a2.Has,vI a2.I.Writer,vI a2.I.TS,.bool a2.I.Tomb,vS a2.I.Value] J J J (eE2 E ?_)
 intro b1 w2 E S
 refine waS J (waB J (wnQ (QH (wsQ (wfA Tryz.underlying110 ty4 J (wlA S 0 ty4 J (wmB J ?_)))))))
 refine ZO 6 (fun ρ w'=>QV ρ [(0,pt bo0 0),(1,vI a1),(5,pt b1 0),(18,.bool (a2.Has&&(a2.I.Writer==a1)))]∧w2=w') ?_ ?_
 ·rcases Qy a2.Has with hb4 | hb4
  ·refine QZ (skT hb4) J (QZ (skT hb4) J (QZ (skT hb4) J (QZ (skT hb4) J (QZ (skT hb4) J (wqB hb4 J (QK ?_))))))
   exact ⟨⟨J,J,J,(flB hb4),trivial⟩,rfl⟩
  ·refine QN (cS hb4) (wfA Tryz.underlying110 ty88 J (QN (cS hb4) (wfA Tryz.underlying88 ty3 J (QN (cS hb4) (wlA S 0 ty3 J (QN (cS hb4) (wmI J (QN (cS hb4) (wiB J J (wpB hb4 J (QK ?_)))))))))))
   exact ⟨⟨J,J,J,(flB hb4),trivial⟩,rfl⟩
 as_aux_lemma =>
 rintro ρ _ ⟨hρ,rfl⟩
 rw [QB hρ]
 refine wnQ ?_
 rcases Q3 H with ⟨hb5,H⟩ | ⟨hb5,H⟩
 ·refine QC (cB hb5) ?_
  refine QH ?_
  refine rgA S [0,1,2] [_,_,_] 9 mixed J (eE1 E ?_)
  intro w6 E S D1
  refine tz0 0 J D1 (xfA Tryz.underlying110 ty88 J) (tz0 1 J D1 (xfA Tryz.underlying88 ty9 J) (tz1 2 J D1 (fun w' h'=>xlA h' 0 ty9 J) (tz0 3 J D1 (xfA Tryz.underlying110 ty88 J) (tz0 4 J D1 (xfA Tryz.underlying88 ty4 J) (tz1 5 J D1 (fun w' h'=>xlA h' 0 ty4 J) (tz0 6 J D1 (Xr (b:=a2.I.Tomb) J) (tz0 7 J D1 (xaS J) (tz0 8 J D1 (xaB J) ?_))))))))
  refine Wz ?_
  refine tn ?_
  refine QT ?_
  refine tr (?_)
  obtain rfl:=oi H
  exact ⟨_,_,_,rsA (vs:=[_,_]) J,HM,E,S.pk [1,2],⟨J,J⟩⟩
 refine QA (cB hb5) (QX (tn (QH ?_)))
 refine rgA S [0,1,2] [_,_,_] 18 mixed J (eE1 E ?_)
 intro w78 E S D2
 refine tz0 0 J D2 (xfA Tryz.underlying110 ty86 J) (tz1 1 J D2 (fun w' h'=>xlA h' 0 ty86 J) (tz0 2 J D2 (xmP J) (tz0 3 J D2 (Qb J) (tz0 4 J D2 (xfA Tryz.underlying69 ty66 J) (tz1 5 J D2 (fun w' h'=>xlA h' 1 ty66 J) (tz0 6 J D2 (xmI J) (tz0 7 J D2 (xiI J J) ?_)))))))
 obtain ⟨⟨p80,p81⟩,H⟩:=Z8 H
 obtain ⟨b82,o83,_,_,_,ee84,_⟩:=SlW.at' (S.row_read 2 J) p80 p81
 refine tz0 8 J D2 (QS Tryz.underlying66 ty112 (slA ee84) J p80 p81) (tz0 9 J D2 (X2 (o:=o83+(IntKind.i64.wrap (a1-(1:Int))).toNat*4) (off:=3) Tryz.underlying112 J ty3 J J) (Wt 10 J J J (vI ((rd a0.T (IntKind.i64.wrap (a1-(1:Int)))).Snapshot)) J (fun w' h'=>X9 h' 2 J ee84 p80 p81 3 (by rintro _ _ rfl;rfl) ty3 J) D2 ?_))
 obtain ⟨o129,o129h,o129H⟩:=QO H
 refine YB (fun ρ w'=>∃ (x106:Int) (x107:Int) (x108:Bool) (x109:Str) (x110:Bool) (b104:Nat),(x106,x107,x108,x109,x110)=o129∧QV ρ [(8,pt b104 0),(39,.agg #[vI x106,vI x107,.bool x108,vS x109]),(40,.bool x110)]∧Ext w w'∧St w' M F [Blk b104 (.cells cz18 88 (0,0)),B110 b1 a2 A2_0 c2_0,B69 bo0 a0 A0_8 c0_8 A0_9 c0_9,Rw QD 112 A0_8 c0_8 a0.T]) 2 (Ls 18 [0,1,2,3,4,5,6,7,8,9,10,11,12,13,14,15]) ?_ ?_
 rotate_left
 ·intro hq133
  refine YB (fun ρ w'=>∃ (x96:Int) (x97:Int) (x98:Bool) (x99:Str) (x100:Bool),some (x96,x97,x98,x99,x100)=some o129∧QV ρ [(39,.agg #[vI x96,vI x97,.bool x98,vS x99]),(40,.bool x100)]∧Ext w w'∧St w' M F [B110 b1 a2 A2_0 c2_0,B69 bo0 a0 A0_8 c0_8 A0_9 c0_9,Rw QD 112 A0_8 c0_8 a0.T]) 3 (Ls 18 [0,1,2,3,4,5,6,7,8,9,10,11,12,13,14]) ?_ ?_
  ·clear o129h
   rintro ρ w134 ⟨x96,x97,x98,x99,x100,H,hρ,E,S⟩
   rw [QB hρ]
   refine Wo 15 J ?_
   refine YN S cz18 ty88 J J (eE2 E ?_)
   intro b135 w136 E S
   refine QK (Yl ⟨.inr ⟨M,Hp.le_refl M,(S.pk [1,2,3])⟩,?_⟩)
   exact hq133 _ _ ⟨x96,x97,x98,x99,x100,b135,oi H,agP J,E,S.pk [0,1,2,3]⟩
  intro hq132
  refine YB (fun ρ w'=>∃ (b91:Nat),(Option.bind (Yn k a2.L ((rd a0.T (IntKind.i64.wrap (a1-(1:Int)))).Snapshot)) (fun t123=>some (t123.1.Writer,t123.1.TS,t123.1.Tomb,t123.1.Value,t123.2)))=some o129∧QV ρ [(8,pt b91 0),(28,.slice A2_0 a2.L.length c2_0),(37,vI ((rd a0.T (IntKind.i64.wrap (a1-(1:Int)))).Snapshot))]∧Ext w w'∧St w' M F [Blk b91 (.cells cz18 88 (0,0)),B110 b1 a2 A2_0 c2_0,B69 bo0 a0 A0_8 c0_8 A0_9 c0_9,Rw QD 112 A0_8 c0_8 a0.T]) 6 (Ls 18 [0,1,2,3,4,5,6,7,8,9,10,15]) ?_ ?_
  ·clear o129h
   rintro ρ w138 ⟨b91,H,hρ,E,S⟩
   rw [QB hρ]
   refine Wo 11 J ?_
   obtain ⟨t139,ht140,H⟩:=QO H
   refine ZR fn62 (Yn.con ht140 hr2_0) S J J flN (eE4 E ?_)
   rintro _ w141 _ Γ' E S ⟨rfl,rfl⟩
   refine QK (Yl ⟨.inr ⟨M,Hp.le_refl M,(S.pk [1,2,3])⟩,?_⟩)
   have D3:∃ Mx,Hp.le M Mx∧St _ Mx F [_,_,_]:=⟨_,Hp.le_refl _,S.pk [1,2,3]⟩
   refine tz0 12 J D3 (xmT J) (tz0 13 J D3 (QR J J) (tz0 14 J D3 (QR J J) ?_))
   exact hq133 _ _ ⟨t139.1.Writer,t139.1.TS,t139.1.Tomb,t139.1.Value,t139.2,b91,oi H,agP J,E,S.pk [0,1,2,3]⟩
  intro hq131
  have H:=o129h
  refine V4 (rs:=[11,15]) (by kernel_rfl) (by decide) ?_
  simp only [List.forall_mem_cons,List.not_mem_nil,false_implies,implies_true,and_true]
  refine ⟨?_,?_⟩
  ·refine ⟨_,J,?_⟩
   obtain ⟨t142,ht143,H⟩:=QO H
   refine ZR fn62 (Yn.con ht143 hr2_0) S J J flN (eE4 E ?_)
   rintro _ w144 _ Γ' E S ⟨rfl,rfl⟩
   refine QK (Yl ⟨.inr ⟨M,Hp.le_refl M,(S.pk [0,1,2])⟩,?_⟩)
   have D4:∃ Mx,Hp.le M Mx∧St _ Mx F [_,_,_]:=⟨_,Hp.le_refl _,S.pk [0,1,2]⟩
   refine tz0 12 J D4 (xmT J) (tz0 13 J D4 (QR J J) (tz0 14 J D4 (QR J J) ?_))
   exact hq132 _ _ ⟨t142.1.Writer,t142.1.TS,t142.1.Tomb,t142.1.Value,t142.2,H,agP J,E,S.pk [0,1,2]⟩
  ·refine ⟨_,J,?_⟩
   refine YN S cz18 ty88 J J (eE2 E ?_)
   intro b145 w146 E S
   refine QK (Yl ⟨.inr ⟨M,Hp.le_refl M,(S.pk [1,2,3])⟩,?_⟩)
   exact hq131 _ _ ⟨b145,H,agP J,E,S.pk [0,1,2,3]⟩
 rintro ρ w148 ⟨x106,x107,x108,x109,x110,b104,rfl,hρ,E,S⟩
 rw [QB hρ]
 have H:=o129H
 refine Wo 16 J ?_
 refine Qu S 0 J ty88 J J [vI x106,vI x107,.bool x108,vS x109] J J J #[vI x106,vI x107,.bool x108,vS x109] J J (eE1 E ?_)
 intro w149 E S
 refine QK (Yl ⟨.inr ⟨M,Hp.le_refl M,(S.pk [1,2,3])⟩,?_⟩)
 refine tz0 17 J (⟨M,Hp.le_refl M,(S.pk [1,2,3])⟩) (xaB J) ?_
 refine Wz ?_
 refine tn ?_
 as_aux_lemma =>
 refine wsQ (wfA Tryz.underlying88 ty9 J (wlA S 0 ty9 J (wmB J (waS J (waB J (wnQ ?_))))))
 refine QT ?_
 obtain rfl:=oi H
 exact ⟨_,_,_,rsA (vs:=[_,_]) J,HM,E,S.pk [2,3],⟨J,J⟩⟩
def Zb (k:Nat) (a0:QE) (a1:Int) (a2:Str) (a3:Str) (a4:Bool):Option (Ql×QE) :=
 (Option.bind (ZZ k a0 a2) (fun t4=>(Option.bind (α:=Bool) (if (t4.Has&&(t4.I.Writer != a1))=true then some (true) else (if 0≤(IntKind.i64.wrap (a1-(1:Int)))∧(IntKind.i64.wrap (a1-(1:Int)))<(a0.T.length:Int) then (Option.bind (Y5 k t4.L ((rd a0.T (IntKind.i64.wrap (a1-(1:Int)))).Snapshot)) (fun t56=>some (t56))) else none)) (fun x49=>(if x49=true then some (cz9,a0) else (Option.bind (Q4 k a0 a1 t4) (fun t63=>(if (a4&&(!t63.2))=true then some (cz11,a0) else (if ((!t4.Has)&&((((t4.L.length:Int)==(0:Int))&&(decide ((a0.L.length:Int)≥a0.C.Keys)))||(decide ((t4.L.length:Int)≥a0.C.Depth))))=true then some (cz8,a0) else (Option.bind (Qr k a0 (⟨t4.Key,t4.L,true,⟨a1,(0:Int),a4,a3⟩⟩:Qk)) (fun t89=>some ((⟨(0:Int),a4,([]:Str),([]:List Qp)⟩:Ql),t89))))))))))))
theorem Zb.mono {k a0 a1 a2 a3 a4}: OLe (Zb k a0 a1 a2 a3 a4) (Zb (k+1) a0 a1 a2 a3 a4):=by
 unfold Zb
 have m1:=@Y5.mono
 have m2:=@ZZ.mono
 have m3:=@Q4.mono
 have m4:=@Qr.mono
 exact mo
theorem Zb.con {k M A0_8 c0_8 A0_9 c0_9} {a0:QE} {a1:Int} {a2:Str} {a3:Str} {a4:Bool} {bo0} {r:Ql×QE} (h:Zb k a0 a1 a2 a3 a4=some r) (hr0_9:SlR Qa M (.slice A0_9 a0.L.length c0_9) a0.L): Con Tryz.prog 45 #[pt bo0 0,vI a1,vS a2,vS a3,.bool a4] M [B69 bo0 a0 A0_8 c0_8 A0_9 c0_9,Rw QD 112 A0_8 c0_8 a0.T] (fun v M' Γ'=>∃ (Aq1:Option Addr) (cq2:Nat) (Aq4:Option Addr) (cq5:Nat) (Aq7:Option Addr) (cq8:Nat),v=.agg #[vI r.1.Err,.bool r.1.Found,vS r.1.Value,.slice Aq1 r.1.Pairs.length cq2]∧SlR Qa M' (.slice Aq7 r.2.L.length cq8) r.2.L∧Γ'=[Rw Qq 119 Aq1 cq2 r.1.Pairs,B69 bo0 r.2 Aq4 cq5 Aq7 cq8,Rw QD 112 Aq4 cq5 r.2.T]):=by
 refine cwA Tryz.func45 J Tryz.ntmps45 Tryz.results45 J h ?_
 intro w F rn S hrn E HM H
 unfold Zb at H
 refine wsQ ?_
 refine YN S cz16 ty38 J J (eE2 E ?_)
 intro b1 w2 E S
 refine wnQ (wsQ (wmP J (wmS J ?_)))
 obtain ⟨t4,ht5,H⟩:=QO H
 replace S:St w2 M F [_,_,_]:=S.pk [1,2,0]
 refine Y2 fn44 (ZZ.con ht5 hr0_9) (Γ1:=[_,_]) (Γ2:=[_]) S J J ?_
 rintro _ w9 M10 Γ' hM11 E' S ⟨A6,c7,rfl,hs8,rfl⟩
 replace HM:=Hp.le_trans HM hM11
 replace hr0_9:=SlR.mono hr0_9 hM11
 replace E:=E.trans E'
 replace S:St w9 M10 F [_,_,_]:=S
 refine YN S cz3 ty110 J J (eE2 E ?_)
 intro b12 w13 E S
 refine Qu S 0 J ty110 J J [vS t4.Key,.slice A6 t4.L.length c7,.bool t4.Has,vI t4.I.Writer,vI t4.I.TS,.bool t4.I.Tomb,vS t4.I.Value] J J J #[vS t4.Key,.slice A6 t4.L.length c7,.bool t4.Has,vI t4.I.Writer,vI t4.I.TS,.bool t4.I.Tomb,vS t4.I.Value] (by as_aux_lemma=>kernel_rfl) J (eE1 E ?_)
 intro w15 E S
 refine wnQ (QH (QH ?_))
 refine rgA S [0,1,2,3] [_,_,_,_] 23 mixed J (eE1 E ?_)
 intro w37 E S D1
 refine tz0 0 J D1 (xfA Tryz.underlying110 ty4 J) (tz1 1 J D1 (fun w' h'=>xlA h' 0 ty4 J) (tz0 2 J D1 (xmB J) ?_))
 refine YB (fun ρ w'=>QV ρ [(0,pt bo0 0),(1,vI a1),(3,vS a3),(4,.bool a4),(10,pt b1 0),(11,pt b12 0),(25,.bool (t4.Has&&(t4.I.Writer != a1)))]∧w37=w') 14 (Ls 23 [0,1,2,3,4,5,6,7,8]) ?_ ?_
 rotate_left
 ·intro hrest
  rcases Qy t4.Has with hb39 | hb39
  ·refine tz4 3 J (skT hb39) D1 (tz4 4 J (skT hb39) D1 (tz4 5 J (skT hb39) D1 (tz4 6 J (skT hb39) D1 (tz4 7 J (skT hb39) D1 (tz0 8 J D1 (xqB hb39 J) ?_)))))
   exact hrest _ _ ⟨⟨J,J,J,J,J,J,(flB hb39),trivial⟩,rfl⟩
  ·refine tz2 3 J (cS hb39) D1 (xfA Tryz.underlying110 ty88 J) (tz2 4 J (cS hb39) D1 (xfA Tryz.underlying88 ty3 J) (tz3 5 J (cS hb39) D1 (fun w' h'=>xlA h' 0 ty3 J) (tz2 6 J (cS hb39) D1 (xmI J) (tz2 7 J (cS hb39) D1 (xiB J J) (tz0 8 J D1 (xpB hb39 J) ?_)))))
   exact hrest _ _ ⟨⟨J,J,J,J,J,J,(flB hb39),trivial⟩,rfl⟩
 rintro ρ _ ⟨hρ,rfl⟩
 rw [QB hρ]
 refine tz0 9 J (⟨M10,Hp.le_refl M10,(S.pk [0,1,2,3])⟩) (xmB J) ?_
 obtain ⟨o50,o50h,o50H⟩:=QO H
 refine YB (fun ρ w'=>∃ (x49:Bool),(x49)=o50∧QV ρ [(0,pt bo0 0),(1,vI a1),(3,vS a3),(4,.bool a4),(10,pt b1 0),(11,pt b12 0),(39,.bool x49)]∧Ext w w'∧St w' M10 F [B110 b12 t4 A6 c7,B69 bo0 a0 A0_8 c0_8 A0_9 c0_9,Rw QD 112 A0_8 c0_8 a0.T,Blk b1 (.cells cz16 38 (0,0))]) 0 (Ls 23 [0,1,2,3,4,5,6,7,8,9,10,11,12,13,14,15,16,17,18,19,20,21,22]) ?_ ?_
 rotate_left
 ·intro hrest
  have H:=o50h
  rcases Q3 H with ⟨hb48,H⟩ | ⟨hb48,H⟩
  ·refine tz4 10 J (skF hb48) D1 (tz4 11 J (skF hb48) D1 (tz4 12 J (skF hb48) D1 (tz4 13 J (skF hb48) D1 (tz4 14 J (skF hb48) D1 (tz4 15 J (skF hb48) D1 (tz4 16 J (skF hb48) D1 (tz4 17 J (skF hb48) D1 (tz4 18 J (skF hb48) D1 (tz4 19 J (skF hb48) D1 (tz4 20 J (skF hb48) D1 (tz4 21 J (skF hb48) D1 (tz0 22 J D1 (xpB hb48 J) ?_))))))))))))
   exact hrest _ _ ⟨true,oi H,agP J,E,S.pk [0,1,2,3]⟩
  ·refine tz2 10 J (cS hb48) D1 (xfA Tryz.underlying110 ty86 J) (tz3 11 J (cS hb48) D1 (fun w' h'=>xlA h' 0 ty86 J) (tz2 12 J (cS hb48) D1 (xmP J) (tz2 13 J (cS hb48) D1 (Qb J) (tz2 14 J (cS hb48) D1 (xfA Tryz.underlying69 ty66 J) (tz3 15 J (cS hb48) D1 (fun w' h'=>xlA h' 1 ty66 J) (tz2 16 J (cS hb48) D1 (xmI J) (tz2 17 J (cS hb48) D1 (xiI J J) ?_)))))))
   obtain ⟨⟨p51,p52⟩,H⟩:=Z8 H
   obtain ⟨b53,o54,_,_,_,ee55,_⟩:=SlW.at' (S.row_read 2 J) p51 p52
   refine tz2 18 J (cS hb48) D1 (QS Tryz.underlying66 ty112 (slA ee55) J p51 p52) (tz2 19 J (cS hb48) D1 (X2 (o:=o54+(IntKind.i64.wrap (a1-(1:Int))).toNat*4) (off:=3) Tryz.underlying112 J ty3 J J) (WtY 20 J J J (vI ((rd a0.T (IntKind.i64.wrap (a1-(1:Int)))).Snapshot)) J (cS hb48) (fun w' h'=>X9 h' 2 J ee55 p51 p52 3 (by rintro _ _ rfl;rfl) ty3 J) D1 ?_))
   refine Wo 21 J ?_
   refine QN (cS hb48) ?_
   obtain ⟨t56,ht57,H⟩:=QO H
   refine ZR fn63 (Y5.con ht57 hs8) S J J flN (eE4 E ?_)
   rintro _ w58 _ Γ' E S ⟨rfl,rfl⟩
   refine QK (Yl ⟨.inr ⟨M10,Hp.le_refl M10,(S.pk [0,1,2,3])⟩,?_⟩)
   refine tz0 22 J (⟨M10,Hp.le_refl M10,(S.pk [0,1,2,3])⟩) (xqB hb48 J) ?_
   exact hrest _ _ ⟨t56,oi H,agP J,E,S.pk [0,1,2,3]⟩
 rintro ρ w59 ⟨x49,rfl,hρ,E,S⟩
 rw [QB hρ]
 have H:=o50H
 refine Wz ?_
 refine tn ?_
 rcases Q3 H with ⟨hb60,H⟩ | ⟨hb60,H⟩
 ·refine QC (cB hb60) ?_
  refine wsQ (W_v _ (xb2 [(0,1),(1,1),(2,1),(3,1)] cz14 Tryz.underlying38 ty38 J) J ?_)
  refine Qu S 3 J ty38 J J [vI 33,.bool false,vS ([]:Str),.slice none 0 0] J J J cz14 J J (eE1 E ?_)
  intro w61 E S
  refine wnQ ?_
  refine QT ?_
  refine tr (?_)
  obtain rfl:=oi H
  replace S:=S.row_nil Qq 119
  exact ⟨_,_,_,fun w1 e1=>Zg (vs:=[.agg #[vI 33,.bool false,vS ([]:Str),.slice none ([]:List Qp).length 0]]) (FA.cons (rcA S e1 4 ty38 J J J) (FA.nil)),HM,E,S.pk [0,2,3],⟨none,0,A0_8,c0_8,A0_9,c0_9,J,hr0_9,J⟩⟩
 refine QA (cB hb60) (QX (tn ?_))
 as_aux_lemma =>
 refine wsQ (wmP J (wmI J (W_v (.agg #[vS t4.Key,.slice A6 t4.L.length c7,.bool t4.Has,vI t4.I.Writer,vI t4.I.TS,.bool t4.I.Tomb,vS t4.I.Value]) (Qi (S.blk 0 J) ty110 J (QG J) J J) J ?_)))
 obtain ⟨t63,ht64,H⟩:=QO H
 replace S:St w59 M10 F [_,_,_,_]:=S.pk [1,2,0,3]
 refine Zy fn43 (Q4.con ht64 hr0_9 hs8) (Γ1:=[_,_]) (Γ2:=[_,_]) S J J (by rintro _ _ _ ⟨rfl,rfl⟩;exact (QP Zs (QP (YX (fun _ _ _ _ h=>h)) YE))) (eE4 E ?_)
 rintro _ w65 _ Γ' E S ⟨rfl,rfl⟩
 replace S:St w65 M10 F [_,_,_,_]:=S
 refine wmT J (W_v _ (QR J J) J (W_v _ (QR J J) J (waS J (waB J (wnQ (QH (wsQ (wmB J (wmB J ?_)))))))))
 refine ZO 3 (fun ρ w'=>QV ρ [(0,pt bo0 0),(1,vI a1),(3,vS a3),(4,.bool a4),(10,pt b1 0),(11,pt b12 0),(52,.bool (a4&&(!t63.2)))]∧w65=w') ?_ ?_
 ·rcases Qy a4 with hb68 | hb68
  ·refine QZ (skT hb68) J (QZ (skT hb68) J (wqB hb68 J (QK ?_)))
   exact ⟨⟨J,J,J,J,J,J,(flB hb68),trivial⟩,rfl⟩
  ·refine QN (cS hb68) (wmB J (QN (cS hb68) (W_v _ (Xr (b:=t63.2) J) J (wpB hb68 J (QK ?_)))))
   exact ⟨⟨J,J,J,J,J,J,(flB hb68),trivial⟩,rfl⟩
 as_aux_lemma =>
 rintro ρ _ ⟨hρ,rfl⟩
 rw [QB hρ]
 refine wnQ ?_
 rcases Q3 H with ⟨hb69,H⟩ | ⟨hb69,H⟩
 ·refine QC (cB hb69) ?_
  refine wsQ (W_v _ (xb2 [(0,1),(1,1),(2,1),(3,1)] cz16 Tryz.underlying38 ty38 J) J ?_)
  refine Qu S 3 J ty38 J J [vI 0,.bool false,vS ([]:Str),.slice none 0 0] J J J cz16 J J (eE1 E ?_)
  intro w70 E S
  refine wnQ ?_
  refine QT ?_
  refine tr (?_)
  obtain rfl:=oi H
  replace S:=S.row_nil Qq 119
  exact ⟨_,_,_,fun w1 e1=>Zg (vs:=[.agg #[vI 0,.bool false,vS ([]:Str),.slice none ([]:List Qp).length 0]]) (FA.cons (rcA S e1 4 ty38 J J J) (FA.nil)),HM,E,S.pk [0,1,2],⟨none,0,A0_8,c0_8,A0_9,c0_9,J,hr0_9,J⟩⟩
 refine QA (cB hb69) (QX (tn (QH (QH ?_))))
 refine rgA S [0,1,2,3] [_,_,_,_] 33 mixed J (eE1 E ?_)
 intro w77 E S D8
 refine tz0 0 J D8 (xfA Tryz.underlying110 ty4 J) (tz1 1 J D8 (fun w' h'=>xlA h' 2 ty4 J) (tz0 2 J D8 (Xr (b:=t4.Has) J) (tz0 3 J D8 (xmB J) ?_)))
 refine YB (fun ρ w'=>QV ρ [(0,pt bo0 0),(1,vI a1),(3,vS a3),(4,.bool a4),(10,pt b1 0),(11,pt b12 0),(86,.bool ((!t4.Has)&&((((t4.L.length:Int)==(0:Int))&&(decide ((a0.L.length:Int)≥a0.C.Keys)))||(decide ((t4.L.length:Int)≥a0.C.Depth)))))]∧w77=w') 0 (Ls 33 [0,1,2,3,4,5,6,7,8,9,10,11,12,13,14,15,16,17,18,19,20,21,22,23,24,25,26,27,28,29,30,31,32]) ?_ ?_
 rotate_left
 ·intro hrest
  rcases Qy (!t4.Has) with hb81 | hb81
  ·refine tz4 4 J (skT hb81) D8 (tz4 5 J (skT hb81) D8 (tz4 6 J (skT hb81) D8 (tz4 7 J (skT hb81) D8 (tz4 8 J (skT hb81) D8 (tz4 9 J (J) D8 (tz4 10 J (J) D8 (tz4 11 J (J) D8 (tz4 12 J (J) D8 (tz4 13 J (J) D8 (tz4 14 J (J) D8 (tz4 15 J (J) D8 (tz4 16 J (J) D8 (tz4 17 J (J) D8 (tz4 18 J (J) D8 (tz4 19 J (J) D8 ?_)))))))))))))))
   refine tz4 20 J (skT hb81) D8 (tz4 21 J (skT hb81) D8 (tz4 22 J (J) D8 (tz4 23 J (J) D8 (tz4 24 J (J) D8 (tz4 25 J (J) D8 (tz4 26 J (J) D8 (tz4 27 J (J) D8 (tz4 28 J (J) D8 (tz4 29 J (J) D8 (tz4 30 J (J) D8 (tz4 31 J (skT hb81) D8 (tz0 32 J D8 (xqB hb81 J) ?_))))))))))))
   exact hrest _ _ ⟨⟨J,J,J,J,J,J,(flB hb81),trivial⟩,rfl⟩
  ·refine tz2 4 J (cS hb81) D8 (xfA Tryz.underlying110 ty86 J) (tz3 5 J (cS hb81) D8 (fun w' h'=>xlA h' 2 ty86 J) (tz2 6 J (cS hb81) D8 (Qm (n:=t4.L.length) Tryz.underlying86 J) (tz2 7 J (cS hb81) D8 (xiB J J) (tz2 8 J (cS hb81) D8 (xmB J) ?_))))
   refine YB (fun ρ w'=>QV ρ [(0,pt bo0 0),(1,vI a1),(3,vS a3),(4,.bool a4),(10,pt b1 0),(11,pt b12 0),(57,.bool (!t4.Has)),(74,.bool (((t4.L.length:Int)==(0:Int))&&(decide ((a0.L.length:Int)≥a0.C.Keys))))]∧w77=w') 12 (Ls 33 [0,1,2,3,4,5,6,7,8,9,10,11,12,13,14,15,16,17,18,19,20]) ?_ ?_
   rotate_left
   ·intro hrest
    rcases Qy ((t4.L.length:Int)==(0:Int)) with hb82 | hb82
    ·refine tz4 9 J (skT hb82) D8 (tz4 10 J (skT hb82) D8 (tz4 11 J (skT hb82) D8 (tz4 12 J (skT hb82) D8 (tz4 13 J (skT hb82) D8 (tz4 14 J (skT hb82) D8 (tz4 15 J (skT hb82) D8 (tz4 16 J (skT hb82) D8 (tz4 17 J (skT hb82) D8 (tz4 18 J (skT hb82) D8 (tz4 19 J (skT hb82) D8 (tz2 20 J (cS hb81) D8 (xqB hb82 J) ?_)))))))))))
     exact hrest _ _ ⟨⟨J,J,J,J,J,J,J,(flB hb82),trivial⟩,rfl⟩
    ·refine tz2 9 J (cS hb82) D8 (xmP J) (tz2 10 J (cS hb82) D8 (Qb J) (tz2 11 J (cS hb82) D8 (xfA Tryz.underlying69 ty67 J) (tz3 12 J (cS hb82) D8 (fun w' h'=>xlA h' 0 ty67 J) (tz2 13 J (cS hb82) D8 (Qm (n:=a0.L.length) Tryz.underlying67 J) (tz2 14 J (cS hb82) D8 (xmP J) (tz2 15 J (cS hb82) D8 (Qb J) (tz2 16 J (cS hb82) D8 (xfA Tryz.underlying69 ty23 J) (tz2 17 J (cS hb82) D8 (xfA Tryz.underlying23 ty3 J) (tz3 18 J (cS hb82) D8 (fun w' h'=>xlA h' 0 ty3 J) (tz2 19 J (cS hb82) D8 (xiB J J) (tz2 20 J (cS hb81) D8 (xpB hb82 J) ?_)))))))))))
     exact hrest _ _ ⟨⟨J,J,J,J,J,J,J,(flB hb82),trivial⟩,rfl⟩
   rintro ρ _ ⟨hρ,rfl⟩
   rw [QB hρ]
   refine tz2 21 J (cS hb81) (⟨M10,Hp.le_refl M10,(S.pk [0,1,2,3])⟩) (xmB J) ?_
   refine YB (fun ρ w'=>QV ρ [(0,pt bo0 0),(1,vI a1),(3,vS a3),(4,.bool a4),(10,pt b1 0),(11,pt b12 0),(57,.bool (!t4.Has)),(85,.bool ((((t4.L.length:Int)==(0:Int))&&(decide ((a0.L.length:Int)≥a0.C.Keys)))||(decide ((t4.L.length:Int)≥a0.C.Depth))))]∧w77=w') 1 (Ls 33 [0,1,2,3,4,5,6,7,8,9,10,11,12,13,14,15,16,17,18,19,20,21,22,23,24,25,26,27,28,29,30,31]) ?_ ?_
   rotate_left
   ·intro hrest
    rcases Qy (((t4.L.length:Int)==(0:Int))&&(decide ((a0.L.length:Int)≥a0.C.Keys))) with hb83 | hb83
    ·refine tz2 22 J (cS hb83) D8 (xfA Tryz.underlying110 ty86 J) (tz3 23 J (cS hb83) D8 (fun w' h'=>xlA h' 2 ty86 J) (tz2 24 J (cS hb83) D8 (Qm (n:=t4.L.length) Tryz.underlying86 J) (tz2 25 J (cS hb83) D8 (xmP J) (tz2 26 J (cS hb83) D8 (Qb J) (tz2 27 J (cS hb83) D8 (xfA Tryz.underlying69 ty23 J) (tz2 28 J (cS hb83) D8 (xfA Tryz.underlying23 ty3 J) (tz3 29 J (cS hb83) D8 (fun w' h'=>xlA h' 0 ty3 J) (tz2 30 J (cS hb83) D8 (xiB J J) (tz2 31 J (cS hb81) D8 (xqB hb83 J) ?_)))))))))
     exact hrest _ _ ⟨⟨J,J,J,J,J,J,J,(flB hb83),trivial⟩,rfl⟩
    ·refine tz4 22 J (skF hb83) D8 (tz4 23 J (skF hb83) D8 (tz4 24 J (skF hb83) D8 (tz4 25 J (skF hb83) D8 (tz4 26 J (skF hb83) D8 (tz4 27 J (skF hb83) D8 (tz4 28 J (skF hb83) D8 (tz4 29 J (skF hb83) D8 (tz4 30 J (skF hb83) D8 (tz2 31 J (cS hb81) D8 (xpB hb83 J) ?_)))))))))
     exact hrest _ _ ⟨⟨J,J,J,J,J,J,J,(flB hb83),trivial⟩,rfl⟩
   rintro ρ _ ⟨hρ,rfl⟩
   rw [QB hρ]
   refine tz0 32 J (⟨M10,Hp.le_refl M10,(S.pk [0,1,2,3])⟩) (xpB hb81 J) ?_
   exact hrest _ _ ⟨⟨J,J,J,J,J,J,(flB hb81),trivial⟩,rfl⟩
 rintro ρ _ ⟨hρ,rfl⟩
 rw [QB hρ]
 refine Wz ?_
 refine tn ?_
 rcases Q3 H with ⟨hb84,H⟩ | ⟨hb84,H⟩
 ·refine QC (cB hb84) ?_
  refine wsQ (W_v _ (xb2 [(0,1),(1,1),(2,1),(3,1)] cz13 Tryz.underlying38 ty38 J) J ?_)
  refine Qu S 3 J ty38 J J [vI 34,.bool false,vS ([]:Str),.slice none 0 0] J J J cz13 J J (eE1 E ?_)
  intro w85 E S
  refine wnQ ?_
  refine QT ?_
  refine tr (?_)
  obtain rfl:=oi H
  replace S:=S.row_nil Qq 119
  exact ⟨_,_,_,fun w1 e1=>Zg (vs:=[.agg #[vI 34,.bool false,vS ([]:Str),.slice none ([]:List Qp).length 0]]) (FA.cons (rcA S e1 4 ty38 J J J) (FA.nil)),HM,E,S.pk [0,1,2],⟨none,0,A0_8,c0_8,A0_9,c0_9,J,hr0_9,J⟩⟩
 refine QA (cB hb84) (QX (tn ?_))
 as_aux_lemma =>
 refine wsQ (wfA Tryz.underlying110 ty4 J ?_)
 refine Qu S 2 J ty4 J J [.bool true] J J J #[vS t4.Key,.slice A6 t4.L.length c7,.bool true,vI t4.I.Writer,vI t4.I.TS,.bool t4.I.Tomb,vS t4.I.Value] J J (eE1 E ?_)
 intro w87 E S
 refine wnQ (wsQ (wmI J (wmB J (wmS J (W_v _ (xb2 [(0,1),(1,1),(2,1),(3,1)] #[vI a1,vI 0,.bool a4,vS a3] Tryz.underlying88 ty88 J) J (wfA Tryz.underlying110 ty88 J ?_))))))
 refine Qu S 2 J ty88 J J [vI a1,vI 0,.bool a4,vS a3] J J J #[vS t4.Key,.slice A6 t4.L.length c7,.bool true,vI a1,vI 0,.bool a4,vS a3] J J (eE1 E ?_)
 intro w88 E S
 refine wnQ (wsQ (wmP J (W_v (.agg #[vS t4.Key,.slice A6 t4.L.length c7,.bool true,vI a1,vI 0,.bool a4,vS a3]) (Qi (S.blk 2 J) ty110 J (QG J) J J) J ?_)))
 obtain ⟨t89,ht90,H⟩:=QO H
 refine Y2 fn64 (Qr.con ht90 hr0_9 hs8) (Γ1:=[_,_]) (Γ2:=[_,_]) S J J ?_
 rintro _ w97 M98 Γ' hM99 E' S ⟨A91,c92,A94,c95,rfl,rfl⟩
 replace HM:=Hp.le_trans HM hM99
 replace E:=E.trans E'
 replace S:St w97 M98 F [_,_,_,_,_]:=S
 refine wnQ (wsQ (wmB J (W_v _ (xb2 [(0,1),(1,1),(2,1),(3,1)] #[vI 0,.bool a4,vS ([]:Str),.slice none 0 0] Tryz.underlying38 ty38 J) J ?_)))
 refine Qu S 4 J ty38 J J [vI 0,.bool a4,vS ([]:Str),.slice none 0 0] J J J #[vI 0,.bool a4,vS ([]:Str),.slice none 0 0] J J (eE1 E ?_)
 intro w100 E S
 refine wnQ ?_
 refine QT ?_
 obtain rfl:=oi H
 obtain ⟨M101,hM102,hf103,S⟩:=S.row_freeze 2 J
 replace HM:=Hp.le_trans HM hM102
 replace S:=S.row_nil Qq 119
 exact ⟨_,_,_,fun w1 e1=>Zg (vs:=[.agg #[vI 0,.bool a4,vS ([]:Str),.slice none ([]:List Qp).length 0]]) (FA.cons (rcA S e1 4 ty38 J J J) (FA.nil)),HM,E,S.pk [0,1,2],⟨none,0,A91,c92,A94,c95,J,hf103,J⟩⟩
def ZU (a0:QE) (a1:Int) (a3:Int):Nat→Int→QE→Option ((QE))
 | 0,_,_=>none
 | k+1,x444,x445=>(if (decide (x444<(a0.L.length:Int)))=true then (Option.bind (α:=QE) (if 0≤x444∧x444<(a0.L.length:Int) then (if ((!((rd a0.L x444).Has))||((rd a0.L x444).I.Writer != a1))=true then some (x445) else (Option.bind (α:=List QU×Int) (if (decide (a3>(0:Int)))=true then (if ([(⟨(rd a0.L x444).I.Writer,a3,(rd a0.L x444).I.Tomb,(rd a0.L x444).I.Value⟩:QU)]:List QU).length+((rd a0.L x444).L).length≤3518437208883 then some ((([(⟨(rd a0.L x444).I.Writer,a3,(rd a0.L x444).I.Tomb,(rd a0.L x444).I.Value⟩:QU)]:List QU)++(rd a0.L x444).L),a3) else none) else some ((rd a0.L x444).L,(rd a0.L x444).I.TS)) (fun ⟨x819,x823⟩=>(Option.bind (Qr k x445 (⟨(rd a0.L x444).Key,x819,false,⟨(0:Int),(0:Int),false,([]:Str)⟩⟩:Qk)) (fun t846=>some (t846)))))) else none) (fun x761=>ZU a0 a1 a3 k (IntKind.i64.wrap (x444+(1:Int))) x761)) else some (x445))
theorem ZU.mono {a0 a1 a3}: ∀ {kl:Nat} {x0 x1},OLe (ZU a0 a1 a3 kl x0 x1) (ZU a0 a1 a3 (kl+1) x0 x1):=by
 intro kl
 induction kl with
 | zero=>intros;exact OLe.none
 | succ kl ih =>
  intros
  rw [ZU.eq_2,ZU.eq_2]
  have m1:=@Qr.mono
  exact mo
def Qw (k:Nat) (a0:QE) (a1:Int) (a2:Int) (a3:Int):Option (QE) :=
 (if ([]:List Qf).length+a0.T.length≤4398046511104 then (if 0≤(IntKind.i64.wrap (a1-(1:Int)))∧(IntKind.i64.wrap (a1-(1:Int)))<((([]:List Qf)++a0.T).length:Int) then (Option.bind (α:=List Qf) (some (List.set (([]:List Qf)++a0.T) (IntKind.i64.wrap (a1-(1:Int))).toNat (⟨(rd (([]:List Qf)++a0.T) (IntKind.i64.wrap (a1-(1:Int)))).Task,(rd (([]:List Qf)++a0.T) (IntKind.i64.wrap (a1-(1:Int)))).N,a2,(rd (([]:List Qf)++a0.T) (IntKind.i64.wrap (a1-(1:Int)))).Snapshot⟩:Qf))) (fun x24=>(Option.bind (ZU a0 a1 a3 k (0:Int) (⟨⟨a0.C.Tasks,a0.C.Active,a0.C.Keys,a0.C.Depth,a0.C.TS,a0.C.KeyLen,a0.C.ValLen,a0.C.Fan⟩,x24,a0.L,a0.Time,a0.Low⟩:QE)) (fun x652=>some x652)))) else none) else none)
theorem Qw.mono {k a0 a1 a2 a3}: OLe (Qw k a0 a1 a2 a3) (Qw (k+1) a0 a1 a2 a3):=by
 unfold Qw
 have m1:=@ZU.mono
 exact mo
theorem Qw.con {k M A0_8 c0_8 A0_9 c0_9} {a0:QE} {a1:Int} {a2:Int} {a3:Int} {bo0} {r:QE} (h:Qw k a0 a1 a2 a3=some r) (hr0_9:SlR Qa M (.slice A0_9 a0.L.length c0_9) a0.L): Con Tryz.prog 48 #[pt bo0 0,vI a1,vU a2,vI a3] M [B69 bo0 a0 A0_8 c0_8 A0_9 c0_9,Rw QD 112 A0_8 c0_8 a0.T] (fun v M' Γ'=>∃ (Aq1:Option Addr) (cq2:Nat) (Aq4:Option Addr) (cq5:Nat),v=.tuple #[]∧SlR Qa M' (.slice Aq4 r.L.length cq5) r.L∧Γ'=[B69 bo0 r Aq1 cq2 Aq4 cq5,Rw QD 112 Aq1 cq2 r.T]):=by
 refine cwA Tryz.func48 J Tryz.ntmps48 Tryz.results48 J h ?_
 intro w F rn S hrn E HM H
 unfold Qw at H
 refine wsQ (wmP J ?_)
 refine Xl S #[] Tryz.underlying66 ty112 J J #[] (by as_aux_lemma=>kernel_rfl) (by as_aux_lemma=>kernel_rfl) J (eE2 E ?_)
 intro b1 w2 E S
 replace S:=S.blk_row (r:=QD) (l:=([]:List Qf)) 0 J 0 (Nat.le_refl 0) J Cells.nil
 refine wmP J (W_v _ (Qb J) J (wfA Tryz.underlying69 ty66 J (wlA S 1 ty66 J ?_)))
 obtain ⟨p4,H⟩:=Z8 H
 obtain ⟨src5,hs6,hC7⟩:=XJ (P:=Tryz.prog) (ρ:=QD) (l:=a0.T) (S.row_read 2 J) (by decide)
 refine X0 S 0 J J J Tryz.underlying66 (.inl Tryz.underlying66) ty112 J (by decide) (by decide) hs6 hC7 J (by omega) J (eE2 E ?_)
 intro v8 w9 E S
 obtain ⟨A10,c11,rfl,_⟩:=(S.row_read 0 J).form
 refine W_v _ (Qb J) J (wfA Tryz.underlying69 ty66 J ?_)
 refine Qu S 1 J ty66 J J [.slice A10 (([]:List Qf)++a0.T).length c11] J J J #[vI a0.C.Tasks,vI a0.C.Active,vI a0.C.Keys,vI a0.C.Depth,vI a0.C.TS,vI a0.C.KeyLen,vI a0.C.ValLen,vI a0.C.Fan,.slice A10 (([]:List Qf)++a0.T).length c11,.slice A0_9 a0.L.length c0_9,vI a0.Time,vI a0.Low] J J (eE1 E ?_)
 intro w12 E S
 refine wnQ (wsQ (wmP J (W_v _ (Qb J) J (wfA Tryz.underlying69 ty66 J (wlA S 1 ty66 J (wmI J (wiI J J (wmI J ?_))))))))
 obtain ⟨⟨p13,p14⟩,H⟩:=Z8 H
 obtain ⟨b15,o16,cs17,_,_,ee22,hb18,vs19,hR20,hc21⟩:=SlW.at' (S.row_read 0 J) p13 p14
 obtain rfl:vs19=_:=hR20
 refine W_v _ (QS Tryz.underlying66 ty112 (slA ee22) J p13 p14) J (W_v _ (X2 (o:=o16+(IntKind.i64.wrap (a1-(1:Int))).toNat*4) (off:=2) Tryz.underlying112 J ty5 J J) J ?_)
 obtain ⟨x24,he25,H⟩:=QO H
 replace he25:=oi he25
 refine VQ S 0 J J ee22 (by first | exact p13 | simpa using p13) (by first | exact p14 | simpa using p14) 2 ty5 rfl rfl [vU a2] rfl rfl rfl rfl (⟨(rd (([]:List Qf)++a0.T) (IntKind.i64.wrap (a1-(1:Int)))).Task,(rd (([]:List Qf)++a0.T) (IntKind.i64.wrap (a1-(1:Int)))).N,a2,(rd (([]:List Qf)++a0.T) (IntKind.i64.wrap (a1-(1:Int)))).Snapshot⟩:Qf) (by rintro _ rfl;rfl) he25 (eE1 E ?_)
 intro w23 E S
 have hs26:Value.slice A10 (([]:List Qf)++a0.T).length c11=Value.slice A10 x24.length c11:=by rw [← he25,List.length_set]
 try rw [hs26] at S
 try rw [hs26]
 have p27:(IntKind.i64.wrap (a1-(1:Int)))<(x24.length:Int):=by rw [← he25,List.length_set];exact p14
 refine wnQ ?_
 as_aux_lemma =>
 refine wsQ (wmP J (W_v _ (Qb J) J (wfA Tryz.underlying69 ty67 J (wlA S 1 ty67 J (waL J (wnQ (wsQ (waI J (wnQ ?_)))))))))
 obtain ⟨o659,o659h,o659H⟩:=QO H
 refine Zr (fun ρ w'=>∃ (x652:QE) (A653:Option Addr) (c654:Nat) (A656:Option Addr) (c657:Nat) (Mj:Hp),(x652)=o659∧QV ρ []∧M.le Mj∧Ext w w'∧St w' Mj F [Rw QD 112 A653 c654 x652.T,B69 bo0 x652 A653 c654 A656 c657,Rw QD 112 A0_8 c0_8 a0.T]∧SlR Qa Mj (.slice A656 x652.L.length c657) x652.L) ?_ ?_
 ·refine Yr (fun n ρ w'=>∃ (x444:Int) (x445:QE) (A446:Option Addr) (c447:Nat) (A449:Option Addr) (c450:Nat) (Mj:Hp),ZU a0 a1 a3 n x444 x445=some o659∧QV ρ [(0,pt bo0 0),(1,vI a1),(3,vI a3),(8,.slice A0_9 a0.L.length c0_9),(9,vI x444)]∧M.le Mj∧Ext w w'∧St w' Mj F [Rw QD 112 A446 c447 x445.T,B69 bo0 x445 A446 c447 A449 c450,Rw QD 112 A0_8 c0_8 a0.T]∧SlR Qa Mj (.slice A449 x445.L.length c450) x445.L) k ?_ ?_
  ·exact ⟨(0:Int),(⟨⟨a0.C.Tasks,a0.C.Active,a0.C.Keys,a0.C.Depth,a0.C.TS,a0.C.KeyLen,a0.C.ValLen,a0.C.Fan⟩,x24,a0.L,a0.Time,a0.Low⟩:QE),A10,c11,A0_9,c0_9,M,o659h,agP J,(Hp.le_refl M),E,S.pk [0,1,2],hr0_9⟩
  ·intro n
   rintro ρ w660 ⟨x444,x445,A446,c447,A449,c450,M661,H,hρ,hM662,E,S,hs451⟩
   rw [QB hρ]
   replace HM:=Hp.le_trans HM hM662
   replace hr0_9:=SlR.mono hr0_9 hM662
   cases n with
   | zero=>cases H
   | succ k =>
    rw [ZU.eq_2] at H
    refine QH (wsQ (wmI J (wmL J (W_v _ (Qm (n:=a0.L.length) Tryz.underlying67 J) J (wiB J J (wnQ ?_))))))
    rcases Q3 H with ⟨hb663,H⟩ | ⟨hb663,H⟩
    ·refine QC (cB hb663) ?_
     refine QX (tn (QH ?_))
     obtain ⟨o768,o768h,o768H⟩:=QO H
     refine Yc (fun ρ w'=>∃ (x761:QE) (A762:Option Addr) (c763:Nat) (A765:Option Addr) (c766:Nat) (Mj:Hp),(x761)=o768∧QV ρ [(0,pt bo0 0),(1,vI a1),(3,vI a3),(8,.slice A0_9 a0.L.length c0_9),(9,vI x444)]∧M661.le Mj∧Ext w w'∧St w' Mj F [Rw QD 112 A762 c763 x761.T,B69 bo0 x761 A762 c763 A765 c766,Rw QD 112 A0_8 c0_8 a0.T]∧SlR Qa Mj (.slice A765 x761.L.length c766) x761.L) ?_ ?_
     ·as_aux_lemma =>
       clear o768H
       have H:=o768h
       have LE769:=Hp.le_refl M661
       refine ZW ?_
       refine wsQ (wmL J (wmI J ?_))
       obtain ⟨⟨p770,p771⟩,H⟩:=Z8 H
       obtain ⟨b772,o773,cs774,_,_,ee779,hb775,vs776,hR777,hc778⟩:=SlW.at' hr0_9 p770 p771
       obtain ⟨v783,hs782,rfl⟩:=hR777
       obtain ⟨A780,c781,rfl,_⟩:=hs782.form
       refine W_v _ (QS Tryz.underlying67 ty110 (slA ee779) J p770 p771) J (W_v (.agg #[vS ((rd a0.L x444).Key),.slice A780 ((rd a0.L x444).L).length c781,.bool ((rd a0.L x444).Has),vI ((rd a0.L x444).I.Writer),vI ((rd a0.L x444).I.TS),.bool ((rd a0.L x444).I.Tomb),vS ((rd a0.L x444).I.Value)]) (Qi (S.frz hb775) ty110 J (X1 hc778 0 J) J J) J ?_)
       refine YN S cz3 ty110 J J (eE2 E ?_)
       intro b784 w785 E S
       refine Qu S 0 J ty110 J J [vS ((rd a0.L x444).Key),.slice A780 ((rd a0.L x444).L).length c781,.bool ((rd a0.L x444).Has),vI ((rd a0.L x444).I.Writer),vI ((rd a0.L x444).I.TS),.bool ((rd a0.L x444).I.Tomb),vS ((rd a0.L x444).I.Value)] J J J #[vS ((rd a0.L x444).Key),.slice A780 ((rd a0.L x444).L).length c781,.bool ((rd a0.L x444).Has),vI ((rd a0.L x444).I.Writer),vI ((rd a0.L x444).I.TS),.bool ((rd a0.L x444).I.Tomb),vS ((rd a0.L x444).I.Value)] (by as_aux_lemma=>kernel_rfl) J (eE1 E ?_)
       intro w787 E S
       refine wnQ (QH (wsQ (wfA Tryz.underlying110 ty4 J (wlA S 0 ty4 J (W_v _ (Xr (b:=((rd a0.L x444).Has)) J) J (wmB J ?_))))))
       refine ZO 6 (fun ρ w'=>QV ρ [(0,pt bo0 0),(1,vI a1),(3,vI a3),(8,.slice A0_9 a0.L.length c0_9),(9,vI x444),(10,pt b784 0),(52,.bool ((!((rd a0.L x444).Has))||((rd a0.L x444).I.Writer != a1)))]∧w787=w') ?_ ?_
       ·rcases Qy (!((rd a0.L x444).Has)) with hb788 | hb788
        ·refine QN (cS hb788) (wfA Tryz.underlying110 ty88 J (QN (cS hb788) (wfA Tryz.underlying88 ty3 J (QN (cS hb788) (wlA S 0 ty3 J (QN (cS hb788) (wmI J (QN (cS hb788) (wiB J J (wqB hb788 J (QK ?_)))))))))))
         exact ⟨⟨J,J,J,J,J,J,(flB hb788),trivial⟩,rfl⟩
        ·refine QZ (skF hb788) J (QZ (skF hb788) J (QZ (skF hb788) J (QZ (skF hb788) J (QZ (skF hb788) J (wpB hb788 J (QK ?_))))))
         exact ⟨⟨J,J,J,J,J,J,(flB hb788),trivial⟩,rfl⟩
       as_aux_lemma =>
       rintro ρ _ ⟨hρ,rfl⟩
       rw [QB hρ]
       refine wnQ ?_
       rcases Q3 H with ⟨hb789,H⟩ | ⟨hb789,H⟩
       ·refine QC (cB hb789) ?_
        refine YZ ?_
        refine tx (bsm (?_))
        refine tn ?_
        exact ⟨x445,A446,c447,A449,c450,M661,oi H,agP J,(Hp.le_refl M661),E,S.pk [1,2,3],hs451⟩
       refine QA (cB hb789) (QX (tn (wsQ (wfA Tryz.underlying110 ty4 J ?_))))
       refine Qu S 0 J ty4 J J [.bool false] J J J #[vS ((rd a0.L x444).Key),.slice A780 ((rd a0.L x444).L).length c781,.bool false,vI ((rd a0.L x444).I.Writer),vI ((rd a0.L x444).I.TS),.bool ((rd a0.L x444).I.Tomb),vS ((rd a0.L x444).I.Value)] J J (eE1 E ?_)
       intro w790 E S
       refine wnQ (QH (wsQ (wmI J (wiB J J (wnQ ?_)))))
       obtain ⟨o824,o824h,o824H⟩:=QO H
       refine Yc (fun ρ w'=>∃ (x819:List QU) (x823:Int) (A820:Option Addr) (c821:Nat) (Mj:Hp),(x819,x823)=o824∧QV ρ [(0,pt bo0 0),(1,vI a1),(3,vI a3),(8,.slice A0_9 a0.L.length c0_9),(9,vI x444),(10,pt b784 0)]∧M661.le Mj∧Ext w w'∧St w' Mj F [Blk b784 (.cells #[vS ((rd a0.L x444).Key),.slice A820 x819.length c821,.bool false,vI ((rd a0.L x444).I.Writer),vI x823,.bool ((rd a0.L x444).I.Tomb),vS ((rd a0.L x444).I.Value)] 110 (0,0)),Rw QD 112 A446 c447 x445.T,B69 bo0 x445 A446 c447 A449 c450,Rw QD 112 A0_8 c0_8 a0.T]∧SlR ZL Mj (.slice A820 x819.length c821) x819) ?_ ?_
       ·as_aux_lemma =>
         clear o824H
         have H:=o824h
         rcases Q3 H with ⟨hb825,H⟩ | ⟨hb825,H⟩
         ·refine QC (cB hb825) ?_
          refine wsQ (wmI J (wfA Tryz.underlying110 ty88 J (wfA Tryz.underlying88 ty3 J ?_)))
          refine Qu S 0 J ty3 J J [vI a3] J J J #[vS ((rd a0.L x444).Key),.slice A780 ((rd a0.L x444).L).length c781,.bool false,vI ((rd a0.L x444).I.Writer),vI a3,.bool ((rd a0.L x444).I.Tomb),vS ((rd a0.L x444).I.Value)] J J (eE1 E ?_)
          intro w826 E S
          refine wnQ (QJ (wfA Tryz.underlying110 ty88 J (W_v (.agg #[vI ((rd a0.L x444).I.Writer),vI a3,.bool ((rd a0.L x444).I.Tomb),vS ((rd a0.L x444).I.Value)]) (Qi (S.blk 0 J) ty88 J (QG J) J J) J ?_)))
          refine Xl S #[vI ((rd a0.L x444).I.Writer),vI a3,.bool ((rd a0.L x444).I.Tomb),vS ((rd a0.L x444).I.Value)] Tryz.underlying86 ty88 J J cz18 (by as_aux_lemma=>kernel_rfl) (by as_aux_lemma=>kernel_rfl) J (eE2 E ?_)
          intro b827 w828 E S
          replace S:=S.blk_row (r:=ZL) (l:=([(⟨(rd a0.L x444).I.Writer,a3,(rd a0.L x444).I.Tomb,(rd a0.L x444).I.Value⟩:QU)]:List QU)) 0 J 1 (Nat.le_refl 1) J (Cells.cons (vs:=[vI ((rd a0.L x444).I.Writer),vI a3,.bool ((rd a0.L x444).I.Tomb),vS ((rd a0.L x444).I.Value)]) (J) Cells.nil)
          refine wfA Tryz.underlying110 ty86 J (wlA S 1 ty86 J ?_)
          obtain ⟨p830,H⟩:=Z8 H
          obtain ⟨src831,hs832,hC833⟩:=XJ (P:=Tryz.prog) (ρ:=ZL) (l:=(rd a0.L x444).L) (SlR.world hs782 S) (by decide)
          refine X0 S 0 J J J Tryz.underlying86 (.inl Tryz.underlying86) ty88 J (by decide) (by decide) hs832 hC833 J (by omega) J (eE2 E ?_)
          intro v834 w835 E S
          obtain ⟨A836,c837,rfl,_⟩:=(S.row_read 0 J).form
          refine wfA Tryz.underlying110 ty86 J ?_
          refine Qu S 1 J ty86 J J [.slice A836 (([(⟨(rd a0.L x444).I.Writer,a3,(rd a0.L x444).I.Tomb,(rd a0.L x444).I.Value⟩:QU)]:List QU)++(rd a0.L x444).L).length c837] J J J #[vS ((rd a0.L x444).Key),.slice A836 (([(⟨(rd a0.L x444).I.Writer,a3,(rd a0.L x444).I.Tomb,(rd a0.L x444).I.Value⟩:QU)]:List QU)++(rd a0.L x444).L).length c837,.bool false,vI ((rd a0.L x444).I.Writer),vI a3,.bool ((rd a0.L x444).I.Tomb),vS ((rd a0.L x444).I.Value)] J J (eE1 E ?_)
          intro w838 E S
          refine wnQ ?_
          obtain ⟨M839,hM840,hf841,S⟩:=S.row_freeze 0 J
          replace HM:=Hp.le_trans HM hM840
          replace LE769:=Hp.le_trans LE769 hM840
          exact ⟨(([(⟨(rd a0.L x444).I.Writer,a3,(rd a0.L x444).I.Tomb,(rd a0.L x444).I.Value⟩:QU)]:List QU)++(rd a0.L x444).L),a3,A836,c837,M839,oi H,agP J,LE769,E,S.pk [0,1,2,3],hf841⟩
         refine QA (cB hb825) (QX (tn ?_))
         exact ⟨((rd a0.L x444).L),((rd a0.L x444).I.TS),A780,c781,M661,oi H,agP J,(Hp.le_refl M661),E,S.pk [0,1,2,3],hs782⟩
       as_aux_lemma =>
       rintro ρ w842 ⟨x819,x823,A820,c821,M843,rfl,hρ,hM844,E,S,hs822⟩
       rw [QB hρ]
       replace HM:=Hp.le_trans HM hM844
       replace hs451:=SlR.mono hs451 hM844
       have H:=o824H
       refine tn (wsQ (W_v _ (xb2 [(0,1),(1,1),(2,1),(3,1)] cz18 Tryz.underlying88 ty88 J) J (wfA Tryz.underlying110 ty88 J ?_)))
       refine Qu S 0 J ty88 J J [vI 0,vI 0,.bool false,vS ([]:Str)] J J J #[vS ((rd a0.L x444).Key),.slice A820 x819.length c821,.bool false,vI 0,vI 0,.bool false,vS ([]:Str)] J J (eE1 E ?_)
       intro w845 E S
       refine wnQ (QJ (wmP J (W_v (.agg #[vS ((rd a0.L x444).Key),.slice A820 x819.length c821,.bool false,vI 0,vI 0,.bool false,vS ([]:Str)]) (Qi (S.blk 0 J) ty110 J (QG J) J J) J ?_)))
       obtain ⟨t846,ht847,H⟩:=QO H
       replace S:St w845 M843 F [_,_,_,_]:=S.pk [2,1,0,3]
       refine Y2 fn64 (Qr.con ht847 hs451 hs822) (Γ1:=[_,_]) (Γ2:=[_,_]) S J J ?_
       rintro _ w854 M855 Γ' hM856 E' S ⟨A848,c849,A851,c852,rfl,rfl⟩
       replace HM:=Hp.le_trans HM hM856
       replace hM844:=Hp.le_trans hM844 hM856
       replace E:=E.trans E'
       replace S:St w854 M855 F [_,_,_,_,_]:=S
       refine QK (bn (tn ?_))
       obtain ⟨M857,hM858,hf859,S⟩:=S.row_freeze 2 J
       replace HM:=Hp.le_trans HM hM858
       replace hM844:=Hp.le_trans hM844 hM858
       exact ⟨t846,A848,c849,A851,c852,M857,oi H,agP J,hM844,E,S.pk [1,0,3],hf859⟩
     rintro ρ w860 ⟨x761,A762,c763,A765,c766,M861,rfl,hρ,hM862,E,S,hs767⟩
     rw [QB hρ]
     replace HM:=Hp.le_trans HM hM862
     replace hM662:=Hp.le_trans hM662 hM862
     have H:=o768H
     refine tn (QJ (wmI J (wiI J J (waI J (wnQ ?_)))))
     exact ⟨k,Nat.lt_succ_self k,⟨(IntKind.i64.wrap (x444+(1:Int))),x761,A762,c763,A765,c766,M861,H,agP J,hM662,E,S.pk [0,1,2],hs767⟩⟩
    refine QA (cB hb663) ?_
    refine YZ ?_
    refine tx (tx (bsm (?_)))
    refine tn ?_
    exact ⟨x445,A446,c447,A449,c450,M661,oi H,trivial,hM662,E,S.pk [0,1,2],hs451⟩
 rintro ρ w863 ⟨x652,A653,c654,A656,c657,M864,rfl,hρ,hM865,E,S,hs658⟩
 rw [QB hρ]
 replace HM:=Hp.le_trans HM hM865
 have H:=o659H
 obtain rfl:=oi H
 exact ⟨_,_,_,rsA (vs:=[]) J,HM,E,S.pk [1,0],⟨A653,c654,A656,c657,J,hs658,J⟩⟩
def Q7 (a0:QE) (a1:Int):Nat→Bool→Int→Option ((Bool))
 | 0,_,_=>none
 | k+1,x254,x255=>(if (decide (x255<(a0.L.length:Int)))=true then (Option.bind (α:=Bool) (if x254=true then some (true) else (if 0≤x255∧x255<(a0.L.length:Int) then (Option.bind (α:=Bool) (if (rd a0.L x255).Has=true then (if 0≤x255∧x255<(a0.L.length:Int) then some (((rd a0.L x255).I.Writer==a1)) else none) else some (false)) (fun x611=>some (x611))) else none)) (fun x566=>Q7 a0 a1 k x566 (IntKind.i64.wrap (x255+(1:Int))))) else some (x254))
theorem Q7.mono {a0 a1}: ∀ {kl:Nat} {x0 x1},OLe (Q7 a0 a1 kl x0 x1) (Q7 a0 a1 (kl+1) x0 x1):=by
 intro kl
 induction kl with
 | zero=>intros;exact OLe.none
 | succ kl ih =>
  intros
  rw [Q7.eq_2,Q7.eq_2]
  exact mo
def Zo (k:Nat) (a0:QE) (a1:Int):Option (Ql×QE) :=
 (Option.bind (Q7 a0 a1 k false (0:Int)) (fun x441=>(if (!x441)=true then (Option.bind (Qw k a0 a1 (3:Int) (0:Int)) (fun t631=>some (cz11,t631))) else (if (a0.Time==a0.C.TS)=true then (Option.bind (Qw k a0 a1 (4:Int) (0:Int)) (fun t647=>some (cz10,t647))) else (Option.bind (Qw k (⟨⟨a0.C.Tasks,a0.C.Active,a0.C.Keys,a0.C.Depth,a0.C.TS,a0.C.KeyLen,a0.C.ValLen,a0.C.Fan⟩,a0.T,a0.L,(IntKind.i64.wrap (a0.Time+(1:Int))),a0.Low⟩:QE) a1 (3:Int) (IntKind.i64.wrap (a0.Time+(1:Int)))) (fun t661=>some (cz11,t661)))))))
theorem Zo.mono {k a0 a1}: OLe (Zo k a0 a1) (Zo (k+1) a0 a1):=by
 unfold Zo
 have m1:=@Q7.mono
 have m2:=@Qw.mono
 exact mo
theorem Zo.con {k M A0_8 c0_8 A0_9 c0_9} {a0:QE} {a1:Int} {bo0} {r:Ql×QE} (h:Zo k a0 a1=some r) (hr0_9:SlR Qa M (.slice A0_9 a0.L.length c0_9) a0.L): Con Tryz.prog 47 #[pt bo0 0,vI a1] M [B69 bo0 a0 A0_8 c0_8 A0_9 c0_9,Rw QD 112 A0_8 c0_8 a0.T] (fun v M' Γ'=>∃ (Aq1:Option Addr) (cq2:Nat) (Aq4:Option Addr) (cq5:Nat) (Aq7:Option Addr) (cq8:Nat),v=.agg #[vI r.1.Err,.bool r.1.Found,vS r.1.Value,.slice Aq1 r.1.Pairs.length cq2]∧SlR Qa M' (.slice Aq7 r.2.L.length cq8) r.2.L∧Γ'=[Rw Qq 119 Aq1 cq2 r.1.Pairs,B69 bo0 r.2 Aq4 cq5 Aq7 cq8,Rw QD 112 Aq4 cq5 r.2.T]):=by
 refine cwA Tryz.func47 J Tryz.ntmps47 Tryz.results47 J h ?_
 intro w F rn S hrn E HM H
 unfold Zo at H
 refine wsQ ?_
 refine YN S cz16 ty38 J J (eE2 E ?_)
 intro b1 w2 E S
 refine wnQ (wsQ (waB J (wnQ (QH (wsQ (waI J (wnQ ?_)))))))
 obtain ⟨o442,o442h,o442H⟩:=QO H
 refine Zr (fun ρ w'=>∃ (x441:Bool),(x441)=o442∧QV ρ [(0,pt bo0 0),(1,vI a1),(4,pt b1 0),(5,.bool x441)]∧Ext w w'∧St w' M F [Blk b1 (.cells cz16 38 (0,0)),B69 bo0 a0 A0_8 c0_8 A0_9 c0_9,Rw QD 112 A0_8 c0_8 a0.T]) ?_ ?_
 ·refine Yr (fun n ρ w'=>∃ (x254:Bool) (x255:Int),Q7 a0 a1 n x254 x255=some o442∧QV ρ [(0,pt bo0 0),(1,vI a1),(4,pt b1 0),(5,.bool x254),(6,vI x255)]∧Ext w w'∧St w' M F [Blk b1 (.cells cz16 38 (0,0)),B69 bo0 a0 A0_8 c0_8 A0_9 c0_9,Rw QD 112 A0_8 c0_8 a0.T]) k ?_ ?_
  ·exact ⟨false,(0:Int),o442h,agP J,E,S.pk [0,1,2]⟩
  ·intro n
   rintro ρ w443 ⟨x254,x255,H,hρ,E,S⟩
   rw [QB hρ]
   cases n with
   | zero=>cases H
   | succ k =>
    rw [Q7.eq_2] at H
    refine QH (wsQ (wmI J (wmP J (W_v _ (Qb J) J (wfA Tryz.underlying69 ty67 J (wlA S 1 ty67 J (W_v _ (Qm (n:=a0.L.length) Tryz.underlying67 J) J (wiB J J (wnQ ?_)))))))))
    rcases Q3 H with ⟨hb444,H⟩ | ⟨hb444,H⟩
    ·refine QC (cB hb444) ?_
     refine QX (tn (QH ?_))
     refine ZW ?_
     refine QJ (wmB J (wmB J ?_))
     obtain ⟨o567,o567h,o567H⟩:=QO H
     refine ZO 22 (fun ρ w'=>∃ (x566:Bool),(x566)=o567∧QV ρ [(0,pt bo0 0),(1,vI a1),(4,pt b1 0),(6,vI x255),(39,.bool x566)]∧Ext w w'∧St w' M F [Blk b1 (.cells cz16 38 (0,0)),B69 bo0 a0 A0_8 c0_8 A0_9 c0_9,Rw QD 112 A0_8 c0_8 a0.T]) ?_ ?_
     ·as_aux_lemma =>
       have H:=o567h
       rcases Q3 H with ⟨hb565,H⟩ | ⟨hb565,H⟩
       ·refine QZ (skF hb565) J (QZ (skF hb565) J (QZ (skF hb565) J (QZ (skF hb565) J (QZ (skF hb565) J (QZ (skF hb565) J (QZ (skF hb565) J (QZ (skF hb565) J (QZ (skF hb565) J (QZ (J) J (QZ (J) J (QZ (J) J (QZ (J) J (QZ (J) J (QZ (J) J (QZ (J) J ?_)))))))))))))))
        refine QZ (J) J (QZ (J) J (QZ (J) J (QZ (J) J (QZ (skF hb565) J (wpB hb565 J (QK ?_))))))
        exact ⟨true,oi H,agP J,E,S.pk [0,1,2]⟩
       ·refine QN (cS hb565) (wmP J (QN (cS hb565) (W_v _ (Qb J) J (QN (cS hb565) (wfA Tryz.underlying69 ty67 J (QN (cS hb565) (wlA S 1 ty67 J (QN (cS hb565) (wmI J (QN (cS hb565) ?_))))))))))
        obtain ⟨⟨p568,p569⟩,H⟩:=Z8 H
        obtain ⟨b570,o571,cs572,_,_,ee577,hb573,vs574,hR575,hc576⟩:=SlW.at' hr0_9 p568 p569
        obtain ⟨v581,hs580,rfl⟩:=hR575
        obtain ⟨A578,c579,rfl,_⟩:=hs580.form
        refine W_v _ (QS Tryz.underlying67 ty110 (slA ee577) J p568 p569) J (QN (cS hb565) (wfA Tryz.underlying110 ty4 J (QN (cS hb565) (W_v _ (Z0 (S.frz hb573) ty4 J (hc576 2 _ J)) J (QN (cS hb565) (wmB J ?_))))))
        obtain ⟨o612,o612h,o612H⟩:=QO H
        refine ZO 12 (fun ρ w'=>∃ (x611:Bool),(x611)=o612∧QV ρ [(0,pt bo0 0),(1,vI a1),(4,pt b1 0),(6,vI x255),(17,.bool x254),(18,pt bo0 0),(19,pt bo0 0),(20,pt bo0 9),(21,.slice A0_9 a0.L.length c0_9),(22,vI x255),(23,.pointer (some ⟨b570,o571+x255.toNat*7,none⟩)),(24,.pointer (some ⟨b570,o571+x255.toNat*7+2,none⟩)),(25,.bool ((rd a0.L x255).Has)),(26,.bool ((rd a0.L x255).Has)),(38,.bool x611)]∧Ext w w'∧St w' M F [Blk b1 (.cells cz16 38 (0,0)),B69 bo0 a0 A0_8 c0_8 A0_9 c0_9,Rw QD 112 A0_8 c0_8 a0.T]) ?_ ?_
        ·as_aux_lemma =>
          have H:=o612h
          rcases Q3 H with ⟨hb610,H⟩ | ⟨hb610,H⟩
          ·refine QN (cS hb610) (wmP J (QN (cS hb610) (W_v _ (Qb J) J (QN (cS hb610) (wfA Tryz.underlying69 ty67 J (QN (cS hb610) (wlA S 1 ty67 J (QN (cS hb610) (wmI J (QN (cS hb610) ?_))))))))))
           obtain ⟨⟨p613,p614⟩,H⟩:=Z8 H
           obtain ⟨b615,o616,cs617,_,_,ee622,hb618,vs619,hR620,hc621⟩:=SlW.at' hr0_9 p613 p614
           obtain ⟨v626,hs625,rfl⟩:=hR620
           obtain ⟨A623,c624,rfl,_⟩:=hs625.form
           refine W_v _ (QS Tryz.underlying67 ty110 (slA ee622) J p613 p614) J (QN (cS hb610) (wfA Tryz.underlying110 ty88 J (QN (cS hb610) (wfA Tryz.underlying88 ty3 J (QN (cS hb610) (W_v _ (Z0 (S.frz hb618) ty3 J (hc621 3 _ J)) J (QN (cS hb610) (wmI J (QN (cS hb610) (wiB J J (QN (cS hb565) (wpB hb610 J (QK ?_)))))))))))))
           exact ⟨((rd a0.L x255).I.Writer==a1),oi H,agP J,E,S.pk [0,1,2]⟩
          ·refine QZ (skT hb610) J (QZ (skT hb610) J (QZ (skT hb610) J (QZ (skT hb610) J (QZ (skT hb610) J (QZ (skT hb610) J (QZ (skT hb610) J (QZ (skT hb610) J (QZ (skT hb610) J (QZ (skT hb610) J (QZ (skT hb610) J (QN (cS hb565) (wqB hb610 J (QK ?_)))))))))))))
           exact ⟨false,oi H,agP J,E,S.pk [0,1,2]⟩
        rintro ρ w627 ⟨x611,rfl,hρ,E,S⟩
        rw [QB hρ]
        have H:=o612H
        refine wqB hb565 J (QK ?_)
        exact ⟨x611,oi H,agP J,E,S.pk [0,1,2]⟩
     rintro ρ w628 ⟨x566,rfl,hρ,E,S⟩
     rw [QB hρ]
     have H:=o567H
     refine waB J (QK (bn (tn (QJ (wmI J (wiI J J (waI J (wnQ ?_))))))))
     exact ⟨k,Nat.lt_succ_self k,⟨x566,(IntKind.i64.wrap (x255+(1:Int))),H,agP J,E,S.pk [0,1,2]⟩⟩
    refine QA (cB hb444) ?_
    refine YZ ?_
    refine tx (tx (bsm (?_)))
    refine tn ?_
    exact ⟨x254,oi H,agP J,E,S.pk [0,1,2]⟩
 rintro ρ w629 ⟨x441,rfl,hρ,E,S⟩
 rw [QB hρ]
 have H:=o442H
 refine tn ?_
 as_aux_lemma =>
 refine QH (wsQ (wmB J (W_v _ (Xr (b:=x441) J) J (wnQ ?_))))
 rcases Q3 H with ⟨hb630,H⟩ | ⟨hb630,H⟩
 ·refine QC (cB hb630) ?_
  refine wsQ (wmP J (wmI J ?_))
  obtain ⟨t631,ht632,H⟩:=QO H
  replace S:St w629 M F [_,_,_]:=S.pk [1,2,0]
  refine Y2 fn48 (Qw.con ht632 hr0_9) (Γ1:=[_,_]) (Γ2:=[_]) S J J ?_
  rintro _ w639 M640 Γ' hM641 E' S ⟨A633,c634,A636,c637,rfl,hs638,rfl⟩
  replace HM:=Hp.le_trans HM hM641
  replace E:=E.trans E'
  replace S:St w639 M640 F [_,_,_]:=S
  refine wnQ (wsQ (W_v _ (xb2 [(0,1),(1,1),(2,1),(3,1)] cz16 Tryz.underlying38 ty38 J) J ?_))
  refine Qu S 2 J ty38 J J [vI 0,.bool false,vS ([]:Str),.slice none 0 0] J J J cz16 J J (eE1 E ?_)
  intro w642 E S
  refine wnQ ?_
  refine QT ?_
  refine tr (?_)
  obtain rfl:=oi H
  replace S:=S.row_nil Qq 119
  exact ⟨_,_,_,fun w1 e1=>Zg (vs:=[.agg #[vI 0,.bool false,vS ([]:Str),.slice none ([]:List Qp).length 0]]) (FA.cons (rcA S e1 3 ty38 J J J) (FA.nil)),HM,E,S.pk [0,1,2],⟨none,0,A633,c634,A636,c637,J,hs638,J⟩⟩
 refine QA (cB hb630) (QX (tn (QH (QH ?_))))
 refine rgA S [0,1,2] [_,_,_] 10 mixed J (eE1 E ?_)
 intro w644 E S D1
 refine tz0 0 J D1 (xmP J) (tz0 1 J D1 (Qb J) (tz0 2 J D1 (xfA Tryz.underlying69 ty3 J) (tz1 3 J D1 (fun w' h'=>xlA h' 1 ty3 J) (tz0 4 J D1 (xmP J) (tz0 5 J D1 (Qb J) (tz0 6 J D1 (xfA Tryz.underlying69 ty23 J) (tz0 7 J D1 (xfA Tryz.underlying23 ty3 J) (tz1 8 J D1 (fun w' h'=>xlA h' 1 ty3 J) (tz0 9 J D1 (xiB J J) ?_)))))))))
 refine Wz ?_
 refine tn ?_
 rcases Q3 H with ⟨hb646,H⟩ | ⟨hb646,H⟩
 ·refine QC (cB hb646) ?_
  refine wsQ (wmP J (wmI J ?_))
  obtain ⟨t647,ht648,H⟩:=QO H
  replace S:St w644 M F [_,_,_]:=S.pk [1,2,0]
  refine Y2 fn48 (Qw.con ht648 hr0_9) (Γ1:=[_,_]) (Γ2:=[_]) S J J ?_
  rintro _ w655 M656 Γ' hM657 E' S ⟨A649,c650,A652,c653,rfl,hs654,rfl⟩
  replace HM:=Hp.le_trans HM hM657
  replace E:=E.trans E'
  replace S:St w655 M656 F [_,_,_]:=S
  refine wnQ (wsQ (W_v _ (xb2 [(0,1),(1,1),(2,1),(3,1)] cz15 Tryz.underlying38 ty38 J) J ?_))
  refine Qu S 2 J ty38 J J [vI 35,.bool false,vS ([]:Str),.slice none 0 0] J J J cz15 J J (eE1 E ?_)
  intro w658 E S
  refine wnQ ?_
  refine QT ?_
  refine tr (?_)
  obtain rfl:=oi H
  replace S:=S.row_nil Qq 119
  exact ⟨_,_,_,fun w1 e1=>Zg (vs:=[.agg #[vI 35,.bool false,vS ([]:Str),.slice none ([]:List Qp).length 0]]) (FA.cons (rcA S e1 3 ty38 J J J) (FA.nil)),HM,E,S.pk [0,1,2],⟨none,0,A649,c650,A652,c653,J,hs654,J⟩⟩
 refine QA (cB hb646) (QX (tn ?_))
 as_aux_lemma =>
 refine wsQ (wmP J (W_v _ (Qb J) J (wfA Tryz.underlying69 ty3 J (wlA S 1 ty3 J (wiI J J (W_v _ (Qb J) J (wfA Tryz.underlying69 ty3 J ?_)))))))
 refine Qu S 1 J ty3 J J [vI (IntKind.i64.wrap (a0.Time+(1:Int)))] J J J #[vI a0.C.Tasks,vI a0.C.Active,vI a0.C.Keys,vI a0.C.Depth,vI a0.C.TS,vI a0.C.KeyLen,vI a0.C.ValLen,vI a0.C.Fan,.slice A0_8 a0.T.length c0_8,.slice A0_9 a0.L.length c0_9,vI (IntKind.i64.wrap (a0.Time+(1:Int))),vI a0.Low] J J (eE1 E ?_)
 intro w660 E S
 refine wnQ (wsQ (wmP J (wmI J (wmP J (W_v _ (Qb J) J (wfA Tryz.underlying69 ty3 J (wlA S 1 ty3 J ?_)))))))
 obtain ⟨t661,ht662,H⟩:=QO H
 replace S:St w660 M F [_,_,_]:=S.pk [1,2,0]
 refine Y2 fn48 (Qw.con ht662 hr0_9) (Γ1:=[_,_]) (Γ2:=[_]) S J J ?_
 rintro _ w669 M670 Γ' hM671 E' S ⟨A663,c664,A666,c667,rfl,hs668,rfl⟩
 replace HM:=Hp.le_trans HM hM671
 replace E:=E.trans E'
 replace S:St w669 M670 F [_,_,_]:=S
 refine wnQ (wsQ (W_v _ (xb2 [(0,1),(1,1),(2,1),(3,1)] cz16 Tryz.underlying38 ty38 J) J ?_))
 refine Qu S 2 J ty38 J J [vI 0,.bool false,vS ([]:Str),.slice none 0 0] J J J cz16 J J (eE1 E ?_)
 intro w672 E S
 refine wnQ ?_
 refine QT ?_
 obtain rfl:=oi H
 replace S:=S.row_nil Qq 119
 exact ⟨_,_,_,fun w1 e1=>Zg (vs:=[.agg #[vI 0,.bool false,vS ([]:Str),.slice none ([]:List Qp).length 0]]) (FA.cons (rcA S e1 3 ty38 J J J) (FA.nil)),HM,E,S.pk [0,1,2],⟨none,0,A663,c664,A666,c667,J,hs668,J⟩⟩
def ZC (a0:QE):Nat→Int→QE→Option ((QE))
 | 0,_,_=>none
 | k+1,x774,x775=>(if (decide (x774<(a0.L.length:Int)))=true then (if 0≤x774∧x774<(a0.L.length:Int) then (Option.bind (XP k ((rd a0.L x774).L) x775.Low) (fun t870=>(Option.bind (Qr k x775 (⟨(rd a0.L x774).Key,t870,(rd a0.L x774).Has,⟨(rd a0.L x774).I.Writer,(rd a0.L x774).I.TS,(rd a0.L x774).I.Tomb,(rd a0.L x774).I.Value⟩⟩:Qk)) (fun t880=>ZC a0 k (IntKind.i64.wrap (x774+(1:Int))) t880)))) else none) else some (x775))
theorem ZC.mono {a0}: ∀ {kl:Nat} {x0 x1},OLe (ZC a0 kl x0 x1) (ZC a0 (kl+1) x0 x1):=by
 intro kl
 induction kl with
 | zero=>intros;exact OLe.none
 | succ kl ih =>
  intros
  rw [ZC.eq_2,ZC.eq_2]
  have m1:=@XP.mono
  have m2:=@Qr.mono
  exact mo
def ZD (a0:QE):Nat→Int→Int→Option ((Int))
 | 0,_,_=>none
 | k+1,x330,x331=>(if (decide (x330<(a0.T.length:Int)))=true then (Option.bind (α:=Int) (if 0≤x330∧x330<(a0.T.length:Int) then (Option.bind (α:=Bool) (if ((rd a0.T x330).State==(1:Int))=true then (if 0≤x330∧x330<(a0.T.length:Int) then some ((decide ((rd a0.T x330).Snapshot<x331))) else none) else some (false)) (fun x611=>(Option.bind (α:=Int) (if x611=true then (if 0≤x330∧x330<(a0.T.length:Int) then some ((rd a0.T x330).Snapshot) else none) else some (x331)) (fun x643=>some (x643))))) else none) (fun x577=>ZD a0 k (IntKind.i64.wrap (x330+(1:Int))) x577)) else some (x331))
theorem ZD.mono {a0}: ∀ {kl:Nat} {x0 x1},OLe (ZD a0 kl x0 x1) (ZD a0 (kl+1) x0 x1):=by
 intro kl
 induction kl with
 | zero=>intros;exact OLe.none
 | succ kl ih =>
  intros
  rw [ZD.eq_2,ZD.eq_2]
  exact mo
def Ze (k:Nat) (a0:QE):Option (QE) :=
 (Option.bind (ZD a0 k (0:Int) a0.Time) (fun x494=>(Option.bind (ZC a0 k (0:Int) (⟨⟨a0.C.Tasks,a0.C.Active,a0.C.Keys,a0.C.Depth,a0.C.TS,a0.C.KeyLen,a0.C.ValLen,a0.C.Fan⟩,a0.T,a0.L,a0.Time,x494⟩:QE)) (fun x831=>some x831))))
theorem Ze.mono {k a0}: OLe (Ze k a0) (Ze (k+1) a0):=by
 unfold Ze
 have m1:=@ZD.mono
 have m2:=@ZC.mono
 exact mo
theorem Ze.con {k M A0_8 c0_8 A0_9 c0_9} {a0:QE} {bo0} {r:QE} (h:Ze k a0=some r) (hr0_9:SlR Qa M (.slice A0_9 a0.L.length c0_9) a0.L): Con Tryz.prog 49 #[pt bo0 0] M [B69 bo0 a0 A0_8 c0_8 A0_9 c0_9,Rw QD 112 A0_8 c0_8 a0.T] (fun v M' Γ'=>∃ (Aq1:Option Addr) (cq2:Nat) (Aq4:Option Addr) (cq5:Nat),v=.tuple #[]∧SlR Qa M' (.slice Aq4 r.L.length cq5) r.L∧Γ'=[B69 bo0 r Aq1 cq2 Aq4 cq5,Rw QD 112 Aq1 cq2 r.T]):=by
 refine cwA Tryz.func49 J Tryz.ntmps49 Tryz.results49 J h ?_
 intro w F rn S hrn E HM H
 unfold Ze at H
 refine wsQ (wmP J (wmP J (W_v _ (Qb J) J (wfA Tryz.underlying69 ty3 J (wlA S 0 ty3 J (W_v _ (Qb J) J (wfA Tryz.underlying69 ty3 J ?_)))))))
 refine Qu S 0 J ty3 J J [vI a0.Time] J J J #[vI a0.C.Tasks,vI a0.C.Active,vI a0.C.Keys,vI a0.C.Depth,vI a0.C.TS,vI a0.C.KeyLen,vI a0.C.ValLen,vI a0.C.Fan,.slice A0_8 a0.T.length c0_8,.slice A0_9 a0.L.length c0_9,vI a0.Time,vI a0.Time] J J (eE1 E ?_)
 intro w1 E S
 refine wnQ (QH (wsQ (waI J (wnQ ?_))))
 obtain ⟨o495,o495h,o495H⟩:=QO H
 refine Zr (fun ρ w'=>∃ (x494:Int),(x494)=o495∧QV ρ [(0,pt bo0 0)]∧Ext w w'∧St w' M F [Blk bo0 (.cells #[vI a0.C.Tasks,vI a0.C.Active,vI a0.C.Keys,vI a0.C.Depth,vI a0.C.TS,vI a0.C.KeyLen,vI a0.C.ValLen,vI a0.C.Fan,.slice A0_8 a0.T.length c0_8,.slice A0_9 a0.L.length c0_9,vI a0.Time,vI x494] 69 (0,0)),Rw QD 112 A0_8 c0_8 a0.T]) ?_ ?_
 ·refine Yr (fun n ρ w'=>∃ (x330:Int) (x331:Int),ZD a0 n x330 x331=some o495∧QV ρ [(0,pt bo0 0),(2,vI x330)]∧Ext w w'∧St w' M F [Blk bo0 (.cells #[vI a0.C.Tasks,vI a0.C.Active,vI a0.C.Keys,vI a0.C.Depth,vI a0.C.TS,vI a0.C.KeyLen,vI a0.C.ValLen,vI a0.C.Fan,.slice A0_8 a0.T.length c0_8,.slice A0_9 a0.L.length c0_9,vI a0.Time,vI x331] 69 (0,0)),Rw QD 112 A0_8 c0_8 a0.T]) k ?_ ?_
  ·exact ⟨(0:Int),a0.Time,o495h,agP J,E,S.pk [0,1]⟩
  ·intro n
   rintro ρ w496 ⟨x330,x331,H,hρ,E,S⟩
   rw [QB hρ]
   cases n with
   | zero=>cases H
   | succ k =>
    rw [ZD.eq_2] at H
    refine QH (wsQ (wmI J (wmP J (W_v _ (Qb J) J (wfA Tryz.underlying69 ty66 J (wlA S 0 ty66 J (W_v _ (Qm (n:=a0.T.length) Tryz.underlying66 J) J (wiB J J (wnQ ?_)))))))))
    rcases Q3 H with ⟨hb497,H⟩ | ⟨hb497,H⟩
    ·refine QC (cB hb497) ?_
     refine QX (tn (QH ?_))
     obtain ⟨o578,o578h,o578H⟩:=QO H
     refine Yc (fun ρ w'=>∃ (x577:Int),(x577)=o578∧QV ρ [(0,pt bo0 0),(2,vI x330)]∧Ext w w'∧St w' M F [Blk bo0 (.cells #[vI a0.C.Tasks,vI a0.C.Active,vI a0.C.Keys,vI a0.C.Depth,vI a0.C.TS,vI a0.C.KeyLen,vI a0.C.ValLen,vI a0.C.Fan,.slice A0_8 a0.T.length c0_8,.slice A0_9 a0.L.length c0_9,vI a0.Time,vI x577] 69 (0,0)),Rw QD 112 A0_8 c0_8 a0.T]) ?_ ?_
     ·as_aux_lemma =>
       clear o578H
       have H:=o578h
       refine ZW ?_
       refine QH ?_
       refine rgA S [0,1] [_,_] 24 mixed J (eE1 E ?_)
       intro w598 E S D1
       refine tz0 0 J D1 (xmP J) (tz0 1 J D1 (Qb J) (tz0 2 J D1 (xfA Tryz.underlying69 ty66 J) (tz1 3 J D1 (fun w' h'=>xlA h' 0 ty66 J) (tz0 4 J D1 (xmI J) ?_))))
       obtain ⟨⟨p600,p601⟩,H⟩:=Z8 H
       obtain ⟨b602,o603,_,_,_,ee604,_⟩:=SlW.at' (S.row_read 1 J) p600 p601
       refine tz0 5 J D1 (QS Tryz.underlying66 ty112 (slA ee604) J p600 p601) (tz0 6 J D1 (xfA Tryz.underlying112 ty5 J) (Wt 7 J J J (vU ((rd a0.T x330).State)) J (fun w' h'=>X9 h' 1 J ee604 p600 p601 2 (by rintro _ _ rfl;rfl) ty5 J) D1 (tz0 8 J D1 (xiB J J) (tz0 9 J D1 (xmB J) ?_))))
       obtain ⟨o612,o612h,o612H⟩:=QO H
       refine YB (fun ρ w'=>∃ (x611:Bool),(x611)=o612∧QV ρ [(0,pt bo0 0),(2,vI x330),(45,.bool x611)]∧Ext w w'∧St w' M F [Blk bo0 (.cells #[vI a0.C.Tasks,vI a0.C.Active,vI a0.C.Keys,vI a0.C.Depth,vI a0.C.TS,vI a0.C.KeyLen,vI a0.C.ValLen,vI a0.C.Fan,.slice A0_8 a0.T.length c0_8,.slice A0_9 a0.L.length c0_9,vI a0.Time,vI x331] 69 (0,0)),Rw QD 112 A0_8 c0_8 a0.T]) 0 (Ls 24 [0,1,2,3,4,5,6,7,8,9,10,11,12,13,14,15,16,17,18,19,20,21,22,23]) ?_ ?_
       rotate_left
       ·intro hrest
        have H:=o612h
        rcases Q3 H with ⟨hb610,H⟩ | ⟨hb610,H⟩
        ·refine tz2 10 J (cS hb610) D1 (xmP J) (tz2 11 J (cS hb610) D1 (Qb J) (tz2 12 J (cS hb610) D1 (xfA Tryz.underlying69 ty66 J) (tz3 13 J (cS hb610) D1 (fun w' h'=>xlA h' 0 ty66 J) (tz2 14 J (cS hb610) D1 (xmI J) ?_))))
         obtain ⟨⟨p613,p614⟩,H⟩:=Z8 H
         obtain ⟨b615,o616,_,_,_,ee617,_⟩:=SlW.at' (S.row_read 1 J) p613 p614
         refine tz2 15 J (cS hb610) D1 (QS Tryz.underlying66 ty112 (slA ee617) J p613 p614) (tz2 16 J (cS hb610) D1 (xfA Tryz.underlying112 ty3 J) (WtY 17 J J J (vI ((rd a0.T x330).Snapshot)) J (cS hb610) (fun w' h'=>X9 h' 1 J ee617 p613 p614 3 (by rintro _ _ rfl;rfl) ty3 J) D1 (tz2 18 J (cS hb610) D1 (xmP J) (tz2 19 J (cS hb610) D1 (Qb J) (tz2 20 J (cS hb610) D1 (xfA Tryz.underlying69 ty3 J) (tz3 21 J (cS hb610) D1 (fun w' h'=>xlA h' 0 ty3 J) (tz2 22 J (cS hb610) D1 (xiB J J) (tz0 23 J D1 (xpB hb610 J) ?_))))))))
         exact hrest _ _ ⟨(decide ((rd a0.T x330).Snapshot<x331)),oi H,agP J,E,S.pk [0,1]⟩
        ·refine tz4 10 J (skT hb610) D1 (tz4 11 J (skT hb610) D1 (tz4 12 J (skT hb610) D1 (tz4 13 J (skT hb610) D1 (tz4 14 J (skT hb610) D1 (tz4 15 J (skT hb610) D1 (tz4 16 J (skT hb610) D1 (tz4 17 J (skT hb610) D1 (tz4 18 J (skT hb610) D1 (tz4 19 J (skT hb610) D1 (tz4 20 J (skT hb610) D1 (tz4 21 J (skT hb610) D1 (tz4 22 J (skT hb610) D1 (tz0 23 J D1 (xqB hb610 J) ?_)))))))))))))
         exact hrest _ _ ⟨false,oi H,agP J,E,S.pk [0,1]⟩
       rintro ρ w618 ⟨x611,rfl,hρ,E,S⟩
       rw [QB hρ]
       have H:=o612H
       refine Wz ?_
       refine tn ?_
       obtain ⟨o644,o644h,o644H⟩:=QO H
       refine Yc (fun ρ w'=>∃ (x643:Int),(x643)=o644∧QV ρ [(0,pt bo0 0),(2,vI x330)]∧Ext w w'∧St w' M F [Blk bo0 (.cells #[vI a0.C.Tasks,vI a0.C.Active,vI a0.C.Keys,vI a0.C.Depth,vI a0.C.TS,vI a0.C.KeyLen,vI a0.C.ValLen,vI a0.C.Fan,.slice A0_8 a0.T.length c0_8,.slice A0_9 a0.L.length c0_9,vI a0.Time,vI x643] 69 (0,0)),Rw QD 112 A0_8 c0_8 a0.T]) ?_ ?_
       ·clear o644H
        have H:=o644h
        rcases Q3 H with ⟨hb645,H⟩ | ⟨hb645,H⟩
        ·refine QC (cB hb645) ?_
         refine QJ (wmP J (wmP J (W_v _ (Qb J) J (wfA Tryz.underlying69 ty66 J (wlA S 0 ty66 J (wmI J ?_))))))
         obtain ⟨⟨p646,p647⟩,H⟩:=Z8 H
         obtain ⟨b648,o649,cs650,_,_,ee655,hb651,vs652,hR653,hc654⟩:=SlW.at' (S.row_read 1 J) p646 p647
         obtain rfl:vs652=_:=hR653
         refine W_v _ (QS Tryz.underlying66 ty112 (slA ee655) J p646 p647) J (wfA Tryz.underlying112 ty3 J (W_v _ (Z0 (Hp.of_get hb651) ty3 J (hc654 3 _ J)) J (W_v _ (Qb J) J (wfA Tryz.underlying69 ty3 J ?_))))
         refine Qu S 0 J ty3 J J [vI ((rd a0.T x330).Snapshot)] J J J #[vI a0.C.Tasks,vI a0.C.Active,vI a0.C.Keys,vI a0.C.Depth,vI a0.C.TS,vI a0.C.KeyLen,vI a0.C.ValLen,vI a0.C.Fan,.slice A0_8 a0.T.length c0_8,.slice A0_9 a0.L.length c0_9,vI a0.Time,vI ((rd a0.T x330).Snapshot)] J J (eE1 E ?_)
         intro w656 E S
         refine wnQ ?_
         exact ⟨((rd a0.T x330).Snapshot),oi H,agP J,E,S.pk [0,1]⟩
        refine QA (cB hb645) (QX (tn ?_))
        exact ⟨x331,oi H,agP J,E,S.pk [0,1]⟩
       rintro ρ w657 ⟨x643,rfl,hρ,E,S⟩
       rw [QB hρ]
       have H:=o644H
       refine bn (tn ?_)
       exact ⟨x643,oi H,agP J,E,S.pk [0,1]⟩
     rintro ρ w658 ⟨x577,rfl,hρ,E,S⟩
     rw [QB hρ]
     have H:=o578H
     refine tn (QJ (wmI J (wiI J J (waI J (wnQ ?_)))))
     exact ⟨k,Nat.lt_succ_self k,⟨(IntKind.i64.wrap (x330+(1:Int))),x577,H,agP J,E,S.pk [0,1]⟩⟩
    refine QA (cB hb497) ?_
    refine YZ ?_
    refine tx (tx (bsm (?_)))
    refine tn ?_
    exact ⟨x331,oi H,agP J,E,S.pk [0,1]⟩
 rintro ρ w659 ⟨x494,rfl,hρ,E,S⟩
 rw [QB hρ]
 have H:=o495H
 refine tn ?_
 as_aux_lemma =>
 refine wsQ (wmP J (W_v _ (Qb J) J (wfA Tryz.underlying69 ty67 J (wlA S 0 ty67 J (waL J (wnQ (wsQ (waI J (wnQ ?_)))))))))
 obtain ⟨o838,o838h,o838H⟩:=QO H
 refine Zr (fun ρ w'=>∃ (x831:QE) (A832:Option Addr) (c833:Nat) (A835:Option Addr) (c836:Nat) (Mj:Hp),(x831)=o838∧QV ρ []∧M.le Mj∧Ext w w'∧St w' Mj F [Rw QD 112 A832 c833 x831.T,B69 bo0 x831 A832 c833 A835 c836]∧SlR Qa Mj (.slice A835 x831.L.length c836) x831.L) ?_ ?_
 ·refine Yr (fun n ρ w'=>∃ (x774:Int) (x775:QE) (A776:Option Addr) (c777:Nat) (A779:Option Addr) (c780:Nat) (Mj:Hp),ZC a0 n x774 x775=some o838∧QV ρ [(0,pt bo0 0),(3,.slice A0_9 a0.L.length c0_9),(4,vI x774)]∧M.le Mj∧Ext w w'∧St w' Mj F [Rw QD 112 A776 c777 x775.T,B69 bo0 x775 A776 c777 A779 c780]∧SlR Qa Mj (.slice A779 x775.L.length c780) x775.L) k ?_ ?_
  ·exact ⟨(0:Int),(⟨⟨a0.C.Tasks,a0.C.Active,a0.C.Keys,a0.C.Depth,a0.C.TS,a0.C.KeyLen,a0.C.ValLen,a0.C.Fan⟩,a0.T,a0.L,a0.Time,x494⟩:QE),A0_8,c0_8,A0_9,c0_9,M,o838h,agP J,(Hp.le_refl M),E,S.pk [1,0],hr0_9⟩
  ·intro n
   rintro ρ w839 ⟨x774,x775,A776,c777,A779,c780,M840,H,hρ,hM841,E,S,hs781⟩
   rw [QB hρ]
   replace HM:=Hp.le_trans HM hM841
   replace hr0_9:=SlR.mono hr0_9 hM841
   cases n with
   | zero=>cases H
   | succ k =>
    rw [ZC.eq_2] at H
    refine QH (wsQ (wmI J (wmL J (W_v _ (Qm (n:=a0.L.length) Tryz.underlying67 J) J (wiB J J (wnQ ?_))))))
    rcases Q3 H with ⟨hb842,H⟩ | ⟨hb842,H⟩
    ·refine QC (cB hb842) ?_
     refine QX (tn (QH ?_))
     refine ZW ?_
     refine wsQ (wmL J (wmI J ?_))
     obtain ⟨⟨p843,p844⟩,H⟩:=Z8 H
     obtain ⟨b845,o846,cs847,_,_,ee852,hb848,vs849,hR850,hc851⟩:=SlW.at' hr0_9 p843 p844
     obtain ⟨v856,hs855,rfl⟩:=hR850
     obtain ⟨A853,c854,rfl,_⟩:=hs855.form
     refine W_v _ (QS Tryz.underlying67 ty110 (slA ee852) J p843 p844) J (W_v (.agg #[vS ((rd a0.L x774).Key),.slice A853 ((rd a0.L x774).L).length c854,.bool ((rd a0.L x774).Has),vI ((rd a0.L x774).I.Writer),vI ((rd a0.L x774).I.TS),.bool ((rd a0.L x774).I.Tomb),vS ((rd a0.L x774).I.Value)]) (Qi (S.frz hb848) ty110 J (X1 hc851 0 J) J J) J ?_)
     refine YN S cz3 ty110 J J (eE2 E ?_)
     intro b857 w858 E S
     refine Qu S 0 J ty110 J J [vS ((rd a0.L x774).Key),.slice A853 ((rd a0.L x774).L).length c854,.bool ((rd a0.L x774).Has),vI ((rd a0.L x774).I.Writer),vI ((rd a0.L x774).I.TS),.bool ((rd a0.L x774).I.Tomb),vS ((rd a0.L x774).I.Value)] J J J #[vS ((rd a0.L x774).Key),.slice A853 ((rd a0.L x774).L).length c854,.bool ((rd a0.L x774).Has),vI ((rd a0.L x774).I.Writer),vI ((rd a0.L x774).I.TS),.bool ((rd a0.L x774).I.Tomb),vS ((rd a0.L x774).I.Value)] (by as_aux_lemma=>kernel_rfl) J (eE1 E ?_)
     intro w860 E S
     refine wnQ (QH ?_)
     refine rgA S [0,1,2] [_,_,_] 8 mixed J (eE1 E ?_)
     intro w868 E S D4
     refine tz0 0 J D4 (xfA Tryz.underlying110 ty86 J) (tz1 1 J D4 (fun w' h'=>xlA h' 0 ty86 J) (tz0 2 J D4 (xmP J) (tz0 3 J D4 (Qb J) (tz0 4 J D4 (xfA Tryz.underlying69 ty3 J) (tz1 5 J D4 (fun w' h'=>xlA h' 2 ty3 J) ?_)))))
     refine Wo 6 J ?_
     obtain ⟨t870,ht871,H⟩:=QO H
     refine ZR fn66 (XP.con ht871 hs855) S J J (by rintro _ _ _ ⟨_,_,_,rfl⟩;exact (QP (YX (fun _ _ _ _ h=>h)) YE)) (eE4 E ?_)
     rintro _ w875 _ Γ' E S ⟨A872,c873,rfl,rfl⟩
     refine QK (Yl ⟨.inr ⟨M840,Hp.le_refl M840,(S.pk [1,2,3])⟩,?_⟩)
     refine tz0 7 J (⟨M840,Hp.le_refl M840,(S.pk [1,2,3])⟩) (xfA Tryz.underlying110 ty86 J) ?_
     refine Wo 8 J ?_
     refine Qu S 1 J ty86 J J [.slice A872 t870.length c873] J J J #[vS ((rd a0.L x774).Key),.slice A872 t870.length c873,.bool ((rd a0.L x774).Has),vI ((rd a0.L x774).I.Writer),vI ((rd a0.L x774).I.TS),.bool ((rd a0.L x774).I.Tomb),vS ((rd a0.L x774).I.Value)] J J (eE1 E ?_)
     intro w876 E S
     refine QK (Yl ⟨.inl (by decide),?_⟩)
     refine Wz ?_
     refine tn (QJ (wmP J (W_v (.agg #[vS ((rd a0.L x774).Key),.slice A872 t870.length c873,.bool ((rd a0.L x774).Has),vI ((rd a0.L x774).I.Writer),vI ((rd a0.L x774).I.TS),.bool ((rd a0.L x774).I.Tomb),vS ((rd a0.L x774).I.Value)]) (Qi (S.blk 1 J) ty110 J (QG J) J J) J ?_)))
     obtain ⟨M877,hM878,hf879,S⟩:=S.row_freeze 0 J
     replace HM:=Hp.le_trans HM hM878
     replace hM841:=Hp.le_trans hM841 hM878
     replace hs781:=SlR.mono hs781 hM878
     obtain ⟨t880,ht881,H⟩:=QO H
     replace S:St w876 M877 F [_,_,_]:=S.pk [2,1,0]
     refine Y2 fn64 (Qr.con ht881 hs781 hf879) (Γ1:=[_,_]) (Γ2:=[_]) S J J ?_
     rintro _ w888 M889 Γ' hM890 E' S ⟨A882,c883,A885,c886,rfl,rfl⟩
     replace HM:=Hp.le_trans HM hM890
     replace hM841:=Hp.le_trans hM841 hM890
     replace E:=E.trans E'
     replace S:St w888 M889 F [_,_,_,_]:=S
     refine QK (bn (tn (QJ (wmI J (wiI J J (waI J (wnQ ?_)))))))
     obtain ⟨M891,hM892,hf893,S⟩:=S.row_freeze 2 J
     replace HM:=Hp.le_trans HM hM892
     replace hM841:=Hp.le_trans hM841 hM892
     exact ⟨k,Nat.lt_succ_self k,⟨(IntKind.i64.wrap (x774+(1:Int))),t880,A882,c883,A885,c886,M891,H,agP J,hM841,E,S.pk [1,0],hf893⟩⟩
    refine QA (cB hb842) ?_
    refine YZ ?_
    refine tx (tx (bsm (?_)))
    refine tn ?_
    exact ⟨x775,A776,c777,A779,c780,M840,oi H,trivial,hM841,E,S.pk [0,1],hs781⟩
 rintro ρ w894 ⟨x831,A832,c833,A835,c836,M895,rfl,hρ,hM896,E,S,hs837⟩
 rw [QB hρ]
 replace HM:=Hp.le_trans HM hM896
 have H:=o838H
 obtain rfl:=oi H
 exact ⟨_,_,_,rsA (vs:=[]) J,HM,E,S.pk [1,0],⟨A832,c833,A835,c836,J,hs837,J⟩⟩
end Go.Proofs.YtkknoimjgifhlaaGreatDoor
