import Derived.Test.YtkknoimjgifhlaaGreatDoorGr3B
import Derived.Test.YtkknoimjgifhlaaGreatDoorGr3LRoomTellsP0
import Derived.Test.YtkknoimjgifhlaaGreatDoorGr3LRoomTellsP1
import Derived.Test.YtkknoimjgifhlaaGreatDoorGr3LRoomTellsP2
namespace Go.Proofs.YtkknoimjgifhlaaGreatDoor
open Go
set_option linter.unusedVariables false
set_option linter.unusedSimpArgs false
set_option maxHeartbeats 80000000
set_option maxRecDepth 100000
def YD (k:Nat) (a0:QW) (a1:Int) (a2:QY):Option (Ql×QW) :=
 (Option.bind (YL k a0 a1 a2) (fun t7=>(if (t7 != (0:Int))=true then some ((⟨t7,false,([]:Str),([]:List Qp)⟩:Ql),a0) else (Option.bind (YP k a0 a1 a2.Tx) (fun t15=>(if 0≤a2.Kind∧a2.Kind<(10:Int) then (if (a2.Kind==(1:Int))=true then (Option.bind (Yd k a0 t15.1 a1 a2) (fun t206=>some (t206.1,t206.2))) else (if (a2.Kind==(2:Int))=true then (Option.bind (Y0 k a0 t15.1 a1 a2) (fun t230=>some (t230,a0))) else (if (a2.Kind==(3:Int))=true then (Option.bind (Y9 k a0 t15.1 a1 a2) (fun t240=>some (t240.1,t240.2))) else (if (a2.Kind==(4:Int))=true then (Option.bind (XA k a0 t15.1 a1 a2) (fun t264=>some (t264.1,t264.2))) else (if (a2.Kind==(5:Int))=true then (Option.bind (Yi k a0 t15.1 a1 a2) (fun t288=>some (t288,a0))) else (if (a2.Kind==(6:Int))=true then (Option.bind (YS k a0 t15.1 a1 a2) (fun t298=>some (t298.1,t298.2))) else (if (a2.Kind==(7:Int))=true then (Option.bind (Yu k a0 t15.1 a1 a2) (fun t322=>some (t322.1,t322.2))) else (if (a2.Kind==(8:Int))=true then (Option.bind (YR k a0 t15.1 a1 a2) (fun t346=>some (t346.1,t346.2))) else (if (a2.Kind==(9:Int))=true then (Option.bind (Ys k a0 t15.1 a1 a2) (fun t370=>some (t370,a0))) else none))))))))) else none))))))
theorem YD.mono {k a0 a1 a2}: OLe (YD k a0 a1 a2) (YD (k+1) a0 a1 a2):=by
 unfold YD
 have m1:=@YL.mono
 have m2:=@YP.mono
 have m3:=@Yu.mono
 have m4:=@Yd.mono
 have m5:=@YS.mono
 have m6:=@XA.mono
 have m7:=@Y0.mono
 have m8:=@Ys.mono
 have m9:=@Y9.mono
 have m10:=@Yi.mono
 have m11:=@YR.mono
 exact mo
theorem YD.con {k M A0_8 A0_9 A0_10 c0_10 A0_11} {vs0_11:List (Str×Value)} {a0:QW} {a1:Int} {a2:QY} {bo0} {r:Ql×QW} (h:YD k a0 a1 a2=some r) (hm0_11:Xa Qx M a0.rows vs0_11) (hg0:∃ gt fr,M 0=some (.cells cz1 gt fr)) (hg1:∃ gt fr,M 1=some (.cells cz2 gt fr)): Con Tryz.prog 25 #[pt bo0 0,vI a1,.agg (Qo a2)] M [B96 bo0 a0 A0_8 A0_9 A0_10 c0_10 A0_11,XC QM (Value.int .i64) A0_8 a0.names,MpI A0_9 a0.many,Rw Qe 134 A0_10 c0_10 a0.txs,MpV A0_11 vs0_11] (fun v M' Γ'=>∃ (Aq1:Option Addr) (cq2:Nat) (Aq4:Option Addr) (cq5:Nat) (Aq7:Option Addr) (cq8:Nat) (Aq10:Option Addr) (cq11:Nat) (Aq13:Option Addr) (cq14:Nat) (vsq16:List (Str×Value)),v=.agg #[vI r.1.Err,.bool r.1.Found,vS r.1.Value,.slice Aq1 r.1.Pairs.length cq2]∧Xa Qx M' r.2.rows vsq16∧Γ'=[Rw Qq 119 Aq1 cq2 r.1.Pairs,B96 bo0 r.2 Aq4 Aq7 Aq10 cq11 Aq13,XC QM (Value.int .i64) Aq4 r.2.names,MpI Aq7 r.2.many,Rw Qe 134 Aq10 cq11 r.2.txs,MpV Aq13 vsq16]):=by
 refine cwA Tryz.func25 J Tryz.ntmps25 Tryz.results25 J h ?_
 intro w F rn S hrn E HM H
 unfold YD at H
 refine wsQ ?_
 refine Yz S (Qo a2) J J J (eE2 E ?_)
 intro b1 w2 E S
 refine YN S cz16 ty38 J J (eE2 E ?_)
 intro b4 w5 E S
 refine wnQ (QH (wsQ (wmP J (wmI J (W_v (.agg (Qo a2)) (Qi (S.blk 1 J) ty43 J (QG J) J J) J ?_)))))
 obtain ⟨t7,ht8,H⟩:=QO H
 replace S:St w5 M F [_,_,_,_,_,_,_]:=S.pk [2,3,4,5,6,0,1]
 refine Zy fn36 (YL.con ht8 hm0_11) (Γ1:=[_,_,_,_,_]) (Γ2:=[_,_]) S J J (by rintro _ _ _ ⟨rfl,rfl⟩;exact (QP Zs (QP Zl (QP Zl (QP (YX (fun _ _ _ _ h=>h)) (QP Zl YE)))))) (eE4 E ?_)
 rintro _ w9 _ Γ' E S ⟨rfl,rfl⟩
 replace S:St w9 M F [_,_,_,_,_,_,_]:=S
 refine waI J (wnQ (wsQ (wmI J (wiB J J (wnQ ?_)))))
 rcases Q3 H with ⟨hb12,H⟩ | ⟨hb12,H⟩
 ·refine QC (cB hb12) ?_
  refine wsQ (wmI J (W_v _ (xb2 [(0,1),(1,1),(2,1),(3,1)] #[vI t7,.bool false,vS ([]:Str),.slice none 0 0] Tryz.underlying38 ty38 J) J ?_))
  refine Qu S 5 J ty38 J J [vI t7,.bool false,vS ([]:Str),.slice none 0 0] J J J #[vI t7,.bool false,vS ([]:Str),.slice none 0 0] J J (eE1 E ?_)
  intro w13 E S
  refine wnQ ?_
  refine QT ?_
  refine tr (?_)
  obtain rfl:=oi H
  replace S:=S.row_nil Qq 119
  exact ⟨_,_,_,fun w1 e1=>Zg (vs:=[.agg #[vI t7,.bool false,vS ([]:Str),.slice none ([]:List Qp).length 0]]) (FA.cons (rcA S e1 6 ty38 J J J) (FA.nil)),HM,E,S.pk [0,1,2,3,4,5],⟨none,0,A0_8,0,A0_9,0,A0_10,c0_10,A0_11,0,vs0_11,J,hm0_11,J⟩⟩
 refine QA (cB hb12) (QX (tn ?_))
 as_aux_lemma =>
 refine wsQ (wmP J (wmI J (wfA Tryz.underlying43 ty3 J (wlA S 6 ty3 J ?_))))
 obtain ⟨t15,ht16,H⟩:=QO H
 refine Zy fn37 (YP.con ht16 hm0_11) (Γ1:=[_,_,_,_,_]) (Γ2:=[_,_]) S J J (by rintro _ _ _ ⟨rfl,rfl⟩;exact (QP Zs (QP Zl (QP Zl (QP (YX (fun _ _ _ _ h=>h)) (QP Zl YE)))))) (eE4 E ?_)
 rintro _ w17 _ Γ' E S ⟨rfl,rfl⟩
 replace S:St w17 M F [_,_,_,_,_,_,_]:=S
 refine wmT J (W_v _ (QR J J) J (W_v _ (QR J J) J (W_v _ (QR J J) J (waI J (waI J (waI J (wnQ (QH ?_))))))))
 have LE198:=Hp.le_refl M
 refine rgA S [5,6] [_,_] 9 mixed J (eE1 E ?_)
 intro w199 E S D1
 refine tz0 0 J D1 (xfA Tryz.underlying43 ty5 J) (tz1 1 J D1 (fun w' h'=>xlA h' 1 ty5 J) ?_)
 obtain ⟨⟨p201,p202⟩,H⟩:=Z8 H
 refine Wt 2 J J J (.pointer (some ⟨0,0+a2.Kind.toNat*1,none⟩)) J (fun w' h'=>U7 Tryz.underlying106 ty105 J J p201 p202) D1 ?_
 obtain ⟨gtfr203,fr203,hgx204⟩:=hg0
 have hg0:∃ gt fr,_:=⟨gtfr203,fr203,hgx204⟩
 rcases Q3 H with ⟨hb205,H⟩ | ⟨hb205,H⟩
 ·refine tz1 3 J D1 (fun w' h'=>Z0 (Yj h' hgx204) ty105 J (by rw [show a2.Kind=(1:Int) from eq_of_beq hb205];rfl)) (Wt 4 rfl rfl rfl (pt bo0 0) rfl (fun w' h'=>YW rfl) D1 (Wt 5 rfl rfl rfl (vI t15.1) rfl (fun w' h'=>YW rfl) D1 (Wt 6 rfl rfl rfl (vI a1) rfl (fun w' h'=>YW rfl) D1 (Wt 7 rfl rfl rfl (.agg (Qo a2)) rfl (fun w' h'=>Qi (Y1 h' 1 rfl) ty43 rfl (QG rfl) rfl rfl) D1 ?_))))
  refine Wo 8 J ?_
  obtain ⟨t206,ht207,H⟩:=QO H
  refine Vg (fs:=[]) (cap:=[]) fn123 J (Yd.con ht207 hm0_11) (Γ1:=[_,_,_,_,_]) (Γ2:=[_,_]) S J J ?_
  rintro _ w225 M226 Γ' hM227 E' S ⟨A208,c209,A211,c212,A214,c215,A217,c218,A220,c221,vs223,rfl,hm224,rfl⟩
  replace HM:=Hp.le_trans HM hM227
  replace LE198:=Hp.le_trans LE198 hM227
  replace E:=E.trans E'
  replace S:St w225 M226 F [_,_,_,_,_,_,_,_]:=S
  refine QK (Yl ⟨.inr ⟨M226,LE198,(S.pk [6,7])⟩,?_⟩)
  refine Wo 9 J ?_
  refine Qu S 6 J ty38 J J [vI t206.1.Err,.bool t206.1.Found,vS t206.1.Value,.slice A208 t206.1.Pairs.length c209] J J J #[vI t206.1.Err,.bool t206.1.Found,vS t206.1.Value,.slice A208 t206.1.Pairs.length c209] J J (eE1 E ?_)
  intro w228 E S
  refine QK (Yl ⟨.inl (by decide),?_⟩)
  refine Wz ?_
  refine tn ?_
  refine QT ?_
  obtain rfl:=oi H
  exact ⟨_,_,_,fun w1 e1=>Zg (vs:=[.agg #[vI t206.1.Err,.bool t206.1.Found,vS t206.1.Value,.slice A208 t206.1.Pairs.length c209]]) (FA.cons (rcA S e1 6 ty38 J J J) (FA.nil)),HM,E,S.pk [0,1,2,3,4,5],⟨A208,c209,A211,c212,A214,c215,A217,c218,A220,c221,vs223,J,hm224,J⟩⟩
 rcases Q3 H with ⟨hb229,H⟩ | ⟨hb229,H⟩
 ·refine tz1 3 J D1 (fun w' h'=>Z0 (Yj h' hgx204) ty105 J (by rw [show a2.Kind=(2:Int) from eq_of_beq hb229];rfl)) (Wt 4 rfl rfl rfl (pt bo0 0) rfl (fun w' h'=>YW rfl) D1 (Wt 5 rfl rfl rfl (vI t15.1) rfl (fun w' h'=>YW rfl) D1 (Wt 6 rfl rfl rfl (vI a1) rfl (fun w' h'=>YW rfl) D1 (Wt 7 rfl rfl rfl (.agg (Qo a2)) rfl (fun w' h'=>Qi (Y1 h' 1 rfl) ty43 rfl (QG rfl) rfl rfl) D1 ?_))))
  refine Wo 8 J ?_
  obtain ⟨t230,ht231,H⟩:=QO H
  refine VV (fs:=[]) (cap:=[]) fn124 J (Y0.con ht231 hm0_11) (Γ1:=[_,_,_,_,_]) (Γ2:=[_,_]) S J J (by rintro _ _ _ ⟨_,_,rfl,rfl⟩;exact (QP (YX (fun _ _ _ _ h=>h)) (QP Zs (QP Zl (QP Zl (QP (YX (fun _ _ _ _ h=>h)) (QP Zl YE))))))) (eE4 E ?_)
  rintro _ w235 _ Γ' E S ⟨A232,c233,rfl,rfl⟩
  replace S:St w235 M F [_,_,_,_,_,_,_,_]:=S
  refine QK (Yl ⟨.inr ⟨M,Hp.le_refl M,(S.pk [6,7])⟩,?_⟩)
  refine Wo 9 J ?_
  refine Qu S 6 J ty38 J J [vI t230.Err,.bool t230.Found,vS t230.Value,.slice A232 t230.Pairs.length c233] J J J #[vI t230.Err,.bool t230.Found,vS t230.Value,.slice A232 t230.Pairs.length c233] J J (eE1 E ?_)
  intro w238 E S
  refine QK (Yl ⟨.inl (by decide),?_⟩)
  refine Wz ?_
  refine tn ?_
  refine QT ?_
  obtain rfl:=oi H
  exact ⟨_,_,_,fun w1 e1=>Zg (vs:=[.agg #[vI t230.Err,.bool t230.Found,vS t230.Value,.slice A232 t230.Pairs.length c233]]) (FA.cons (rcA S e1 6 ty38 J J J) (FA.nil)),HM,E,S.pk [0,1,2,3,4,5],⟨A232,c233,A0_8,0,A0_9,0,A0_10,c0_10,A0_11,0,vs0_11,J,hm0_11,J⟩⟩
 rcases Q3 H with ⟨hb239,H⟩ | ⟨hb239,H⟩
 ·refine tz1 3 J D1 (fun w' h'=>Z0 (Yj h' hgx204) ty105 J (by rw [show a2.Kind=(3:Int) from eq_of_beq hb239];rfl)) (Wt 4 rfl rfl rfl (pt bo0 0) rfl (fun w' h'=>YW rfl) D1 (Wt 5 rfl rfl rfl (vI t15.1) rfl (fun w' h'=>YW rfl) D1 (Wt 6 rfl rfl rfl (vI a1) rfl (fun w' h'=>YW rfl) D1 (Wt 7 rfl rfl rfl (.agg (Qo a2)) rfl (fun w' h'=>Qi (Y1 h' 1 rfl) ty43 rfl (QG rfl) rfl rfl) D1 ?_))))
  refine Wo 8 J ?_
  obtain ⟨t240,ht241,H⟩:=QO H
  refine Vg (fs:=[]) (cap:=[]) fn125 J (Y9.con ht241 hm0_11) (Γ1:=[_,_,_,_,_]) (Γ2:=[_,_]) S J J ?_
  rintro _ w259 M260 Γ' hM261 E' S ⟨A242,c243,A245,c246,A248,c249,A251,c252,A254,c255,vs257,rfl,hm258,rfl⟩
  replace HM:=Hp.le_trans HM hM261
  replace LE198:=Hp.le_trans LE198 hM261
  replace E:=E.trans E'
  replace S:St w259 M260 F [_,_,_,_,_,_,_,_]:=S
  refine QK (Yl ⟨.inr ⟨M260,LE198,(S.pk [6,7])⟩,?_⟩)
  refine Wo 9 J ?_
  refine Qu S 6 J ty38 J J [vI t240.1.Err,.bool t240.1.Found,vS t240.1.Value,.slice A242 t240.1.Pairs.length c243] J J J #[vI t240.1.Err,.bool t240.1.Found,vS t240.1.Value,.slice A242 t240.1.Pairs.length c243] J J (eE1 E ?_)
  intro w262 E S
  refine QK (Yl ⟨.inl (by decide),?_⟩)
  refine Wz ?_
  refine tn ?_
  refine QT ?_
  obtain rfl:=oi H
  exact ⟨_,_,_,fun w1 e1=>Zg (vs:=[.agg #[vI t240.1.Err,.bool t240.1.Found,vS t240.1.Value,.slice A242 t240.1.Pairs.length c243]]) (FA.cons (rcA S e1 6 ty38 J J J) (FA.nil)),HM,E,S.pk [0,1,2,3,4,5],⟨A242,c243,A245,c246,A248,c249,A251,c252,A254,c255,vs257,J,hm258,J⟩⟩
 rcases Q3 H with ⟨hb263,H⟩ | ⟨hb263,H⟩
 ·refine tz1 3 J D1 (fun w' h'=>Z0 (Yj h' hgx204) ty105 J (by rw [show a2.Kind=(4:Int) from eq_of_beq hb263];rfl)) (Wt 4 rfl rfl rfl (pt bo0 0) rfl (fun w' h'=>YW rfl) D1 (Wt 5 rfl rfl rfl (vI t15.1) rfl (fun w' h'=>YW rfl) D1 (Wt 6 rfl rfl rfl (vI a1) rfl (fun w' h'=>YW rfl) D1 (Wt 7 rfl rfl rfl (.agg (Qo a2)) rfl (fun w' h'=>Qi (Y1 h' 1 rfl) ty43 rfl (QG rfl) rfl rfl) D1 ?_))))
  refine Wo 8 J ?_
  obtain ⟨t264,ht265,H⟩:=QO H
  refine Vg (fs:=[]) (cap:=[]) fn126 J (XA.con ht265 hm0_11) (Γ1:=[_,_,_,_,_]) (Γ2:=[_,_]) S J J ?_
  rintro _ w283 M284 Γ' hM285 E' S ⟨A266,c267,A269,c270,A272,c273,A275,c276,A278,c279,vs281,rfl,hm282,rfl⟩
  replace HM:=Hp.le_trans HM hM285
  replace LE198:=Hp.le_trans LE198 hM285
  replace E:=E.trans E'
  replace S:St w283 M284 F [_,_,_,_,_,_,_,_]:=S
  refine QK (Yl ⟨.inr ⟨M284,LE198,(S.pk [6,7])⟩,?_⟩)
  refine Wo 9 J ?_
  refine Qu S 6 J ty38 J J [vI t264.1.Err,.bool t264.1.Found,vS t264.1.Value,.slice A266 t264.1.Pairs.length c267] J J J #[vI t264.1.Err,.bool t264.1.Found,vS t264.1.Value,.slice A266 t264.1.Pairs.length c267] J J (eE1 E ?_)
  intro w286 E S
  refine QK (Yl ⟨.inl (by decide),?_⟩)
  refine Wz ?_
  refine tn ?_
  refine QT ?_
  obtain rfl:=oi H
  exact ⟨_,_,_,fun w1 e1=>Zg (vs:=[.agg #[vI t264.1.Err,.bool t264.1.Found,vS t264.1.Value,.slice A266 t264.1.Pairs.length c267]]) (FA.cons (rcA S e1 6 ty38 J J J) (FA.nil)),HM,E,S.pk [0,1,2,3,4,5],⟨A266,c267,A269,c270,A272,c273,A275,c276,A278,c279,vs281,J,hm282,J⟩⟩
 rcases Q3 H with ⟨hb287,H⟩ | ⟨hb287,H⟩
 ·refine tz1 3 J D1 (fun w' h'=>Z0 (Yj h' hgx204) ty105 J (by rw [show a2.Kind=(5:Int) from eq_of_beq hb287];rfl)) (Wt 4 rfl rfl rfl (pt bo0 0) rfl (fun w' h'=>YW rfl) D1 (Wt 5 rfl rfl rfl (vI t15.1) rfl (fun w' h'=>YW rfl) D1 (Wt 6 rfl rfl rfl (vI a1) rfl (fun w' h'=>YW rfl) D1 (Wt 7 rfl rfl rfl (.agg (Qo a2)) rfl (fun w' h'=>Qi (Y1 h' 1 rfl) ty43 rfl (QG rfl) rfl rfl) D1 ?_))))
  refine Wo 8 J ?_
  obtain ⟨t288,ht289,H⟩:=QO H
  refine VV (fs:=[]) (cap:=[]) fn127 J (Yi.con ht289 hm0_11) (Γ1:=[_,_,_,_,_]) (Γ2:=[_,_]) S J J (by rintro _ _ _ ⟨_,_,rfl,rfl⟩;exact (QP (YX (fun _ _ _ _ h=>h)) (QP Zs (QP Zl (QP Zl (QP (YX (fun _ _ _ _ h=>h)) (QP Zl YE))))))) (eE4 E ?_)
  rintro _ w293 _ Γ' E S ⟨A290,c291,rfl,rfl⟩
  replace S:St w293 M F [_,_,_,_,_,_,_,_]:=S
  refine QK (Yl ⟨.inr ⟨M,Hp.le_refl M,(S.pk [6,7])⟩,?_⟩)
  refine Wo 9 J ?_
  refine Qu S 6 J ty38 J J [vI t288.Err,.bool t288.Found,vS t288.Value,.slice A290 t288.Pairs.length c291] J J J #[vI t288.Err,.bool t288.Found,vS t288.Value,.slice A290 t288.Pairs.length c291] J J (eE1 E ?_)
  intro w296 E S
  refine QK (Yl ⟨.inl (by decide),?_⟩)
  refine Wz ?_
  refine tn ?_
  refine QT ?_
  obtain rfl:=oi H
  exact ⟨_,_,_,fun w1 e1=>Zg (vs:=[.agg #[vI t288.Err,.bool t288.Found,vS t288.Value,.slice A290 t288.Pairs.length c291]]) (FA.cons (rcA S e1 6 ty38 J J J) (FA.nil)),HM,E,S.pk [0,1,2,3,4,5],⟨A290,c291,A0_8,0,A0_9,0,A0_10,c0_10,A0_11,0,vs0_11,J,hm0_11,J⟩⟩
 rcases Q3 H with ⟨hb297,H⟩ | ⟨hb297,H⟩
 ·refine tz1 3 J D1 (fun w' h'=>Z0 (Yj h' hgx204) ty105 J (by rw [show a2.Kind=(6:Int) from eq_of_beq hb297];rfl)) (Wt 4 rfl rfl rfl (pt bo0 0) rfl (fun w' h'=>YW rfl) D1 (Wt 5 rfl rfl rfl (vI t15.1) rfl (fun w' h'=>YW rfl) D1 (Wt 6 rfl rfl rfl (vI a1) rfl (fun w' h'=>YW rfl) D1 (Wt 7 rfl rfl rfl (.agg (Qo a2)) rfl (fun w' h'=>Qi (Y1 h' 1 rfl) ty43 rfl (QG rfl) rfl rfl) D1 ?_))))
  refine Wo 8 J ?_
  obtain ⟨t298,ht299,H⟩:=QO H
  refine Vg (fs:=[]) (cap:=[]) fn128 J (YS.con ht299 hm0_11) (Γ1:=[_,_,_,_,_]) (Γ2:=[_,_]) S J J ?_
  rintro _ w317 M318 Γ' hM319 E' S ⟨A300,c301,A303,c304,A306,c307,A309,c310,A312,c313,vs315,rfl,hm316,rfl⟩
  replace HM:=Hp.le_trans HM hM319
  replace LE198:=Hp.le_trans LE198 hM319
  replace E:=E.trans E'
  replace S:St w317 M318 F [_,_,_,_,_,_,_,_]:=S
  refine QK (Yl ⟨.inr ⟨M318,LE198,(S.pk [6,7])⟩,?_⟩)
  refine Wo 9 J ?_
  refine Qu S 6 J ty38 J J [vI t298.1.Err,.bool t298.1.Found,vS t298.1.Value,.slice A300 t298.1.Pairs.length c301] J J J #[vI t298.1.Err,.bool t298.1.Found,vS t298.1.Value,.slice A300 t298.1.Pairs.length c301] J J (eE1 E ?_)
  intro w320 E S
  refine QK (Yl ⟨.inl (by decide),?_⟩)
  refine Wz ?_
  refine tn ?_
  refine QT ?_
  obtain rfl:=oi H
  exact ⟨_,_,_,fun w1 e1=>Zg (vs:=[.agg #[vI t298.1.Err,.bool t298.1.Found,vS t298.1.Value,.slice A300 t298.1.Pairs.length c301]]) (FA.cons (rcA S e1 6 ty38 J J J) (FA.nil)),HM,E,S.pk [0,1,2,3,4,5],⟨A300,c301,A303,c304,A306,c307,A309,c310,A312,c313,vs315,J,hm316,J⟩⟩
 rcases Q3 H with ⟨hb321,H⟩ | ⟨hb321,H⟩
 ·refine tz1 3 J D1 (fun w' h'=>Z0 (Yj h' hgx204) ty105 J (by rw [show a2.Kind=(7:Int) from eq_of_beq hb321];rfl)) (Wt 4 rfl rfl rfl (pt bo0 0) rfl (fun w' h'=>YW rfl) D1 (Wt 5 rfl rfl rfl (vI t15.1) rfl (fun w' h'=>YW rfl) D1 (Wt 6 rfl rfl rfl (vI a1) rfl (fun w' h'=>YW rfl) D1 (Wt 7 rfl rfl rfl (.agg (Qo a2)) rfl (fun w' h'=>Qi (Y1 h' 1 rfl) ty43 rfl (QG rfl) rfl rfl) D1 ?_))))
  refine Wo 8 J ?_
  obtain ⟨t322,ht323,H⟩:=QO H
  refine Vg (fs:=[]) (cap:=[]) fn129 J (Yu.con ht323 hm0_11) (Γ1:=[_,_,_,_,_]) (Γ2:=[_,_]) S J J ?_
  rintro _ w341 M342 Γ' hM343 E' S ⟨A324,c325,A327,c328,A330,c331,A333,c334,A336,c337,vs339,rfl,hm340,rfl⟩
  replace HM:=Hp.le_trans HM hM343
  replace LE198:=Hp.le_trans LE198 hM343
  replace E:=E.trans E'
  replace S:St w341 M342 F [_,_,_,_,_,_,_,_]:=S
  refine QK (Yl ⟨.inr ⟨M342,LE198,(S.pk [6,7])⟩,?_⟩)
  refine Wo 9 J ?_
  refine Qu S 6 J ty38 J J [vI t322.1.Err,.bool t322.1.Found,vS t322.1.Value,.slice A324 t322.1.Pairs.length c325] J J J #[vI t322.1.Err,.bool t322.1.Found,vS t322.1.Value,.slice A324 t322.1.Pairs.length c325] J J (eE1 E ?_)
  intro w344 E S
  refine QK (Yl ⟨.inl (by decide),?_⟩)
  refine Wz ?_
  refine tn ?_
  refine QT ?_
  obtain rfl:=oi H
  exact ⟨_,_,_,fun w1 e1=>Zg (vs:=[.agg #[vI t322.1.Err,.bool t322.1.Found,vS t322.1.Value,.slice A324 t322.1.Pairs.length c325]]) (FA.cons (rcA S e1 6 ty38 J J J) (FA.nil)),HM,E,S.pk [0,1,2,3,4,5],⟨A324,c325,A327,c328,A330,c331,A333,c334,A336,c337,vs339,J,hm340,J⟩⟩
 rcases Q3 H with ⟨hb345,H⟩ | ⟨hb345,H⟩
 ·refine tz1 3 J D1 (fun w' h'=>Z0 (Yj h' hgx204) ty105 J (by rw [show a2.Kind=(8:Int) from eq_of_beq hb345];rfl)) (Wt 4 rfl rfl rfl (pt bo0 0) rfl (fun w' h'=>YW rfl) D1 (Wt 5 rfl rfl rfl (vI t15.1) rfl (fun w' h'=>YW rfl) D1 (Wt 6 rfl rfl rfl (vI a1) rfl (fun w' h'=>YW rfl) D1 (Wt 7 rfl rfl rfl (.agg (Qo a2)) rfl (fun w' h'=>Qi (Y1 h' 1 rfl) ty43 rfl (QG rfl) rfl rfl) D1 ?_))))
  refine Wo 8 J ?_
  obtain ⟨t346,ht347,H⟩:=QO H
  refine Vg (fs:=[]) (cap:=[]) fn130 J (YR.con ht347 hm0_11) (Γ1:=[_,_,_,_,_]) (Γ2:=[_,_]) S J J ?_
  rintro _ w365 M366 Γ' hM367 E' S ⟨A348,c349,A351,c352,A354,c355,A357,c358,A360,c361,vs363,rfl,hm364,rfl⟩
  replace HM:=Hp.le_trans HM hM367
  replace LE198:=Hp.le_trans LE198 hM367
  replace E:=E.trans E'
  replace S:St w365 M366 F [_,_,_,_,_,_,_,_]:=S
  refine QK (Yl ⟨.inr ⟨M366,LE198,(S.pk [6,7])⟩,?_⟩)
  refine Wo 9 J ?_
  refine Qu S 6 J ty38 J J [vI t346.1.Err,.bool t346.1.Found,vS t346.1.Value,.slice A348 t346.1.Pairs.length c349] J J J #[vI t346.1.Err,.bool t346.1.Found,vS t346.1.Value,.slice A348 t346.1.Pairs.length c349] J J (eE1 E ?_)
  intro w368 E S
  refine QK (Yl ⟨.inl (by decide),?_⟩)
  refine Wz ?_
  refine tn ?_
  refine QT ?_
  obtain rfl:=oi H
  exact ⟨_,_,_,fun w1 e1=>Zg (vs:=[.agg #[vI t346.1.Err,.bool t346.1.Found,vS t346.1.Value,.slice A348 t346.1.Pairs.length c349]]) (FA.cons (rcA S e1 6 ty38 J J J) (FA.nil)),HM,E,S.pk [0,1,2,3,4,5],⟨A348,c349,A351,c352,A354,c355,A357,c358,A360,c361,vs363,J,hm364,J⟩⟩
 rcases Q3 H with ⟨hb369,H⟩ | ⟨hb369,H⟩
 ·refine tz1 3 J D1 (fun w' h'=>Z0 (Yj h' hgx204) ty105 J (by rw [show a2.Kind=(9:Int) from eq_of_beq hb369];rfl)) (Wt 4 rfl rfl rfl (pt bo0 0) rfl (fun w' h'=>YW rfl) D1 (Wt 5 rfl rfl rfl (vI t15.1) rfl (fun w' h'=>YW rfl) D1 (Wt 6 rfl rfl rfl (vI a1) rfl (fun w' h'=>YW rfl) D1 (Wt 7 rfl rfl rfl (.agg (Qo a2)) rfl (fun w' h'=>Qi (Y1 h' 1 rfl) ty43 rfl (QG rfl) rfl rfl) D1 ?_))))
  refine Wo 8 J ?_
  obtain ⟨t370,ht371,H⟩:=QO H
  refine VV (fs:=[]) (cap:=[]) fn131 J (Ys.con ht371 hm0_11) (Γ1:=[_,_,_,_,_]) (Γ2:=[_,_]) S J J (by rintro _ _ _ ⟨_,_,rfl,rfl⟩;exact (QP (YX (fun _ _ _ _ h=>h)) (QP Zs (QP Zl (QP Zl (QP (YX (fun _ _ _ _ h=>h)) (QP Zl YE))))))) (eE4 E ?_)
  rintro _ w375 _ Γ' E S ⟨A372,c373,rfl,rfl⟩
  replace S:St w375 M F [_,_,_,_,_,_,_,_]:=S
  refine QK (Yl ⟨.inr ⟨M,Hp.le_refl M,(S.pk [6,7])⟩,?_⟩)
  refine Wo 9 J ?_
  refine Qu S 6 J ty38 J J [vI t370.Err,.bool t370.Found,vS t370.Value,.slice A372 t370.Pairs.length c373] J J J #[vI t370.Err,.bool t370.Found,vS t370.Value,.slice A372 t370.Pairs.length c373] J J (eE1 E ?_)
  intro w378 E S
  refine QK (Yl ⟨.inl (by decide),?_⟩)
  refine Wz ?_
  refine tn ?_
  refine QT ?_
  obtain rfl:=oi H
  exact ⟨_,_,_,fun w1 e1=>Zg (vs:=[.agg #[vI t370.Err,.bool t370.Found,vS t370.Value,.slice A372 t370.Pairs.length c373]]) (FA.cons (rcA S e1 6 ty38 J J J) (FA.nil)),HM,E,S.pk [0,1,2,3,4,5],⟨A372,c373,A0_8,0,A0_9,0,A0_10,c0_10,A0_11,0,vs0_11,J,hm0_11,J⟩⟩
 cases H
def Qz (k:Nat) (a0:Z2) (a1:Int) (a2:QL):Option (Int×Z2) :=
 (Option.bind (Zd k a0 a2) (fun t4=>(Option.bind (α:=Bool) (if (((!t4.2)||(decide (a2.What<(1:Int))))||(decide (a2.What>(3:Int))))=true then some (true) else (Option.bind (α:=Bool) (if (a2.What != (3:Int))=true then (Option.bind (Xv k a2.Answer cz7) (fun t53=>some ((!t53)))) else some (false)) (fun x51=>some (x51)))) (fun x42=>(if x42=true then some ((4:Int),a0) else (Option.bind (Zt k a0.r a2.Task) (fun t67=>(Option.bind (α:=Bool×List YQ×List QL) (if ((a2.What != (1:Int))&&((!t67.2.2)||(t67.1 != a2.Call)))=true then some (true,a0.r.tasks,a0.r.l) else (if 0≤a2.What∧a2.What<(4:Int) then (if (a2.What==(1:Int))=true then (Option.bind (XO k a0.r a2) (fun t231=>some ((t231.1 != (0:Int)),t231.2.tasks,t231.2.l))) else (if (a2.What==(2:Int))=true then (Option.bind (XN k a0.r a2) (fun t243=>some ((t243.1 != (0:Int)),t243.2.tasks,t243.2.l))) else (if (a2.What==(3:Int))=true then (Option.bind (XM k a0.r a2) (fun t255=>some ((t255.1 != (0:Int)),t255.2.tasks,t255.2.l))) else none))) else none)) (fun ⟨x216,x217,x221⟩=>(if x216=true then some ((4:Int),(⟨a0.programs,(⟨x217,x221⟩:Qg),a0.m,a0.done,a0.last⟩:Z2)) else (if (a2.What==(1:Int))=true then (Option.bind (Zt k (⟨x217,x221⟩:Qg) a2.Task) (fun t279=>(if (t279.1 != a2.Call)=true then some ((4:Int),(⟨a0.programs,(⟨x217,x221⟩:Qg),a0.m,a0.done,a0.last⟩:Z2)) else some ((0:Int),(⟨a0.programs,(⟨x217,x221⟩:Qg),a0.m,a0.done,a0.last⟩:Z2))))) else (if (a2.What==(2:Int))=true then (if 0≤a2.Task∧a2.Task<(a0.last.length:Int) then (Option.bind (α:=List Int) (some (List.set a0.last a2.Task.toNat (a0.done.length:Int))) (fun x304=>(Option.bind (YD k a0.m a2.Task t4.1) (fun t348=>(if a0.done.length+([(⟨(a2.Task),(a2.Call),⟨t348.1.Err,t348.1.Found,t348.1.Value,t348.1.Pairs⟩,a1,(-1:Int)⟩:ZX)]:List ZX).length≤1599289640401 then some ((0:Int),(⟨a0.programs,(⟨x217,x221⟩:Qg),t348.2,(a0.done++([(⟨(a2.Task),(a2.Call),⟨t348.1.Err,t348.1.Found,t348.1.Value,t348.1.Pairs⟩,a1,(-1:Int)⟩:ZX)]:List ZX)),x304⟩:Z2)) else none))))) else none) else (if (a2.What==(3:Int))=true then (if 0≤a2.Task∧a2.Task<(a0.last.length:Int) then (if 0≤(rd a0.last a2.Task)∧(rd a0.last a2.Task)<(a0.done.length:Int) then (Option.bind (α:=List ZX) (some (List.set a0.done (rd a0.last a2.Task).toNat (⟨(rd a0.done (rd a0.last a2.Task)).Task,(rd a0.done (rd a0.last a2.Task)).Call,⟨(rd a0.done (rd a0.last a2.Task)).Answer.Err,(rd a0.done (rd a0.last a2.Task)).Answer.Found,(rd a0.done (rd a0.last a2.Task)).Answer.Value,(rd a0.done (rd a0.last a2.Task)).Answer.Pairs⟩,(rd a0.done (rd a0.last a2.Task)).Mark,a1⟩:ZX))) (fun x427=>(Option.bind (Xv k ((rd x427 (rd a0.last a2.Task)).Answer) a2.Answer) (fun t460=>(if (!t460)=true then some ((7:Int),(⟨a0.programs,(⟨x217,x221⟩:Qg),a0.m,x427,a0.last⟩:Z2)) else some ((0:Int),(⟨a0.programs,(⟨x217,x221⟩:Qg),a0.m,x427,a0.last⟩:Z2))))))) else none) else none) else some ((0:Int),(⟨a0.programs,(⟨x217,x221⟩:Qg),a0.m,a0.done,a0.last⟩:Z2)))))))))))))))
theorem Qz.mono {k a0 a1 a2}: OLe (Qz k a0 a1 a2) (Qz (k+1) a0 a1 a2):=by
 unfold Qz
 have m1:=@Zt.mono
 have m2:=@YD.mono
 have m3:=@Xv.mono
 have m4:=@Zd.mono
 have m5:=@XO.mono
 have m6:=@XN.mono
 have m7:=@XM.mono
 exact mo
theorem Qz.con {k M A0_0 c0_0 A0_1_0 c0_1_0 A0_1_1 c0_1_1 A0_2_8 A0_2_9 A0_2_10 c0_2_10 A0_2_11} {vs0_2_11:List (Str×Value)} {A0_3 c0_3 A0_4 c0_4} {a0:Z2} {a1:Int} {A2_0 c2_0} {a2:QL} {bo0_1 bo0_2 bo0} {r:Int×Z2} (h:Qz k a0 a1 a2=some r) (hr0_0:SlR (rSl Yk) M (.slice A0_0 a0.programs.length c0_0) a0.programs) (hm0_2_11:Xa Qx M a0.m.rows vs0_2_11) (hr2_0:SlR Qq M (.slice A2_0 a2.Answer.Pairs.length c2_0) a2.Answer.Pairs) (hg0:∃ gt fr,M 0=some (.cells cz1 gt fr)) (hg1:∃ gt fr,M 1=some (.cells cz2 gt fr)): Con Tryz.prog 51 #[pt bo0 0,vI a1,.agg #[vU a2.What,vI a2.Task,vI a2.Call,vI a2.Answer.Err,.bool a2.Answer.Found,vS a2.Answer.Value,.slice A2_0 a2.Answer.Pairs.length c2_0]] M [B85 bo0 a0 A0_0 c0_0 bo0_1 bo0_2 A0_3 c0_3 A0_4 c0_4,Blk bo0_1 (.cells #[.slice A0_1_0 a0.r.tasks.length c0_1_0,.slice A0_1_1 a0.r.l.length c0_1_1] 162 (0,0)),Rw Zu 165 A0_1_0 c0_1_0 a0.r.tasks,Rw Qs 40 A0_1_1 c0_1_1 a0.r.l,B96 bo0_2 a0.m A0_2_8 A0_2_9 A0_2_10 c0_2_10 A0_2_11,XC QM (Value.int .i64) A0_2_8 a0.m.names,MpI A0_2_9 a0.m.many,Rw Qe 134 A0_2_10 c0_2_10 a0.m.txs,MpV A0_2_11 vs0_2_11,Rw Zz 61 A0_3 c0_3 a0.done,Rw (rInt .i64) 3 A0_4 c0_4 a0.last] (fun v M' Γ'=>∃ (Aq1:Option Addr) (cq2:Nat) (Aq4:Option Addr) (cq5:Nat) (Aq7:Option Addr) (cq8:Nat) (Aq10:Option Addr) (cq11:Nat) (Aq13:Option Addr) (cq14:Nat) (Aq16:Option Addr) (cq17:Nat) (Aq19:Option Addr) (cq20:Nat) (vsq22:List (Str×Value)) (Aq24:Option Addr) (cq25:Nat) (Aq27:Option Addr) (cq28:Nat),v=vI r.1∧SlR (rSl Yk) M' (.slice Aq1 r.2.programs.length cq2) r.2.programs∧Xa Qx M' r.2.m.rows vsq22∧Γ'=[B85 bo0 r.2 Aq1 cq2 bo0_1 bo0_2 Aq24 cq25 Aq27 cq28,Blk bo0_1 (.cells #[.slice Aq4 r.2.r.tasks.length cq5,.slice Aq7 r.2.r.l.length cq8] 162 (0,0)),Rw Zu 165 Aq4 cq5 r.2.r.tasks,Rw Qs 40 Aq7 cq8 r.2.r.l,B96 bo0_2 r.2.m Aq10 Aq13 Aq16 cq17 Aq19,XC QM (Value.int .i64) Aq10 r.2.m.names,MpI Aq13 r.2.m.many,Rw Qe 134 Aq16 cq17 r.2.m.txs,MpV Aq19 vsq22,Rw Zz 61 Aq24 cq25 r.2.done,Rw (rInt .i64) 3 Aq27 cq28 r.2.last]):=by
 refine cwA Tryz.func51 J Tryz.ntmps51 Tryz.results51 J h ?_
 intro w F rn S hrn E HM H
 unfold Qz at H
 refine wsQ ?_
 refine Yz S #[vU a2.What,vI a2.Task,vI a2.Call,vI a2.Answer.Err,.bool a2.Answer.Found,vS a2.Answer.Value,.slice A2_0 a2.Answer.Pairs.length c2_0] J J J (eE2 E ?_)
 intro b1 w2 E S
 refine waI J (wnQ (wsQ (wmP J (W_v (.agg #[vU a2.What,vI a2.Task,vI a2.Call,vI a2.Answer.Err,.bool a2.Answer.Found,vS a2.Answer.Value,.slice A2_0 a2.Answer.Pairs.length c2_0]) (Qi (S.blk 0 J) ty40 J (QG J) J J) J ?_))))
 obtain ⟨t4,ht5,H⟩:=QO H
 replace S:St w2 M F [_,_,_,_,_,_,_,_,_,_,_,_]:=S.pk [1,2,3,4,5,6,7,8,9,10,11,0]
 refine Y2 fn69 (Zd.con ht5 hr0_0 hm0_2_11 hr2_0) (Γ1:=[_,_,_,_,_,_,_,_,_,_,_]) (Γ2:=[_]) S J J ?_
 rintro _ w6 M7 Γ' hM8 E' S ⟨rfl,rfl⟩
 replace hg0:=gup hg0 hM8
 replace hg1:=gup hg1 hM8
 replace HM:=Hp.le_trans HM hM8
 replace hr0_0:=SlR.mono hr0_0 hM8
 replace hm0_2_11:=Xa.mono hm0_2_11 hM8
 replace hr2_0:=SlR.mono hr2_0 hM8
 replace E:=E.trans E'
 replace S:St w6 M7 F [_,_,_,_,_,_,_,_,_,_,_,_]:=S
 refine wmT J (W_v _ (QR J J) J (W_v _ (QR J J) J ?_))
 refine YN S cz5 ty43 J J (eE2 E ?_)
 intro b9 w10 E S
 refine Qu S 0 J ty43 J J [vU t4.1.Kind,vI t4.1.Tx,vS t4.1.Key,vS t4.1.End,vS t4.1.Value,vI t4.1.Limit,vU t4.1.Engine] J J J (Qo t4.1) (by as_aux_lemma=>kernel_rfl) J (eE1 E ?_)
 intro w12 E S
 refine waB J (wnQ (QH (wsQ (wmB J (W_v _ (Xr (b:=t4.2) J) J (wmB J ?_))))))
 refine ZO 4 (fun ρ w'=>QV ρ [(0,pt bo0 0),(1,vI a1),(5,pt b1 0),(7,pt b9 0),(25,.bool ((!t4.2)||(decide (a2.What<(1:Int)))))]∧w12=w') ?_ ?_
 ·rcases Qy (!t4.2) with hb13 | hb13
  ·refine QN (cS hb13) (wfA Tryz.underlying40 ty5 J (QN (cS hb13) (wlA S 12 ty5 J (QN (cS hb13) (wiB J J (wqB hb13 J (QK ?_)))))))
   exact ⟨⟨J,J,J,J,(flB hb13),trivial⟩,rfl⟩
  ·refine QZ (skF hb13) J (QZ (skF hb13) J (QZ (skF hb13) J (wpB hb13 J (QK ?_))))
   exact ⟨⟨J,J,J,J,(flB hb13),trivial⟩,rfl⟩
 as_aux_lemma =>
 rintro ρ _ ⟨hρ,rfl⟩
 rw [QB hρ]
 refine wmB J ?_
 refine ZO 4 (fun ρ w'=>QV ρ [(0,pt bo0 0),(1,vI a1),(5,pt b1 0),(7,pt b9 0),(30,.bool (((!t4.2)||(decide (a2.What<(1:Int))))||(decide (a2.What>(3:Int)))))]∧w12=w') ?_ ?_
 ·rcases Qy ((!t4.2)||(decide (a2.What<(1:Int)))) with hb14 | hb14
  ·refine QN (cS hb14) (wfA Tryz.underlying40 ty5 J (QN (cS hb14) (wlA S 12 ty5 J (QN (cS hb14) (wiB J J (wqB hb14 J (QK ?_)))))))
   exact ⟨⟨J,J,J,J,(flB hb14),trivial⟩,rfl⟩
  ·refine QZ (skF hb14) J (QZ (skF hb14) J (QZ (skF hb14) J (wpB hb14 J (QK ?_))))
   exact ⟨⟨J,J,J,J,(flB hb14),trivial⟩,rfl⟩
 as_aux_lemma =>
 rintro ρ _ ⟨hρ,rfl⟩
 rw [QB hρ]
 refine wmB J ?_
 obtain ⟨o43,o43h,o43H⟩:=QO H
 refine ZO 11 (fun ρ w'=>∃ (x42:Bool),(x42)=o43∧QV ρ [(0,pt bo0 0),(1,vI a1),(5,pt b1 0),(7,pt b9 0),(42,.bool x42)]∧Ext w w'∧St w' M7 F [B43 b9 t4.1,B85 bo0 a0 A0_0 c0_0 bo0_1 bo0_2 A0_3 c0_3 A0_4 c0_4,Blk bo0_1 (.cells #[.slice A0_1_0 a0.r.tasks.length c0_1_0,.slice A0_1_1 a0.r.l.length c0_1_1] 162 (0,0)),Rw Zu 165 A0_1_0 c0_1_0 a0.r.tasks,Rw Qs 40 A0_1_1 c0_1_1 a0.r.l,B96 bo0_2 a0.m A0_2_8 A0_2_9 A0_2_10 c0_2_10 A0_2_11,XC QM (Value.int .i64) A0_2_8 a0.m.names,MpI A0_2_9 a0.m.many,Rw Qe 134 A0_2_10 c0_2_10 a0.m.txs,MpV A0_2_11 vs0_2_11,Rw Zz 61 A0_3 c0_3 a0.done,Rw (rInt .i64) 3 A0_4 c0_4 a0.last,B40 b1 a2 A2_0 c2_0]) ?_ ?_
 ·as_aux_lemma =>
   have H:=o43h
   rcases Q3 H with ⟨hb41,H⟩ | ⟨hb41,H⟩
   ·refine QZ (skF hb41) J (QZ (skF hb41) J (QZ (skF hb41) J (QZ (skF hb41) J (QZ (J) J (QZ (J) J (QZ (J) J (QZ (J) J (QZ (J) J (QZ (skF hb41) J (wpB hb41 J (QK ?_)))))))))))
    exact ⟨true,oi H,agP J,E,S.pk [0,1,2,3,4,5,6,7,8,9,10,11,12]⟩
   ·refine QN (cS hb41) (wfA Tryz.underlying40 ty5 J (QN (cS hb41) (wlA S 12 ty5 J (QN (cS hb41) (wiB J J (QN (cS hb41) (wmB J ?_)))))))
    obtain ⟨o52,o52h,o52H⟩:=QO H
    refine ZO 6 (fun ρ w'=>∃ (x51:Bool),(x51)=o52∧QV ρ [(0,pt bo0 0),(1,vI a1),(5,pt b1 0),(7,pt b9 0),(31,.bool (((!t4.2)||(decide (a2.What<(1:Int))))||(decide (a2.What>(3:Int))))),(41,.bool x51)]∧Ext w w'∧St w' M7 F [B43 b9 t4.1,B85 bo0 a0 A0_0 c0_0 bo0_1 bo0_2 A0_3 c0_3 A0_4 c0_4,Blk bo0_1 (.cells #[.slice A0_1_0 a0.r.tasks.length c0_1_0,.slice A0_1_1 a0.r.l.length c0_1_1] 162 (0,0)),Rw Zu 165 A0_1_0 c0_1_0 a0.r.tasks,Rw Qs 40 A0_1_1 c0_1_1 a0.r.l,B96 bo0_2 a0.m A0_2_8 A0_2_9 A0_2_10 c0_2_10 A0_2_11,XC QM (Value.int .i64) A0_2_8 a0.m.names,MpI A0_2_9 a0.m.many,Rw Qe 134 A0_2_10 c0_2_10 a0.m.txs,MpV A0_2_11 vs0_2_11,Rw Zz 61 A0_3 c0_3 a0.done,Rw (rInt .i64) 3 A0_4 c0_4 a0.last,B40 b1 a2 A2_0 c2_0]) ?_ ?_
    ·have H:=o52h
     rcases Q3 H with ⟨hb50,H⟩ | ⟨hb50,H⟩
     ·refine QN (cS hb50) (wfA Tryz.underlying40 ty38 J (QN (cS hb50) (W_v (.agg #[vI a2.Answer.Err,.bool a2.Answer.Found,vS a2.Answer.Value,.slice A2_0 a2.Answer.Pairs.length c2_0]) (Qi (S.blk 12 J) ty38 J (QG J) J J) J (QN (cS hb50) (W_v _ (xb2 [(0,1),(1,1),(2,1),(3,1)] cz16 Tryz.underlying38 ty38 J) J (QN (cS hb50) ?_))))))
      obtain ⟨t53,ht54,H⟩:=QO H
      refine ZR fn70 (Xv.con ht54 hr2_0 (SlW.nil _ _)) S J J flN (eE4 E ?_)
      rintro _ w55 _ Γ' E S ⟨rfl,rfl⟩
      refine QN (cS hb50) (W_v _ (Xr (b:=t53) J) J (QN (cS hb41) (wpB hb50 J (QK ?_))))
      exact ⟨(!t53),oi H,agP J,E,S.pk [0,1,2,3,4,5,6,7,8,9,10,11,12]⟩
     ·refine QZ (skT hb50) J (QZ (skT hb50) J (QZ (skT hb50) J (QZ (skT hb50) J (QZ (skT hb50) J (QN (cS hb41) (wqB hb50 J (QK ?_)))))))
      exact ⟨false,oi H,agP J,E,S.pk [0,1,2,3,4,5,6,7,8,9,10,11,12]⟩
    rintro ρ w56 ⟨x51,rfl,hρ,E,S⟩
    rw [QB hρ]
    have H:=o52H
    refine wqB hb41 J (QK ?_)
    exact ⟨x51,oi H,agP J,E,S.pk [0,1,2,3,4,5,6,7,8,9,10,11,12]⟩
 as_aux_lemma =>
 rintro ρ w57 ⟨x42,rfl,hρ,E,S⟩
 rw [QB hρ]
 have H:=o43H
 refine wnQ ?_
 rcases Q3 H with ⟨hb58,H⟩ | ⟨hb58,H⟩
 ·refine QC (cB hb58) ?_
  refine wsQ (waI J (wnQ ?_))
  refine QT ?_
  refine tr (?_)
  obtain rfl:=oi H
  exact ⟨_,_,_,rsA (vs:=[_]) J,HM,E,S.pk [1,2,3,4,5,6,7,8,9,10,11],⟨A0_0,c0_0,A0_1_0,c0_1_0,A0_1_1,c0_1_1,A0_2_8,0,A0_2_9,0,A0_2_10,c0_2_10,A0_2_11,0,vs0_2_11,A0_3,c0_3,A0_4,c0_4,J,hr0_0,hm0_2_11,J⟩⟩
 refine QA (cB hb58) (QX (tn (QH ?_)))
 have LE64:=Hp.le_refl M7
 refine rgA S [0,1,2,3,4,5,6,7,8,9,10,11,12] [_,_,_,_,_,_,_,_,_,_,_,_,_] 14 mixed J (eE1 E ?_)
 intro w65 E S D1
 refine tz0 0 J D1 (xmP J) (tz0 1 J D1 (Qb J) (tz0 2 J D1 (xfA Tryz.underlying85 ty82 J) (tz1 3 J D1 (fun w' h'=>xlA h' 1 ty82 J) (tz0 4 J D1 (xfA Tryz.underlying40 ty3 J) (tz1 5 J D1 (fun w' h'=>xlA h' 12 ty3 J) ?_)))))
 refine Wo 6 J ?_
 obtain ⟨t67,ht68,H⟩:=QO H
 replace S:St w65 M7 F [_,_,_,_,_,_,_,_,_,_,_,_,_]:=S.pk [2,3,4,0,1,5,6,7,8,9,10,11,12]
 refine Y2 fn71 (Zt.con ht68) (Γ1:=[_,_,_]) (Γ2:=[_,_,_,_,_,_,_,_,_,_]) S J J ?_
 rintro _ w69 M70 Γ' hM71 E' S ⟨rfl,rfl⟩
 replace hg0:=gup hg0 hM71
 replace hg1:=gup hg1 hM71
 replace HM:=Hp.le_trans HM hM71
 replace LE64:=Hp.le_trans LE64 hM71
 replace hr0_0:=SlR.mono hr0_0 hM71
 replace hm0_2_11:=Xa.mono hm0_2_11 hM71
 replace hr2_0:=SlR.mono hr2_0 hM71
 replace E:=E.trans E'
 replace S:St w69 M70 F [_,_,_,_,_,_,_,_,_,_,_,_,_]:=S
 refine QK (Yl ⟨.inr ⟨M70,LE64,(S.pk [3,4,0,1,2,5,6,7,8,9,10,11,12])⟩,?_⟩)
 refine tz0 7 J (⟨M70,LE64,(S.pk [3,4,0,1,2,5,6,7,8,9,10,11,12])⟩) (xmT J) (tz0 8 J (⟨M70,LE64,(S.pk [3,4,0,1,2,5,6,7,8,9,10,11,12])⟩) (QR J J) (tz0 9 J (⟨M70,LE64,(S.pk [3,4,0,1,2,5,6,7,8,9,10,11,12])⟩) (QR J J) (tz0 10 J (⟨M70,LE64,(S.pk [3,4,0,1,2,5,6,7,8,9,10,11,12])⟩) (QR J J) (tz0 11 J (⟨M70,LE64,(S.pk [3,4,0,1,2,5,6,7,8,9,10,11,12])⟩) (xaI J) (tz0 12 J (⟨M70,LE64,(S.pk [3,4,0,1,2,5,6,7,8,9,10,11,12])⟩) (xaB J) (tz0 13 J (⟨M70,LE64,(S.pk [3,4,0,1,2,5,6,7,8,9,10,11,12])⟩) (xaB J) ?_))))))
 refine Wz ?_
 refine tn ?_
 as_aux_lemma =>
 refine QH (QH ?_)
 have LE169:=Hp.le_refl M70
 refine rgA S [3,4,5,6,7,8,9,10,11,12] [_,_,_,_,_,_,_,_,_,_] 26 mixed J (eE1 E ?_)
 intro w170 E S D2
 refine tz0 0 J D2 (xfA Tryz.underlying40 ty5 J) (tz1 1 J D2 (fun w' h'=>xlA h' 9 ty5 J) (tz0 2 J D2 (xiB J J) (tz0 3 J D2 (xmB J) ?_)))
 refine YB (fun ρ w'=>QV ρ [(0,pt bo0 0),(1,vI a1),(5,pt b1 0),(7,pt b9 0),(66,.bool ((a2.What != (1:Int))&&((!t67.2.2)||(t67.1 != a2.Call))))]∧w170=w') 13 (Ls 26 [0,1,2,3,4,5,6,7,8,9,10,11,12]) ?_ ?_
 rotate_left
 ·intro hrest
  rcases Qy (a2.What != (1:Int)) with hb173 | hb173
  ·refine tz4 4 J (skT hb173) D2 (tz4 5 J (skT hb173) D2 (tz4 6 J (skT hb173) D2 (tz4 7 J (J) D2 (tz4 8 J (J) D2 (tz4 9 J (J) D2 (tz4 10 J (J) D2 (tz4 11 J (skT hb173) D2 (tz0 12 J D2 (xqB hb173 J) ?_))))))))
   exact hrest _ _ ⟨⟨J,J,J,J,(flB hb173),trivial⟩,rfl⟩
  ·refine tz2 4 J (cS hb173) D2 (xmB J) (tz2 5 J (cS hb173) D2 (Xr (b:=t67.2.2) J) (tz2 6 J (cS hb173) D2 (xmB J) ?_))
   refine YB (fun ρ w'=>QV ρ [(0,pt bo0 0),(1,vI a1),(5,pt b1 0),(7,pt b9 0),(57,.bool (a2.What != (1:Int))),(65,.bool ((!t67.2.2)||(t67.1 != a2.Call)))]∧w170=w') 14 (Ls 26 [0,1,2,3,4,5,6,7,8,9,10,11]) ?_ ?_
   rotate_left
   ·intro hrest
    rcases Qy (!t67.2.2) with hb174 | hb174
    ·refine tz2 7 J (cS hb174) D2 (xmI J) (tz2 8 J (cS hb174) D2 (xfA Tryz.underlying40 ty3 J) (tz3 9 J (cS hb174) D2 (fun w' h'=>xlA h' 9 ty3 J) (tz2 10 J (cS hb174) D2 (xiB J J) (tz2 11 J (cS hb173) D2 (xqB hb174 J) ?_))))
     exact hrest _ _ ⟨⟨J,J,J,J,J,(flB hb174),trivial⟩,rfl⟩
    ·refine tz4 7 J (skF hb174) D2 (tz4 8 J (skF hb174) D2 (tz4 9 J (skF hb174) D2 (tz4 10 J (skF hb174) D2 (tz2 11 J (cS hb173) D2 (xpB hb174 J) ?_))))
     exact hrest _ _ ⟨⟨J,J,J,J,J,(flB hb174),trivial⟩,rfl⟩
   rintro ρ _ ⟨hρ,rfl⟩
   rw [QB hρ]
   refine tz0 12 J (⟨M70,Hp.le_refl M70,(S.pk [3,4,5,6,7,8,9,10,11,12])⟩) (xpB hb173 J) ?_
   exact hrest _ _ ⟨⟨J,J,J,J,(flB hb173),trivial⟩,rfl⟩
 rintro ρ _ ⟨hρ,rfl⟩
 rw [QB hρ]
 refine tz0 13 J (⟨M70,Hp.le_refl M70,(S.pk [3,4,5,6,7,8,9,10,11,12])⟩) (xmB J) ?_
 obtain ⟨o225,o225h,o225H⟩:=QO H
 refine YB (fun ρ w'=>∃ (x216:Bool) (x217:List YQ) (x221:List QL) (A218:Option Addr) (c219:Nat) (A222:Option Addr) (c223:Nat) (Mj:Hp),(x216,x217,x221)=o225∧QV ρ [(0,pt bo0 0),(1,vI a1),(5,pt b1 0),(7,pt b9 0),(79,.bool x216)]∧M70.le Mj∧Ext w w'∧St w' Mj F [Rw Qs 40 A222 c223 x221,Rw Zu 165 A218 c219 x217,Blk bo0_1 (.cells #[.slice A218 x217.length c219,.slice A222 x221.length c223] 162 (0,0)),B43 b9 t4.1,B85 bo0 a0 A0_0 c0_0 bo0_1 bo0_2 A0_3 c0_3 A0_4 c0_4,B96 bo0_2 a0.m A0_2_8 A0_2_9 A0_2_10 c0_2_10 A0_2_11,XC QM (Value.int .i64) A0_2_8 a0.m.names,MpI A0_2_9 a0.m.many,Rw Qe 134 A0_2_10 c0_2_10 a0.m.txs,MpV A0_2_11 vs0_2_11,Rw Zz 61 A0_3 c0_3 a0.done,Rw (rInt .i64) 3 A0_4 c0_4 a0.last,B40 b1 a2 A2_0 c2_0]) 0 (Ls 26 [0,1,2,3,4,5,6,7,8,9,10,11,12,13,14,15,16,17,18,19,20,21,22,23,24,25]) ?_ ?_
 rotate_left
 ·intro hrest
  have H:=o225h
  rcases Q3 H with ⟨hb215,H⟩ | ⟨hb215,H⟩
  ·refine tz4 14 J (skF hb215) D2 (tz4 15 J (skF hb215) D2 (tz4 16 J (skF hb215) D2 (tz4 17 J (skF hb215) D2 (tz4 18 J (skF hb215) D2 (tz4 19 J (skF hb215) D2 (tz4 20 J (skF hb215) D2 (tz4 21 J (skF hb215) D2 (tz4 22 J (skF hb215) D2 (tz4 23 J (skF hb215) D2 (tz4 24 J (skF hb215) D2 (tz0 25 J D2 (xpB hb215 J) ?_)))))))))))
   exact hrest _ _ ⟨true,a0.r.tasks,a0.r.l,A0_1_0,c0_1_0,A0_1_1,c0_1_1,M70,oi H,agP J,(Hp.le_refl M70),E,S.pk [2,1,0,3,4,5,6,7,8,9,10,11,12]⟩
  ·refine tz2 14 J (cS hb215) D2 (xfA Tryz.underlying40 ty5 J) (tz3 15 J (cS hb215) D2 (fun w' h'=>xlA h' 9 ty5 J) ?_)
   obtain ⟨⟨p226,p227⟩,H⟩:=Z8 H
   refine WtY 16 J J J (.pointer (some ⟨1,0+a2.What.toNat*1,none⟩)) J (cS hb215) (fun w' h'=>U7 Tryz.underlying150 ty149 J J p226 p227) D2 ?_
   obtain ⟨gtfr228,fr228,hgx229⟩:=hg1
   have hg1:∃ gt fr,_:=⟨gtfr228,fr228,hgx229⟩
   rcases Q3 H with ⟨hb230,H⟩ | ⟨hb230,H⟩
   ·refine tz3 17 J (cS hb215) D2 (fun w' h'=>Z0 (Yj h' hgx229) ty149 J (by rw [show a2.What=(1:Int) from eq_of_beq hb230];rfl)) (WtY 18 rfl rfl rfl (pt bo0 0) rfl (cS hb215) (fun w' h'=>YW rfl) D2 (WtY 19 rfl rfl rfl (pt bo0 0) rfl (cS hb215) (fun w' h'=>Qb rfl) D2 (WtY 20 rfl rfl rfl (pt bo0 1) rfl (cS hb215) (fun w' h'=>X2 (o:=0) (off:=1) Tryz.underlying85 rfl ty82 rfl rfl) D2 (WtY 21 rfl rfl rfl (pt bo0_1 0) rfl (cS hb215) (fun w' h'=>Z0 (Y1 h' 1 rfl) ty82 rfl rfl) D2 (WtY 22 rfl rfl rfl (.agg #[vU a2.What,vI a2.Task,vI a2.Call,vI a2.Answer.Err,.bool a2.Answer.Found,vS a2.Answer.Value,.slice A2_0 a2.Answer.Pairs.length c2_0]) rfl (cS hb215) (fun w' h'=>Qi (Y1 h' 9 rfl) ty40 rfl (QG rfl) rfl rfl) D2 ?_)))))
    refine Wo 23 J ?_
    refine QN (cS hb215) ?_
    obtain ⟨t231,ht232,H⟩:=QO H
    refine Vg (fs:=[]) (cap:=[]) fn145 J (XO.con ht232 hr2_0) (Γ1:=[_,_,_]) (Γ2:=[_,_,_,_,_,_,_,_,_,_]) S J J ?_
    rintro _ w239 M240 Γ' hM241 E' S ⟨A233,c234,A236,c237,rfl,rfl⟩
    replace HM:=Hp.le_trans HM hM241
    replace LE169:=Hp.le_trans LE169 hM241
    replace E:=E.trans E'
    replace S:St w239 M240 F [_,_,_,_,_,_,_,_,_,_,_,_,_]:=S
    refine QK (Yl ⟨.inr ⟨M240,LE169,(S.pk [3,4,5,6,7,8,9,10,11,12])⟩,?_⟩)
    refine tz2 24 J (cS hb215) (⟨M240,LE169,(S.pk [3,4,5,6,7,8,9,10,11,12])⟩) (xiB J J) (tz0 25 J (⟨M240,LE169,(S.pk [3,4,5,6,7,8,9,10,11,12])⟩) (xqB hb215 J) ?_)
    exact hrest _ _ ⟨(t231.1 != (0:Int)),t231.2.tasks,t231.2.l,A233,c234,A236,c237,M240,oi H,agP J,LE169,E,S.pk [2,1,0,3,4,5,6,7,8,9,10,11,12]⟩
   rcases Q3 H with ⟨hb242,H⟩ | ⟨hb242,H⟩
   ·refine tz3 17 J (cS hb215) D2 (fun w' h'=>Z0 (Yj h' hgx229) ty149 J (by rw [show a2.What=(2:Int) from eq_of_beq hb242];rfl)) (WtY 18 rfl rfl rfl (pt bo0 0) rfl (cS hb215) (fun w' h'=>YW rfl) D2 (WtY 19 rfl rfl rfl (pt bo0 0) rfl (cS hb215) (fun w' h'=>Qb rfl) D2 (WtY 20 rfl rfl rfl (pt bo0 1) rfl (cS hb215) (fun w' h'=>X2 (o:=0) (off:=1) Tryz.underlying85 rfl ty82 rfl rfl) D2 (WtY 21 rfl rfl rfl (pt bo0_1 0) rfl (cS hb215) (fun w' h'=>Z0 (Y1 h' 1 rfl) ty82 rfl rfl) D2 (WtY 22 rfl rfl rfl (.agg #[vU a2.What,vI a2.Task,vI a2.Call,vI a2.Answer.Err,.bool a2.Answer.Found,vS a2.Answer.Value,.slice A2_0 a2.Answer.Pairs.length c2_0]) rfl (cS hb215) (fun w' h'=>Qi (Y1 h' 9 rfl) ty40 rfl (QG rfl) rfl rfl) D2 ?_)))))
    refine Wo 23 J ?_
    refine QN (cS hb215) ?_
    obtain ⟨t243,ht244,H⟩:=QO H
    refine Vg (fs:=[]) (cap:=[]) fn147 J (XN.con ht244 hr2_0) (Γ1:=[_,_,_]) (Γ2:=[_,_,_,_,_,_,_,_,_,_]) S J J ?_
    rintro _ w251 M252 Γ' hM253 E' S ⟨A245,c246,A248,c249,rfl,rfl⟩
    replace HM:=Hp.le_trans HM hM253
    replace LE169:=Hp.le_trans LE169 hM253
    replace E:=E.trans E'
    replace S:St w251 M252 F [_,_,_,_,_,_,_,_,_,_,_,_,_]:=S
    refine QK (Yl ⟨.inr ⟨M252,LE169,(S.pk [3,4,5,6,7,8,9,10,11,12])⟩,?_⟩)
    refine tz2 24 J (cS hb215) (⟨M252,LE169,(S.pk [3,4,5,6,7,8,9,10,11,12])⟩) (xiB J J) (tz0 25 J (⟨M252,LE169,(S.pk [3,4,5,6,7,8,9,10,11,12])⟩) (xqB hb215 J) ?_)
    exact hrest _ _ ⟨(t243.1 != (0:Int)),t243.2.tasks,t243.2.l,A245,c246,A248,c249,M252,oi H,agP J,LE169,E,S.pk [2,1,0,3,4,5,6,7,8,9,10,11,12]⟩
   rcases Q3 H with ⟨hb254,H⟩ | ⟨hb254,H⟩
   ·refine tz3 17 J (cS hb215) D2 (fun w' h'=>Z0 (Yj h' hgx229) ty149 J (by rw [show a2.What=(3:Int) from eq_of_beq hb254];rfl)) (WtY 18 rfl rfl rfl (pt bo0 0) rfl (cS hb215) (fun w' h'=>YW rfl) D2 (WtY 19 rfl rfl rfl (pt bo0 0) rfl (cS hb215) (fun w' h'=>Qb rfl) D2 (WtY 20 rfl rfl rfl (pt bo0 1) rfl (cS hb215) (fun w' h'=>X2 (o:=0) (off:=1) Tryz.underlying85 rfl ty82 rfl rfl) D2 (WtY 21 rfl rfl rfl (pt bo0_1 0) rfl (cS hb215) (fun w' h'=>Z0 (Y1 h' 1 rfl) ty82 rfl rfl) D2 (WtY 22 rfl rfl rfl (.agg #[vU a2.What,vI a2.Task,vI a2.Call,vI a2.Answer.Err,.bool a2.Answer.Found,vS a2.Answer.Value,.slice A2_0 a2.Answer.Pairs.length c2_0]) rfl (cS hb215) (fun w' h'=>Qi (Y1 h' 9 rfl) ty40 rfl (QG rfl) rfl rfl) D2 ?_)))))
    refine Wo 23 J ?_
    refine QN (cS hb215) ?_
    obtain ⟨t255,ht256,H⟩:=QO H
    refine Vg (fs:=[]) (cap:=[]) fn149 J (XM.con ht256 hr2_0) (Γ1:=[_,_,_]) (Γ2:=[_,_,_,_,_,_,_,_,_,_]) S J J ?_
    rintro _ w263 M264 Γ' hM265 E' S ⟨A257,c258,A260,c261,rfl,rfl⟩
    replace HM:=Hp.le_trans HM hM265
    replace LE169:=Hp.le_trans LE169 hM265
    replace E:=E.trans E'
    replace S:St w263 M264 F [_,_,_,_,_,_,_,_,_,_,_,_,_]:=S
    refine QK (Yl ⟨.inr ⟨M264,LE169,(S.pk [3,4,5,6,7,8,9,10,11,12])⟩,?_⟩)
    refine tz2 24 J (cS hb215) (⟨M264,LE169,(S.pk [3,4,5,6,7,8,9,10,11,12])⟩) (xiB J J) (tz0 25 J (⟨M264,LE169,(S.pk [3,4,5,6,7,8,9,10,11,12])⟩) (xqB hb215 J) ?_)
    exact hrest _ _ ⟨(t255.1 != (0:Int)),t255.2.tasks,t255.2.l,A257,c258,A260,c261,M264,oi H,agP J,LE169,E,S.pk [2,1,0,3,4,5,6,7,8,9,10,11,12]⟩
   cases H
 rintro ρ w266 ⟨x216,x217,x221,A218,c219,A222,c223,M267,rfl,hρ,hM268,E,S⟩
 rw [QB hρ]
 replace hg0:=gup hg0 hM268
 replace hg1:=gup hg1 hM268
 replace HM:=Hp.le_trans HM hM268
 replace hr0_0:=SlR.mono hr0_0 hM268
 replace hm0_2_11:=Xa.mono hm0_2_11 hM268
 replace hr2_0:=SlR.mono hr2_0 hM268
 have H:=o225H
 refine Wz ?_
 refine tn ?_
 rcases Q3 H with ⟨hb269,H⟩ | ⟨hb269,H⟩
 ·refine QC (cB hb269) ?_
  refine wsQ (waI J (wnQ ?_))
  refine QT ?_
  refine tr (?_)
  obtain rfl:=oi H
  exact ⟨_,_,_,rsA (vs:=[_]) J,HM,E,S.pk [4,2,1,0,5,6,7,8,9,10,11],⟨A0_0,c0_0,A218,c219,A222,c223,A0_2_8,0,A0_2_9,0,A0_2_10,c0_2_10,A0_2_11,0,vs0_2_11,A0_3,c0_3,A0_4,c0_4,J,hr0_0,hm0_2_11,J⟩⟩
 refine QA (cB hb269) (QX (tn ?_))
 as_aux_lemma =>
 refine QH (wsQ (wfA Tryz.underlying40 ty5 J (wlA S 12 ty5 J (wnQ ?_))))
 refine ZW ?_
 refine wsQ (wiB J J (waB J (wnQ ?_)))
 rcases Q3 H with ⟨hb270,H⟩ | ⟨hb270,H⟩
 ·refine QC (cB hb270) ?_
  refine QH ?_
  have LE276:=Hp.le_refl M267
  refine rgA S [0,1,2,3,4,5,6,7,8,9,10,11,12] [_,_,_,_,_,_,_,_,_,_,_,_,_] 12 mixed J (eE1 E ?_)
  intro w277 E S D13
  refine tz0 0 J D13 (xmP J) (tz0 1 J D13 (Qb J) (tz0 2 J D13 (xfA Tryz.underlying85 ty82 J) (tz1 3 J D13 (fun w' h'=>xlA h' 4 ty82 J) (tz0 4 J D13 (xfA Tryz.underlying40 ty3 J) (tz1 5 J D13 (fun w' h'=>xlA h' 12 ty3 J) ?_)))))
  refine Wo 6 J ?_
  obtain ⟨t279,ht280,H⟩:=QO H
  replace S:St w277 M267 F [_,_,_,_,_,_,_,_,_,_,_,_,_]:=S.pk [2,1,0,3,4,5,6,7,8,9,10,11,12]
  refine Y2 fn71 (Zt.con ht280) (Γ1:=[_,_,_]) (Γ2:=[_,_,_,_,_,_,_,_,_,_]) S J J ?_
  rintro _ w281 M282 Γ' hM283 E' S ⟨rfl,rfl⟩
  replace HM:=Hp.le_trans HM hM283
  replace LE276:=Hp.le_trans LE276 hM283
  replace hr0_0:=SlR.mono hr0_0 hM283
  replace hm0_2_11:=Xa.mono hm0_2_11 hM283
  replace E:=E.trans E'
  replace S:St w281 M282 F [_,_,_,_,_,_,_,_,_,_,_,_,_]:=S
  refine QK (Yl ⟨.inr ⟨M282,LE276,(S.pk [2,1,0,3,4,5,6,7,8,9,10,11,12])⟩,?_⟩)
  refine tz0 7 J (⟨M282,LE276,(S.pk [2,1,0,3,4,5,6,7,8,9,10,11,12])⟩) (xmT J) (tz0 8 J (⟨M282,LE276,(S.pk [2,1,0,3,4,5,6,7,8,9,10,11,12])⟩) (QR J J) (tz0 9 J (⟨M282,LE276,(S.pk [2,1,0,3,4,5,6,7,8,9,10,11,12])⟩) (QR J J) (tz0 10 J (⟨M282,LE276,(S.pk [2,1,0,3,4,5,6,7,8,9,10,11,12])⟩) (QR J J) (tz0 11 J (⟨M282,LE276,(S.pk [2,1,0,3,4,5,6,7,8,9,10,11,12])⟩) (xaI J) ?_))))
  refine Wz ?_
  refine tn (wsQ (wmI J (wfA Tryz.underlying40 ty3 J (wlA S 12 ty3 J (wiB J J (wnQ ?_))))))
  rcases Q3 H with ⟨hb284,H⟩ | ⟨hb284,H⟩
  ·refine QC (cB hb284) ?_
   refine wsQ (waI J (wnQ ?_))
   refine QT ?_
   refine br (tr (?_))
   obtain rfl:=oi H
   exact ⟨_,_,_,rsA (vs:=[_]) J,HM,E,S.pk [4,0,1,2,5,6,7,8,9,10,11],⟨A0_0,c0_0,A218,c219,A222,c223,A0_2_8,0,A0_2_9,0,A0_2_10,c0_2_10,A0_2_11,0,vs0_2_11,A0_3,c0_3,A0_4,c0_4,J,hr0_0,hm0_2_11,J⟩⟩
  refine QA (cB hb284) (QX (bn (tn (wsQ (waI J (wnQ ?_))))))
  refine QT ?_
  obtain rfl:=oi H
  exact ⟨_,_,_,rsA (vs:=[_]) J,HM,E,S.pk [4,0,1,2,5,6,7,8,9,10,11],⟨A0_0,c0_0,A218,c219,A222,c223,A0_2_8,0,A0_2_9,0,A0_2_10,c0_2_10,A0_2_11,0,vs0_2_11,A0_3,c0_3,A0_4,c0_4,J,hr0_0,hm0_2_11,J⟩⟩
 refine QA (cB hb270) ?_
 as_aux_lemma =>
 refine wsQ (wiB J J (waB J (wnQ ?_)))
 rcases Q3 H with ⟨hb285,H⟩ | ⟨hb285,H⟩
 ·refine QC (cB hb285) ?_
  refine QH ?_
  refine rgA S [0,1,2,3,4,5,6,7,8,9,10,11,12] [_,_,_,_,_,_,_,_,_,_,_,_,_] 12 mixed J (eE1 E ?_)
  intro w296 E S D14
  refine tz0 0 J D14 (xmP J) (tz0 1 J D14 (Qb J) (tz0 2 J D14 (xfA Tryz.underlying85 ty83 J) (tz1 3 J D14 (fun w' h'=>xlA h' 4 ty83 J) (tz0 4 J D14 (xfA Tryz.underlying40 ty3 J) (tz1 5 J D14 (fun w' h'=>xlA h' 12 ty3 J) (tz0 6 J D14 (xmP J) (tz0 7 J D14 (Qb J) (tz0 8 J D14 (xfA Tryz.underlying85 ty58 J) (tz1 9 J D14 (fun w' h'=>xlA h' 4 ty58 J) (tz0 10 J D14 (Qm (n:=a0.done.length) Tryz.underlying58 J) ?_))))))))))
  obtain ⟨⟨p298,p299⟩,H⟩:=Z8 H
  obtain ⟨b300,o301,_,_,_,ee302,_⟩:=SlW.at' (S.row_read 11 J) p298 p299
  refine tz0 11 J D14 (QS Tryz.underlying83 ty3 (slA ee302) J p298 p299) ?_
  refine Wo 12 J ?_
  obtain ⟨x304,he305,H⟩:=QO H
  replace he305:=oi he305
  refine VQ S 11 J J ee302 (by first | exact p298 | simpa using p298) (by first | exact p299 | simpa using p299) 0 ty3 rfl rfl [vI (a0.done.length:Int)] rfl rfl rfl rfl (a0.done.length:Int) (by rintro _ rfl;rfl) he305 (eE1 E ?_)
  intro w303 E S
  have hs306:Value.slice A0_4 a0.last.length c0_4=Value.slice A0_4 x304.length c0_4:=by rw [← he305,List.length_set]
  try unfold B40 at S
  try unfold B43 at S
  try unfold B85 at S
  try unfold B96 at S
  try rw [hs306] at S
  try rw [hs306]
  have p307:a2.Task<(x304.length:Int):=by rw [← he305,List.length_set];exact p299
  refine QK (Yl ⟨.inl (by decide),?_⟩)
  refine Wz ?_
  refine tn ?_
  have LE345:=Hp.le_refl M267
  refine rgA S [0,1,2,3,4,11,12] [_,_,_,_,_,_,_] 23 mixed J (eE1 E ?_)
  intro w346 E S D15
  refine tz0 0 J D15 (xmP J) (tz0 1 J D15 (xmP J) (tz0 2 J D15 (Qb J) (tz0 3 J D15 (xfA Tryz.underlying85 ty58 J) (tz1 4 J D15 (fun w' h'=>xlA h' 4 ty58 J) (tz0 5 J D15 (xfA Tryz.underlying40 ty3 J) (tz1 6 J D15 (fun w' h'=>xlA h' 6 ty3 J) (tz0 7 J D15 (xfA Tryz.underlying40 ty3 J) (tz1 8 J D15 (fun w' h'=>xlA h' 6 ty3 J) (tz0 9 J D15 (xmP J) (tz0 10 J D15 (Qb J) (tz0 11 J D15 (xfA Tryz.underlying85 ty50 J) (tz1 12 J D15 (fun w' h'=>xlA h' 4 ty50 J) (tz0 13 J D15 (xfA Tryz.underlying40 ty3 J) (tz1 14 J D15 (fun w' h'=>xlA h' 6 ty3 J) (Wt 15 J J J (.agg (Qo t4.1)) J (fun w' h'=>Qi (Y1 h' 3 J) ty43 J (QG J) J J) D15 ?_)))))))))))))))
  refine tz0 17 J D15 (xmI J) ?_
  refine Wo 16 J ?_
  obtain ⟨t348,ht349,H⟩:=QO H
  replace S:St w346 M267 F [_,_,_,_,_,_,_,_,_,_,_,_,_]:=S.pk [5,6,7,8,9,0,1,2,3,4,10,11,12]
  refine Y2 fn25 (YD.con ht349 hm0_2_11 hg0 hg1) (Γ1:=[_,_,_,_,_]) (Γ2:=[_,_,_,_,_,_,_,_]) S J J ?_
  rintro _ w367 M368 Γ' hM369 E' S ⟨A350,c351,A353,c354,A356,c357,A359,c360,A362,c363,vs365,rfl,hm366,rfl⟩
  replace HM:=Hp.le_trans HM hM369
  replace LE345:=Hp.le_trans LE345 hM369
  replace hr0_0:=SlR.mono hr0_0 hM369
  replace E:=E.trans E'
  replace S:St w367 M368 F [_,_,_,_,_,_,_,_,_,_,_,_,_,_]:=S
  refine QK (Yl ⟨.inr ⟨M368,LE345,(S.pk [6,7,8,9,10,12,13])⟩,?_⟩)
  refine tz0 18 J (⟨M368,LE345,(S.pk [6,7,8,9,10,12,13])⟩) (xb2 [(0,1),(1,1),(2,4),(6,1),(7,1)] #[vI (a2.Task),vI (a2.Call),vI t348.1.Err,.bool t348.1.Found,vS t348.1.Value,.slice A350 t348.1.Pairs.length c351,vI a1,vI (-1)] Tryz.underlying61 ty61 J) ?_
  refine Wo 19 J ?_
  obtain ⟨M370,hM371,hf372,S⟩:=S.row_freeze 0 J
  replace HM:=Hp.le_trans HM hM371
  replace LE345:=Hp.le_trans LE345 hM371
  replace hr0_0:=SlR.mono hr0_0 hM371
  replace hm366:=Xa.mono hm366 hM371
  refine Xl S #[vI (a2.Task),vI (a2.Call),vI t348.1.Err,.bool t348.1.Found,vS t348.1.Value,.slice A350 t348.1.Pairs.length c351,vI a1,vI (-1)] Tryz.underlying58 ty61 J J cz4 (by as_aux_lemma=>kernel_rfl) (by as_aux_lemma=>kernel_rfl) J (eE2 E ?_)
  intro b373 w374 E S
  replace S:=S.blk_row (r:=Zz) (l:=([(⟨(a2.Task),(a2.Call),⟨t348.1.Err,t348.1.Found,t348.1.Value,t348.1.Pairs⟩,a1,(-1:Int)⟩:ZX)]:List ZX)) 0 J 1 (Nat.le_refl 1) J (Cells.cons (vs:=[vI (a2.Task),vI (a2.Call),vI t348.1.Err,.bool t348.1.Found,vS t348.1.Value,.slice A350 t348.1.Pairs.length c351,vI a1,vI (-1)]) (⟨_,hf372,J⟩) Cells.nil)
  refine QK (Yl ⟨.inr ⟨M370,LE345,(S.pk [6,7,8,9,10,12,13])⟩,?_⟩)
  refine Wo 20 J ?_
  obtain ⟨p376,H⟩:=Z8 H
  obtain ⟨src377,hs378,hC379⟩:=XJ (P:=Tryz.prog) (ρ:=Zz) (l:=([(⟨(a2.Task),(a2.Call),⟨t348.1.Err,t348.1.Found,t348.1.Value,t348.1.Pairs⟩,a1,(-1:Int)⟩:ZX)]:List ZX)) (S.row_read 0 J) (by decide)
  refine X0 S 11 J J J Tryz.underlying58 (.inl Tryz.underlying58) ty61 J (by decide) (by decide) hs378 hC379 J (by omega) J (eE2 E ?_)
  intro v380 w381 E S
  obtain ⟨A382,c383,rfl,_⟩:=(S.row_read 11 J).form
  refine QK (Yl ⟨.inr ⟨M370,LE345,(S.pk [6,7,8,9,10,12,13])⟩,?_⟩)
  refine tz0 21 J (⟨M370,LE345,(S.pk [6,7,8,9,10,12,13])⟩) (Qb J) (tz0 22 J (⟨M370,LE345,(S.pk [6,7,8,9,10,12,13])⟩) (xfA Tryz.underlying85 ty58 J) ?_)
  refine Wo 23 J ?_
  refine Qu S 10 J ty58 J J [.slice A382 (a0.done++([(⟨(a2.Task),(a2.Call),⟨t348.1.Err,t348.1.Found,t348.1.Value,t348.1.Pairs⟩,a1,(-1:Int)⟩:ZX)]:List ZX)).length c383] J J J #[.slice A0_0 a0.programs.length c0_0,pt bo0_1 0,pt bo0_2 0,.slice A382 (a0.done++([(⟨(a2.Task),(a2.Call),⟨t348.1.Err,t348.1.Found,t348.1.Value,t348.1.Pairs⟩,a1,(-1:Int)⟩:ZX)]:List ZX)).length c383,.slice A0_4 x304.length c0_4] J J (eE1 E ?_)
  intro w384 E S
  refine QK (Yl ⟨.inl (by decide),?_⟩)
  refine Wz ?_
  refine bn (tn (wsQ (waI J (wnQ ?_))))
  refine QT ?_
  obtain rfl:=oi H
  exact ⟨_,_,_,rsA (vs:=[_]) J,HM,E,S.pk [10,8,7,6,1,2,3,4,5,11,12],⟨A0_0,c0_0,A218,c219,A222,c223,A353,c354,A356,c357,A359,c360,A362,c363,vs365,A382,c383,A0_4,c0_4,J,hr0_0,hm366,J⟩⟩
 refine QA (cB hb285) ?_
 as_aux_lemma =>
 refine wsQ (wiB J J (waB J (wnQ ?_)))
 rcases Q3 H with ⟨hb385,H⟩ | ⟨hb385,H⟩
 ·refine QC (cB hb385) ?_
  refine QH ?_
  refine rgA S [0,1,2,3,4,5,6,7,8,9,10,11,12] [_,_,_,_,_,_,_,_,_,_,_,_,_] 14 mixed J (eE1 E ?_)
  intro w405 E S D16
  refine tz0 0 J D16 (xmP J) (tz0 1 J D16 (Qb J) (tz0 2 J D16 (xfA Tryz.underlying85 ty58 J) (tz1 3 J D16 (fun w' h'=>xlA h' 4 ty58 J) (tz0 4 J D16 (xmP J) (tz0 5 J D16 (Qb J) (tz0 6 J D16 (xfA Tryz.underlying85 ty83 J) (tz1 7 J D16 (fun w' h'=>xlA h' 4 ty83 J) (tz0 8 J D16 (xfA Tryz.underlying40 ty3 J) (tz1 9 J D16 (fun w' h'=>xlA h' 12 ty3 J) ?_)))))))))
  obtain ⟨⟨p407,p408⟩,H⟩:=Z8 H
  obtain ⟨b409,o410,_,_,_,ee411,_⟩:=SlW.at' (S.row_read 11 J) p407 p408
  refine tz0 10 J D16 (QS Tryz.underlying83 ty3 (slA ee411) J p407 p408) (Wt 11 J J J (vI (rd a0.last a2.Task)) J (fun w' h'=>X9 h' 11 J ee411 p407 p408 0 (by rintro _ _ rfl;rfl) ty3 J) D16 ?_)
  obtain ⟨⟨p412,p413⟩,H⟩:=Z8 H
  obtain ⟨b414,o415,cs416,_,_,ee421,hb417,vs418,hR419,hc420⟩:=SlW.at' (S.row_read 10 J) p412 p413
  obtain ⟨v425,hs424,rfl⟩:=hR419
  obtain ⟨A422,c423,rfl,_⟩:=hs424.form
  refine tz0 12 J D16 (QS Tryz.underlying58 ty61 (slA ee421) J p412 p413) (tz0 13 J D16 (xaP J) ?_)
  refine Wz ?_
  refine tn (wsQ (wmP J (wmI J (W_v _ (Qb J) J (wfA Tryz.underlying61 ty3 J ?_)))))
  obtain ⟨x427,he428,H⟩:=QO H
  replace he428:=oi he428
  refine VQ S 10 J J ee421 (by first | exact p412 | simpa using p412) (by first | exact p413 | simpa using p413) 7 ty3 rfl rfl [vI a1] rfl rfl rfl rfl (⟨(rd a0.done (rd a0.last a2.Task)).Task,(rd a0.done (rd a0.last a2.Task)).Call,⟨(rd a0.done (rd a0.last a2.Task)).Answer.Err,(rd a0.done (rd a0.last a2.Task)).Answer.Found,(rd a0.done (rd a0.last a2.Task)).Answer.Value,(rd a0.done (rd a0.last a2.Task)).Answer.Pairs⟩,(rd a0.done (rd a0.last a2.Task)).Mark,a1⟩:ZX) (by rintro _ ⟨_,h5,rfl⟩;exact ⟨_,h5,rfl⟩) he428 (eE1 E ?_)
  intro w426 E S
  have hs429:Value.slice A0_3 a0.done.length c0_3=Value.slice A0_3 x427.length c0_3:=by rw [← he428,List.length_set]
  try unfold B40 at S
  try unfold B43 at S
  try unfold B85 at S
  try unfold B96 at S
  try rw [hs429] at S
  try rw [hs429]
  have p430:(rd a0.last a2.Task)<(x427.length:Int):=by rw [← he428,List.length_set];exact p413
  refine wnQ (QH ?_)
  refine rgA S [0,1,2,3,4,5,6,7,8,9,10,11,12] [_,_,_,_,_,_,_,_,_,_,_,_,_] 8 mixed J (eE1 E ?_)
  intro w446 E S D17
  refine tz0 0 J D17 (xmP J) (tz0 1 J D17 (Qb J) (tz0 2 J D17 (xfA Tryz.underlying61 ty38 J) (tz0 4 J D17 (xfA Tryz.underlying40 ty38 J) (Wt 5 J J J (.agg #[vI a2.Answer.Err,.bool a2.Answer.Found,vS a2.Answer.Value,.slice A2_0 a2.Answer.Pairs.length c2_0]) J (fun w' h'=>Qi (Y1 h' 12 J) ty38 J (QG J) J J) D17 ?_))))
  refine Wo 3 J ?_
  obtain ⟨b448,o449,cs450,_,_,ee455,hb451,vs452,hR453,hc454⟩:=SlW.at' (S.row_read 10 J) p412 p430
  obtain ⟨rfl,rfl⟩:b448=b414∧o449=o415:=by simpa using ee455.symm.trans ee421
  obtain ⟨v459,hs458,rfl⟩:=hR453
  obtain ⟨A456,c457,rfl,_⟩:=hs458.form
  refine W_v (.agg #[vI ((rd x427 (rd a0.last a2.Task)).Answer.Err),.bool ((rd x427 (rd a0.last a2.Task)).Answer.Found),vS ((rd x427 (rd a0.last a2.Task)).Answer.Value),.slice A456 ((rd x427 (rd a0.last a2.Task)).Answer.Pairs).length c457]) (Qi (Hp.of_get hb451) ty38 J (X1 hc454 2 J) J J) J ?_
  refine QK (Yl ⟨.inr ⟨M267,Hp.le_refl M267,(S.pk [0,1,2,3,4,5,6,7,8,9,10,11,12])⟩,?_⟩)
  refine Wo 6 J ?_
  obtain ⟨t460,ht461,H⟩:=QO H
  refine ZR fn70 (Xv.con ht461 hs458 hr2_0) S J J flN (eE4 E ?_)
  rintro _ w462 _ Γ' E S ⟨rfl,rfl⟩
  refine QK (Yl ⟨.inr ⟨M267,Hp.le_refl M267,(S.pk [0,1,2,3,4,5,6,7,8,9,10,11,12])⟩,?_⟩)
  refine tz0 7 J (⟨M267,Hp.le_refl M267,(S.pk [0,1,2,3,4,5,6,7,8,9,10,11,12])⟩) (Xr (b:=t460) J) ?_
  refine Wz ?_
  refine tn ?_
  rcases Q3 H with ⟨hb463,H⟩ | ⟨hb463,H⟩
  ·refine QC (cB hb463) ?_
   refine wsQ (waI J (wnQ ?_))
   refine QT ?_
   refine br (tr (?_))
   obtain rfl:=oi H
   exact ⟨_,_,_,rsA (vs:=[_]) J,HM,E,S.pk [4,2,1,0,5,6,7,8,9,10,11],⟨A0_0,c0_0,A218,c219,A222,c223,A0_2_8,0,A0_2_9,0,A0_2_10,c0_2_10,A0_2_11,0,vs0_2_11,A0_3,c0_3,A0_4,c0_4,J,hr0_0,hm0_2_11,J⟩⟩
  refine QA (cB hb463) (QX (bn (tn ?_)))
  as_aux_lemma =>
  refine wsQ (waI J (wnQ ?_))
  refine QT ?_
  obtain rfl:=oi H
  exact ⟨_,_,_,rsA (vs:=[_]) J,HM,E,S.pk [4,2,1,0,5,6,7,8,9,10,11],⟨A0_0,c0_0,A218,c219,A222,c223,A0_2_8,0,A0_2_9,0,A0_2_10,c0_2_10,A0_2_11,0,vs0_2_11,A0_3,c0_3,A0_4,c0_4,J,hr0_0,hm0_2_11,J⟩⟩
 refine QA (cB hb385) (QX (bn (tn ?_)))
 as_aux_lemma =>
 refine wsQ (waI J (wnQ ?_))
 refine QT ?_
 obtain rfl:=oi H
 exact ⟨_,_,_,rsA (vs:=[_]) J,HM,E,S.pk [4,2,1,0,5,6,7,8,9,10,11],⟨A0_0,c0_0,A218,c219,A222,c223,A0_2_8,0,A0_2_9,0,A0_2_10,c0_2_10,A0_2_11,0,vs0_2_11,A0_3,c0_3,A0_4,c0_4,J,hr0_0,hm0_2_11,J⟩⟩
def XU (a2:(List QL)):Nat→Int→List (List QY)→List ZX→List Int→List YQ→List QL→QW→Option (((Unit)⊕(Unit)⊕(Z2))⊕(List (List QY)×List ZX×List Int×List YQ×List QL×QW))
 | 0,_,_,_,_,_,_,_=>none
 | k+1,x232,x233,x237,x241,x245,x249,x253=>(if (decide (x232<(a2.length:Int)))=true then (if 0≤x232∧x232<(a2.length:Int) then (Option.bind (Qz k (⟨x233,(⟨x245,x249⟩:Qg),x253,x237,x241⟩:Z2) x232 (rd a2 x232)) (fun t380=>(if (t380.1==(4:Int))=true then some (.inl (Sum.inr (Sum.inl ()))) else XU a2 k (IntKind.i64.wrap (x232+(1:Int))) t380.2.programs t380.2.done t380.2.last t380.2.r.tasks t380.2.r.l t380.2.m))) else none) else some (.inr (x233,x237,x241,x245,x249,x253)))
theorem XU.mono {a2}: ∀ {kl:Nat} {x0 x1 x2 x3 x4 x5 x6},OLe (XU a2 kl x0 x1 x2 x3 x4 x5 x6) (XU a2 (kl+1) x0 x1 x2 x3 x4 x5 x6):=by
 intro kl
 induction kl with
 | zero=>intros;exact OLe.none
 | succ kl ih =>
  intros
  rw [XU.eq_2,XU.eq_2]
  have m1:=@Qz.mono
  exact mo
def Y8 (k:Nat) (a0:QI) (a1:(List (List QY))) (a2:(List QL)):Option ((Unit)⊕(Unit)⊕(Z2)) :=
 (Option.bind (Yt k a0 a1) (fun t4=>(Sum.elim (fun t6=>some (Sum.inl ())) (Sum.elim (fun t7=>(Option.bind (XU a2 k (0:Int) t7.programs t7.done t7.last t7.r.tasks t7.r.l t7.m) (fun o357o=>Sum.elim (fun r'=>some r') (fun ⟨x322,x326,x330,x334,x338,x342⟩=>some (Sum.inr (Sum.inr (⟨x322,(⟨x334,x338⟩:Qg),x342,x326,x330⟩:Z2)))) o357o))) (Sum.elim (fun t8=>some (Sum.inl ())) (Sum.elim (fun t9=>some (Sum.inl ())) (fun t10=>some (Sum.inl ())))))) t4))
theorem Y8.mono {k a0 a1 a2}: OLe (Y8 k a0 a1 a2) (Y8 (k+1) a0 a1 a2):=by
 unfold Y8
 have m1:=@Yt.mono
 have m2:=@XU.mono
 exact mo
theorem Y8.con {k M} {a0:QI} {A1 c1} {a1:(List (List QY))} {A2 c2} {a2:(List QL)} {r:(Unit)⊕(Unit)⊕(Z2)} (h:Y8 k a0 a1 a2=some r) (hr1:SlR (rSl Yk) M (.slice A1 a1.length c1) a1) (hr2:SlR Qs M (.slice A2 a2.length c2) a2) (hg0:∃ gt fr,M 0=some (.cells cz1 gt fr)) (hg1:∃ gt fr,M 1=some (.cells cz2 gt fr)): Con Tryz.prog 32 #[.agg (QF a0),.slice A1 a1.length c1,.slice A2 a2.length c2] M [] (fun v M' Γ'=>(Sum.elim (fun x=>v=.tuple cz21∧Γ'=[]) (Sum.elim (fun x=>v=.tuple cz22∧Γ'=[]) (fun x=>∃ (bq1:Nat) (Aq3:Option Addr) (cq4:Nat) (bq6:Nat) (Aq8:Option Addr) (cq9:Nat) (Aq11:Option Addr) (cq12:Nat) (bq14:Nat) (Aq16:Option Addr) (cq17:Nat) (Aq19:Option Addr) (cq20:Nat) (Aq22:Option Addr) (cq23:Nat) (Aq25:Option Addr) (cq26:Nat) (vsq28:List (Str×Value)) (Aq30:Option Addr) (cq31:Nat) (Aq33:Option Addr) (cq34:Nat),v=.tuple #[pt bq1 0,vI 0]∧SlR (rSl Yk) M' (.slice Aq3 x.programs.length cq4) x.programs∧Xa Qx M' x.m.rows vsq28∧Γ'=[B85 bq1 x Aq3 cq4 bq6 bq14 Aq30 cq31 Aq33 cq34,Blk bq6 (.cells #[.slice Aq8 x.r.tasks.length cq9,.slice Aq11 x.r.l.length cq12] 162 (0,0)),Rw Zu 165 Aq8 cq9 x.r.tasks,Rw Qs 40 Aq11 cq12 x.r.l,B96 bq14 x.m Aq16 Aq19 Aq22 cq23 Aq25,XC QM (Value.int .i64) Aq16 x.m.names,MpI Aq19 x.m.many,Rw Qe 134 Aq22 cq23 x.m.txs,MpV Aq25 vsq28,Rw Zz 61 Aq30 cq31 x.done,Rw (rInt .i64) 3 Aq33 cq34 x.last]))) r):=by
 refine cwA Tryz.func32 J Tryz.ntmps32 Tryz.results32 J h ?_
 intro w F rn S hrn E HM H
 unfold Y8 at H
 refine wsQ ?_
 refine Yz S (QF a0) J J J (eE2 E ?_)
 intro b1 w2 E S
 refine W_v (.pointer none) (Zm J) J (waI J (wnQ (wsQ (W_v (.agg (QF a0)) (Qi (S.blk 0 J) ty23 J (QG J) J J) J (wmL J ?_)))))
 obtain ⟨t4,ht5,H⟩:=QO H
 rcases t4 with t6 | t7 | t8 | t9 | t10
 ·replace H:=elimL H
  refine Zy fn50 (Yt.con ht5 hr1) (Γ1:=[]) (Γ2:=[_]) S J J flN (eE4 E ?_)
  rintro _ w11 _ Γ' E S ⟨rfl,rfl⟩
  replace S:St w11 M F [_]:=S
  refine wmT J (W_v _ (QR J J) J (W_v _ (QR J J) J (W_v (.pointer none) (Zm J) J (waB J (wnQ (QH (wsQ (wmB J (W_v _ (Xr (b:=false) J) J (wnQ (QC J (QH ?_))))))))))))
  refine QJ (W_v (.pointer none) (Zm J) J (waI J (wnQ ?_)))
  refine QT ?_
  refine tr (?_)
  obtain rfl:=oi H
  exact ⟨_,_,_,rsA (vs:=[_,_]) J,HM,E,S.pk [],⟨J,J⟩⟩
 ·replace H:=elimR H
  replace H:=elimL H
  refine Y2 fn50 (Yt.con ht5 hr1) (Γ1:=[]) (Γ2:=[_]) S J J ?_
  rintro _ w49 M50 Γ' hM51 E' S ⟨b14,A16,c17,b19,A21,c22,A24,c25,b27,A29,c30,A32,c33,A35,c36,A38,c39,vs41,A43,c44,A46,c47,rfl,hs18,hm42,rfl⟩
  replace hg0:=gup hg0 hM51
  replace hg1:=gup hg1 hM51
  replace HM:=Hp.le_trans HM hM51
  replace hr2:=SlR.mono hr2 hM51
  replace E:=E.trans E'
  replace S:St w49 M50 F [_,_,_,_,_,_,_,_,_,_,_,_]:=S
  refine wmT J (W_v _ (QR J J) J (W_v _ (QR J J) J (waP J (waB J (wnQ (QH (wsQ (wmB J (W_v _ (Xr (b:=true) J) J (wnQ (QA J (QX ?_))))))))))))
  refine tn (QH (wsQ (wmL J (W_v _ (Qm (n:=a2.length) Tryz.underlying25 J) J (wmI J (wnQ ?_))))))
  obtain ⟨o357,o357h,o357H⟩:=QO H
  refine Zr (fun ρ w'=>∃ (x322:List (List QY)) (x326:List ZX) (x330:List Int) (x334:List YQ) (x338:List QL) (x342:QW) (A323:Option Addr) (c324:Nat) (A327:Option Addr) (c328:Nat) (A331:Option Addr) (c332:Nat) (A335:Option Addr) (c336:Nat) (A339:Option Addr) (c340:Nat) (A343:Option Addr) (c344:Nat) (A346:Option Addr) (c347:Nat) (A349:Option Addr) (c350:Nat) (A352:Option Addr) (c353:Nat) (vs355:List (Str×Value)) (Mj:Hp),.inr (x322,x326,x330,x334,x338,x342)=o357∧QV ρ [(8,pt b14 0)]∧M50.le Mj∧Ext w w'∧St w' Mj F [MpV A352 vs355,Rw Qe 134 A349 c350 x342.txs,MpI A346 x342.many,XC QM (Value.int .i64) A343 x342.names,Rw Qs 40 A339 c340 x338,Rw Zu 165 A335 c336 x334,Rw (rInt .i64) 3 A331 c332 x330,Rw Zz 61 A327 c328 x326,Blk b14 (.cells #[.slice A323 x322.length c324,pt b19 0,pt b27 0,.slice A327 x326.length c328,.slice A331 x330.length c332] 85 (0,0)),Blk b19 (.cells #[.slice A335 x334.length c336,.slice A339 x338.length c340] 162 (0,0)),B96 b27 x342 A343 A346 A349 c350 A352]∧SlR (rSl Yk) Mj (.slice A323 x322.length c324) x322∧Xa Qx Mj x342.rows vs355) ?_ ?_
  ·refine Yr (fun n ρ w'=>∃ (x232:Int) (x233:List (List QY)) (x237:List ZX) (x241:List Int) (x245:List YQ) (x249:List QL) (x253:QW) (A234:Option Addr) (c235:Nat) (A238:Option Addr) (c239:Nat) (A242:Option Addr) (c243:Nat) (A246:Option Addr) (c247:Nat) (A250:Option Addr) (c251:Nat) (A254:Option Addr) (c255:Nat) (A257:Option Addr) (c258:Nat) (A260:Option Addr) (c261:Nat) (A263:Option Addr) (c264:Nat) (vs266:List (Str×Value)) (Mj:Hp),XU a2 n x232 x233 x237 x241 x245 x249 x253=some o357∧QV ρ [(8,pt b14 0),(20,.slice A2 a2.length c2),(21,vI (a2.length:Int)),(22,vI x232)]∧M50.le Mj∧Ext w w'∧St w' Mj F [MpV A263 vs266,Rw Qe 134 A260 c261 x253.txs,MpI A257 x253.many,XC QM (Value.int .i64) A254 x253.names,Rw Qs 40 A250 c251 x249,Rw Zu 165 A246 c247 x245,Rw (rInt .i64) 3 A242 c243 x241,Rw Zz 61 A238 c239 x237,Blk b14 (.cells #[.slice A234 x233.length c235,pt b19 0,pt b27 0,.slice A238 x237.length c239,.slice A242 x241.length c243] 85 (0,0)),Blk b19 (.cells #[.slice A246 x245.length c247,.slice A250 x249.length c251] 162 (0,0)),B96 b27 x253 A254 A257 A260 c261 A263]∧SlR (rSl Yk) Mj (.slice A234 x233.length c235) x233∧Xa Qx Mj x253.rows vs266) k ?_ ?_
   ·exact ⟨(0:Int),t7.programs,t7.done,t7.last,t7.r.tasks,t7.r.l,t7.m,A16,c17,A43,c44,A46,c47,A21,c22,A24,c25,A29,c30,A32,c33,A35,c36,A38,c39,vs41,M50,o357h,agP J,(Hp.le_refl M50),E,S.pk [8,7,6,5,3,2,10,9,0,1,4],hs18,hm42⟩
   ·intro n
    rintro ρ w358 ⟨x232,x233,x237,x241,x245,x249,x253,A234,c235,A238,c239,A242,c243,A246,c247,A250,c251,A254,c255,A257,c258,A260,c261,A263,c264,vs266,M359,H,hρ,hM360,E,S,hs236,hm267⟩
    rw [QB hρ]
    replace hg0:=gup hg0 hM360
    replace hg1:=gup hg1 hM360
    replace HM:=Hp.le_trans HM hM360
    replace hr2:=SlR.mono hr2 hM360
    cases n with
    | zero=>cases H
    | succ k =>
     rw [XU.eq_2] at H
     refine wsQ (wiB J J (wnQ (QH ?_)))
     rcases Q3 H with ⟨hb361,H⟩ | ⟨hb361,H⟩
     ·refine QC (cB hb361) ?_
      refine QX (tn (QH ?_))
      refine ZW ?_
      refine wsQ (wmI J ?_)
      obtain ⟨⟨p362,p363⟩,H⟩:=Z8 H
      obtain ⟨b364,o365,cs366,_,_,ee371,hb367,vs368,hR369,hc370⟩:=SlW.at' hr2 p362 p363
      obtain ⟨v375,hs374,rfl⟩:=hR369
      obtain ⟨A372,c373,rfl,_⟩:=hs374.form
      refine W_v _ (QS Tryz.underlying25 ty40 (slA ee371) J p362 p363) J (W_v (.agg #[vU ((rd a2 x232).What),vI ((rd a2 x232).Task),vI ((rd a2 x232).Call),vI ((rd a2 x232).Answer.Err),.bool ((rd a2 x232).Answer.Found),vS ((rd a2 x232).Answer.Value),.slice A372 ((rd a2 x232).Answer.Pairs).length c373]) (Qi (S.frz hb367) ty40 J (X1 hc370 0 J) J J) J ?_)
      refine YN S cz6 ty40 J J (eE2 E ?_)
      intro b376 w377 E S
      refine waI J ?_
      refine Qu S 0 J ty40 J J [vU ((rd a2 x232).What),vI ((rd a2 x232).Task),vI ((rd a2 x232).Call),vI ((rd a2 x232).Answer.Err),.bool ((rd a2 x232).Answer.Found),vS ((rd a2 x232).Answer.Value),.slice A372 ((rd a2 x232).Answer.Pairs).length c373] J J J #[vU ((rd a2 x232).What),vI ((rd a2 x232).Task),vI ((rd a2 x232).Call),vI ((rd a2 x232).Answer.Err),.bool ((rd a2 x232).Answer.Found),vS ((rd a2 x232).Answer.Value),.slice A372 ((rd a2 x232).Answer.Pairs).length c373] (by as_aux_lemma=>kernel_rfl) J (eE1 E ?_)
      intro w379 E S
      refine wnQ (wsQ (wmP J (wmI J (W_v (.agg #[vU ((rd a2 x232).What),vI ((rd a2 x232).Task),vI ((rd a2 x232).Call),vI ((rd a2 x232).Answer.Err),.bool ((rd a2 x232).Answer.Found),vS ((rd a2 x232).Answer.Value),.slice A372 ((rd a2 x232).Answer.Pairs).length c373]) (Qi (S.blk 0 J) ty40 J (QG J) J J) J ?_))))
      obtain ⟨t380,ht381,H⟩:=QO H
      replace S:St w379 M359 F [_,_,_,_,_,_,_,_,_,_,_,_]:=S.pk [9,10,6,5,11,4,3,2,1,8,7,0]
      refine Y2 fn51 (Qz.con ht381 hs236 hm267 hs374 hg0 hg1) (Γ1:=[_,_,_,_,_,_,_,_,_,_,_]) (Γ2:=[_]) S J J ?_
      rintro _ w411 M412 Γ' hM413 E' S ⟨A382,c383,A385,c386,A388,c389,A391,c392,A394,c395,A397,c398,A400,c401,vs403,A405,c406,A408,c409,rfl,hs384,hm404,rfl⟩
      replace HM:=Hp.le_trans HM hM413
      replace hM360:=Hp.le_trans hM360 hM413
      replace E:=E.trans E'
      replace S:St w411 M412 F [_,_,_,_,_,_,_,_,_,_,_,_]:=S
      refine wiB J J (wnQ ?_)
      rcases Q3 H with ⟨hb414,H⟩ | ⟨hb414,H⟩
      ·refine QC (cB hb414) ?_
       refine wsQ (W_v (.pointer none) (Zm J) J (waI J (wnQ ?_)))
       refine QT ?_
       refine br (tr (tr (br (tr (tr (?_))))))
       obtain rfl:=oi H
       have H:=o357H
       replace H:=elimL H
       obtain rfl:=oi H
       exact ⟨_,_,_,rsA (vs:=[_,_]) J,HM,E,S.pk [],⟨J,J⟩⟩
      refine QA (cB hb414) (QX (bn (tn (QJ (wiI J J (wmI J (wnQ ?_)))))))
      exact ⟨k,Nat.lt_succ_self k,⟨(IntKind.i64.wrap (x232+(1:Int))),t380.2.programs,t380.2.done,t380.2.last,t380.2.r.tasks,t380.2.r.l,t380.2.m,A382,c383,A405,c406,A408,c409,A385,c386,A388,c389,A391,c392,A394,c395,A397,c398,A400,c401,vs403,M412,H,agP J,hM360,E,S.pk [8,7,6,5,3,2,10,9,0,1,4],hs384,hm404⟩⟩
     refine QA (cB hb361) ?_
     refine YZ ?_
     refine tx (tx (bsm (?_)))
     refine tn ?_
     exact ⟨x233,x237,x241,x245,x249,x253,A234,c235,A238,c239,A242,c243,A246,c247,A250,c251,A254,c255,A257,c258,A260,c261,A263,c264,vs266,M359,oi H,agP J,hM360,E,S.pk [0,1,2,3,4,5,6,7,8,9,10],hs236,hm267⟩
  rintro ρ w415 ⟨x322,x326,x330,x334,x338,x342,A323,c324,A327,c328,A331,c332,A335,c336,A339,c340,A343,c344,A346,c347,A349,c350,A352,c353,vs355,M416,rfl,hρ,hM417,E,S,hs325,hm356⟩
  rw [QB hρ]
  replace HM:=Hp.le_trans HM hM417
  have H:=o357H
  replace H:=elimR H
  refine tn ?_
  as_aux_lemma =>
  refine wsQ (wmP J (waP J (waI J (wnQ ?_))))
  refine QT ?_
  obtain rfl:=oi H
  exact ⟨_,_,_,rsA (vs:=[_,_]) J,HM,E,S.pk [8,9,5,4,10,3,2,1,0,7,6],⟨b14,A323,c324,b19,A335,c336,A339,c340,b27,A343,c344,A346,c347,A349,c350,A352,c353,vs355,A327,c328,A331,c332,J,hs325,hm356,J⟩⟩
 ·replace H:=elimR H
  replace H:=elimR H
  replace H:=elimL H
  refine Y2 fn50 (Yt.con ht5 hr1) (Γ1:=[]) (Γ2:=[_]) S J J ?_
  rintro _ w445 M446 Γ' hM447 E' S ⟨b418,A420,c421,b423,A425,c426,A428,c429,A431,c432,A434,c435,vs437,A439,c440,A442,c443,rfl,hs422,hm438,rfl⟩
  replace HM:=Hp.le_trans HM hM447
  replace E:=E.trans E'
  replace S:St w445 M446 F [_,_,_,_,_,_,_,_,_]:=S
  refine wmT J (W_v _ (QR J J) J (W_v _ (QR J J) J (waP J (waB J (wnQ (QH (wsQ (wmB J (W_v _ (Xr (b:=false) J) J (wnQ (QC J (QH ?_))))))))))))
  refine QJ (W_v (.pointer none) (Zm J) J (waI J (wnQ ?_)))
  refine QT ?_
  refine tr (?_)
  obtain rfl:=oi H
  exact ⟨_,_,_,rsA (vs:=[_,_]) J,HM,E,S.pk [],⟨J,J⟩⟩
 ·replace H:=elimR H
  replace H:=elimR H
  replace H:=elimR H
  replace H:=elimL H
  refine Y2 fn50 (Yt.con ht5 hr1) (Γ1:=[]) (Γ2:=[_]) S J J ?_
  rintro _ w459 M460 Γ' hM461 E' S ⟨b448,A450,c451,A453,c454,A456,c457,rfl,hs452,rfl⟩
  replace HM:=Hp.le_trans HM hM461
  replace E:=E.trans E'
  replace S:St w459 M460 F [_,_,_,_]:=S
  refine wmT J (W_v _ (QR J J) J (W_v _ (QR J J) J (waP J (waB J (wnQ (QH (wsQ (wmB J (W_v _ (Xr (b:=false) J) J (wnQ (QC J (QH ?_))))))))))))
  refine QJ (W_v (.pointer none) (Zm J) J (waI J (wnQ ?_)))
  refine QT ?_
  refine tr (?_)
  obtain rfl:=oi H
  exact ⟨_,_,_,rsA (vs:=[_,_]) J,HM,E,S.pk [],⟨J,J⟩⟩
 ·replace H:=elimR H
  replace H:=elimR H
  replace H:=elimR H
  replace H:=elimR H
  refine Y2 fn50 (Yt.con ht5 hr1) (Γ1:=[]) (Γ2:=[_]) S J J ?_
  rintro _ w481 M482 Γ' hM483 E' S ⟨b462,A464,c465,b467,A469,c470,A472,c473,A475,c476,A478,c479,rfl,hs466,rfl⟩
  replace HM:=Hp.le_trans HM hM483
  replace E:=E.trans E'
  replace S:St w481 M482 F [_,_,_,_,_,_,_]:=S
  refine wmT J (W_v _ (QR J J) J (W_v _ (QR J J) J (waP J (waB J (wnQ (QH (wsQ (wmB J (W_v _ (Xr (b:=false) J) J (wnQ (QC J (QH ?_))))))))))))
  refine QJ (W_v (.pointer none) (Zm J) J (waI J (wnQ ?_)))
  refine QT ?_
  refine tr (?_)
  obtain rfl:=oi H
  exact ⟨_,_,_,rsA (vs:=[_,_]) J,HM,E,S.pk [],⟨J,J⟩⟩
def Xu (k:Nat) (a0:QI) (a1:(List (List QY))) (a2:(List QL)):Option ((List ZX)) :=
 (Option.bind (Y8 k a0 a1 a2) (fun t4=>(Sum.elim (fun t6=>some ([]:(List ZX))) (Sum.elim (fun t7=>some ([]:(List ZX))) (fun t8=>some t8.done))) t4))
theorem Xu.mono {k a0 a1 a2}: OLe (Xu k a0 a1 a2) (Xu (k+1) a0 a1 a2):=by
 unfold Xu
 have m1:=@Y8.mono
 exact mo
theorem Xu.con {k M} {a0:QI} {A1 c1} {a1:(List (List QY))} {A2 c2} {a2:(List QL)} {r:(List ZX)} (h:Xu k a0 a1 a2=some r) (hr1:SlR (rSl Yk) M (.slice A1 a1.length c1) a1) (hr2:SlR Qs M (.slice A2 a2.length c2) a2) (hg0:∃ gt fr,M 0=some (.cells cz1 gt fr)) (hg1:∃ gt fr,M 1=some (.cells cz2 gt fr)): Con Tryz.prog 24 #[.agg (QF a0),.slice A1 a1.length c1,.slice A2 a2.length c2] M [] (fun v M' Γ'=>∃ (A0:Option Addr) (c0:Nat),v=.slice A0 r.length c0∧Γ'=[Rw Zz 61 A0 c0 r]):=by
 refine cwA Tryz.func24 J Tryz.ntmps24 Tryz.results24 J h ?_
 intro w F rn S hrn E HM H
 unfold Xu at H
 refine wsQ ?_
 refine Yz S (QF a0) J J J (eE2 E ?_)
 intro b1 w2 E S
 refine waL J (wnQ (wsQ (W_v (.agg (QF a0)) (Qi (S.blk 0 J) ty23 J (QG J) J J) J (wmL J (wmL J ?_)))))
 obtain ⟨t4,ht5,H⟩:=QO H
 rcases t4 with t6 | t7 | t8
 ·replace H:=elimL H
  refine Zy fn32 (Y8.con ht5 hr1 hr2 hg0 hg1) (Γ1:=[]) (Γ2:=[_]) S J J flN (eE4 E ?_)
  rintro _ w9 _ Γ' E S ⟨rfl,rfl⟩
  replace S:St w9 M F [_]:=S
  refine wmT J (W_v _ (QR J J) J (W_v _ (QR J J) J (W_v (.pointer none) (Zm J) J (waI J (wnQ (QH (wsQ (wmI J (wiB J J (wnQ (QC J (QH ?_))))))))))))
  refine QJ (waL J (wnQ ?_))
  refine QT ?_
  refine tr (?_)
  obtain rfl:=oi H
  replace S:=S.row_nil Zz 61
  exact ⟨_,_,_,rsA (vs:=[_]) J,HM,E,S.pk [0],⟨none,0,J,J⟩⟩
 ·replace H:=elimR H
  replace H:=elimL H
  refine Zy fn32 (Y8.con ht5 hr1 hr2 hg0 hg1) (Γ1:=[]) (Γ2:=[_]) S J J flN (eE4 E ?_)
  rintro _ w13 _ Γ' E S ⟨rfl,rfl⟩
  replace S:St w13 M F [_]:=S
  refine wmT J (W_v _ (QR J J) J (W_v _ (QR J J) J (W_v (.pointer none) (Zm J) J (waI J (wnQ (QH (wsQ (wmI J (wiB J J (wnQ (QC J (QH ?_))))))))))))
  refine QJ (waL J (wnQ ?_))
  refine QT ?_
  refine tr (?_)
  obtain rfl:=oi H
  replace S:=S.row_nil Zz 61
  exact ⟨_,_,_,rsA (vs:=[_]) J,HM,E,S.pk [0],⟨none,0,J,J⟩⟩
 ·replace H:=elimR H
  replace H:=elimR H
  refine Y2 fn32 (Y8.con ht5 hr1 hr2 hg0 hg1) (Γ1:=[]) (Γ2:=[_]) S J J ?_
  rintro _ w52 M53 Γ' hM54 E' S ⟨b17,A19,c20,b22,A24,c25,A27,c28,b30,A32,c33,A35,c36,A38,c39,A41,c42,vs44,A46,c47,A49,c50,rfl,hs21,hm45,rfl⟩
  replace HM:=Hp.le_trans HM hM54
  replace E:=E.trans E'
  replace S:St w52 M53 F [_,_,_,_,_,_,_,_,_,_,_,_]:=S
  refine wmT J (W_v _ (QR J J) J (W_v _ (QR J J) J (waP J (waI J (wnQ (QH (wsQ (wmI J (wiB J J (wnQ (QA J (QX ?_))))))))))))
  refine tn (wsQ (wmP J (W_v _ (Qb J) J (wfA Tryz.underlying85 ty58 J (wlA S 0 ty58 J (waL J (wnQ ?_)))))))
  refine QT ?_
  obtain rfl:=oi H
  exact ⟨_,_,_,rsA (vs:=[_]) J,HM,E,S.pk [9],⟨A46,c47,J,J⟩⟩
def XY (k:Nat) (a0:QI) (a1:(List (List QY))) (a2:(List QL)):Option ((Unit)⊕(Unit)⊕(QW)) :=
 (Option.bind (Y8 k a0 a1 a2) (fun t4=>(Sum.elim (fun t6=>some (Sum.inl ())) (Sum.elim (fun t7=>some (Sum.inr (Sum.inl ()))) (fun t8=>some (Sum.inr (Sum.inr t8.m))))) t4))
theorem XY.mono {k a0 a1 a2}: OLe (XY k a0 a1 a2) (XY (k+1) a0 a1 a2):=by
 unfold XY
 have m1:=@Y8.mono
 exact mo
theorem XY.con {k M} {a0:QI} {A1 c1} {a1:(List (List QY))} {A2 c2} {a2:(List QL)} {r:(Unit)⊕(Unit)⊕(QW)} (h:XY k a0 a1 a2=some r) (hr1:SlR (rSl Yk) M (.slice A1 a1.length c1) a1) (hr2:SlR Qs M (.slice A2 a2.length c2) a2) (hg0:∃ gt fr,M 0=some (.cells cz1 gt fr)) (hg1:∃ gt fr,M 1=some (.cells cz2 gt fr)): Con Tryz.prog 19 #[.agg (QF a0),.slice A1 a1.length c1,.slice A2 a2.length c2] M [] (fun v M' Γ'=>(Sum.elim (fun x=>v=.tuple cz21∧Γ'=[]) (Sum.elim (fun x=>v=.tuple cz22∧Γ'=[]) (fun x=>∃ (bq1:Nat) (Aq3:Option Addr) (cq4:Nat) (Aq6:Option Addr) (cq7:Nat) (Aq9:Option Addr) (cq10:Nat) (Aq12:Option Addr) (cq13:Nat) (vsq15:List (Str×Value)),v=.tuple #[pt bq1 0,vI 0]∧Xa Qx M' x.rows vsq15∧Γ'=[B96 bq1 x Aq3 Aq6 Aq9 cq10 Aq12,XC QM (Value.int .i64) Aq3 x.names,MpI Aq6 x.many,Rw Qe 134 Aq9 cq10 x.txs,MpV Aq12 vsq15]))) r):=by
 refine cwA Tryz.func19 J Tryz.ntmps19 Tryz.results19 J h ?_
 intro w F rn S hrn E HM H
 unfold XY at H
 refine wsQ ?_
 refine Yz S (QF a0) J J J (eE2 E ?_)
 intro b1 w2 E S
 refine W_v (.pointer none) (Zm J) J (waI J (wnQ (wsQ (W_v (.agg (QF a0)) (Qi (S.blk 0 J) ty23 J (QG J) J J) J (wmL J (wmL J ?_))))))
 obtain ⟨t4,ht5,H⟩:=QO H
 rcases t4 with t6 | t7 | t8
 ·replace H:=elimL H
  refine Zy fn32 (Y8.con ht5 hr1 hr2 hg0 hg1) (Γ1:=[]) (Γ2:=[_]) S J J flN (eE4 E ?_)
  rintro _ w9 _ Γ' E S ⟨rfl,rfl⟩
  replace S:St w9 M F [_]:=S
  refine wmT J (W_v _ (QR J J) J (W_v _ (QR J J) J (W_v (.pointer none) (Zm J) J (waI J (wnQ (QH (wsQ (wmI J (wiB J J (wnQ (QC J (QH ?_))))))))))))
  refine QJ (wmI J (W_v (.pointer none) (Zm J) J (waI J (wnQ ?_))))
  refine QT ?_
  refine tr (?_)
  obtain rfl:=oi H
  exact ⟨_,_,_,rsA (vs:=[_,_]) J,HM,E,S.pk [],⟨J,J⟩⟩
 ·replace H:=elimR H
  replace H:=elimL H
  refine Zy fn32 (Y8.con ht5 hr1 hr2 hg0 hg1) (Γ1:=[]) (Γ2:=[_]) S J J flN (eE4 E ?_)
  rintro _ w12 _ Γ' E S ⟨rfl,rfl⟩
  replace S:St w12 M F [_]:=S
  refine wmT J (W_v _ (QR J J) J (W_v _ (QR J J) J (W_v (.pointer none) (Zm J) J (waI J (wnQ (QH (wsQ (wmI J (wiB J J (wnQ (QC J (QH ?_))))))))))))
  refine QJ (wmI J (W_v (.pointer none) (Zm J) J (waI J (wnQ ?_))))
  refine QT ?_
  refine tr (?_)
  obtain rfl:=oi H
  exact ⟨_,_,_,rsA (vs:=[_,_]) J,HM,E,S.pk [],⟨J,J⟩⟩
 ·replace H:=elimR H
  replace H:=elimR H
  refine Y2 fn32 (Y8.con ht5 hr1 hr2 hg0 hg1) (Γ1:=[]) (Γ2:=[_]) S J J ?_
  rintro _ w50 M51 Γ' hM52 E' S ⟨b15,A17,c18,b20,A22,c23,A25,c26,b28,A30,c31,A33,c34,A36,c37,A39,c40,vs42,A44,c45,A47,c48,rfl,hs19,hm43,rfl⟩
  replace HM:=Hp.le_trans HM hM52
  replace E:=E.trans E'
  replace S:St w50 M51 F [_,_,_,_,_,_,_,_,_,_,_,_]:=S
  refine wmT J (W_v _ (QR J J) J (W_v _ (QR J J) J (waP J (waI J (wnQ (QH (wsQ (wmI J (wiB J J (wnQ (QA J (QX ?_))))))))))))
  refine tn (wsQ (wmP J (W_v _ (Qb J) J (wfA Tryz.underlying85 ty50 J (wlA S 0 ty50 J (waP J (waI J (wnQ ?_))))))))
  refine QT ?_
  obtain rfl:=oi H
  exact ⟨_,_,_,rsA (vs:=[_,_]) J,HM,E,S.pk [4,5,6,7,8],⟨b28,A30,c31,A33,c34,A36,c37,A39,c40,vs42,J,hm43,J⟩⟩
def ZP (a0:QW) (t1:(List Str)):Nat→Int→Int→Option ((Int))
 | 0,_,_=>none
 | k+1,x95,x96=>(if (decide (x96<(t1.length:Int)))=true then (if 0≤x96∧x96<(t1.length:Int) then ZP a0 t1 k (IntKind.i64.wrap (x95+(IntKind.i64.wrap (((((mget a0.rows (rd t1 x96)).getD cz19).l).length:Int)+(imin (1:Int) (((mget a0.rows (rd t1 x96)).getD cz19).intent.Writer)))))) (IntKind.i64.wrap (x96+(1:Int))) else none) else some (x95))
theorem ZP.mono {a0 t1}: ∀ {kl:Nat} {x0 x1},OLe (ZP a0 t1 kl x0 x1) (ZP a0 t1 (kl+1) x0 x1):=by
 intro kl
 induction kl with
 | zero=>intros;exact OLe.none
 | succ kl ih =>
  intros
  rw [ZP.eq_2,ZP.eq_2]
  exact mo
def ZK (k:Nat) (a0:QW):Option (Int) :=
 (Option.bind (ZS k a0) (fun t1=>(Option.bind (ZP a0 t1 k (0:Int) (0:Int)) (fun x138=>some x138))))
theorem ZK.mono {k a0}: OLe (ZK k a0) (ZK (k+1) a0):=by
 unfold ZK
 have m1:=@ZS.mono
 have m2:=@ZP.mono
 exact mo
theorem ZK.con {k M A0_8 A0_9 A0_10 c0_10 A0_11} {vs0_11:List (Str×Value)} {a0:QW} {bo0} {r:Int} (h:ZK k a0=some r) (hm0_11:Xa Qx M a0.rows vs0_11): Con Tryz.prog 20 #[pt bo0 0] M [B96 bo0 a0 A0_8 A0_9 A0_10 c0_10 A0_11,XC QM (Value.int .i64) A0_8 a0.names,MpI A0_9 a0.many,Rw Qe 134 A0_10 c0_10 a0.txs,MpV A0_11 vs0_11] (fun v M' Γ'=>v=vI r∧Γ'=[B96 bo0 a0 A0_8 A0_9 A0_10 c0_10 A0_11,XC QM (Value.int .i64) A0_8 a0.names,MpI A0_9 a0.many,Rw Qe 134 A0_10 c0_10 a0.txs,MpV A0_11 vs0_11]):=by
 refine cwA Tryz.func20 J Tryz.ntmps20 Tryz.results20 J h ?_
 intro w F rn S hrn E HM H
 unfold ZK at H
 refine wsQ (waI J (wnQ (wsQ (waI J (wnQ (QH (wsQ (wmP J ?_))))))))
 obtain ⟨t1,ht2,H⟩:=QO H
 refine Zy fn21 (ZS.con ht2 hm0_11) (Γ1:=[_,_,_,_,_]) (Γ2:=[]) S J J (by rintro _ _ _ ⟨_,_,rfl,rfl⟩;exact (QP (YX (fun _ _ _ _ h=>h)) (QP Zs (QP Zl (QP Zl (QP (YX (fun _ _ _ _ h=>h)) (QP Zl YE))))))) (eE4 E ?_)
 rintro _ w6 _ Γ' E S ⟨A3,c4,rfl,rfl⟩
 replace S:St w6 M F [_,_,_,_,_,_]:=S
 refine W_v _ (Qm (n:=t1.length) Tryz.underlying54 J) J (wmI J (wnQ ?_))
 obtain ⟨o139,o139h,o139H⟩:=QO H
 refine Zr (fun ρ w'=>∃ (x138:Int),(x138)=o139∧QV ρ [(3,vI x138)]∧Ext w w'∧St w' M F [B96 bo0 a0 A0_8 A0_9 A0_10 c0_10 A0_11,XC QM (Value.int .i64) A0_8 a0.names,MpI A0_9 a0.many,Rw Qe 134 A0_10 c0_10 a0.txs,MpV A0_11 vs0_11]) ?_ ?_
 ·refine Yr (fun n ρ w'=>∃ (x95:Int) (x96:Int),ZP a0 t1 n x95 x96=some o139∧QV ρ [(0,pt bo0 0),(3,vI x95),(7,.slice A3 t1.length c4),(8,vI (t1.length:Int)),(9,vI x96)]∧Ext w w'∧St w' M F [Rw rStr 9 A3 c4 t1,B96 bo0 a0 A0_8 A0_9 A0_10 c0_10 A0_11,XC QM (Value.int .i64) A0_8 a0.names,MpI A0_9 a0.many,Rw Qe 134 A0_10 c0_10 a0.txs,MpV A0_11 vs0_11]) k ?_ ?_
  ·exact ⟨(0:Int),(0:Int),o139h,agP J,E,S.pk [0,1,2,3,4,5]⟩
  ·intro n
   rintro ρ w140 ⟨x95,x96,H,hρ,E,S⟩
   rw [QB hρ]
   cases n with
   | zero=>cases H
   | succ k =>
    rw [ZP.eq_2] at H
    refine wsQ (wiB J J (wnQ (QH ?_)))
    rcases Q3 H with ⟨hb141,H⟩ | ⟨hb141,H⟩
    ·refine QC (cB hb141) ?_
     refine QX (tn (QH ?_))
     refine ZW ?_
     refine wsQ ?_
     obtain ⟨⟨p142,p143⟩,H⟩:=Z8 H
     obtain ⟨b144,o145,cs146,_,_,ee151,hb147,vs148,hR149,hc150⟩:=SlW.at' (S.row_read 0 J) p142 p143
     obtain rfl:vs148=_:=hR149
     refine W_v _ (QS Tryz.underlying54 ty9 (slA ee151) J p142 p143) J (W_v _ (Z0 (Hp.of_get hb147) ty9 J (hc150 0 _ J)) J (waS J (wnQ ?_)))
     refine rgA S [0,1,2,3,4,5] [_,_,_,_,_,_] 21 mixed J (eE1 E ?_)
     intro w166 E S D1
     refine tz0 0 J D1 (xmI J) (tz0 1 J D1 (xmP J) (tz0 2 J D1 (Qb J) (tz0 3 J D1 (xfA Tryz.underlying96 ty94 J) (tz1 4 J D1 (fun w' h'=>xlA h' 1 ty94 J) (tz0 5 J D1 (xmS J) ?_)))))
     obtain ⟨cs168,hR169,he170⟩:=hm0_11.get (rd t1 x96) (z:=cz19) (zc:=[.slice none 0 0,vI 0,vI 0,.bool false,vS ([]:Str)]) ⟨_,SlW.nil _ _,J⟩
     obtain ⟨v174,hs173,rfl⟩:=hR169
     obtain ⟨A171,c172,rfl,_⟩:=hs173.form
     refine Wt 6 J J J (.agg #[.slice A171 (((mget a0.rows (rd t1 x96)).getD cz19).l).length c172,vI (((mget a0.rows (rd t1 x96)).getD cz19).intent.Writer),vI (((mget a0.rows (rd t1 x96)).getD cz19).intent.TS),.bool (((mget a0.rows (rd t1 x96)).getD cz19).intent.Tomb),vS (((mget a0.rows (rd t1 x96)).getD cz19).intent.Value)]) J (fun w' h'=>Exists.elim h' fun Mx h9=>(Eq.trans (Vn h9.2 5 J Tryz.underlying94 key9 (Value.agg cz12) (fun _=>ty90.zero) (rd t1 x96) J J) (by rw [show (mget vs0_11 (rd t1 x96)).getD (Value.agg cz12)=_ from he170]))) D1 (Wt 7 rfl rfl rfl (.slice A171 (((mget a0.rows (rd t1 x96)).getD cz19).l).length c172) rfl (fun w' h'=>qJ Tryz.underlying90 rfl rfl ty86 rfl) D1 (Wt 8 rfl rfl rfl (vI ((((mget a0.rows (rd t1 x96)).getD cz19).l).length:Int)) rfl (fun w' h'=>Qm (n:=(((mget a0.rows (rd t1 x96)).getD cz19).l).length) Tryz.underlying86 rfl) D1 (Wt 9 rfl rfl rfl (pt bo0 0) rfl (fun w' h'=>YW rfl) D1 (Wt 10 rfl rfl rfl (pt bo0 0) rfl (fun w' h'=>Qb rfl) D1 (Wt 11 rfl rfl rfl (pt bo0 11) rfl (fun w' h'=>X2 (o:=0) (off:=11) Tryz.underlying96 rfl ty94 rfl rfl) D1 (Wt 12 rfl rfl rfl (.map (mb A0_11)) rfl (fun w' h'=>Z0 (Y1 h' 1 rfl) ty94 rfl rfl) D1 (Wt 13 rfl rfl rfl (vS (rd t1 x96)) rfl (fun w' h'=>YW rfl) D1 ?_)))))))
     obtain ⟨cs175,hR176,he177⟩:=hm0_11.get (rd t1 x96) (z:=cz19) (zc:=[.slice none 0 0,vI 0,vI 0,.bool false,vS ([]:Str)]) ⟨_,SlW.nil _ _,J⟩
     obtain ⟨v181,hs180,rfl⟩:=hR176
     obtain ⟨A178,c179,rfl,_⟩:=hs180.form
     refine Wt 14 J J J (.agg #[.slice A178 (((mget a0.rows (rd t1 x96)).getD cz19).l).length c179,vI (((mget a0.rows (rd t1 x96)).getD cz19).intent.Writer),vI (((mget a0.rows (rd t1 x96)).getD cz19).intent.TS),.bool (((mget a0.rows (rd t1 x96)).getD cz19).intent.Tomb),vS (((mget a0.rows (rd t1 x96)).getD cz19).intent.Value)]) J (fun w' h'=>Exists.elim h' fun Mx h9=>(Eq.trans (Vn h9.2 5 J Tryz.underlying94 key9 (Value.agg cz12) (fun _=>ty90.zero) (rd t1 x96) J J) (by rw [show (mget vs0_11 (rd t1 x96)).getD (Value.agg cz12)=_ from he177]))) D1 (Wt 15 rfl rfl rfl (.agg (Y4 ((mget a0.rows (rd t1 x96)).getD cz19).intent)) rfl (fun w' h'=>Ks Tryz.underlying90 rfl rfl ty88 rfl) D1 (Wt 16 rfl rfl rfl (vI (((mget a0.rows (rd t1 x96)).getD cz19).intent.Writer)) rfl (fun w' h'=>qJ Tryz.underlying88 rfl rfl ty3 rfl) D1 (Wt 17 rfl rfl rfl (vI (imin (1:Int) (((mget a0.rows (rd t1 x96)).getD cz19).intent.Writer))) rfl (fun w' h'=>UD rfl rfl) D1 (Wt 18 rfl rfl rfl (vI (IntKind.i64.wrap (((((mget a0.rows (rd t1 x96)).getD cz19).l).length:Int)+(imin (1:Int) (((mget a0.rows (rd t1 x96)).getD cz19).intent.Writer))))) rfl (fun w' h'=>UW rfl rfl rfl rfl) D1 (Wt 19 rfl rfl rfl (vI (IntKind.i64.wrap (x95+(IntKind.i64.wrap (((((mget a0.rows (rd t1 x96)).getD cz19).l).length:Int)+(imin (1:Int) (((mget a0.rows (rd t1 x96)).getD cz19).intent.Writer))))))) rfl (fun w' h'=>UW rfl rfl rfl rfl) D1 (Wt 20 rfl rfl rfl (vI (IntKind.i64.wrap (x95+(IntKind.i64.wrap (((((mget a0.rows (rd t1 x96)).getD cz19).l).length:Int)+(imin (1:Int) (((mget a0.rows (rd t1 x96)).getD cz19).intent.Writer))))))) rfl (fun w' h'=>Zm rfl) D1 ?_))))))
     refine Wz ?_
     refine bn (tn (QJ (wiI J J (wmI J (wnQ ?_)))))
     exact ⟨k,Nat.lt_succ_self k,⟨(IntKind.i64.wrap (x95+(IntKind.i64.wrap (((((mget a0.rows (rd t1 x96)).getD cz19).l).length:Int)+(imin (1:Int) (((mget a0.rows (rd t1 x96)).getD cz19).intent.Writer)))))),(IntKind.i64.wrap (x96+(1:Int))),H,agP J,E,S.pk [0,1,2,3,4,5]⟩⟩
    refine QA (cB hb141) ?_
    refine YZ ?_
    refine tx (tx (bsm (?_)))
    refine tn ?_
    exact ⟨x95,oi H,agP J,E,S.pk [1,2,3,4,5]⟩
 rintro ρ w182 ⟨x138,rfl,hρ,E,S⟩
 rw [QB hρ]
 have H:=o139H
 refine tn ?_
 as_aux_lemma =>
 refine wsQ (wmI J (waI J (wnQ ?_)))
 refine QT ?_
 obtain rfl:=oi H
 exact ⟨_,_,_,rsA (vs:=[_]) J,HM,E,S.pk [0,1,2,3,4],⟨J,J⟩⟩
def Xi (k:Nat) (a0:QY) (a1:Int) (ac_0:QI):Option (Int×Int) :=
 (Option.bind (α:=Bool) (if (a0.Kind==(3:Int))=true then some ((a0.Kind==(3:Int))) else some ((a0.Kind==(4:Int)))) (fun x6=>(if x6=true then some ((2:Int),(1:Int)) else (if (a0.Kind==(9:Int))=true then some ((IntKind.i64.wrap (ac_0.Depth+(1:Int))),(0:Int)) else some (a1,a1)))))
theorem Xi.mono {k a0 a1 ac_0}: OLe (Xi k a0 a1 ac_0) (Xi (k+1) a0 a1 ac_0):=by
 unfold Xi
 exact mo
theorem Xi.con {k M} {a0:QY} {a1:Int} {ac_0:QI} {bc_0} {r:Int×Int} (h:Xi k a0 a1 ac_0=some r): Con Tryz.prog 23 #[.agg (Qo a0),vI a1,pt bc_0 0] M [B23 bc_0 ac_0] (fun v M' Γ'=>v=.tuple #[vI r.1,vI r.2]∧Γ'=[B23 bc_0 ac_0]):=by
 refine cwA Tryz.func23 J Tryz.ntmps23 Tryz.results23 J h ?_
 intro w F rn S hrn E HM H
 unfold Xi at H
 refine wsQ ?_
 refine Yz S (Qo a0) J J J (eE2 E ?_)
 intro b1 w2 E S
 refine waI J (waI J (wnQ (QH (wsQ (wfA Tryz.underlying43 ty5 J (wlA S 0 ty5 J (wnQ ?_)))))))
 refine ZW ?_
 refine QH (wsQ (wiB J J (waB J (wnQ ?_))))
 obtain ⟨o7,o7h,o7H⟩:=QO H
 refine Yc (fun ρ w'=>∃ (x6:Bool),(x6)=o7∧QV ρ [(1,vI a1),(2,pt bc_0 0),(8,vU a0.Kind),(9,.bool x6)]∧Ext w w'∧St w' M F [B23 bc_0 ac_0]) ?_ ?_
 ·clear o7H
  have H:=o7h
  rcases Q3 H with ⟨hb8,H⟩ | ⟨hb8,H⟩
  ·refine QC (cB hb8) ?_
   refine QX (tn ?_)
   exact ⟨(a0.Kind==(3:Int)),oi H,agP J,E,S.pk [1]⟩
  refine QA (cB hb8) (QJ (wiB J J (waB J (wnQ ?_))))
  exact ⟨(a0.Kind==(4:Int)),oi H,agP J,E,S.pk [1]⟩
 as_aux_lemma =>
 rintro ρ w9 ⟨x6,rfl,hρ,E,S⟩
 rw [QB hρ]
 have H:=o7H
 refine tn ?_
 rcases Q3 H with ⟨hb10,H⟩ | ⟨hb10,H⟩
 ·refine QC (cB hb10) ?_
  refine wsQ (waI J (waI J (wnQ ?_)))
  refine QT ?_
  refine br (tr (?_))
  obtain rfl:=oi H
  exact ⟨_,_,_,rsA (vs:=[_,_]) J,HM,E,S.pk [0],⟨J,J⟩⟩
 refine QA (cB hb10) (wsQ (wiB J J (waB J (wnQ ?_))))
 rcases Q3 H with ⟨hb11,H⟩ | ⟨hb11,H⟩
 ·refine QC (cB hb11) ?_
  refine wsQ (wfA Tryz.underlying23 ty3 J (wlA S 0 ty3 J (wiI J J (waI J (waI J (wnQ ?_))))))
  refine QT ?_
  refine br (tr (?_))
  obtain rfl:=oi H
  exact ⟨_,_,_,rsA (vs:=[_,_]) J,HM,E,S.pk [0],⟨J,J⟩⟩
 refine QA (cB hb11) (QX (bn (tn (wsQ (wmI J (wmI J (waI J (waI J (wnQ ?_)))))))))
 refine QT ?_
 obtain rfl:=oi H
 exact ⟨_,_,_,rsA (vs:=[_,_]) J,HM,E,S.pk [0],⟨J,J⟩⟩
def Xp (a0:QI) (a1:(List (List QY))) (t73:(List ZX)):Nat→Int→Int→Int→QW→Option ((Int×Int))
 | 0,_,_,_,_=>none
 | k+1,x1207,x1208,x1209,x1210=>(if (decide (x1209<(t73.length:Int)))=true then (Option.bind (α:=Int×Int×QW) (if 0≤x1209∧x1209<(t73.length:Int) then (if 0≤(rd t73 x1209).Task∧(rd t73 x1209).Task<(a1.length:Int) then (if 0≤(rd t73 x1209).Call∧(rd t73 x1209).Call<((rd a1 ((rd t73 x1209).Task)).length:Int) then (Option.bind (α:=Int) (Option.bind (ZK k x1210) (fun t2218=>some (t2218))) (fun x2217=>(Option.bind (YD k x1210 ((rd t73 x1209).Task) (rd (rd a1 ((rd t73 x1209).Task)) ((rd t73 x1209).Call))) (fun t2267=>(Option.bind (ZK k t2267.2) (fun t2301=>(Option.bind (Xi k (rd (rd a1 ((rd t73 x1209).Task)) ((rd t73 x1209).Call)) (imax (0:Int) (IntKind.i64.wrap (x2217-t2301))) a0) (fun t2306=>(Option.bind (α:=Int×Int) (if (decide ((rd t73 x1209).Back<(0:Int)))=true then some ((IntKind.i64.wrap (x1207+t2306.1)),(IntKind.i64.wrap (x1208+t2306.2))) else some (x1207,x1208)) (fun ⟨x2313,x2314⟩=>some (x2313,x2314,t2267.2))))))))))) else none) else none) else none) (fun ⟨x2038,x2039,x2040⟩=>Xp a0 a1 t73 k x2038 x2039 (IntKind.i64.wrap (x1209+(1:Int))) x2040)) else some (x1207,x1208))
theorem Xp.mono {a0 a1 t73}: ∀ {kl:Nat} {x0 x1 x2 x3},OLe (Xp a0 a1 t73 kl x0 x1 x2 x3) (Xp a0 a1 t73 (kl+1) x0 x1 x2 x3):=by
 intro kl
 induction kl with
 | zero=>intros;exact OLe.none
 | succ kl ih =>
  intros
  rw [Xp.eq_2,Xp.eq_2]
  have m1:=@YD.mono
  have m2:=@ZK.mono
  have m3:=@Xi.mono
  exact mo
def VO (k:Nat) (a0:QI) (a1:(List (List QY))) (a2:(List QL)):Option (Int×Int×Int) :=
 (Option.bind (XY k a0 a1 a2) (fun t4=>(Sum.elim (fun t6=>some ((0:Int),(0:Int),(1:Int))) (Sum.elim (fun t7=>some ((0:Int),(0:Int),(4:Int))) (fun t8=>(Option.bind (ZK k t8) (fun t34=>(Option.bind (ZS k t8) (fun t39=>(Option.bind (XB k a0) (fun t47=>(Sum.elim (fun t49=>some ((0:Int),(0:Int),(1:Int))) (fun t50=>(Option.bind (Xu k a0 a1 a2) (fun t73=>(Option.bind (Xp a0 a1 t73 k t34 (t39.length:Int) (0:Int) t50) (fun ⟨x1770,x1771⟩=>some (x1770,x1771,(0:Int)))))))) t47))))))))) t4))
theorem VO.mono {k a0 a1 a2}: OLe (VO k a0 a1 a2) (VO (k+1) a0 a1 a2):=by
 unfold VO
 have m1:=@ZS.mono
 have m2:=@ZK.mono
 have m3:=@XB.mono
 have m4:=@Xu.mono
 have m5:=@XY.mono
 have m6:=@Xp.mono
 exact mo
theorem VO.con {k M} {a0:QI} {A1 c1} {a1:(List (List QY))} {A2 c2} {a2:(List QL)} {r:Int×Int×Int} (h:VO k a0 a1 a2=some r) (hr1:SlR (rSl Yk) M (.slice A1 a1.length c1) a1) (hr2:SlR Qs M (.slice A2 a2.length c2) a2) (hg0:∃ gt fr,M 0=some (.cells cz1 gt fr)) (hg1:∃ gt fr,M 1=some (.cells cz2 gt fr)): Con Tryz.prog 8 #[.agg (QF a0),.slice A1 a1.length c1,.slice A2 a2.length c2] M [] (fun v M' Γ'=>v=.tuple #[vI r.1,vI r.2.1,vI r.2.2]∧Γ'=[]):=by
 refine cwA Tryz.func8 J Tryz.ntmps8 Tryz.results8 J h ?_
 intro w F rn S hrn E HM H
 unfold VO at H
 refine wsQ ?_
 refine Yz S (QF a0) J J J (eE2 E ?_)
 intro b1 w2 E S
 refine waI J (waI J (waI J (wnQ (wsQ (W_v (.agg (QF a0)) (Qi (S.blk 0 J) ty23 J (QG J) J J) J (wmL J (wmL J ?_)))))))
 obtain ⟨t4,ht5,H⟩:=QO H
 rcases t4 with t6 | t7 | t8
 ·replace H:=elimL H
  refine Zy fn19 (XY.con ht5 hr1 hr2 hg0 hg1) (Γ1:=[]) (Γ2:=[_]) S J J flN (eE4 E ?_)
  rintro _ w9 _ Γ' E S ⟨rfl,rfl⟩
  replace S:St w9 M F [_]:=S
  refine wmT J (W_v _ (QR J J) J (W_v _ (QR J J) J (W_v (.pointer none) (Zm J) J (waI J (wnQ (QH (wsQ (wmI J (wiB J J (wnQ (QC J (QH ?_))))))))))))
  refine QJ (wmI J (waI J (waI J (waI J (wnQ ?_)))))
  refine QT ?_
  refine tr (?_)
  obtain rfl:=oi H
  exact ⟨_,_,_,rsA (vs:=[_,_,_]) J,HM,E,S.pk [],⟨J,J⟩⟩
 ·replace H:=elimR H
  replace H:=elimL H
  refine Zy fn19 (XY.con ht5 hr1 hr2 hg0 hg1) (Γ1:=[]) (Γ2:=[_]) S J J flN (eE4 E ?_)
  rintro _ w12 _ Γ' E S ⟨rfl,rfl⟩
  replace S:St w12 M F [_]:=S
  refine wmT J (W_v _ (QR J J) J (W_v _ (QR J J) J (W_v (.pointer none) (Zm J) J (waI J (wnQ (QH (wsQ (wmI J (wiB J J (wnQ (QC J (QH ?_))))))))))))
  refine QJ (wmI J (waI J (waI J (waI J (wnQ ?_)))))
  refine QT ?_
  refine tr (?_)
  obtain rfl:=oi H
  exact ⟨_,_,_,rsA (vs:=[_,_,_]) J,HM,E,S.pk [],⟨J,J⟩⟩
 ·replace H:=elimR H
  replace H:=elimR H
  refine Y2 fn19 (XY.con ht5 hr1 hr2 hg0 hg1) (Γ1:=[]) (Γ2:=[_]) S J J ?_
  rintro _ w31 M32 Γ' hM33 E' S ⟨b15,A17,c18,A20,c21,A23,c24,A26,c27,vs29,rfl,hm30,rfl⟩
  replace hg0:=gup hg0 hM33
  replace hg1:=gup hg1 hM33
  replace HM:=Hp.le_trans HM hM33
  replace hr1:=SlR.mono hr1 hM33
  replace hr2:=SlR.mono hr2 hM33
  replace E:=E.trans E'
  replace S:St w31 M32 F [_,_,_,_,_,_]:=S
  refine wmT J (W_v _ (QR J J) J (W_v _ (QR J J) J (waP J (waI J (wnQ (QH (wsQ (wmI J (wiB J J (wnQ (QA J (QX ?_))))))))))))
  refine tn (wsQ (wmP J ?_))
  obtain ⟨t34,ht35,H⟩:=QO H
  refine Zy fn20 (ZK.con ht35 hm30) (Γ1:=[_,_,_,_,_]) (Γ2:=[_]) S J J (by rintro _ _ _ ⟨rfl,rfl⟩;exact (QP Zs (QP Zl (QP Zl (QP (YX (fun _ _ _ _ h=>h)) (QP Zl YE)))))) (eE4 E ?_)
  rintro _ w36 _ Γ' E S ⟨rfl,rfl⟩
  replace S:St w36 M32 F [_,_,_,_,_,_]:=S
  refine wmP J ?_
  obtain ⟨t39,ht40,H⟩:=QO H
  refine Zy fn21 (ZS.con ht40 hm30) (Γ1:=[_,_,_,_,_]) (Γ2:=[_]) S J J (by rintro _ _ _ ⟨_,_,rfl,rfl⟩;exact (QP (YX (fun _ _ _ _ h=>h)) (QP Zs (QP Zl (QP Zl (QP (YX (fun _ _ _ _ h=>h)) (QP Zl YE))))))) (eE4 E ?_)
  rintro _ w44 _ Γ' E S ⟨A41,c42,rfl,rfl⟩
  replace S:St w44 M32 F [_,_,_,_,_,_,_]:=S
  refine W_v _ (Qm (n:=t39.length) Tryz.underlying54 J) J (waI J (waI J (wnQ (wsQ (W_v (.agg (QF a0)) (Qi (S.blk 6 J) ty23 J (QG J) J J) J ?_)))))
  obtain ⟨t47,ht48,H⟩:=QO H
  rcases t47 with t49 | t50
  ·replace H:=elimL H
   refine Zy fn22 (XB.con ht48) (Γ1:=[]) (Γ2:=[_,_,_,_,_,_,_]) S J J flN (eE4 E ?_)
   rintro _ w51 _ Γ' E S ⟨rfl,rfl⟩
   replace S:St w51 M32 F [_,_,_,_,_,_,_]:=S
   refine wmT J (W_v _ (QR J J) J (W_v _ (QR J J) J (W_v (.pointer none) (Zm J) J (waI J (wnQ (QH (wsQ (wmI J (wiB J J (wnQ (QC J (QH ?_))))))))))))
   refine QJ (wmI J (waI J (waI J (waI J (wnQ ?_)))))
   refine QT ?_
   refine tr (?_)
   obtain rfl:=oi H
   exact ⟨_,_,_,rsA (vs:=[_,_,_]) J,HM,E,S.pk [],⟨J,J⟩⟩
  ·replace H:=elimR H
   refine Y2 fn22 (XB.con ht48) (Γ1:=[]) (Γ2:=[_,_,_,_,_,_,_]) S J J ?_
   rintro _ w70 M71 Γ' hM72 E' S ⟨b54,A56,c57,A59,c60,A62,c63,A65,c66,vs68,rfl,hm69,rfl⟩
   replace hg0:=gup hg0 hM72
   replace hg1:=gup hg1 hM72
   replace HM:=Hp.le_trans HM hM72
   replace hr1:=SlR.mono hr1 hM72
   replace hr2:=SlR.mono hr2 hM72
   replace E:=E.trans E'
   replace S:St w70 M71 F [_,_,_,_,_,_,_,_,_,_,_,_]:=S
   refine wmT J (W_v _ (QR J J) J (W_v _ (QR J J) J (waP J (waI J (wnQ (QH (wsQ (wmI J (wiB J J (wnQ (QA J (QX ?_))))))))))))
   refine tn (wsQ (W_v (.func (.func 23) #[] #[pt b1 0]) (Vc J) J (W_v (.func (.func 23) #[] #[pt b1 0]) (Zm J) J (wnQ (QH (wsQ (W_v (.agg (QF a0)) (Qi (S.blk 11 J) ty23 J (QG J) J J) J (wmL J (wmL J ?_)))))))))
   obtain ⟨t73,ht74,H⟩:=QO H
   refine Y2 fn24 (Xu.con ht74 hr1 hr2 hg0 hg1) (Γ1:=[]) (Γ2:=[_,_,_,_,_,_,_,_,_,_,_,_]) S J J ?_
   rintro _ w78 M79 Γ' hM80 E' S ⟨A75,c76,rfl,rfl⟩
   replace hg0:=gup hg0 hM80
   replace hg1:=gup hg1 hM80
   replace HM:=Hp.le_trans HM hM80
   replace hr1:=SlR.mono hr1 hM80
   replace hm69:=Xa.mono hm69 hM80
   replace E:=E.trans E'
   refine W_v _ (Qm (n:=t73.length) Tryz.underlying58 J) J (wmI J (wnQ ?_))
   obtain ⟨o1772,o1772h,o1772H⟩:=QO H
   refine Zr (fun ρ w'=>∃ (x1770:Int) (x1771:Int) (Mj:Hp),(x1770,x1771)=o1772∧QV ρ [(6,vI x1770),(7,vI x1771)]∧M79.le Mj∧Ext w w'∧St w' Mj F []) ?_ ?_
   ·refine Yr (fun n ρ w'=>∃ (x1207:Int) (x1208:Int) (x1209:Int) (x1210:QW) (A1211:Option Addr) (c1212:Nat) (A1214:Option Addr) (c1215:Nat) (A1217:Option Addr) (c1218:Nat) (A1220:Option Addr) (c1221:Nat) (vs1223:List (Str×Value)) (Mj:Hp),Xp a0 a1 t73 n x1207 x1208 x1209 x1210=some o1772∧QV ρ [(1,.slice A1 a1.length c1),(6,vI x1207),(7,vI x1208),(10,pt b54 0),(11,.func (.func 23) #[] #[pt b1 0]),(45,.slice A75 t73.length c76),(46,vI (t73.length:Int)),(47,vI x1209)]∧M79.le Mj∧Ext w w'∧St w' Mj F [MpV A1220 vs1223,Rw Qe 134 A1217 c1218 x1210.txs,MpI A1214 x1210.many,XC QM (Value.int .i64) A1211 x1210.names,Rw Zz 61 A75 c76 t73,B96 b54 x1210 A1211 A1214 A1217 c1218 A1220,B23 b1 a0]∧Xa Qx Mj x1210.rows vs1223) k ?_ ?_
    ·exact ⟨t34,(t39.length:Int),(0:Int),t50,A56,c57,A59,c60,A62,c63,A65,c66,vs68,M79,o1772h,agP J,(Hp.le_refl M79),E,S.pk [5,4,3,2,0,1,12],hm69⟩
    ·intro n
     rintro ρ w1773 ⟨x1207,x1208,x1209,x1210,A1211,c1212,A1214,c1215,A1217,c1218,A1220,c1221,vs1223,M1774,H,hρ,hM1775,E,S,hm1224⟩
     rw [QB hρ]
     replace hg0:=gup hg0 hM1775
     replace hg1:=gup hg1 hM1775
     replace HM:=Hp.le_trans HM hM1775
     replace hr1:=SlR.mono hr1 hM1775
     cases n with
     | zero=>cases H
     | succ k =>
      rw [Xp.eq_2] at H
      refine wsQ (wiB J J (wnQ (QH ?_)))
      rcases Q3 H with ⟨hb1776,H⟩ | ⟨hb1776,H⟩
      ·refine QC (cB hb1776) ?_
       refine QX (tn (QH ?_))
       obtain ⟨o2055,o2055h,o2055H⟩:=QO H
       refine Yc (fun ρ w'=>∃ (x2038:Int) (x2039:Int) (x2040:QW) (A2041:Option Addr) (c2042:Nat) (A2044:Option Addr) (c2045:Nat) (A2047:Option Addr) (c2048:Nat) (A2050:Option Addr) (c2051:Nat) (vs2053:List (Str×Value)) (Mj:Hp),(x2038,x2039,x2040)=o2055∧QV ρ [(1,.slice A1 a1.length c1),(6,vI x2038),(7,vI x2039),(10,pt b54 0),(11,.func (.func 23) #[] #[pt b1 0]),(45,.slice A75 t73.length c76),(46,vI (t73.length:Int)),(47,vI x1209)]∧M1774.le Mj∧Ext w w'∧St w' Mj F [MpV A2050 vs2053,Rw Qe 134 A2047 c2048 x2040.txs,MpI A2044 x2040.many,XC QM (Value.int .i64) A2041 x2040.names,B23 b1 a0,B96 b54 x2040 A2041 A2044 A2047 c2048 A2050,Rw Zz 61 A75 c76 t73]∧Xa Qx Mj x2040.rows vs2053) ?_ ?_
       ·as_aux_lemma =>
         clear o2055H
         have H:=o2055h
         have LE2056:=Hp.le_refl M1774
         refine ZW ?_
         refine wsQ ?_
         obtain ⟨⟨p2057,p2058⟩,H⟩:=Z8 H
         obtain ⟨b2059,o2060,cs2061,_,_,ee2066,hb2062,vs2063,hR2064,hc2065⟩:=SlW.at' (S.row_read 4 J) p2057 p2058
         obtain ⟨v2070,hs2069,rfl⟩:=hR2064
         obtain ⟨A2067,c2068,rfl,_⟩:=hs2069.form
         refine W_v _ (QS Tryz.underlying58 ty61 (slA ee2066) J p2057 p2058) J (W_v (.agg #[vI ((rd t73 x1209).Task),vI ((rd t73 x1209).Call),vI ((rd t73 x1209).Answer.Err),.bool ((rd t73 x1209).Answer.Found),vS ((rd t73 x1209).Answer.Value),.slice A2067 ((rd t73 x1209).Answer.Pairs).length c2068,vI ((rd t73 x1209).Mark),vI ((rd t73 x1209).Back)]) (Qi (Hp.of_get hb2062) ty61 J (X1 hc2065 0 J) J J) J ?_)
         refine YN S cz4 ty61 J J (eE2 E ?_)
         intro b2071 w2072 E S
         refine Qu S 0 J ty61 J J [vI ((rd t73 x1209).Task),vI ((rd t73 x1209).Call),vI ((rd t73 x1209).Answer.Err),.bool ((rd t73 x1209).Answer.Found),vS ((rd t73 x1209).Answer.Value),.slice A2067 ((rd t73 x1209).Answer.Pairs).length c2068,vI ((rd t73 x1209).Mark),vI ((rd t73 x1209).Back)] J J J #[vI ((rd t73 x1209).Task),vI ((rd t73 x1209).Call),vI ((rd t73 x1209).Answer.Err),.bool ((rd t73 x1209).Answer.Found),vS ((rd t73 x1209).Answer.Value),.slice A2067 ((rd t73 x1209).Answer.Pairs).length c2068,vI ((rd t73 x1209).Mark),vI ((rd t73 x1209).Back)] (by as_aux_lemma=>kernel_rfl) J (eE1 E ?_)
         intro w2074 E S
         refine wnQ (QH ?_)
         refine rgA S [0,1,2,3,4,5,6,7] [_,_,_,_,_,_,_,_] 12 mixed J (eE1 E ?_)
         intro w2170 E S D1
         refine tz0 0 J D1 (xmL J) (tz0 1 J D1 (xfA Tryz.underlying61 ty3 J) (tz1 2 J D1 (fun w' h'=>xlA h' 0 ty3 J) ?_))
         obtain ⟨⟨p2172,p2173⟩,H⟩:=Z8 H
         obtain ⟨b2174,o2175,cs2176,_,_,ee2181,hb2177,vs2178,hR2179,hc2180⟩:=SlW.at' hr1 p2172 p2173
         obtain ⟨v2185,hs2184,rfl⟩:=hR2179
         obtain ⟨A2182,c2183,rfl,_⟩:=hs2184.form
         have hs2184z:=hs2184
         refine tz0 3 J D1 (QS Tryz.underlying24 ty41 (slA ee2181) J p2172 p2173) (tz1 4 J D1 (fun w' h'=>Z0 (Yj h' hb2177) ty41 J (hc2180 0 _ J)) (tz0 5 J D1 (xfA Tryz.underlying61 ty3 J) (tz1 6 J D1 (fun w' h'=>xlA h' 0 ty3 J) ?_)))
         obtain ⟨⟨p2186,p2187⟩,H⟩:=Z8 H
         obtain ⟨b2188,o2189,cs2190,_,_,ee2195,hb2191,vs2192,hR2193,hc2194⟩:=SlW.at' hs2184z p2186 p2187
         obtain rfl:vs2192=_:=hR2193
         refine tz0 7 J D1 (QS Tryz.underlying41 ty43 (slA ee2195) J p2186 p2187) (Wt 8 J J J (.agg (Qo (rd (rd a1 ((rd t73 x1209).Task)) ((rd t73 x1209).Call)))) J (fun w' h'=>Qi (Yj h' hb2191) ty43 J (X1 hc2194 0 J) J J) D1 (tz0 9 J D1 (xmP J) ?_))
         obtain ⟨o2242,o2242h,o2242H⟩:=QO H
         refine YB (fun ρ w'=>∃ (x2217:Int) (b2215:Nat),(x2217)=o2242∧QV ρ [(1,.slice A1 a1.length c1),(6,vI x1207),(7,vI x1208),(10,pt b54 0),(11,.func (.func 23) #[] #[pt b1 0]),(13,pt b2071 0),(14,pt b2215 0),(45,.slice A75 t73.length c76),(46,vI (t73.length:Int)),(47,vI x1209),(59,.agg (Qo (rd (rd a1 ((rd t73 x1209).Task)) ((rd t73 x1209).Call)))),(61,vI x2217)]∧Ext w w'∧St w' M1774 F [Blk b2215 (.cells cz5 43 (0,0)),B96 b54 x1210 A1211 A1214 A1217 c1218 A1220,XC QM (Value.int .i64) A1211 x1210.names,MpI A1214 x1210.many,Rw Qe 134 A1217 c1218 x1210.txs,MpV A1220 vs1223,B61 b2071 (rd t73 x1209) A2067 c2068,Rw Zz 61 A75 c76 t73,B23 b1 a0]) 2 (Ls 14 [0,1,2,3,4,5,6,7,8,9,10,11]) ?_ ?_
         rotate_left
         ·intro hq2246
          refine YB (fun ρ w'=>∃ (b2208:Nat),(Option.bind (ZK k x1210) (fun t2237=>some (t2237)))=some o2242∧QV ρ [(1,.slice A1 a1.length c1),(6,vI x1207),(7,vI x1208),(10,pt b54 0),(11,.func (.func 23) #[] #[pt b1 0]),(13,pt b2071 0),(14,pt b2208 0),(45,.slice A75 t73.length c76),(46,vI (t73.length:Int)),(47,vI x1209),(59,.agg (Qo (rd (rd a1 ((rd t73 x1209).Task)) ((rd t73 x1209).Call)))),(60,pt b54 0)]∧Ext w w'∧St w' M1774 F [Blk b2208 (.cells cz5 43 (0,0)),B61 b2071 (rd t73 x1209) A2067 c2068,MpV A1220 vs1223,Rw Qe 134 A1217 c1218 x1210.txs,MpI A1214 x1210.many,XC QM (Value.int .i64) A1211 x1210.names,Rw Zz 61 A75 c76 t73,B96 b54 x1210 A1211 A1214 A1217 c1218 A1220,B23 b1 a0]) 3 (Ls 14 [0,1,2,3,4,5,6,7,8,9,11]) ?_ ?_
          ·clear o2242h
           rintro ρ w2247 ⟨b2208,H,hρ,E,S⟩
           rw [QB hρ]
           refine Wo 10 J ?_
           obtain ⟨t2248,ht2249,H⟩:=QO H
           replace S:St w2247 M1774 F [_,_,_,_,_,_,_,_,_]:=S.pk [7,5,4,3,2,0,1,6,8]
           refine Zy fn20 (ZK.con ht2249 hm1224) (Γ1:=[_,_,_,_,_]) (Γ2:=[_,_,_,_]) S J J (by rintro _ _ _ ⟨rfl,rfl⟩;exact (QP Zs (QP Zl (QP Zl (QP (YX (fun _ _ _ _ h=>h)) (QP Zl YE)))))) (eE4 E ?_)
           rintro _ w2250 _ Γ' E S ⟨rfl,rfl⟩
           replace S:St w2250 M1774 F [_,_,_,_,_,_,_,_,_]:=S
           refine QK (Yl ⟨.inr ⟨M1774,Hp.le_refl M1774,(S.pk [6,4,3,2,1,7,0,8])⟩,?_⟩)
           exact hq2246 _ _ ⟨t2248,b2208,oi H,agP J,E,S.pk [5,0,1,2,3,4,6,7,8]⟩
          intro hq2245
          refine YB (fun ρ w'=>∃ (x2204:Int),some (x2204)=some o2242∧QV ρ [(1,.slice A1 a1.length c1),(6,vI x1207),(7,vI x1208),(10,pt b54 0),(11,.func (.func 23) #[] #[pt b1 0]),(13,pt b2071 0),(45,.slice A75 t73.length c76),(46,vI (t73.length:Int)),(47,vI x1209),(59,.agg (Qo (rd (rd a1 ((rd t73 x1209).Task)) ((rd t73 x1209).Call)))),(61,vI x2204)]∧Ext w w'∧St w' M1774 F [B96 b54 x1210 A1211 A1214 A1217 c1218 A1220,XC QM (Value.int .i64) A1211 x1210.names,MpI A1214 x1210.many,Rw Qe 134 A1217 c1218 x1210.txs,MpV A1220 vs1223,B61 b2071 (rd t73 x1209) A2067 c2068,Rw Zz 61 A75 c76 t73,B23 b1 a0]) 3 (Ls 14 [0,1,2,3,4,5,6,7,8,9,10]) ?_ ?_
          ·clear o2242h
           rintro ρ w2253 ⟨x2204,H,hρ,E,S⟩
           rw [QB hρ]
           refine Wo 11 J ?_
           refine YN S cz5 ty43 J J (eE2 E ?_)
           intro b2254 w2255 E S
           refine QK (Yl ⟨.inr ⟨M1774,Hp.le_refl M1774,(S.pk [6,5,4,3,2,7,1,8])⟩,?_⟩)
           exact hq2246 _ _ ⟨x2204,b2254,oi H,agP J,E,S.pk [0,1,2,3,4,5,6,7,8]⟩
          intro hq2244
          have H:=o2242h
          refine V4 (rs:=[10,11]) (by kernel_rfl) (by decide) ?_
          simp only [List.forall_mem_cons,List.not_mem_nil,false_implies,implies_true,and_true]
          refine ⟨?_,?_⟩
          ·refine ⟨_,J,?_⟩
           obtain ⟨t2257,ht2258,H⟩:=QO H
           replace S:St w2170 M1774 F [_,_,_,_,_,_,_,_]:=S.pk [6,4,3,2,1,0,5,7]
           refine Zy fn20 (ZK.con ht2258 hm1224) (Γ1:=[_,_,_,_,_]) (Γ2:=[_,_,_]) S J J (by rintro _ _ _ ⟨rfl,rfl⟩;exact (QP Zs (QP Zl (QP Zl (QP (YX (fun _ _ _ _ h=>h)) (QP Zl YE)))))) (eE4 E ?_)
           rintro _ w2259 _ Γ' E S ⟨rfl,rfl⟩
           replace S:St w2259 M1774 F [_,_,_,_,_,_,_,_]:=S
           refine QK (Yl ⟨.inr ⟨M1774,Hp.le_refl M1774,(S.pk [5,4,3,2,1,6,0,7])⟩,?_⟩)
           exact hq2244 _ _ ⟨t2257,H,agP J,E,S.pk [0,1,2,3,4,5,6,7]⟩
          ·refine ⟨_,J,?_⟩
           refine YN S cz5 ty43 J J (eE2 E ?_)
           intro b2262 w2263 E S
           refine QK (Yl ⟨.inr ⟨M1774,Hp.le_refl M1774,(S.pk [1,2,3,4,5,6,7,8])⟩,?_⟩)
           exact hq2245 _ _ ⟨b2262,H,agP J,E,S.pk [0,1,2,3,4,5,6,7,8]⟩
         rintro ρ w2265 ⟨x2217,b2215,rfl,hρ,E,S⟩
         rw [QB hρ]
         have H:=o2242H
         refine Wo 12 J ?_
         refine Qu S 0 J ty43 J J [vU ((rd (rd a1 ((rd t73 x1209).Task)) ((rd t73 x1209).Call)).Kind),vI ((rd (rd a1 ((rd t73 x1209).Task)) ((rd t73 x1209).Call)).Tx),vS ((rd (rd a1 ((rd t73 x1209).Task)) ((rd t73 x1209).Call)).Key),vS ((rd (rd a1 ((rd t73 x1209).Task)) ((rd t73 x1209).Call)).End),vS ((rd (rd a1 ((rd t73 x1209).Task)) ((rd t73 x1209).Call)).Value),vI ((rd (rd a1 ((rd t73 x1209).Task)) ((rd t73 x1209).Call)).Limit),vU ((rd (rd a1 ((rd t73 x1209).Task)) ((rd t73 x1209).Call)).Engine)] J J J (Qo (rd (rd a1 ((rd t73 x1209).Task)) ((rd t73 x1209).Call))) (by as_aux_lemma=>kernel_rfl) J (eE1 E ?_)
         intro w2266 E S
         refine QK (Yl ⟨.inl (by decide),?_⟩)
         refine Wo 13 J ?_
         refine waI J ?_
         refine QK (Yl ⟨.inl (by decide),?_⟩)
         refine Wz ?_
         refine tn ?_
         as_aux_lemma =>
         refine wsQ (wmP J (wfA Tryz.underlying61 ty3 J (wlA S 6 ty3 J (W_v (.agg (Qo (rd (rd a1 ((rd t73 x1209).Task)) ((rd t73 x1209).Call)))) (Qi (S.blk 0 J) ty43 J (QG J) J J) J ?_))))
         obtain ⟨t2267,ht2268,H⟩:=QO H
         replace S:St w2266 M1774 F [_,_,_,_,_,_,_,_,_]:=S.pk [1,2,3,4,5,0,6,7,8]
         refine Y2 fn25 (YD.con ht2268 hm1224 hg0 hg1) (Γ1:=[_,_,_,_,_]) (Γ2:=[_,_,_,_]) S J J ?_
         rintro _ w2286 M2287 Γ' hM2288 E' S ⟨A2269,c2270,A2272,c2273,A2275,c2276,A2278,c2279,A2281,c2282,vs2284,rfl,hm2285,rfl⟩
         replace HM:=Hp.le_trans HM hM2288
         replace LE2056:=Hp.le_trans LE2056 hM2288
         replace E:=E.trans E'
         replace S:St w2286 M2287 F [_,_,_,_,_,_,_,_,_,_]:=S
         refine wnQ (QH ?_)
         refine rgA S [0,1,2,3,4,5,6,7,8,9] [_,_,_,_,_,_,_,_,_,_] 13 mixed J (eE1 E ?_)
         intro w2299 E S D2
         refine Wt 0 J J J (.func (.func 23) #[] #[pt b1 0]) J (fun w' h'=>YW J) D2 (Wt 1 J J J (.agg (Qo (rd (rd a1 ((rd t73 x1209).Task)) ((rd t73 x1209).Call)))) J (fun w' h'=>Qi (Y1 h' 6 J) ty43 J (QG J) J J) D2 (tz0 2 J D2 (xmI J) (tz0 3 J D2 (xmP J) ?_)))
         refine Wo 4 J ?_
         obtain ⟨t2301,ht2302,H⟩:=QO H
         replace S:St w2299 M2287 F [_,_,_,_,_,_,_,_,_,_]:=S.pk [1,2,3,4,5,0,6,7,8,9]
         refine Zy fn20 (ZK.con ht2302 hm2285) (Γ1:=[_,_,_,_,_]) (Γ2:=[_,_,_,_,_]) S J J (by rintro _ _ _ ⟨rfl,rfl⟩;exact (QP Zs (QP Zl (QP Zl (QP (YX (fun _ _ _ _ h=>h)) (QP Zl YE)))))) (eE4 E ?_)
         rintro _ w2303 _ Γ' E S ⟨rfl,rfl⟩
         replace S:St w2303 M2287 F [_,_,_,_,_,_,_,_,_,_]:=S
         refine QK (Yl ⟨.inr ⟨M2287,Hp.le_refl M2287,(S.pk [5,0,1,2,3,4,6,7,8,9])⟩,?_⟩)
         have D3:∃ Mx,Hp.le M2287 Mx∧St _ Mx F [_,_,_,_,_,_,_,_,_,_]:=⟨_,Hp.le_refl _,S.pk [5,0,1,2,3,4,6,7,8,9]⟩
         refine tz0 5 J D3 (xiI J J) (Wt 6 J J J (vI (imax (0:Int) (IntKind.i64.wrap (x2217-t2301)))) J (fun w' h'=>Un J J) D3 ?_)
         refine Wo 7 J ?_
         obtain ⟨t2306,ht2307,H⟩:=QO H
         replace S:St w2303 M2287 F [_,_,_,_,_,_,_,_,_,_]:=S.pk [9,0,1,2,3,4,5,6,7,8]
         refine VV (fs:=[]) (cap:=[pt b1 0]) fn23 J (Xi.con ht2307) (Γ1:=[_]) (Γ2:=[_,_,_,_,_,_,_,_,_]) S J J (by rintro _ _ _ ⟨rfl,rfl⟩;exact (QP Zs YE)) (eE4 E ?_)
         rintro _ w2308 _ Γ' E S ⟨rfl,rfl⟩
         replace S:St w2308 M2287 F [_,_,_,_,_,_,_,_,_,_]:=S
         refine QK (Yl ⟨.inr ⟨M2287,Hp.le_refl M2287,(S.pk [6,1,2,3,4,5,7,8,9,0])⟩,?_⟩)
         have D4:∃ Mx,Hp.le M2287 Mx∧St _ Mx F [_,_,_,_,_,_,_,_,_,_]:=⟨_,Hp.le_refl _,S.pk [6,1,2,3,4,5,7,8,9,0]⟩
         refine tz0 8 J D4 (xmT J) (tz0 9 J D4 (QR J J) (tz0 10 J D4 (QR J J) (tz0 11 J D4 (xaI J) (tz0 12 J D4 (xaI J) ?_))))
         refine Wz ?_
         refine tn ?_
         as_aux_lemma =>
         refine wsQ (wfA Tryz.underlying61 ty3 J (wlA S 8 ty3 J (wiB J J (wnQ ?_))))
         obtain ⟨o2315,o2315h,o2315H⟩:=QO H
         refine Yc (fun ρ w'=>∃ (x2313:Int) (x2314:Int),(x2313,x2314)=o2315∧QV ρ [(1,.slice A1 a1.length c1),(6,vI x2313),(7,vI x2314),(10,pt b54 0),(11,.func (.func 23) #[] #[pt b1 0]),(45,.slice A75 t73.length c76),(46,vI (t73.length:Int)),(47,vI x1209)]∧Ext w w'∧St w' M2287 F [B23 b1 a0,B96 b54 t2267.2 A2272 A2275 A2278 c2279 A2281,XC QM (Value.int .i64) A2272 t2267.2.names,MpI A2275 t2267.2.many,Rw Qe 134 A2278 c2279 t2267.2.txs,MpV A2281 vs2284,Rw Zz 61 A75 c76 t73]) ?_ ?_
         ·clear o2315H
          have H:=o2315h
          rcases Q3 H with ⟨hb2316,H⟩ | ⟨hb2316,H⟩
          ·refine QC (cB hb2316) ?_
           refine wsQ (wmI J (wmI J (wiI J J (waI J (wnQ (QJ (wmI J (wmI J (wiI J J (waI J (wnQ ?_)))))))))))
           exact ⟨(IntKind.i64.wrap (x1207+t2306.1)),(IntKind.i64.wrap (x1208+t2306.2)),oi H,agP J,E,S.pk [0,1,2,3,4,5,9]⟩
          refine QA (cB hb2316) (QX (tn ?_))
          exact ⟨x1207,x1208,oi H,agP J,E,S.pk [0,1,2,3,4,5,9]⟩
         rintro ρ w2317 ⟨x2313,x2314,rfl,hρ,E,S⟩
         rw [QB hρ]
         have H:=o2315H
         refine bn (tn ?_)
         exact ⟨x2313,x2314,t2267.2,A2272,c2273,A2275,c2276,A2278,c2279,A2281,c2282,vs2284,M2287,oi H,agP J,LE2056,E,S.pk [5,4,3,2,0,1,6],hm2285⟩
       rintro ρ w2318 ⟨x2038,x2039,x2040,A2041,c2042,A2044,c2045,A2047,c2048,A2050,c2051,vs2053,M2319,rfl,hρ,hM2320,E,S,hm2054⟩
       rw [QB hρ]
       replace HM:=Hp.le_trans HM hM2320
       replace hM1775:=Hp.le_trans hM1775 hM2320
       have H:=o2055H
       refine tn (QJ (wiI J J (wmI J (wnQ ?_))))
       exact ⟨k,Nat.lt_succ_self k,⟨x2038,x2039,(IntKind.i64.wrap (x1209+(1:Int))),x2040,A2041,c2042,A2044,c2045,A2047,c2048,A2050,c2051,vs2053,M2319,H,agP J,hM1775,E,S.pk [0,1,2,3,6,5,4],hm2054⟩⟩
      refine QA (cB hb1776) ?_
      refine YZ ?_
      refine tx (tx (bsm (?_)))
      refine tn ?_
      exact ⟨x1207,x1208,M1774,oi H,agP J,hM1775,E,S.pk []⟩
   rintro ρ w2321 ⟨x1770,x1771,M2322,rfl,hρ,hM2323,E,S⟩
   rw [QB hρ]
   replace HM:=Hp.le_trans HM hM2323
   have H:=o1772H
   refine tn ?_
   as_aux_lemma =>
   refine wsQ (wmI J (wmI J (waI J (waI J (waI J (wnQ ?_))))))
   refine QT ?_
   obtain rfl:=oi H
   exact ⟨_,_,_,rsA (vs:=[_,_,_]) J,HM,E,S.pk [],⟨J,J⟩⟩
def Xd (k:Nat) (a0:QI) (a1:(List (List QY))) (a2:(List QL)) (a3:Int) (a4:Int):Option (Bool) :=
 (Option.bind (VO k a0 a1 a2) (fun t4=>some (((t4.1==a3)&&(t4.2.1==a4))&&(t4.2.2==(0:Int)))))
theorem Xd.mono {k a0 a1 a2 a3 a4}: OLe (Xd k a0 a1 a2 a3 a4) (Xd (k+1) a0 a1 a2 a3 a4):=by
 unfold Xd
 have m1:=@VO.mono
 exact mo
theorem Xd.con {k M} {a0:QI} {A1 c1} {a1:(List (List QY))} {A2 c2} {a2:(List QL)} {a3:Int} {a4:Int} {r:Bool} (h:Xd k a0 a1 a2 a3 a4=some r) (hr1:SlR (rSl Yk) M (.slice A1 a1.length c1) a1) (hr2:SlR Qs M (.slice A2 a2.length c2) a2) (hg0:∃ gt fr,M 0=some (.cells cz1 gt fr)) (hg1:∃ gt fr,M 1=some (.cells cz2 gt fr)): Con Tryz.prog 16 #[.agg (QF a0),.slice A1 a1.length c1,.slice A2 a2.length c2,vI a3,vI a4] M [] (fun v M' Γ'=>v=.bool r∧Γ'=[]):=by
 refine cwA Tryz.func16 J Tryz.ntmps16 Tryz.results16 J h ?_
 intro w F rn S hrn E HM H
 unfold Xd at H
 refine wsQ ?_
 refine Yz S (QF a0) J J J (eE2 E ?_)
 intro b1 w2 E S
 refine waB J (wnQ (wsQ (W_v (.agg (QF a0)) (Qi (S.blk 0 J) ty23 J (QG J) J J) J (wmL J (wmL J ?_)))))
 obtain ⟨t4,ht5,H⟩:=QO H
 refine ZR fn8 (VO.con ht5 hr1 hr2 hg0 hg1) S J J flN (eE4 E ?_)
 rintro _ w6 _ Γ' E S ⟨rfl,rfl⟩
 refine wmT J (W_v _ (QR J J) J (W_v _ (QR J J) J (W_v _ (QR J J) J (waI J (waI J (waI J (wnQ (wsQ (wmI J (wmI J (wiB J J (wmB J ?_))))))))))))
 refine ZO 4 (fun ρ w'=>QV ρ [(13,vI t4.2.2),(29,.bool ((t4.1==a3)&&(t4.2.1==a4)))]∧w6=w') ?_ ?_
 ·rcases Qy (t4.1==a3) with hb7 | hb7
  ·refine QZ (skT hb7) J (QZ (skT hb7) J (QZ (skT hb7) J (wqB hb7 J (QK ?_))))
   exact ⟨⟨J,(flB hb7),trivial⟩,rfl⟩
  ·refine QN (cS hb7) (wmI J (QN (cS hb7) (wmI J (QN (cS hb7) (wiB J J (wpB hb7 J (QK ?_)))))))
   exact ⟨⟨J,(flB hb7),trivial⟩,rfl⟩
 rintro ρ _ ⟨hρ,rfl⟩
 rw [QB hρ]
 refine wmB J ?_
 refine ZO 3 (fun ρ w'=>QV ρ [(33,.bool (((t4.1==a3)&&(t4.2.1==a4))&&(t4.2.2==(0:Int))))]∧w6=w') ?_ ?_
 ·rcases Qy ((t4.1==a3)&&(t4.2.1==a4)) with hb8 | hb8
  ·refine QZ (skT hb8) J (QZ (skT hb8) J (wqB hb8 J (QK ?_)))
   exact ⟨⟨(flB hb8),trivial⟩,rfl⟩
  ·refine QN (cS hb8) (wmI J (QN (cS hb8) (wiB J J (wpB hb8 J (QK ?_)))))
   exact ⟨⟨(flB hb8),trivial⟩,rfl⟩
 rintro ρ _ ⟨hρ,rfl⟩
 rw [QB hρ]
 refine waB J (wnQ ?_)
 refine QT ?_
 obtain rfl:=oi H
 exact ⟨_,_,_,rsA (vs:=[_]) J,HM,E,S.pk [],⟨J,J⟩⟩
end Go.Proofs.YtkknoimjgifhlaaGreatDoor
