import Derived.Test.YtcngjjlhdlbogaaDoorGp3B
import Derived.Test.YtcngjjlhdlbogaaDoorGp3LModelPlaysP0
import Derived.Test.YtcngjjlhdlbogaaDoorGp3LModelPlaysP1
namespace Go.Proofs.YtcngjjlhdlbogaaDoor
open Go
set_option linter.unusedVariables false
set_option linter.unusedSimpArgs false
set_option maxHeartbeats 80000000
set_option maxRecDepth 100000
def Q5 (k:Nat) (a0:QJ) (a1:Int) (a2:ZE):Option (Qc×QJ) :=
 (Option.bind (Za k a0 a1 a2) (fun t7=>(if (t7 != (0:Int))=true then some ((⟨t7,false,([]:Str),([]:List Qf)⟩:Qc),a0) else (Option.bind (Zy k a0 a1 a2.Tx) (fun t15=>(if 0≤a2.Kind∧a2.Kind < (10:Int) then (if (a2.Kind==(1:Int))=true then (Option.bind (YW k a0 t15.1 a1 a2) (fun t206=>some (t206.1,t206.2))) else (if (a2.Kind==(2:Int))=true then (Option.bind (Yk k a0 t15.1 a1 a2) (fun t230=>some (t230,a0))) else (if (a2.Kind==(3:Int))=true then (Option.bind (Yn k a0 t15.1 a1 a2) (fun t240=>some (t240.1,t240.2))) else (if (a2.Kind==(4:Int))=true then (Option.bind (Yo k a0 t15.1 a1 a2) (fun t264=>some (t264.1,t264.2))) else (if (a2.Kind==(5:Int))=true then (Option.bind (Ya k a0 t15.1 a1 a2) (fun t288=>some (t288,a0))) else (if (a2.Kind==(6:Int))=true then (Option.bind (YR k a0 t15.1 a1 a2) (fun t298=>some (t298.1,t298.2))) else (if (a2.Kind==(7:Int))=true then (Option.bind (Yh k a0 t15.1 a1 a2) (fun t322=>some (t322.1,t322.2))) else (if (a2.Kind==(8:Int))=true then (Option.bind (YQ k a0 t15.1 a1 a2) (fun t346=>some (t346.1,t346.2))) else (if (a2.Kind==(9:Int))=true then (Option.bind (Yg k a0 t15.1 a1 a2) (fun t370=>some (t370,a0))) else none))))))))) else none))))))
theorem Q5.mono {k:Nat} {a0:QJ} {a1:Int} {a2:ZE}:OLe (Q5 k a0 a1 a2) (Q5 (k+1) a0 a1 a2):=by
 unfold Q5
 have m1:=@Za.mono
 have m2:=@Zy.mono
 have m3:=@Yh.mono
 have m4:=@YW.mono
 have m5:=@YR.mono
 have m6:=@Yo.mono
 have m7:=@Yk.mono
 have m8:=@Yg.mono
 have m9:=@Yn.mono
 have m10:=@Ya.mono
 have m11:=@YQ.mono
 exact mo
theorem Q5.con (k:Nat) (M:Hp) (A0_8:Option Addr) (c0_8:Nat) (A0_9:Option Addr) (c0_9:Nat) (A0_10:Option Addr) (c0_10:Nat) (A0_11:Option Addr) (c0_11:Nat) (vs0_11:List (Str×Value)) (a0:QJ) (a1:Int) (a2:ZE) (bo0:Nat) (r:Qc×QJ) (hm0_11:YV Qk M a0.rows vs0_11) (hg0:∃ gt fr,M 0=some (.cells cz1 gt fr)) (h:Q5 k a0 a1 a2=some r):Con Tryd.prog 15 #[pt bo0 0,vI a1,.agg #[vU a2.Kind,vI a2.Tx,vS a2.Key,vS a2.End,vS a2.Value,vI a2.Limit,vU a2.Engine]] M [B94 bo0 a0 A0_8 A0_9 A0_10 c0_10 A0_11,QT QF (Value.int .i64) A0_8 a0.names,QT (Value.int .i64) (Value.int .i64) A0_9 a0.many,Row QL 99 (.slice A0_10 a0.txs.length c0_10) a0.txs,QT encS (fun v:Value=>v) A0_11 vs0_11] (fun v M' Γ'=>∃ (Aq1:Option Addr) (cq2:Nat) (Aq4:Option Addr) (cq5:Nat) (Aq7:Option Addr) (cq8:Nat) (Aq10:Option Addr) (cq11:Nat) (Aq13:Option Addr) (cq14:Nat) (vsq16:List (Str×Value)),v=.agg #[vI r.1.Err,.bool r.1.Found,vS r.1.Value,.slice Aq1 r.1.Pairs.length cq2]∧YV Qk M' r.2.rows vsq16∧Γ'=[Row Qm 87 (.slice Aq1 r.1.Pairs.length cq2) r.1.Pairs,B94 bo0 r.2 Aq4 Aq7 Aq10 cq11 Aq13,QT QF (Value.int .i64) Aq4 r.2.names,QT (Value.int .i64) (Value.int .i64) Aq7 r.2.many,Row QL 99 (.slice Aq10 r.2.txs.length cq11) r.2.txs,QT encS (fun v:Value=>v) Aq13 vsq16]):=by
 refine Qt Tryd.func15 rfl Tryd.ntmps15 Tryd.results15 rfl ?_
 intro w F rn S hrn
 have E:=Ext.refl w
 have HM:=Hp.le_refl M
 have H:=h
 unfold Q5 at H
 refine QE (QA ?_)
 refine Y8 S #[vU a2.Kind,vI a2.Tx,vS a2.Key,vS a2.End,vS a2.Value,vI a2.Limit,vU a2.Engine] rfl rfl rfl ?_
 intro b1 w2 E' S
 replace E:=E.trans E'
 refine Zo S cz14 ty43 rfl rfl ?_
 intro b4 w5 E' S
 replace E:=E.trans E'
 refine QB (tn (QE (QE (QA (W_v (pt bo0 0) (QD rfl) rfl (W_v (vI a1) (QD rfl) rfl (W_v (.agg #[vU a2.Kind,vI a2.Tx,vS a2.Key,vS a2.End,vS a2.Value,vI a2.Limit,vU a2.Engine]) (ZA (S.blk 1 rfl) ty37 rfl (QM rfl) rfl rfl) rfl ?_)))))))
 obtain ⟨t7,ht8,H⟩:=QW H
 replace S:St w5 M F [_,_,_,_,_,_,_]:=S.pick [2,3,4,5,6,0,1] (by decide)
 refine Z5 fn25 (Za.con k M A0_8 c0_8 A0_9 c0_9 A0_10 c0_10 A0_11 c0_11 vs0_11 a0 a1 a2 bo0 t7 hm0_11 ht8) (Γ1:=[_,_,_,_,_]) (Γ2:=[_,_]) S rfl rfl (by rintro _ _ _ ⟨rfl,rfl⟩;exact (QN ZW (QN Qu (QN Qu (QN (YI (fun _ _ _ _ h=>h)) (QN Qu Qd)))))) ?_
 rintro _ w9 _ Γ' E' S ⟨rfl,rfl⟩
 replace E:=E.trans E'
 replace S:St w9 M F [_,_,_,_,_,_,_]:=S
 refine W_v (vI t7) (QG rfl) rfl (QB (tn (QE (QA (W_v (vI t7) (QD rfl) rfl (W_v (.bool (t7 != (0:Int))) (Qa rfl rfl rfl rfl) rfl (QB (tn ?_))))))))
 rcases Zf H with ⟨hb12,H⟩ | ⟨hb12,H⟩
 ·refine QQ (congrArg Value.bool hb12) ?_
  refine QE (QA (W_v (vI t7) (QD rfl) rfl (W_v (.agg #[vI t7,.bool false,vS ([]:Str),.slice none 0 0]) (Z3 (pl:=[(0,1),(1,1),(2,1),(3,1)]) #[vI t7,.bool false,vS ([]:Str),.slice none 0 0] Tryd.underlying43 ty43 (by as_aux_lemma=>kernel_rfl) rfl (by as_aux_lemma=>kernel_rfl)) rfl ?_)))
  refine Qx S 5 rfl ty43 rfl rfl [vI t7,.bool false,vS ([]:Str),.slice none 0 0] rfl rfl rfl #[vI t7,.bool false,vS ([]:Str),.slice none 0 0] rfl rfl ?_
  intro w13 E' S
  replace E:=E.trans E'
  refine QB (tn ?_)
  refine Qs ?_
  refine tr (?_)
  obtain rfl:=Option.some.inj H
  replace S:=S.row_nil Qm 87
  exact ⟨_,_,_,fun w1 e1=>QX (vs:=[.agg #[vI t7,.bool false,vS ([]:Str),.slice none ([]:List Qf).length 0]]) (FA.cons (⟨_,rfl,Qn ty43 ((S.of_eq e1).blk 6 rfl) (QM rfl) rfl (by decide)⟩) (FA.nil)),HM,E,S.pick [0,1,2,3,4,5] (by decide),⟨none,0,A0_8,c0_8,A0_9,c0_9,A0_10,c0_10,A0_11,c0_11,vs0_11,rfl,hm0_11,rfl⟩⟩
 refine QK (congrArg Value.bool hb12) (Qr (tn ?_))
 as_aux_lemma =>
 refine QE (QA (W_v (pt bo0 0) (QD rfl) rfl (W_v (vI a1) (QD rfl) rfl (W_v (pt b1 1) (QC (o:=0) (off:=1) Tryd.underlying37 rfl ty3 rfl rfl) rfl (W_v (vI a2.Tx) (QO (S.blk 6 rfl) ty3 rfl rfl) rfl ?_)))))
 obtain ⟨t15,ht16,H⟩:=QW H
 refine Z5 fn23 (Zy.con k M A0_8 c0_8 A0_9 c0_9 A0_10 c0_10 A0_11 c0_11 vs0_11 a0 a1 a2.Tx bo0 t15 hm0_11 ht16) (Γ1:=[_,_,_,_,_]) (Γ2:=[_,_]) S rfl rfl (by rintro _ _ _ ⟨rfl,rfl⟩;exact (QN ZW (QN Qu (QN Qu (QN (YI (fun _ _ _ _ h=>h)) (QN Qu Qd)))))) ?_
 rintro _ w17 _ Γ' E' S ⟨rfl,rfl⟩
 replace E:=E.trans E'
 replace S:St w17 M F [_,_,_,_,_,_,_]:=S
 refine W_v (.tuple #[vI t15.1,vU t15.2.1,vI t15.2.2]) (QD rfl) rfl (W_v (vI t15.1) (ZB rfl rfl) rfl (W_v (vU t15.2.1) (ZB rfl rfl) rfl (W_v (vI t15.2.2) (ZB rfl rfl) rfl (W_v (vI t15.1) (QG rfl) rfl (W_v (vU t15.2.1) (QG rfl) rfl (W_v (vI t15.2.2) (QG rfl) rfl (QB (tn (QE ?_)))))))))
 have LE198:=Hp.le_refl M
 refine Q0 (S:=fun w'=>∃ Mx,M.le Mx∧St w' Mx F [Blk b4 (.cells cz14 43 (0,0)),B37 b1 a2]) (L:=9) mixed ?_
 intro w199 hw200 E'
 replace S:=S.heap hw200
 replace E:=E.trans E'
 have D1:∃ Mx,Hp.le M Mx∧St _ Mx F [_,_]:=⟨_,Hp.le_refl _,S.pick [5,6] (by decide)⟩
 refine Wt 0 rfl rfl rfl (pt b1 0) rfl (fun w' h'=>QC (o:=0) (off:=0) Tryd.underlying37 rfl ty5 rfl rfl) D1 (Wt 1 rfl rfl rfl (vU a2.Kind) rfl (fun w' h'=>QO (Qp h' 1 rfl) ty5 rfl rfl) D1 ?_)
 obtain ⟨⟨p201,p202⟩,H⟩:=Yy H
 refine Wt 2 rfl rfl rfl (.pointer (some ⟨0,0+a2.Kind.toNat*1,none⟩)) rfl (fun w' h'=>JY Tryd.underlying96 ty95 rfl rfl p201 p202) D1 ?_
 obtain ⟨gtfr203,fr203,hgx204⟩:=hg0
 have hg0:∃ gt fr,_:=⟨gtfr203,fr203,hgx204⟩
 rcases Zf H with ⟨hb205,H⟩ | ⟨hb205,H⟩
 ·skip
  refine Wt 3 rfl rfl rfl (.func (.func 124) #[] #[]) rfl (fun w' h'=>QO (XG h' hgx204) ty95 rfl (by rw [show a2.Kind=(1:Int) from eq_of_beq hb205];rfl)) D1 (Wt 4 rfl rfl rfl (pt bo0 0) rfl (fun w' h'=>QD rfl) D1 (Wt 5 rfl rfl rfl (vI t15.1) rfl (fun w' h'=>QD rfl) D1 (Wt 6 rfl rfl rfl (vI a1) rfl (fun w' h'=>QD rfl) D1 (Wt 7 rfl rfl rfl (.agg #[vU a2.Kind,vI a2.Tx,vS a2.Key,vS a2.End,vS a2.Value,vI a2.Limit,vU a2.Engine]) rfl (fun w' h'=>ZA (Qp h' 1 rfl) ty37 rfl (QM rfl) rfl rfl) D1 ?_))))
  refine Wo 8 rfl ?_
  obtain ⟨t206,ht207,H⟩:=QW H
  refine VK (fs:=[]) (cap:=[]) fn124 rfl (YW.con k M A0_8 c0_8 A0_9 c0_9 A0_10 c0_10 A0_11 c0_11 vs0_11 a0 t15.1 a1 a2 bo0 t206 hm0_11 ht207) (Γ1:=[_,_,_,_,_]) (Γ2:=[_,_]) S rfl rfl ?_
  rintro _ w225 M226 Γ' hM227 E' S ⟨A208,c209,A211,c212,A214,c215,A217,c218,A220,c221,vs223,rfl,hm224,rfl⟩
  replace HM:=Hp.le_trans HM hM227
  replace LE198:=Hp.le_trans LE198 hM227
  replace E:=E.trans E'
  replace S:St w225 M226 F [_,_,_,_,_,_,_,_]:=S
  refine QB (YU ⟨.inr ⟨M226,LE198,(S.pick [6,7] (by decide))⟩,?_⟩)
  refine Wo 9 rfl ?_
  refine Qx S 6 rfl ty43 rfl rfl [vI t206.1.Err,.bool t206.1.Found,vS t206.1.Value,.slice A208 t206.1.Pairs.length c209] rfl rfl rfl #[vI t206.1.Err,.bool t206.1.Found,vS t206.1.Value,.slice A208 t206.1.Pairs.length c209] rfl rfl ?_
  intro w228 E' S
  replace E:=E.trans E'
  refine QB (YU ⟨.inl (by decide),?_⟩)
  refine Wz ?_
  refine tn ?_
  refine Qs ?_
  obtain rfl:=Option.some.inj H
  exact ⟨_,_,_,fun w1 e1=>QX (vs:=[.agg #[vI t206.1.Err,.bool t206.1.Found,vS t206.1.Value,.slice A208 t206.1.Pairs.length c209]]) (FA.cons (⟨_,rfl,Qn ty43 ((S.of_eq e1).blk 6 rfl) (QM rfl) rfl (by decide)⟩) (FA.nil)),HM,E,S.pick [0,1,2,3,4,5] (by decide),⟨A208,c209,A211,c212,A214,c215,A217,c218,A220,c221,vs223,rfl,hm224,rfl⟩⟩
 rcases Zf H with ⟨hb229,H⟩ | ⟨hb229,H⟩
 ·skip
  have D2:∃ Mx,Hp.le M Mx∧St _ Mx F [_,_]:=⟨_,Hp.le_refl _,S.pick [5,6] (by decide)⟩
  refine Wt 3 rfl rfl rfl (.func (.func 125) #[] #[]) rfl (fun w' h'=>QO (XG h' hgx204) ty95 rfl (by rw [show a2.Kind=(2:Int) from eq_of_beq hb229];rfl)) D2 (Wt 4 rfl rfl rfl (pt bo0 0) rfl (fun w' h'=>QD rfl) D2 (Wt 5 rfl rfl rfl (vI t15.1) rfl (fun w' h'=>QD rfl) D2 (Wt 6 rfl rfl rfl (vI a1) rfl (fun w' h'=>QD rfl) D2 (Wt 7 rfl rfl rfl (.agg #[vU a2.Kind,vI a2.Tx,vS a2.Key,vS a2.End,vS a2.Value,vI a2.Limit,vU a2.Engine]) rfl (fun w' h'=>ZA (Qp h' 1 rfl) ty37 rfl (QM rfl) rfl rfl) D2 ?_))))
  refine Wo 8 rfl ?_
  obtain ⟨t230,ht231,H⟩:=QW H
  refine Xp (fs:=[]) (cap:=[]) fn125 rfl (Yk.con k M A0_8 c0_8 A0_9 c0_9 A0_10 c0_10 A0_11 c0_11 vs0_11 a0 t15.1 a1 a2 bo0 t230 hm0_11 ht231) (Γ1:=[_,_,_,_,_]) (Γ2:=[_,_]) S rfl rfl (by rintro _ _ _ ⟨_,_,rfl,rfl⟩;exact (QN (YI (fun _ _ _ _ h=>h)) (QN ZW (QN Qu (QN Qu (QN (YI (fun _ _ _ _ h=>h)) (QN Qu Qd))))))) ?_
  rintro _ w235 _ Γ' E' S ⟨A232,c233,rfl,rfl⟩
  replace E:=E.trans E'
  replace S:St w235 M F [_,_,_,_,_,_,_,_]:=S
  refine QB (YU ⟨.inr ⟨M,Hp.le_refl M,(S.pick [6,7] (by decide))⟩,?_⟩)
  refine Wo 9 rfl ?_
  refine Qx S 6 rfl ty43 rfl rfl [vI t230.Err,.bool t230.Found,vS t230.Value,.slice A232 t230.Pairs.length c233] rfl rfl rfl #[vI t230.Err,.bool t230.Found,vS t230.Value,.slice A232 t230.Pairs.length c233] rfl rfl ?_
  intro w238 E' S
  replace E:=E.trans E'
  refine QB (YU ⟨.inl (by decide),?_⟩)
  refine Wz ?_
  refine tn ?_
  refine Qs ?_
  obtain rfl:=Option.some.inj H
  exact ⟨_,_,_,fun w1 e1=>QX (vs:=[.agg #[vI t230.Err,.bool t230.Found,vS t230.Value,.slice A232 t230.Pairs.length c233]]) (FA.cons (⟨_,rfl,Qn ty43 ((S.of_eq e1).blk 6 rfl) (QM rfl) rfl (by decide)⟩) (FA.nil)),HM,E,S.pick [0,1,2,3,4,5] (by decide),⟨A232,c233,A0_8,c0_8,A0_9,c0_9,A0_10,c0_10,A0_11,c0_11,vs0_11,rfl,hm0_11,rfl⟩⟩
 rcases Zf H with ⟨hb239,H⟩ | ⟨hb239,H⟩
 ·skip
  have D3:∃ Mx,Hp.le M Mx∧St _ Mx F [_,_]:=⟨_,Hp.le_refl _,S.pick [5,6] (by decide)⟩
  refine Wt 3 rfl rfl rfl (.func (.func 126) #[] #[]) rfl (fun w' h'=>QO (XG h' hgx204) ty95 rfl (by rw [show a2.Kind=(3:Int) from eq_of_beq hb239];rfl)) D3 (Wt 4 rfl rfl rfl (pt bo0 0) rfl (fun w' h'=>QD rfl) D3 (Wt 5 rfl rfl rfl (vI t15.1) rfl (fun w' h'=>QD rfl) D3 (Wt 6 rfl rfl rfl (vI a1) rfl (fun w' h'=>QD rfl) D3 (Wt 7 rfl rfl rfl (.agg #[vU a2.Kind,vI a2.Tx,vS a2.Key,vS a2.End,vS a2.Value,vI a2.Limit,vU a2.Engine]) rfl (fun w' h'=>ZA (Qp h' 1 rfl) ty37 rfl (QM rfl) rfl rfl) D3 ?_))))
  refine Wo 8 rfl ?_
  obtain ⟨t240,ht241,H⟩:=QW H
  refine VK (fs:=[]) (cap:=[]) fn126 rfl (Yn.con k M A0_8 c0_8 A0_9 c0_9 A0_10 c0_10 A0_11 c0_11 vs0_11 a0 t15.1 a1 a2 bo0 t240 hm0_11 ht241) (Γ1:=[_,_,_,_,_]) (Γ2:=[_,_]) S rfl rfl ?_
  rintro _ w259 M260 Γ' hM261 E' S ⟨A242,c243,A245,c246,A248,c249,A251,c252,A254,c255,vs257,rfl,hm258,rfl⟩
  replace HM:=Hp.le_trans HM hM261
  replace LE198:=Hp.le_trans LE198 hM261
  replace E:=E.trans E'
  replace S:St w259 M260 F [_,_,_,_,_,_,_,_]:=S
  refine QB (YU ⟨.inr ⟨M260,LE198,(S.pick [6,7] (by decide))⟩,?_⟩)
  refine Wo 9 rfl ?_
  refine Qx S 6 rfl ty43 rfl rfl [vI t240.1.Err,.bool t240.1.Found,vS t240.1.Value,.slice A242 t240.1.Pairs.length c243] rfl rfl rfl #[vI t240.1.Err,.bool t240.1.Found,vS t240.1.Value,.slice A242 t240.1.Pairs.length c243] rfl rfl ?_
  intro w262 E' S
  replace E:=E.trans E'
  refine QB (YU ⟨.inl (by decide),?_⟩)
  refine Wz ?_
  refine tn ?_
  refine Qs ?_
  obtain rfl:=Option.some.inj H
  exact ⟨_,_,_,fun w1 e1=>QX (vs:=[.agg #[vI t240.1.Err,.bool t240.1.Found,vS t240.1.Value,.slice A242 t240.1.Pairs.length c243]]) (FA.cons (⟨_,rfl,Qn ty43 ((S.of_eq e1).blk 6 rfl) (QM rfl) rfl (by decide)⟩) (FA.nil)),HM,E,S.pick [0,1,2,3,4,5] (by decide),⟨A242,c243,A245,c246,A248,c249,A251,c252,A254,c255,vs257,rfl,hm258,rfl⟩⟩
 rcases Zf H with ⟨hb263,H⟩ | ⟨hb263,H⟩
 ·skip
  have D4:∃ Mx,Hp.le M Mx∧St _ Mx F [_,_]:=⟨_,Hp.le_refl _,S.pick [5,6] (by decide)⟩
  refine Wt 3 rfl rfl rfl (.func (.func 127) #[] #[]) rfl (fun w' h'=>QO (XG h' hgx204) ty95 rfl (by rw [show a2.Kind=(4:Int) from eq_of_beq hb263];rfl)) D4 (Wt 4 rfl rfl rfl (pt bo0 0) rfl (fun w' h'=>QD rfl) D4 (Wt 5 rfl rfl rfl (vI t15.1) rfl (fun w' h'=>QD rfl) D4 (Wt 6 rfl rfl rfl (vI a1) rfl (fun w' h'=>QD rfl) D4 (Wt 7 rfl rfl rfl (.agg #[vU a2.Kind,vI a2.Tx,vS a2.Key,vS a2.End,vS a2.Value,vI a2.Limit,vU a2.Engine]) rfl (fun w' h'=>ZA (Qp h' 1 rfl) ty37 rfl (QM rfl) rfl rfl) D4 ?_))))
  refine Wo 8 rfl ?_
  obtain ⟨t264,ht265,H⟩:=QW H
  refine VK (fs:=[]) (cap:=[]) fn127 rfl (Yo.con k M A0_8 c0_8 A0_9 c0_9 A0_10 c0_10 A0_11 c0_11 vs0_11 a0 t15.1 a1 a2 bo0 t264 hm0_11 ht265) (Γ1:=[_,_,_,_,_]) (Γ2:=[_,_]) S rfl rfl ?_
  rintro _ w283 M284 Γ' hM285 E' S ⟨A266,c267,A269,c270,A272,c273,A275,c276,A278,c279,vs281,rfl,hm282,rfl⟩
  replace HM:=Hp.le_trans HM hM285
  replace LE198:=Hp.le_trans LE198 hM285
  replace E:=E.trans E'
  replace S:St w283 M284 F [_,_,_,_,_,_,_,_]:=S
  refine QB (YU ⟨.inr ⟨M284,LE198,(S.pick [6,7] (by decide))⟩,?_⟩)
  refine Wo 9 rfl ?_
  refine Qx S 6 rfl ty43 rfl rfl [vI t264.1.Err,.bool t264.1.Found,vS t264.1.Value,.slice A266 t264.1.Pairs.length c267] rfl rfl rfl #[vI t264.1.Err,.bool t264.1.Found,vS t264.1.Value,.slice A266 t264.1.Pairs.length c267] rfl rfl ?_
  intro w286 E' S
  replace E:=E.trans E'
  refine QB (YU ⟨.inl (by decide),?_⟩)
  refine Wz ?_
  refine tn ?_
  refine Qs ?_
  obtain rfl:=Option.some.inj H
  exact ⟨_,_,_,fun w1 e1=>QX (vs:=[.agg #[vI t264.1.Err,.bool t264.1.Found,vS t264.1.Value,.slice A266 t264.1.Pairs.length c267]]) (FA.cons (⟨_,rfl,Qn ty43 ((S.of_eq e1).blk 6 rfl) (QM rfl) rfl (by decide)⟩) (FA.nil)),HM,E,S.pick [0,1,2,3,4,5] (by decide),⟨A266,c267,A269,c270,A272,c273,A275,c276,A278,c279,vs281,rfl,hm282,rfl⟩⟩
 rcases Zf H with ⟨hb287,H⟩ | ⟨hb287,H⟩
 ·skip
  have D5:∃ Mx,Hp.le M Mx∧St _ Mx F [_,_]:=⟨_,Hp.le_refl _,S.pick [5,6] (by decide)⟩
  refine Wt 3 rfl rfl rfl (.func (.func 128) #[] #[]) rfl (fun w' h'=>QO (XG h' hgx204) ty95 rfl (by rw [show a2.Kind=(5:Int) from eq_of_beq hb287];rfl)) D5 (Wt 4 rfl rfl rfl (pt bo0 0) rfl (fun w' h'=>QD rfl) D5 (Wt 5 rfl rfl rfl (vI t15.1) rfl (fun w' h'=>QD rfl) D5 (Wt 6 rfl rfl rfl (vI a1) rfl (fun w' h'=>QD rfl) D5 (Wt 7 rfl rfl rfl (.agg #[vU a2.Kind,vI a2.Tx,vS a2.Key,vS a2.End,vS a2.Value,vI a2.Limit,vU a2.Engine]) rfl (fun w' h'=>ZA (Qp h' 1 rfl) ty37 rfl (QM rfl) rfl rfl) D5 ?_))))
  refine Wo 8 rfl ?_
  obtain ⟨t288,ht289,H⟩:=QW H
  refine Xp (fs:=[]) (cap:=[]) fn128 rfl (Ya.con k M A0_8 c0_8 A0_9 c0_9 A0_10 c0_10 A0_11 c0_11 vs0_11 a0 t15.1 a1 a2 bo0 t288 hm0_11 ht289) (Γ1:=[_,_,_,_,_]) (Γ2:=[_,_]) S rfl rfl (by rintro _ _ _ ⟨_,_,rfl,rfl⟩;exact (QN (YI (fun _ _ _ _ h=>h)) (QN ZW (QN Qu (QN Qu (QN (YI (fun _ _ _ _ h=>h)) (QN Qu Qd))))))) ?_
  rintro _ w293 _ Γ' E' S ⟨A290,c291,rfl,rfl⟩
  replace E:=E.trans E'
  replace S:St w293 M F [_,_,_,_,_,_,_,_]:=S
  refine QB (YU ⟨.inr ⟨M,Hp.le_refl M,(S.pick [6,7] (by decide))⟩,?_⟩)
  refine Wo 9 rfl ?_
  refine Qx S 6 rfl ty43 rfl rfl [vI t288.Err,.bool t288.Found,vS t288.Value,.slice A290 t288.Pairs.length c291] rfl rfl rfl #[vI t288.Err,.bool t288.Found,vS t288.Value,.slice A290 t288.Pairs.length c291] rfl rfl ?_
  intro w296 E' S
  replace E:=E.trans E'
  refine QB (YU ⟨.inl (by decide),?_⟩)
  refine Wz ?_
  refine tn ?_
  refine Qs ?_
  obtain rfl:=Option.some.inj H
  exact ⟨_,_,_,fun w1 e1=>QX (vs:=[.agg #[vI t288.Err,.bool t288.Found,vS t288.Value,.slice A290 t288.Pairs.length c291]]) (FA.cons (⟨_,rfl,Qn ty43 ((S.of_eq e1).blk 6 rfl) (QM rfl) rfl (by decide)⟩) (FA.nil)),HM,E,S.pick [0,1,2,3,4,5] (by decide),⟨A290,c291,A0_8,c0_8,A0_9,c0_9,A0_10,c0_10,A0_11,c0_11,vs0_11,rfl,hm0_11,rfl⟩⟩
 rcases Zf H with ⟨hb297,H⟩ | ⟨hb297,H⟩
 ·skip
  have D6:∃ Mx,Hp.le M Mx∧St _ Mx F [_,_]:=⟨_,Hp.le_refl _,S.pick [5,6] (by decide)⟩
  refine Wt 3 rfl rfl rfl (.func (.func 129) #[] #[]) rfl (fun w' h'=>QO (XG h' hgx204) ty95 rfl (by rw [show a2.Kind=(6:Int) from eq_of_beq hb297];rfl)) D6 (Wt 4 rfl rfl rfl (pt bo0 0) rfl (fun w' h'=>QD rfl) D6 (Wt 5 rfl rfl rfl (vI t15.1) rfl (fun w' h'=>QD rfl) D6 (Wt 6 rfl rfl rfl (vI a1) rfl (fun w' h'=>QD rfl) D6 (Wt 7 rfl rfl rfl (.agg #[vU a2.Kind,vI a2.Tx,vS a2.Key,vS a2.End,vS a2.Value,vI a2.Limit,vU a2.Engine]) rfl (fun w' h'=>ZA (Qp h' 1 rfl) ty37 rfl (QM rfl) rfl rfl) D6 ?_))))
  refine Wo 8 rfl ?_
  obtain ⟨t298,ht299,H⟩:=QW H
  refine VK (fs:=[]) (cap:=[]) fn129 rfl (YR.con k M A0_8 c0_8 A0_9 c0_9 A0_10 c0_10 A0_11 c0_11 vs0_11 a0 t15.1 a1 a2 bo0 t298 hm0_11 ht299) (Γ1:=[_,_,_,_,_]) (Γ2:=[_,_]) S rfl rfl ?_
  rintro _ w317 M318 Γ' hM319 E' S ⟨A300,c301,A303,c304,A306,c307,A309,c310,A312,c313,vs315,rfl,hm316,rfl⟩
  replace HM:=Hp.le_trans HM hM319
  replace LE198:=Hp.le_trans LE198 hM319
  replace E:=E.trans E'
  replace S:St w317 M318 F [_,_,_,_,_,_,_,_]:=S
  refine QB (YU ⟨.inr ⟨M318,LE198,(S.pick [6,7] (by decide))⟩,?_⟩)
  refine Wo 9 rfl ?_
  refine Qx S 6 rfl ty43 rfl rfl [vI t298.1.Err,.bool t298.1.Found,vS t298.1.Value,.slice A300 t298.1.Pairs.length c301] rfl rfl rfl #[vI t298.1.Err,.bool t298.1.Found,vS t298.1.Value,.slice A300 t298.1.Pairs.length c301] rfl rfl ?_
  intro w320 E' S
  replace E:=E.trans E'
  refine QB (YU ⟨.inl (by decide),?_⟩)
  refine Wz ?_
  refine tn ?_
  refine Qs ?_
  obtain rfl:=Option.some.inj H
  exact ⟨_,_,_,fun w1 e1=>QX (vs:=[.agg #[vI t298.1.Err,.bool t298.1.Found,vS t298.1.Value,.slice A300 t298.1.Pairs.length c301]]) (FA.cons (⟨_,rfl,Qn ty43 ((S.of_eq e1).blk 6 rfl) (QM rfl) rfl (by decide)⟩) (FA.nil)),HM,E,S.pick [0,1,2,3,4,5] (by decide),⟨A300,c301,A303,c304,A306,c307,A309,c310,A312,c313,vs315,rfl,hm316,rfl⟩⟩
 rcases Zf H with ⟨hb321,H⟩ | ⟨hb321,H⟩
 ·skip
  have D7:∃ Mx,Hp.le M Mx∧St _ Mx F [_,_]:=⟨_,Hp.le_refl _,S.pick [5,6] (by decide)⟩
  refine Wt 3 rfl rfl rfl (.func (.func 130) #[] #[]) rfl (fun w' h'=>QO (XG h' hgx204) ty95 rfl (by rw [show a2.Kind=(7:Int) from eq_of_beq hb321];rfl)) D7 (Wt 4 rfl rfl rfl (pt bo0 0) rfl (fun w' h'=>QD rfl) D7 (Wt 5 rfl rfl rfl (vI t15.1) rfl (fun w' h'=>QD rfl) D7 (Wt 6 rfl rfl rfl (vI a1) rfl (fun w' h'=>QD rfl) D7 (Wt 7 rfl rfl rfl (.agg #[vU a2.Kind,vI a2.Tx,vS a2.Key,vS a2.End,vS a2.Value,vI a2.Limit,vU a2.Engine]) rfl (fun w' h'=>ZA (Qp h' 1 rfl) ty37 rfl (QM rfl) rfl rfl) D7 ?_))))
  refine Wo 8 rfl ?_
  obtain ⟨t322,ht323,H⟩:=QW H
  refine VK (fs:=[]) (cap:=[]) fn130 rfl (Yh.con k M A0_8 c0_8 A0_9 c0_9 A0_10 c0_10 A0_11 c0_11 vs0_11 a0 t15.1 a1 a2 bo0 t322 hm0_11 ht323) (Γ1:=[_,_,_,_,_]) (Γ2:=[_,_]) S rfl rfl ?_
  rintro _ w341 M342 Γ' hM343 E' S ⟨A324,c325,A327,c328,A330,c331,A333,c334,A336,c337,vs339,rfl,hm340,rfl⟩
  replace HM:=Hp.le_trans HM hM343
  replace LE198:=Hp.le_trans LE198 hM343
  replace E:=E.trans E'
  replace S:St w341 M342 F [_,_,_,_,_,_,_,_]:=S
  refine QB (YU ⟨.inr ⟨M342,LE198,(S.pick [6,7] (by decide))⟩,?_⟩)
  refine Wo 9 rfl ?_
  refine Qx S 6 rfl ty43 rfl rfl [vI t322.1.Err,.bool t322.1.Found,vS t322.1.Value,.slice A324 t322.1.Pairs.length c325] rfl rfl rfl #[vI t322.1.Err,.bool t322.1.Found,vS t322.1.Value,.slice A324 t322.1.Pairs.length c325] rfl rfl ?_
  intro w344 E' S
  replace E:=E.trans E'
  refine QB (YU ⟨.inl (by decide),?_⟩)
  refine Wz ?_
  refine tn ?_
  refine Qs ?_
  obtain rfl:=Option.some.inj H
  exact ⟨_,_,_,fun w1 e1=>QX (vs:=[.agg #[vI t322.1.Err,.bool t322.1.Found,vS t322.1.Value,.slice A324 t322.1.Pairs.length c325]]) (FA.cons (⟨_,rfl,Qn ty43 ((S.of_eq e1).blk 6 rfl) (QM rfl) rfl (by decide)⟩) (FA.nil)),HM,E,S.pick [0,1,2,3,4,5] (by decide),⟨A324,c325,A327,c328,A330,c331,A333,c334,A336,c337,vs339,rfl,hm340,rfl⟩⟩
 rcases Zf H with ⟨hb345,H⟩ | ⟨hb345,H⟩
 ·skip
  have D8:∃ Mx,Hp.le M Mx∧St _ Mx F [_,_]:=⟨_,Hp.le_refl _,S.pick [5,6] (by decide)⟩
  refine Wt 3 rfl rfl rfl (.func (.func 131) #[] #[]) rfl (fun w' h'=>QO (XG h' hgx204) ty95 rfl (by rw [show a2.Kind=(8:Int) from eq_of_beq hb345];rfl)) D8 (Wt 4 rfl rfl rfl (pt bo0 0) rfl (fun w' h'=>QD rfl) D8 (Wt 5 rfl rfl rfl (vI t15.1) rfl (fun w' h'=>QD rfl) D8 (Wt 6 rfl rfl rfl (vI a1) rfl (fun w' h'=>QD rfl) D8 (Wt 7 rfl rfl rfl (.agg #[vU a2.Kind,vI a2.Tx,vS a2.Key,vS a2.End,vS a2.Value,vI a2.Limit,vU a2.Engine]) rfl (fun w' h'=>ZA (Qp h' 1 rfl) ty37 rfl (QM rfl) rfl rfl) D8 ?_))))
  refine Wo 8 rfl ?_
  obtain ⟨t346,ht347,H⟩:=QW H
  refine VK (fs:=[]) (cap:=[]) fn131 rfl (YQ.con k M A0_8 c0_8 A0_9 c0_9 A0_10 c0_10 A0_11 c0_11 vs0_11 a0 t15.1 a1 a2 bo0 t346 hm0_11 ht347) (Γ1:=[_,_,_,_,_]) (Γ2:=[_,_]) S rfl rfl ?_
  rintro _ w365 M366 Γ' hM367 E' S ⟨A348,c349,A351,c352,A354,c355,A357,c358,A360,c361,vs363,rfl,hm364,rfl⟩
  replace HM:=Hp.le_trans HM hM367
  replace LE198:=Hp.le_trans LE198 hM367
  replace E:=E.trans E'
  replace S:St w365 M366 F [_,_,_,_,_,_,_,_]:=S
  refine QB (YU ⟨.inr ⟨M366,LE198,(S.pick [6,7] (by decide))⟩,?_⟩)
  refine Wo 9 rfl ?_
  refine Qx S 6 rfl ty43 rfl rfl [vI t346.1.Err,.bool t346.1.Found,vS t346.1.Value,.slice A348 t346.1.Pairs.length c349] rfl rfl rfl #[vI t346.1.Err,.bool t346.1.Found,vS t346.1.Value,.slice A348 t346.1.Pairs.length c349] rfl rfl ?_
  intro w368 E' S
  replace E:=E.trans E'
  refine QB (YU ⟨.inl (by decide),?_⟩)
  refine Wz ?_
  refine tn ?_
  refine Qs ?_
  obtain rfl:=Option.some.inj H
  exact ⟨_,_,_,fun w1 e1=>QX (vs:=[.agg #[vI t346.1.Err,.bool t346.1.Found,vS t346.1.Value,.slice A348 t346.1.Pairs.length c349]]) (FA.cons (⟨_,rfl,Qn ty43 ((S.of_eq e1).blk 6 rfl) (QM rfl) rfl (by decide)⟩) (FA.nil)),HM,E,S.pick [0,1,2,3,4,5] (by decide),⟨A348,c349,A351,c352,A354,c355,A357,c358,A360,c361,vs363,rfl,hm364,rfl⟩⟩
 rcases Zf H with ⟨hb369,H⟩ | ⟨hb369,H⟩
 ·skip
  have D9:∃ Mx,Hp.le M Mx∧St _ Mx F [_,_]:=⟨_,Hp.le_refl _,S.pick [5,6] (by decide)⟩
  refine Wt 3 rfl rfl rfl (.func (.func 132) #[] #[]) rfl (fun w' h'=>QO (XG h' hgx204) ty95 rfl (by rw [show a2.Kind=(9:Int) from eq_of_beq hb369];rfl)) D9 (Wt 4 rfl rfl rfl (pt bo0 0) rfl (fun w' h'=>QD rfl) D9 (Wt 5 rfl rfl rfl (vI t15.1) rfl (fun w' h'=>QD rfl) D9 (Wt 6 rfl rfl rfl (vI a1) rfl (fun w' h'=>QD rfl) D9 (Wt 7 rfl rfl rfl (.agg #[vU a2.Kind,vI a2.Tx,vS a2.Key,vS a2.End,vS a2.Value,vI a2.Limit,vU a2.Engine]) rfl (fun w' h'=>ZA (Qp h' 1 rfl) ty37 rfl (QM rfl) rfl rfl) D9 ?_))))
  refine Wo 8 rfl ?_
  obtain ⟨t370,ht371,H⟩:=QW H
  refine Xp (fs:=[]) (cap:=[]) fn132 rfl (Yg.con k M A0_8 c0_8 A0_9 c0_9 A0_10 c0_10 A0_11 c0_11 vs0_11 a0 t15.1 a1 a2 bo0 t370 hm0_11 ht371) (Γ1:=[_,_,_,_,_]) (Γ2:=[_,_]) S rfl rfl (by rintro _ _ _ ⟨_,_,rfl,rfl⟩;exact (QN (YI (fun _ _ _ _ h=>h)) (QN ZW (QN Qu (QN Qu (QN (YI (fun _ _ _ _ h=>h)) (QN Qu Qd))))))) ?_
  rintro _ w375 _ Γ' E' S ⟨A372,c373,rfl,rfl⟩
  replace E:=E.trans E'
  replace S:St w375 M F [_,_,_,_,_,_,_,_]:=S
  refine QB (YU ⟨.inr ⟨M,Hp.le_refl M,(S.pick [6,7] (by decide))⟩,?_⟩)
  refine Wo 9 rfl ?_
  refine Qx S 6 rfl ty43 rfl rfl [vI t370.Err,.bool t370.Found,vS t370.Value,.slice A372 t370.Pairs.length c373] rfl rfl rfl #[vI t370.Err,.bool t370.Found,vS t370.Value,.slice A372 t370.Pairs.length c373] rfl rfl ?_
  intro w378 E' S
  replace E:=E.trans E'
  refine QB (YU ⟨.inl (by decide),?_⟩)
  refine Wz ?_
  refine tn ?_
  refine Qs ?_
  obtain rfl:=Option.some.inj H
  exact ⟨_,_,_,fun w1 e1=>QX (vs:=[.agg #[vI t370.Err,.bool t370.Found,vS t370.Value,.slice A372 t370.Pairs.length c373]]) (FA.cons (⟨_,rfl,Qn ty43 ((S.of_eq e1).blk 6 rfl) (QM rfl) rfl (by decide)⟩) (FA.nil)),HM,E,S.pick [0,1,2,3,4,5] (by decide),⟨A372,c373,A0_8,c0_8,A0_9,c0_9,A0_10,c0_10,A0_11,c0_11,vs0_11,rfl,hm0_11,rfl⟩⟩
 cases H
def Qb (k:Nat) (a0:QJ) (a1:Int) (a2:ZE) (a3:Int) (a4:Bool) (a5:Str):Option (Bool×QJ) :=
 (Option.bind (Q5 k a0 a1 a2) (fun t4=>some (((((t4.1.Err==a3)&&(t4.1.Found==a4))&&(sbin .eql t4.1.Value a5))&&((t4.1.Pairs.length:Int)==(0:Int))),t4.2)))
theorem Qb.mono {k:Nat} {a0:QJ} {a1:Int} {a2:ZE} {a3:Int} {a4:Bool} {a5:Str}:OLe (Qb k a0 a1 a2 a3 a4 a5) (Qb (k+1) a0 a1 a2 a3 a4 a5):=by
 unfold Qb
 have m1:=@Q5.mono
 exact mo
theorem Qb.con (k:Nat) (M:Hp) (A0_8:Option Addr) (c0_8:Nat) (A0_9:Option Addr) (c0_9:Nat) (A0_10:Option Addr) (c0_10:Nat) (A0_11:Option Addr) (c0_11:Nat) (vs0_11:List (Str×Value)) (a0:QJ) (a1:Int) (a2:ZE) (a3:Int) (a4:Bool) (a5:Str) (bo0:Nat) (r:Bool×QJ) (hm0_11:YV Qk M a0.rows vs0_11) (hg0:∃ gt fr,M 0=some (.cells cz1 gt fr)) (h:Qb k a0 a1 a2 a3 a4 a5=some r):Con Tryd.prog 32 #[pt bo0 0,vI a1,.agg #[vU a2.Kind,vI a2.Tx,vS a2.Key,vS a2.End,vS a2.Value,vI a2.Limit,vU a2.Engine],vI a3,.bool a4,vS a5] M [B94 bo0 a0 A0_8 A0_9 A0_10 c0_10 A0_11,QT QF (Value.int .i64) A0_8 a0.names,QT (Value.int .i64) (Value.int .i64) A0_9 a0.many,Row QL 99 (.slice A0_10 a0.txs.length c0_10) a0.txs,QT encS (fun v:Value=>v) A0_11 vs0_11] (fun v M' Γ'=>∃ (Aq1:Option Addr) (cq2:Nat) (Aq4:Option Addr) (cq5:Nat) (Aq7:Option Addr) (cq8:Nat) (Aq10:Option Addr) (cq11:Nat) (vsq13:List (Str×Value)),v=.bool r.1∧YV Qk M' r.2.rows vsq13∧Γ'=[B94 bo0 r.2 Aq1 Aq4 Aq7 cq8 Aq10,QT QF (Value.int .i64) Aq1 r.2.names,QT (Value.int .i64) (Value.int .i64) Aq4 r.2.many,Row QL 99 (.slice Aq7 r.2.txs.length cq8) r.2.txs,QT encS (fun v:Value=>v) Aq10 vsq13]):=by
 refine Qt Tryd.func32 rfl Tryd.ntmps32 Tryd.results32 rfl ?_
 intro w F rn S hrn
 have E:=Ext.refl w
 have HM:=Hp.le_refl M
 have H:=h
 unfold Qb at H
 refine QE (QA ?_)
 refine Y8 S #[vU a2.Kind,vI a2.Tx,vS a2.Key,vS a2.End,vS a2.Value,vI a2.Limit,vU a2.Engine] rfl rfl rfl ?_
 intro b1 w2 E' S
 replace E:=E.trans E'
 refine W_v (.bool false) (QG rfl) rfl (QB (tn (QE (QA (W_v (pt bo0 0) (QD rfl) rfl (W_v (vI a1) (QD rfl) rfl (W_v (.agg #[vU a2.Kind,vI a2.Tx,vS a2.Key,vS a2.End,vS a2.Value,vI a2.Limit,vU a2.Engine]) (ZA (S.blk 0 rfl) ty37 rfl (QM rfl) rfl rfl) rfl ?_)))))))
 obtain ⟨t4,ht5,H⟩:=QW H
 replace S:St w2 M F [_,_,_,_,_,_]:=S.pick [1,2,3,4,5,0] (by decide)
 refine Yc fn15 (Q5.con k M A0_8 c0_8 A0_9 c0_9 A0_10 c0_10 A0_11 c0_11 vs0_11 a0 a1 a2 bo0 t4 hm0_11 hg0 ht5) (Γ1:=[_,_,_,_,_]) (Γ2:=[_]) S rfl rfl ?_
 rintro _ w23 M24 Γ' hM25 E' S ⟨A6,c7,A9,c10,A12,c13,A15,c16,A18,c19,vs21,rfl,hm22,rfl⟩
 replace HM:=Hp.le_trans HM hM25
 replace E:=E.trans E'
 replace S:St w23 M24 F [_,_,_,_,_,_,_]:=S
 refine Zo S cz14 ty43 rfl rfl ?_
 intro b26 w27 E' S
 replace E:=E.trans E'
 refine Qx S 0 rfl ty43 rfl rfl [vI t4.1.Err,.bool t4.1.Found,vS t4.1.Value,.slice A6 t4.1.Pairs.length c7] rfl rfl rfl #[vI t4.1.Err,.bool t4.1.Found,vS t4.1.Value,.slice A6 t4.1.Pairs.length c7] rfl rfl ?_
 intro w29 E' S
 replace E:=E.trans E'
 refine QB (tn (QE (QA (W_v (pt b26 0) (QC (o:=0) (off:=0) Tryd.underlying43 rfl ty28 rfl rfl) rfl (W_v (vI t4.1.Err) (QO (S.blk 0 rfl) ty28 rfl rfl) rfl (W_v (vI a3) (QD rfl) rfl (W_v (.bool (t4.1.Err==a3)) (Qa rfl rfl rfl rfl) rfl (W_v (.bool (t4.1.Err==a3)) (QD rfl) rfl ?_))))))))
 refine ZH 5 (fun ρ w'=>Qi ρ [(5,vS a5),(13,pt b26 0),(27,.bool ((t4.1.Err==a3)&&(t4.1.Found==a4)))]∧w29=w') ?_ ?_
 ·rcases ZX (t4.1.Err==a3) with hb30 | hb30
  ·skip
   refine QZ (skT hb30) rfl (QZ (skT hb30) rfl (QZ (skT hb30) rfl (QZ (skT hb30) rfl (W_v (.bool false) (QV (k:=false) (congrArg Value.bool hb30) rfl) rfl (QB ?_)))))
   exact ⟨⟨rfl,rfl,(by first | rfl | (rw [hb30];rfl) | (simp only [hb30];rfl)),trivial⟩,rfl⟩
  ·skip
   refine QP (congrArg some hb30) (W_v (pt b26 1) (QC (o:=0) (off:=1) Tryd.underlying43 rfl ty4 rfl rfl) rfl (QP (congrArg some hb30) (W_v (.bool t4.1.Found) (QO (S.blk 0 rfl) ty4 rfl rfl) rfl (QP (congrArg some hb30) (W_v (.bool a4) (QD rfl) rfl (QP (congrArg some hb30) (W_v (.bool (t4.1.Found==a4)) (q8 Tryd.underlying4 rfl rfl) rfl (W_v (.bool (t4.1.Found==a4)) (QV (k:=true) (congrArg Value.bool hb30) rfl) rfl (QB ?_)))))))))
   exact ⟨⟨rfl,rfl,(by first | rfl | (rw [hb30];rfl) | (simp only [hb30];rfl)),trivial⟩,rfl⟩
 as_aux_lemma =>
 rintro ρ _ ⟨hρ,rfl⟩
 rw [QI hρ]
 refine W_v (.bool ((t4.1.Err==a3)&&(t4.1.Found==a4))) (QD rfl) rfl ?_
 refine ZH 5 (fun ρ w'=>Qi ρ [(13,pt b26 0),(33,.bool (((t4.1.Err==a3)&&(t4.1.Found==a4))&&(sbin .eql t4.1.Value a5)))]∧w29=w') ?_ ?_
 ·rcases ZX ((t4.1.Err==a3)&&(t4.1.Found==a4)) with hb31 | hb31
  ·skip
   refine QZ (skT hb31) rfl (QZ (skT hb31) rfl (QZ (skT hb31) rfl (QZ (skT hb31) rfl (W_v (.bool false) (QV (k:=false) (congrArg Value.bool hb31) rfl) rfl (QB ?_)))))
   exact ⟨⟨rfl,(by first | rfl | (rw [hb31];rfl) | (simp only [hb31];rfl)),trivial⟩,rfl⟩
  ·skip
   refine QP (congrArg some hb31) (W_v (pt b26 2) (QC (o:=0) (off:=2) Tryd.underlying43 rfl ty9 rfl rfl) rfl (QP (congrArg some hb31) (W_v (vS t4.1.Value) (QO (S.blk 0 rfl) ty9 rfl rfl) rfl (QP (congrArg some hb31) (W_v (vS a5) (QD rfl) rfl (QP (congrArg some hb31) (W_v (.bool (sbin .eql t4.1.Value a5)) (Xy rfl rfl rfl) rfl (W_v (.bool (sbin .eql t4.1.Value a5)) (QV (k:=true) (congrArg Value.bool hb31) rfl) rfl (QB ?_)))))))))
   exact ⟨⟨rfl,(by first | rfl | (rw [hb31];rfl) | (simp only [hb31];rfl)),trivial⟩,rfl⟩
 rintro ρ _ ⟨hρ,rfl⟩
 rw [QI hρ]
 refine W_v (.bool (((t4.1.Err==a3)&&(t4.1.Found==a4))&&(sbin .eql t4.1.Value a5))) (QD rfl) rfl ?_
 refine ZH 5 (fun ρ w'=>Qi ρ [(39,.bool ((((t4.1.Err==a3)&&(t4.1.Found==a4))&&(sbin .eql t4.1.Value a5))&&((t4.1.Pairs.length:Int)==(0:Int))))]∧w29=w') ?_ ?_
 ·rcases ZX (((t4.1.Err==a3)&&(t4.1.Found==a4))&&(sbin .eql t4.1.Value a5)) with hb32 | hb32
  ·skip
   refine QZ (skT hb32) rfl (QZ (skT hb32) rfl (QZ (skT hb32) rfl (QZ (skT hb32) rfl (W_v (.bool false) (QV (k:=false) (congrArg Value.bool hb32) rfl) rfl (QB ?_)))))
   exact ⟨⟨(by first | rfl | (rw [hb32];rfl) | (simp only [hb32];rfl)),trivial⟩,rfl⟩
  ·skip
   refine QP (congrArg some hb32) (W_v (pt b26 3) (QC (o:=0) (off:=3) Tryd.underlying43 rfl ty41 rfl rfl) rfl (QP (congrArg some hb32) (W_v (.slice A6 t4.1.Pairs.length c7) (QO (S.blk 0 rfl) ty41 rfl rfl) rfl (QP (congrArg some hb32) (W_v (vI (t4.1.Pairs.length:Int)) (Q8 (n:=t4.1.Pairs.length) Tryd.underlying41 rfl) rfl (QP (congrArg some hb32) (W_v (.bool ((t4.1.Pairs.length:Int)==(0:Int))) (Qa rfl rfl rfl rfl) rfl (W_v (.bool ((t4.1.Pairs.length:Int)==(0:Int))) (QV (k:=true) (congrArg Value.bool hb32) rfl) rfl (QB ?_)))))))))
   exact ⟨⟨(by first | rfl | (rw [hb32];rfl) | (simp only [hb32];rfl)),trivial⟩,rfl⟩
 rintro ρ _ ⟨hρ,rfl⟩
 rw [QI hρ]
 refine W_v (.bool ((((t4.1.Err==a3)&&(t4.1.Found==a4))&&(sbin .eql t4.1.Value a5))&&((t4.1.Pairs.length:Int)==(0:Int)))) (QG rfl) rfl (QB (tn ?_))
 refine Qs ?_
 obtain rfl:=Option.some.inj H
 exact ⟨_,_,_,fun w1 e1=>QX (vs:=[.bool ((((t4.1.Err==a3)&&(t4.1.Found==a4))&&(sbin .eql t4.1.Value a5))&&((t4.1.Pairs.length:Int)==(0:Int)))]) (FA.cons (rfl) (FA.nil)),HM,E,S.pick [2,3,4,5,6] (by decide),⟨A9,c10,A12,c13,A15,c16,A18,c19,vs21,rfl,hm22,rfl⟩⟩
def YN (k:Nat) (a0:QJ):Option (Int) :=
 some a0.clock
theorem YN.mono {k:Nat} {a0:QJ}:OLe (YN k a0) (YN (k+1) a0):=by
 unfold YN
 exact mo
theorem YN.con (k:Nat) (M:Hp) (A0_8:Option Addr) (c0_8:Nat) (A0_9:Option Addr) (c0_9:Nat) (A0_10:Option Addr) (c0_10:Nat) (A0_11:Option Addr) (c0_11:Nat) (vs0_11:List (Str×Value)) (a0:QJ) (bo0:Nat) (r:Int) (hm0_11:YV Qk M a0.rows vs0_11) (h:YN k a0=some r):Con Tryd.prog 19 #[pt bo0 0] M [B94 bo0 a0 A0_8 A0_9 A0_10 c0_10 A0_11,QT QF (Value.int .i64) A0_8 a0.names,QT (Value.int .i64) (Value.int .i64) A0_9 a0.many,Row QL 99 (.slice A0_10 a0.txs.length c0_10) a0.txs,QT encS (fun v:Value=>v) A0_11 vs0_11] (fun v M' Γ'=>v=vI r∧Γ'=[B94 bo0 a0 A0_8 A0_9 A0_10 c0_10 A0_11,QT QF (Value.int .i64) A0_8 a0.names,QT (Value.int .i64) (Value.int .i64) A0_9 a0.many,Row QL 99 (.slice A0_10 a0.txs.length c0_10) a0.txs,QT encS (fun v:Value=>v) A0_11 vs0_11]):=by
 refine Qt Tryd.func19 rfl Tryd.ntmps19 Tryd.results19 rfl ?_
 intro w F rn S hrn
 have E:=Ext.refl w
 have HM:=Hp.le_refl M
 have H:=h
 unfold YN at H
 refine QE (QA (W_v (vI 0) (QG rfl) rfl (QB (tn (QE (QE (QA (W_v (pt bo0 0) (QD rfl) rfl (W_v (.bool false) (Xe (r:=false) rfl rfl (XW Tryd.underlying27)) rfl (QB (tn (QK rfl (Qr (tn (QE ?_)))))))))))))))
 refine QA (W_v (pt bo0 0) (QD rfl) rfl (W_v (pt bo0 0) (Qo rfl) rfl (W_v (pt bo0 12) (QC (o:=0) (off:=12) Tryd.underlying94 rfl ty3 rfl rfl) rfl (W_v (vI a0.clock) (QO (S.blk 0 rfl) ty3 rfl rfl) rfl (W_v (vI a0.clock) (QG rfl) rfl (QB (tn ?_)))))))
 refine Qs ?_
 obtain rfl:=Option.some.inj H
 exact ⟨_,_,_,fun w1 e1=>QX (vs:=[vI a0.clock]) (FA.cons (rfl) (FA.nil)),HM,E,S.pick [0,1,2,3,4] (by decide),⟨rfl,rfl⟩⟩
def Zd (k:Nat) (a0:QJ) (a1:Str):Option ((List QS)) :=
 (Option.bind (Qz k (((mget a0.rows a1).getD cz18).l)) (fun t8=>some t8))
theorem Zd.mono {k:Nat} {a0:QJ} {a1:Str}:OLe (Zd k a0 a1) (Zd (k+1) a0 a1):=by
 unfold Zd
 have m1:=@Qz.mono
 exact mo
theorem Zd.con (k:Nat) (M:Hp) (A0_8:Option Addr) (c0_8:Nat) (A0_9:Option Addr) (c0_9:Nat) (A0_10:Option Addr) (c0_10:Nat) (A0_11:Option Addr) (c0_11:Nat) (vs0_11:List (Str×Value)) (a0:QJ) (a1:Str) (bo0:Nat) (r:(List QS)) (hm0_11:YV Qk M a0.rows vs0_11) (h:Zd k a0 a1=some r):Con Tryd.prog 26 #[pt bo0 0,vS a1] M [B94 bo0 a0 A0_8 A0_9 A0_10 c0_10 A0_11,QT QF (Value.int .i64) A0_8 a0.names,QT (Value.int .i64) (Value.int .i64) A0_9 a0.many,Row QL 99 (.slice A0_10 a0.txs.length c0_10) a0.txs,QT encS (fun v:Value=>v) A0_11 vs0_11] (fun v M' Γ'=>∃ (Aq1:Option Addr) (cq2:Nat),v=.slice Aq1 r.length cq2∧Γ'=[Row Q4 61 (.slice Aq1 r.length cq2) r,B94 bo0 a0 A0_8 A0_9 A0_10 c0_10 A0_11,QT QF (Value.int .i64) A0_8 a0.names,QT (Value.int .i64) (Value.int .i64) A0_9 a0.many,Row QL 99 (.slice A0_10 a0.txs.length c0_10) a0.txs,QT encS (fun v:Value=>v) A0_11 vs0_11]):=by
 refine Qt Tryd.func26 rfl Tryd.ntmps26 Tryd.results26 rfl ?_
 intro w F rn S hrn
 have E:=Ext.refl w
 have HM:=Hp.le_refl M
 have H:=h
 unfold Zd at H
 refine QE (QA (W_v (.slice none 0 0) (QG rfl) rfl (QB (tn (QE (QE (QA (W_v (pt bo0 0) (QD rfl) rfl (W_v (.bool false) (Xe (r:=false) rfl rfl (XW Tryd.underlying27)) rfl (QB (tn (QK rfl (Qr (tn (QE ?_)))))))))))))))
 refine QA (W_v (pt bo0 0) (QD rfl) rfl (W_v (pt bo0 0) (Qo rfl) rfl (W_v (pt bo0 11) (QC (o:=0) (off:=11) Tryd.underlying94 rfl ty91 rfl rfl) rfl (W_v (.map (mb A0_11)) (QO (S.blk 0 rfl) ty91 rfl rfl) rfl (W_v (vS a1) (QD rfl) rfl ?_)))))
 obtain ⟨cs1,hR2,he3⟩:=hm0_11.get a1 (z:=cz18) (zc:=[.slice none 0 0,vI 0,vI 0,.bool false,vS ([]:Str)]) ⟨_,SlW.nil _ _,rfl⟩
 obtain ⟨v7,hs6,rfl⟩:=hR2
 obtain ⟨A4,c5,rfl,_⟩:=hs6.form
 refine W_v (.agg #[.slice A4 (((mget a0.rows a1).getD cz18).l).length c5,vI (((mget a0.rows a1).getD cz18).intent.Writer),vI (((mget a0.rows a1).getD cz18).intent.TS),.bool (((mget a0.rows a1).getD cz18).intent.Tomb),vS (((mget a0.rows a1).getD cz18).intent.Value)]) ((Eq.trans (Xj S 4 rfl Tryd.underlying91 key9 (Value.agg cz9) (fun _=>ty101.zero) a1 rfl rfl) (by rw [show (mget vs0_11 a1).getD (Value.agg cz9)=_ from he3]))) rfl (W_v (.slice A4 (((mget a0.rows a1).getD cz18).l).length c5) (Un Tryd.underlying101 rfl rfl ty65 rfl) rfl ?_)
 obtain ⟨t8,ht9,H⟩:=QW H
 refine Zz fn45 (Qz.con k M A4 c5 (((mget a0.rows a1).getD cz18).l) t8 hs6 ht9) S rfl rfl (by rintro _ _ _ ⟨_,_,_,rfl⟩;exact (QN (YI (fun _ _ _ _ h=>h)) Qd)) ?_
 rintro _ w13 _ Γ' E' S ⟨A10,c11,rfl,rfl⟩
 replace E:=E.trans E'
 refine W_v (.slice A10 t8.length c11) (QG rfl) rfl (QB (tn ?_))
 refine Qs ?_
 obtain rfl:=Option.some.inj H
 exact ⟨_,_,_,fun w1 e1=>QX (vs:=[.slice A10 t8.length c11]) (FA.cons (rfl) (FA.nil)),HM,E,S.pick [0,1,2,3,4,5] (by decide),⟨A10,c11,rfl,rfl⟩⟩
def YF (k:Nat) :Option (Bool) :=
 (Option.bind (Y2 k ) (fun t1=>(Option.bind (Y6 k t1) (fun t4=>(Sum.elim (fun t6=>some false) (fun t7=>(Option.bind (Qv k (1:Int) (0:Int) ([]:Str) ([]:Str)) (fun t30=>(Option.bind (Qb k t7 (0:Int) t30 (0:Int) false ([]:Str)) (fun t33=>(Option.bind (α:=Bool×QJ) (if (!t33.1)=true then some (true,t33.2) else (Option.bind (Qv k (3:Int) (1:Int) ([97]:Str) ([49]:Str)) (fun t115=>(Option.bind (Qb k t33.2 (0:Int) t115 (0:Int) false ([]:Str)) (fun t118=>some ((!t118.1),t118.2)))))) (fun ⟨x97,x98⟩=>(Option.bind (α:=Bool×QJ) (if x97=true then some (true,x98) else (Option.bind (Qv k (1:Int) (0:Int) ([]:Str) ([]:Str)) (fun t203=>(Option.bind (Qb k x98 (1:Int) t203 (0:Int) false ([]:Str)) (fun t206=>some ((!t206.1),t206.2)))))) (fun ⟨x185,x186⟩=>(Option.bind (α:=Bool×QJ) (if x185=true then some (true,x186) else (Option.bind (Qv k (2:Int) (1:Int) ([97]:Str) ([]:Str)) (fun t291=>(Option.bind (Qb k x186 (1:Int) t291 (0:Int) false ([]:Str)) (fun t294=>some ((!t294.1),t294.2)))))) (fun ⟨x273,x274⟩=>(Option.bind (α:=Bool×QJ) (if x273=true then some (true,x274) else (Option.bind (Qv k (3:Int) (1:Int) ([97]:Str) ([50]:Str)) (fun t379=>(Option.bind (Qb k x274 (1:Int) t379 (33:Int) false ([]:Str)) (fun t382=>some ((!t382.1),t382.2)))))) (fun ⟨x361,x362⟩=>(if x361=true then some false else (Option.bind (Qv k (6:Int) (1:Int) ([]:Str) ([]:Str)) (fun t405=>(Option.bind (Qb k x362 (0:Int) t405 (0:Int) false ([]:Str)) (fun t408=>(Option.bind (α:=Bool) (if (!t408.1)=true then some (true) else (Option.bind (YN k t408.2) (fun t440=>some ((t440 != (1:Int)))))) (fun x438=>(Option.bind (α:=Bool×QJ) (if x438=true then some (true,t408.2) else (Option.bind (Qv k (2:Int) (1:Int) ([97]:Str) ([]:Str)) (fun t509=>(Option.bind (Qb k t408.2 (1:Int) t509 (0:Int) false ([]:Str)) (fun t512=>some ((!t512.1),t512.2)))))) (fun ⟨x491,x492⟩=>(Option.bind (α:=Bool×QJ) (if x491=true then some (true,x492) else (Option.bind (Qv k (3:Int) (1:Int) ([97]:Str) ([50]:Str)) (fun t597=>(Option.bind (Qb k x492 (1:Int) t597 (33:Int) false ([]:Str)) (fun t600=>some ((!t600.1),t600.2)))))) (fun ⟨x579,x580⟩=>(Option.bind (α:=Bool×QJ) (if x579=true then some (true,x580) else (Option.bind (Qv k (7:Int) (1:Int) ([]:Str) ([]:Str)) (fun t685=>(Option.bind (Qb k x580 (1:Int) t685 (0:Int) false ([]:Str)) (fun t688=>some ((!t688.1),t688.2)))))) (fun ⟨x667,x668⟩=>(Option.bind (α:=Bool×QJ) (if x667=true then some (true,x668) else (Option.bind (Qv k (1:Int) (0:Int) ([]:Str) ([]:Str)) (fun t773=>(Option.bind (Qb k x668 (1:Int) t773 (0:Int) false ([]:Str)) (fun t776=>some ((!t776.1),t776.2)))))) (fun ⟨x755,x756⟩=>(if x755=true then some false else (Option.bind (Qv k (2:Int) (2:Int) ([97]:Str) ([]:Str)) (fun t799=>(Option.bind (Qb k x756 (1:Int) t799 (0:Int) true ([49]:Str)) (fun t802=>(Option.bind (α:=Bool×QJ) (if (!t802.1)=true then some (true,t802.2) else (Option.bind (Qv k (4:Int) (2:Int) ([97]:Str) ([]:Str)) (fun t884=>(Option.bind (Qb k t802.2 (1:Int) t884 (0:Int) true ([]:Str)) (fun t887=>some ((!t887.1),t887.2)))))) (fun ⟨x866,x867⟩=>(Option.bind (α:=Bool×QJ) (if x866=true then some (true,x867) else (Option.bind (Qv k (2:Int) (2:Int) ([97]:Str) ([]:Str)) (fun t972=>(Option.bind (Qb k x867 (1:Int) t972 (0:Int) false ([]:Str)) (fun t975=>some ((!t975.1),t975.2)))))) (fun ⟨x954,x955⟩=>(Option.bind (α:=Bool×QJ) (if x954=true then some (true,x955) else (Option.bind (Qv k (6:Int) (2:Int) ([]:Str) ([]:Str)) (fun t1060=>(Option.bind (Qb k x955 (1:Int) t1060 (0:Int) false ([]:Str)) (fun t1063=>some ((!t1063.1),t1063.2)))))) (fun ⟨x1042,x1043⟩=>(if x1042=true then some false else (Option.bind (Zd k x1043 ([97]:Str)) (fun t1086=>(Option.bind (α:=Bool) (if ((t1086.length:Int) != (2:Int))=true then some (true) else (if 0≤(0:Int)∧(0:Int) < (t1086.length:Int) then some ((!((rd t1086 (0:Int)).Tomb))) else none)) (fun x1115=>(Option.bind (α:=Bool) (if x1115=true then some (true) else (if 0≤(0:Int)∧(0:Int) < (t1086.length:Int) then some (((rd t1086 (0:Int)).TS != (2:Int))) else none)) (fun x1149=>(Option.bind (α:=Bool) (if x1149=true then some (true) else (if 0≤(1:Int)∧(1:Int) < (t1086.length:Int) then some ((sbin .neq ((rd t1086 (1:Int)).Value) ([49]:Str))) else none)) (fun x1183=>(Option.bind (α:=Bool) (if x1183=true then some (true) else (if 0≤(1:Int)∧(1:Int) < (t1086.length:Int) then some (((rd t1086 (1:Int)).TS != (1:Int))) else none)) (fun x1217=>(if x1217=true then some false else (Option.bind (Qv k (1:Int) (0:Int) ([]:Str) ([]:Str)) (fun t1231=>(Option.bind (Qb k x1043 (0:Int) t1231 (0:Int) false ([]:Str)) (fun t1234=>(Option.bind (α:=Bool×QJ) (if t1234.1=true then (Option.bind (Qv k (3:Int) (2:Int) ([98]:Str) ([]:Str)) (fun t1316=>(Option.bind (Qb k t1234.2 (0:Int) t1316 (0:Int) false ([]:Str)) (fun t1319=>some (t1319.1,t1319.2))))) else some (false,t1234.2)) (fun ⟨x1298,x1299⟩=>(Option.bind (α:=Bool×QJ) (if x1298=true then (Option.bind (Qv k (6:Int) (2:Int) ([]:Str) ([]:Str)) (fun t1404=>(Option.bind (Qb k x1299 (0:Int) t1404 (35:Int) false ([]:Str)) (fun t1407=>some (t1407.1,t1407.2))))) else some (false,x1299)) (fun ⟨x1386,x1387⟩=>(Option.bind (α:=Bool×QJ) (if x1386=true then (Option.bind (Qv k (8:Int) (0:Int) ([]:Str) ([]:Str)) (fun t1492=>(Option.bind (Qb k x1387 (0:Int) t1492 (0:Int) false ([]:Str)) (fun t1495=>some (t1495.1,t1495.2))))) else some (false,x1387)) (fun ⟨x1474,x1475⟩=>(Option.bind (α:=Bool) (if x1474=true then (Option.bind (ZR k x1475) (fun t1536=>some (((t1536.length:Int)==(0:Int))))) else some (false)) (fun x1534=>some x1534)))))))))))))))))))))))))))))))))))))))))))))))))))))))))))))))) t4))))
theorem YF.mono {k:Nat} :OLe (YF k ) (YF (k+1) ):=by
 unfold YF
 have m1:=@Qb.mono
 have m2:=@Qv.mono
 have m3:=@Y2.mono
 have m4:=@YN.mono
 have m5:=@ZR.mono
 have m6:=@Zd.mono
 have m7:=@Y6.mono
 exact mo
theorem YF.con (k:Nat) (M:Hp)  (r:Bool)  (hg0:∃ gt fr,M 0=some (.cells cz1 gt fr)) (h:YF k =some r):Con Tryd.prog 11 #[] M [] (fun v M' Γ'=>v=.bool r∧Γ'=[]):=by
 refine Qt Tryd.func11 rfl Tryd.ntmps11 Tryd.results11 rfl ?_
 intro w F rn S hrn
 have E:=Ext.refl w
 have HM:=Hp.le_refl M
 have H:=h
 unfold YF at H
 refine QE (QA (W_v (.bool false) (QG rfl) rfl (QB (tn (QE (QA ?_))))))
 obtain ⟨t1,ht2,H⟩:=QW H
 refine Zz fn30 (Y2.con k M  t1  ht2) S rfl rfl (by rintro _ _ _ ⟨_,rfl⟩;exact Qd) ?_
 rintro _ w3 _ Γ' E' S ⟨rfl,rfl⟩
 replace E:=E.trans E'
 obtain ⟨t4,ht5,H⟩:=QW H
 rcases t4 with t6 | t7
 ·skip
  replace H:=elimL H
  refine Z5 fn13 (Y6.con k M t1 (Sum.inl t6)  ht5) (Γ1:=[]) (Γ2:=[]) S rfl rfl (by rintro _ _ _ ⟨rfl,rfl⟩;exact Qd) ?_
  rintro _ w8 _ Γ' E' S ⟨rfl,rfl⟩
  replace E:=E.trans E'
  replace S:St w8 M F []:=S
  refine W_v (.tuple #[.pointer none,vI 1]) (QD rfl) rfl (W_v (.pointer none) (ZB rfl rfl) rfl (W_v (vI 1) (ZB rfl rfl) rfl (W_v (.pointer none) (QG rfl) rfl (W_v (vI 1) (QG rfl) rfl (QB (tn (QE (QE (QA (W_v (vI 1) (QD rfl) rfl (W_v (.bool true) (Qa rfl rfl rfl rfl) rfl (W_v (.bool true) (QD rfl) rfl (QZ (rfl) rfl (QZ (rfl) rfl (QZ (rfl) rfl ?_)))))))))))))))
  refine QZ (rfl) rfl (W_v (.bool true) (QV (k:=true) rfl rfl) rfl (W_v (.bool true) (QD rfl) rfl (QZ (rfl) rfl (QZ (rfl) rfl (QZ (rfl) rfl (QZ (rfl) rfl (W_v (.bool true) (QV (k:=true) rfl rfl) rfl (W_v (.bool true) (QD rfl) rfl (QZ (rfl) rfl (QZ (rfl) rfl (QZ (rfl) rfl (QZ (rfl) rfl (W_v (.bool true) (QV (k:=true) rfl rfl) rfl (W_v (.bool true) (QD rfl) rfl (QZ (rfl) rfl ?_)))))))))))))))
  refine QZ (rfl) rfl (QZ (rfl) rfl (QZ (rfl) rfl (W_v (.bool true) (QV (k:=true) rfl rfl) rfl (W_v (.bool true) (QD rfl) rfl (QZ (rfl) rfl (QZ (rfl) rfl (QZ (rfl) rfl (QZ (rfl) rfl (W_v (.bool true) (QV (k:=true) rfl rfl) rfl (QB (tn (QQ rfl (QE (QA (W_v (.bool false) (QG rfl) rfl ?_)))))))))))))))
  refine QB (tn ?_)
  refine Qs ?_
  refine tr (?_)
  obtain rfl:=Option.some.inj H
  exact ⟨_,_,_,fun w1 e1=>QX (vs:=[.bool false]) (FA.cons (rfl) (FA.nil)),HM,E,S.pick [] (by decide),⟨rfl,rfl⟩⟩
 ·skip
  replace H:=elimR H
  refine Yc fn13 (Y6.con k M t1 (Sum.inr t7)  ht5) (Γ1:=[]) (Γ2:=[]) S rfl rfl ?_
  rintro _ w27 M28 Γ' hM29 E' S ⟨b11,A13,c14,A16,c17,A19,c20,A22,c23,vs25,rfl,hm26,rfl⟩
  replace hg0:=gup hg0 hM29
  replace HM:=Hp.le_trans HM hM29
  replace E:=E.trans E'
  replace S:St w27 M28 F [_,_,_,_,_]:=S
  refine W_v (.tuple #[pt b11 0,vI 0]) (QD rfl) rfl (W_v (pt b11 0) (ZB rfl rfl) rfl (W_v (vI 0) (ZB rfl rfl) rfl (W_v (pt b11 0) (QG rfl) rfl (W_v (vI 0) (QG rfl) rfl (QB (tn (QE (QE (QA (W_v (vI 0) (QD rfl) rfl (W_v (.bool false) (Qa rfl rfl rfl rfl) rfl (W_v (.bool false) (QD rfl) rfl (QP (rfl) (W_v (pt b11 0) (QD rfl) rfl (QP (rfl) ?_)))))))))))))))
  obtain ⟨t30,ht31,H⟩:=QW H
  refine Zz fn31 (Qv.con k M28 (1:Int) (0:Int) ([]:Str) ([]:Str) t30  ht31) S rfl rfl (by rintro _ _ _ ⟨_,rfl⟩;exact Qd) ?_
  rintro _ w32 _ Γ' E' S ⟨rfl,rfl⟩
  replace E:=E.trans E'
  refine QP (rfl) ?_
  obtain ⟨t33,ht34,H⟩:=QW H
  refine Yc fn32 (Qb.con k M28 A13 c14 A16 c17 A19 c20 A22 c23 vs25 t7 (0:Int) t30 (0:Int) false ([]:Str) b11 t33 hm26 hg0 ht34) (Γ1:=[_,_,_,_,_]) (Γ2:=[]) S rfl rfl ?_
  rintro _ w49 M50 Γ' hM51 E' S ⟨A35,c36,A38,c39,A41,c42,A44,c45,vs47,rfl,hm48,rfl⟩
  replace hg0:=gup hg0 hM51
  replace HM:=Hp.le_trans HM hM51
  replace E:=E.trans E'
  replace S:St w49 M50 F [_,_,_,_,_]:=S
  refine QP (rfl) (W_v (.bool (!t33.1)) (Y5 (b:=t33.1) rfl) rfl (W_v (.bool (!t33.1)) (QV (k:=false) rfl rfl) rfl (W_v (.bool (!t33.1)) (QD rfl) rfl ?_)))
  obtain ⟨o113,o113h,o113H⟩:=QW H
  refine ZH 5 (fun ρ w'=>∃ (x97:Bool) (x98:QJ) (A99:Option Addr) (c100:Nat) (A102:Option Addr) (c103:Nat) (A105:Option Addr) (c106:Nat) (A108:Option Addr) (c109:Nat) (vs111:List (Str×Value)) (Mj:Hp),(x97,x98)=o113∧Qi ρ [(1,pt b11 0),(22,.bool x97)]∧M50.le Mj∧Ext w w'∧St w' Mj F [QT encS (fun v:Value=>v) A108 vs111,Row QL 99 (.slice A105 x98.txs.length c106) x98.txs,QT (Value.int .i64) (Value.int .i64) A102 x98.many,QT QF (Value.int .i64) A99 x98.names,B94 b11 x98 A99 A102 A105 c106 A108]∧YV Qk Mj x98.rows vs111) ?_ ?_
  ·have H:=o113h
   have LE114:=Hp.le_refl M50
   rcases Zf H with ⟨hb96,H⟩ | ⟨hb96,H⟩
   ·skip
    refine QZ (skF hb96) rfl (QZ (skF hb96) rfl (QZ (skF hb96) rfl (QZ (skF hb96) rfl (W_v (.bool true) (QV (k:=true) (congrArg Value.bool hb96) rfl) rfl (QB ?_)))))
    exact ⟨true,t33.2,A35,c36,A38,c39,A41,c42,A44,c45,vs47,M50,Option.some.inj H,⟨rfl,rfl,trivial⟩,(Hp.le_refl M50),E,S.pick [4,3,2,1,0] (by decide),hm48⟩
   ·skip
    refine QP (congrArg some hb96) (W_v (pt b11 0) (QD rfl) rfl (QP (congrArg some hb96) ?_))
    obtain ⟨t115,ht116,H⟩:=QW H
    refine Zz fn31 (Qv.con k M50 (3:Int) (1:Int) ([97]:Str) ([49]:Str) t115  ht116) S rfl rfl (by rintro _ _ _ ⟨_,rfl⟩;exact Qd) ?_
    rintro _ w117 _ Γ' E' S ⟨rfl,rfl⟩
    replace E:=E.trans E'
    refine QP (congrArg some hb96) ?_
    obtain ⟨t118,ht119,H⟩:=QW H
    refine Yc fn32 (Qb.con k M50 A35 c36 A38 c39 A41 c42 A44 c45 vs47 t33.2 (0:Int) t115 (0:Int) false ([]:Str) b11 t118 hm48 hg0 ht119) (Γ1:=[_,_,_,_,_]) (Γ2:=[]) S rfl rfl ?_
    rintro _ w134 M135 Γ' hM136 E' S ⟨A120,c121,A123,c124,A126,c127,A129,c130,vs132,rfl,hm133,rfl⟩
    replace HM:=Hp.le_trans HM hM136
    replace LE114:=Hp.le_trans LE114 hM136
    replace E:=E.trans E'
    replace S:St w134 M135 F [_,_,_,_,_]:=S
    refine QP (congrArg some hb96) (W_v (.bool (!t118.1)) (Y5 (b:=t118.1) rfl) rfl (W_v (.bool (!t118.1)) (QV (k:=false) (congrArg Value.bool hb96) rfl) rfl (QB ?_)))
    exact ⟨(!t118.1),t118.2,A120,c121,A123,c124,A126,c127,A129,c130,vs132,M135,Option.some.inj H,⟨rfl,rfl,trivial⟩,LE114,E,S.pick [4,3,2,1,0] (by decide),hm133⟩
  as_aux_lemma =>
  rintro ρ w137 ⟨x97,x98,A99,c100,A102,c103,A105,c106,A108,c109,vs111,M138,rfl,hρ,hM139,E,S,hm112⟩
  rw [QI hρ]
  replace hg0:=gup hg0 hM139
  replace HM:=Hp.le_trans HM hM139
  have H:=o113H
  refine W_v (.bool x97) (QD rfl) rfl ?_
  obtain ⟨o201,o201h,o201H⟩:=QW H
  refine ZH 5 (fun ρ w'=>∃ (x185:Bool) (x186:QJ) (A187:Option Addr) (c188:Nat) (A190:Option Addr) (c191:Nat) (A193:Option Addr) (c194:Nat) (A196:Option Addr) (c197:Nat) (vs199:List (Str×Value)) (Mj:Hp),(x185,x186)=o201∧Qi ρ [(1,pt b11 0),(28,.bool x185)]∧M138.le Mj∧Ext w w'∧St w' Mj F [QT encS (fun v:Value=>v) A196 vs199,Row QL 99 (.slice A193 x186.txs.length c194) x186.txs,QT (Value.int .i64) (Value.int .i64) A190 x186.many,QT QF (Value.int .i64) A187 x186.names,B94 b11 x186 A187 A190 A193 c194 A196]∧YV Qk Mj x186.rows vs199) ?_ ?_
  ·have H:=o201h
   have LE202:=Hp.le_refl M138
   rcases Zf H with ⟨hb184,H⟩ | ⟨hb184,H⟩
   ·skip
    refine QZ (skF hb184) rfl (QZ (skF hb184) rfl (QZ (skF hb184) rfl (QZ (skF hb184) rfl (W_v (.bool true) (QV (k:=true) (congrArg Value.bool hb184) rfl) rfl (QB ?_)))))
    exact ⟨true,x98,A99,c100,A102,c103,A105,c106,A108,c109,vs111,M138,Option.some.inj H,⟨rfl,rfl,trivial⟩,(Hp.le_refl M138),E,S.pick [0,1,2,3,4] (by decide),hm112⟩
   ·skip
    refine QP (congrArg some hb184) (W_v (pt b11 0) (QD rfl) rfl (QP (congrArg some hb184) ?_))
    obtain ⟨t203,ht204,H⟩:=QW H
    refine Zz fn31 (Qv.con k M138 (1:Int) (0:Int) ([]:Str) ([]:Str) t203  ht204) S rfl rfl (by rintro _ _ _ ⟨_,rfl⟩;exact Qd) ?_
    rintro _ w205 _ Γ' E' S ⟨rfl,rfl⟩
    replace E:=E.trans E'
    refine QP (congrArg some hb184) ?_
    obtain ⟨t206,ht207,H⟩:=QW H
    replace S:St w205 M138 F [_,_,_,_,_]:=S.pick [4,3,2,1,0] (by decide)
    refine Yc fn32 (Qb.con k M138 A99 c100 A102 c103 A105 c106 A108 c109 vs111 x98 (1:Int) t203 (0:Int) false ([]:Str) b11 t206 hm112 hg0 ht207) (Γ1:=[_,_,_,_,_]) (Γ2:=[]) S rfl rfl ?_
    rintro _ w222 M223 Γ' hM224 E' S ⟨A208,c209,A211,c212,A214,c215,A217,c218,vs220,rfl,hm221,rfl⟩
    replace HM:=Hp.le_trans HM hM224
    replace LE202:=Hp.le_trans LE202 hM224
    replace E:=E.trans E'
    replace S:St w222 M223 F [_,_,_,_,_]:=S
    refine QP (congrArg some hb184) (W_v (.bool (!t206.1)) (Y5 (b:=t206.1) rfl) rfl (W_v (.bool (!t206.1)) (QV (k:=false) (congrArg Value.bool hb184) rfl) rfl (QB ?_)))
    exact ⟨(!t206.1),t206.2,A208,c209,A211,c212,A214,c215,A217,c218,vs220,M223,Option.some.inj H,⟨rfl,rfl,trivial⟩,LE202,E,S.pick [4,3,2,1,0] (by decide),hm221⟩
  as_aux_lemma =>
  rintro ρ w225 ⟨x185,x186,A187,c188,A190,c191,A193,c194,A196,c197,vs199,M226,rfl,hρ,hM227,E,S,hm200⟩
  rw [QI hρ]
  replace hg0:=gup hg0 hM227
  replace HM:=Hp.le_trans HM hM227
  have H:=o201H
  refine W_v (.bool x185) (QD rfl) rfl ?_
  obtain ⟨o289,o289h,o289H⟩:=QW H
  refine ZH 5 (fun ρ w'=>∃ (x273:Bool) (x274:QJ) (A275:Option Addr) (c276:Nat) (A278:Option Addr) (c279:Nat) (A281:Option Addr) (c282:Nat) (A284:Option Addr) (c285:Nat) (vs287:List (Str×Value)) (Mj:Hp),(x273,x274)=o289∧Qi ρ [(1,pt b11 0),(34,.bool x273)]∧M226.le Mj∧Ext w w'∧St w' Mj F [QT encS (fun v:Value=>v) A284 vs287,Row QL 99 (.slice A281 x274.txs.length c282) x274.txs,QT (Value.int .i64) (Value.int .i64) A278 x274.many,QT QF (Value.int .i64) A275 x274.names,B94 b11 x274 A275 A278 A281 c282 A284]∧YV Qk Mj x274.rows vs287) ?_ ?_
  ·as_aux_lemma =>
    have H:=o289h
    have LE290:=Hp.le_refl M226
    rcases Zf H with ⟨hb272,H⟩ | ⟨hb272,H⟩
    ·skip
     refine QZ (skF hb272) rfl (QZ (skF hb272) rfl (QZ (skF hb272) rfl (QZ (skF hb272) rfl (W_v (.bool true) (QV (k:=true) (congrArg Value.bool hb272) rfl) rfl (QB ?_)))))
     exact ⟨true,x186,A187,c188,A190,c191,A193,c194,A196,c197,vs199,M226,Option.some.inj H,⟨rfl,rfl,trivial⟩,(Hp.le_refl M226),E,S.pick [0,1,2,3,4] (by decide),hm200⟩
    ·skip
     refine QP (congrArg some hb272) (W_v (pt b11 0) (QD rfl) rfl (QP (congrArg some hb272) ?_))
     obtain ⟨t291,ht292,H⟩:=QW H
     refine Zz fn31 (Qv.con k M226 (2:Int) (1:Int) ([97]:Str) ([]:Str) t291  ht292) S rfl rfl (by rintro _ _ _ ⟨_,rfl⟩;exact Qd) ?_
     rintro _ w293 _ Γ' E' S ⟨rfl,rfl⟩
     replace E:=E.trans E'
     refine QP (congrArg some hb272) ?_
     obtain ⟨t294,ht295,H⟩:=QW H
     replace S:St w293 M226 F [_,_,_,_,_]:=S.pick [4,3,2,1,0] (by decide)
     refine Yc fn32 (Qb.con k M226 A187 c188 A190 c191 A193 c194 A196 c197 vs199 x186 (1:Int) t291 (0:Int) false ([]:Str) b11 t294 hm200 hg0 ht295) (Γ1:=[_,_,_,_,_]) (Γ2:=[]) S rfl rfl ?_
     rintro _ w310 M311 Γ' hM312 E' S ⟨A296,c297,A299,c300,A302,c303,A305,c306,vs308,rfl,hm309,rfl⟩
     replace HM:=Hp.le_trans HM hM312
     replace LE290:=Hp.le_trans LE290 hM312
     replace E:=E.trans E'
     replace S:St w310 M311 F [_,_,_,_,_]:=S
     refine QP (congrArg some hb272) (W_v (.bool (!t294.1)) (Y5 (b:=t294.1) rfl) rfl (W_v (.bool (!t294.1)) (QV (k:=false) (congrArg Value.bool hb272) rfl) rfl (QB ?_)))
     exact ⟨(!t294.1),t294.2,A296,c297,A299,c300,A302,c303,A305,c306,vs308,M311,Option.some.inj H,⟨rfl,rfl,trivial⟩,LE290,E,S.pick [4,3,2,1,0] (by decide),hm309⟩
  as_aux_lemma =>
  rintro ρ w313 ⟨x273,x274,A275,c276,A278,c279,A281,c282,A284,c285,vs287,M314,rfl,hρ,hM315,E,S,hm288⟩
  rw [QI hρ]
  replace hg0:=gup hg0 hM315
  replace HM:=Hp.le_trans HM hM315
  have H:=o289H
  refine W_v (.bool x273) (QD rfl) rfl ?_
  obtain ⟨o377,o377h,o377H⟩:=QW H
  refine ZH 5 (fun ρ w'=>∃ (x361:Bool) (x362:QJ) (A363:Option Addr) (c364:Nat) (A366:Option Addr) (c367:Nat) (A369:Option Addr) (c370:Nat) (A372:Option Addr) (c373:Nat) (vs375:List (Str×Value)) (Mj:Hp),(x361,x362)=o377∧Qi ρ [(1,pt b11 0),(40,.bool x361)]∧M314.le Mj∧Ext w w'∧St w' Mj F [QT encS (fun v:Value=>v) A372 vs375,Row QL 99 (.slice A369 x362.txs.length c370) x362.txs,QT (Value.int .i64) (Value.int .i64) A366 x362.many,QT QF (Value.int .i64) A363 x362.names,B94 b11 x362 A363 A366 A369 c370 A372]∧YV Qk Mj x362.rows vs375) ?_ ?_
  ·as_aux_lemma =>
    have H:=o377h
    have LE378:=Hp.le_refl M314
    rcases Zf H with ⟨hb360,H⟩ | ⟨hb360,H⟩
    ·skip
     refine QZ (skF hb360) rfl (QZ (skF hb360) rfl (QZ (skF hb360) rfl (QZ (skF hb360) rfl (W_v (.bool true) (QV (k:=true) (congrArg Value.bool hb360) rfl) rfl (QB ?_)))))
     exact ⟨true,x274,A275,c276,A278,c279,A281,c282,A284,c285,vs287,M314,Option.some.inj H,⟨rfl,rfl,trivial⟩,(Hp.le_refl M314),E,S.pick [0,1,2,3,4] (by decide),hm288⟩
    ·skip
     refine QP (congrArg some hb360) (W_v (pt b11 0) (QD rfl) rfl (QP (congrArg some hb360) ?_))
     obtain ⟨t379,ht380,H⟩:=QW H
     refine Zz fn31 (Qv.con k M314 (3:Int) (1:Int) ([97]:Str) ([50]:Str) t379  ht380) S rfl rfl (by rintro _ _ _ ⟨_,rfl⟩;exact Qd) ?_
     rintro _ w381 _ Γ' E' S ⟨rfl,rfl⟩
     replace E:=E.trans E'
     refine QP (congrArg some hb360) ?_
     obtain ⟨t382,ht383,H⟩:=QW H
     replace S:St w381 M314 F [_,_,_,_,_]:=S.pick [4,3,2,1,0] (by decide)
     refine Yc fn32 (Qb.con k M314 A275 c276 A278 c279 A281 c282 A284 c285 vs287 x274 (1:Int) t379 (33:Int) false ([]:Str) b11 t382 hm288 hg0 ht383) (Γ1:=[_,_,_,_,_]) (Γ2:=[]) S rfl rfl ?_
     rintro _ w398 M399 Γ' hM400 E' S ⟨A384,c385,A387,c388,A390,c391,A393,c394,vs396,rfl,hm397,rfl⟩
     replace HM:=Hp.le_trans HM hM400
     replace LE378:=Hp.le_trans LE378 hM400
     replace E:=E.trans E'
     replace S:St w398 M399 F [_,_,_,_,_]:=S
     refine QP (congrArg some hb360) (W_v (.bool (!t382.1)) (Y5 (b:=t382.1) rfl) rfl (W_v (.bool (!t382.1)) (QV (k:=false) (congrArg Value.bool hb360) rfl) rfl (QB ?_)))
     exact ⟨(!t382.1),t382.2,A384,c385,A387,c388,A390,c391,A393,c394,vs396,M399,Option.some.inj H,⟨rfl,rfl,trivial⟩,LE378,E,S.pick [4,3,2,1,0] (by decide),hm397⟩
  as_aux_lemma =>
  rintro ρ w401 ⟨x361,x362,A363,c364,A366,c367,A369,c370,A372,c373,vs375,M402,rfl,hρ,hM403,E,S,hm376⟩
  rw [QI hρ]
  replace hg0:=gup hg0 hM403
  replace HM:=Hp.le_trans HM hM403
  have H:=o377H
  refine QB (tn ?_)
  rcases Zf H with ⟨hb404,H⟩ | ⟨hb404,H⟩
  ·refine QQ (congrArg Value.bool hb404) ?_
   refine QE (QA (W_v (.bool false) (QG rfl) rfl (QB (tn ?_))))
   refine Qs ?_
   refine tr (?_)
   obtain rfl:=Option.some.inj H
   exact ⟨_,_,_,fun w1 e1=>QX (vs:=[.bool false]) (FA.cons (rfl) (FA.nil)),HM,E,S.pick [] (by decide),⟨rfl,rfl⟩⟩
  refine QK (congrArg Value.bool hb404) (Qr (tn (QE (QE (QA (W_v (pt b11 0) (QD rfl) rfl ?_))))))
  obtain ⟨t405,ht406,H⟩:=QW H
  refine Zz fn31 (Qv.con k M402 (6:Int) (1:Int) ([]:Str) ([]:Str) t405  ht406) S rfl rfl (by rintro _ _ _ ⟨_,rfl⟩;exact Qd) ?_
  rintro _ w407 _ Γ' E' S ⟨rfl,rfl⟩
  replace E:=E.trans E'
  obtain ⟨t408,ht409,H⟩:=QW H
  replace S:St w407 M402 F [_,_,_,_,_]:=S.pick [4,3,2,1,0] (by decide)
  refine Yc fn32 (Qb.con k M402 A363 c364 A366 c367 A369 c370 A372 c373 vs375 x362 (0:Int) t405 (0:Int) false ([]:Str) b11 t408 hm376 hg0 ht409) (Γ1:=[_,_,_,_,_]) (Γ2:=[]) S rfl rfl ?_
  rintro _ w424 M425 Γ' hM426 E' S ⟨A410,c411,A413,c414,A416,c417,A419,c420,vs422,rfl,hm423,rfl⟩
  replace hg0:=gup hg0 hM426
  replace HM:=Hp.le_trans HM hM426
  replace E:=E.trans E'
  replace S:St w424 M425 F [_,_,_,_,_]:=S
  refine W_v (.bool (!t408.1)) (Y5 (b:=t408.1) rfl) rfl (W_v (.bool (!t408.1)) (QD rfl) rfl ?_)
  obtain ⟨o439,o439h,o439H⟩:=QW H
  refine ZH 4 (fun ρ w'=>∃ (x438:Bool),(x438)=o439∧Qi ρ [(1,pt b11 0),(49,.bool x438)]∧Ext w w'∧St w' M425 F [B94 b11 t408.2 A410 A413 A416 c417 A419,QT QF (Value.int .i64) A410 t408.2.names,QT (Value.int .i64) (Value.int .i64) A413 t408.2.many,Row QL 99 (.slice A416 t408.2.txs.length c417) t408.2.txs,QT encS (fun v:Value=>v) A419 vs422]) ?_ ?_
  ·have H:=o439h
   rcases Zf H with ⟨hb437,H⟩ | ⟨hb437,H⟩
   ·skip
    refine QZ (skF hb437) rfl (QZ (skF hb437) rfl (QZ (skF hb437) rfl (W_v (.bool true) (QV (k:=true) (congrArg Value.bool hb437) rfl) rfl (QB ?_))))
    exact ⟨true,Option.some.inj H,⟨rfl,rfl,trivial⟩,E,S.pick [0,1,2,3,4] (by decide)⟩
   ·skip
    refine QP (congrArg some hb437) (W_v (pt b11 0) (QD rfl) rfl (QP (congrArg some hb437) ?_))
    obtain ⟨t440,ht441,H⟩:=QW H
    refine Z5 fn19 (YN.con k M425 A410 c411 A413 c414 A416 c417 A419 c420 vs422 t408.2 b11 t440 hm423 ht441) (Γ1:=[_,_,_,_,_]) (Γ2:=[]) S rfl rfl (by rintro _ _ _ ⟨rfl,rfl⟩;exact (QN ZW (QN Qu (QN Qu (QN (YI (fun _ _ _ _ h=>h)) (QN Qu Qd)))))) ?_
    rintro _ w442 _ Γ' E' S ⟨rfl,rfl⟩
    replace E:=E.trans E'
    replace S:St w442 M425 F [_,_,_,_,_]:=S
    refine QP (congrArg some hb437) (W_v (.bool (t440 != (1:Int))) (Qa rfl rfl rfl rfl) rfl (W_v (.bool (t440 != (1:Int))) (QV (k:=false) (congrArg Value.bool hb437) rfl) rfl (QB ?_)))
    exact ⟨(t440 != (1:Int)),Option.some.inj H,⟨rfl,rfl,trivial⟩,E,S.pick [0,1,2,3,4] (by decide)⟩
  as_aux_lemma =>
  rintro ρ w445 ⟨x438,rfl,hρ,E,S⟩
  rw [QI hρ]
  have H:=o439H
  refine W_v (.bool x438) (QD rfl) rfl ?_
  obtain ⟨o507,o507h,o507H⟩:=QW H
  refine ZH 5 (fun ρ w'=>∃ (x491:Bool) (x492:QJ) (A493:Option Addr) (c494:Nat) (A496:Option Addr) (c497:Nat) (A499:Option Addr) (c500:Nat) (A502:Option Addr) (c503:Nat) (vs505:List (Str×Value)) (Mj:Hp),(x491,x492)=o507∧Qi ρ [(1,pt b11 0),(55,.bool x491)]∧M425.le Mj∧Ext w w'∧St w' Mj F [QT encS (fun v:Value=>v) A502 vs505,Row QL 99 (.slice A499 x492.txs.length c500) x492.txs,QT (Value.int .i64) (Value.int .i64) A496 x492.many,QT QF (Value.int .i64) A493 x492.names,B94 b11 x492 A493 A496 A499 c500 A502]∧YV Qk Mj x492.rows vs505) ?_ ?_
  ·as_aux_lemma =>
    have H:=o507h
    have LE508:=Hp.le_refl M425
    rcases Zf H with ⟨hb490,H⟩ | ⟨hb490,H⟩
    ·skip
     refine QZ (skF hb490) rfl (QZ (skF hb490) rfl (QZ (skF hb490) rfl (QZ (skF hb490) rfl (W_v (.bool true) (QV (k:=true) (congrArg Value.bool hb490) rfl) rfl (QB ?_)))))
     exact ⟨true,t408.2,A410,c411,A413,c414,A416,c417,A419,c420,vs422,M425,Option.some.inj H,⟨rfl,rfl,trivial⟩,(Hp.le_refl M425),E,S.pick [4,3,2,1,0] (by decide),hm423⟩
    ·skip
     refine QP (congrArg some hb490) (W_v (pt b11 0) (QD rfl) rfl (QP (congrArg some hb490) ?_))
     obtain ⟨t509,ht510,H⟩:=QW H
     refine Zz fn31 (Qv.con k M425 (2:Int) (1:Int) ([97]:Str) ([]:Str) t509  ht510) S rfl rfl (by rintro _ _ _ ⟨_,rfl⟩;exact Qd) ?_
     rintro _ w511 _ Γ' E' S ⟨rfl,rfl⟩
     replace E:=E.trans E'
     refine QP (congrArg some hb490) ?_
     obtain ⟨t512,ht513,H⟩:=QW H
     refine Yc fn32 (Qb.con k M425 A410 c411 A413 c414 A416 c417 A419 c420 vs422 t408.2 (1:Int) t509 (0:Int) false ([]:Str) b11 t512 hm423 hg0 ht513) (Γ1:=[_,_,_,_,_]) (Γ2:=[]) S rfl rfl ?_
     rintro _ w528 M529 Γ' hM530 E' S ⟨A514,c515,A517,c518,A520,c521,A523,c524,vs526,rfl,hm527,rfl⟩
     replace HM:=Hp.le_trans HM hM530
     replace LE508:=Hp.le_trans LE508 hM530
     replace E:=E.trans E'
     replace S:St w528 M529 F [_,_,_,_,_]:=S
     refine QP (congrArg some hb490) (W_v (.bool (!t512.1)) (Y5 (b:=t512.1) rfl) rfl (W_v (.bool (!t512.1)) (QV (k:=false) (congrArg Value.bool hb490) rfl) rfl (QB ?_)))
     exact ⟨(!t512.1),t512.2,A514,c515,A517,c518,A520,c521,A523,c524,vs526,M529,Option.some.inj H,⟨rfl,rfl,trivial⟩,LE508,E,S.pick [4,3,2,1,0] (by decide),hm527⟩
  as_aux_lemma =>
  rintro ρ w531 ⟨x491,x492,A493,c494,A496,c497,A499,c500,A502,c503,vs505,M532,rfl,hρ,hM533,E,S,hm506⟩
  rw [QI hρ]
  replace hg0:=gup hg0 hM533
  replace HM:=Hp.le_trans HM hM533
  have H:=o507H
  refine W_v (.bool x491) (QD rfl) rfl ?_
  obtain ⟨o595,o595h,o595H⟩:=QW H
  refine ZH 5 (fun ρ w'=>∃ (x579:Bool) (x580:QJ) (A581:Option Addr) (c582:Nat) (A584:Option Addr) (c585:Nat) (A587:Option Addr) (c588:Nat) (A590:Option Addr) (c591:Nat) (vs593:List (Str×Value)) (Mj:Hp),(x579,x580)=o595∧Qi ρ [(1,pt b11 0),(61,.bool x579)]∧M532.le Mj∧Ext w w'∧St w' Mj F [QT encS (fun v:Value=>v) A590 vs593,Row QL 99 (.slice A587 x580.txs.length c588) x580.txs,QT (Value.int .i64) (Value.int .i64) A584 x580.many,QT QF (Value.int .i64) A581 x580.names,B94 b11 x580 A581 A584 A587 c588 A590]∧YV Qk Mj x580.rows vs593) ?_ ?_
  ·as_aux_lemma =>
    have H:=o595h
    have LE596:=Hp.le_refl M532
    rcases Zf H with ⟨hb578,H⟩ | ⟨hb578,H⟩
    ·skip
     refine QZ (skF hb578) rfl (QZ (skF hb578) rfl (QZ (skF hb578) rfl (QZ (skF hb578) rfl (W_v (.bool true) (QV (k:=true) (congrArg Value.bool hb578) rfl) rfl (QB ?_)))))
     exact ⟨true,x492,A493,c494,A496,c497,A499,c500,A502,c503,vs505,M532,Option.some.inj H,⟨rfl,rfl,trivial⟩,(Hp.le_refl M532),E,S.pick [0,1,2,3,4] (by decide),hm506⟩
    ·skip
     refine QP (congrArg some hb578) (W_v (pt b11 0) (QD rfl) rfl (QP (congrArg some hb578) ?_))
     obtain ⟨t597,ht598,H⟩:=QW H
     refine Zz fn31 (Qv.con k M532 (3:Int) (1:Int) ([97]:Str) ([50]:Str) t597  ht598) S rfl rfl (by rintro _ _ _ ⟨_,rfl⟩;exact Qd) ?_
     rintro _ w599 _ Γ' E' S ⟨rfl,rfl⟩
     replace E:=E.trans E'
     refine QP (congrArg some hb578) ?_
     obtain ⟨t600,ht601,H⟩:=QW H
     replace S:St w599 M532 F [_,_,_,_,_]:=S.pick [4,3,2,1,0] (by decide)
     refine Yc fn32 (Qb.con k M532 A493 c494 A496 c497 A499 c500 A502 c503 vs505 x492 (1:Int) t597 (33:Int) false ([]:Str) b11 t600 hm506 hg0 ht601) (Γ1:=[_,_,_,_,_]) (Γ2:=[]) S rfl rfl ?_
     rintro _ w616 M617 Γ' hM618 E' S ⟨A602,c603,A605,c606,A608,c609,A611,c612,vs614,rfl,hm615,rfl⟩
     replace HM:=Hp.le_trans HM hM618
     replace LE596:=Hp.le_trans LE596 hM618
     replace E:=E.trans E'
     replace S:St w616 M617 F [_,_,_,_,_]:=S
     refine QP (congrArg some hb578) (W_v (.bool (!t600.1)) (Y5 (b:=t600.1) rfl) rfl (W_v (.bool (!t600.1)) (QV (k:=false) (congrArg Value.bool hb578) rfl) rfl (QB ?_)))
     exact ⟨(!t600.1),t600.2,A602,c603,A605,c606,A608,c609,A611,c612,vs614,M617,Option.some.inj H,⟨rfl,rfl,trivial⟩,LE596,E,S.pick [4,3,2,1,0] (by decide),hm615⟩
  as_aux_lemma =>
  rintro ρ w619 ⟨x579,x580,A581,c582,A584,c585,A587,c588,A590,c591,vs593,M620,rfl,hρ,hM621,E,S,hm594⟩
  rw [QI hρ]
  replace hg0:=gup hg0 hM621
  replace HM:=Hp.le_trans HM hM621
  have H:=o595H
  refine W_v (.bool x579) (QD rfl) rfl ?_
  obtain ⟨o683,o683h,o683H⟩:=QW H
  refine ZH 5 (fun ρ w'=>∃ (x667:Bool) (x668:QJ) (A669:Option Addr) (c670:Nat) (A672:Option Addr) (c673:Nat) (A675:Option Addr) (c676:Nat) (A678:Option Addr) (c679:Nat) (vs681:List (Str×Value)) (Mj:Hp),(x667,x668)=o683∧Qi ρ [(1,pt b11 0),(67,.bool x667)]∧M620.le Mj∧Ext w w'∧St w' Mj F [QT encS (fun v:Value=>v) A678 vs681,Row QL 99 (.slice A675 x668.txs.length c676) x668.txs,QT (Value.int .i64) (Value.int .i64) A672 x668.many,QT QF (Value.int .i64) A669 x668.names,B94 b11 x668 A669 A672 A675 c676 A678]∧YV Qk Mj x668.rows vs681) ?_ ?_
  ·as_aux_lemma =>
    have H:=o683h
    have LE684:=Hp.le_refl M620
    rcases Zf H with ⟨hb666,H⟩ | ⟨hb666,H⟩
    ·skip
     refine QZ (skF hb666) rfl (QZ (skF hb666) rfl (QZ (skF hb666) rfl (QZ (skF hb666) rfl (W_v (.bool true) (QV (k:=true) (congrArg Value.bool hb666) rfl) rfl (QB ?_)))))
     exact ⟨true,x580,A581,c582,A584,c585,A587,c588,A590,c591,vs593,M620,Option.some.inj H,⟨rfl,rfl,trivial⟩,(Hp.le_refl M620),E,S.pick [0,1,2,3,4] (by decide),hm594⟩
    ·skip
     refine QP (congrArg some hb666) (W_v (pt b11 0) (QD rfl) rfl (QP (congrArg some hb666) ?_))
     obtain ⟨t685,ht686,H⟩:=QW H
     refine Zz fn31 (Qv.con k M620 (7:Int) (1:Int) ([]:Str) ([]:Str) t685  ht686) S rfl rfl (by rintro _ _ _ ⟨_,rfl⟩;exact Qd) ?_
     rintro _ w687 _ Γ' E' S ⟨rfl,rfl⟩
     replace E:=E.trans E'
     refine QP (congrArg some hb666) ?_
     obtain ⟨t688,ht689,H⟩:=QW H
     replace S:St w687 M620 F [_,_,_,_,_]:=S.pick [4,3,2,1,0] (by decide)
     refine Yc fn32 (Qb.con k M620 A581 c582 A584 c585 A587 c588 A590 c591 vs593 x580 (1:Int) t685 (0:Int) false ([]:Str) b11 t688 hm594 hg0 ht689) (Γ1:=[_,_,_,_,_]) (Γ2:=[]) S rfl rfl ?_
     rintro _ w704 M705 Γ' hM706 E' S ⟨A690,c691,A693,c694,A696,c697,A699,c700,vs702,rfl,hm703,rfl⟩
     replace HM:=Hp.le_trans HM hM706
     replace LE684:=Hp.le_trans LE684 hM706
     replace E:=E.trans E'
     replace S:St w704 M705 F [_,_,_,_,_]:=S
     refine QP (congrArg some hb666) (W_v (.bool (!t688.1)) (Y5 (b:=t688.1) rfl) rfl (W_v (.bool (!t688.1)) (QV (k:=false) (congrArg Value.bool hb666) rfl) rfl (QB ?_)))
     exact ⟨(!t688.1),t688.2,A690,c691,A693,c694,A696,c697,A699,c700,vs702,M705,Option.some.inj H,⟨rfl,rfl,trivial⟩,LE684,E,S.pick [4,3,2,1,0] (by decide),hm703⟩
  as_aux_lemma =>
  rintro ρ w707 ⟨x667,x668,A669,c670,A672,c673,A675,c676,A678,c679,vs681,M708,rfl,hρ,hM709,E,S,hm682⟩
  rw [QI hρ]
  replace hg0:=gup hg0 hM709
  replace HM:=Hp.le_trans HM hM709
  have H:=o683H
  refine W_v (.bool x667) (QD rfl) rfl ?_
  obtain ⟨o771,o771h,o771H⟩:=QW H
  refine ZH 5 (fun ρ w'=>∃ (x755:Bool) (x756:QJ) (A757:Option Addr) (c758:Nat) (A760:Option Addr) (c761:Nat) (A763:Option Addr) (c764:Nat) (A766:Option Addr) (c767:Nat) (vs769:List (Str×Value)) (Mj:Hp),(x755,x756)=o771∧Qi ρ [(1,pt b11 0),(73,.bool x755)]∧M708.le Mj∧Ext w w'∧St w' Mj F [QT encS (fun v:Value=>v) A766 vs769,Row QL 99 (.slice A763 x756.txs.length c764) x756.txs,QT (Value.int .i64) (Value.int .i64) A760 x756.many,QT QF (Value.int .i64) A757 x756.names,B94 b11 x756 A757 A760 A763 c764 A766]∧YV Qk Mj x756.rows vs769) ?_ ?_
  ·as_aux_lemma =>
    have H:=o771h
    have LE772:=Hp.le_refl M708
    rcases Zf H with ⟨hb754,H⟩ | ⟨hb754,H⟩
    ·skip
     refine QZ (skF hb754) rfl (QZ (skF hb754) rfl (QZ (skF hb754) rfl (QZ (skF hb754) rfl (W_v (.bool true) (QV (k:=true) (congrArg Value.bool hb754) rfl) rfl (QB ?_)))))
     exact ⟨true,x668,A669,c670,A672,c673,A675,c676,A678,c679,vs681,M708,Option.some.inj H,⟨rfl,rfl,trivial⟩,(Hp.le_refl M708),E,S.pick [0,1,2,3,4] (by decide),hm682⟩
    ·skip
     refine QP (congrArg some hb754) (W_v (pt b11 0) (QD rfl) rfl (QP (congrArg some hb754) ?_))
     obtain ⟨t773,ht774,H⟩:=QW H
     refine Zz fn31 (Qv.con k M708 (1:Int) (0:Int) ([]:Str) ([]:Str) t773  ht774) S rfl rfl (by rintro _ _ _ ⟨_,rfl⟩;exact Qd) ?_
     rintro _ w775 _ Γ' E' S ⟨rfl,rfl⟩
     replace E:=E.trans E'
     refine QP (congrArg some hb754) ?_
     obtain ⟨t776,ht777,H⟩:=QW H
     replace S:St w775 M708 F [_,_,_,_,_]:=S.pick [4,3,2,1,0] (by decide)
     refine Yc fn32 (Qb.con k M708 A669 c670 A672 c673 A675 c676 A678 c679 vs681 x668 (1:Int) t773 (0:Int) false ([]:Str) b11 t776 hm682 hg0 ht777) (Γ1:=[_,_,_,_,_]) (Γ2:=[]) S rfl rfl ?_
     rintro _ w792 M793 Γ' hM794 E' S ⟨A778,c779,A781,c782,A784,c785,A787,c788,vs790,rfl,hm791,rfl⟩
     replace HM:=Hp.le_trans HM hM794
     replace LE772:=Hp.le_trans LE772 hM794
     replace E:=E.trans E'
     replace S:St w792 M793 F [_,_,_,_,_]:=S
     refine QP (congrArg some hb754) (W_v (.bool (!t776.1)) (Y5 (b:=t776.1) rfl) rfl (W_v (.bool (!t776.1)) (QV (k:=false) (congrArg Value.bool hb754) rfl) rfl (QB ?_)))
     exact ⟨(!t776.1),t776.2,A778,c779,A781,c782,A784,c785,A787,c788,vs790,M793,Option.some.inj H,⟨rfl,rfl,trivial⟩,LE772,E,S.pick [4,3,2,1,0] (by decide),hm791⟩
  as_aux_lemma =>
  rintro ρ w795 ⟨x755,x756,A757,c758,A760,c761,A763,c764,A766,c767,vs769,M796,rfl,hρ,hM797,E,S,hm770⟩
  rw [QI hρ]
  replace hg0:=gup hg0 hM797
  replace HM:=Hp.le_trans HM hM797
  have H:=o771H
  refine QB (tn ?_)
  rcases Zf H with ⟨hb798,H⟩ | ⟨hb798,H⟩
  ·refine QQ (congrArg Value.bool hb798) ?_
   refine QE (QA (W_v (.bool false) (QG rfl) rfl (QB (tn ?_))))
   refine Qs ?_
   refine tr (?_)
   obtain rfl:=Option.some.inj H
   exact ⟨_,_,_,fun w1 e1=>QX (vs:=[.bool false]) (FA.cons (rfl) (FA.nil)),HM,E,S.pick [] (by decide),⟨rfl,rfl⟩⟩
  refine QK (congrArg Value.bool hb798) (Qr (tn (QE (QE (QA (W_v (pt b11 0) (QD rfl) rfl ?_))))))
  obtain ⟨t799,ht800,H⟩:=QW H
  refine Zz fn31 (Qv.con k M796 (2:Int) (2:Int) ([97]:Str) ([]:Str) t799  ht800) S rfl rfl (by rintro _ _ _ ⟨_,rfl⟩;exact Qd) ?_
  rintro _ w801 _ Γ' E' S ⟨rfl,rfl⟩
  replace E:=E.trans E'
  obtain ⟨t802,ht803,H⟩:=QW H
  replace S:St w801 M796 F [_,_,_,_,_]:=S.pick [4,3,2,1,0] (by decide)
  refine Yc fn32 (Qb.con k M796 A757 c758 A760 c761 A763 c764 A766 c767 vs769 x756 (1:Int) t799 (0:Int) true ([49]:Str) b11 t802 hm770 hg0 ht803) (Γ1:=[_,_,_,_,_]) (Γ2:=[]) S rfl rfl ?_
  rintro _ w818 M819 Γ' hM820 E' S ⟨A804,c805,A807,c808,A810,c811,A813,c814,vs816,rfl,hm817,rfl⟩
  replace hg0:=gup hg0 hM820
  replace HM:=Hp.le_trans HM hM820
  replace E:=E.trans E'
  replace S:St w818 M819 F [_,_,_,_,_]:=S
  refine W_v (.bool (!t802.1)) (Y5 (b:=t802.1) rfl) rfl (W_v (.bool (!t802.1)) (QD rfl) rfl ?_)
  obtain ⟨o882,o882h,o882H⟩:=QW H
  refine ZH 5 (fun ρ w'=>∃ (x866:Bool) (x867:QJ) (A868:Option Addr) (c869:Nat) (A871:Option Addr) (c872:Nat) (A874:Option Addr) (c875:Nat) (A877:Option Addr) (c878:Nat) (vs880:List (Str×Value)) (Mj:Hp),(x866,x867)=o882∧Qi ρ [(1,pt b11 0),(83,.bool x866)]∧M819.le Mj∧Ext w w'∧St w' Mj F [QT encS (fun v:Value=>v) A877 vs880,Row QL 99 (.slice A874 x867.txs.length c875) x867.txs,QT (Value.int .i64) (Value.int .i64) A871 x867.many,QT QF (Value.int .i64) A868 x867.names,B94 b11 x867 A868 A871 A874 c875 A877]∧YV Qk Mj x867.rows vs880) ?_ ?_
  ·as_aux_lemma =>
    have H:=o882h
    have LE883:=Hp.le_refl M819
    rcases Zf H with ⟨hb865,H⟩ | ⟨hb865,H⟩
    ·skip
     refine QZ (skF hb865) rfl (QZ (skF hb865) rfl (QZ (skF hb865) rfl (QZ (skF hb865) rfl (W_v (.bool true) (QV (k:=true) (congrArg Value.bool hb865) rfl) rfl (QB ?_)))))
     exact ⟨true,t802.2,A804,c805,A807,c808,A810,c811,A813,c814,vs816,M819,Option.some.inj H,⟨rfl,rfl,trivial⟩,(Hp.le_refl M819),E,S.pick [4,3,2,1,0] (by decide),hm817⟩
    ·skip
     refine QP (congrArg some hb865) (W_v (pt b11 0) (QD rfl) rfl (QP (congrArg some hb865) ?_))
     obtain ⟨t884,ht885,H⟩:=QW H
     refine Zz fn31 (Qv.con k M819 (4:Int) (2:Int) ([97]:Str) ([]:Str) t884  ht885) S rfl rfl (by rintro _ _ _ ⟨_,rfl⟩;exact Qd) ?_
     rintro _ w886 _ Γ' E' S ⟨rfl,rfl⟩
     replace E:=E.trans E'
     refine QP (congrArg some hb865) ?_
     obtain ⟨t887,ht888,H⟩:=QW H
     refine Yc fn32 (Qb.con k M819 A804 c805 A807 c808 A810 c811 A813 c814 vs816 t802.2 (1:Int) t884 (0:Int) true ([]:Str) b11 t887 hm817 hg0 ht888) (Γ1:=[_,_,_,_,_]) (Γ2:=[]) S rfl rfl ?_
     rintro _ w903 M904 Γ' hM905 E' S ⟨A889,c890,A892,c893,A895,c896,A898,c899,vs901,rfl,hm902,rfl⟩
     replace HM:=Hp.le_trans HM hM905
     replace LE883:=Hp.le_trans LE883 hM905
     replace E:=E.trans E'
     replace S:St w903 M904 F [_,_,_,_,_]:=S
     refine QP (congrArg some hb865) (W_v (.bool (!t887.1)) (Y5 (b:=t887.1) rfl) rfl (W_v (.bool (!t887.1)) (QV (k:=false) (congrArg Value.bool hb865) rfl) rfl (QB ?_)))
     exact ⟨(!t887.1),t887.2,A889,c890,A892,c893,A895,c896,A898,c899,vs901,M904,Option.some.inj H,⟨rfl,rfl,trivial⟩,LE883,E,S.pick [4,3,2,1,0] (by decide),hm902⟩
  as_aux_lemma =>
  rintro ρ w906 ⟨x866,x867,A868,c869,A871,c872,A874,c875,A877,c878,vs880,M907,rfl,hρ,hM908,E,S,hm881⟩
  rw [QI hρ]
  replace hg0:=gup hg0 hM908
  replace HM:=Hp.le_trans HM hM908
  have H:=o882H
  refine W_v (.bool x866) (QD rfl) rfl ?_
  obtain ⟨o970,o970h,o970H⟩:=QW H
  refine ZH 5 (fun ρ w'=>∃ (x954:Bool) (x955:QJ) (A956:Option Addr) (c957:Nat) (A959:Option Addr) (c960:Nat) (A962:Option Addr) (c963:Nat) (A965:Option Addr) (c966:Nat) (vs968:List (Str×Value)) (Mj:Hp),(x954,x955)=o970∧Qi ρ [(1,pt b11 0),(89,.bool x954)]∧M907.le Mj∧Ext w w'∧St w' Mj F [QT encS (fun v:Value=>v) A965 vs968,Row QL 99 (.slice A962 x955.txs.length c963) x955.txs,QT (Value.int .i64) (Value.int .i64) A959 x955.many,QT QF (Value.int .i64) A956 x955.names,B94 b11 x955 A956 A959 A962 c963 A965]∧YV Qk Mj x955.rows vs968) ?_ ?_
  ·as_aux_lemma =>
    have H:=o970h
    have LE971:=Hp.le_refl M907
    rcases Zf H with ⟨hb953,H⟩ | ⟨hb953,H⟩
    ·skip
     refine QZ (skF hb953) rfl (QZ (skF hb953) rfl (QZ (skF hb953) rfl (QZ (skF hb953) rfl (W_v (.bool true) (QV (k:=true) (congrArg Value.bool hb953) rfl) rfl (QB ?_)))))
     exact ⟨true,x867,A868,c869,A871,c872,A874,c875,A877,c878,vs880,M907,Option.some.inj H,⟨rfl,rfl,trivial⟩,(Hp.le_refl M907),E,S.pick [0,1,2,3,4] (by decide),hm881⟩
    ·skip
     refine QP (congrArg some hb953) (W_v (pt b11 0) (QD rfl) rfl (QP (congrArg some hb953) ?_))
     obtain ⟨t972,ht973,H⟩:=QW H
     refine Zz fn31 (Qv.con k M907 (2:Int) (2:Int) ([97]:Str) ([]:Str) t972  ht973) S rfl rfl (by rintro _ _ _ ⟨_,rfl⟩;exact Qd) ?_
     rintro _ w974 _ Γ' E' S ⟨rfl,rfl⟩
     replace E:=E.trans E'
     refine QP (congrArg some hb953) ?_
     obtain ⟨t975,ht976,H⟩:=QW H
     replace S:St w974 M907 F [_,_,_,_,_]:=S.pick [4,3,2,1,0] (by decide)
     refine Yc fn32 (Qb.con k M907 A868 c869 A871 c872 A874 c875 A877 c878 vs880 x867 (1:Int) t972 (0:Int) false ([]:Str) b11 t975 hm881 hg0 ht976) (Γ1:=[_,_,_,_,_]) (Γ2:=[]) S rfl rfl ?_
     rintro _ w991 M992 Γ' hM993 E' S ⟨A977,c978,A980,c981,A983,c984,A986,c987,vs989,rfl,hm990,rfl⟩
     replace HM:=Hp.le_trans HM hM993
     replace LE971:=Hp.le_trans LE971 hM993
     replace E:=E.trans E'
     replace S:St w991 M992 F [_,_,_,_,_]:=S
     refine QP (congrArg some hb953) (W_v (.bool (!t975.1)) (Y5 (b:=t975.1) rfl) rfl (W_v (.bool (!t975.1)) (QV (k:=false) (congrArg Value.bool hb953) rfl) rfl (QB ?_)))
     exact ⟨(!t975.1),t975.2,A977,c978,A980,c981,A983,c984,A986,c987,vs989,M992,Option.some.inj H,⟨rfl,rfl,trivial⟩,LE971,E,S.pick [4,3,2,1,0] (by decide),hm990⟩
  as_aux_lemma =>
  rintro ρ w994 ⟨x954,x955,A956,c957,A959,c960,A962,c963,A965,c966,vs968,M995,rfl,hρ,hM996,E,S,hm969⟩
  rw [QI hρ]
  replace hg0:=gup hg0 hM996
  replace HM:=Hp.le_trans HM hM996
  have H:=o970H
  refine W_v (.bool x954) (QD rfl) rfl ?_
  obtain ⟨o1058,o1058h,o1058H⟩:=QW H
  refine ZH 5 (fun ρ w'=>∃ (x1042:Bool) (x1043:QJ) (A1044:Option Addr) (c1045:Nat) (A1047:Option Addr) (c1048:Nat) (A1050:Option Addr) (c1051:Nat) (A1053:Option Addr) (c1054:Nat) (vs1056:List (Str×Value)) (Mj:Hp),(x1042,x1043)=o1058∧Qi ρ [(1,pt b11 0),(95,.bool x1042)]∧M995.le Mj∧Ext w w'∧St w' Mj F [QT encS (fun v:Value=>v) A1053 vs1056,Row QL 99 (.slice A1050 x1043.txs.length c1051) x1043.txs,QT (Value.int .i64) (Value.int .i64) A1047 x1043.many,QT QF (Value.int .i64) A1044 x1043.names,B94 b11 x1043 A1044 A1047 A1050 c1051 A1053]∧YV Qk Mj x1043.rows vs1056) ?_ ?_
  ·as_aux_lemma =>
    have H:=o1058h
    have LE1059:=Hp.le_refl M995
    rcases Zf H with ⟨hb1041,H⟩ | ⟨hb1041,H⟩
    ·skip
     refine QZ (skF hb1041) rfl (QZ (skF hb1041) rfl (QZ (skF hb1041) rfl (QZ (skF hb1041) rfl (W_v (.bool true) (QV (k:=true) (congrArg Value.bool hb1041) rfl) rfl (QB ?_)))))
     exact ⟨true,x955,A956,c957,A959,c960,A962,c963,A965,c966,vs968,M995,Option.some.inj H,⟨rfl,rfl,trivial⟩,(Hp.le_refl M995),E,S.pick [0,1,2,3,4] (by decide),hm969⟩
    ·skip
     refine QP (congrArg some hb1041) (W_v (pt b11 0) (QD rfl) rfl (QP (congrArg some hb1041) ?_))
     obtain ⟨t1060,ht1061,H⟩:=QW H
     refine Zz fn31 (Qv.con k M995 (6:Int) (2:Int) ([]:Str) ([]:Str) t1060  ht1061) S rfl rfl (by rintro _ _ _ ⟨_,rfl⟩;exact Qd) ?_
     rintro _ w1062 _ Γ' E' S ⟨rfl,rfl⟩
     replace E:=E.trans E'
     refine QP (congrArg some hb1041) ?_
     obtain ⟨t1063,ht1064,H⟩:=QW H
     replace S:St w1062 M995 F [_,_,_,_,_]:=S.pick [4,3,2,1,0] (by decide)
     refine Yc fn32 (Qb.con k M995 A956 c957 A959 c960 A962 c963 A965 c966 vs968 x955 (1:Int) t1060 (0:Int) false ([]:Str) b11 t1063 hm969 hg0 ht1064) (Γ1:=[_,_,_,_,_]) (Γ2:=[]) S rfl rfl ?_
     rintro _ w1079 M1080 Γ' hM1081 E' S ⟨A1065,c1066,A1068,c1069,A1071,c1072,A1074,c1075,vs1077,rfl,hm1078,rfl⟩
     replace HM:=Hp.le_trans HM hM1081
     replace LE1059:=Hp.le_trans LE1059 hM1081
     replace E:=E.trans E'
     replace S:St w1079 M1080 F [_,_,_,_,_]:=S
     refine QP (congrArg some hb1041) (W_v (.bool (!t1063.1)) (Y5 (b:=t1063.1) rfl) rfl (W_v (.bool (!t1063.1)) (QV (k:=false) (congrArg Value.bool hb1041) rfl) rfl (QB ?_)))
     exact ⟨(!t1063.1),t1063.2,A1065,c1066,A1068,c1069,A1071,c1072,A1074,c1075,vs1077,M1080,Option.some.inj H,⟨rfl,rfl,trivial⟩,LE1059,E,S.pick [4,3,2,1,0] (by decide),hm1078⟩
  as_aux_lemma =>
  rintro ρ w1082 ⟨x1042,x1043,A1044,c1045,A1047,c1048,A1050,c1051,A1053,c1054,vs1056,M1083,rfl,hρ,hM1084,E,S,hm1057⟩
  rw [QI hρ]
  replace hg0:=gup hg0 hM1084
  replace HM:=Hp.le_trans HM hM1084
  have H:=o1058H
  refine QB (tn ?_)
  rcases Zf H with ⟨hb1085,H⟩ | ⟨hb1085,H⟩
  ·refine QQ (congrArg Value.bool hb1085) ?_
   refine QE (QA (W_v (.bool false) (QG rfl) rfl (QB (tn ?_))))
   refine Qs ?_
   refine tr (?_)
   obtain rfl:=Option.some.inj H
   exact ⟨_,_,_,fun w1 e1=>QX (vs:=[.bool false]) (FA.cons (rfl) (FA.nil)),HM,E,S.pick [] (by decide),⟨rfl,rfl⟩⟩
  refine QK (congrArg Value.bool hb1085) (Qr (tn ?_))
  as_aux_lemma =>
  refine QE (QA (W_v (pt b11 0) (QD rfl) rfl ?_))
  obtain ⟨t1086,ht1087,H⟩:=QW H
  replace S:St w1082 M1083 F [_,_,_,_,_]:=S.pick [4,3,2,1,0] (by decide)
  refine Z5 fn26 (Zd.con k M1083 A1044 c1045 A1047 c1048 A1050 c1051 A1053 c1054 vs1056 x1043 ([97]:Str) b11 t1086 hm1057 ht1087) (Γ1:=[_,_,_,_,_]) (Γ2:=[]) S rfl rfl (by rintro _ _ _ ⟨_,_,rfl,rfl⟩;exact (QN (YI (fun _ _ _ _ h=>h)) (QN ZW (QN Qu (QN Qu (QN (YI (fun _ _ _ _ h=>h)) (QN Qu Qd))))))) ?_
  rintro _ w1091 _ Γ' E' S ⟨A1088,c1089,rfl,rfl⟩
  replace E:=E.trans E'
  replace S:St w1091 M1083 F [_,_,_,_,_,_]:=S
  refine W_v (.slice A1088 t1086.length c1089) (QG rfl) rfl (QB (tn (QE (QE (QA (W_v (.slice A1088 t1086.length c1089) (QD rfl) rfl (W_v (vI (t1086.length:Int)) (Q8 (n:=t1086.length) Tryd.underlying65 rfl) rfl (W_v (.bool ((t1086.length:Int) != (2:Int))) (Qa rfl rfl rfl rfl) rfl (W_v (.bool ((t1086.length:Int) != (2:Int))) (QD rfl) rfl ?_)))))))))
  obtain ⟨o1116,o1116h,o1116H⟩:=QW H
  refine ZH 6 (fun ρ w'=>∃ (x1115:Bool),(x1115)=o1116∧Qi ρ [(1,pt b11 0),(3,.slice A1088 t1086.length c1089),(107,.bool x1115)]∧Ext w w'∧St w' M1083 F [Row Q4 61 (.slice A1088 t1086.length c1089) t1086,B94 b11 x1043 A1044 A1047 A1050 c1051 A1053,QT QF (Value.int .i64) A1044 x1043.names,QT (Value.int .i64) (Value.int .i64) A1047 x1043.many,Row QL 99 (.slice A1050 x1043.txs.length c1051) x1043.txs,QT encS (fun v:Value=>v) A1053 vs1056]) ?_ ?_
  ·have H:=o1116h
   rcases Zf H with ⟨hb1114,H⟩ | ⟨hb1114,H⟩
   ·skip
    refine QZ (skF hb1114) rfl (QZ (skF hb1114) rfl (QZ (skF hb1114) rfl (QZ (skF hb1114) rfl (QZ (skF hb1114) rfl (W_v (.bool true) (QV (k:=true) (congrArg Value.bool hb1114) rfl) rfl (QB ?_))))))
    exact ⟨true,Option.some.inj H,⟨rfl,rfl,rfl,trivial⟩,E,S.pick [0,1,2,3,4,5] (by decide)⟩
   ·skip
    refine QP (congrArg some hb1114) (W_v (.slice A1088 t1086.length c1089) (QD rfl) rfl (QP (congrArg some hb1114) ?_))
    obtain ⟨⟨p1117,p1118⟩,H⟩:=Yy H
    obtain ⟨b1119,o1120,cs1121,_,_,ee1126,hb1122,vs1123,hR1124,hc1125⟩:=SlW.at' (S.row_read 0 rfl) p1117 p1118
    obtain rfl:vs1123=_:=hR1124
    refine W_v (.pointer (some ⟨b1119,o1120+(0:Int).toNat*4,none⟩)) (Qy Tryd.underlying65 ty61 (slA ee1126) rfl p1117 p1118) rfl (QP (congrArg some hb1114) (W_v (.pointer (some ⟨b1119,o1120+(0:Int).toNat*4+2,none⟩)) (QC (o:=o1120+(0:Int).toNat*4) (off:=2) Tryd.underlying61 rfl ty4 rfl rfl) rfl (QP (congrArg some hb1114) (W_v (.bool ((rd t1086 (0:Int)).Tomb)) (QO (Hp.of_get hb1122) ty4 rfl (hc1125 2 _ rfl)) rfl (QP (congrArg some hb1114) (W_v (.bool (!((rd t1086 (0:Int)).Tomb))) (Y5 (b:=((rd t1086 (0:Int)).Tomb)) rfl) rfl (W_v (.bool (!((rd t1086 (0:Int)).Tomb))) (QV (k:=false) (congrArg Value.bool hb1114) rfl) rfl (QB ?_))))))))
    exact ⟨(!((rd t1086 (0:Int)).Tomb)),Option.some.inj H,⟨rfl,rfl,rfl,trivial⟩,E,S.pick [0,1,2,3,4,5] (by decide)⟩
  as_aux_lemma =>
  rintro ρ w1127 ⟨x1115,rfl,hρ,E,S⟩
  rw [QI hρ]
  have H:=o1116H
  refine W_v (.bool x1115) (QD rfl) rfl ?_
  obtain ⟨o1150,o1150h,o1150H⟩:=QW H
  refine ZH 6 (fun ρ w'=>∃ (x1149:Bool),(x1149)=o1150∧Qi ρ [(1,pt b11 0),(3,.slice A1088 t1086.length c1089),(114,.bool x1149)]∧Ext w w'∧St w' M1083 F [Row Q4 61 (.slice A1088 t1086.length c1089) t1086,B94 b11 x1043 A1044 A1047 A1050 c1051 A1053,QT QF (Value.int .i64) A1044 x1043.names,QT (Value.int .i64) (Value.int .i64) A1047 x1043.many,Row QL 99 (.slice A1050 x1043.txs.length c1051) x1043.txs,QT encS (fun v:Value=>v) A1053 vs1056]) ?_ ?_
  ·have H:=o1150h
   rcases Zf H with ⟨hb1148,H⟩ | ⟨hb1148,H⟩
   ·skip
    refine QZ (skF hb1148) rfl (QZ (skF hb1148) rfl (QZ (skF hb1148) rfl (QZ (skF hb1148) rfl (QZ (skF hb1148) rfl (W_v (.bool true) (QV (k:=true) (congrArg Value.bool hb1148) rfl) rfl (QB ?_))))))
    exact ⟨true,Option.some.inj H,⟨rfl,rfl,rfl,trivial⟩,E,S.pick [0,1,2,3,4,5] (by decide)⟩
   ·skip
    refine QP (congrArg some hb1148) (W_v (.slice A1088 t1086.length c1089) (QD rfl) rfl (QP (congrArg some hb1148) ?_))
    obtain ⟨⟨p1151,p1152⟩,H⟩:=Yy H
    obtain ⟨b1153,o1154,cs1155,_,_,ee1160,hb1156,vs1157,hR1158,hc1159⟩:=SlW.at' (S.row_read 0 rfl) p1151 p1152
    obtain rfl:vs1157=_:=hR1158
    refine W_v (.pointer (some ⟨b1153,o1154+(0:Int).toNat*4,none⟩)) (Qy Tryd.underlying65 ty61 (slA ee1160) rfl p1151 p1152) rfl (QP (congrArg some hb1148) (W_v (.pointer (some ⟨b1153,o1154+(0:Int).toNat*4+1,none⟩)) (QC (o:=o1154+(0:Int).toNat*4) (off:=1) Tryd.underlying61 rfl ty3 rfl rfl) rfl (QP (congrArg some hb1148) (W_v (vI ((rd t1086 (0:Int)).TS)) (QO (Hp.of_get hb1156) ty3 rfl (hc1159 1 _ rfl)) rfl (QP (congrArg some hb1148) (W_v (.bool ((rd t1086 (0:Int)).TS != (2:Int))) (Qa rfl rfl rfl rfl) rfl (W_v (.bool ((rd t1086 (0:Int)).TS != (2:Int))) (QV (k:=false) (congrArg Value.bool hb1148) rfl) rfl (QB ?_))))))))
    exact ⟨((rd t1086 (0:Int)).TS != (2:Int)),Option.some.inj H,⟨rfl,rfl,rfl,trivial⟩,E,S.pick [0,1,2,3,4,5] (by decide)⟩
  as_aux_lemma =>
  rintro ρ w1161 ⟨x1149,rfl,hρ,E,S⟩
  rw [QI hρ]
  have H:=o1150H
  refine W_v (.bool x1149) (QD rfl) rfl ?_
  obtain ⟨o1184,o1184h,o1184H⟩:=QW H
  refine ZH 6 (fun ρ w'=>∃ (x1183:Bool),(x1183)=o1184∧Qi ρ [(1,pt b11 0),(3,.slice A1088 t1086.length c1089),(121,.bool x1183)]∧Ext w w'∧St w' M1083 F [Row Q4 61 (.slice A1088 t1086.length c1089) t1086,B94 b11 x1043 A1044 A1047 A1050 c1051 A1053,QT QF (Value.int .i64) A1044 x1043.names,QT (Value.int .i64) (Value.int .i64) A1047 x1043.many,Row QL 99 (.slice A1050 x1043.txs.length c1051) x1043.txs,QT encS (fun v:Value=>v) A1053 vs1056]) ?_ ?_
  ·have H:=o1184h
   rcases Zf H with ⟨hb1182,H⟩ | ⟨hb1182,H⟩
   ·skip
    refine QZ (skF hb1182) rfl (QZ (skF hb1182) rfl (QZ (skF hb1182) rfl (QZ (skF hb1182) rfl (QZ (skF hb1182) rfl (W_v (.bool true) (QV (k:=true) (congrArg Value.bool hb1182) rfl) rfl (QB ?_))))))
    exact ⟨true,Option.some.inj H,⟨rfl,rfl,rfl,trivial⟩,E,S.pick [0,1,2,3,4,5] (by decide)⟩
   ·skip
    refine QP (congrArg some hb1182) (W_v (.slice A1088 t1086.length c1089) (QD rfl) rfl (QP (congrArg some hb1182) ?_))
    obtain ⟨⟨p1185,p1186⟩,H⟩:=Yy H
    obtain ⟨b1187,o1188,cs1189,_,_,ee1194,hb1190,vs1191,hR1192,hc1193⟩:=SlW.at' (S.row_read 0 rfl) p1185 p1186
    obtain rfl:vs1191=_:=hR1192
    refine W_v (.pointer (some ⟨b1187,o1188+(1:Int).toNat*4,none⟩)) (Qy Tryd.underlying65 ty61 (slA ee1194) rfl p1185 p1186) rfl (QP (congrArg some hb1182) (W_v (.pointer (some ⟨b1187,o1188+(1:Int).toNat*4+3,none⟩)) (QC (o:=o1188+(1:Int).toNat*4) (off:=3) Tryd.underlying61 rfl ty9 rfl rfl) rfl (QP (congrArg some hb1182) (W_v (vS ((rd t1086 (1:Int)).Value)) (QO (Hp.of_get hb1190) ty9 rfl (hc1193 3 _ rfl)) rfl (QP (congrArg some hb1182) (W_v (.bool (sbin .neq ((rd t1086 (1:Int)).Value) ([49]:Str))) (Xy rfl rfl rfl) rfl (W_v (.bool (sbin .neq ((rd t1086 (1:Int)).Value) ([49]:Str))) (QV (k:=false) (congrArg Value.bool hb1182) rfl) rfl (QB ?_))))))))
    exact ⟨(sbin .neq ((rd t1086 (1:Int)).Value) ([49]:Str)),Option.some.inj H,⟨rfl,rfl,rfl,trivial⟩,E,S.pick [0,1,2,3,4,5] (by decide)⟩
  as_aux_lemma =>
  rintro ρ w1195 ⟨x1183,rfl,hρ,E,S⟩
  rw [QI hρ]
  have H:=o1184H
  refine W_v (.bool x1183) (QD rfl) rfl ?_
  obtain ⟨o1218,o1218h,o1218H⟩:=QW H
  refine ZH 6 (fun ρ w'=>∃ (x1217:Bool),(x1217)=o1218∧Qi ρ [(1,pt b11 0),(128,.bool x1217)]∧Ext w w'∧St w' M1083 F [B94 b11 x1043 A1044 A1047 A1050 c1051 A1053,QT QF (Value.int .i64) A1044 x1043.names,QT (Value.int .i64) (Value.int .i64) A1047 x1043.many,Row QL 99 (.slice A1050 x1043.txs.length c1051) x1043.txs,QT encS (fun v:Value=>v) A1053 vs1056]) ?_ ?_
  ·have H:=o1218h
   rcases Zf H with ⟨hb1216,H⟩ | ⟨hb1216,H⟩
   ·skip
    refine QZ (skF hb1216) rfl (QZ (skF hb1216) rfl (QZ (skF hb1216) rfl (QZ (skF hb1216) rfl (QZ (skF hb1216) rfl (W_v (.bool true) (QV (k:=true) (congrArg Value.bool hb1216) rfl) rfl (QB ?_))))))
    exact ⟨true,Option.some.inj H,⟨rfl,rfl,trivial⟩,E,S.pick [1,2,3,4,5] (by decide)⟩
   ·skip
    refine QP (congrArg some hb1216) (W_v (.slice A1088 t1086.length c1089) (QD rfl) rfl (QP (congrArg some hb1216) ?_))
    obtain ⟨⟨p1219,p1220⟩,H⟩:=Yy H
    obtain ⟨b1221,o1222,cs1223,_,_,ee1228,hb1224,vs1225,hR1226,hc1227⟩:=SlW.at' (S.row_read 0 rfl) p1219 p1220
    obtain rfl:vs1225=_:=hR1226
    refine W_v (.pointer (some ⟨b1221,o1222+(1:Int).toNat*4,none⟩)) (Qy Tryd.underlying65 ty61 (slA ee1228) rfl p1219 p1220) rfl (QP (congrArg some hb1216) (W_v (.pointer (some ⟨b1221,o1222+(1:Int).toNat*4+1,none⟩)) (QC (o:=o1222+(1:Int).toNat*4) (off:=1) Tryd.underlying61 rfl ty3 rfl rfl) rfl (QP (congrArg some hb1216) (W_v (vI ((rd t1086 (1:Int)).TS)) (QO (Hp.of_get hb1224) ty3 rfl (hc1227 1 _ rfl)) rfl (QP (congrArg some hb1216) (W_v (.bool ((rd t1086 (1:Int)).TS != (1:Int))) (Qa rfl rfl rfl rfl) rfl (W_v (.bool ((rd t1086 (1:Int)).TS != (1:Int))) (QV (k:=false) (congrArg Value.bool hb1216) rfl) rfl (QB ?_))))))))
    exact ⟨((rd t1086 (1:Int)).TS != (1:Int)),Option.some.inj H,⟨rfl,rfl,trivial⟩,E,S.pick [1,2,3,4,5] (by decide)⟩
  as_aux_lemma =>
  rintro ρ w1229 ⟨x1217,rfl,hρ,E,S⟩
  rw [QI hρ]
  have H:=o1218H
  refine QB (tn ?_)
  rcases Zf H with ⟨hb1230,H⟩ | ⟨hb1230,H⟩
  ·refine QQ (congrArg Value.bool hb1230) ?_
   refine QE (QA (W_v (.bool false) (QG rfl) rfl (QB (tn ?_))))
   refine Qs ?_
   refine tr (?_)
   obtain rfl:=Option.some.inj H
   exact ⟨_,_,_,fun w1 e1=>QX (vs:=[.bool false]) (FA.cons (rfl) (FA.nil)),HM,E,S.pick [] (by decide),⟨rfl,rfl⟩⟩
  refine QK (congrArg Value.bool hb1230) (Qr (tn (QE (QA (W_v (pt b11 0) (QD rfl) rfl ?_)))))
  obtain ⟨t1231,ht1232,H⟩:=QW H
  refine Zz fn31 (Qv.con k M1083 (1:Int) (0:Int) ([]:Str) ([]:Str) t1231  ht1232) S rfl rfl (by rintro _ _ _ ⟨_,rfl⟩;exact Qd) ?_
  rintro _ w1233 _ Γ' E' S ⟨rfl,rfl⟩
  replace E:=E.trans E'
  obtain ⟨t1234,ht1235,H⟩:=QW H
  refine Yc fn32 (Qb.con k M1083 A1044 c1045 A1047 c1048 A1050 c1051 A1053 c1054 vs1056 x1043 (0:Int) t1231 (0:Int) false ([]:Str) b11 t1234 hm1057 hg0 ht1235) (Γ1:=[_,_,_,_,_]) (Γ2:=[]) S rfl rfl ?_
  rintro _ w1250 M1251 Γ' hM1252 E' S ⟨A1236,c1237,A1239,c1240,A1242,c1243,A1245,c1246,vs1248,rfl,hm1249,rfl⟩
  replace hg0:=gup hg0 hM1252
  replace HM:=Hp.le_trans HM hM1252
  replace E:=E.trans E'
  replace S:St w1250 M1251 F [_,_,_,_,_]:=S
  refine W_v (.bool t1234.1) (QD rfl) rfl ?_
  obtain ⟨o1314,o1314h,o1314H⟩:=QW H
  refine ZH 4 (fun ρ w'=>∃ (x1298:Bool) (x1299:QJ) (A1300:Option Addr) (c1301:Nat) (A1303:Option Addr) (c1304:Nat) (A1306:Option Addr) (c1307:Nat) (A1309:Option Addr) (c1310:Nat) (vs1312:List (Str×Value)) (Mj:Hp),(x1298,x1299)=o1314∧Qi ρ [(1,pt b11 0),(136,.bool x1298)]∧M1251.le Mj∧Ext w w'∧St w' Mj F [QT encS (fun v:Value=>v) A1309 vs1312,Row QL 99 (.slice A1306 x1299.txs.length c1307) x1299.txs,QT (Value.int .i64) (Value.int .i64) A1303 x1299.many,QT QF (Value.int .i64) A1300 x1299.names,B94 b11 x1299 A1300 A1303 A1306 c1307 A1309]∧YV Qk Mj x1299.rows vs1312) ?_ ?_
  ·as_aux_lemma =>
    have H:=o1314h
    have LE1315:=Hp.le_refl M1251
    rcases Zf H with ⟨hb1297,H⟩ | ⟨hb1297,H⟩
    ·skip
     refine QP (congrArg some hb1297) (W_v (pt b11 0) (QD rfl) rfl (QP (congrArg some hb1297) ?_))
     obtain ⟨t1316,ht1317,H⟩:=QW H
     refine Zz fn31 (Qv.con k M1251 (3:Int) (2:Int) ([98]:Str) ([]:Str) t1316  ht1317) S rfl rfl (by rintro _ _ _ ⟨_,rfl⟩;exact Qd) ?_
     rintro _ w1318 _ Γ' E' S ⟨rfl,rfl⟩
     replace E:=E.trans E'
     refine QP (congrArg some hb1297) ?_
     obtain ⟨t1319,ht1320,H⟩:=QW H
     refine Yc fn32 (Qb.con k M1251 A1236 c1237 A1239 c1240 A1242 c1243 A1245 c1246 vs1248 t1234.2 (0:Int) t1316 (0:Int) false ([]:Str) b11 t1319 hm1249 hg0 ht1320) (Γ1:=[_,_,_,_,_]) (Γ2:=[]) S rfl rfl ?_
     rintro _ w1335 M1336 Γ' hM1337 E' S ⟨A1321,c1322,A1324,c1325,A1327,c1328,A1330,c1331,vs1333,rfl,hm1334,rfl⟩
     replace HM:=Hp.le_trans HM hM1337
     replace LE1315:=Hp.le_trans LE1315 hM1337
     replace E:=E.trans E'
     replace S:St w1335 M1336 F [_,_,_,_,_]:=S
     refine W_v (.bool t1319.1) (QV (k:=true) (congrArg Value.bool hb1297) rfl) rfl (QB ?_)
     exact ⟨t1319.1,t1319.2,A1321,c1322,A1324,c1325,A1327,c1328,A1330,c1331,vs1333,M1336,Option.some.inj H,⟨rfl,rfl,trivial⟩,LE1315,E,S.pick [4,3,2,1,0] (by decide),hm1334⟩
    ·skip
     refine QZ (skT hb1297) rfl (QZ (skT hb1297) rfl (QZ (skT hb1297) rfl (W_v (.bool false) (QV (k:=false) (congrArg Value.bool hb1297) rfl) rfl (QB ?_))))
     exact ⟨false,t1234.2,A1236,c1237,A1239,c1240,A1242,c1243,A1245,c1246,vs1248,M1251,Option.some.inj H,⟨rfl,rfl,trivial⟩,(Hp.le_refl M1251),E,S.pick [4,3,2,1,0] (by decide),hm1249⟩
  as_aux_lemma =>
  rintro ρ w1338 ⟨x1298,x1299,A1300,c1301,A1303,c1304,A1306,c1307,A1309,c1310,vs1312,M1339,rfl,hρ,hM1340,E,S,hm1313⟩
  rw [QI hρ]
  replace hg0:=gup hg0 hM1340
  replace HM:=Hp.le_trans HM hM1340
  have H:=o1314H
  refine W_v (.bool x1298) (QD rfl) rfl ?_
  obtain ⟨o1402,o1402h,o1402H⟩:=QW H
  refine ZH 4 (fun ρ w'=>∃ (x1386:Bool) (x1387:QJ) (A1388:Option Addr) (c1389:Nat) (A1391:Option Addr) (c1392:Nat) (A1394:Option Addr) (c1395:Nat) (A1397:Option Addr) (c1398:Nat) (vs1400:List (Str×Value)) (Mj:Hp),(x1386,x1387)=o1402∧Qi ρ [(1,pt b11 0),(141,.bool x1386)]∧M1339.le Mj∧Ext w w'∧St w' Mj F [QT encS (fun v:Value=>v) A1397 vs1400,Row QL 99 (.slice A1394 x1387.txs.length c1395) x1387.txs,QT (Value.int .i64) (Value.int .i64) A1391 x1387.many,QT QF (Value.int .i64) A1388 x1387.names,B94 b11 x1387 A1388 A1391 A1394 c1395 A1397]∧YV Qk Mj x1387.rows vs1400) ?_ ?_
  ·as_aux_lemma =>
    have H:=o1402h
    have LE1403:=Hp.le_refl M1339
    rcases Zf H with ⟨hb1385,H⟩ | ⟨hb1385,H⟩
    ·skip
     refine QP (congrArg some hb1385) (W_v (pt b11 0) (QD rfl) rfl (QP (congrArg some hb1385) ?_))
     obtain ⟨t1404,ht1405,H⟩:=QW H
     refine Zz fn31 (Qv.con k M1339 (6:Int) (2:Int) ([]:Str) ([]:Str) t1404  ht1405) S rfl rfl (by rintro _ _ _ ⟨_,rfl⟩;exact Qd) ?_
     rintro _ w1406 _ Γ' E' S ⟨rfl,rfl⟩
     replace E:=E.trans E'
     refine QP (congrArg some hb1385) ?_
     obtain ⟨t1407,ht1408,H⟩:=QW H
     replace S:St w1406 M1339 F [_,_,_,_,_]:=S.pick [4,3,2,1,0] (by decide)
     refine Yc fn32 (Qb.con k M1339 A1300 c1301 A1303 c1304 A1306 c1307 A1309 c1310 vs1312 x1299 (0:Int) t1404 (35:Int) false ([]:Str) b11 t1407 hm1313 hg0 ht1408) (Γ1:=[_,_,_,_,_]) (Γ2:=[]) S rfl rfl ?_
     rintro _ w1423 M1424 Γ' hM1425 E' S ⟨A1409,c1410,A1412,c1413,A1415,c1416,A1418,c1419,vs1421,rfl,hm1422,rfl⟩
     replace HM:=Hp.le_trans HM hM1425
     replace LE1403:=Hp.le_trans LE1403 hM1425
     replace E:=E.trans E'
     replace S:St w1423 M1424 F [_,_,_,_,_]:=S
     refine W_v (.bool t1407.1) (QV (k:=true) (congrArg Value.bool hb1385) rfl) rfl (QB ?_)
     exact ⟨t1407.1,t1407.2,A1409,c1410,A1412,c1413,A1415,c1416,A1418,c1419,vs1421,M1424,Option.some.inj H,⟨rfl,rfl,trivial⟩,LE1403,E,S.pick [4,3,2,1,0] (by decide),hm1422⟩
    ·skip
     refine QZ (skT hb1385) rfl (QZ (skT hb1385) rfl (QZ (skT hb1385) rfl (W_v (.bool false) (QV (k:=false) (congrArg Value.bool hb1385) rfl) rfl (QB ?_))))
     exact ⟨false,x1299,A1300,c1301,A1303,c1304,A1306,c1307,A1309,c1310,vs1312,M1339,Option.some.inj H,⟨rfl,rfl,trivial⟩,(Hp.le_refl M1339),E,S.pick [0,1,2,3,4] (by decide),hm1313⟩
  as_aux_lemma =>
  rintro ρ w1426 ⟨x1386,x1387,A1388,c1389,A1391,c1392,A1394,c1395,A1397,c1398,vs1400,M1427,rfl,hρ,hM1428,E,S,hm1401⟩
  rw [QI hρ]
  replace hg0:=gup hg0 hM1428
  replace HM:=Hp.le_trans HM hM1428
  have H:=o1402H
  refine W_v (.bool x1386) (QD rfl) rfl ?_
  obtain ⟨o1490,o1490h,o1490H⟩:=QW H
  refine ZH 4 (fun ρ w'=>∃ (x1474:Bool) (x1475:QJ) (A1476:Option Addr) (c1477:Nat) (A1479:Option Addr) (c1480:Nat) (A1482:Option Addr) (c1483:Nat) (A1485:Option Addr) (c1486:Nat) (vs1488:List (Str×Value)) (Mj:Hp),(x1474,x1475)=o1490∧Qi ρ [(1,pt b11 0),(146,.bool x1474)]∧M1427.le Mj∧Ext w w'∧St w' Mj F [QT encS (fun v:Value=>v) A1485 vs1488,Row QL 99 (.slice A1482 x1475.txs.length c1483) x1475.txs,QT (Value.int .i64) (Value.int .i64) A1479 x1475.many,QT QF (Value.int .i64) A1476 x1475.names,B94 b11 x1475 A1476 A1479 A1482 c1483 A1485]∧YV Qk Mj x1475.rows vs1488) ?_ ?_
  ·as_aux_lemma =>
    have H:=o1490h
    have LE1491:=Hp.le_refl M1427
    rcases Zf H with ⟨hb1473,H⟩ | ⟨hb1473,H⟩
    ·skip
     refine QP (congrArg some hb1473) (W_v (pt b11 0) (QD rfl) rfl (QP (congrArg some hb1473) ?_))
     obtain ⟨t1492,ht1493,H⟩:=QW H
     refine Zz fn31 (Qv.con k M1427 (8:Int) (0:Int) ([]:Str) ([]:Str) t1492  ht1493) S rfl rfl (by rintro _ _ _ ⟨_,rfl⟩;exact Qd) ?_
     rintro _ w1494 _ Γ' E' S ⟨rfl,rfl⟩
     replace E:=E.trans E'
     refine QP (congrArg some hb1473) ?_
     obtain ⟨t1495,ht1496,H⟩:=QW H
     replace S:St w1494 M1427 F [_,_,_,_,_]:=S.pick [4,3,2,1,0] (by decide)
     refine Yc fn32 (Qb.con k M1427 A1388 c1389 A1391 c1392 A1394 c1395 A1397 c1398 vs1400 x1387 (0:Int) t1492 (0:Int) false ([]:Str) b11 t1495 hm1401 hg0 ht1496) (Γ1:=[_,_,_,_,_]) (Γ2:=[]) S rfl rfl ?_
     rintro _ w1511 M1512 Γ' hM1513 E' S ⟨A1497,c1498,A1500,c1501,A1503,c1504,A1506,c1507,vs1509,rfl,hm1510,rfl⟩
     replace HM:=Hp.le_trans HM hM1513
     replace LE1491:=Hp.le_trans LE1491 hM1513
     replace E:=E.trans E'
     replace S:St w1511 M1512 F [_,_,_,_,_]:=S
     refine W_v (.bool t1495.1) (QV (k:=true) (congrArg Value.bool hb1473) rfl) rfl (QB ?_)
     exact ⟨t1495.1,t1495.2,A1497,c1498,A1500,c1501,A1503,c1504,A1506,c1507,vs1509,M1512,Option.some.inj H,⟨rfl,rfl,trivial⟩,LE1491,E,S.pick [4,3,2,1,0] (by decide),hm1510⟩
    ·skip
     refine QZ (skT hb1473) rfl (QZ (skT hb1473) rfl (QZ (skT hb1473) rfl (W_v (.bool false) (QV (k:=false) (congrArg Value.bool hb1473) rfl) rfl (QB ?_))))
     exact ⟨false,x1387,A1388,c1389,A1391,c1392,A1394,c1395,A1397,c1398,vs1400,M1427,Option.some.inj H,⟨rfl,rfl,trivial⟩,(Hp.le_refl M1427),E,S.pick [0,1,2,3,4] (by decide),hm1401⟩
  as_aux_lemma =>
  rintro ρ w1514 ⟨x1474,x1475,A1476,c1477,A1479,c1480,A1482,c1483,A1485,c1486,vs1488,M1515,rfl,hρ,hM1516,E,S,hm1489⟩
  rw [QI hρ]
  replace HM:=Hp.le_trans HM hM1516
  have H:=o1490H
  refine W_v (.bool x1474) (QD rfl) rfl ?_
  obtain ⟨o1535,o1535h,o1535H⟩:=QW H
  refine ZH 5 (fun ρ w'=>∃ (x1534:Bool),(x1534)=o1535∧Qi ρ [(152,.bool x1534)]∧Ext w w'∧St w' M1515 F []) ?_ ?_
  ·have H:=o1535h
   rcases Zf H with ⟨hb1533,H⟩ | ⟨hb1533,H⟩
   ·skip
    refine QP (congrArg some hb1533) (W_v (pt b11 0) (QD rfl) rfl (QP (congrArg some hb1533) ?_))
    obtain ⟨t1536,ht1537,H⟩:=QW H
    replace S:St w1514 M1515 F [_,_,_,_,_]:=S.pick [4,3,2,1,0] (by decide)
    refine Z5 fn27 (ZR.con k M1515 A1476 c1477 A1479 c1480 A1482 c1483 A1485 c1486 vs1488 x1475 b11 t1536 hm1489 ht1537) (Γ1:=[_,_,_,_,_]) (Γ2:=[]) S rfl rfl (by rintro _ _ _ ⟨_,_,rfl,rfl⟩;exact (QN (YI (fun _ _ _ _ h=>h)) (QN ZW (QN Qu (QN Qu (QN (YI (fun _ _ _ _ h=>h)) (QN Qu Qd))))))) ?_
    rintro _ w1541 _ Γ' E' S ⟨A1538,c1539,rfl,rfl⟩
    replace E:=E.trans E'
    replace S:St w1541 M1515 F [_,_,_,_,_,_]:=S
    refine QP (congrArg some hb1533) (W_v (vI (t1536.length:Int)) (Q8 (n:=t1536.length) Tryd.underlying67 rfl) rfl (QP (congrArg some hb1533) (W_v (.bool ((t1536.length:Int)==(0:Int))) (Qa rfl rfl rfl rfl) rfl (W_v (.bool ((t1536.length:Int)==(0:Int))) (QV (k:=true) (congrArg Value.bool hb1533) rfl) rfl (QB ?_)))))
    exact ⟨((t1536.length:Int)==(0:Int)),Option.some.inj H,⟨rfl,trivial⟩,E,S.pick [] (by decide)⟩
   ·skip
    refine QZ (skT hb1533) rfl (QZ (skT hb1533) rfl (QZ (skT hb1533) rfl (QZ (skT hb1533) rfl (W_v (.bool false) (QV (k:=false) (congrArg Value.bool hb1533) rfl) rfl (QB ?_)))))
    exact ⟨false,Option.some.inj H,⟨rfl,trivial⟩,E,S.pick [] (by decide)⟩
  rintro ρ w1544 ⟨x1534,rfl,hρ,E,S⟩
  rw [QI hρ]
  have H:=o1535H
  refine W_v (.bool x1534) (QG rfl) rfl (QB (tn ?_))
  refine Qs ?_
  obtain rfl:=Option.some.inj H
  exact ⟨_,_,_,fun w1 e1=>QX (vs:=[.bool x1534]) (FA.cons (rfl) (FA.nil)),HM,E,S.pick [] (by decide),⟨rfl,rfl⟩⟩
def Z6 (a0:(List YG)):Nat→Int→Int→Option ((Int))
 | 0,_,_=>none
 | k+1,x37,x38=>(if ((decide (x38 < (a0.length:Int)))&&(decide (x37 < (12000:Int))))=true then (if 0≤x38∧x38 < (a0.length:Int) then Z6 a0 k (IntKind.i64.wrap ((IntKind.i64.wrap ((IntKind.i64.wrap ((IntKind.i64.wrap (x37+(60:Int)))+(imin (9000:Int) (((rd a0 x38).Call.Key).length:Int))))+(imin (9000:Int) (((rd a0 x38).Call.End).length:Int))))+(imin (9000:Int) (((rd a0 x38).Call.Value).length:Int)))) (IntKind.i64.wrap (x38+(1:Int))) else none) else some (x37))
theorem Z6.mono {a0:(List YG)}:∀ {kl:Nat} {x0 x1},OLe (Z6 a0 kl x0 x1) (Z6 a0 (kl+1) x0 x1):=by
 intro kl
 induction kl with
 | zero=>intros;exact OLe.none
 | succ kl ih =>
  intros
  rw [Z6.eq_2,Z6.eq_2]
  exact mo
def Yr (k:Nat) (a0:(List YG)):Option (Bool) :=
 (Option.bind (Z6 a0 k (0:Int) (0:Int)) (fun x55=>some (decide (x55≥(12000:Int)))))
theorem Yr.mono {k:Nat} {a0:(List YG)}:OLe (Yr k a0) (Yr (k+1) a0):=by
 unfold Yr
 have m1:=@Z6.mono
 exact mo
theorem Yr.con (k:Nat) (M:Hp) (A0:Option Addr) (c0:Nat) (a0:(List YG)) (r:Bool) (hr0:SlR Xi M (.slice A0 a0.length c0) a0) (h:Yr k a0=some r):Con Tryd.prog 12 #[.slice A0 a0.length c0] M [] (fun v M' Γ'=>v=.bool r∧Γ'=[]):=by
 refine Qt Tryd.func12 rfl Tryd.ntmps12 Tryd.results12 rfl ?_
 intro w F rn S hrn
 have E:=Ext.refl w
 have HM:=Hp.le_refl M
 have H:=h
 unfold Yr at H
 refine QE (QA (W_v (.bool false) (QG rfl) rfl (QB (tn (QE (QA (W_v (vI 0) (QG rfl) rfl (QB (tn (QE (QE (QA (W_v (vI 0) (QG rfl) rfl (QB (tn ?_)))))))))))))))
 obtain ⟨o56,o56h,o56H⟩:=QW H
 refine Yj (fun ρ w'=>∃ (x55:Int),(x55)=o56∧Qi ρ [(3,vI x55)]∧Ext w w'∧St w' M F []) ?_ ?_
 ·skip
  refine Y3 (fun n ρ w'=>∃ (x37:Int) (x38:Int),Z6 a0 n x37 x38=some o56∧Qi ρ [(0,.slice A0 a0.length c0),(3,vI x37),(4,vI x38)]∧Ext w w'∧St w' M F []) k ?_ ?_
  ·skip
   exact ⟨(0:Int),(0:Int),o56h,⟨rfl,rfl,rfl,trivial⟩,E,S.pick [] (by decide)⟩
  ·intro n
   rintro ρ w57 ⟨x37,x38,H,hρ,E,S⟩
   rw [QI hρ]
   cases n with
   | zero=>cases H
   | succ k =>
    rw [Z6.eq_2] at H
    refine QE (QE (QA (W_v (vI x38) (QD rfl) rfl (W_v (.slice A0 a0.length c0) (QD rfl) rfl (W_v (vI (a0.length:Int)) (Q8 (n:=a0.length) Tryd.underlying24 rfl) rfl (W_v (.bool (decide (x38 < (a0.length:Int)))) (Qa rfl rfl rfl rfl) rfl (W_v (.bool (decide (x38 < (a0.length:Int)))) (QD rfl) rfl ?_)))))))
    refine ZH 3 (fun ρ w'=>Qi ρ [(0,.slice A0 a0.length c0),(3,vI x37),(4,vI x38),(13,.bool ((decide (x38 < (a0.length:Int)))&&(decide (x37 < (12000:Int)))))]∧w57=w') ?_ ?_
    ·rcases ZX (decide (x38 < (a0.length:Int))) with hb58 | hb58
     ·skip
      refine QZ (skT hb58) rfl (QZ (skT hb58) rfl (W_v (.bool false) (QV (k:=false) (congrArg Value.bool hb58) rfl) rfl (QB ?_)))
      exact ⟨⟨rfl,rfl,rfl,(by first | rfl | (rw [hb58];rfl) | (simp only [hb58];rfl)),trivial⟩,rfl⟩
     ·skip
      refine QP (congrArg some hb58) (W_v (vI x37) (QD rfl) rfl (QP (congrArg some hb58) (W_v (.bool (decide (x37 < (12000:Int)))) (Qa rfl rfl rfl rfl) rfl (W_v (.bool (decide (x37 < (12000:Int)))) (QV (k:=true) (congrArg Value.bool hb58) rfl) rfl (QB ?_)))))
      exact ⟨⟨rfl,rfl,rfl,(by first | rfl | (rw [hb58];rfl) | (simp only [hb58];rfl)),trivial⟩,rfl⟩
    as_aux_lemma =>
    rintro ρ _ ⟨hρ,rfl⟩
    rw [QI hρ]
    refine QB (tn ?_)
    rcases Zf H with ⟨hb59,H⟩ | ⟨hb59,H⟩
    ·refine QQ (congrArg Value.bool hb59) ?_
     refine Qr (tn (QE ?_))
     refine YP ?_
     refine QE (QA (W_v (.slice A0 a0.length c0) (QD rfl) rfl (W_v (vI x38) (QD rfl) rfl ?_)))
     obtain ⟨⟨p60,p61⟩,H⟩:=Yy H
     obtain ⟨b62,o63,cs64,_,_,ee69,hb65,vs66,hR67,hc68⟩:=SlW.at' hr0 p60 p61
     obtain rfl:vs66=_:=hR67
     refine W_v (.pointer (some ⟨b62,o63+x38.toNat*8,none⟩)) (Qy Tryd.underlying24 ty39 (slA ee69) rfl p60 p61) rfl (W_v (.pointer (some ⟨b62,o63+x38.toNat*8+1,none⟩)) (QC (o:=o63+x38.toNat*8) (off:=1) Tryd.underlying39 rfl ty37 rfl rfl) rfl (W_v (.agg #[vU ((rd a0 x38).Call.Kind),vI ((rd a0 x38).Call.Tx),vS ((rd a0 x38).Call.Key),vS ((rd a0 x38).Call.End),vS ((rd a0 x38).Call.Value),vI ((rd a0 x38).Call.Limit),vU ((rd a0 x38).Call.Engine)]) (ZA (S.frz hb65) ty37 rfl (Xa hc68 1 rfl) rfl rfl) rfl ?_))
     refine Zo S #[vU 0,vI 0,vS ([]:Str),vS ([]:Str),vS ([]:Str),vI 0,vU 0] ty37 rfl rfl ?_
     intro b70 w71 E' S
     replace E:=E.trans E'
     refine Qx S 0 rfl ty37 rfl rfl [vU ((rd a0 x38).Call.Kind),vI ((rd a0 x38).Call.Tx),vS ((rd a0 x38).Call.Key),vS ((rd a0 x38).Call.End),vS ((rd a0 x38).Call.Value),vI ((rd a0 x38).Call.Limit),vU ((rd a0 x38).Call.Engine)] rfl rfl rfl #[vU ((rd a0 x38).Call.Kind),vI ((rd a0 x38).Call.Tx),vS ((rd a0 x38).Call.Key),vS ((rd a0 x38).Call.End),vS ((rd a0 x38).Call.Value),vI ((rd a0 x38).Call.Limit),vU ((rd a0 x38).Call.Engine)] (by as_aux_lemma=>kernel_rfl) rfl ?_
     intro w73 E' S
     replace E:=E.trans E'
     refine QB (tn (QA (W_v (vI x37) (QD rfl) rfl (W_v (vI (IntKind.i64.wrap (x37+(60:Int)))) (Qa rfl rfl rfl rfl) rfl (W_v (pt b70 2) (QC (o:=0) (off:=2) Tryd.underlying37 rfl ty9 rfl rfl) rfl (W_v (vS ((rd a0 x38).Call.Key)) (QO (S.blk 0 rfl) ty9 rfl rfl) rfl (W_v (vI (((rd a0 x38).Call.Key).length:Int)) (XU Tryd.underlying9 rfl) rfl (W_v (vI (imin (9000:Int) (((rd a0 x38).Call.Key).length:Int))) (V9 rfl rfl) rfl (W_v (vI (IntKind.i64.wrap ((IntKind.i64.wrap (x37+(60:Int)))+(imin (9000:Int) (((rd a0 x38).Call.Key).length:Int))))) (Qa rfl rfl rfl rfl) rfl (W_v (pt b70 3) (QC (o:=0) (off:=3) Tryd.underlying37 rfl ty9 rfl rfl) rfl (W_v (vS ((rd a0 x38).Call.End)) (QO (S.blk 0 rfl) ty9 rfl rfl) rfl (W_v (vI (((rd a0 x38).Call.End).length:Int)) (XU Tryd.underlying9 rfl) rfl (W_v (vI (imin (9000:Int) (((rd a0 x38).Call.End).length:Int))) (V9 rfl rfl) rfl (W_v (vI (IntKind.i64.wrap ((IntKind.i64.wrap ((IntKind.i64.wrap (x37+(60:Int)))+(imin (9000:Int) (((rd a0 x38).Call.Key).length:Int))))+(imin (9000:Int) (((rd a0 x38).Call.End).length:Int))))) (Qa rfl rfl rfl rfl) rfl (W_v (pt b70 4) (QC (o:=0) (off:=4) Tryd.underlying37 rfl ty9 rfl rfl) rfl ?_)))))))))))))))
     refine W_v (vS ((rd a0 x38).Call.Value)) (QO (S.blk 0 rfl) ty9 rfl rfl) rfl (W_v (vI (((rd a0 x38).Call.Value).length:Int)) (XU Tryd.underlying9 rfl) rfl (W_v (vI (imin (9000:Int) (((rd a0 x38).Call.Value).length:Int))) (V9 rfl rfl) rfl (W_v (vI (IntKind.i64.wrap ((IntKind.i64.wrap ((IntKind.i64.wrap ((IntKind.i64.wrap (x37+(60:Int)))+(imin (9000:Int) (((rd a0 x38).Call.Key).length:Int))))+(imin (9000:Int) (((rd a0 x38).Call.End).length:Int))))+(imin (9000:Int) (((rd a0 x38).Call.Value).length:Int))))) (Qa rfl rfl rfl rfl) rfl (W_v (vI (IntKind.i64.wrap ((IntKind.i64.wrap ((IntKind.i64.wrap ((IntKind.i64.wrap (x37+(60:Int)))+(imin (9000:Int) (((rd a0 x38).Call.Key).length:Int))))+(imin (9000:Int) (((rd a0 x38).Call.End).length:Int))))+(imin (9000:Int) (((rd a0 x38).Call.Value).length:Int))))) (QG rfl) rfl (QB (bn (tn (QA (W_v (vI x38) (QD rfl) rfl (W_v (vI (IntKind.i64.wrap (x38+(1:Int)))) (Qa rfl rfl rfl rfl) rfl (W_v (vI (IntKind.i64.wrap (x38+(1:Int)))) (QG rfl) rfl (QB (tn ?_)))))))))))))
     exact ⟨k,Nat.lt_succ_self k,⟨(IntKind.i64.wrap ((IntKind.i64.wrap ((IntKind.i64.wrap ((IntKind.i64.wrap (x37+(60:Int)))+(imin (9000:Int) (((rd a0 x38).Call.Key).length:Int))))+(imin (9000:Int) (((rd a0 x38).Call.End).length:Int))))+(imin (9000:Int) (((rd a0 x38).Call.Value).length:Int)))),(IntKind.i64.wrap (x38+(1:Int))),H,⟨rfl,rfl,rfl,trivial⟩,E,S.pick [] (by decide)⟩⟩
    refine QK (congrArg Value.bool hb59) ?_
    refine Y0 ?_
    refine tx (tx (bsm (?_)))
    refine tn ?_
    exact ⟨x37,Option.some.inj H,⟨rfl,trivial⟩,E,S.pick [] (by decide)⟩
 rintro ρ w74 ⟨x55,rfl,hρ,E,S⟩
 rw [QI hρ]
 have H:=o56H
 refine tn ?_
 as_aux_lemma =>
 refine QE (QA (W_v (vI x55) (QD rfl) rfl (W_v (.bool (decide (x55≥(12000:Int)))) (Qa rfl rfl rfl rfl) rfl (W_v (.bool (decide (x55≥(12000:Int)))) (QG rfl) rfl (QB (tn ?_))))))
 refine Qs ?_
 obtain rfl:=Option.some.inj H
 exact ⟨_,_,_,fun w1 e1=>QX (vs:=[.bool (decide (x55≥(12000:Int)))]) (FA.cons (rfl) (FA.nil)),HM,E,S.pick [] (by decide),⟨rfl,rfl⟩⟩
def YA (a0:Qc) (a1:Qc):Nat→Int→Option ((Bool)⊕(Unit))
 | 0,_=>none
 | k+1,x101=>(if (decide (x101 < (a0.Pairs.length:Int)))=true then (if 0≤x101∧x101 < (a0.Pairs.length:Int) then (if 0≤x101∧x101 < (a1.Pairs.length:Int) then (if (!(((rd a0.Pairs x101).Key==(rd a1.Pairs x101).Key)&&((rd a0.Pairs x101).Value==(rd a1.Pairs x101).Value)))=true then some (.inl false) else YA a0 a1 k (IntKind.i64.wrap (x101+(1:Int)))) else none) else none) else some (.inr ()))
theorem YA.mono {a0:Qc} {a1:Qc}:∀ {kl:Nat} {x0},OLe (YA a0 a1 kl x0) (YA a0 a1 (kl+1) x0):=by
 intro kl
 induction kl with
 | zero=>intros;exact OLe.none
 | succ kl ih =>
  intros
  rw [YA.eq_2,YA.eq_2]
  exact mo
def YE (k:Nat) (a0:Qc) (a1:Qc):Option (Bool) :=
 (if ((((a0.Err != a1.Err)||(!(a0.Found==a1.Found)))||(sbin .neq a0.Value a1.Value))||((a0.Pairs.length:Int) != (a1.Pairs.length:Int)))=true then some false else (Option.bind (YA a0 a1 k (0:Int)) (fun o146o=>Sum.elim (fun r'=>some r') (fun _=>some true) o146o)))
theorem YE.mono {k:Nat} {a0:Qc} {a1:Qc}:OLe (YE k a0 a1) (YE (k+1) a0 a1):=by
 unfold YE
 have m1:=@YA.mono
 exact mo
theorem YE.con (k:Nat) (M:Hp) (A0_0:Option Addr) (c0_0:Nat) (a0:Qc) (A1_0:Option Addr) (c1_0:Nat) (a1:Qc) (r:Bool) (hr0_0:SlR Qm M (.slice A0_0 a0.Pairs.length c0_0) a0.Pairs) (hr1_0:SlR Qm M (.slice A1_0 a1.Pairs.length c1_0) a1.Pairs) (h:YE k a0 a1=some r):Con Tryd.prog 20 #[.agg #[vI a0.Err,.bool a0.Found,vS a0.Value,.slice A0_0 a0.Pairs.length c0_0],.agg #[vI a1.Err,.bool a1.Found,vS a1.Value,.slice A1_0 a1.Pairs.length c1_0]] M [] (fun v M' Γ'=>v=.bool r∧Γ'=[]):=by
 refine Qt Tryd.func20 rfl Tryd.ntmps20 Tryd.results20 rfl ?_
 intro w F rn S hrn
 have E:=Ext.refl w
 have HM:=Hp.le_refl M
 have H:=h
 unfold YE at H
 refine QE (QA ?_)
 refine Y8 S #[vI a0.Err,.bool a0.Found,vS a0.Value,.slice A0_0 a0.Pairs.length c0_0] rfl rfl rfl ?_
 intro b1 w2 E' S
 replace E:=E.trans E'
 refine Y8 S #[vI a1.Err,.bool a1.Found,vS a1.Value,.slice A1_0 a1.Pairs.length c1_0] rfl rfl rfl ?_
 intro b4 w5 E' S
 replace E:=E.trans E'
 refine W_v (.bool false) (QG rfl) rfl (QB (tn (QE (QE (QA (W_v (pt b1 0) (QC (o:=0) (off:=0) Tryd.underlying43 rfl ty28 rfl rfl) rfl (W_v (vI a0.Err) (QO (S.blk 1 rfl) ty28 rfl rfl) rfl (W_v (pt b4 0) (QC (o:=0) (off:=0) Tryd.underlying43 rfl ty28 rfl rfl) rfl (W_v (vI a1.Err) (QO (S.blk 0 rfl) ty28 rfl rfl) rfl (W_v (.bool (a0.Err != a1.Err)) (Qa rfl rfl rfl rfl) rfl (W_v (.bool (a0.Err != a1.Err)) (QD rfl) rfl ?_)))))))))))
 refine ZH 6 (fun ρ w'=>Qi ρ [(2,pt b1 0),(3,pt b4 0),(17,.bool ((a0.Err != a1.Err)||(!(a0.Found==a1.Found))))]∧w5=w') ?_ ?_
 ·rcases ZX (a0.Err != a1.Err) with hb7 | hb7
  ·skip
   refine QP (congrArg some hb7) (W_v (pt b1 1) (QC (o:=0) (off:=1) Tryd.underlying43 rfl ty4 rfl rfl) rfl (QP (congrArg some hb7) (W_v (.bool a0.Found) (QO (S.blk 1 rfl) ty4 rfl rfl) rfl (QP (congrArg some hb7) (W_v (pt b4 1) (QC (o:=0) (off:=1) Tryd.underlying43 rfl ty4 rfl rfl) rfl (QP (congrArg some hb7) (W_v (.bool a1.Found) (QO (S.blk 0 rfl) ty4 rfl rfl) rfl (QP (congrArg some hb7) (W_v (.bool (!(a0.Found==a1.Found))) (q7 Tryd.underlying4 rfl rfl) rfl (W_v (.bool (!(a0.Found==a1.Found))) (QV (k:=false) (congrArg Value.bool hb7) rfl) rfl (QB ?_)))))))))))
   exact ⟨⟨rfl,rfl,(by first | rfl | (rw [hb7];rfl) | (simp only [hb7];rfl)),trivial⟩,rfl⟩
  ·skip
   refine QZ (skF hb7) rfl (QZ (skF hb7) rfl (QZ (skF hb7) rfl (QZ (skF hb7) rfl (QZ (skF hb7) rfl (W_v (.bool true) (QV (k:=true) (congrArg Value.bool hb7) rfl) rfl (QB ?_))))))
   exact ⟨⟨rfl,rfl,(by first | rfl | (rw [hb7];rfl) | (simp only [hb7];rfl)),trivial⟩,rfl⟩
 as_aux_lemma =>
 rintro ρ _ ⟨hρ,rfl⟩
 rw [QI hρ]
 refine W_v (.bool ((a0.Err != a1.Err)||(!(a0.Found==a1.Found)))) (QD rfl) rfl ?_
 refine ZH 6 (fun ρ w'=>Qi ρ [(2,pt b1 0),(3,pt b4 0),(24,.bool (((a0.Err != a1.Err)||(!(a0.Found==a1.Found)))||(sbin .neq a0.Value a1.Value)))]∧w5=w') ?_ ?_
 ·rcases ZX ((a0.Err != a1.Err)||(!(a0.Found==a1.Found))) with hb8 | hb8
  ·skip
   refine QP (congrArg some hb8) (W_v (pt b1 2) (QC (o:=0) (off:=2) Tryd.underlying43 rfl ty9 rfl rfl) rfl (QP (congrArg some hb8) (W_v (vS a0.Value) (QO (S.blk 1 rfl) ty9 rfl rfl) rfl (QP (congrArg some hb8) (W_v (pt b4 2) (QC (o:=0) (off:=2) Tryd.underlying43 rfl ty9 rfl rfl) rfl (QP (congrArg some hb8) (W_v (vS a1.Value) (QO (S.blk 0 rfl) ty9 rfl rfl) rfl (QP (congrArg some hb8) (W_v (.bool (sbin .neq a0.Value a1.Value)) (Xy rfl rfl rfl) rfl (W_v (.bool (sbin .neq a0.Value a1.Value)) (QV (k:=false) (congrArg Value.bool hb8) rfl) rfl (QB ?_)))))))))))
   exact ⟨⟨rfl,rfl,(by first | rfl | (rw [hb8];rfl) | (simp only [hb8];rfl)),trivial⟩,rfl⟩
  ·skip
   refine QZ (skF hb8) rfl (QZ (skF hb8) rfl (QZ (skF hb8) rfl (QZ (skF hb8) rfl (QZ (skF hb8) rfl (W_v (.bool true) (QV (k:=true) (congrArg Value.bool hb8) rfl) rfl (QB ?_))))))
   exact ⟨⟨rfl,rfl,(by first | rfl | (rw [hb8];rfl) | (simp only [hb8];rfl)),trivial⟩,rfl⟩
 as_aux_lemma =>
 rintro ρ _ ⟨hρ,rfl⟩
 rw [QI hρ]
 refine W_v (.bool (((a0.Err != a1.Err)||(!(a0.Found==a1.Found)))||(sbin .neq a0.Value a1.Value))) (QD rfl) rfl ?_
 refine ZH 8 (fun ρ w'=>Qi ρ [(2,pt b1 0),(3,pt b4 0),(33,.bool ((((a0.Err != a1.Err)||(!(a0.Found==a1.Found)))||(sbin .neq a0.Value a1.Value))||((a0.Pairs.length:Int) != (a1.Pairs.length:Int))))]∧w5=w') ?_ ?_
 ·rcases ZX (((a0.Err != a1.Err)||(!(a0.Found==a1.Found)))||(sbin .neq a0.Value a1.Value)) with hb9 | hb9
  ·skip
   refine QP (congrArg some hb9) (W_v (pt b1 3) (QC (o:=0) (off:=3) Tryd.underlying43 rfl ty41 rfl rfl) rfl (QP (congrArg some hb9) (W_v (.slice A0_0 a0.Pairs.length c0_0) (QO (S.blk 1 rfl) ty41 rfl rfl) rfl (QP (congrArg some hb9) (W_v (vI (a0.Pairs.length:Int)) (Q8 (n:=a0.Pairs.length) Tryd.underlying41 rfl) rfl (QP (congrArg some hb9) (W_v (pt b4 3) (QC (o:=0) (off:=3) Tryd.underlying43 rfl ty41 rfl rfl) rfl (QP (congrArg some hb9) (W_v (.slice A1_0 a1.Pairs.length c1_0) (QO (S.blk 0 rfl) ty41 rfl rfl) rfl (QP (congrArg some hb9) (W_v (vI (a1.Pairs.length:Int)) (Q8 (n:=a1.Pairs.length) Tryd.underlying41 rfl) rfl (QP (congrArg some hb9) (W_v (.bool ((a0.Pairs.length:Int) != (a1.Pairs.length:Int))) (Qa rfl rfl rfl rfl) rfl (W_v (.bool ((a0.Pairs.length:Int) != (a1.Pairs.length:Int))) (QV (k:=false) (congrArg Value.bool hb9) rfl) rfl (QB ?_)))))))))))))))
   exact ⟨⟨rfl,rfl,(by first | rfl | (rw [hb9];rfl) | (simp only [hb9];rfl)),trivial⟩,rfl⟩
  ·skip
   refine QZ (skF hb9) rfl (QZ (skF hb9) rfl (QZ (skF hb9) rfl (QZ (skF hb9) rfl (QZ (skF hb9) rfl (QZ (skF hb9) rfl (QZ (skF hb9) rfl (W_v (.bool true) (QV (k:=true) (congrArg Value.bool hb9) rfl) rfl (QB ?_))))))))
   exact ⟨⟨rfl,rfl,(by first | rfl | (rw [hb9];rfl) | (simp only [hb9];rfl)),trivial⟩,rfl⟩
 as_aux_lemma =>
 rintro ρ _ ⟨hρ,rfl⟩
 rw [QI hρ]
 refine QB (tn ?_)
 rcases Zf H with ⟨hb10,H⟩ | ⟨hb10,H⟩
 ·refine QQ (congrArg Value.bool hb10) ?_
  refine QE (QA (W_v (.bool false) (QG rfl) rfl (QB (tn ?_))))
  refine Qs ?_
  refine tr (?_)
  obtain rfl:=Option.some.inj H
  exact ⟨_,_,_,fun w1 e1=>QX (vs:=[.bool false]) (FA.cons (rfl) (FA.nil)),HM,E,S.pick [] (by decide),⟨rfl,rfl⟩⟩
 refine QK (congrArg Value.bool hb10) (Qr (tn (QE (QE (QA (W_v (vI 0) (QG rfl) rfl (QB (tn ?_))))))))
 obtain ⟨o146,o146h,o146H⟩:=QW H
 refine Yj (fun ρ w'=>.inr ()=o146∧Qi ρ []∧Ext w w'∧St w' M F []) ?_ ?_
 ·skip
  refine Y3 (fun n ρ w'=>∃ (x101:Int),YA a0 a1 n x101=some o146∧Qi ρ [(2,pt b1 0),(3,pt b4 0),(5,vI x101)]∧Ext w w'∧St w' M F [B43 b4 a1 A1_0 c1_0,B43 b1 a0 A0_0 c0_0]) k ?_ ?_
  ·skip
   exact ⟨(0:Int),o146h,⟨rfl,rfl,rfl,trivial⟩,E,S.pick [0,1] (by decide)⟩
  ·intro n
   rintro ρ w147 ⟨x101,H,hρ,E,S⟩
   rw [QI hρ]
   cases n with
   | zero=>cases H
   | succ k =>
    rw [YA.eq_2] at H
    refine QE (QE (QA (W_v (vI x101) (QD rfl) rfl (W_v (pt b1 3) (QC (o:=0) (off:=3) Tryd.underlying43 rfl ty41 rfl rfl) rfl (W_v (.slice A0_0 a0.Pairs.length c0_0) (QO (S.blk 1 rfl) ty41 rfl rfl) rfl (W_v (vI (a0.Pairs.length:Int)) (Q8 (n:=a0.Pairs.length) Tryd.underlying41 rfl) rfl (W_v (.bool (decide (x101 < (a0.Pairs.length:Int)))) (Qa rfl rfl rfl rfl) rfl (QB (tn ?_)))))))))
    rcases Zf H with ⟨hb148,H⟩ | ⟨hb148,H⟩
    ·refine QQ (congrArg Value.bool hb148) ?_
     refine Qr (tn (QE ?_))
     refine YP ?_
     refine QE ?_
     refine Q0 (S:=fun w'=>∃ Mx,M.le Mx∧St w' Mx F [B43 b4 a1 A1_0 c1_0,B43 b1 a0 A0_0 c0_0]) (L:=11) mixed ?_
     intro w169 hw170 E'
     replace S:=S.heap hw170
     replace E:=E.trans E'
     have D1:∃ Mx,Hp.le M Mx∧St _ Mx F [_,_]:=⟨_,Hp.le_refl _,S.pick [0,1] (by decide)⟩
     refine Wt 0 rfl rfl rfl (pt b1 3) rfl (fun w' h'=>QC (o:=0) (off:=3) Tryd.underlying43 rfl ty41 rfl rfl) D1 (Wt 1 rfl rfl rfl (.slice A0_0 a0.Pairs.length c0_0) rfl (fun w' h'=>QO (Qp h' 1 rfl) ty41 rfl rfl) D1 (Wt 2 rfl rfl rfl (vI x101) rfl (fun w' h'=>QD rfl) D1 ?_))
     obtain ⟨⟨p171,p172⟩,H⟩:=Yy H
     obtain ⟨b173,o174,cs175,_,_,ee180,hb176,vs177,hR178,hc179⟩:=SlW.at' hr0_0 p171 p172
     obtain rfl:vs177=_:=hR178
     refine Wt 3 rfl rfl rfl (.pointer (some ⟨b173,o174+x101.toNat*2,none⟩)) rfl (fun w' h'=>Qy Tryd.underlying41 ty87 (slA ee180) rfl p171 p172) D1 (Wt 4 rfl rfl rfl (.agg #[vS ((rd a0.Pairs x101).Key),vS ((rd a0.Pairs x101).Value)]) rfl (fun w' h'=>ZA (XG h' hb176) ty87 rfl (Xa hc179 0 rfl) rfl rfl) D1 (Wt 5 rfl rfl rfl (pt b4 3) rfl (fun w' h'=>QC (o:=0) (off:=3) Tryd.underlying43 rfl ty41 rfl rfl) D1 (Wt 6 rfl rfl rfl (.slice A1_0 a1.Pairs.length c1_0) rfl (fun w' h'=>QO (Qp h' 0 rfl) ty41 rfl rfl) D1 (Wt 7 rfl rfl rfl (vI x101) rfl (fun w' h'=>QD rfl) D1 ?_))))
     obtain ⟨⟨p181,p182⟩,H⟩:=Yy H
     obtain ⟨b183,o184,cs185,_,_,ee190,hb186,vs187,hR188,hc189⟩:=SlW.at' hr1_0 p181 p182
     obtain rfl:vs187=_:=hR188
     refine Wt 8 rfl rfl rfl (.pointer (some ⟨b183,o184+x101.toNat*2,none⟩)) rfl (fun w' h'=>Qy Tryd.underlying41 ty87 (slA ee190) rfl p181 p182) D1 (Wt 9 rfl rfl rfl (.agg #[vS ((rd a1.Pairs x101).Key),vS ((rd a1.Pairs x101).Value)]) rfl (fun w' h'=>ZA (XG h' hb186) ty87 rfl (Xa hc189 0 rfl) rfl rfl) D1 (Wt 10 rfl rfl rfl (.bool (!(((rd a0.Pairs x101).Key==(rd a1.Pairs x101).Key)&&((rd a0.Pairs x101).Value==(rd a1.Pairs x101).Value)))) rfl (fun w' h'=>Vc (en87 _ _ _ _) rfl (eq87 _ ((rd a0.Pairs x101).Key) ((rd a0.Pairs x101).Value) ((rd a1.Pairs x101).Key) ((rd a1.Pairs x101).Value))) D1 ?_))
     refine Wz ?_
     refine tn ?_
     rcases Zf H with ⟨hb191,H⟩ | ⟨hb191,H⟩
     ·refine QQ (congrArg Value.bool hb191) ?_
      refine QE (QA (W_v (.bool false) (QG rfl) rfl (QB (tn ?_))))
      refine Qs ?_
      refine br (tr (tr (br (tr (tr (?_))))))
      obtain rfl:=Option.some.inj H
      have H:=o146H
      replace H:=elimL H
      obtain rfl:=Option.some.inj H
      exact ⟨_,_,_,fun w1 e1=>QX (vs:=[.bool false]) (FA.cons (rfl) (FA.nil)),HM,E,S.pick [] (by decide),⟨rfl,rfl⟩⟩
     refine QK (congrArg Value.bool hb191) (Qr (bn (tn (QA (W_v (vI x101) (QD rfl) rfl (W_v (vI (IntKind.i64.wrap (x101+(1:Int)))) (Qa rfl rfl rfl rfl) rfl (W_v (vI (IntKind.i64.wrap (x101+(1:Int)))) (QG rfl) rfl (QB (tn ?_)))))))))
     exact ⟨k,Nat.lt_succ_self k,⟨(IntKind.i64.wrap (x101+(1:Int))),H,⟨rfl,rfl,rfl,trivial⟩,E,S.pick [0,1] (by decide)⟩⟩
    refine QK (congrArg Value.bool hb148) ?_
    refine Y0 ?_
    refine tx (tx (bsm (?_)))
    refine tn ?_
    exact ⟨Option.some.inj H,trivial,E,S.pick [] (by decide)⟩
 rintro ρ w192 ⟨rfl,hρ,E,S⟩
 rw [QI hρ]
 have H:=o146H
 replace H:=elimR H
 refine tn ?_
 as_aux_lemma =>
 refine QE (QA (W_v (.bool true) (QG rfl) rfl (QB (tn ?_))))
 refine Qs ?_
 obtain rfl:=Option.some.inj H
 exact ⟨_,_,_,fun w1 e1=>QX (vs:=[.bool true]) (FA.cons (rfl) (FA.nil)),HM,E,S.pick [] (by decide),⟨rfl,rfl⟩⟩
theorem clone77:IsClone Tryd.prog 77:=⟨_,Tryd.func77,by kernel_rfl,by kernel_rfl,by kernel_rfl,by kernel_rfl⟩
theorem maps_Clone_89.con (M:Hp) (A:Option Addr) (l:List (Zi×Int)):Con Tryd.prog 49 #[.map (mb A)] M [QT QF (Value.int .i64) A l] (fun v M' Γ'=>∃ b:Nat,v=.map (mb (some ⟨b,0,none⟩))∧Γ'=[QT QF (Value.int .i64) (some ⟨b,0,none⟩) l,QT QF (Value.int .i64) A l]):=by
 refine Qt Tryd.func49 rfl Tryd.ntmps49 Tryd.results49 rfl ?_
 intro w F rn S hrn
 have E:=Ext.refl w
 have HM:=Hp.le_refl M
 obtain ⟨b0,rfl,_⟩:=S.mapC 0 rfl
 refine QE (QA (W_v (.map none) (QG rfl) rfl (QB (tn (QE (QE (QA (W_v (.map (mb (some ⟨b0,0,none⟩))) (QD rfl) rfl (W_v (.bool false) (VZ Tryd.underlying89 rfl rfl) rfl (QB (tn (QK rfl (Qr (tn (QE ?_)))))))))))))))
 refine QA (W_v (.map (mb (some ⟨b0,0,none⟩))) (QD rfl) rfl (W_v (.iface 89 (.map (mb (some ⟨b0,0,none⟩)))) (Xz Tryd.underlying89 rfl) rfl ?_))
 refine VQ clone77 S 0 rfl rfl rfl ?_
 intro b w1 E' S
 replace E:=E.trans E'
 refine W_v (.map (mb (some ⟨b,0,none⟩))) (VM Tryd.underlying89 rfl) rfl (W_v (.map (mb (some ⟨b,0,none⟩))) (QG rfl) rfl (QB (tn ?_)))
 refine Qs ?_
 exact ⟨_,_,_,fun w1 e1=>QX (vs:=[.map (mb (some ⟨b,0,none⟩))]) (FA.cons (rfl) (FA.nil)),HM,E,S.pick [0,1] (by decide),⟨b,rfl,rfl⟩⟩
theorem maps_Clone_90.con (M:Hp) (A:Option Addr) (l:List (Int×Int)):Con Tryd.prog 50 #[.map (mb A)] M [QT (Value.int .i64) (Value.int .i64) A l] (fun v M' Γ'=>∃ b:Nat,v=.map (mb (some ⟨b,0,none⟩))∧Γ'=[QT (Value.int .i64) (Value.int .i64) (some ⟨b,0,none⟩) l,QT (Value.int .i64) (Value.int .i64) A l]):=by
 refine Qt Tryd.func50 rfl Tryd.ntmps50 Tryd.results50 rfl ?_
 intro w F rn S hrn
 have E:=Ext.refl w
 have HM:=Hp.le_refl M
 obtain ⟨b0,rfl,_⟩:=S.mapC 0 rfl
 refine QE (QA (W_v (.map none) (QG rfl) rfl (QB (tn (QE (QE (QA (W_v (.map (mb (some ⟨b0,0,none⟩))) (QD rfl) rfl (W_v (.bool false) (VZ Tryd.underlying90 rfl rfl) rfl (QB (tn (QK rfl (Qr (tn (QE ?_)))))))))))))))
 refine QA (W_v (.map (mb (some ⟨b0,0,none⟩))) (QD rfl) rfl (W_v (.iface 90 (.map (mb (some ⟨b0,0,none⟩)))) (Xz Tryd.underlying90 rfl) rfl ?_))
 refine VQ clone77 S 0 rfl rfl rfl ?_
 intro b w1 E' S
 replace E:=E.trans E'
 refine W_v (.map (mb (some ⟨b,0,none⟩))) (VM Tryd.underlying90 rfl) rfl (W_v (.map (mb (some ⟨b,0,none⟩))) (QG rfl) rfl (QB (tn ?_)))
 refine Qs ?_
 exact ⟨_,_,_,fun w1 e1=>QX (vs:=[.map (mb (some ⟨b,0,none⟩))]) (FA.cons (rfl) (FA.nil)),HM,E,S.pick [0,1] (by decide),⟨b,rfl,rfl⟩⟩
theorem maps_Clone_91.con (M:Hp) (A:Option Addr) (l:List (Str×Value)):Con Tryd.prog 51 #[.map (mb A)] M [QT encS (fun v:Value=>v) A l] (fun v M' Γ'=>∃ b:Nat,v=.map (mb (some ⟨b,0,none⟩))∧Γ'=[QT encS (fun v:Value=>v) (some ⟨b,0,none⟩) l,QT encS (fun v:Value=>v) A l]):=by
 refine Qt Tryd.func51 rfl Tryd.ntmps51 Tryd.results51 rfl ?_
 intro w F rn S hrn
 have E:=Ext.refl w
 have HM:=Hp.le_refl M
 obtain ⟨b0,rfl,_⟩:=S.mapC 0 rfl
 refine QE (QA (W_v (.map none) (QG rfl) rfl (QB (tn (QE (QE (QA (W_v (.map (mb (some ⟨b0,0,none⟩))) (QD rfl) rfl (W_v (.bool false) (VZ Tryd.underlying91 rfl rfl) rfl (QB (tn (QK rfl (Qr (tn (QE ?_)))))))))))))))
 refine QA (W_v (.map (mb (some ⟨b0,0,none⟩))) (QD rfl) rfl (W_v (.iface 91 (.map (mb (some ⟨b0,0,none⟩)))) (Xz Tryd.underlying91 rfl) rfl ?_))
 refine VQ clone77 S 0 rfl rfl rfl ?_
 intro b w1 E' S
 replace E:=E.trans E'
 refine W_v (.map (mb (some ⟨b,0,none⟩))) (VM Tryd.underlying91 rfl) rfl (W_v (.map (mb (some ⟨b,0,none⟩))) (QG rfl) rfl (QB (tn ?_)))
 refine Qs ?_
 exact ⟨_,_,_,fun w1 e1=>QX (vs:=[.map (mb (some ⟨b,0,none⟩))]) (FA.cons (rfl) (FA.nil)),HM,E,S.pick [0,1] (by decide),⟨b,rfl,rfl⟩⟩
def Z7 (k:Nat) (a0:List Z9):Option (List Z9) :=
 if ([]:List Z9).length+a0.length≤8796093022208 then some (([]:List Z9)++a0) else none
theorem Z7.mono {k:Nat} {a0:List Z9}:OLe (Z7 k a0) (Z7 (k+1) a0):=by
 unfold Z7
 exact mo
theorem Z7.con (k:Nat) (M:Hp) (A0:Option Addr) (c0:Nat) (a0:(List Z9)) (r:(List Z9)) (hr0:SlR QL M (.slice A0 a0.length c0) a0) (h:Z7 k a0=some r):Con Tryd.prog 52 #[.slice A0 a0.length c0] M [] (fun v M' Γ'=>∃ (A0:Option Addr) (c0:Nat),v=.slice A0 r.length c0∧Γ'=[Row QL 99 (.slice A0 r.length c0) r]):=by
 have H:=h
 unfold Z7 at H
 cases A0 with
 | none =>
  obtain ⟨_,H⟩:=Yy H
  obtain rfl:a0=[]:=SlW.none_nil hr0
  refine Qt Tryd.func52 rfl Tryd.ntmps52 Tryd.results52 rfl ?_
  intro w F rn S hrn
  have E:=Ext.refl w
  have HM:=Hp.le_refl M
  refine QE (QA (W_v (.slice none 0 0) (QG rfl) rfl (QB (tn (QE (QE (QA (W_v (.slice none ([]:List Z9).length c0) (QD rfl) rfl (W_v (.bool true) (Xe rfl rfl (run_equal_slice_nil _ _ _ _ _ _ Tryd.underlying92)) rfl (QB (tn (QQ rfl (QE (QA (W_v (.slice none 0 0) (QG rfl) rfl ?_)))))))))))))))
  refine QB (tn ?_)
  refine Qs ?_
  refine tr (?_)
  obtain rfl:=Option.some.inj H
  replace S:=S.row_nil QL 99
  exact ⟨_,_,_,fun w1 e1=>QX (vs:=[.slice none 0 0]) (FA.cons (rfl) (FA.nil)),HM,E,S.pick [0] (by decide),⟨none,0,rfl,rfl⟩⟩
 | some ad =>
  refine Qt Tryd.func52 rfl Tryd.ntmps52 Tryd.results52 rfl ?_
  intro w F rn S hrn
  have E:=Ext.refl w
  have HM:=Hp.le_refl M
  refine QE (QA (W_v (.slice none 0 0) (QG rfl) rfl (QB (tn (QE (QE (QA (W_v (.slice (some ad) a0.length c0) (QD rfl) rfl (W_v (.bool false) (Xe rfl rfl (run_equal_slice_nil _ _ _ _ _ _ Tryd.underlying92)) rfl (QB (tn (QK rfl (Qr (tn (QE ?_)))))))))))))))
  refine QA ?_
  refine XE S #[] Tryd.underlying92 ty99 rfl rfl #[] (by as_aux_lemma=>kernel_rfl) (by as_aux_lemma=>kernel_rfl) rfl ?_
  intro b2 w3 E' S
  replace E:=E.trans E'
  replace S:=S.blk_row (r:=QL) (l:=([]:List Z9)) 0 rfl 0 (Nat.le_refl 0) rfl Cells.nil
  refine W_v (.slice (some ad) a0.length c0) (QD rfl) rfl ?_
  obtain ⟨p5,H⟩:=Yy H
  obtain ⟨src6,hs7,hC8⟩:=Y1 (P:=Tryd.prog) (ρ:=QL) (l:=a0) (SlR.world hr0 S) (by decide)
  refine XL S 0 rfl rfl rfl Tryd.underlying92 (.inl Tryd.underlying92) ty99 rfl (by decide) (by decide) hs7 hC8 rfl (by omega) rfl ?_
  intro v9 w10 E' S
  replace E:=E.trans E'
  obtain ⟨A11,c12,rfl,_⟩:=(S.row_read 0 rfl).form
  refine W_v (.slice A11 (([]:List Z9)++a0).length c12) (QG rfl) rfl (QB (tn ?_))
  refine Qs ?_
  obtain rfl:=Option.some.inj H
  exact ⟨_,_,_,fun w1 e1=>QX (vs:=[.slice A11 (([]:List Z9)++a0).length c12]) (FA.cons (rfl) (FA.nil)),HM,E,S.pick [0] (by decide),⟨A11,c12,rfl,rfl⟩⟩
def Q9 (k:Nat) (a0:Int) (a1:Int) (a2:Int):Option (Bool) :=
 some ((decide (a0≥a1))&&(decide (a0≤a2)))
theorem Q9.mono {k:Nat} {a0:Int} {a1:Int} {a2:Int}:OLe (Q9 k a0 a1 a2) (Q9 (k+1) a0 a1 a2):=by
 unfold Q9
 exact mo
theorem Q9.con (k:Nat) (M:Hp) (a0:Int) (a1:Int) (a2:Int) (r:Bool)  (h:Q9 k a0 a1 a2=some r):Con Tryd.prog 78 #[vI a0,vI a1,vI a2] M [] (fun v M' Γ'=>v=.bool r∧Γ'=[]):=by
 refine Qt Tryd.func78 rfl Tryd.ntmps78 Tryd.results78 rfl ?_
 intro w F rn S hrn
 have E:=Ext.refl w
 have HM:=Hp.le_refl M
 have H:=h
 unfold Q9 at H
 refine QE (QA (W_v (.bool false) (QG rfl) rfl (QB (tn (QE (QA (W_v (vI a0) (QD rfl) rfl (W_v (vI a1) (QD rfl) rfl (W_v (.bool (decide (a0≥a1))) (Qa rfl rfl rfl rfl) rfl (W_v (.bool (decide (a0≥a1))) (QD rfl) rfl ?_))))))))))
 refine ZH 4 (fun ρ w'=>Qi ρ [(14,.bool ((decide (a0≥a1))&&(decide (a0≤a2))))]∧w=w') ?_ ?_
 ·rcases ZX (decide (a0≥a1)) with hb1 | hb1
  ·skip
   refine QZ (skT hb1) rfl (QZ (skT hb1) rfl (QZ (skT hb1) rfl (W_v (.bool false) (QV (k:=false) (congrArg Value.bool hb1) rfl) rfl (QB ?_))))
   exact ⟨⟨(by first | rfl | (rw [hb1];rfl) | (simp only [hb1];rfl)),trivial⟩,rfl⟩
  ·skip
   refine QP (congrArg some hb1) (W_v (vI a0) (QD rfl) rfl (QP (congrArg some hb1) (W_v (vI a2) (QD rfl) rfl (QP (congrArg some hb1) (W_v (.bool (decide (a0≤a2))) (Qa rfl rfl rfl rfl) rfl (W_v (.bool (decide (a0≤a2))) (QV (k:=true) (congrArg Value.bool hb1) rfl) rfl (QB ?_)))))))
   exact ⟨⟨(by first | rfl | (rw [hb1];rfl) | (simp only [hb1];rfl)),trivial⟩,rfl⟩
 rintro ρ _ ⟨hρ,rfl⟩
 rw [QI hρ]
 refine W_v (.bool ((decide (a0≥a1))&&(decide (a0≤a2)))) (QG rfl) rfl (QB (tn ?_))
 refine Qs ?_
 obtain rfl:=Option.some.inj H
 exact ⟨_,_,_,fun w1 e1=>QX (vs:=[.bool ((decide (a0≥a1))&&(decide (a0≤a2)))]) (FA.cons (rfl) (FA.nil)),HM,E,S.pick [] (by decide),⟨rfl,rfl⟩⟩
def YB (k:Nat) (a0:Qw):Option (Bool) :=
 (Option.bind (Q9 k a0.Tasks (1:Int) (6:Int)) (fun t4=>(Option.bind (α:=Bool) (if t4=true then (Option.bind (Q9 k a0.Active (1:Int) (8:Int)) (fun t16=>some (t16))) else some (false)) (fun x14=>(Option.bind (α:=Bool) (if x14=true then (Option.bind (Q9 k a0.Keys (1:Int) (64:Int)) (fun t29=>some (t29))) else some (false)) (fun x27=>(Option.bind (α:=Bool) (if x27=true then (Option.bind (Q9 k a0.Depth (2:Int) (8:Int)) (fun t42=>some (t42))) else some (false)) (fun x40=>(Option.bind (α:=Bool) (if x40=true then (Option.bind (Q9 k a0.TS (1:Int) (1048576:Int)) (fun t55=>some (t55))) else some (false)) (fun x53=>(Option.bind (α:=Bool) (if x53=true then (Option.bind (Q9 k a0.KeyLen (1:Int) (64:Int)) (fun t68=>some (t68))) else some (false)) (fun x66=>(Option.bind (α:=Bool) (if x66=true then (Option.bind (Q9 k a0.ValLen (0:Int) (256:Int)) (fun t81=>some (t81))) else some (false)) (fun x79=>(Option.bind (α:=Bool) (if x79=true then (Option.bind (Q9 k a0.Fan (3:Int) (8:Int)) (fun t94=>some (t94))) else some (false)) (fun x92=>some x92))))))))))))))))
theorem YB.mono {k:Nat} {a0:Qw}:OLe (YB k a0) (YB (k+1) a0):=by
 unfold YB
 have m1:=@Q9.mono
 exact mo
theorem YB.con (k:Nat) (M:Hp) (a0:Qw) (r:Bool)  (h:YB k a0=some r):Con Tryd.prog 54 #[.agg #[vI a0.Tasks,vI a0.Active,vI a0.Keys,vI a0.Depth,vI a0.TS,vI a0.KeyLen,vI a0.ValLen,vI a0.Fan]] M [] (fun v M' Γ'=>v=.bool r∧Γ'=[]):=by
 refine Qt Tryd.func54 rfl Tryd.ntmps54 Tryd.results54 rfl ?_
 intro w F rn S hrn
 have E:=Ext.refl w
 have HM:=Hp.le_refl M
 have H:=h
 unfold YB at H
 refine QE (QA ?_)
 refine Y8 S #[vI a0.Tasks,vI a0.Active,vI a0.Keys,vI a0.Depth,vI a0.TS,vI a0.KeyLen,vI a0.ValLen,vI a0.Fan] rfl rfl rfl ?_
 intro b1 w2 E' S
 replace E:=E.trans E'
 refine W_v (.bool false) (QG rfl) rfl (QB (tn (QE (QA (W_v (pt b1 0) (QC (o:=0) (off:=0) Tryd.underlying23 rfl ty3 rfl rfl) rfl (W_v (vI a0.Tasks) (QO (S.blk 0 rfl) ty3 rfl rfl) rfl ?_))))))
 obtain ⟨t4,ht5,H⟩:=QW H
 refine Zz fn78 (Q9.con k M a0.Tasks (1:Int) (6:Int) t4  ht5) S rfl rfl (by rintro _ _ _ ⟨_,rfl⟩;exact Qd) ?_
 rintro _ w6 _ Γ' E' S ⟨rfl,rfl⟩
 replace E:=E.trans E'
 refine W_v (.bool t4) (QD rfl) rfl ?_
 obtain ⟨o15,o15h,o15H⟩:=QW H
 refine ZH 4 (fun ρ w'=>∃ (x14:Bool),(x14)=o15∧Qi ρ [(1,pt b1 0),(10,.bool x14)]∧Ext w w'∧St w' M F [B23 b1 a0]) ?_ ?_
 ·have H:=o15h
  rcases Zf H with ⟨hb13,H⟩ | ⟨hb13,H⟩
  ·skip
   refine QP (congrArg some hb13) (W_v (pt b1 1) (QC (o:=0) (off:=1) Tryd.underlying23 rfl ty3 rfl rfl) rfl (QP (congrArg some hb13) (W_v (vI a0.Active) (QO (S.blk 0 rfl) ty3 rfl rfl) rfl (QP (congrArg some hb13) ?_))))
   obtain ⟨t16,ht17,H⟩:=QW H
   refine Zz fn78 (Q9.con k M a0.Active (1:Int) (8:Int) t16  ht17) S rfl rfl (by rintro _ _ _ ⟨_,rfl⟩;exact Qd) ?_
   rintro _ w18 _ Γ' E' S ⟨rfl,rfl⟩
   replace E:=E.trans E'
   refine W_v (.bool t16) (QV (k:=true) (congrArg Value.bool hb13) rfl) rfl (QB ?_)
   exact ⟨t16,Option.some.inj H,⟨rfl,rfl,trivial⟩,E,S.pick [0] (by decide)⟩
  ·skip
   refine QZ (skT hb13) rfl (QZ (skT hb13) rfl (QZ (skT hb13) rfl (W_v (.bool false) (QV (k:=false) (congrArg Value.bool hb13) rfl) rfl (QB ?_))))
   exact ⟨false,Option.some.inj H,⟨rfl,rfl,trivial⟩,E,S.pick [0] (by decide)⟩
 as_aux_lemma =>
 rintro ρ w19 ⟨x14,rfl,hρ,E,S⟩
 rw [QI hρ]
 have H:=o15H
 refine W_v (.bool x14) (QD rfl) rfl ?_
 obtain ⟨o28,o28h,o28H⟩:=QW H
 refine ZH 4 (fun ρ w'=>∃ (x27:Bool),(x27)=o28∧Qi ρ [(1,pt b1 0),(15,.bool x27)]∧Ext w w'∧St w' M F [B23 b1 a0]) ?_ ?_
 ·have H:=o28h
  rcases Zf H with ⟨hb26,H⟩ | ⟨hb26,H⟩
  ·skip
   refine QP (congrArg some hb26) (W_v (pt b1 2) (QC (o:=0) (off:=2) Tryd.underlying23 rfl ty3 rfl rfl) rfl (QP (congrArg some hb26) (W_v (vI a0.Keys) (QO (S.blk 0 rfl) ty3 rfl rfl) rfl (QP (congrArg some hb26) ?_))))
   obtain ⟨t29,ht30,H⟩:=QW H
   refine Zz fn78 (Q9.con k M a0.Keys (1:Int) (64:Int) t29  ht30) S rfl rfl (by rintro _ _ _ ⟨_,rfl⟩;exact Qd) ?_
   rintro _ w31 _ Γ' E' S ⟨rfl,rfl⟩
   replace E:=E.trans E'
   refine W_v (.bool t29) (QV (k:=true) (congrArg Value.bool hb26) rfl) rfl (QB ?_)
   exact ⟨t29,Option.some.inj H,⟨rfl,rfl,trivial⟩,E,S.pick [0] (by decide)⟩
  ·skip
   refine QZ (skT hb26) rfl (QZ (skT hb26) rfl (QZ (skT hb26) rfl (W_v (.bool false) (QV (k:=false) (congrArg Value.bool hb26) rfl) rfl (QB ?_))))
   exact ⟨false,Option.some.inj H,⟨rfl,rfl,trivial⟩,E,S.pick [0] (by decide)⟩
 as_aux_lemma =>
 rintro ρ w32 ⟨x27,rfl,hρ,E,S⟩
 rw [QI hρ]
 have H:=o28H
 refine W_v (.bool x27) (QD rfl) rfl ?_
 obtain ⟨o41,o41h,o41H⟩:=QW H
 refine ZH 4 (fun ρ w'=>∃ (x40:Bool),(x40)=o41∧Qi ρ [(1,pt b1 0),(20,.bool x40)]∧Ext w w'∧St w' M F [B23 b1 a0]) ?_ ?_
 ·have H:=o41h
  rcases Zf H with ⟨hb39,H⟩ | ⟨hb39,H⟩
  ·skip
   refine QP (congrArg some hb39) (W_v (pt b1 3) (QC (o:=0) (off:=3) Tryd.underlying23 rfl ty3 rfl rfl) rfl (QP (congrArg some hb39) (W_v (vI a0.Depth) (QO (S.blk 0 rfl) ty3 rfl rfl) rfl (QP (congrArg some hb39) ?_))))
   obtain ⟨t42,ht43,H⟩:=QW H
   refine Zz fn78 (Q9.con k M a0.Depth (2:Int) (8:Int) t42  ht43) S rfl rfl (by rintro _ _ _ ⟨_,rfl⟩;exact Qd) ?_
   rintro _ w44 _ Γ' E' S ⟨rfl,rfl⟩
   replace E:=E.trans E'
   refine W_v (.bool t42) (QV (k:=true) (congrArg Value.bool hb39) rfl) rfl (QB ?_)
   exact ⟨t42,Option.some.inj H,⟨rfl,rfl,trivial⟩,E,S.pick [0] (by decide)⟩
  ·skip
   refine QZ (skT hb39) rfl (QZ (skT hb39) rfl (QZ (skT hb39) rfl (W_v (.bool false) (QV (k:=false) (congrArg Value.bool hb39) rfl) rfl (QB ?_))))
   exact ⟨false,Option.some.inj H,⟨rfl,rfl,trivial⟩,E,S.pick [0] (by decide)⟩
 as_aux_lemma =>
 rintro ρ w45 ⟨x40,rfl,hρ,E,S⟩
 rw [QI hρ]
 have H:=o41H
 refine W_v (.bool x40) (QD rfl) rfl ?_
 obtain ⟨o54,o54h,o54H⟩:=QW H
 refine ZH 4 (fun ρ w'=>∃ (x53:Bool),(x53)=o54∧Qi ρ [(1,pt b1 0),(25,.bool x53)]∧Ext w w'∧St w' M F [B23 b1 a0]) ?_ ?_
 ·have H:=o54h
  rcases Zf H with ⟨hb52,H⟩ | ⟨hb52,H⟩
  ·skip
   refine QP (congrArg some hb52) (W_v (pt b1 4) (QC (o:=0) (off:=4) Tryd.underlying23 rfl ty3 rfl rfl) rfl (QP (congrArg some hb52) (W_v (vI a0.TS) (QO (S.blk 0 rfl) ty3 rfl rfl) rfl (QP (congrArg some hb52) ?_))))
   obtain ⟨t55,ht56,H⟩:=QW H
   refine Zz fn78 (Q9.con k M a0.TS (1:Int) (1048576:Int) t55  ht56) S rfl rfl (by rintro _ _ _ ⟨_,rfl⟩;exact Qd) ?_
   rintro _ w57 _ Γ' E' S ⟨rfl,rfl⟩
   replace E:=E.trans E'
   refine W_v (.bool t55) (QV (k:=true) (congrArg Value.bool hb52) rfl) rfl (QB ?_)
   exact ⟨t55,Option.some.inj H,⟨rfl,rfl,trivial⟩,E,S.pick [0] (by decide)⟩
  ·skip
   refine QZ (skT hb52) rfl (QZ (skT hb52) rfl (QZ (skT hb52) rfl (W_v (.bool false) (QV (k:=false) (congrArg Value.bool hb52) rfl) rfl (QB ?_))))
   exact ⟨false,Option.some.inj H,⟨rfl,rfl,trivial⟩,E,S.pick [0] (by decide)⟩
 as_aux_lemma =>
 rintro ρ w58 ⟨x53,rfl,hρ,E,S⟩
 rw [QI hρ]
 have H:=o54H
 refine W_v (.bool x53) (QD rfl) rfl ?_
 obtain ⟨o67,o67h,o67H⟩:=QW H
 refine ZH 4 (fun ρ w'=>∃ (x66:Bool),(x66)=o67∧Qi ρ [(1,pt b1 0),(30,.bool x66)]∧Ext w w'∧St w' M F [B23 b1 a0]) ?_ ?_
 ·have H:=o67h
  rcases Zf H with ⟨hb65,H⟩ | ⟨hb65,H⟩
  ·skip
   refine QP (congrArg some hb65) (W_v (pt b1 5) (QC (o:=0) (off:=5) Tryd.underlying23 rfl ty3 rfl rfl) rfl (QP (congrArg some hb65) (W_v (vI a0.KeyLen) (QO (S.blk 0 rfl) ty3 rfl rfl) rfl (QP (congrArg some hb65) ?_))))
   obtain ⟨t68,ht69,H⟩:=QW H
   refine Zz fn78 (Q9.con k M a0.KeyLen (1:Int) (64:Int) t68  ht69) S rfl rfl (by rintro _ _ _ ⟨_,rfl⟩;exact Qd) ?_
   rintro _ w70 _ Γ' E' S ⟨rfl,rfl⟩
   replace E:=E.trans E'
   refine W_v (.bool t68) (QV (k:=true) (congrArg Value.bool hb65) rfl) rfl (QB ?_)
   exact ⟨t68,Option.some.inj H,⟨rfl,rfl,trivial⟩,E,S.pick [0] (by decide)⟩
  ·skip
   refine QZ (skT hb65) rfl (QZ (skT hb65) rfl (QZ (skT hb65) rfl (W_v (.bool false) (QV (k:=false) (congrArg Value.bool hb65) rfl) rfl (QB ?_))))
   exact ⟨false,Option.some.inj H,⟨rfl,rfl,trivial⟩,E,S.pick [0] (by decide)⟩
 as_aux_lemma =>
 rintro ρ w71 ⟨x66,rfl,hρ,E,S⟩
 rw [QI hρ]
 have H:=o67H
 refine W_v (.bool x66) (QD rfl) rfl ?_
 obtain ⟨o80,o80h,o80H⟩:=QW H
 refine ZH 4 (fun ρ w'=>∃ (x79:Bool),(x79)=o80∧Qi ρ [(1,pt b1 0),(35,.bool x79)]∧Ext w w'∧St w' M F [B23 b1 a0]) ?_ ?_
 ·have H:=o80h
  rcases Zf H with ⟨hb78,H⟩ | ⟨hb78,H⟩
  ·skip
   refine QP (congrArg some hb78) (W_v (pt b1 6) (QC (o:=0) (off:=6) Tryd.underlying23 rfl ty3 rfl rfl) rfl (QP (congrArg some hb78) (W_v (vI a0.ValLen) (QO (S.blk 0 rfl) ty3 rfl rfl) rfl (QP (congrArg some hb78) ?_))))
   obtain ⟨t81,ht82,H⟩:=QW H
   refine Zz fn78 (Q9.con k M a0.ValLen (0:Int) (256:Int) t81  ht82) S rfl rfl (by rintro _ _ _ ⟨_,rfl⟩;exact Qd) ?_
   rintro _ w83 _ Γ' E' S ⟨rfl,rfl⟩
   replace E:=E.trans E'
   refine W_v (.bool t81) (QV (k:=true) (congrArg Value.bool hb78) rfl) rfl (QB ?_)
   exact ⟨t81,Option.some.inj H,⟨rfl,rfl,trivial⟩,E,S.pick [0] (by decide)⟩
  ·skip
   refine QZ (skT hb78) rfl (QZ (skT hb78) rfl (QZ (skT hb78) rfl (W_v (.bool false) (QV (k:=false) (congrArg Value.bool hb78) rfl) rfl (QB ?_))))
   exact ⟨false,Option.some.inj H,⟨rfl,rfl,trivial⟩,E,S.pick [0] (by decide)⟩
 rintro ρ w84 ⟨x79,rfl,hρ,E,S⟩
 rw [QI hρ]
 have H:=o80H
 refine W_v (.bool x79) (QD rfl) rfl ?_
 obtain ⟨o93,o93h,o93H⟩:=QW H
 refine ZH 4 (fun ρ w'=>∃ (x92:Bool),(x92)=o93∧Qi ρ [(40,.bool x92)]∧Ext w w'∧St w' M F []) ?_ ?_
 ·have H:=o93h
  rcases Zf H with ⟨hb91,H⟩ | ⟨hb91,H⟩
  ·skip
   refine QP (congrArg some hb91) (W_v (pt b1 7) (QC (o:=0) (off:=7) Tryd.underlying23 rfl ty3 rfl rfl) rfl (QP (congrArg some hb91) (W_v (vI a0.Fan) (QO (S.blk 0 rfl) ty3 rfl rfl) rfl (QP (congrArg some hb91) ?_))))
   obtain ⟨t94,ht95,H⟩:=QW H
   refine Zz fn78 (Q9.con k M a0.Fan (3:Int) (8:Int) t94  ht95) S rfl rfl (by rintro _ _ _ ⟨_,rfl⟩;exact Qd) ?_
   rintro _ w96 _ Γ' E' S ⟨rfl,rfl⟩
   replace E:=E.trans E'
   refine W_v (.bool t94) (QV (k:=true) (congrArg Value.bool hb91) rfl) rfl (QB ?_)
   exact ⟨t94,Option.some.inj H,⟨rfl,trivial⟩,E,S.pick [] (by decide)⟩
  ·skip
   refine QZ (skT hb91) rfl (QZ (skT hb91) rfl (QZ (skT hb91) rfl (W_v (.bool false) (QV (k:=false) (congrArg Value.bool hb91) rfl) rfl (QB ?_))))
   exact ⟨false,Option.some.inj H,⟨rfl,trivial⟩,E,S.pick [] (by decide)⟩
 rintro ρ w97 ⟨x92,rfl,hρ,E,S⟩
 rw [QI hρ]
 have H:=o93H
 refine W_v (.bool x92) (QG rfl) rfl (QB (tn ?_))
 refine Qs ?_
 obtain rfl:=Option.some.inj H
 exact ⟨_,_,_,fun w1 e1=>QX (vs:=[.bool x92]) (FA.cons (rfl) (FA.nil)),HM,E,S.pick [] (by decide),⟨rfl,rfl⟩⟩
def Yz (k:Nat) (a0:Qw) (a1:Str):Option (Bool) :=
 (Option.bind (YB k a0) (fun t4=>(Option.bind (α:=Bool) (if t4=true then (Option.bind (Q9 k (a1.length:Int) (1:Int) a0.KeyLen) (fun t16=>some (t16))) else some (false)) (fun x14=>some x14))))
theorem Yz.mono {k:Nat} {a0:Qw} {a1:Str}:OLe (Yz k a0 a1) (Yz (k+1) a0 a1):=by
 unfold Yz
 have m1:=@YB.mono
 have m2:=@Q9.mono
 exact mo
theorem Yz.con (k:Nat) (M:Hp) (a0:Qw) (a1:Str) (r:Bool)  (h:Yz k a0 a1=some r):Con Tryd.prog 56 #[.agg #[vI a0.Tasks,vI a0.Active,vI a0.Keys,vI a0.Depth,vI a0.TS,vI a0.KeyLen,vI a0.ValLen,vI a0.Fan],vS a1] M [] (fun v M' Γ'=>v=.bool r∧Γ'=[]):=by
 refine Qt Tryd.func56 rfl Tryd.ntmps56 Tryd.results56 rfl ?_
 intro w F rn S hrn
 have E:=Ext.refl w
 have HM:=Hp.le_refl M
 have H:=h
 unfold Yz at H
 refine QE (QA ?_)
 refine Y8 S #[vI a0.Tasks,vI a0.Active,vI a0.Keys,vI a0.Depth,vI a0.TS,vI a0.KeyLen,vI a0.ValLen,vI a0.Fan] rfl rfl rfl ?_
 intro b1 w2 E' S
 replace E:=E.trans E'
 refine W_v (.bool false) (QG rfl) rfl (QB (tn (QE (QA (W_v (.agg #[vI a0.Tasks,vI a0.Active,vI a0.Keys,vI a0.Depth,vI a0.TS,vI a0.KeyLen,vI a0.ValLen,vI a0.Fan]) (ZA (S.blk 0 rfl) ty23 rfl (QM rfl) rfl rfl) rfl ?_)))))
 obtain ⟨t4,ht5,H⟩:=QW H
 refine Zz fn54 (YB.con k M a0 t4  ht5) S rfl rfl (by rintro _ _ _ ⟨_,rfl⟩;exact Qd) ?_
 rintro _ w6 _ Γ' E' S ⟨rfl,rfl⟩
 replace E:=E.trans E'
 refine W_v (.bool t4) (QD rfl) rfl ?_
 obtain ⟨o15,o15h,o15H⟩:=QW H
 refine ZH 6 (fun ρ w'=>∃ (x14:Bool),(x14)=o15∧Qi ρ [(13,.bool x14)]∧Ext w w'∧St w' M F []) ?_ ?_
 ·have H:=o15h
  rcases Zf H with ⟨hb13,H⟩ | ⟨hb13,H⟩
  ·skip
   refine QP (congrArg some hb13) (W_v (vS a1) (QD rfl) rfl (QP (congrArg some hb13) (W_v (vI (a1.length:Int)) (XU Tryd.underlying9 rfl) rfl (QP (congrArg some hb13) (W_v (pt b1 5) (QC (o:=0) (off:=5) Tryd.underlying23 rfl ty3 rfl rfl) rfl (QP (congrArg some hb13) (W_v (vI a0.KeyLen) (QO (S.blk 0 rfl) ty3 rfl rfl) rfl (QP (congrArg some hb13) ?_))))))))
   obtain ⟨t16,ht17,H⟩:=QW H
   refine Zz fn78 (Q9.con k M (a1.length:Int) (1:Int) a0.KeyLen t16  ht17) S rfl rfl (by rintro _ _ _ ⟨_,rfl⟩;exact Qd) ?_
   rintro _ w18 _ Γ' E' S ⟨rfl,rfl⟩
   replace E:=E.trans E'
   refine W_v (.bool t16) (QV (k:=true) (congrArg Value.bool hb13) rfl) rfl (QB ?_)
   exact ⟨t16,Option.some.inj H,⟨rfl,trivial⟩,E,S.pick [] (by decide)⟩
  ·skip
   refine QZ (skT hb13) rfl (QZ (skT hb13) rfl (QZ (skT hb13) rfl (QZ (skT hb13) rfl (QZ (skT hb13) rfl (W_v (.bool false) (QV (k:=false) (congrArg Value.bool hb13) rfl) rfl (QB ?_))))))
   exact ⟨false,Option.some.inj H,⟨rfl,trivial⟩,E,S.pick [] (by decide)⟩
 rintro ρ w19 ⟨x14,rfl,hρ,E,S⟩
 rw [QI hρ]
 have H:=o15H
 refine W_v (.bool x14) (QG rfl) rfl (QB (tn ?_))
 refine Qs ?_
 obtain rfl:=Option.some.inj H
 exact ⟨_,_,_,fun w1 e1=>QX (vs:=[.bool x14]) (FA.cons (rfl) (FA.nil)),HM,E,S.pick [] (by decide),⟨rfl,rfl⟩⟩
def Yq (k:Nat) (a0:Qw) (a1:Str):Option (Bool) :=
 (Option.bind (YB k a0) (fun t4=>(Option.bind (α:=Bool) (if t4=true then (Option.bind (Q9 k (a1.length:Int) (0:Int) a0.ValLen) (fun t16=>some (t16))) else some (false)) (fun x14=>some x14))))
theorem Yq.mono {k:Nat} {a0:Qw} {a1:Str}:OLe (Yq k a0 a1) (Yq (k+1) a0 a1):=by
 unfold Yq
 have m1:=@YB.mono
 have m2:=@Q9.mono
 exact mo
theorem Yq.con (k:Nat) (M:Hp) (a0:Qw) (a1:Str) (r:Bool)  (h:Yq k a0 a1=some r):Con Tryd.prog 57 #[.agg #[vI a0.Tasks,vI a0.Active,vI a0.Keys,vI a0.Depth,vI a0.TS,vI a0.KeyLen,vI a0.ValLen,vI a0.Fan],vS a1] M [] (fun v M' Γ'=>v=.bool r∧Γ'=[]):=by
 refine Qt Tryd.func57 rfl Tryd.ntmps57 Tryd.results57 rfl ?_
 intro w F rn S hrn
 have E:=Ext.refl w
 have HM:=Hp.le_refl M
 have H:=h
 unfold Yq at H
 refine QE (QA ?_)
 refine Y8 S #[vI a0.Tasks,vI a0.Active,vI a0.Keys,vI a0.Depth,vI a0.TS,vI a0.KeyLen,vI a0.ValLen,vI a0.Fan] rfl rfl rfl ?_
 intro b1 w2 E' S
 replace E:=E.trans E'
 refine W_v (.bool false) (QG rfl) rfl (QB (tn (QE (QA (W_v (.agg #[vI a0.Tasks,vI a0.Active,vI a0.Keys,vI a0.Depth,vI a0.TS,vI a0.KeyLen,vI a0.ValLen,vI a0.Fan]) (ZA (S.blk 0 rfl) ty23 rfl (QM rfl) rfl rfl) rfl ?_)))))
 obtain ⟨t4,ht5,H⟩:=QW H
 refine Zz fn54 (YB.con k M a0 t4  ht5) S rfl rfl (by rintro _ _ _ ⟨_,rfl⟩;exact Qd) ?_
 rintro _ w6 _ Γ' E' S ⟨rfl,rfl⟩
 replace E:=E.trans E'
 refine W_v (.bool t4) (QD rfl) rfl ?_
 obtain ⟨o15,o15h,o15H⟩:=QW H
 refine ZH 6 (fun ρ w'=>∃ (x14:Bool),(x14)=o15∧Qi ρ [(13,.bool x14)]∧Ext w w'∧St w' M F []) ?_ ?_
 ·have H:=o15h
  rcases Zf H with ⟨hb13,H⟩ | ⟨hb13,H⟩
  ·skip
   refine QP (congrArg some hb13) (W_v (vS a1) (QD rfl) rfl (QP (congrArg some hb13) (W_v (vI (a1.length:Int)) (XU Tryd.underlying9 rfl) rfl (QP (congrArg some hb13) (W_v (pt b1 6) (QC (o:=0) (off:=6) Tryd.underlying23 rfl ty3 rfl rfl) rfl (QP (congrArg some hb13) (W_v (vI a0.ValLen) (QO (S.blk 0 rfl) ty3 rfl rfl) rfl (QP (congrArg some hb13) ?_))))))))
   obtain ⟨t16,ht17,H⟩:=QW H
   refine Zz fn78 (Q9.con k M (a1.length:Int) (0:Int) a0.ValLen t16  ht17) S rfl rfl (by rintro _ _ _ ⟨_,rfl⟩;exact Qd) ?_
   rintro _ w18 _ Γ' E' S ⟨rfl,rfl⟩
   replace E:=E.trans E'
   refine W_v (.bool t16) (QV (k:=true) (congrArg Value.bool hb13) rfl) rfl (QB ?_)
   exact ⟨t16,Option.some.inj H,⟨rfl,trivial⟩,E,S.pick [] (by decide)⟩
  ·skip
   refine QZ (skT hb13) rfl (QZ (skT hb13) rfl (QZ (skT hb13) rfl (QZ (skT hb13) rfl (QZ (skT hb13) rfl (W_v (.bool false) (QV (k:=false) (congrArg Value.bool hb13) rfl) rfl (QB ?_))))))
   exact ⟨false,Option.some.inj H,⟨rfl,trivial⟩,E,S.pick [] (by decide)⟩
 rintro ρ w19 ⟨x14,rfl,hρ,E,S⟩
 rw [QI hρ]
 have H:=o15H
 refine W_v (.bool x14) (QG rfl) rfl (QB (tn ?_))
 refine Qs ?_
 obtain rfl:=Option.some.inj H
 exact ⟨_,_,_,fun w1 e1=>QX (vs:=[.bool x14]) (FA.cons (rfl) (FA.nil)),HM,E,S.pick [] (by decide),⟨rfl,rfl⟩⟩
def Yf (k:Nat) (a0:Qw) (a1:Str):Option (Bool) :=
 (Option.bind (YB k a0) (fun t4=>(Option.bind (α:=Bool) (if t4=true then (Option.bind (Q9 k (a1.length:Int) (0:Int) a0.KeyLen) (fun t16=>some (t16))) else some (false)) (fun x14=>some x14))))
theorem Yf.mono {k:Nat} {a0:Qw} {a1:Str}:OLe (Yf k a0 a1) (Yf (k+1) a0 a1):=by
 unfold Yf
 have m1:=@YB.mono
 have m2:=@Q9.mono
 exact mo
theorem Yf.con (k:Nat) (M:Hp) (a0:Qw) (a1:Str) (r:Bool)  (h:Yf k a0 a1=some r):Con Tryd.prog 58 #[.agg #[vI a0.Tasks,vI a0.Active,vI a0.Keys,vI a0.Depth,vI a0.TS,vI a0.KeyLen,vI a0.ValLen,vI a0.Fan],vS a1] M [] (fun v M' Γ'=>v=.bool r∧Γ'=[]):=by
 refine Qt Tryd.func58 rfl Tryd.ntmps58 Tryd.results58 rfl ?_
 intro w F rn S hrn
 have E:=Ext.refl w
 have HM:=Hp.le_refl M
 have H:=h
 unfold Yf at H
 refine QE (QA ?_)
 refine Y8 S #[vI a0.Tasks,vI a0.Active,vI a0.Keys,vI a0.Depth,vI a0.TS,vI a0.KeyLen,vI a0.ValLen,vI a0.Fan] rfl rfl rfl ?_
 intro b1 w2 E' S
 replace E:=E.trans E'
 refine W_v (.bool false) (QG rfl) rfl (QB (tn (QE (QA (W_v (.agg #[vI a0.Tasks,vI a0.Active,vI a0.Keys,vI a0.Depth,vI a0.TS,vI a0.KeyLen,vI a0.ValLen,vI a0.Fan]) (ZA (S.blk 0 rfl) ty23 rfl (QM rfl) rfl rfl) rfl ?_)))))
 obtain ⟨t4,ht5,H⟩:=QW H
 refine Zz fn54 (YB.con k M a0 t4  ht5) S rfl rfl (by rintro _ _ _ ⟨_,rfl⟩;exact Qd) ?_
 rintro _ w6 _ Γ' E' S ⟨rfl,rfl⟩
 replace E:=E.trans E'
 refine W_v (.bool t4) (QD rfl) rfl ?_
 obtain ⟨o15,o15h,o15H⟩:=QW H
 refine ZH 6 (fun ρ w'=>∃ (x14:Bool),(x14)=o15∧Qi ρ [(13,.bool x14)]∧Ext w w'∧St w' M F []) ?_ ?_
 ·have H:=o15h
  rcases Zf H with ⟨hb13,H⟩ | ⟨hb13,H⟩
  ·skip
   refine QP (congrArg some hb13) (W_v (vS a1) (QD rfl) rfl (QP (congrArg some hb13) (W_v (vI (a1.length:Int)) (XU Tryd.underlying9 rfl) rfl (QP (congrArg some hb13) (W_v (pt b1 5) (QC (o:=0) (off:=5) Tryd.underlying23 rfl ty3 rfl rfl) rfl (QP (congrArg some hb13) (W_v (vI a0.KeyLen) (QO (S.blk 0 rfl) ty3 rfl rfl) rfl (QP (congrArg some hb13) ?_))))))))
   obtain ⟨t16,ht17,H⟩:=QW H
   refine Zz fn78 (Q9.con k M (a1.length:Int) (0:Int) a0.KeyLen t16  ht17) S rfl rfl (by rintro _ _ _ ⟨_,rfl⟩;exact Qd) ?_
   rintro _ w18 _ Γ' E' S ⟨rfl,rfl⟩
   replace E:=E.trans E'
   refine W_v (.bool t16) (QV (k:=true) (congrArg Value.bool hb13) rfl) rfl (QB ?_)
   exact ⟨t16,Option.some.inj H,⟨rfl,trivial⟩,E,S.pick [] (by decide)⟩
  ·skip
   refine QZ (skT hb13) rfl (QZ (skT hb13) rfl (QZ (skT hb13) rfl (QZ (skT hb13) rfl (QZ (skT hb13) rfl (W_v (.bool false) (QV (k:=false) (congrArg Value.bool hb13) rfl) rfl (QB ?_))))))
   exact ⟨false,Option.some.inj H,⟨rfl,trivial⟩,E,S.pick [] (by decide)⟩
 rintro ρ w19 ⟨x14,rfl,hρ,E,S⟩
 rw [QI hρ]
 have H:=o15H
 refine W_v (.bool x14) (QG rfl) rfl (QB (tn ?_))
 refine Qs ?_
 obtain rfl:=Option.some.inj H
 exact ⟨_,_,_,fun w1 e1=>QX (vs:=[.bool x14]) (FA.cons (rfl) (FA.nil)),HM,E,S.pick [] (by decide),⟨rfl,rfl⟩⟩
def YC (a0:Str) (a1:Str):Nat→Int→Option ((Int)⊕(Unit))
 | 0,_=>none
 | k+1,x51=>(if ((decide (x51 < (a0.length:Int)))&&(decide (x51 < (a1.length:Int))))=true then (if 0≤x51∧x51 < (a0.length:Int) then (if 0≤x51∧x51 < (a1.length:Int) then (if (decide ((((a0).getD (x51).toNat 0).toNat:Int) < (((a1).getD (x51).toNat 0).toNat:Int)))=true then some (.inl (-1:Int)) else (if 0≤x51∧x51 < (a0.length:Int) then (if 0≤x51∧x51 < (a1.length:Int) then (if (decide ((((a0).getD (x51).toNat 0).toNat:Int) > (((a1).getD (x51).toNat 0).toNat:Int)))=true then some (.inl (1:Int)) else YC a0 a1 k (IntKind.i64.wrap (x51+(1:Int)))) else none) else none)) else none) else none) else some (.inr ()))
theorem YC.mono {a0:Str} {a1:Str}:∀ {kl:Nat} {x0},OLe (YC a0 a1 kl x0) (YC a0 a1 (kl+1) x0):=by
 intro kl
 induction kl with
 | zero=>intros;exact OLe.none
 | succ kl ih =>
  intros
  rw [YC.eq_2,YC.eq_2]
  exact mo
def Zm (k:Nat) (a0:Str) (a1:Str):Option (Int) :=
 (Option.bind (YC a0 a1 k (0:Int)) (fun o76o=>Sum.elim (fun r'=>some r') (fun _=>(if (decide ((a0.length:Int) < (a1.length:Int)))=true then some (-1:Int) else (if (decide ((a0.length:Int) > (a1.length:Int)))=true then some (1:Int) else some (0:Int)))) o76o))
theorem Zm.mono {k:Nat} {a0:Str} {a1:Str}:OLe (Zm k a0 a1) (Zm (k+1) a0 a1):=by
 unfold Zm
 have m1:=@YC.mono
 exact mo
theorem Zm.con (k:Nat) (M:Hp) (a0:Str) (a1:Str) (r:Int)  (h:Zm k a0 a1=some r):Con Tryd.prog 69 #[vS a0,vS a1] M [] (fun v M' Γ'=>v=vI r∧Γ'=[]):=by
 refine Qt Tryd.func69 rfl Tryd.ntmps69 Tryd.results69 rfl ?_
 intro w F rn S hrn
 have E:=Ext.refl w
 have HM:=Hp.le_refl M
 have H:=h
 unfold Zm at H
 refine QE (QA (W_v (vI 0) (QG rfl) rfl (QB (tn (QE (QE (QA (W_v (vI 0) (QG rfl) rfl (QB (tn ?_))))))))))
 obtain ⟨o76,o76h,o76H⟩:=QW H
 refine Yj (fun ρ w'=>.inr ()=o76∧Qi ρ [(0,vS a0),(1,vS a1)]∧Ext w w'∧St w' M F []) ?_ ?_
 ·skip
  refine Y3 (fun n ρ w'=>∃ (x51:Int),YC a0 a1 n x51=some o76∧Qi ρ [(0,vS a0),(1,vS a1),(5,vI x51)]∧Ext w w'∧St w' M F []) k ?_ ?_
  ·skip
   exact ⟨(0:Int),o76h,⟨rfl,rfl,rfl,trivial⟩,E,S.pick [] (by decide)⟩
  ·intro n
   rintro ρ w77 ⟨x51,H,hρ,E,S⟩
   rw [QI hρ]
   cases n with
   | zero=>cases H
   | succ k =>
    rw [YC.eq_2] at H
    refine QE (QE (QA (W_v (vI x51) (QD rfl) rfl (W_v (vS a0) (QD rfl) rfl (W_v (vI (a0.length:Int)) (XU Tryd.underlying9 rfl) rfl (W_v (.bool (decide (x51 < (a0.length:Int)))) (Qa rfl rfl rfl rfl) rfl (W_v (.bool (decide (x51 < (a0.length:Int)))) (QD rfl) rfl ?_)))))))
    refine ZH 5 (fun ρ w'=>Qi ρ [(0,vS a0),(1,vS a1),(5,vI x51),(15,.bool ((decide (x51 < (a0.length:Int)))&&(decide (x51 < (a1.length:Int)))))]∧w77=w') ?_ ?_
    ·rcases ZX (decide (x51 < (a0.length:Int))) with hb78 | hb78
     ·skip
      refine QZ (skT hb78) rfl (QZ (skT hb78) rfl (QZ (skT hb78) rfl (QZ (skT hb78) rfl (W_v (.bool false) (QV (k:=false) (congrArg Value.bool hb78) rfl) rfl (QB ?_)))))
      exact ⟨⟨rfl,rfl,rfl,(by first | rfl | (rw [hb78];rfl) | (simp only [hb78];rfl)),trivial⟩,rfl⟩
     ·skip
      refine QP (congrArg some hb78) (W_v (vI x51) (QD rfl) rfl (QP (congrArg some hb78) (W_v (vS a1) (QD rfl) rfl (QP (congrArg some hb78) (W_v (vI (a1.length:Int)) (XU Tryd.underlying9 rfl) rfl (QP (congrArg some hb78) (W_v (.bool (decide (x51 < (a1.length:Int)))) (Qa rfl rfl rfl rfl) rfl (W_v (.bool (decide (x51 < (a1.length:Int)))) (QV (k:=true) (congrArg Value.bool hb78) rfl) rfl (QB ?_)))))))))
      exact ⟨⟨rfl,rfl,rfl,(by first | rfl | (rw [hb78];rfl) | (simp only [hb78];rfl)),trivial⟩,rfl⟩
    as_aux_lemma =>
    rintro ρ _ ⟨hρ,rfl⟩
    rw [QI hρ]
    refine QB (tn ?_)
    rcases Zf H with ⟨hb79,H⟩ | ⟨hb79,H⟩
    ·refine QQ (congrArg Value.bool hb79) ?_
     refine Qr (tn (QE ?_))
     refine YP ?_
     refine QE (QE ?_)
     refine Q0 (S:=fun w'=>∃ Mx,M.le Mx∧St w' Mx F []) (L:=7) mixed ?_
     intro w84 hw85 E'
     replace S:=S.heap hw85
     replace E:=E.trans E'
     have D1:∃ Mx,Hp.le M Mx∧St _ Mx F []:=⟨_,Hp.le_refl _,S.pick [] (by decide)⟩
     refine Wt 0 rfl rfl rfl (vS a0) rfl (fun w' h'=>QD rfl) D1 (Wt 1 rfl rfl rfl (vI x51) rfl (fun w' h'=>QD rfl) D1 ?_)
     obtain ⟨⟨p86,p87⟩,H⟩:=Yy H
     refine Wt 2 rfl rfl rfl (vU (((a0).getD (x51).toNat 0).toNat:Int)) rfl (fun w' h'=>VH Tryd.underlying9 rfl rfl p86 p87) D1 (Wt 3 rfl rfl rfl (vS a1) rfl (fun w' h'=>QD rfl) D1 (Wt 4 rfl rfl rfl (vI x51) rfl (fun w' h'=>QD rfl) D1 ?_))
     obtain ⟨⟨p88,p89⟩,H⟩:=Yy H
     refine Wt 5 rfl rfl rfl (vU (((a1).getD (x51).toNat 0).toNat:Int)) rfl (fun w' h'=>VH Tryd.underlying9 rfl rfl p88 p89) D1 (Wt 6 rfl rfl rfl (.bool (decide ((((a0).getD (x51).toNat 0).toNat:Int) < (((a1).getD (x51).toNat 0).toNat:Int)))) rfl (fun w' h'=>Qa rfl rfl rfl rfl) D1 ?_)
     refine Wz ?_
     refine tn ?_
     rcases Zf H with ⟨hb90,H⟩ | ⟨hb90,H⟩
     ·refine QQ (congrArg Value.bool hb90) ?_
      refine QE (QA (W_v (vI (-1)) (QG rfl) rfl (QB (tn ?_))))
      refine Qs ?_
      refine tr (br (tr (tr (br (tr (tr (?_)))))))
      obtain rfl:=Option.some.inj H
      have H:=o76H
      replace H:=elimL H
      obtain rfl:=Option.some.inj H
      exact ⟨_,_,_,fun w1 e1=>QX (vs:=[vI (-1)]) (FA.cons (rfl) (FA.nil)),HM,E,S.pick [] (by decide),⟨rfl,rfl⟩⟩
     refine QK (congrArg Value.bool hb90) (Qr (tn (QE ?_)))
     refine Q0 (S:=fun w'=>∃ Mx,M.le Mx∧St w' Mx F []) (L:=7) mixed ?_
     intro w95 hw96 E'
     replace S:=S.heap hw96
     replace E:=E.trans E'
     have D2:∃ Mx,Hp.le M Mx∧St _ Mx F []:=⟨_,Hp.le_refl _,S.pick [] (by decide)⟩
     refine Wt 0 rfl rfl rfl (vS a0) rfl (fun w' h'=>QD rfl) D2 (Wt 1 rfl rfl rfl (vI x51) rfl (fun w' h'=>QD rfl) D2 ?_)
     obtain ⟨⟨p97,p98⟩,H⟩:=Yy H
     refine Wt 2 rfl rfl rfl (vU (((a0).getD (x51).toNat 0).toNat:Int)) rfl (fun w' h'=>VH Tryd.underlying9 rfl rfl p97 p98) D2 (Wt 3 rfl rfl rfl (vS a1) rfl (fun w' h'=>QD rfl) D2 (Wt 4 rfl rfl rfl (vI x51) rfl (fun w' h'=>QD rfl) D2 ?_))
     obtain ⟨⟨p99,p100⟩,H⟩:=Yy H
     refine Wt 5 rfl rfl rfl (vU (((a1).getD (x51).toNat 0).toNat:Int)) rfl (fun w' h'=>VH Tryd.underlying9 rfl rfl p99 p100) D2 (Wt 6 rfl rfl rfl (.bool (decide ((((a0).getD (x51).toNat 0).toNat:Int) > (((a1).getD (x51).toNat 0).toNat:Int)))) rfl (fun w' h'=>Qa rfl rfl rfl rfl) D2 ?_)
     refine Wz ?_
     refine tn ?_
     rcases Zf H with ⟨hb101,H⟩ | ⟨hb101,H⟩
     ·refine QQ (congrArg Value.bool hb101) ?_
      refine QE (QA (W_v (vI 1) (QG rfl) rfl (QB (tn ?_))))
      refine Qs ?_
      refine br (tr (tr (br (tr (tr (?_))))))
      obtain rfl:=Option.some.inj H
      have H:=o76H
      replace H:=elimL H
      obtain rfl:=Option.some.inj H
      exact ⟨_,_,_,fun w1 e1=>QX (vs:=[vI 1]) (FA.cons (rfl) (FA.nil)),HM,E,S.pick [] (by decide),⟨rfl,rfl⟩⟩
     refine QK (congrArg Value.bool hb101) (Qr (bn (tn (QA (W_v (vI x51) (QD rfl) rfl (W_v (vI (IntKind.i64.wrap (x51+(1:Int)))) (Qa rfl rfl rfl rfl) rfl (W_v (vI (IntKind.i64.wrap (x51+(1:Int)))) (QG rfl) rfl (QB (tn ?_)))))))))
     exact ⟨k,Nat.lt_succ_self k,⟨(IntKind.i64.wrap (x51+(1:Int))),H,⟨rfl,rfl,rfl,trivial⟩,E,S.pick [] (by decide)⟩⟩
    refine QK (congrArg Value.bool hb79) ?_
    refine Y0 ?_
    refine tx (tx (bsm (?_)))
    refine tn ?_
    exact ⟨Option.some.inj H,⟨rfl,rfl,trivial⟩,E,S.pick [] (by decide)⟩
 rintro ρ w102 ⟨rfl,hρ,E,S⟩
 rw [QI hρ]
 have H:=o76H
 replace H:=elimR H
 refine tn ?_
 as_aux_lemma =>
 refine QE (QE (QA (W_v (vS a0) (QD rfl) rfl (W_v (vI (a0.length:Int)) (XU Tryd.underlying9 rfl) rfl (W_v (vS a1) (QD rfl) rfl (W_v (vI (a1.length:Int)) (XU Tryd.underlying9 rfl) rfl (W_v (.bool (decide ((a0.length:Int) < (a1.length:Int)))) (Qa rfl rfl rfl rfl) rfl (QB (tn ?_)))))))))
 rcases Zf H with ⟨hb103,H⟩ | ⟨hb103,H⟩
 ·refine QQ (congrArg Value.bool hb103) ?_
  refine QE (QA (W_v (vI (-1)) (QG rfl) rfl (QB (tn ?_))))
  refine Qs ?_
  refine tr (?_)
  obtain rfl:=Option.some.inj H
  exact ⟨_,_,_,fun w1 e1=>QX (vs:=[vI (-1)]) (FA.cons (rfl) (FA.nil)),HM,E,S.pick [] (by decide),⟨rfl,rfl⟩⟩
 refine QK (congrArg Value.bool hb103) (Qr (tn (QE (QE (QA (W_v (vS a0) (QD rfl) rfl (W_v (vI (a0.length:Int)) (XU Tryd.underlying9 rfl) rfl (W_v (vS a1) (QD rfl) rfl (W_v (vI (a1.length:Int)) (XU Tryd.underlying9 rfl) rfl (W_v (.bool (decide ((a0.length:Int) > (a1.length:Int)))) (Qa rfl rfl rfl rfl) rfl (QB (tn ?_))))))))))))
 rcases Zf H with ⟨hb104,H⟩ | ⟨hb104,H⟩
 ·refine QQ (congrArg Value.bool hb104) ?_
  refine QE (QA (W_v (vI 1) (QG rfl) rfl (QB (tn ?_))))
  refine Qs ?_
  refine tr (?_)
  obtain rfl:=Option.some.inj H
  exact ⟨_,_,_,fun w1 e1=>QX (vs:=[vI 1]) (FA.cons (rfl) (FA.nil)),HM,E,S.pick [] (by decide),⟨rfl,rfl⟩⟩
 refine QK (congrArg Value.bool hb104) (Qr (tn ?_))
 as_aux_lemma =>
 refine QE (QA (W_v (vI 0) (QG rfl) rfl (QB (tn ?_))))
 refine Qs ?_
 obtain rfl:=Option.some.inj H
 exact ⟨_,_,_,fun w1 e1=>QX (vs:=[vI 0]) (FA.cons (rfl) (FA.nil)),HM,E,S.pick [] (by decide),⟨rfl,rfl⟩⟩
def Yi (k:Nat) (a0:Str) (a1:Str) (a2:Str):Option (Bool) :=
 (Option.bind (Zm k a1 a0) (fun t1=>(Option.bind (α:=Bool) (if (decide (t1≤(0:Int)))=true then (Option.bind (α:=Bool) (if (sbin .eql a2 ([]:Str))=true then some (true) else (Option.bind (Zm k a0 a2) (fun t42=>some ((decide (t42 < (0:Int))))))) (fun x40=>some (x40))) else some (false)) (fun x31=>some x31))))
theorem Yi.mono {k:Nat} {a0:Str} {a1:Str} {a2:Str}:OLe (Yi k a0 a1 a2) (Yi (k+1) a0 a1 a2):=by
 unfold Yi
 have m1:=@Zm.mono
 exact mo
theorem Yi.con (k:Nat) (M:Hp) (a0:Str) (a1:Str) (a2:Str) (r:Bool)  (h:Yi k a0 a1 a2=some r):Con Tryd.prog 42 #[vS a0,vS a1,vS a2] M [] (fun v M' Γ'=>v=.bool r∧Γ'=[]):=by
 refine Qt Tryd.func42 rfl Tryd.ntmps42 Tryd.results42 rfl ?_
 intro w F rn S hrn
 have E:=Ext.refl w
 have HM:=Hp.le_refl M
 have H:=h
 unfold Yi at H
 refine QE (QA (W_v (.bool false) (QG rfl) rfl (QB (tn (QE (QA (W_v (vS a1) (QD rfl) rfl (W_v (vS a0) (QD rfl) rfl ?_))))))))
 obtain ⟨t1,ht2,H⟩:=QW H
 refine Zz fn69 (Zm.con k M a1 a0 t1  ht2) S rfl rfl (by rintro _ _ _ ⟨_,rfl⟩;exact Qd) ?_
 rintro _ w3 _ Γ' E' S ⟨rfl,rfl⟩
 replace E:=E.trans E'
 refine W_v (.bool (decide (t1≤(0:Int)))) (Qa rfl rfl rfl rfl) rfl (W_v (.bool (decide (t1≤(0:Int)))) (QD rfl) rfl ?_)
 obtain ⟨o32,o32h,o32H⟩:=QW H
 refine ZH 9 (fun ρ w'=>∃ (x31:Bool),(x31)=o32∧Qi ρ [(20,.bool x31)]∧Ext w w'∧St w' M F []) ?_ ?_
 ·as_aux_lemma =>
   have H:=o32h
   rcases Zf H with ⟨hb30,H⟩ | ⟨hb30,H⟩
   ·skip
    refine QP (congrArg some hb30) (W_v (vS a2) (QD rfl) rfl (QP (congrArg some hb30) (W_v (.bool (sbin .eql a2 ([]:Str))) (Xy rfl rfl rfl) rfl (QP (congrArg some hb30) (W_v (.bool (sbin .eql a2 ([]:Str))) (QD rfl) rfl ?_)))))
    obtain ⟨o41,o41h,o41H⟩:=QW H
    refine ZH 5 (fun ρ w'=>∃ (x40:Bool),(x40)=o41∧Qi ρ [(11,.bool (decide (t1≤(0:Int)))),(19,.bool x40)]∧Ext w w'∧St w' M F []) ?_ ?_
    ·have H:=o41h
     rcases Zf H with ⟨hb39,H⟩ | ⟨hb39,H⟩
     ·skip
      refine QZ (skF hb39) rfl (QZ (skF hb39) rfl (QZ (skF hb39) rfl (QZ (skF hb39) rfl (QP (congrArg some hb30) (W_v (.bool true) (QV (k:=true) (congrArg Value.bool hb39) rfl) rfl (QB ?_))))))
      exact ⟨true,Option.some.inj H,⟨rfl,rfl,trivial⟩,E,S.pick [] (by decide)⟩
     ·skip
      refine QP (congrArg some hb39) (W_v (vS a0) (QD rfl) rfl (QP (congrArg some hb39) (W_v (vS a2) (QD rfl) rfl (QP (congrArg some hb39) ?_))))
      obtain ⟨t42,ht43,H⟩:=QW H
      refine Zz fn69 (Zm.con k M a0 a2 t42  ht43) S rfl rfl (by rintro _ _ _ ⟨_,rfl⟩;exact Qd) ?_
      rintro _ w44 _ Γ' E' S ⟨rfl,rfl⟩
      replace E:=E.trans E'
      refine QP (congrArg some hb39) (W_v (.bool (decide (t42 < (0:Int)))) (Qa rfl rfl rfl rfl) rfl (QP (congrArg some hb30) (W_v (.bool (decide (t42 < (0:Int)))) (QV (k:=false) (congrArg Value.bool hb39) rfl) rfl (QB ?_))))
      exact ⟨(decide (t42 < (0:Int))),Option.some.inj H,⟨rfl,rfl,trivial⟩,E,S.pick [] (by decide)⟩
    rintro ρ w45 ⟨x40,rfl,hρ,E,S⟩
    rw [QI hρ]
    have H:=o41H
    refine W_v (.bool x40) (QV (k:=true) (congrArg Value.bool hb30) rfl) rfl (QB ?_)
    exact ⟨x40,Option.some.inj H,⟨rfl,trivial⟩,E,S.pick [] (by decide)⟩
   ·skip
    refine QZ (skT hb30) rfl (QZ (skT hb30) rfl (QZ (skT hb30) rfl (QZ (rfl) rfl (QZ (rfl) rfl (QZ (rfl) rfl (QZ (rfl) rfl (QZ (skT hb30) rfl (W_v (.bool false) (QV (k:=false) (congrArg Value.bool hb30) rfl) rfl (QB ?_)))))))))
    exact ⟨false,Option.some.inj H,⟨rfl,trivial⟩,E,S.pick [] (by decide)⟩
 rintro ρ w46 ⟨x31,rfl,hρ,E,S⟩
 rw [QI hρ]
 have H:=o32H
 refine W_v (.bool x31) (QG rfl) rfl (QB (tn ?_))
 refine Qs ?_
 obtain rfl:=Option.some.inj H
 exact ⟨_,_,_,fun w1 e1=>QX (vs:=[.bool x31]) (FA.cons (rfl) (FA.nil)),HM,E,S.pick [] (by decide),⟨rfl,rfl⟩⟩
def YY (a0:(List QS)) (a1:Int):Nat→Int→Option ((Int)⊕(Unit))
 | 0,_=>none
 | k+1,x27=>(if (decide (x27 < (a0.length:Int)))=true then (if 0≤x27∧x27 < (a0.length:Int) then (if (decide ((rd a0 x27).TS≤a1))=true then some (.inl x27) else YY a0 a1 k (IntKind.i64.wrap (x27+(1:Int)))) else none) else some (.inr ()))
theorem YY.mono {a0:(List QS)} {a1:Int}:∀ {kl:Nat} {x0},OLe (YY a0 a1 kl x0) (YY a0 a1 (kl+1) x0):=by
 intro kl
 induction kl with
 | zero=>intros;exact OLe.none
 | succ kl ih =>
  intros
  rw [YY.eq_2,YY.eq_2]
  exact mo
def Yd (k:Nat) (a0:(List QS)) (a1:Int):Option (Int) :=
 (Option.bind (YY a0 a1 k (0:Int)) (fun o40o=>Sum.elim (fun r'=>some r') (fun _=>some (a0.length:Int)) o40o))
theorem Yd.mono {k:Nat} {a0:(List QS)} {a1:Int}:OLe (Yd k a0 a1) (Yd (k+1) a0 a1):=by
 unfold Yd
 have m1:=@YY.mono
 exact mo
theorem Yd.con (k:Nat) (M:Hp) (A0:Option Addr) (c0:Nat) (a0:(List QS)) (a1:Int) (r:Int) (hr0:SlR Q4 M (.slice A0 a0.length c0) a0) (h:Yd k a0 a1=some r):Con Tryd.prog 88 #[.slice A0 a0.length c0,vI a1] M [] (fun v M' Γ'=>v=vI r∧Γ'=[]):=by
 refine Qt Tryd.func88 rfl Tryd.ntmps88 Tryd.results88 rfl ?_
 intro w F rn S hrn
 have E:=Ext.refl w
 have HM:=Hp.le_refl M
 have H:=h
 unfold Yd at H
 refine QE (QA (W_v (vI 0) (QG rfl) rfl (QB (tn (QE (QE (QA (W_v (vI 0) (QG rfl) rfl (QB (tn ?_))))))))))
 obtain ⟨o40,o40h,o40H⟩:=QW H
 refine Yj (fun ρ w'=>.inr ()=o40∧Qi ρ [(0,.slice A0 a0.length c0)]∧Ext w w'∧St w' M F []) ?_ ?_
 ·skip
  refine Y3 (fun n ρ w'=>∃ (x27:Int),YY a0 a1 n x27=some o40∧Qi ρ [(0,.slice A0 a0.length c0),(1,vI a1),(5,vI x27)]∧Ext w w'∧St w' M F []) k ?_ ?_
  ·skip
   exact ⟨(0:Int),o40h,⟨rfl,rfl,rfl,trivial⟩,E,S.pick [] (by decide)⟩
  ·intro n
   rintro ρ w41 ⟨x27,H,hρ,E,S⟩
   rw [QI hρ]
   cases n with
   | zero=>cases H
   | succ k =>
    rw [YY.eq_2] at H
    refine QE (QE (QA (W_v (vI x27) (QD rfl) rfl (W_v (.slice A0 a0.length c0) (QD rfl) rfl (W_v (vI (a0.length:Int)) (Q8 (n:=a0.length) Tryd.underlying65 rfl) rfl (W_v (.bool (decide (x27 < (a0.length:Int)))) (Qa rfl rfl rfl rfl) rfl (QB (tn ?_))))))))
    rcases Zf H with ⟨hb42,H⟩ | ⟨hb42,H⟩
    ·refine QQ (congrArg Value.bool hb42) ?_
     refine Qr (tn (QE ?_))
     refine YP ?_
     refine QE (QA (W_v (.slice A0 a0.length c0) (QD rfl) rfl (W_v (vI x27) (QD rfl) rfl ?_)))
     obtain ⟨⟨p43,p44⟩,H⟩:=Yy H
     obtain ⟨b45,o46,cs47,_,_,ee52,hb48,vs49,hR50,hc51⟩:=SlW.at' hr0 p43 p44
     obtain rfl:vs49=_:=hR50
     refine W_v (.pointer (some ⟨b45,o46+x27.toNat*4,none⟩)) (Qy Tryd.underlying65 ty61 (slA ee52) rfl p43 p44) rfl (W_v (.pointer (some ⟨b45,o46+x27.toNat*4+1,none⟩)) (QC (o:=o46+x27.toNat*4) (off:=1) Tryd.underlying61 rfl ty3 rfl rfl) rfl (W_v (vI ((rd a0 x27).TS)) (QO (S.frz hb48) ty3 rfl (hc51 1 _ rfl)) rfl (W_v (vI a1) (QD rfl) rfl (W_v (.bool (decide ((rd a0 x27).TS≤a1))) (Qa rfl rfl rfl rfl) rfl (QB (tn ?_))))))
     rcases Zf H with ⟨hb53,H⟩ | ⟨hb53,H⟩
     ·refine QQ (congrArg Value.bool hb53) ?_
      refine QE (QA (W_v (vI x27) (QD rfl) rfl (W_v (vI x27) (QG rfl) rfl (QB (tn ?_)))))
      refine Qs ?_
      refine br (tr (tr (br (tr (tr (?_))))))
      obtain rfl:=Option.some.inj H
      have H:=o40H
      replace H:=elimL H
      obtain rfl:=Option.some.inj H
      exact ⟨_,_,_,fun w1 e1=>QX (vs:=[vI x27]) (FA.cons (rfl) (FA.nil)),HM,E,S.pick [] (by decide),⟨rfl,rfl⟩⟩
     refine QK (congrArg Value.bool hb53) (Qr (bn (tn (QA (W_v (vI x27) (QD rfl) rfl (W_v (vI (IntKind.i64.wrap (x27+(1:Int)))) (Qa rfl rfl rfl rfl) rfl (W_v (vI (IntKind.i64.wrap (x27+(1:Int)))) (QG rfl) rfl (QB (tn ?_)))))))))
     exact ⟨k,Nat.lt_succ_self k,⟨(IntKind.i64.wrap (x27+(1:Int))),H,⟨rfl,rfl,rfl,trivial⟩,E,S.pick [] (by decide)⟩⟩
    refine QK (congrArg Value.bool hb42) ?_
    refine Y0 ?_
    refine tx (tx (bsm (?_)))
    refine tn ?_
    exact ⟨Option.some.inj H,⟨rfl,trivial⟩,E,S.pick [] (by decide)⟩
 rintro ρ w54 ⟨rfl,hρ,E,S⟩
 rw [QI hρ]
 have H:=o40H
 replace H:=elimR H
 refine tn ?_
 as_aux_lemma =>
 refine QE (QA (W_v (.slice A0 a0.length c0) (QD rfl) rfl (W_v (vI (a0.length:Int)) (Q8 (n:=a0.length) Tryd.underlying65 rfl) rfl (W_v (vI (a0.length:Int)) (QG rfl) rfl (QB (tn ?_))))))
 refine Qs ?_
 obtain rfl:=Option.some.inj H
 exact ⟨_,_,_,fun w1 e1=>QX (vs:=[vI (a0.length:Int)]) (FA.cons (rfl) (FA.nil)),HM,E,S.pick [] (by decide),⟨rfl,rfl⟩⟩
end Go.Proofs.YtcngjjlhdlbogaaDoor
