import Derived.Test.YtnjbjpaiepefoaaDoorGp2B
import Derived.Test.YtnjbjpaiepefoaaDoorGp2P0
import Derived.Test.YtnjbjpaiepefoaaDoorGp2P1
import Derived.Test.YtnjbjpaiepefoaaDoorGp2P2
namespace Go.Proofs.YtnjbjpaiepefoaaDoor
open Go
set_option linter.unusedVariables false
set_option linter.unusedSimpArgs false
set_option maxHeartbeats 80000000
set_option maxRecDepth 100000
def Z6 (k:Nat) (a0:QM) (a1:Int) (a2:Int) (a3:QW):Option (Qf) :=
 some cz8
theorem Z6.mono {k:Nat} {a0:QM} {a1:Int} {a2:Int} {a3:QW}:OLe (Z6 k a0 a1 a2 a3) (Z6 (k + 1) a0 a1 a2 a3):=by
 unfold Z6
 exact mo
theorem Z6.con (k:Nat) (M:Hp) (A0_8:Option Addr) (c0_8:Nat) (A0_9:Option Addr) (c0_9:Nat) (A0_10:Option Addr) (c0_10:Nat) (A0_11:Option Addr) (c0_11:Nat) (vs0_11:List (Str × Value)) (a0:QM) (a1:Int) (a2:Int) (a3:QW) (bo0:Nat) (r:Qf) (hm0_11:YP Qm M a0.rows vs0_11) (h:Z6 k a0 a1 a2 a3 = some r):Con Tryd.prog 130 #[pt bo0 0,vI a1,vI a2,.agg #[vU a3.Kind,vI a3.Tx,vS a3.Key,vS a3.End,vS a3.Value,vI a3.Limit,vU a3.Engine]] M [B95 bo0 a0 A0_8 A0_9 A0_10 c0_10 A0_11,QV QH (Value.int .i64) A0_8 a0.names,QV (Value.int .i64) (Value.int .i64) A0_9 a0.many,Row QP 122 (.slice A0_10 a0.txs.length c0_10) a0.txs,QV encS (fun v:Value=>v) A0_11 vs0_11] (fun v M' Γ'=>∃ (Aq1:Option Addr) (cq2:Nat),v = .agg #[vI r.Err,.bool r.Found,vS r.Value,.slice Aq1 r.Pairs.length cq2] ∧ Γ' = [Row Qr 72 (.slice Aq1 r.Pairs.length cq2) r.Pairs,B95 bo0 a0 A0_8 A0_9 A0_10 c0_10 A0_11,QV QH (Value.int .i64) A0_8 a0.names,QV (Value.int .i64) (Value.int .i64) A0_9 a0.many,Row QP 122 (.slice A0_10 a0.txs.length c0_10) a0.txs,QV encS (fun v:Value=>v) A0_11 vs0_11]):=by
 refine Qa Tryd.func130 rfl Tryd.ntmps130 Tryd.results130 rfl ?_
 intro w F rn S hrn
 have E:=Ext.refl w
 have HM:=Hp.le_refl M
 have H:=h
 unfold Z6 at H
 refine QE (QA ?_)
 refine YO S #[vU a3.Kind,vI a3.Tx,vS a3.Key,vS a3.End,vS a3.Value,vI a3.Limit,vU a3.Engine] rfl rfl rfl ?_
 intro b1 w2 E' S
 replace E:=E.trans E'
 refine Zu S cz13 ty34 rfl rfl ?_
 intro b4 w5 E' S
 replace E:=E.trans E'
 refine QB (tn (QE (QA (W_v (.agg cz13) (ZN (pl:=[(0,1),(1,1),(2,1),(3,1)]) cz13 Tryd.underlying34 ty34 (by as_aux_lemma=>kernel_rfl) rfl (by as_aux_lemma=>kernel_rfl)) rfl ?_))))
 refine Q5 S 0 rfl ty34 rfl rfl [vI 0,.bool false,vS ([]:Str),.slice none 0 0] rfl rfl rfl cz13 rfl rfl ?_
 intro w7 E' S
 replace E:=E.trans E'
 refine QB (tn ?_)
 refine QY ?_
 obtain rfl:=Option.some.inj H
 replace S:=S.row_nil Qr 72
 exact ⟨_,_,_,fun w1 e1=>QO (vs:=[.agg #[vI 0,.bool false,vS ([]:Str),.slice none ([]:List Qu).length 0]]) (FA.cons (⟨_,rfl,Qv ty34 ((S.of_eq e1).blk 1 rfl) (QI rfl) rfl (by decide)⟩) (FA.nil)),HM,E,S.pick [0,3,4,5,6,7] (by decide),⟨none,0,rfl,rfl⟩⟩
def Zb (k:Nat) (a0:QM) (a1:Int) (a2:QW):Option (Qf × QM) :=
 (Option.bind (Z7 k a0 a1 a2) (fun t7=>(if (t7 != (0:Int)) = true then some ((⟨t7,false,([]:Str),([]:List Qu)⟩:Qf),a0) else (Option.bind (YB k a0 a1 a2.Tx) (fun t15=>(if 0 ≤ a2.Kind ∧ a2.Kind < (10:Int) then (if (a2.Kind == (1:Int)) = true then (Option.bind (YL k a0 t15.1 a1 a2) (fun t206=>some (t206.1,t206.2))) else (if (a2.Kind == (2:Int)) = true then (Option.bind (Yf k a0 t15.1 a1 a2) (fun t230=>some (t230,a0))) else (if (a2.Kind == (3:Int)) = true then (Option.bind (Ye k a0 t15.1 a1 a2) (fun t240=>some (t240.1,t240.2))) else (if (a2.Kind == (4:Int)) = true then (Option.bind (Yg k a0 t15.1 a1 a2) (fun t264=>some (t264.1,t264.2))) else (if (a2.Kind == (5:Int)) = true then (Option.bind (YR k a0 t15.1 a1 a2) (fun t288=>some (t288,a0))) else (if (a2.Kind == (6:Int)) = true then (Option.bind (YG k a0 t15.1 a1 a2) (fun t298=>some (t298.1,t298.2))) else (if (a2.Kind == (7:Int)) = true then (Option.bind (YM k a0 t15.1 a1 a2) (fun t322=>some (t322.1,t322.2))) else (if (a2.Kind == (8:Int)) = true then (Option.bind (YF k a0 t15.1 a1 a2) (fun t346=>some (t346.1,t346.2))) else (if (a2.Kind == (9:Int)) = true then (Option.bind (Z6 k a0 t15.1 a1 a2) (fun t370=>some (t370,a0))) else none))))))))) else none))))))
theorem Zb.mono {k:Nat} {a0:QM} {a1:Int} {a2:QW}:OLe (Zb k a0 a1 a2) (Zb (k + 1) a0 a1 a2):=by
 unfold Zb
 have m1:=@Z7.mono
 have m2:=@YB.mono
 have m3:=@YM.mono
 have m4:=@YL.mono
 have m5:=@YG.mono
 have m6:=@Yg.mono
 have m7:=@Yf.mono
 have m8:=@Z6.mono
 have m9:=@Ye.mono
 have m10:=@YR.mono
 have m11:=@YF.mono
 exact mo
theorem Zb.con (k:Nat) (M:Hp) (A0_8:Option Addr) (c0_8:Nat) (A0_9:Option Addr) (c0_9:Nat) (A0_10:Option Addr) (c0_10:Nat) (A0_11:Option Addr) (c0_11:Nat) (vs0_11:List (Str × Value)) (a0:QM) (a1:Int) (a2:QW) (bo0:Nat) (r:Qf × QM) (hm0_11:YP Qm M a0.rows vs0_11) (hg0:∃ gt fr,M 0 = some (.cells cz1 gt fr)) (hg1:∃ gt fr,M 1 = some (.cells cz3 gt fr)) (h:Zb k a0 a1 a2 = some r):Con Tryd.prog 15 #[pt bo0 0,vI a1,.agg #[vU a2.Kind,vI a2.Tx,vS a2.Key,vS a2.End,vS a2.Value,vI a2.Limit,vU a2.Engine]] M [B95 bo0 a0 A0_8 A0_9 A0_10 c0_10 A0_11,QV QH (Value.int .i64) A0_8 a0.names,QV (Value.int .i64) (Value.int .i64) A0_9 a0.many,Row QP 122 (.slice A0_10 a0.txs.length c0_10) a0.txs,QV encS (fun v:Value=>v) A0_11 vs0_11] (fun v M' Γ'=>∃ (Aq1:Option Addr) (cq2:Nat) (Aq4:Option Addr) (cq5:Nat) (Aq7:Option Addr) (cq8:Nat) (Aq10:Option Addr) (cq11:Nat) (Aq13:Option Addr) (cq14:Nat) (vsq16:List (Str × Value)),v = .agg #[vI r.1.Err,.bool r.1.Found,vS r.1.Value,.slice Aq1 r.1.Pairs.length cq2] ∧ YP Qm M' r.2.rows vsq16 ∧ Γ' = [Row Qr 72 (.slice Aq1 r.1.Pairs.length cq2) r.1.Pairs,B95 bo0 r.2 Aq4 Aq7 Aq10 cq11 Aq13,QV QH (Value.int .i64) Aq4 r.2.names,QV (Value.int .i64) (Value.int .i64) Aq7 r.2.many,Row QP 122 (.slice Aq10 r.2.txs.length cq11) r.2.txs,QV encS (fun v:Value=>v) Aq13 vsq16]):=by
 refine Qa Tryd.func15 rfl Tryd.ntmps15 Tryd.results15 rfl ?_
 intro w F rn S hrn
 have E:=Ext.refl w
 have HM:=Hp.le_refl M
 have H:=h
 unfold Zb at H
 refine QE (QA ?_)
 refine YO S #[vU a2.Kind,vI a2.Tx,vS a2.Key,vS a2.End,vS a2.Value,vI a2.Limit,vU a2.Engine] rfl rfl rfl ?_
 intro b1 w2 E' S
 replace E:=E.trans E'
 refine Zu S cz13 ty34 rfl rfl ?_
 intro b4 w5 E' S
 replace E:=E.trans E'
 refine QB (tn (QE (QE (QA (W_v (pt bo0 0) (QC rfl) rfl (W_v (vI a1) (QC rfl) rfl (W_v (.agg #[vU a2.Kind,vI a2.Tx,vS a2.Key,vS a2.End,vS a2.Value,vI a2.Limit,vU a2.Engine]) (Qh (S.blk 1 rfl) ty47 rfl (QI rfl) rfl rfl) rfl ?_)))))))
 obtain ⟨t7,ht8,H⟩:=QX H
 replace S:St w5 M F [_,_,_,_,_,_,_]:=S.pick [2,3,4,5,6,0,1] (by decide)
 refine Z2 fn48 (Z7.con k M A0_8 c0_8 A0_9 c0_9 A0_10 c0_10 A0_11 c0_11 vs0_11 a0 a1 a2 bo0 t7 hm0_11 ht8) (Γ1:=[_,_,_,_,_]) (Γ2:=[_,_]) S rfl rfl (by rintro _ _ _ ⟨rfl,rfl⟩; exact (QS ZQ (QS ZS (QS ZS (QS (Yb (fun _ _ _ _ h=>h)) (QS ZS Qd)))))) ?_
 rintro _ w9 _ Γ' E' S ⟨rfl,rfl⟩
 replace E:=E.trans E'
 replace S:St w9 M F [_,_,_,_,_,_,_]:=S
 refine W_v (vI t7) (QD rfl) rfl (QB (tn (QE (QA (W_v (vI t7) (QC rfl) rfl (W_v (.bool (t7 != (0:Int))) (QT rfl rfl rfl rfl) rfl (QB (tn ?_))))))))
 rcases Zh H with ⟨hb12,H⟩ | ⟨hb12,H⟩
 ·refine QL (congrArg Value.bool hb12) ?_
  refine QE (QA (W_v (vI t7) (QC rfl) rfl (W_v (.agg #[vI t7,.bool false,vS ([]:Str),.slice none 0 0]) (ZN (pl:=[(0,1),(1,1),(2,1),(3,1)]) #[vI t7,.bool false,vS ([]:Str),.slice none 0 0] Tryd.underlying34 ty34 (by as_aux_lemma=>kernel_rfl) rfl (by as_aux_lemma=>kernel_rfl)) rfl ?_)))
  refine Q5 S 5 rfl ty34 rfl rfl [vI t7,.bool false,vS ([]:Str),.slice none 0 0] rfl rfl rfl #[vI t7,.bool false,vS ([]:Str),.slice none 0 0] rfl rfl ?_
  intro w13 E' S
  replace E:=E.trans E'
  refine QB (tn ?_)
  refine QY ?_
  refine tr (?_)
  obtain rfl:=Option.some.inj H
  replace S:=S.row_nil Qr 72
  exact ⟨_,_,_,fun w1 e1=>QO (vs:=[.agg #[vI t7,.bool false,vS ([]:Str),.slice none ([]:List Qu).length 0]]) (FA.cons (⟨_,rfl,Qv ty34 ((S.of_eq e1).blk 6 rfl) (QI rfl) rfl (by decide)⟩) (FA.nil)),HM,E,S.pick [0,1,2,3,4,5] (by decide),⟨none,0,A0_8,c0_8,A0_9,c0_9,A0_10,c0_10,A0_11,c0_11,vs0_11,rfl,hm0_11,rfl⟩⟩
 refine QJ (congrArg Value.bool hb12) (Qg (tn ?_))
 as_aux_lemma =>
 refine QE (QA (W_v (pt bo0 0) (QC rfl) rfl (W_v (vI a1) (QC rfl) rfl (W_v (pt b1 1) (QF (o:=0) (off:=1) Tryd.underlying47 rfl ty3 rfl rfl) rfl (W_v (vI a2.Tx) (QR (S.blk 6 rfl) ty3 rfl rfl) rfl ?_)))))
 obtain ⟨t15,ht16,H⟩:=QX H
 refine Z2 fn49 (YB.con k M A0_8 c0_8 A0_9 c0_9 A0_10 c0_10 A0_11 c0_11 vs0_11 a0 a1 a2.Tx bo0 t15 hm0_11 ht16) (Γ1:=[_,_,_,_,_]) (Γ2:=[_,_]) S rfl rfl (by rintro _ _ _ ⟨rfl,rfl⟩; exact (QS ZQ (QS ZS (QS ZS (QS (Yb (fun _ _ _ _ h=>h)) (QS ZS Qd)))))) ?_
 rintro _ w17 _ Γ' E' S ⟨rfl,rfl⟩
 replace E:=E.trans E'
 replace S:St w17 M F [_,_,_,_,_,_,_]:=S
 refine W_v (.tuple #[vI t15.1,vU t15.2.1,vI t15.2.2]) (QC rfl) rfl (W_v (vI t15.1) (QQ rfl rfl) rfl (W_v (vU t15.2.1) (QQ rfl rfl) rfl (W_v (vI t15.2.2) (QQ rfl rfl) rfl (W_v (vI t15.1) (QD rfl) rfl (W_v (vU t15.2.1) (QD rfl) rfl (W_v (vI t15.2.2) (QD rfl) rfl (QB (tn (QE ?_)))))))))
 have LE198:=Hp.le_refl M
 refine Ql (S:=fun w'=>∃ Mx,M.le Mx ∧ St w' Mx F [Blk b4 (.cells cz13 34 (0,0)),B47 b1 a2]) (L:=9) mixed ?_
 intro w199 hw200 E'
 replace S:=S.heap hw200
 replace E:=E.trans E'
 have D1:∃ Mx,Hp.le M Mx ∧ St _ Mx F [_,_]:=⟨_,Hp.le_refl _,S.pick [5,6] (by decide)⟩
 refine Wt 0 rfl rfl rfl (pt b1 0) rfl (fun w' h'=>QF (o:=0) (off:=0) Tryd.underlying47 rfl ty5 rfl rfl) D1 (Wt 1 rfl rfl rfl (vU a2.Kind) rfl (fun w' h'=>QR (Qj h' 1 rfl) ty5 rfl rfl) D1 ?_)
 obtain ⟨⟨p201,p202⟩,H⟩:=Zt H
 refine Wt 2 rfl rfl rfl (.pointer (some ⟨0,0 + a2.Kind.toNat * 1,none⟩)) rfl (fun w' h'=>UK Tryd.underlying102 ty101 rfl rfl p201 p202) D1 ?_
 obtain ⟨gtfr203,fr203,hgx204⟩:=hg0
 have hg0:∃ gt fr,_:=⟨gtfr203,fr203,hgx204⟩
 rcases Zh H with ⟨hb205,H⟩ | ⟨hb205,H⟩
 ·skip
  refine Wt 3 rfl rfl rfl (.func (.func 122) #[] #[]) rfl (fun w' h'=>QR (Y5 h' hgx204) ty101 rfl (by rw [show a2.Kind = (1:Int) from eq_of_beq hb205]; rfl)) D1 (Wt 4 rfl rfl rfl (pt bo0 0) rfl (fun w' h'=>QC rfl) D1 (Wt 5 rfl rfl rfl (vI t15.1) rfl (fun w' h'=>QC rfl) D1 (Wt 6 rfl rfl rfl (vI a1) rfl (fun w' h'=>QC rfl) D1 (Wt 7 rfl rfl rfl (.agg #[vU a2.Kind,vI a2.Tx,vS a2.Key,vS a2.End,vS a2.Value,vI a2.Limit,vU a2.Engine]) rfl (fun w' h'=>Qh (Qj h' 1 rfl) ty47 rfl (QI rfl) rfl rfl) D1 ?_))))
  refine Wo 8 rfl ?_
  obtain ⟨t206,ht207,H⟩:=QX H
  refine X7 (fs:=[]) (cap:=[]) fn122 rfl (YL.con k M A0_8 c0_8 A0_9 c0_9 A0_10 c0_10 A0_11 c0_11 vs0_11 a0 t15.1 a1 a2 bo0 t206 hm0_11 ht207) (Γ1:=[_,_,_,_,_]) (Γ2:=[_,_]) S rfl rfl ?_
  rintro _ w225 M226 Γ' hM227 E' S ⟨A208,c209,A211,c212,A214,c215,A217,c218,A220,c221,vs223,rfl,hm224,rfl⟩
  replace HM:=Hp.le_trans HM hM227
  replace LE198:=Hp.le_trans LE198 hM227
  replace E:=E.trans E'
  replace S:St w225 M226 F [_,_,_,_,_,_,_,_]:=S
  refine QB (YC ⟨.inr ⟨M226,LE198,(S.pick [6,7] (by decide))⟩,?_⟩)
  refine Wo 9 rfl ?_
  refine Q5 S 6 rfl ty34 rfl rfl [vI t206.1.Err,.bool t206.1.Found,vS t206.1.Value,.slice A208 t206.1.Pairs.length c209] rfl rfl rfl #[vI t206.1.Err,.bool t206.1.Found,vS t206.1.Value,.slice A208 t206.1.Pairs.length c209] rfl rfl ?_
  intro w228 E' S
  replace E:=E.trans E'
  refine QB (YC ⟨.inl (by decide),?_⟩)
  refine Wz ?_
  refine tn ?_
  refine QY ?_
  obtain rfl:=Option.some.inj H
  exact ⟨_,_,_,fun w1 e1=>QO (vs:=[.agg #[vI t206.1.Err,.bool t206.1.Found,vS t206.1.Value,.slice A208 t206.1.Pairs.length c209]]) (FA.cons (⟨_,rfl,Qv ty34 ((S.of_eq e1).blk 6 rfl) (QI rfl) rfl (by decide)⟩) (FA.nil)),HM,E,S.pick [0,1,2,3,4,5] (by decide),⟨A208,c209,A211,c212,A214,c215,A217,c218,A220,c221,vs223,rfl,hm224,rfl⟩⟩
 rcases Zh H with ⟨hb229,H⟩ | ⟨hb229,H⟩
 ·skip
  have D2:∃ Mx,Hp.le M Mx ∧ St _ Mx F [_,_]:=⟨_,Hp.le_refl _,S.pick [5,6] (by decide)⟩
  refine Wt 3 rfl rfl rfl (.func (.func 123) #[] #[]) rfl (fun w' h'=>QR (Y5 h' hgx204) ty101 rfl (by rw [show a2.Kind = (2:Int) from eq_of_beq hb229]; rfl)) D2 (Wt 4 rfl rfl rfl (pt bo0 0) rfl (fun w' h'=>QC rfl) D2 (Wt 5 rfl rfl rfl (vI t15.1) rfl (fun w' h'=>QC rfl) D2 (Wt 6 rfl rfl rfl (vI a1) rfl (fun w' h'=>QC rfl) D2 (Wt 7 rfl rfl rfl (.agg #[vU a2.Kind,vI a2.Tx,vS a2.Key,vS a2.End,vS a2.Value,vI a2.Limit,vU a2.Engine]) rfl (fun w' h'=>Qh (Qj h' 1 rfl) ty47 rfl (QI rfl) rfl rfl) D2 ?_))))
  refine Wo 8 rfl ?_
  obtain ⟨t230,ht231,H⟩:=QX H
  refine Xl (fs:=[]) (cap:=[]) fn123 rfl (Yf.con k M A0_8 c0_8 A0_9 c0_9 A0_10 c0_10 A0_11 c0_11 vs0_11 a0 t15.1 a1 a2 bo0 t230 hm0_11 ht231) (Γ1:=[_,_,_,_,_]) (Γ2:=[_,_]) S rfl rfl (by rintro _ _ _ ⟨_,_,rfl,rfl⟩; exact (QS (Yb (fun _ _ _ _ h=>h)) (QS ZQ (QS ZS (QS ZS (QS (Yb (fun _ _ _ _ h=>h)) (QS ZS Qd))))))) ?_
  rintro _ w235 _ Γ' E' S ⟨A232,c233,rfl,rfl⟩
  replace E:=E.trans E'
  replace S:St w235 M F [_,_,_,_,_,_,_,_]:=S
  refine QB (YC ⟨.inr ⟨M,Hp.le_refl M,(S.pick [6,7] (by decide))⟩,?_⟩)
  refine Wo 9 rfl ?_
  refine Q5 S 6 rfl ty34 rfl rfl [vI t230.Err,.bool t230.Found,vS t230.Value,.slice A232 t230.Pairs.length c233] rfl rfl rfl #[vI t230.Err,.bool t230.Found,vS t230.Value,.slice A232 t230.Pairs.length c233] rfl rfl ?_
  intro w238 E' S
  replace E:=E.trans E'
  refine QB (YC ⟨.inl (by decide),?_⟩)
  refine Wz ?_
  refine tn ?_
  refine QY ?_
  obtain rfl:=Option.some.inj H
  exact ⟨_,_,_,fun w1 e1=>QO (vs:=[.agg #[vI t230.Err,.bool t230.Found,vS t230.Value,.slice A232 t230.Pairs.length c233]]) (FA.cons (⟨_,rfl,Qv ty34 ((S.of_eq e1).blk 6 rfl) (QI rfl) rfl (by decide)⟩) (FA.nil)),HM,E,S.pick [0,1,2,3,4,5] (by decide),⟨A232,c233,A0_8,c0_8,A0_9,c0_9,A0_10,c0_10,A0_11,c0_11,vs0_11,rfl,hm0_11,rfl⟩⟩
 rcases Zh H with ⟨hb239,H⟩ | ⟨hb239,H⟩
 ·skip
  have D3:∃ Mx,Hp.le M Mx ∧ St _ Mx F [_,_]:=⟨_,Hp.le_refl _,S.pick [5,6] (by decide)⟩
  refine Wt 3 rfl rfl rfl (.func (.func 124) #[] #[]) rfl (fun w' h'=>QR (Y5 h' hgx204) ty101 rfl (by rw [show a2.Kind = (3:Int) from eq_of_beq hb239]; rfl)) D3 (Wt 4 rfl rfl rfl (pt bo0 0) rfl (fun w' h'=>QC rfl) D3 (Wt 5 rfl rfl rfl (vI t15.1) rfl (fun w' h'=>QC rfl) D3 (Wt 6 rfl rfl rfl (vI a1) rfl (fun w' h'=>QC rfl) D3 (Wt 7 rfl rfl rfl (.agg #[vU a2.Kind,vI a2.Tx,vS a2.Key,vS a2.End,vS a2.Value,vI a2.Limit,vU a2.Engine]) rfl (fun w' h'=>Qh (Qj h' 1 rfl) ty47 rfl (QI rfl) rfl rfl) D3 ?_))))
  refine Wo 8 rfl ?_
  obtain ⟨t240,ht241,H⟩:=QX H
  refine X7 (fs:=[]) (cap:=[]) fn124 rfl (Ye.con k M A0_8 c0_8 A0_9 c0_9 A0_10 c0_10 A0_11 c0_11 vs0_11 a0 t15.1 a1 a2 bo0 t240 hm0_11 ht241) (Γ1:=[_,_,_,_,_]) (Γ2:=[_,_]) S rfl rfl ?_
  rintro _ w259 M260 Γ' hM261 E' S ⟨A242,c243,A245,c246,A248,c249,A251,c252,A254,c255,vs257,rfl,hm258,rfl⟩
  replace HM:=Hp.le_trans HM hM261
  replace LE198:=Hp.le_trans LE198 hM261
  replace E:=E.trans E'
  replace S:St w259 M260 F [_,_,_,_,_,_,_,_]:=S
  refine QB (YC ⟨.inr ⟨M260,LE198,(S.pick [6,7] (by decide))⟩,?_⟩)
  refine Wo 9 rfl ?_
  refine Q5 S 6 rfl ty34 rfl rfl [vI t240.1.Err,.bool t240.1.Found,vS t240.1.Value,.slice A242 t240.1.Pairs.length c243] rfl rfl rfl #[vI t240.1.Err,.bool t240.1.Found,vS t240.1.Value,.slice A242 t240.1.Pairs.length c243] rfl rfl ?_
  intro w262 E' S
  replace E:=E.trans E'
  refine QB (YC ⟨.inl (by decide),?_⟩)
  refine Wz ?_
  refine tn ?_
  refine QY ?_
  obtain rfl:=Option.some.inj H
  exact ⟨_,_,_,fun w1 e1=>QO (vs:=[.agg #[vI t240.1.Err,.bool t240.1.Found,vS t240.1.Value,.slice A242 t240.1.Pairs.length c243]]) (FA.cons (⟨_,rfl,Qv ty34 ((S.of_eq e1).blk 6 rfl) (QI rfl) rfl (by decide)⟩) (FA.nil)),HM,E,S.pick [0,1,2,3,4,5] (by decide),⟨A242,c243,A245,c246,A248,c249,A251,c252,A254,c255,vs257,rfl,hm258,rfl⟩⟩
 rcases Zh H with ⟨hb263,H⟩ | ⟨hb263,H⟩
 ·skip
  have D4:∃ Mx,Hp.le M Mx ∧ St _ Mx F [_,_]:=⟨_,Hp.le_refl _,S.pick [5,6] (by decide)⟩
  refine Wt 3 rfl rfl rfl (.func (.func 125) #[] #[]) rfl (fun w' h'=>QR (Y5 h' hgx204) ty101 rfl (by rw [show a2.Kind = (4:Int) from eq_of_beq hb263]; rfl)) D4 (Wt 4 rfl rfl rfl (pt bo0 0) rfl (fun w' h'=>QC rfl) D4 (Wt 5 rfl rfl rfl (vI t15.1) rfl (fun w' h'=>QC rfl) D4 (Wt 6 rfl rfl rfl (vI a1) rfl (fun w' h'=>QC rfl) D4 (Wt 7 rfl rfl rfl (.agg #[vU a2.Kind,vI a2.Tx,vS a2.Key,vS a2.End,vS a2.Value,vI a2.Limit,vU a2.Engine]) rfl (fun w' h'=>Qh (Qj h' 1 rfl) ty47 rfl (QI rfl) rfl rfl) D4 ?_))))
  refine Wo 8 rfl ?_
  obtain ⟨t264,ht265,H⟩:=QX H
  refine X7 (fs:=[]) (cap:=[]) fn125 rfl (Yg.con k M A0_8 c0_8 A0_9 c0_9 A0_10 c0_10 A0_11 c0_11 vs0_11 a0 t15.1 a1 a2 bo0 t264 hm0_11 ht265) (Γ1:=[_,_,_,_,_]) (Γ2:=[_,_]) S rfl rfl ?_
  rintro _ w283 M284 Γ' hM285 E' S ⟨A266,c267,A269,c270,A272,c273,A275,c276,A278,c279,vs281,rfl,hm282,rfl⟩
  replace HM:=Hp.le_trans HM hM285
  replace LE198:=Hp.le_trans LE198 hM285
  replace E:=E.trans E'
  replace S:St w283 M284 F [_,_,_,_,_,_,_,_]:=S
  refine QB (YC ⟨.inr ⟨M284,LE198,(S.pick [6,7] (by decide))⟩,?_⟩)
  refine Wo 9 rfl ?_
  refine Q5 S 6 rfl ty34 rfl rfl [vI t264.1.Err,.bool t264.1.Found,vS t264.1.Value,.slice A266 t264.1.Pairs.length c267] rfl rfl rfl #[vI t264.1.Err,.bool t264.1.Found,vS t264.1.Value,.slice A266 t264.1.Pairs.length c267] rfl rfl ?_
  intro w286 E' S
  replace E:=E.trans E'
  refine QB (YC ⟨.inl (by decide),?_⟩)
  refine Wz ?_
  refine tn ?_
  refine QY ?_
  obtain rfl:=Option.some.inj H
  exact ⟨_,_,_,fun w1 e1=>QO (vs:=[.agg #[vI t264.1.Err,.bool t264.1.Found,vS t264.1.Value,.slice A266 t264.1.Pairs.length c267]]) (FA.cons (⟨_,rfl,Qv ty34 ((S.of_eq e1).blk 6 rfl) (QI rfl) rfl (by decide)⟩) (FA.nil)),HM,E,S.pick [0,1,2,3,4,5] (by decide),⟨A266,c267,A269,c270,A272,c273,A275,c276,A278,c279,vs281,rfl,hm282,rfl⟩⟩
 rcases Zh H with ⟨hb287,H⟩ | ⟨hb287,H⟩
 ·skip
  have D5:∃ Mx,Hp.le M Mx ∧ St _ Mx F [_,_]:=⟨_,Hp.le_refl _,S.pick [5,6] (by decide)⟩
  refine Wt 3 rfl rfl rfl (.func (.func 126) #[] #[]) rfl (fun w' h'=>QR (Y5 h' hgx204) ty101 rfl (by rw [show a2.Kind = (5:Int) from eq_of_beq hb287]; rfl)) D5 (Wt 4 rfl rfl rfl (pt bo0 0) rfl (fun w' h'=>QC rfl) D5 (Wt 5 rfl rfl rfl (vI t15.1) rfl (fun w' h'=>QC rfl) D5 (Wt 6 rfl rfl rfl (vI a1) rfl (fun w' h'=>QC rfl) D5 (Wt 7 rfl rfl rfl (.agg #[vU a2.Kind,vI a2.Tx,vS a2.Key,vS a2.End,vS a2.Value,vI a2.Limit,vU a2.Engine]) rfl (fun w' h'=>Qh (Qj h' 1 rfl) ty47 rfl (QI rfl) rfl rfl) D5 ?_))))
  refine Wo 8 rfl ?_
  obtain ⟨t288,ht289,H⟩:=QX H
  refine Xl (fs:=[]) (cap:=[]) fn126 rfl (YR.con k M A0_8 c0_8 A0_9 c0_9 A0_10 c0_10 A0_11 c0_11 vs0_11 a0 t15.1 a1 a2 bo0 t288 hm0_11 ht289) (Γ1:=[_,_,_,_,_]) (Γ2:=[_,_]) S rfl rfl (by rintro _ _ _ ⟨_,_,rfl,rfl⟩; exact (QS (Yb (fun _ _ _ _ h=>h)) (QS ZQ (QS ZS (QS ZS (QS (Yb (fun _ _ _ _ h=>h)) (QS ZS Qd))))))) ?_
  rintro _ w293 _ Γ' E' S ⟨A290,c291,rfl,rfl⟩
  replace E:=E.trans E'
  replace S:St w293 M F [_,_,_,_,_,_,_,_]:=S
  refine QB (YC ⟨.inr ⟨M,Hp.le_refl M,(S.pick [6,7] (by decide))⟩,?_⟩)
  refine Wo 9 rfl ?_
  refine Q5 S 6 rfl ty34 rfl rfl [vI t288.Err,.bool t288.Found,vS t288.Value,.slice A290 t288.Pairs.length c291] rfl rfl rfl #[vI t288.Err,.bool t288.Found,vS t288.Value,.slice A290 t288.Pairs.length c291] rfl rfl ?_
  intro w296 E' S
  replace E:=E.trans E'
  refine QB (YC ⟨.inl (by decide),?_⟩)
  refine Wz ?_
  refine tn ?_
  refine QY ?_
  obtain rfl:=Option.some.inj H
  exact ⟨_,_,_,fun w1 e1=>QO (vs:=[.agg #[vI t288.Err,.bool t288.Found,vS t288.Value,.slice A290 t288.Pairs.length c291]]) (FA.cons (⟨_,rfl,Qv ty34 ((S.of_eq e1).blk 6 rfl) (QI rfl) rfl (by decide)⟩) (FA.nil)),HM,E,S.pick [0,1,2,3,4,5] (by decide),⟨A290,c291,A0_8,c0_8,A0_9,c0_9,A0_10,c0_10,A0_11,c0_11,vs0_11,rfl,hm0_11,rfl⟩⟩
 rcases Zh H with ⟨hb297,H⟩ | ⟨hb297,H⟩
 ·skip
  have D6:∃ Mx,Hp.le M Mx ∧ St _ Mx F [_,_]:=⟨_,Hp.le_refl _,S.pick [5,6] (by decide)⟩
  refine Wt 3 rfl rfl rfl (.func (.func 127) #[] #[]) rfl (fun w' h'=>QR (Y5 h' hgx204) ty101 rfl (by rw [show a2.Kind = (6:Int) from eq_of_beq hb297]; rfl)) D6 (Wt 4 rfl rfl rfl (pt bo0 0) rfl (fun w' h'=>QC rfl) D6 (Wt 5 rfl rfl rfl (vI t15.1) rfl (fun w' h'=>QC rfl) D6 (Wt 6 rfl rfl rfl (vI a1) rfl (fun w' h'=>QC rfl) D6 (Wt 7 rfl rfl rfl (.agg #[vU a2.Kind,vI a2.Tx,vS a2.Key,vS a2.End,vS a2.Value,vI a2.Limit,vU a2.Engine]) rfl (fun w' h'=>Qh (Qj h' 1 rfl) ty47 rfl (QI rfl) rfl rfl) D6 ?_))))
  refine Wo 8 rfl ?_
  obtain ⟨t298,ht299,H⟩:=QX H
  refine X7 (fs:=[]) (cap:=[]) fn127 rfl (YG.con k M A0_8 c0_8 A0_9 c0_9 A0_10 c0_10 A0_11 c0_11 vs0_11 a0 t15.1 a1 a2 bo0 t298 hm0_11 ht299) (Γ1:=[_,_,_,_,_]) (Γ2:=[_,_]) S rfl rfl ?_
  rintro _ w317 M318 Γ' hM319 E' S ⟨A300,c301,A303,c304,A306,c307,A309,c310,A312,c313,vs315,rfl,hm316,rfl⟩
  replace HM:=Hp.le_trans HM hM319
  replace LE198:=Hp.le_trans LE198 hM319
  replace E:=E.trans E'
  replace S:St w317 M318 F [_,_,_,_,_,_,_,_]:=S
  refine QB (YC ⟨.inr ⟨M318,LE198,(S.pick [6,7] (by decide))⟩,?_⟩)
  refine Wo 9 rfl ?_
  refine Q5 S 6 rfl ty34 rfl rfl [vI t298.1.Err,.bool t298.1.Found,vS t298.1.Value,.slice A300 t298.1.Pairs.length c301] rfl rfl rfl #[vI t298.1.Err,.bool t298.1.Found,vS t298.1.Value,.slice A300 t298.1.Pairs.length c301] rfl rfl ?_
  intro w320 E' S
  replace E:=E.trans E'
  refine QB (YC ⟨.inl (by decide),?_⟩)
  refine Wz ?_
  refine tn ?_
  refine QY ?_
  obtain rfl:=Option.some.inj H
  exact ⟨_,_,_,fun w1 e1=>QO (vs:=[.agg #[vI t298.1.Err,.bool t298.1.Found,vS t298.1.Value,.slice A300 t298.1.Pairs.length c301]]) (FA.cons (⟨_,rfl,Qv ty34 ((S.of_eq e1).blk 6 rfl) (QI rfl) rfl (by decide)⟩) (FA.nil)),HM,E,S.pick [0,1,2,3,4,5] (by decide),⟨A300,c301,A303,c304,A306,c307,A309,c310,A312,c313,vs315,rfl,hm316,rfl⟩⟩
 rcases Zh H with ⟨hb321,H⟩ | ⟨hb321,H⟩
 ·skip
  have D7:∃ Mx,Hp.le M Mx ∧ St _ Mx F [_,_]:=⟨_,Hp.le_refl _,S.pick [5,6] (by decide)⟩
  refine Wt 3 rfl rfl rfl (.func (.func 128) #[] #[]) rfl (fun w' h'=>QR (Y5 h' hgx204) ty101 rfl (by rw [show a2.Kind = (7:Int) from eq_of_beq hb321]; rfl)) D7 (Wt 4 rfl rfl rfl (pt bo0 0) rfl (fun w' h'=>QC rfl) D7 (Wt 5 rfl rfl rfl (vI t15.1) rfl (fun w' h'=>QC rfl) D7 (Wt 6 rfl rfl rfl (vI a1) rfl (fun w' h'=>QC rfl) D7 (Wt 7 rfl rfl rfl (.agg #[vU a2.Kind,vI a2.Tx,vS a2.Key,vS a2.End,vS a2.Value,vI a2.Limit,vU a2.Engine]) rfl (fun w' h'=>Qh (Qj h' 1 rfl) ty47 rfl (QI rfl) rfl rfl) D7 ?_))))
  refine Wo 8 rfl ?_
  obtain ⟨t322,ht323,H⟩:=QX H
  refine X7 (fs:=[]) (cap:=[]) fn128 rfl (YM.con k M A0_8 c0_8 A0_9 c0_9 A0_10 c0_10 A0_11 c0_11 vs0_11 a0 t15.1 a1 a2 bo0 t322 hm0_11 ht323) (Γ1:=[_,_,_,_,_]) (Γ2:=[_,_]) S rfl rfl ?_
  rintro _ w341 M342 Γ' hM343 E' S ⟨A324,c325,A327,c328,A330,c331,A333,c334,A336,c337,vs339,rfl,hm340,rfl⟩
  replace HM:=Hp.le_trans HM hM343
  replace LE198:=Hp.le_trans LE198 hM343
  replace E:=E.trans E'
  replace S:St w341 M342 F [_,_,_,_,_,_,_,_]:=S
  refine QB (YC ⟨.inr ⟨M342,LE198,(S.pick [6,7] (by decide))⟩,?_⟩)
  refine Wo 9 rfl ?_
  refine Q5 S 6 rfl ty34 rfl rfl [vI t322.1.Err,.bool t322.1.Found,vS t322.1.Value,.slice A324 t322.1.Pairs.length c325] rfl rfl rfl #[vI t322.1.Err,.bool t322.1.Found,vS t322.1.Value,.slice A324 t322.1.Pairs.length c325] rfl rfl ?_
  intro w344 E' S
  replace E:=E.trans E'
  refine QB (YC ⟨.inl (by decide),?_⟩)
  refine Wz ?_
  refine tn ?_
  refine QY ?_
  obtain rfl:=Option.some.inj H
  exact ⟨_,_,_,fun w1 e1=>QO (vs:=[.agg #[vI t322.1.Err,.bool t322.1.Found,vS t322.1.Value,.slice A324 t322.1.Pairs.length c325]]) (FA.cons (⟨_,rfl,Qv ty34 ((S.of_eq e1).blk 6 rfl) (QI rfl) rfl (by decide)⟩) (FA.nil)),HM,E,S.pick [0,1,2,3,4,5] (by decide),⟨A324,c325,A327,c328,A330,c331,A333,c334,A336,c337,vs339,rfl,hm340,rfl⟩⟩
 rcases Zh H with ⟨hb345,H⟩ | ⟨hb345,H⟩
 ·skip
  have D8:∃ Mx,Hp.le M Mx ∧ St _ Mx F [_,_]:=⟨_,Hp.le_refl _,S.pick [5,6] (by decide)⟩
  refine Wt 3 rfl rfl rfl (.func (.func 129) #[] #[]) rfl (fun w' h'=>QR (Y5 h' hgx204) ty101 rfl (by rw [show a2.Kind = (8:Int) from eq_of_beq hb345]; rfl)) D8 (Wt 4 rfl rfl rfl (pt bo0 0) rfl (fun w' h'=>QC rfl) D8 (Wt 5 rfl rfl rfl (vI t15.1) rfl (fun w' h'=>QC rfl) D8 (Wt 6 rfl rfl rfl (vI a1) rfl (fun w' h'=>QC rfl) D8 (Wt 7 rfl rfl rfl (.agg #[vU a2.Kind,vI a2.Tx,vS a2.Key,vS a2.End,vS a2.Value,vI a2.Limit,vU a2.Engine]) rfl (fun w' h'=>Qh (Qj h' 1 rfl) ty47 rfl (QI rfl) rfl rfl) D8 ?_))))
  refine Wo 8 rfl ?_
  obtain ⟨t346,ht347,H⟩:=QX H
  refine X7 (fs:=[]) (cap:=[]) fn129 rfl (YF.con k M A0_8 c0_8 A0_9 c0_9 A0_10 c0_10 A0_11 c0_11 vs0_11 a0 t15.1 a1 a2 bo0 t346 hm0_11 ht347) (Γ1:=[_,_,_,_,_]) (Γ2:=[_,_]) S rfl rfl ?_
  rintro _ w365 M366 Γ' hM367 E' S ⟨A348,c349,A351,c352,A354,c355,A357,c358,A360,c361,vs363,rfl,hm364,rfl⟩
  replace HM:=Hp.le_trans HM hM367
  replace LE198:=Hp.le_trans LE198 hM367
  replace E:=E.trans E'
  replace S:St w365 M366 F [_,_,_,_,_,_,_,_]:=S
  refine QB (YC ⟨.inr ⟨M366,LE198,(S.pick [6,7] (by decide))⟩,?_⟩)
  refine Wo 9 rfl ?_
  refine Q5 S 6 rfl ty34 rfl rfl [vI t346.1.Err,.bool t346.1.Found,vS t346.1.Value,.slice A348 t346.1.Pairs.length c349] rfl rfl rfl #[vI t346.1.Err,.bool t346.1.Found,vS t346.1.Value,.slice A348 t346.1.Pairs.length c349] rfl rfl ?_
  intro w368 E' S
  replace E:=E.trans E'
  refine QB (YC ⟨.inl (by decide),?_⟩)
  refine Wz ?_
  refine tn ?_
  refine QY ?_
  obtain rfl:=Option.some.inj H
  exact ⟨_,_,_,fun w1 e1=>QO (vs:=[.agg #[vI t346.1.Err,.bool t346.1.Found,vS t346.1.Value,.slice A348 t346.1.Pairs.length c349]]) (FA.cons (⟨_,rfl,Qv ty34 ((S.of_eq e1).blk 6 rfl) (QI rfl) rfl (by decide)⟩) (FA.nil)),HM,E,S.pick [0,1,2,3,4,5] (by decide),⟨A348,c349,A351,c352,A354,c355,A357,c358,A360,c361,vs363,rfl,hm364,rfl⟩⟩
 rcases Zh H with ⟨hb369,H⟩ | ⟨hb369,H⟩
 ·skip
  have D9:∃ Mx,Hp.le M Mx ∧ St _ Mx F [_,_]:=⟨_,Hp.le_refl _,S.pick [5,6] (by decide)⟩
  refine Wt 3 rfl rfl rfl (.func (.func 130) #[] #[]) rfl (fun w' h'=>QR (Y5 h' hgx204) ty101 rfl (by rw [show a2.Kind = (9:Int) from eq_of_beq hb369]; rfl)) D9 (Wt 4 rfl rfl rfl (pt bo0 0) rfl (fun w' h'=>QC rfl) D9 (Wt 5 rfl rfl rfl (vI t15.1) rfl (fun w' h'=>QC rfl) D9 (Wt 6 rfl rfl rfl (vI a1) rfl (fun w' h'=>QC rfl) D9 (Wt 7 rfl rfl rfl (.agg #[vU a2.Kind,vI a2.Tx,vS a2.Key,vS a2.End,vS a2.Value,vI a2.Limit,vU a2.Engine]) rfl (fun w' h'=>Qh (Qj h' 1 rfl) ty47 rfl (QI rfl) rfl rfl) D9 ?_))))
  refine Wo 8 rfl ?_
  obtain ⟨t370,ht371,H⟩:=QX H
  refine Xl (fs:=[]) (cap:=[]) fn130 rfl (Z6.con k M A0_8 c0_8 A0_9 c0_9 A0_10 c0_10 A0_11 c0_11 vs0_11 a0 t15.1 a1 a2 bo0 t370 hm0_11 ht371) (Γ1:=[_,_,_,_,_]) (Γ2:=[_,_]) S rfl rfl (by rintro _ _ _ ⟨_,_,rfl,rfl⟩; exact (QS (Yb (fun _ _ _ _ h=>h)) (QS ZQ (QS ZS (QS ZS (QS (Yb (fun _ _ _ _ h=>h)) (QS ZS Qd))))))) ?_
  rintro _ w375 _ Γ' E' S ⟨A372,c373,rfl,rfl⟩
  replace E:=E.trans E'
  replace S:St w375 M F [_,_,_,_,_,_,_,_]:=S
  refine QB (YC ⟨.inr ⟨M,Hp.le_refl M,(S.pick [6,7] (by decide))⟩,?_⟩)
  refine Wo 9 rfl ?_
  refine Q5 S 6 rfl ty34 rfl rfl [vI t370.Err,.bool t370.Found,vS t370.Value,.slice A372 t370.Pairs.length c373] rfl rfl rfl #[vI t370.Err,.bool t370.Found,vS t370.Value,.slice A372 t370.Pairs.length c373] rfl rfl ?_
  intro w378 E' S
  replace E:=E.trans E'
  refine QB (YC ⟨.inl (by decide),?_⟩)
  refine Wz ?_
  refine tn ?_
  refine QY ?_
  obtain rfl:=Option.some.inj H
  exact ⟨_,_,_,fun w1 e1=>QO (vs:=[.agg #[vI t370.Err,.bool t370.Found,vS t370.Value,.slice A372 t370.Pairs.length c373]]) (FA.cons (⟨_,rfl,Qv ty34 ((S.of_eq e1).blk 6 rfl) (QI rfl) rfl (by decide)⟩) (FA.nil)),HM,E,S.pick [0,1,2,3,4,5] (by decide),⟨A372,c373,A0_8,c0_8,A0_9,c0_9,A0_10,c0_10,A0_11,c0_11,vs0_11,rfl,hm0_11,rfl⟩⟩
 cases H
def ZA (k:Nat) (a0:ZX) (a1:Int) (a2:QG):Option (Int × ZX) :=
 (Option.bind (Zm k a0 a2) (fun t4=>(Option.bind (α:=Bool) (if (((!t4.2) || (decide (a2.What < (1:Int)))) || (decide (a2.What > (3:Int)))) = true then some (true) else (Option.bind (α:=Bool) (if (a2.What != (3:Int)) = true then (Option.bind (Y4 k a2.Answer cz7) (fun t53=>some ((!t53)))) else some (false)) (fun x51=>some (x51)))) (fun x42=>(if x42 = true then some ((4:Int),a0) else (Option.bind (Zs k a0.r a2.Task) (fun t67=>(Option.bind (α:=Bool × List Z3 × List QG) (if ((a2.What != (1:Int)) && ((!t67.2.2) || (t67.1 != a2.Call))) = true then some (true,a0.r.tasks,a0.r.l) else (if 0 ≤ a2.What ∧ a2.What < (4:Int) then (if (a2.What == (1:Int)) = true then (Option.bind (Yr k a0.r a2) (fun t231=>some ((t231.1 != (0:Int)),t231.2.tasks,t231.2.l))) else (if (a2.What == (2:Int)) = true then (Option.bind (Yq k a0.r a2) (fun t243=>some ((t243.1 != (0:Int)),t243.2.tasks,t243.2.l))) else (if (a2.What == (3:Int)) = true then (Option.bind (Yp k a0.r a2) (fun t255=>some ((t255.1 != (0:Int)),t255.2.tasks,t255.2.l))) else none))) else none)) (fun ⟨x216,x217,x221⟩=>(if x216 = true then some ((4:Int),(⟨a0.programs,(⟨x217,x221⟩:Qb),a0.m,a0.done,a0.last⟩:ZX)) else (if (a2.What == (1:Int)) = true then (Option.bind (Zs k (⟨x217,x221⟩:Qb) a2.Task) (fun t279=>(if (t279.1 != a2.Call) = true then some ((4:Int),(⟨a0.programs,(⟨x217,x221⟩:Qb),a0.m,a0.done,a0.last⟩:ZX)) else some ((0:Int),(⟨a0.programs,(⟨x217,x221⟩:Qb),a0.m,a0.done,a0.last⟩:ZX))))) else (if (a2.What == (2:Int)) = true then (if 0 ≤ a2.Task ∧ a2.Task < (a0.last.length:Int) then (Option.bind (α:=List Int) (some (List.set a0.last a2.Task.toNat (a0.done.length:Int))) (fun x304=>(Option.bind (Zb k a0.m a2.Task t4.1) (fun t348=>(if a0.done.length + ([(⟨(a2.Task),(a2.Call),⟨t348.1.Err,t348.1.Found,t348.1.Value,t348.1.Pairs⟩,a1,(-1:Int)⟩:ZL)]:List ZL).length ≤ 1599289640401 then some ((0:Int),(⟨a0.programs,(⟨x217,x221⟩:Qb),t348.2,(a0.done ++ ([(⟨(a2.Task),(a2.Call),⟨t348.1.Err,t348.1.Found,t348.1.Value,t348.1.Pairs⟩,a1,(-1:Int)⟩:ZL)]:List ZL)),x304⟩:ZX)) else none))))) else none) else (if (a2.What == (3:Int)) = true then (if 0 ≤ a2.Task ∧ a2.Task < (a0.last.length:Int) then (if 0 ≤ (rd a0.last a2.Task) ∧ (rd a0.last a2.Task) < (a0.done.length:Int) then (Option.bind (α:=List ZL) (some (List.set a0.done (rd a0.last a2.Task).toNat (⟨(rd a0.done (rd a0.last a2.Task)).Task,(rd a0.done (rd a0.last a2.Task)).Call,⟨(rd a0.done (rd a0.last a2.Task)).Answer.Err,(rd a0.done (rd a0.last a2.Task)).Answer.Found,(rd a0.done (rd a0.last a2.Task)).Answer.Value,(rd a0.done (rd a0.last a2.Task)).Answer.Pairs⟩,(rd a0.done (rd a0.last a2.Task)).Mark,a1⟩:ZL))) (fun x427=>(Option.bind (Y4 k ((rd x427 (rd a0.last a2.Task)).Answer) a2.Answer) (fun t460=>(if (!t460) = true then some ((7:Int),(⟨a0.programs,(⟨x217,x221⟩:Qb),a0.m,x427,a0.last⟩:ZX)) else some ((0:Int),(⟨a0.programs,(⟨x217,x221⟩:Qb),a0.m,x427,a0.last⟩:ZX))))))) else none) else none) else some ((0:Int),(⟨a0.programs,(⟨x217,x221⟩:Qb),a0.m,a0.done,a0.last⟩:ZX)))))))))))))))
theorem ZA.mono {k:Nat} {a0:ZX} {a1:Int} {a2:QG}:OLe (ZA k a0 a1 a2) (ZA (k + 1) a0 a1 a2):=by
 unfold ZA
 have m1:=@Zs.mono
 have m2:=@Zb.mono
 have m3:=@Y4.mono
 have m4:=@Zm.mono
 have m5:=@Yr.mono
 have m6:=@Yq.mono
 have m7:=@Yp.mono
 exact mo
theorem ZA.con (k:Nat) (M:Hp) (A0_0:Option Addr) (c0_0:Nat) (A0_1_0:Option Addr) (c0_1_0:Nat) (A0_1_1:Option Addr) (c0_1_1:Nat) (A0_2_8:Option Addr) (c0_2_8:Nat) (A0_2_9:Option Addr) (c0_2_9:Nat) (A0_2_10:Option Addr) (c0_2_10:Nat) (A0_2_11:Option Addr) (c0_2_11:Nat) (vs0_2_11:List (Str × Value)) (A0_3:Option Addr) (c0_3:Nat) (A0_4:Option Addr) (c0_4:Nat) (a0:ZX) (a1:Int) (A2_0:Option Addr) (c2_0:Nat) (a2:QG) (bo0_1:Nat) (bo0_2:Nat) (bo0:Nat) (r:Int × ZX) (hr0_0:SlR (rSl ZV) M (.slice A0_0 a0.programs.length c0_0) a0.programs) (hm0_2_11:YP Qm M a0.m.rows vs0_2_11) (hr2_0:SlR Qr M (.slice A2_0 a2.Answer.Pairs.length c2_0) a2.Answer.Pairs) (hg0:∃ gt fr,M 0 = some (.cells cz1 gt fr)) (hg1:∃ gt fr,M 1 = some (.cells cz3 gt fr)) (h:ZA k a0 a1 a2 = some r):Con Tryd.prog 53 #[pt bo0 0,vI a1,.agg #[vU a2.What,vI a2.Task,vI a2.Call,vI a2.Answer.Err,.bool a2.Answer.Found,vS a2.Answer.Value,.slice A2_0 a2.Answer.Pairs.length c2_0]] M [B107 bo0 a0 A0_0 c0_0 bo0_1 bo0_2 A0_3 c0_3 A0_4 c0_4,Blk bo0_1 (.cells #[.slice A0_1_0 a0.r.tasks.length c0_1_0,.slice A0_1_1 a0.r.l.length c0_1_1] 144 (0,0)),Row Qx 161 (.slice A0_1_0 a0.r.tasks.length c0_1_0) a0.r.tasks,Row QK 55 (.slice A0_1_1 a0.r.l.length c0_1_1) a0.r.l,B95 bo0_2 a0.m A0_2_8 A0_2_9 A0_2_10 c0_2_10 A0_2_11,QV QH (Value.int .i64) A0_2_8 a0.m.names,QV (Value.int .i64) (Value.int .i64) A0_2_9 a0.m.many,Row QP 122 (.slice A0_2_10 a0.m.txs.length c0_2_10) a0.m.txs,QV encS (fun v:Value=>v) A0_2_11 vs0_2_11,Row Q0 69 (.slice A0_3 a0.done.length c0_3) a0.done,Row (rInt .i64) 3 (.slice A0_4 a0.last.length c0_4) a0.last] (fun v M' Γ'=>∃ (Aq1:Option Addr) (cq2:Nat) (Aq4:Option Addr) (cq5:Nat) (Aq7:Option Addr) (cq8:Nat) (Aq10:Option Addr) (cq11:Nat) (Aq13:Option Addr) (cq14:Nat) (Aq16:Option Addr) (cq17:Nat) (Aq19:Option Addr) (cq20:Nat) (vsq22:List (Str × Value)) (Aq24:Option Addr) (cq25:Nat) (Aq27:Option Addr) (cq28:Nat),v = vI r.1 ∧ SlR (rSl ZV) M' (.slice Aq1 r.2.programs.length cq2) r.2.programs ∧ YP Qm M' r.2.m.rows vsq22 ∧ Γ' = [B107 bo0 r.2 Aq1 cq2 bo0_1 bo0_2 Aq24 cq25 Aq27 cq28,Blk bo0_1 (.cells #[.slice Aq4 r.2.r.tasks.length cq5,.slice Aq7 r.2.r.l.length cq8] 144 (0,0)),Row Qx 161 (.slice Aq4 r.2.r.tasks.length cq5) r.2.r.tasks,Row QK 55 (.slice Aq7 r.2.r.l.length cq8) r.2.r.l,B95 bo0_2 r.2.m Aq10 Aq13 Aq16 cq17 Aq19,QV QH (Value.int .i64) Aq10 r.2.m.names,QV (Value.int .i64) (Value.int .i64) Aq13 r.2.m.many,Row QP 122 (.slice Aq16 r.2.m.txs.length cq17) r.2.m.txs,QV encS (fun v:Value=>v) Aq19 vsq22,Row Q0 69 (.slice Aq24 r.2.done.length cq25) r.2.done,Row (rInt .i64) 3 (.slice Aq27 r.2.last.length cq28) r.2.last]):=by
 refine Qa Tryd.func53 rfl Tryd.ntmps53 Tryd.results53 rfl ?_
 intro w F rn S hrn
 have E:=Ext.refl w
 have HM:=Hp.le_refl M
 have H:=h
 unfold ZA at H
 refine QE (QA ?_)
 refine YO S #[vU a2.What,vI a2.Task,vI a2.Call,vI a2.Answer.Err,.bool a2.Answer.Found,vS a2.Answer.Value,.slice A2_0 a2.Answer.Pairs.length c2_0] rfl rfl rfl ?_
 intro b1 w2 E' S
 replace E:=E.trans E'
 refine W_v (vI 0) (QD rfl) rfl (QB (tn (QE (QA (W_v (pt bo0 0) (QC rfl) rfl (W_v (.agg #[vU a2.What,vI a2.Task,vI a2.Call,vI a2.Answer.Err,.bool a2.Answer.Found,vS a2.Answer.Value,.slice A2_0 a2.Answer.Pairs.length c2_0]) (Qh (S.blk 0 rfl) ty55 rfl (QI rfl) rfl rfl) rfl ?_))))))
 obtain ⟨t4,ht5,H⟩:=QX H
 replace S:St w2 M F [_,_,_,_,_,_,_,_,_,_,_,_]:=S.pick [1,2,3,4,5,6,7,8,9,10,11,0] (by decide)
 refine ZZ fn69 (Zm.con k M A0_0 c0_0 A0_1_0 c0_1_0 A0_1_1 c0_1_1 A0_2_8 c0_2_8 A0_2_9 c0_2_9 A0_2_10 c0_2_10 A0_2_11 c0_2_11 vs0_2_11 A0_3 c0_3 A0_4 c0_4 a0 A2_0 c2_0 a2 bo0_1 bo0_2 bo0 t4 hr0_0 hm0_2_11 hr2_0 ht5) (Γ1:=[_,_,_,_,_,_,_,_,_,_,_]) (Γ2:=[_]) S rfl rfl ?_
 rintro _ w6 M7 Γ' hM8 E' S ⟨rfl,rfl⟩
 replace hg0:=gup hg0 hM8
 replace hg1:=gup hg1 hM8
 replace HM:=Hp.le_trans HM hM8
 replace hr0_0:=SlR.mono hr0_0 hM8
 replace hm0_2_11:=YP.mono hm0_2_11 hM8
 replace hr2_0:=SlR.mono hr2_0 hM8
 replace E:=E.trans E'
 replace S:St w6 M7 F [_,_,_,_,_,_,_,_,_,_,_,_]:=S
 refine W_v (.tuple #[.agg #[vU t4.1.Kind,vI t4.1.Tx,vS t4.1.Key,vS t4.1.End,vS t4.1.Value,vI t4.1.Limit,vU t4.1.Engine],.bool t4.2]) (QC rfl) rfl (W_v (.agg #[vU t4.1.Kind,vI t4.1.Tx,vS t4.1.Key,vS t4.1.End,vS t4.1.Value,vI t4.1.Limit,vU t4.1.Engine]) (QQ rfl rfl) rfl (W_v (.bool t4.2) (QQ rfl rfl) rfl ?_))
 refine Zu S cz4 ty47 rfl rfl ?_
 intro b9 w10 E' S
 replace E:=E.trans E'
 refine Q5 S 0 rfl ty47 rfl rfl [vU t4.1.Kind,vI t4.1.Tx,vS t4.1.Key,vS t4.1.End,vS t4.1.Value,vI t4.1.Limit,vU t4.1.Engine] rfl rfl rfl #[vU t4.1.Kind,vI t4.1.Tx,vS t4.1.Key,vS t4.1.End,vS t4.1.Value,vI t4.1.Limit,vU t4.1.Engine] (by as_aux_lemma=>kernel_rfl) rfl ?_
 intro w12 E' S
 replace E:=E.trans E'
 refine W_v (.bool t4.2) (QD rfl) rfl (QB (tn (QE (QE (QA (W_v (.bool t4.2) (QC rfl) rfl (W_v (.bool (!t4.2)) (Yx (b:=t4.2) rfl) rfl (W_v (.bool (!t4.2)) (QC rfl) rfl ?_))))))))
 refine ZI 4 (fun ρ w'=>Qs ρ [(0,pt bo0 0),(1,vI a1),(5,pt b1 0),(7,pt b9 0),(25,.bool ((!t4.2) || (decide (a2.What < (1:Int)))))] ∧ w12 = w') ?_ ?_
 ·rcases Qw (!t4.2) with hb13 | hb13
  ·skip
   refine QU (congrArg some hb13) (W_v (pt b1 0) (QF (o:=0) (off:=0) Tryd.underlying55 rfl ty5 rfl rfl) rfl (QU (congrArg some hb13) (W_v (vU a2.What) (QR (S.blk 12 rfl) ty5 rfl rfl) rfl (QU (congrArg some hb13) (W_v (.bool (decide (a2.What < (1:Int)))) (QT rfl rfl rfl rfl) rfl (W_v (.bool (decide (a2.What < (1:Int)))) (QZ (k:=false) (congrArg Value.bool hb13) rfl) rfl (QB ?_)))))))
   exact ⟨⟨rfl,rfl,rfl,rfl,(by first | rfl | (rw [hb13]; rfl) | (simp only [hb13]; rfl)),trivial⟩,rfl⟩
  ·skip
   refine Qk (skF hb13) rfl (Qk (skF hb13) rfl (Qk (skF hb13) rfl (W_v (.bool true) (QZ (k:=true) (congrArg Value.bool hb13) rfl) rfl (QB ?_))))
   exact ⟨⟨rfl,rfl,rfl,rfl,(by first | rfl | (rw [hb13]; rfl) | (simp only [hb13]; rfl)),trivial⟩,rfl⟩
 as_aux_lemma =>
 rintro ρ _ ⟨hρ,rfl⟩
 rw [QN hρ]
 refine W_v (.bool ((!t4.2) || (decide (a2.What < (1:Int))))) (QC rfl) rfl ?_
 refine ZI 4 (fun ρ w'=>Qs ρ [(0,pt bo0 0),(1,vI a1),(5,pt b1 0),(7,pt b9 0),(30,.bool (((!t4.2) || (decide (a2.What < (1:Int)))) || (decide (a2.What > (3:Int)))))] ∧ w12 = w') ?_ ?_
 ·rcases Qw ((!t4.2) || (decide (a2.What < (1:Int)))) with hb14 | hb14
  ·skip
   refine QU (congrArg some hb14) (W_v (pt b1 0) (QF (o:=0) (off:=0) Tryd.underlying55 rfl ty5 rfl rfl) rfl (QU (congrArg some hb14) (W_v (vU a2.What) (QR (S.blk 12 rfl) ty5 rfl rfl) rfl (QU (congrArg some hb14) (W_v (.bool (decide (a2.What > (3:Int)))) (QT rfl rfl rfl rfl) rfl (W_v (.bool (decide (a2.What > (3:Int)))) (QZ (k:=false) (congrArg Value.bool hb14) rfl) rfl (QB ?_)))))))
   exact ⟨⟨rfl,rfl,rfl,rfl,(by first | rfl | (rw [hb14]; rfl) | (simp only [hb14]; rfl)),trivial⟩,rfl⟩
  ·skip
   refine Qk (skF hb14) rfl (Qk (skF hb14) rfl (Qk (skF hb14) rfl (W_v (.bool true) (QZ (k:=true) (congrArg Value.bool hb14) rfl) rfl (QB ?_))))
   exact ⟨⟨rfl,rfl,rfl,rfl,(by first | rfl | (rw [hb14]; rfl) | (simp only [hb14]; rfl)),trivial⟩,rfl⟩
 as_aux_lemma =>
 rintro ρ _ ⟨hρ,rfl⟩
 rw [QN hρ]
 refine W_v (.bool (((!t4.2) || (decide (a2.What < (1:Int)))) || (decide (a2.What > (3:Int))))) (QC rfl) rfl ?_
 obtain ⟨o43,o43h,o43H⟩:=QX H
 refine ZI 11 (fun ρ w'=>∃ (x42:Bool),(x42) = o43 ∧ Qs ρ [(0,pt bo0 0),(1,vI a1),(5,pt b1 0),(7,pt b9 0),(42,.bool x42)] ∧ Ext w w' ∧ St w' M7 F [B47 b9 t4.1,B107 bo0 a0 A0_0 c0_0 bo0_1 bo0_2 A0_3 c0_3 A0_4 c0_4,Blk bo0_1 (.cells #[.slice A0_1_0 a0.r.tasks.length c0_1_0,.slice A0_1_1 a0.r.l.length c0_1_1] 144 (0,0)),Row Qx 161 (.slice A0_1_0 a0.r.tasks.length c0_1_0) a0.r.tasks,Row QK 55 (.slice A0_1_1 a0.r.l.length c0_1_1) a0.r.l,B95 bo0_2 a0.m A0_2_8 A0_2_9 A0_2_10 c0_2_10 A0_2_11,QV QH (Value.int .i64) A0_2_8 a0.m.names,QV (Value.int .i64) (Value.int .i64) A0_2_9 a0.m.many,Row QP 122 (.slice A0_2_10 a0.m.txs.length c0_2_10) a0.m.txs,QV encS (fun v:Value=>v) A0_2_11 vs0_2_11,Row Q0 69 (.slice A0_3 a0.done.length c0_3) a0.done,Row (rInt .i64) 3 (.slice A0_4 a0.last.length c0_4) a0.last,B55 b1 a2 A2_0 c2_0]) ?_ ?_
 ·as_aux_lemma =>
   have H:=o43h
   rcases Zh H with ⟨hb41,H⟩ | ⟨hb41,H⟩
   ·skip
    refine Qk (skF hb41) rfl (Qk (skF hb41) rfl (Qk (skF hb41) rfl (Qk (skF hb41) rfl (Qk (rfl) rfl (Qk (rfl) rfl (Qk (rfl) rfl (Qk (rfl) rfl (Qk (rfl) rfl (Qk (skF hb41) rfl (W_v (.bool true) (QZ (k:=true) (congrArg Value.bool hb41) rfl) rfl (QB ?_)))))))))))
    exact ⟨true,Option.some.inj H,⟨rfl,rfl,rfl,rfl,rfl,trivial⟩,E,S.pick [0,1,2,3,4,5,6,7,8,9,10,11,12] (by decide)⟩
   ·skip
    refine QU (congrArg some hb41) (W_v (pt b1 0) (QF (o:=0) (off:=0) Tryd.underlying55 rfl ty5 rfl rfl) rfl (QU (congrArg some hb41) (W_v (vU a2.What) (QR (S.blk 12 rfl) ty5 rfl rfl) rfl (QU (congrArg some hb41) (W_v (.bool (a2.What != (3:Int))) (QT rfl rfl rfl rfl) rfl (QU (congrArg some hb41) (W_v (.bool (a2.What != (3:Int))) (QC rfl) rfl ?_)))))))
    obtain ⟨o52,o52h,o52H⟩:=QX H
    refine ZI 6 (fun ρ w'=>∃ (x51:Bool),(x51) = o52 ∧ Qs ρ [(0,pt bo0 0),(1,vI a1),(5,pt b1 0),(7,pt b9 0),(31,.bool (((!t4.2) || (decide (a2.What < (1:Int)))) || (decide (a2.What > (3:Int))))),(41,.bool x51)] ∧ Ext w w' ∧ St w' M7 F [B47 b9 t4.1,B107 bo0 a0 A0_0 c0_0 bo0_1 bo0_2 A0_3 c0_3 A0_4 c0_4,Blk bo0_1 (.cells #[.slice A0_1_0 a0.r.tasks.length c0_1_0,.slice A0_1_1 a0.r.l.length c0_1_1] 144 (0,0)),Row Qx 161 (.slice A0_1_0 a0.r.tasks.length c0_1_0) a0.r.tasks,Row QK 55 (.slice A0_1_1 a0.r.l.length c0_1_1) a0.r.l,B95 bo0_2 a0.m A0_2_8 A0_2_9 A0_2_10 c0_2_10 A0_2_11,QV QH (Value.int .i64) A0_2_8 a0.m.names,QV (Value.int .i64) (Value.int .i64) A0_2_9 a0.m.many,Row QP 122 (.slice A0_2_10 a0.m.txs.length c0_2_10) a0.m.txs,QV encS (fun v:Value=>v) A0_2_11 vs0_2_11,Row Q0 69 (.slice A0_3 a0.done.length c0_3) a0.done,Row (rInt .i64) 3 (.slice A0_4 a0.last.length c0_4) a0.last,B55 b1 a2 A2_0 c2_0]) ?_ ?_
    ·have H:=o52h
     rcases Zh H with ⟨hb50,H⟩ | ⟨hb50,H⟩
     ·skip
      refine QU (congrArg some hb50) (W_v (pt b1 3) (QF (o:=0) (off:=3) Tryd.underlying55 rfl ty34 rfl rfl) rfl (QU (congrArg some hb50) (W_v (.agg #[vI a2.Answer.Err,.bool a2.Answer.Found,vS a2.Answer.Value,.slice A2_0 a2.Answer.Pairs.length c2_0]) (Qh (S.blk 12 rfl) ty34 rfl (QI rfl) rfl rfl) rfl (QU (congrArg some hb50) (W_v (.agg cz13) (ZN (pl:=[(0,1),(1,1),(2,1),(3,1)]) cz13 Tryd.underlying34 ty34 (by as_aux_lemma=>kernel_rfl) rfl (by as_aux_lemma=>kernel_rfl)) rfl (QU (congrArg some hb50) ?_))))))
      obtain ⟨t53,ht54,H⟩:=QX H
      refine YJ fn12 (Y4.con k M7 A2_0 c2_0 a2.Answer none 0 cz7 t53 hr2_0 (SlW.nil _ _) ht54) S rfl rfl (by rintro _ _ _ ⟨_,rfl⟩; exact Qd) ?_
      rintro _ w55 _ Γ' E' S ⟨rfl,rfl⟩
      replace E:=E.trans E'
      refine QU (congrArg some hb50) (W_v (.bool (!t53)) (Yx (b:=t53) rfl) rfl (QU (congrArg some hb41) (W_v (.bool (!t53)) (QZ (k:=true) (congrArg Value.bool hb50) rfl) rfl (QB ?_))))
      exact ⟨(!t53),Option.some.inj H,⟨rfl,rfl,rfl,rfl,rfl,rfl,trivial⟩,E,S.pick [0,1,2,3,4,5,6,7,8,9,10,11,12] (by decide)⟩
     ·skip
      refine Qk (skT hb50) rfl (Qk (skT hb50) rfl (Qk (skT hb50) rfl (Qk (skT hb50) rfl (Qk (skT hb50) rfl (QU (congrArg some hb41) (W_v (.bool false) (QZ (k:=false) (congrArg Value.bool hb50) rfl) rfl (QB ?_)))))))
      exact ⟨false,Option.some.inj H,⟨rfl,rfl,rfl,rfl,rfl,rfl,trivial⟩,E,S.pick [0,1,2,3,4,5,6,7,8,9,10,11,12] (by decide)⟩
    rintro ρ w56 ⟨x51,rfl,hρ,E,S⟩
    rw [QN hρ]
    have H:=o52H
    refine W_v (.bool x51) (QZ (k:=false) (congrArg Value.bool hb41) rfl) rfl (QB ?_)
    exact ⟨x51,Option.some.inj H,⟨rfl,rfl,rfl,rfl,rfl,trivial⟩,E,S.pick [0,1,2,3,4,5,6,7,8,9,10,11,12] (by decide)⟩
 as_aux_lemma =>
 rintro ρ w57 ⟨x42,rfl,hρ,E,S⟩
 rw [QN hρ]
 have H:=o43H
 refine QB (tn ?_)
 rcases Zh H with ⟨hb58,H⟩ | ⟨hb58,H⟩
 ·refine QL (congrArg Value.bool hb58) ?_
  refine QE (QA (W_v (vI 4) (QD rfl) rfl (QB (tn ?_))))
  refine QY ?_
  refine tr (?_)
  obtain rfl:=Option.some.inj H
  exact ⟨_,_,_,fun w1 e1=>QO (vs:=[vI 4]) (FA.cons (rfl) (FA.nil)),HM,E,S.pick [1,2,3,4,5,6,7,8,9,10,11] (by decide),⟨A0_0,c0_0,A0_1_0,c0_1_0,A0_1_1,c0_1_1,A0_2_8,c0_2_8,A0_2_9,c0_2_9,A0_2_10,c0_2_10,A0_2_11,c0_2_11,vs0_2_11,A0_3,c0_3,A0_4,c0_4,rfl,hr0_0,hm0_2_11,rfl⟩⟩
 refine QJ (congrArg Value.bool hb58) (Qg (tn (QE ?_)))
 have LE64:=Hp.le_refl M7
 refine Ql (S:=fun w'=>∃ Mx,M7.le Mx ∧ St w' Mx F [B47 b9 t4.1,B107 bo0 a0 A0_0 c0_0 bo0_1 bo0_2 A0_3 c0_3 A0_4 c0_4,Blk bo0_1 (.cells #[.slice A0_1_0 a0.r.tasks.length c0_1_0,.slice A0_1_1 a0.r.l.length c0_1_1] 144 (0,0)),Row Qx 161 (.slice A0_1_0 a0.r.tasks.length c0_1_0) a0.r.tasks,Row QK 55 (.slice A0_1_1 a0.r.l.length c0_1_1) a0.r.l,B95 bo0_2 a0.m A0_2_8 A0_2_9 A0_2_10 c0_2_10 A0_2_11,QV QH (Value.int .i64) A0_2_8 a0.m.names,QV (Value.int .i64) (Value.int .i64) A0_2_9 a0.m.many,Row QP 122 (.slice A0_2_10 a0.m.txs.length c0_2_10) a0.m.txs,QV encS (fun v:Value=>v) A0_2_11 vs0_2_11,Row Q0 69 (.slice A0_3 a0.done.length c0_3) a0.done,Row (rInt .i64) 3 (.slice A0_4 a0.last.length c0_4) a0.last,B55 b1 a2 A2_0 c2_0]) (L:=14) mixed ?_
 intro w65 hw66 E'
 replace S:=S.heap hw66
 replace E:=E.trans E'
 have D1:∃ Mx,Hp.le M7 Mx ∧ St _ Mx F [_,_,_,_,_,_,_,_,_,_,_,_,_]:=⟨_,Hp.le_refl _,S.pick [0,1,2,3,4,5,6,7,8,9,10,11,12] (by decide)⟩
 refine Wt 0 rfl rfl rfl (pt bo0 0) rfl (fun w' h'=>QC rfl) D1 (Wt 1 rfl rfl rfl (pt bo0 0) rfl (fun w' h'=>Qy rfl) D1 (Wt 2 rfl rfl rfl (pt bo0 1) rfl (fun w' h'=>QF (o:=0) (off:=1) Tryd.underlying107 rfl ty105 rfl rfl) D1 (Wt 3 rfl rfl rfl (pt bo0_1 0) rfl (fun w' h'=>QR (Qj h' 1 rfl) ty105 rfl rfl) D1 (Wt 4 rfl rfl rfl (pt b1 1) rfl (fun w' h'=>QF (o:=0) (off:=1) Tryd.underlying55 rfl ty3 rfl rfl) D1 (Wt 5 rfl rfl rfl (vI a2.Task) rfl (fun w' h'=>QR (Qj h' 12 rfl) ty3 rfl rfl) D1 ?_)))))
 refine Wo 6 rfl ?_
 obtain ⟨t67,ht68,H⟩:=QX H
 replace S:St w65 M7 F [_,_,_,_,_,_,_,_,_,_,_,_,_]:=S.pick [2,3,4,0,1,5,6,7,8,9,10,11,12] (by decide)
 refine ZZ fn70 (Zs.con k M7 A0_1_0 c0_1_0 A0_1_1 c0_1_1 a0.r a2.Task bo0_1 t67  ht68) (Γ1:=[_,_,_]) (Γ2:=[_,_,_,_,_,_,_,_,_,_]) S rfl rfl ?_
 rintro _ w69 M70 Γ' hM71 E' S ⟨rfl,rfl⟩
 replace hg0:=gup hg0 hM71
 replace hg1:=gup hg1 hM71
 replace HM:=Hp.le_trans HM hM71
 replace LE64:=Hp.le_trans LE64 hM71
 replace hr0_0:=SlR.mono hr0_0 hM71
 replace hm0_2_11:=YP.mono hm0_2_11 hM71
 replace hr2_0:=SlR.mono hr2_0 hM71
 replace E:=E.trans E'
 replace S:St w69 M70 F [_,_,_,_,_,_,_,_,_,_,_,_,_]:=S
 refine QB (YC ⟨.inr ⟨M70,LE64,(S.pick [3,4,0,1,2,5,6,7,8,9,10,11,12] (by decide))⟩,?_⟩)
 refine Wt 7 rfl rfl rfl (.tuple #[vI t67.1,.bool t67.2.1,.bool t67.2.2]) rfl (fun w' h'=>QC rfl) (⟨M70,LE64,(S.pick [3,4,0,1,2,5,6,7,8,9,10,11,12] (by decide))⟩) (Wt 8 rfl rfl rfl (vI t67.1) rfl (fun w' h'=>QQ rfl rfl) (⟨M70,LE64,(S.pick [3,4,0,1,2,5,6,7,8,9,10,11,12] (by decide))⟩) (Wt 9 rfl rfl rfl (.bool t67.2.1) rfl (fun w' h'=>QQ rfl rfl) (⟨M70,LE64,(S.pick [3,4,0,1,2,5,6,7,8,9,10,11,12] (by decide))⟩) (Wt 10 rfl rfl rfl (.bool t67.2.2) rfl (fun w' h'=>QQ rfl rfl) (⟨M70,LE64,(S.pick [3,4,0,1,2,5,6,7,8,9,10,11,12] (by decide))⟩) (Wt 11 rfl rfl rfl (vI t67.1) rfl (fun w' h'=>QD rfl) (⟨M70,LE64,(S.pick [3,4,0,1,2,5,6,7,8,9,10,11,12] (by decide))⟩) (Wt 12 rfl rfl rfl (.bool t67.2.1) rfl (fun w' h'=>QD rfl) (⟨M70,LE64,(S.pick [3,4,0,1,2,5,6,7,8,9,10,11,12] (by decide))⟩) (Wt 13 rfl rfl rfl (.bool t67.2.2) rfl (fun w' h'=>QD rfl) (⟨M70,LE64,(S.pick [3,4,0,1,2,5,6,7,8,9,10,11,12] (by decide))⟩) ?_))))))
 refine Wz ?_
 refine tn ?_
 as_aux_lemma =>
 refine QE (QE ?_)
 have LE169:=Hp.le_refl M70
 refine Ql (S:=fun w'=>∃ Mx,M70.le Mx ∧ St w' Mx F [B47 b9 t4.1,B107 bo0 a0 A0_0 c0_0 bo0_1 bo0_2 A0_3 c0_3 A0_4 c0_4,B95 bo0_2 a0.m A0_2_8 A0_2_9 A0_2_10 c0_2_10 A0_2_11,QV QH (Value.int .i64) A0_2_8 a0.m.names,QV (Value.int .i64) (Value.int .i64) A0_2_9 a0.m.many,Row QP 122 (.slice A0_2_10 a0.m.txs.length c0_2_10) a0.m.txs,QV encS (fun v:Value=>v) A0_2_11 vs0_2_11,Row Q0 69 (.slice A0_3 a0.done.length c0_3) a0.done,Row (rInt .i64) 3 (.slice A0_4 a0.last.length c0_4) a0.last,B55 b1 a2 A2_0 c2_0]) (L:=26) mixed ?_
 intro w170 hw171 E'
 replace S:=S.heap hw171
 replace E:=E.trans E'
 have D2:∃ Mx,Hp.le M70 Mx ∧ St _ Mx F [_,_,_,_,_,_,_,_,_,_]:=⟨_,Hp.le_refl _,S.pick [3,4,5,6,7,8,9,10,11,12] (by decide)⟩
 refine Wt 0 rfl rfl rfl (pt b1 0) rfl (fun w' h'=>QF (o:=0) (off:=0) Tryd.underlying55 rfl ty5 rfl rfl) D2 (Wt 1 rfl rfl rfl (vU a2.What) rfl (fun w' h'=>QR (Qj h' 9 rfl) ty5 rfl rfl) D2 (Wt 2 rfl rfl rfl (.bool (a2.What != (1:Int))) rfl (fun w' h'=>QT rfl rfl rfl rfl) D2 (Wt 3 rfl rfl rfl (.bool (a2.What != (1:Int))) rfl (fun w' h'=>QC rfl) D2 ?_)))
 refine XK (fun ρ w'=>Qs ρ [(0,pt bo0 0),(1,vI a1),(5,pt b1 0),(7,pt b9 0),(66,.bool ((a2.What != (1:Int)) && ((!t67.2.2) || (t67.1 != a2.Call))))] ∧ w170 = w') 13 (Ls 26 [0,1,2,3,4,5,6,7,8,9,10,11,12]) ?_ ?_
 rotate_left
 ·intro hrest
  rcases Qw (a2.What != (1:Int)) with hb173 | hb173
  ·skip
   have D3:∃ Mx,Hp.le M70 Mx ∧ St _ Mx F [_,_,_,_,_,_,_,_,_,_]:=⟨_,Hp.le_refl _,S.pick [3,4,5,6,7,8,9,10,11,12] (by decide)⟩
   refine WtN 4 rfl rfl rfl rfl (skT hb173) D3 (WtN 5 rfl rfl rfl rfl (skT hb173) D3 (WtN 6 rfl rfl rfl rfl (skT hb173) D3 (WtN 7 rfl rfl rfl rfl (rfl) D3 (WtN 8 rfl rfl rfl rfl (rfl) D3 (WtN 9 rfl rfl rfl rfl (rfl) D3 (WtN 10 rfl rfl rfl rfl (rfl) D3 (WtN 11 rfl rfl rfl rfl (skT hb173) D3 (Wt 12 rfl rfl rfl (.bool false) rfl (fun w' h'=>QZ (k:=false) (congrArg Value.bool hb173) rfl) D3 ?_))))))))
   exact hrest _ _ ⟨⟨rfl,rfl,rfl,rfl,(by first | rfl | (rw [hb173]; rfl) | (simp only [hb173]; rfl)),trivial⟩,rfl⟩
  ·skip
   have D4:∃ Mx,Hp.le M70 Mx ∧ St _ Mx F [_,_,_,_,_,_,_,_,_,_]:=⟨_,Hp.le_refl _,S.pick [3,4,5,6,7,8,9,10,11,12] (by decide)⟩
   refine WtY 4 rfl rfl rfl (.bool t67.2.2) rfl (congrArg some hb173) (fun w' h'=>QC rfl) D4 (WtY 5 rfl rfl rfl (.bool (!t67.2.2)) rfl (congrArg some hb173) (fun w' h'=>Yx (b:=t67.2.2) rfl) D4 (WtY 6 rfl rfl rfl (.bool (!t67.2.2)) rfl (congrArg some hb173) (fun w' h'=>QC rfl) D4 ?_))
   refine XK (fun ρ w'=>Qs ρ [(0,pt bo0 0),(1,vI a1),(5,pt b1 0),(7,pt b9 0),(57,.bool (a2.What != (1:Int))),(65,.bool ((!t67.2.2) || (t67.1 != a2.Call)))] ∧ w170 = w') 14 (Ls 26 [0,1,2,3,4,5,6,7,8,9,10,11]) ?_ ?_
   rotate_left
   ·intro hrest
    rcases Qw (!t67.2.2) with hb174 | hb174
    ·skip
     have D5:∃ Mx,Hp.le M70 Mx ∧ St _ Mx F [_,_,_,_,_,_,_,_,_,_]:=⟨_,Hp.le_refl _,S.pick [3,4,5,6,7,8,9,10,11,12] (by decide)⟩
     refine WtY 7 rfl rfl rfl (vI t67.1) rfl (congrArg some hb174) (fun w' h'=>QC rfl) D5 (WtY 8 rfl rfl rfl (pt b1 2) rfl (congrArg some hb174) (fun w' h'=>QF (o:=0) (off:=2) Tryd.underlying55 rfl ty3 rfl rfl) D5 (WtY 9 rfl rfl rfl (vI a2.Call) rfl (congrArg some hb174) (fun w' h'=>QR (Qj h' 9 rfl) ty3 rfl rfl) D5 (WtY 10 rfl rfl rfl (.bool (t67.1 != a2.Call)) rfl (congrArg some hb174) (fun w' h'=>QT rfl rfl rfl rfl) D5 (WtY 11 rfl rfl rfl (.bool (t67.1 != a2.Call)) rfl (congrArg some hb173) (fun w' h'=>QZ (k:=false) (congrArg Value.bool hb174) rfl) D5 ?_))))
     exact hrest _ _ ⟨⟨rfl,rfl,rfl,rfl,rfl,(by first | rfl | (rw [hb174]; rfl) | (simp only [hb174]; rfl)),trivial⟩,rfl⟩
    ·skip
     have D6:∃ Mx,Hp.le M70 Mx ∧ St _ Mx F [_,_,_,_,_,_,_,_,_,_]:=⟨_,Hp.le_refl _,S.pick [3,4,5,6,7,8,9,10,11,12] (by decide)⟩
     refine WtN 7 rfl rfl rfl rfl (skF hb174) D6 (WtN 8 rfl rfl rfl rfl (skF hb174) D6 (WtN 9 rfl rfl rfl rfl (skF hb174) D6 (WtN 10 rfl rfl rfl rfl (skF hb174) D6 (WtY 11 rfl rfl rfl (.bool true) rfl (congrArg some hb173) (fun w' h'=>QZ (k:=true) (congrArg Value.bool hb174) rfl) D6 ?_))))
     exact hrest _ _ ⟨⟨rfl,rfl,rfl,rfl,rfl,(by first | rfl | (rw [hb174]; rfl) | (simp only [hb174]; rfl)),trivial⟩,rfl⟩
   rintro ρ _ ⟨hρ,rfl⟩
   rw [QN hρ]
   refine Wt 12 rfl rfl rfl (.bool ((!t67.2.2) || (t67.1 != a2.Call))) rfl (fun w' h'=>QZ (k:=true) (congrArg Value.bool hb173) rfl) (⟨M70,Hp.le_refl M70,(S.pick [3,4,5,6,7,8,9,10,11,12] (by decide))⟩) ?_
   exact hrest _ _ ⟨⟨rfl,rfl,rfl,rfl,(by first | rfl | (rw [hb173]; rfl) | (simp only [hb173]; rfl)),trivial⟩,rfl⟩
 rintro ρ _ ⟨hρ,rfl⟩
 rw [QN hρ]
 refine Wt 13 rfl rfl rfl (.bool ((a2.What != (1:Int)) && ((!t67.2.2) || (t67.1 != a2.Call)))) rfl (fun w' h'=>QC rfl) (⟨M70,Hp.le_refl M70,(S.pick [3,4,5,6,7,8,9,10,11,12] (by decide))⟩) ?_
 obtain ⟨o225,o225h,o225H⟩:=QX H
 refine XK (fun ρ w'=>∃ (x216:Bool) (x217:List Z3) (x221:List QG) (A218:Option Addr) (c219:Nat) (A222:Option Addr) (c223:Nat) (Mj:Hp),(x216,x217,x221) = o225 ∧ Qs ρ [(0,pt bo0 0),(1,vI a1),(5,pt b1 0),(7,pt b9 0),(79,.bool x216)] ∧ M70.le Mj ∧ Ext w w' ∧ St w' Mj F [Row QK 55 (.slice A222 x221.length c223) x221,Row Qx 161 (.slice A218 x217.length c219) x217,Blk bo0_1 (.cells #[.slice A218 x217.length c219,.slice A222 x221.length c223] 144 (0,0)),B47 b9 t4.1,B107 bo0 a0 A0_0 c0_0 bo0_1 bo0_2 A0_3 c0_3 A0_4 c0_4,B95 bo0_2 a0.m A0_2_8 A0_2_9 A0_2_10 c0_2_10 A0_2_11,QV QH (Value.int .i64) A0_2_8 a0.m.names,QV (Value.int .i64) (Value.int .i64) A0_2_9 a0.m.many,Row QP 122 (.slice A0_2_10 a0.m.txs.length c0_2_10) a0.m.txs,QV encS (fun v:Value=>v) A0_2_11 vs0_2_11,Row Q0 69 (.slice A0_3 a0.done.length c0_3) a0.done,Row (rInt .i64) 3 (.slice A0_4 a0.last.length c0_4) a0.last,B55 b1 a2 A2_0 c2_0]) 0 (Ls 26 [0,1,2,3,4,5,6,7,8,9,10,11,12,13,14,15,16,17,18,19,20,21,22,23,24,25]) ?_ ?_
 rotate_left
 ·intro hrest
  have H:=o225h
  rcases Zh H with ⟨hb215,H⟩ | ⟨hb215,H⟩
  ·skip
   have D9:∃ Mx,Hp.le M70 Mx ∧ St _ Mx F [_,_,_,_,_,_,_,_,_,_]:=⟨_,Hp.le_refl _,S.pick [3,4,5,6,7,8,9,10,11,12] (by decide)⟩
   refine WtN 14 rfl rfl rfl rfl (skF hb215) D9 (WtN 15 rfl rfl rfl rfl (skF hb215) D9 (WtN 16 rfl rfl rfl rfl (skF hb215) D9 (WtN 17 rfl rfl rfl rfl (skF hb215) D9 (WtN 18 rfl rfl rfl rfl (skF hb215) D9 (WtN 19 rfl rfl rfl rfl (skF hb215) D9 (WtN 20 rfl rfl rfl rfl (skF hb215) D9 (WtN 21 rfl rfl rfl rfl (skF hb215) D9 (WtN 22 rfl rfl rfl rfl (skF hb215) D9 (WtN 23 rfl rfl rfl rfl (skF hb215) D9 (WtN 24 rfl rfl rfl rfl (skF hb215) D9 (Wt 25 rfl rfl rfl (.bool true) rfl (fun w' h'=>QZ (k:=true) (congrArg Value.bool hb215) rfl) D9 ?_)))))))))))
   exact hrest _ _ ⟨true,a0.r.tasks,a0.r.l,A0_1_0,c0_1_0,A0_1_1,c0_1_1,M70,Option.some.inj H,⟨rfl,rfl,rfl,rfl,rfl,trivial⟩,(Hp.le_refl M70),E,S.pick [2,1,0,3,4,5,6,7,8,9,10,11,12] (by decide)⟩
  ·skip
   have D10:∃ Mx,Hp.le M70 Mx ∧ St _ Mx F [_,_,_,_,_,_,_,_,_,_]:=⟨_,Hp.le_refl _,S.pick [3,4,5,6,7,8,9,10,11,12] (by decide)⟩
   refine WtY 14 rfl rfl rfl (pt b1 0) rfl (congrArg some hb215) (fun w' h'=>QF (o:=0) (off:=0) Tryd.underlying55 rfl ty5 rfl rfl) D10 (WtY 15 rfl rfl rfl (vU a2.What) rfl (congrArg some hb215) (fun w' h'=>QR (Qj h' 9 rfl) ty5 rfl rfl) D10 ?_)
   obtain ⟨⟨p226,p227⟩,H⟩:=Zt H
   refine WtY 16 rfl rfl rfl (.pointer (some ⟨1,0 + a2.What.toNat * 1,none⟩)) rfl (congrArg some hb215) (fun w' h'=>UK Tryd.underlying140 ty139 rfl rfl p226 p227) D10 ?_
   obtain ⟨gtfr228,fr228,hgx229⟩:=hg1
   have hg1:∃ gt fr,_:=⟨gtfr228,fr228,hgx229⟩
   rcases Zh H with ⟨hb230,H⟩ | ⟨hb230,H⟩
   ·skip
    refine WtY 17 rfl rfl rfl (.func (.func 173) #[] #[]) rfl (congrArg some hb215) (fun w' h'=>QR (Y5 h' hgx229) ty139 rfl (by rw [show a2.What = (1:Int) from eq_of_beq hb230]; rfl)) D10 (WtY 18 rfl rfl rfl (pt bo0 0) rfl (congrArg some hb215) (fun w' h'=>QC rfl) D10 (WtY 19 rfl rfl rfl (pt bo0 0) rfl (congrArg some hb215) (fun w' h'=>Qy rfl) D10 (WtY 20 rfl rfl rfl (pt bo0 1) rfl (congrArg some hb215) (fun w' h'=>QF (o:=0) (off:=1) Tryd.underlying107 rfl ty105 rfl rfl) D10 (WtY 21 rfl rfl rfl (pt bo0_1 0) rfl (congrArg some hb215) (fun w' h'=>QR (Qj h' 1 rfl) ty105 rfl rfl) D10 (WtY 22 rfl rfl rfl (.agg #[vU a2.What,vI a2.Task,vI a2.Call,vI a2.Answer.Err,.bool a2.Answer.Found,vS a2.Answer.Value,.slice A2_0 a2.Answer.Pairs.length c2_0]) rfl (congrArg some hb215) (fun w' h'=>Qh (Qj h' 9 rfl) ty55 rfl (QI rfl) rfl rfl) D10 ?_)))))
    refine Wo 23 rfl ?_
    refine QU (congrArg some hb215) ?_
    obtain ⟨t231,ht232,H⟩:=QX H
    refine X7 (fs:=[]) (cap:=[]) fn173 rfl (Yr.con k M70 A0_1_0 c0_1_0 A0_1_1 c0_1_1 a0.r A2_0 c2_0 a2 bo0_1 t231 hr2_0 ht232) (Γ1:=[_,_,_]) (Γ2:=[_,_,_,_,_,_,_,_,_,_]) S rfl rfl ?_
    rintro _ w239 M240 Γ' hM241 E' S ⟨A233,c234,A236,c237,rfl,rfl⟩
    replace HM:=Hp.le_trans HM hM241
    replace LE169:=Hp.le_trans LE169 hM241
    replace E:=E.trans E'
    replace S:St w239 M240 F [_,_,_,_,_,_,_,_,_,_,_,_,_]:=S
    refine QB (YC ⟨.inr ⟨M240,LE169,(S.pick [3,4,5,6,7,8,9,10,11,12] (by decide))⟩,?_⟩)
    refine WtY 24 rfl rfl rfl (.bool (t231.1 != (0:Int))) rfl (congrArg some hb215) (fun w' h'=>QT rfl rfl rfl rfl) (⟨M240,LE169,(S.pick [3,4,5,6,7,8,9,10,11,12] (by decide))⟩) (Wt 25 rfl rfl rfl (.bool (t231.1 != (0:Int))) rfl (fun w' h'=>QZ (k:=false) (congrArg Value.bool hb215) rfl) (⟨M240,LE169,(S.pick [3,4,5,6,7,8,9,10,11,12] (by decide))⟩) ?_)
    exact hrest _ _ ⟨(t231.1 != (0:Int)),t231.2.tasks,t231.2.l,A233,c234,A236,c237,M240,Option.some.inj H,⟨rfl,rfl,rfl,rfl,rfl,trivial⟩,LE169,E,S.pick [2,1,0,3,4,5,6,7,8,9,10,11,12] (by decide)⟩
   rcases Zh H with ⟨hb242,H⟩ | ⟨hb242,H⟩
   ·skip
    have D11:∃ Mx,Hp.le M70 Mx ∧ St _ Mx F [_,_,_,_,_,_,_,_,_,_]:=⟨_,Hp.le_refl _,S.pick [3,4,5,6,7,8,9,10,11,12] (by decide)⟩
    refine WtY 17 rfl rfl rfl (.func (.func 175) #[] #[]) rfl (congrArg some hb215) (fun w' h'=>QR (Y5 h' hgx229) ty139 rfl (by rw [show a2.What = (2:Int) from eq_of_beq hb242]; rfl)) D11 (WtY 18 rfl rfl rfl (pt bo0 0) rfl (congrArg some hb215) (fun w' h'=>QC rfl) D11 (WtY 19 rfl rfl rfl (pt bo0 0) rfl (congrArg some hb215) (fun w' h'=>Qy rfl) D11 (WtY 20 rfl rfl rfl (pt bo0 1) rfl (congrArg some hb215) (fun w' h'=>QF (o:=0) (off:=1) Tryd.underlying107 rfl ty105 rfl rfl) D11 (WtY 21 rfl rfl rfl (pt bo0_1 0) rfl (congrArg some hb215) (fun w' h'=>QR (Qj h' 1 rfl) ty105 rfl rfl) D11 (WtY 22 rfl rfl rfl (.agg #[vU a2.What,vI a2.Task,vI a2.Call,vI a2.Answer.Err,.bool a2.Answer.Found,vS a2.Answer.Value,.slice A2_0 a2.Answer.Pairs.length c2_0]) rfl (congrArg some hb215) (fun w' h'=>Qh (Qj h' 9 rfl) ty55 rfl (QI rfl) rfl rfl) D11 ?_)))))
    refine Wo 23 rfl ?_
    refine QU (congrArg some hb215) ?_
    obtain ⟨t243,ht244,H⟩:=QX H
    refine X7 (fs:=[]) (cap:=[]) fn175 rfl (Yq.con k M70 A0_1_0 c0_1_0 A0_1_1 c0_1_1 a0.r A2_0 c2_0 a2 bo0_1 t243 hr2_0 ht244) (Γ1:=[_,_,_]) (Γ2:=[_,_,_,_,_,_,_,_,_,_]) S rfl rfl ?_
    rintro _ w251 M252 Γ' hM253 E' S ⟨A245,c246,A248,c249,rfl,rfl⟩
    replace HM:=Hp.le_trans HM hM253
    replace LE169:=Hp.le_trans LE169 hM253
    replace E:=E.trans E'
    replace S:St w251 M252 F [_,_,_,_,_,_,_,_,_,_,_,_,_]:=S
    refine QB (YC ⟨.inr ⟨M252,LE169,(S.pick [3,4,5,6,7,8,9,10,11,12] (by decide))⟩,?_⟩)
    refine WtY 24 rfl rfl rfl (.bool (t243.1 != (0:Int))) rfl (congrArg some hb215) (fun w' h'=>QT rfl rfl rfl rfl) (⟨M252,LE169,(S.pick [3,4,5,6,7,8,9,10,11,12] (by decide))⟩) (Wt 25 rfl rfl rfl (.bool (t243.1 != (0:Int))) rfl (fun w' h'=>QZ (k:=false) (congrArg Value.bool hb215) rfl) (⟨M252,LE169,(S.pick [3,4,5,6,7,8,9,10,11,12] (by decide))⟩) ?_)
    exact hrest _ _ ⟨(t243.1 != (0:Int)),t243.2.tasks,t243.2.l,A245,c246,A248,c249,M252,Option.some.inj H,⟨rfl,rfl,rfl,rfl,rfl,trivial⟩,LE169,E,S.pick [2,1,0,3,4,5,6,7,8,9,10,11,12] (by decide)⟩
   rcases Zh H with ⟨hb254,H⟩ | ⟨hb254,H⟩
   ·skip
    have D12:∃ Mx,Hp.le M70 Mx ∧ St _ Mx F [_,_,_,_,_,_,_,_,_,_]:=⟨_,Hp.le_refl _,S.pick [3,4,5,6,7,8,9,10,11,12] (by decide)⟩
    refine WtY 17 rfl rfl rfl (.func (.func 177) #[] #[]) rfl (congrArg some hb215) (fun w' h'=>QR (Y5 h' hgx229) ty139 rfl (by rw [show a2.What = (3:Int) from eq_of_beq hb254]; rfl)) D12 (WtY 18 rfl rfl rfl (pt bo0 0) rfl (congrArg some hb215) (fun w' h'=>QC rfl) D12 (WtY 19 rfl rfl rfl (pt bo0 0) rfl (congrArg some hb215) (fun w' h'=>Qy rfl) D12 (WtY 20 rfl rfl rfl (pt bo0 1) rfl (congrArg some hb215) (fun w' h'=>QF (o:=0) (off:=1) Tryd.underlying107 rfl ty105 rfl rfl) D12 (WtY 21 rfl rfl rfl (pt bo0_1 0) rfl (congrArg some hb215) (fun w' h'=>QR (Qj h' 1 rfl) ty105 rfl rfl) D12 (WtY 22 rfl rfl rfl (.agg #[vU a2.What,vI a2.Task,vI a2.Call,vI a2.Answer.Err,.bool a2.Answer.Found,vS a2.Answer.Value,.slice A2_0 a2.Answer.Pairs.length c2_0]) rfl (congrArg some hb215) (fun w' h'=>Qh (Qj h' 9 rfl) ty55 rfl (QI rfl) rfl rfl) D12 ?_)))))
    refine Wo 23 rfl ?_
    refine QU (congrArg some hb215) ?_
    obtain ⟨t255,ht256,H⟩:=QX H
    refine X7 (fs:=[]) (cap:=[]) fn177 rfl (Yp.con k M70 A0_1_0 c0_1_0 A0_1_1 c0_1_1 a0.r A2_0 c2_0 a2 bo0_1 t255 hr2_0 ht256) (Γ1:=[_,_,_]) (Γ2:=[_,_,_,_,_,_,_,_,_,_]) S rfl rfl ?_
    rintro _ w263 M264 Γ' hM265 E' S ⟨A257,c258,A260,c261,rfl,rfl⟩
    replace HM:=Hp.le_trans HM hM265
    replace LE169:=Hp.le_trans LE169 hM265
    replace E:=E.trans E'
    replace S:St w263 M264 F [_,_,_,_,_,_,_,_,_,_,_,_,_]:=S
    refine QB (YC ⟨.inr ⟨M264,LE169,(S.pick [3,4,5,6,7,8,9,10,11,12] (by decide))⟩,?_⟩)
    refine WtY 24 rfl rfl rfl (.bool (t255.1 != (0:Int))) rfl (congrArg some hb215) (fun w' h'=>QT rfl rfl rfl rfl) (⟨M264,LE169,(S.pick [3,4,5,6,7,8,9,10,11,12] (by decide))⟩) (Wt 25 rfl rfl rfl (.bool (t255.1 != (0:Int))) rfl (fun w' h'=>QZ (k:=false) (congrArg Value.bool hb215) rfl) (⟨M264,LE169,(S.pick [3,4,5,6,7,8,9,10,11,12] (by decide))⟩) ?_)
    exact hrest _ _ ⟨(t255.1 != (0:Int)),t255.2.tasks,t255.2.l,A257,c258,A260,c261,M264,Option.some.inj H,⟨rfl,rfl,rfl,rfl,rfl,trivial⟩,LE169,E,S.pick [2,1,0,3,4,5,6,7,8,9,10,11,12] (by decide)⟩
   cases H
 rintro ρ w266 ⟨x216,x217,x221,A218,c219,A222,c223,M267,rfl,hρ,hM268,E,S⟩
 rw [QN hρ]
 replace hg0:=gup hg0 hM268
 replace hg1:=gup hg1 hM268
 replace HM:=Hp.le_trans HM hM268
 replace hr0_0:=SlR.mono hr0_0 hM268
 replace hm0_2_11:=YP.mono hm0_2_11 hM268
 replace hr2_0:=SlR.mono hr2_0 hM268
 have H:=o225H
 refine Wz ?_
 refine tn ?_
 rcases Zh H with ⟨hb269,H⟩ | ⟨hb269,H⟩
 ·refine QL (congrArg Value.bool hb269) ?_
  refine QE (QA (W_v (vI 4) (QD rfl) rfl (QB (tn ?_))))
  refine QY ?_
  refine tr (?_)
  obtain rfl:=Option.some.inj H
  exact ⟨_,_,_,fun w1 e1=>QO (vs:=[vI 4]) (FA.cons (rfl) (FA.nil)),HM,E,S.pick [4,2,1,0,5,6,7,8,9,10,11] (by decide),⟨A0_0,c0_0,A218,c219,A222,c223,A0_2_8,c0_2_8,A0_2_9,c0_2_9,A0_2_10,c0_2_10,A0_2_11,c0_2_11,vs0_2_11,A0_3,c0_3,A0_4,c0_4,rfl,hr0_0,hm0_2_11,rfl⟩⟩
 refine QJ (congrArg Value.bool hb269) (Qg (tn ?_))
 as_aux_lemma =>
 refine QE (QE (QA (W_v (pt b1 0) (QF (o:=0) (off:=0) Tryd.underlying55 rfl ty5 rfl rfl) rfl (W_v (vU a2.What) (QR (S.blk 12 rfl) ty5 rfl rfl) rfl (QB (tn ?_))))))
 refine Z0 ?_
 refine QE (QA (W_v (.bool (a2.What == (1:Int))) (QT rfl rfl rfl rfl) rfl (W_v (.bool (a2.What == (1:Int))) (QD rfl) rfl (QB (tn ?_)))))
 rcases Zh H with ⟨hb270,H⟩ | ⟨hb270,H⟩
 ·refine QL (congrArg Value.bool hb270) ?_
  refine QE ?_
  have LE276:=Hp.le_refl M267
  refine Ql (S:=fun w'=>∃ Mx,M267.le Mx ∧ St w' Mx F [Row QK 55 (.slice A222 x221.length c223) x221,Row Qx 161 (.slice A218 x217.length c219) x217,Blk bo0_1 (.cells #[.slice A218 x217.length c219,.slice A222 x221.length c223] 144 (0,0)),B47 b9 t4.1,B107 bo0 a0 A0_0 c0_0 bo0_1 bo0_2 A0_3 c0_3 A0_4 c0_4,B95 bo0_2 a0.m A0_2_8 A0_2_9 A0_2_10 c0_2_10 A0_2_11,QV QH (Value.int .i64) A0_2_8 a0.m.names,QV (Value.int .i64) (Value.int .i64) A0_2_9 a0.m.many,Row QP 122 (.slice A0_2_10 a0.m.txs.length c0_2_10) a0.m.txs,QV encS (fun v:Value=>v) A0_2_11 vs0_2_11,Row Q0 69 (.slice A0_3 a0.done.length c0_3) a0.done,Row (rInt .i64) 3 (.slice A0_4 a0.last.length c0_4) a0.last,B55 b1 a2 A2_0 c2_0]) (L:=12) mixed ?_
  intro w277 hw278 E'
  replace S:=S.heap hw278
  replace E:=E.trans E'
  have D13:∃ Mx,Hp.le M267 Mx ∧ St _ Mx F [_,_,_,_,_,_,_,_,_,_,_,_,_]:=⟨_,Hp.le_refl _,S.pick [0,1,2,3,4,5,6,7,8,9,10,11,12] (by decide)⟩
  refine Wt 0 rfl rfl rfl (pt bo0 0) rfl (fun w' h'=>QC rfl) D13 (Wt 1 rfl rfl rfl (pt bo0 0) rfl (fun w' h'=>Qy rfl) D13 (Wt 2 rfl rfl rfl (pt bo0 1) rfl (fun w' h'=>QF (o:=0) (off:=1) Tryd.underlying107 rfl ty105 rfl rfl) D13 (Wt 3 rfl rfl rfl (pt bo0_1 0) rfl (fun w' h'=>QR (Qj h' 4 rfl) ty105 rfl rfl) D13 (Wt 4 rfl rfl rfl (pt b1 1) rfl (fun w' h'=>QF (o:=0) (off:=1) Tryd.underlying55 rfl ty3 rfl rfl) D13 (Wt 5 rfl rfl rfl (vI a2.Task) rfl (fun w' h'=>QR (Qj h' 12 rfl) ty3 rfl rfl) D13 ?_)))))
  refine Wo 6 rfl ?_
  obtain ⟨t279,ht280,H⟩:=QX H
  replace S:St w277 M267 F [_,_,_,_,_,_,_,_,_,_,_,_,_]:=S.pick [2,1,0,3,4,5,6,7,8,9,10,11,12] (by decide)
  refine ZZ fn70 (Zs.con k M267 A218 c219 A222 c223 (⟨x217,x221⟩:Qb) a2.Task bo0_1 t279  ht280) (Γ1:=[_,_,_]) (Γ2:=[_,_,_,_,_,_,_,_,_,_]) S rfl rfl ?_
  rintro _ w281 M282 Γ' hM283 E' S ⟨rfl,rfl⟩
  replace HM:=Hp.le_trans HM hM283
  replace LE276:=Hp.le_trans LE276 hM283
  replace hr0_0:=SlR.mono hr0_0 hM283
  replace hm0_2_11:=YP.mono hm0_2_11 hM283
  replace E:=E.trans E'
  replace S:St w281 M282 F [_,_,_,_,_,_,_,_,_,_,_,_,_]:=S
  refine QB (YC ⟨.inr ⟨M282,LE276,(S.pick [2,1,0,3,4,5,6,7,8,9,10,11,12] (by decide))⟩,?_⟩)
  refine Wt 7 rfl rfl rfl (.tuple #[vI t279.1,.bool t279.2.1,.bool t279.2.2]) rfl (fun w' h'=>QC rfl) (⟨M282,LE276,(S.pick [2,1,0,3,4,5,6,7,8,9,10,11,12] (by decide))⟩) (Wt 8 rfl rfl rfl (vI t279.1) rfl (fun w' h'=>QQ rfl rfl) (⟨M282,LE276,(S.pick [2,1,0,3,4,5,6,7,8,9,10,11,12] (by decide))⟩) (Wt 9 rfl rfl rfl (.bool t279.2.1) rfl (fun w' h'=>QQ rfl rfl) (⟨M282,LE276,(S.pick [2,1,0,3,4,5,6,7,8,9,10,11,12] (by decide))⟩) (Wt 10 rfl rfl rfl (.bool t279.2.2) rfl (fun w' h'=>QQ rfl rfl) (⟨M282,LE276,(S.pick [2,1,0,3,4,5,6,7,8,9,10,11,12] (by decide))⟩) (Wt 11 rfl rfl rfl (vI t279.1) rfl (fun w' h'=>QD rfl) (⟨M282,LE276,(S.pick [2,1,0,3,4,5,6,7,8,9,10,11,12] (by decide))⟩) ?_))))
  refine Wz ?_
  refine tn (QE (QA (W_v (vI t279.1) (QC rfl) rfl (W_v (pt b1 2) (QF (o:=0) (off:=2) Tryd.underlying55 rfl ty3 rfl rfl) rfl (W_v (vI a2.Call) (QR (S.blk 12 rfl) ty3 rfl rfl) rfl (W_v (.bool (t279.1 != a2.Call)) (QT rfl rfl rfl rfl) rfl (QB (tn ?_))))))))
  rcases Zh H with ⟨hb284,H⟩ | ⟨hb284,H⟩
  ·refine QL (congrArg Value.bool hb284) ?_
   refine QE (QA (W_v (vI 4) (QD rfl) rfl (QB (tn ?_))))
   refine QY ?_
   refine br (tr (?_))
   obtain rfl:=Option.some.inj H
   exact ⟨_,_,_,fun w1 e1=>QO (vs:=[vI 4]) (FA.cons (rfl) (FA.nil)),HM,E,S.pick [4,0,1,2,5,6,7,8,9,10,11] (by decide),⟨A0_0,c0_0,A218,c219,A222,c223,A0_2_8,c0_2_8,A0_2_9,c0_2_9,A0_2_10,c0_2_10,A0_2_11,c0_2_11,vs0_2_11,A0_3,c0_3,A0_4,c0_4,rfl,hr0_0,hm0_2_11,rfl⟩⟩
  refine QJ (congrArg Value.bool hb284) (Qg (bn (tn (QE (QA (W_v (vI 0) (QD rfl) rfl (QB (tn ?_))))))))
  refine QY ?_
  obtain rfl:=Option.some.inj H
  exact ⟨_,_,_,fun w1 e1=>QO (vs:=[vI 0]) (FA.cons (rfl) (FA.nil)),HM,E,S.pick [4,0,1,2,5,6,7,8,9,10,11] (by decide),⟨A0_0,c0_0,A218,c219,A222,c223,A0_2_8,c0_2_8,A0_2_9,c0_2_9,A0_2_10,c0_2_10,A0_2_11,c0_2_11,vs0_2_11,A0_3,c0_3,A0_4,c0_4,rfl,hr0_0,hm0_2_11,rfl⟩⟩
 refine QJ (congrArg Value.bool hb270) ?_
 as_aux_lemma =>
 refine QE (QA (W_v (.bool (a2.What == (2:Int))) (QT rfl rfl rfl rfl) rfl (W_v (.bool (a2.What == (2:Int))) (QD rfl) rfl (QB (tn ?_)))))
 rcases Zh H with ⟨hb285,H⟩ | ⟨hb285,H⟩
 ·refine QL (congrArg Value.bool hb285) ?_
  refine QE ?_
  refine Ql (S:=fun w'=>∃ Mx,M267.le Mx ∧ St w' Mx F [Row QK 55 (.slice A222 x221.length c223) x221,Row Qx 161 (.slice A218 x217.length c219) x217,Blk bo0_1 (.cells #[.slice A218 x217.length c219,.slice A222 x221.length c223] 144 (0,0)),B47 b9 t4.1,B107 bo0 a0 A0_0 c0_0 bo0_1 bo0_2 A0_3 c0_3 A0_4 c0_4,B95 bo0_2 a0.m A0_2_8 A0_2_9 A0_2_10 c0_2_10 A0_2_11,QV QH (Value.int .i64) A0_2_8 a0.m.names,QV (Value.int .i64) (Value.int .i64) A0_2_9 a0.m.many,Row QP 122 (.slice A0_2_10 a0.m.txs.length c0_2_10) a0.m.txs,QV encS (fun v:Value=>v) A0_2_11 vs0_2_11,Row Q0 69 (.slice A0_3 a0.done.length c0_3) a0.done,Row (rInt .i64) 3 (.slice A0_4 a0.last.length c0_4) a0.last,B55 b1 a2 A2_0 c2_0]) (L:=12) mixed ?_
  intro w296 hw297 E'
  replace S:=S.heap hw297
  replace E:=E.trans E'
  have D14:∃ Mx,Hp.le M267 Mx ∧ St _ Mx F [_,_,_,_,_,_,_,_,_,_,_,_,_]:=⟨_,Hp.le_refl _,S.pick [0,1,2,3,4,5,6,7,8,9,10,11,12] (by decide)⟩
  refine Wt 0 rfl rfl rfl (pt bo0 0) rfl (fun w' h'=>QC rfl) D14 (Wt 1 rfl rfl rfl (pt bo0 0) rfl (fun w' h'=>Qy rfl) D14 (Wt 2 rfl rfl rfl (pt bo0 4) rfl (fun w' h'=>QF (o:=0) (off:=4) Tryd.underlying107 rfl ty36 rfl rfl) D14 (Wt 3 rfl rfl rfl (.slice A0_4 a0.last.length c0_4) rfl (fun w' h'=>QR (Qj h' 4 rfl) ty36 rfl rfl) D14 (Wt 4 rfl rfl rfl (pt b1 1) rfl (fun w' h'=>QF (o:=0) (off:=1) Tryd.underlying55 rfl ty3 rfl rfl) D14 (Wt 5 rfl rfl rfl (vI a2.Task) rfl (fun w' h'=>QR (Qj h' 12 rfl) ty3 rfl rfl) D14 (Wt 6 rfl rfl rfl (pt bo0 0) rfl (fun w' h'=>QC rfl) D14 (Wt 7 rfl rfl rfl (pt bo0 0) rfl (fun w' h'=>Qy rfl) D14 (Wt 8 rfl rfl rfl (pt bo0 3) rfl (fun w' h'=>QF (o:=0) (off:=3) Tryd.underlying107 rfl ty62 rfl rfl) D14 (Wt 9 rfl rfl rfl (.slice A0_3 a0.done.length c0_3) rfl (fun w' h'=>QR (Qj h' 4 rfl) ty62 rfl rfl) D14 (Wt 10 rfl rfl rfl (vI (a0.done.length:Int)) rfl (fun w' h'=>Qt (n:=a0.done.length) Tryd.underlying62 rfl) D14 ?_))))))))))
  obtain ⟨⟨p298,p299⟩,H⟩:=Zt H
  obtain ⟨b300,o301,_,_,_,ee302,_⟩:=SlW.at' (S.row_read 11 rfl) p298 p299
  refine Wt 11 rfl rfl rfl (.pointer (some ⟨b300,o301 + a2.Task.toNat * 1,none⟩)) rfl (fun w' h'=>Qe Tryd.underlying36 ty3 (slA ee302) rfl p298 p299) D14 ?_
  refine Wo 12 rfl ?_
  obtain ⟨x304,he305,H⟩:=QX H
  replace he305:=Option.some.inj he305
  refine XE S 11 rfl rfl ee302 (by first | exact p298 | simpa using p298) (by first | exact p299 | simpa using p299) 0 ty3 rfl rfl [vI (a0.done.length:Int)] rfl rfl rfl rfl (a0.done.length:Int) (by rintro _ rfl; rfl) he305 ?_
  intro w303 E' S
  replace E:=E.trans E'
  have hs306:Value.slice A0_4 a0.last.length c0_4 = Value.slice A0_4 x304.length c0_4:=by rw [← he305,List.length_set]
  try unfold B47 at S
  try unfold B55 at S
  try unfold B95 at S
  try unfold B107 at S
  try rw [hs306] at S
  try rw [hs306]
  have p307:a2.Task < (x304.length:Int):=by rw [← he305,List.length_set]; exact p299
  refine QB (YC ⟨.inl (by decide),?_⟩)
  refine Wz ?_
  refine tn ?_
  have LE345:=Hp.le_refl M267
  refine Ql (S:=fun w'=>∃ Mx,M267.le Mx ∧ St w' Mx F [Row QK 55 (.slice A222 x221.length c223) x221,Row Qx 161 (.slice A218 x217.length c219) x217,Blk bo0_1 (.cells #[.slice A218 x217.length c219,.slice A222 x221.length c223] 144 (0,0)),B47 b9 t4.1,Blk bo0 (.cells #[.slice A0_0 a0.programs.length c0_0,pt bo0_1 0,pt bo0_2 0,.slice A0_3 a0.done.length c0_3,.slice A0_4 x304.length c0_4] 107 (0,0)),Row (rInt .i64) 3 (.slice A0_4 x304.length c0_4) x304,B55 b1 a2 A2_0 c2_0]) (L:=23) mixed ?_
  intro w346 hw347 E'
  replace S:=S.heap hw347
  replace E:=E.trans E'
  have D15:∃ Mx,Hp.le M267 Mx ∧ St _ Mx F [_,_,_,_,_,_,_]:=⟨_,Hp.le_refl _,S.pick [0,1,2,3,4,11,12] (by decide)⟩
  refine Wt 0 rfl rfl rfl (pt bo0 0) rfl (fun w' h'=>QC rfl) D15 (Wt 1 rfl rfl rfl (pt bo0 0) rfl (fun w' h'=>QC rfl) D15 (Wt 2 rfl rfl rfl (pt bo0 0) rfl (fun w' h'=>Qy rfl) D15 (Wt 3 rfl rfl rfl (pt bo0 3) rfl (fun w' h'=>QF (o:=0) (off:=3) Tryd.underlying107 rfl ty62 rfl rfl) D15 (Wt 4 rfl rfl rfl (.slice A0_3 a0.done.length c0_3) rfl (fun w' h'=>QR (Qj h' 4 rfl) ty62 rfl rfl) D15 (Wt 5 rfl rfl rfl (pt b1 1) rfl (fun w' h'=>QF (o:=0) (off:=1) Tryd.underlying55 rfl ty3 rfl rfl) D15 (Wt 6 rfl rfl rfl (vI a2.Task) rfl (fun w' h'=>QR (Qj h' 6 rfl) ty3 rfl rfl) D15 (Wt 7 rfl rfl rfl (pt b1 2) rfl (fun w' h'=>QF (o:=0) (off:=2) Tryd.underlying55 rfl ty3 rfl rfl) D15 (Wt 8 rfl rfl rfl (vI a2.Call) rfl (fun w' h'=>QR (Qj h' 6 rfl) ty3 rfl rfl) D15 (Wt 9 rfl rfl rfl (pt bo0 0) rfl (fun w' h'=>QC rfl) D15 (Wt 10 rfl rfl rfl (pt bo0 0) rfl (fun w' h'=>Qy rfl) D15 (Wt 11 rfl rfl rfl (pt bo0 2) rfl (fun w' h'=>QF (o:=0) (off:=2) Tryd.underlying107 rfl ty39 rfl rfl) D15 (Wt 12 rfl rfl rfl (pt bo0_2 0) rfl (fun w' h'=>QR (Qj h' 4 rfl) ty39 rfl rfl) D15 (Wt 13 rfl rfl rfl (pt b1 1) rfl (fun w' h'=>QF (o:=0) (off:=1) Tryd.underlying55 rfl ty3 rfl rfl) D15 (Wt 14 rfl rfl rfl (vI a2.Task) rfl (fun w' h'=>QR (Qj h' 6 rfl) ty3 rfl rfl) D15 (Wt 15 rfl rfl rfl (.agg #[vU t4.1.Kind,vI t4.1.Tx,vS t4.1.Key,vS t4.1.End,vS t4.1.Value,vI t4.1.Limit,vU t4.1.Engine]) rfl (fun w' h'=>Qh (Qj h' 3 rfl) ty47 rfl (QI rfl) rfl rfl) D15 ?_)))))))))))))))
  refine Wt 17 rfl rfl rfl (vI a1) rfl (fun w' h'=>QC rfl) D15 ?_
  refine Wo 16 rfl ?_
  obtain ⟨t348,ht349,H⟩:=QX H
  replace S:St w346 M267 F [_,_,_,_,_,_,_,_,_,_,_,_,_]:=S.pick [5,6,7,8,9,0,1,2,3,4,10,11,12] (by decide)
  refine ZZ fn15 (Zb.con k M267 A0_2_8 c0_2_8 A0_2_9 c0_2_9 A0_2_10 c0_2_10 A0_2_11 c0_2_11 vs0_2_11 a0.m a2.Task t4.1 bo0_2 t348 hm0_2_11 hg0 hg1 ht349) (Γ1:=[_,_,_,_,_]) (Γ2:=[_,_,_,_,_,_,_,_]) S rfl rfl ?_
  rintro _ w367 M368 Γ' hM369 E' S ⟨A350,c351,A353,c354,A356,c357,A359,c360,A362,c363,vs365,rfl,hm366,rfl⟩
  replace HM:=Hp.le_trans HM hM369
  replace LE345:=Hp.le_trans LE345 hM369
  replace hr0_0:=SlR.mono hr0_0 hM369
  replace E:=E.trans E'
  replace S:St w367 M368 F [_,_,_,_,_,_,_,_,_,_,_,_,_,_]:=S
  refine QB (YC ⟨.inr ⟨M368,LE345,(S.pick [6,7,8,9,10,12,13] (by decide))⟩,?_⟩)
  refine Wt 18 rfl rfl rfl (.agg #[vI (a2.Task),vI (a2.Call),vI t348.1.Err,.bool t348.1.Found,vS t348.1.Value,.slice A350 t348.1.Pairs.length c351,vI a1,vI (-1)]) rfl (fun w' h'=>ZN (pl:=[(0,1),(1,1),(2,4),(6,1),(7,1)]) #[vI (a2.Task),vI (a2.Call),vI t348.1.Err,.bool t348.1.Found,vS t348.1.Value,.slice A350 t348.1.Pairs.length c351,vI a1,vI (-1)] Tryd.underlying69 ty69 (by as_aux_lemma=>kernel_rfl) rfl (by as_aux_lemma=>kernel_rfl)) (⟨M368,LE345,(S.pick [6,7,8,9,10,12,13] (by decide))⟩) ?_
  refine Wo 19 rfl ?_
  obtain ⟨M370,hM371,hf372,S⟩:=S.row_freeze 0 rfl
  replace HM:=Hp.le_trans HM hM371
  replace LE345:=Hp.le_trans LE345 hM371
  replace hr0_0:=SlR.mono hr0_0 hM371
  replace hm366:=YP.mono hm366 hM371
  refine Y6 S #[vI (a2.Task),vI (a2.Call),vI t348.1.Err,.bool t348.1.Found,vS t348.1.Value,.slice A350 t348.1.Pairs.length c351,vI a1,vI (-1)] Tryd.underlying62 ty69 rfl rfl #[vI 0,vI 0,vI 0,.bool false,vS ([]:Str),.slice none 0 0,vI 0,vI 0] (by as_aux_lemma=>kernel_rfl) (by as_aux_lemma=>kernel_rfl) rfl ?_
  intro b373 w374 E' S
  replace E:=E.trans E'
  replace S:=S.blk_row (r:=Q0) (l:=([(⟨(a2.Task),(a2.Call),⟨t348.1.Err,t348.1.Found,t348.1.Value,t348.1.Pairs⟩,a1,(-1:Int)⟩:ZL)]:List ZL)) 0 rfl 1 (Nat.le_refl 1) rfl (Cells.cons (vs:=[vI (a2.Task),vI (a2.Call),vI t348.1.Err,.bool t348.1.Found,vS t348.1.Value,.slice A350 t348.1.Pairs.length c351,vI a1,vI (-1)]) (⟨_,hf372,rfl⟩) Cells.nil)
  refine QB (YC ⟨.inr ⟨M370,LE345,(S.pick [6,7,8,9,10,12,13] (by decide))⟩,?_⟩)
  refine Wo 20 rfl ?_
  obtain ⟨p376,H⟩:=Zt H
  obtain ⟨src377,hs378,hC379⟩:=Yj (P:=Tryd.prog) (ρ:=Q0) (l:=([(⟨(a2.Task),(a2.Call),⟨t348.1.Err,t348.1.Found,t348.1.Value,t348.1.Pairs⟩,a1,(-1:Int)⟩:ZL)]:List ZL)) (S.row_read 0 rfl) (by decide)
  refine XN S 11 rfl rfl rfl Tryd.underlying62 (.inl Tryd.underlying62) ty69 rfl (by decide) (by decide) hs378 hC379 rfl (by omega) rfl ?_
  intro v380 w381 E' S
  replace E:=E.trans E'
  obtain ⟨A382,c383,rfl,_⟩:=(S.row_read 11 rfl).form
  refine QB (YC ⟨.inr ⟨M370,LE345,(S.pick [6,7,8,9,10,12,13] (by decide))⟩,?_⟩)
  refine Wt 21 rfl rfl rfl (pt bo0 0) rfl (fun w' h'=>Qy rfl) (⟨M370,LE345,(S.pick [6,7,8,9,10,12,13] (by decide))⟩) (Wt 22 rfl rfl rfl (pt bo0 3) rfl (fun w' h'=>QF (o:=0) (off:=3) Tryd.underlying107 rfl ty62 rfl rfl) (⟨M370,LE345,(S.pick [6,7,8,9,10,12,13] (by decide))⟩) ?_)
  refine Wo 23 rfl ?_
  refine Q5 S 10 rfl ty62 rfl rfl [.slice A382 (a0.done ++ ([(⟨(a2.Task),(a2.Call),⟨t348.1.Err,t348.1.Found,t348.1.Value,t348.1.Pairs⟩,a1,(-1:Int)⟩:ZL)]:List ZL)).length c383] rfl rfl rfl #[.slice A0_0 a0.programs.length c0_0,pt bo0_1 0,pt bo0_2 0,.slice A382 (a0.done ++ ([(⟨(a2.Task),(a2.Call),⟨t348.1.Err,t348.1.Found,t348.1.Value,t348.1.Pairs⟩,a1,(-1:Int)⟩:ZL)]:List ZL)).length c383,.slice A0_4 x304.length c0_4] rfl rfl ?_
  intro w384 E' S
  replace E:=E.trans E'
  refine QB (YC ⟨.inl (by decide),?_⟩)
  refine Wz ?_
  refine bn (tn (QE (QA (W_v (vI 0) (QD rfl) rfl (QB (tn ?_))))))
  refine QY ?_
  obtain rfl:=Option.some.inj H
  exact ⟨_,_,_,fun w1 e1=>QO (vs:=[vI 0]) (FA.cons (rfl) (FA.nil)),HM,E,S.pick [10,8,7,6,1,2,3,4,5,11,12] (by decide),⟨A0_0,c0_0,A218,c219,A222,c223,A353,c354,A356,c357,A359,c360,A362,c363,vs365,A382,c383,A0_4,c0_4,rfl,hr0_0,hm366,rfl⟩⟩
 refine QJ (congrArg Value.bool hb285) ?_
 as_aux_lemma =>
 refine QE (QA (W_v (.bool (a2.What == (3:Int))) (QT rfl rfl rfl rfl) rfl (W_v (.bool (a2.What == (3:Int))) (QD rfl) rfl (QB (tn ?_)))))
 rcases Zh H with ⟨hb385,H⟩ | ⟨hb385,H⟩
 ·refine QL (congrArg Value.bool hb385) ?_
  refine QE ?_
  refine Ql (S:=fun w'=>∃ Mx,M267.le Mx ∧ St w' Mx F [Row QK 55 (.slice A222 x221.length c223) x221,Row Qx 161 (.slice A218 x217.length c219) x217,Blk bo0_1 (.cells #[.slice A218 x217.length c219,.slice A222 x221.length c223] 144 (0,0)),B47 b9 t4.1,B107 bo0 a0 A0_0 c0_0 bo0_1 bo0_2 A0_3 c0_3 A0_4 c0_4,B95 bo0_2 a0.m A0_2_8 A0_2_9 A0_2_10 c0_2_10 A0_2_11,QV QH (Value.int .i64) A0_2_8 a0.m.names,QV (Value.int .i64) (Value.int .i64) A0_2_9 a0.m.many,Row QP 122 (.slice A0_2_10 a0.m.txs.length c0_2_10) a0.m.txs,QV encS (fun v:Value=>v) A0_2_11 vs0_2_11,Row Q0 69 (.slice A0_3 a0.done.length c0_3) a0.done,Row (rInt .i64) 3 (.slice A0_4 a0.last.length c0_4) a0.last,B55 b1 a2 A2_0 c2_0]) (L:=14) mixed ?_
  intro w405 hw406 E'
  replace S:=S.heap hw406
  replace E:=E.trans E'
  have D16:∃ Mx,Hp.le M267 Mx ∧ St _ Mx F [_,_,_,_,_,_,_,_,_,_,_,_,_]:=⟨_,Hp.le_refl _,S.pick [0,1,2,3,4,5,6,7,8,9,10,11,12] (by decide)⟩
  refine Wt 0 rfl rfl rfl (pt bo0 0) rfl (fun w' h'=>QC rfl) D16 (Wt 1 rfl rfl rfl (pt bo0 0) rfl (fun w' h'=>Qy rfl) D16 (Wt 2 rfl rfl rfl (pt bo0 3) rfl (fun w' h'=>QF (o:=0) (off:=3) Tryd.underlying107 rfl ty62 rfl rfl) D16 (Wt 3 rfl rfl rfl (.slice A0_3 a0.done.length c0_3) rfl (fun w' h'=>QR (Qj h' 4 rfl) ty62 rfl rfl) D16 (Wt 4 rfl rfl rfl (pt bo0 0) rfl (fun w' h'=>QC rfl) D16 (Wt 5 rfl rfl rfl (pt bo0 0) rfl (fun w' h'=>Qy rfl) D16 (Wt 6 rfl rfl rfl (pt bo0 4) rfl (fun w' h'=>QF (o:=0) (off:=4) Tryd.underlying107 rfl ty36 rfl rfl) D16 (Wt 7 rfl rfl rfl (.slice A0_4 a0.last.length c0_4) rfl (fun w' h'=>QR (Qj h' 4 rfl) ty36 rfl rfl) D16 (Wt 8 rfl rfl rfl (pt b1 1) rfl (fun w' h'=>QF (o:=0) (off:=1) Tryd.underlying55 rfl ty3 rfl rfl) D16 (Wt 9 rfl rfl rfl (vI a2.Task) rfl (fun w' h'=>QR (Qj h' 12 rfl) ty3 rfl rfl) D16 ?_)))))))))
  obtain ⟨⟨p407,p408⟩,H⟩:=Zt H
  obtain ⟨b409,o410,_,_,_,ee411,_⟩:=SlW.at' (S.row_read 11 rfl) p407 p408
  refine Wt 10 rfl rfl rfl (.pointer (some ⟨b409,o410 + a2.Task.toNat * 1,none⟩)) rfl (fun w' h'=>Qe Tryd.underlying36 ty3 (slA ee411) rfl p407 p408) D16 (Wt 11 rfl rfl rfl (vI (rd a0.last a2.Task)) rfl (fun w' h'=>Xp h' 11 rfl ee411 p407 p408 0 (by rintro _ _ rfl; rfl) ty3 rfl) D16 ?_)
  obtain ⟨⟨p412,p413⟩,H⟩:=Zt H
  obtain ⟨b414,o415,cs416,_,_,ee421,hb417,vs418,hR419,hc420⟩:=SlW.at' (S.row_read 10 rfl) p412 p413
  obtain ⟨v425,hs424,rfl⟩:=hR419
  obtain ⟨A422,c423,rfl,_⟩:=hs424.form
  refine Wt 12 rfl rfl rfl (.pointer (some ⟨b414,o415 + (rd a0.last a2.Task).toNat * 8,none⟩)) rfl (fun w' h'=>Qe Tryd.underlying62 ty69 (slA ee421) rfl p412 p413) D16 (Wt 13 rfl rfl rfl (.pointer (some ⟨b414,o415 + (rd a0.last a2.Task).toNat * 8,none⟩)) rfl (fun w' h'=>QD rfl) D16 ?_)
  refine Wz ?_
  refine tn (QE (QA (W_v (.pointer (some ⟨b414,o415 + (rd a0.last a2.Task).toNat * 8,none⟩)) (QC rfl) rfl (W_v (vI a1) (QC rfl) rfl (W_v (.pointer (some ⟨b414,o415 + (rd a0.last a2.Task).toNat * 8,none⟩)) (Qy rfl) rfl (W_v (.pointer (some ⟨b414,o415 + (rd a0.last a2.Task).toNat * 8 + 7,none⟩)) (QF (o:=o415 + (rd a0.last a2.Task).toNat * 8) (off:=7) Tryd.underlying69 rfl ty3 rfl rfl) rfl ?_))))))
  obtain ⟨x427,he428,H⟩:=QX H
  replace he428:=Option.some.inj he428
  refine XE S 10 rfl rfl ee421 (by first | exact p412 | simpa using p412) (by first | exact p413 | simpa using p413) 7 ty3 rfl rfl [vI a1] rfl rfl rfl rfl (⟨(rd a0.done (rd a0.last a2.Task)).Task,(rd a0.done (rd a0.last a2.Task)).Call,⟨(rd a0.done (rd a0.last a2.Task)).Answer.Err,(rd a0.done (rd a0.last a2.Task)).Answer.Found,(rd a0.done (rd a0.last a2.Task)).Answer.Value,(rd a0.done (rd a0.last a2.Task)).Answer.Pairs⟩,(rd a0.done (rd a0.last a2.Task)).Mark,a1⟩:ZL) (by rintro _ ⟨_,h5,rfl⟩; exact ⟨_,h5,rfl⟩) he428 ?_
  intro w426 E' S
  replace E:=E.trans E'
  have hs429:Value.slice A0_3 a0.done.length c0_3 = Value.slice A0_3 x427.length c0_3:=by rw [← he428,List.length_set]
  try unfold B47 at S
  try unfold B55 at S
  try unfold B95 at S
  try unfold B107 at S
  try rw [hs429] at S
  try rw [hs429]
  have p430:(rd a0.last a2.Task) < (x427.length:Int):=by rw [← he428,List.length_set]; exact p413
  refine QB (tn (QE ?_))
  refine Ql (S:=fun w'=>∃ Mx,M267.le Mx ∧ St w' Mx F [Row QK 55 (.slice A222 x221.length c223) x221,Row Qx 161 (.slice A218 x217.length c219) x217,Blk bo0_1 (.cells #[.slice A218 x217.length c219,.slice A222 x221.length c223] 144 (0,0)),B47 b9 t4.1,Blk bo0 (.cells #[.slice A0_0 a0.programs.length c0_0,pt bo0_1 0,pt bo0_2 0,.slice A0_3 x427.length c0_3,.slice A0_4 a0.last.length c0_4] 107 (0,0)),B95 bo0_2 a0.m A0_2_8 A0_2_9 A0_2_10 c0_2_10 A0_2_11,QV QH (Value.int .i64) A0_2_8 a0.m.names,QV (Value.int .i64) (Value.int .i64) A0_2_9 a0.m.many,Row QP 122 (.slice A0_2_10 a0.m.txs.length c0_2_10) a0.m.txs,QV encS (fun v:Value=>v) A0_2_11 vs0_2_11,Row Q0 69 (.slice A0_3 x427.length c0_3) x427,Row (rInt .i64) 3 (.slice A0_4 a0.last.length c0_4) a0.last,B55 b1 a2 A2_0 c2_0]) (L:=8) mixed ?_
  intro w446 hw447 E'
  replace S:=S.heap hw447
  replace E:=E.trans E'
  have D17:∃ Mx,Hp.le M267 Mx ∧ St _ Mx F [_,_,_,_,_,_,_,_,_,_,_,_,_]:=⟨_,Hp.le_refl _,S.pick [0,1,2,3,4,5,6,7,8,9,10,11,12] (by decide)⟩
  refine Wt 0 rfl rfl rfl (.pointer (some ⟨b414,o415 + (rd a0.last a2.Task).toNat * 8,none⟩)) rfl (fun w' h'=>QC rfl) D17 (Wt 1 rfl rfl rfl (.pointer (some ⟨b414,o415 + (rd a0.last a2.Task).toNat * 8,none⟩)) rfl (fun w' h'=>Qy rfl) D17 (Wt 2 rfl rfl rfl (.pointer (some ⟨b414,o415 + (rd a0.last a2.Task).toNat * 8 + 2,none⟩)) rfl (fun w' h'=>QF (o:=o415 + (rd a0.last a2.Task).toNat * 8) (off:=2) Tryd.underlying69 rfl ty34 rfl rfl) D17 (Wt 4 rfl rfl rfl (pt b1 3) rfl (fun w' h'=>QF (o:=0) (off:=3) Tryd.underlying55 rfl ty34 rfl rfl) D17 (Wt 5 rfl rfl rfl (.agg #[vI a2.Answer.Err,.bool a2.Answer.Found,vS a2.Answer.Value,.slice A2_0 a2.Answer.Pairs.length c2_0]) rfl (fun w' h'=>Qh (Qj h' 12 rfl) ty34 rfl (QI rfl) rfl rfl) D17 ?_))))
  refine Wo 3 rfl ?_
  obtain ⟨b448,o449,cs450,_,_,ee455,hb451,vs452,hR453,hc454⟩:=SlW.at' (S.row_read 10 rfl) p412 p430
  obtain ⟨rfl,rfl⟩:b448 = b414 ∧ o449 = o415:=by simpa using ee455.symm.trans ee421
  obtain ⟨v459,hs458,rfl⟩:=hR453
  obtain ⟨A456,c457,rfl,_⟩:=hs458.form
  refine W_v (.agg #[vI ((rd x427 (rd a0.last a2.Task)).Answer.Err),.bool ((rd x427 (rd a0.last a2.Task)).Answer.Found),vS ((rd x427 (rd a0.last a2.Task)).Answer.Value),.slice A456 ((rd x427 (rd a0.last a2.Task)).Answer.Pairs).length c457]) (Qh (Hp.of_get hb451) ty34 rfl (XC hc454 2 rfl) rfl rfl) rfl ?_
  refine QB (YC ⟨.inr ⟨M267,Hp.le_refl M267,(S.pick [0,1,2,3,4,5,6,7,8,9,10,11,12] (by decide))⟩,?_⟩)
  refine Wo 6 rfl ?_
  obtain ⟨t460,ht461,H⟩:=QX H
  refine YJ fn12 (Y4.con k M267 A456 c457 ((rd x427 (rd a0.last a2.Task)).Answer) A2_0 c2_0 a2.Answer t460 hs458 hr2_0 ht461) S rfl rfl (by rintro _ _ _ ⟨_,rfl⟩; exact Qd) ?_
  rintro _ w462 _ Γ' E' S ⟨rfl,rfl⟩
  replace E:=E.trans E'
  refine QB (YC ⟨.inr ⟨M267,Hp.le_refl M267,(S.pick [0,1,2,3,4,5,6,7,8,9,10,11,12] (by decide))⟩,?_⟩)
  refine Wt 7 rfl rfl rfl (.bool (!t460)) rfl (fun w' h'=>Yx (b:=t460) rfl) (⟨M267,Hp.le_refl M267,(S.pick [0,1,2,3,4,5,6,7,8,9,10,11,12] (by decide))⟩) ?_
  refine Wz ?_
  refine tn ?_
  rcases Zh H with ⟨hb463,H⟩ | ⟨hb463,H⟩
  ·refine QL (congrArg Value.bool hb463) ?_
   refine QE (QA (W_v (vI 7) (QD rfl) rfl (QB (tn ?_))))
   refine QY ?_
   refine br (tr (?_))
   obtain rfl:=Option.some.inj H
   exact ⟨_,_,_,fun w1 e1=>QO (vs:=[vI 7]) (FA.cons (rfl) (FA.nil)),HM,E,S.pick [4,2,1,0,5,6,7,8,9,10,11] (by decide),⟨A0_0,c0_0,A218,c219,A222,c223,A0_2_8,c0_2_8,A0_2_9,c0_2_9,A0_2_10,c0_2_10,A0_2_11,c0_2_11,vs0_2_11,A0_3,c0_3,A0_4,c0_4,rfl,hr0_0,hm0_2_11,rfl⟩⟩
  refine QJ (congrArg Value.bool hb463) (Qg (bn (tn ?_)))
  as_aux_lemma =>
  refine QE (QA (W_v (vI 0) (QD rfl) rfl (QB (tn ?_))))
  refine QY ?_
  obtain rfl:=Option.some.inj H
  exact ⟨_,_,_,fun w1 e1=>QO (vs:=[vI 0]) (FA.cons (rfl) (FA.nil)),HM,E,S.pick [4,2,1,0,5,6,7,8,9,10,11] (by decide),⟨A0_0,c0_0,A218,c219,A222,c223,A0_2_8,c0_2_8,A0_2_9,c0_2_9,A0_2_10,c0_2_10,A0_2_11,c0_2_11,vs0_2_11,A0_3,c0_3,A0_4,c0_4,rfl,hr0_0,hm0_2_11,rfl⟩⟩
 refine QJ (congrArg Value.bool hb385) (Qg (bn (tn ?_)))
 as_aux_lemma =>
 refine QE (QA (W_v (vI 0) (QD rfl) rfl (QB (tn ?_))))
 refine QY ?_
 obtain rfl:=Option.some.inj H
 exact ⟨_,_,_,fun w1 e1=>QO (vs:=[vI 0]) (FA.cons (rfl) (FA.nil)),HM,E,S.pick [4,2,1,0,5,6,7,8,9,10,11] (by decide),⟨A0_0,c0_0,A218,c219,A222,c223,A0_2_8,c0_2_8,A0_2_9,c0_2_9,A0_2_10,c0_2_10,A0_2_11,c0_2_11,vs0_2_11,A0_3,c0_3,A0_4,c0_4,rfl,hr0_0,hm0_2_11,rfl⟩⟩
def Y1 (a2:(List QG)):Nat → Int → List (List QW) → List ZL → List Int → List Z3 → List QG → QM → Option (((Unit) ⊕ (Unit) ⊕ (ZX)) ⊕ (List (List QW) × List ZL × List Int × List Z3 × List QG × QM))
 | 0,_,_,_,_,_,_,_=>none
 | k + 1,x232,x233,x237,x241,x245,x249,x253=>(if (decide (x232 < (a2.length:Int))) = true then (if 0 ≤ x232 ∧ x232 < (a2.length:Int) then (Option.bind (ZA k (⟨x233,(⟨x245,x249⟩:Qb),x253,x237,x241⟩:ZX) x232 (rd a2 x232)) (fun t380=>(if (t380.1 == (4:Int)) = true then some (.inl (Sum.inr (Sum.inl ()))) else Y1 a2 k (IntKind.i64.wrap (x232 + (1:Int))) t380.2.programs t380.2.done t380.2.last t380.2.r.tasks t380.2.r.l t380.2.m))) else none) else some (.inr (x233,x237,x241,x245,x249,x253)))
theorem Y1.mono {a2:(List QG)}:∀ {kl:Nat} {x0 x1 x2 x3 x4 x5 x6},OLe (Y1 a2 kl x0 x1 x2 x3 x4 x5 x6) (Y1 a2 (kl + 1) x0 x1 x2 x3 x4 x5 x6):=by
 intro kl
 induction kl with
 | zero=>intros; exact OLe.none
 | succ kl ih =>
  intros
  rw [Y1.eq_2,Y1.eq_2]
  have m1:=@ZA.mono
  exact mo
def Z4 (k:Nat) (a0:Qo) (a1:(List (List QW))) (a2:(List QG)):Option ((Unit) ⊕ (Unit) ⊕ (ZX)) :=
 (Option.bind (ZH k a0 a1) (fun t4=>(Sum.elim (fun t6=>some (Sum.inl ())) (Sum.elim (fun t7=>(Option.bind (Y1 a2 k (0:Int) t7.programs t7.done t7.last t7.r.tasks t7.r.l t7.m) (fun o357o=>Sum.elim (fun r'=>some r') (fun ⟨x322,x326,x330,x334,x338,x342⟩=>some (Sum.inr (Sum.inr (⟨x322,(⟨x334,x338⟩:Qb),x342,x326,x330⟩:ZX)))) o357o))) (Sum.elim (fun t8=>some (Sum.inl ())) (Sum.elim (fun t9=>some (Sum.inl ())) (fun t10=>some (Sum.inl ())))))) t4))
theorem Z4.mono {k:Nat} {a0:Qo} {a1:(List (List QW))} {a2:(List QG)}:OLe (Z4 k a0 a1 a2) (Z4 (k + 1) a0 a1 a2):=by
 unfold Z4
 have m1:=@ZH.mono
 have m2:=@Y1.mono
 exact mo
theorem Z4.con (k:Nat) (M:Hp) (a0:Qo) (A1:Option Addr) (c1:Nat) (a1:(List (List QW))) (A2:Option Addr) (c2:Nat) (a2:(List QG)) (r:(Unit) ⊕ (Unit) ⊕ (ZX)) (hr1:SlR (rSl ZV) M (.slice A1 a1.length c1) a1) (hr2:SlR QK M (.slice A2 a2.length c2) a2) (hg0:∃ gt fr,M 0 = some (.cells cz1 gt fr)) (hg1:∃ gt fr,M 1 = some (.cells cz3 gt fr)) (h:Z4 k a0 a1 a2 = some r):Con Tryd.prog 30 #[.agg #[vI a0.Tasks,vI a0.Active,vI a0.Keys,vI a0.Depth,vI a0.TS,vI a0.KeyLen,vI a0.ValLen,vI a0.Fan],.slice A1 a1.length c1,.slice A2 a2.length c2] M [] (fun v M' Γ'=>(Sum.elim (fun x=>v = .tuple cz17 ∧ Γ' = []) (Sum.elim (fun x=>v = .tuple cz18 ∧ Γ' = []) (fun x=>∃ (bq1:Nat) (Aq3:Option Addr) (cq4:Nat) (bq6:Nat) (Aq8:Option Addr) (cq9:Nat) (Aq11:Option Addr) (cq12:Nat) (bq14:Nat) (Aq16:Option Addr) (cq17:Nat) (Aq19:Option Addr) (cq20:Nat) (Aq22:Option Addr) (cq23:Nat) (Aq25:Option Addr) (cq26:Nat) (vsq28:List (Str × Value)) (Aq30:Option Addr) (cq31:Nat) (Aq33:Option Addr) (cq34:Nat),v = .tuple #[pt bq1 0,vI 0] ∧ SlR (rSl ZV) M' (.slice Aq3 x.programs.length cq4) x.programs ∧ YP Qm M' x.m.rows vsq28 ∧ Γ' = [B107 bq1 x Aq3 cq4 bq6 bq14 Aq30 cq31 Aq33 cq34,Blk bq6 (.cells #[.slice Aq8 x.r.tasks.length cq9,.slice Aq11 x.r.l.length cq12] 144 (0,0)),Row Qx 161 (.slice Aq8 x.r.tasks.length cq9) x.r.tasks,Row QK 55 (.slice Aq11 x.r.l.length cq12) x.r.l,B95 bq14 x.m Aq16 Aq19 Aq22 cq23 Aq25,QV QH (Value.int .i64) Aq16 x.m.names,QV (Value.int .i64) (Value.int .i64) Aq19 x.m.many,Row QP 122 (.slice Aq22 x.m.txs.length cq23) x.m.txs,QV encS (fun v:Value=>v) Aq25 vsq28,Row Q0 69 (.slice Aq30 x.done.length cq31) x.done,Row (rInt .i64) 3 (.slice Aq33 x.last.length cq34) x.last]))) r):=by
 refine Qa Tryd.func30 rfl Tryd.ntmps30 Tryd.results30 rfl ?_
 intro w F rn S hrn
 have E:=Ext.refl w
 have HM:=Hp.le_refl M
 have H:=h
 unfold Z4 at H
 refine QE (QA ?_)
 refine YO S #[vI a0.Tasks,vI a0.Active,vI a0.Keys,vI a0.Depth,vI a0.TS,vI a0.KeyLen,vI a0.ValLen,vI a0.Fan] rfl rfl rfl ?_
 intro b1 w2 E' S
 replace E:=E.trans E'
 refine W_v (.pointer none) (QD rfl) rfl (W_v (vI 0) (QD rfl) rfl (QB (tn (QE (QA (W_v (.agg #[vI a0.Tasks,vI a0.Active,vI a0.Keys,vI a0.Depth,vI a0.TS,vI a0.KeyLen,vI a0.ValLen,vI a0.Fan]) (Qh (S.blk 0 rfl) ty23 rfl (QI rfl) rfl rfl) rfl (W_v (.slice A1 a1.length c1) (QC rfl) rfl ?_)))))))
 obtain ⟨t4,ht5,H⟩:=QX H
 rcases t4 with t6 | t7 | t8 | t9 | t10
 ·skip
  replace H:=elimL H
  refine Z2 fn27 (ZH.con k M a0 A1 c1 a1 (Sum.inl t6) hr1 ht5) (Γ1:=[]) (Γ2:=[_]) S rfl rfl (by rintro _ _ _ ⟨rfl,rfl⟩; exact Qd) ?_
  rintro _ w11 _ Γ' E' S ⟨rfl,rfl⟩
  replace E:=E.trans E'
  replace S:St w11 M F [_]:=S
  refine W_v (.tuple cz16) (QC rfl) rfl (W_v (.pointer none) (QQ rfl rfl) rfl (W_v (.bool false) (QQ rfl rfl) rfl (W_v (.pointer none) (QD rfl) rfl (W_v (.bool false) (QD rfl) rfl (QB (tn (QE (QE (QA (W_v (.bool false) (QC rfl) rfl (W_v (.bool true) (Yx (b:=false) rfl) rfl (QB (tn (QL rfl (QE ?_)))))))))))))))
  refine QA (W_v (.pointer none) (QD rfl) rfl (W_v (vI 1) (QD rfl) rfl (QB (tn ?_))))
  refine QY ?_
  refine tr (?_)
  obtain rfl:=Option.some.inj H
  exact ⟨_,_,_,fun w1 e1=>QO (vs:=[.pointer none,vI 1]) (FA.cons (rfl) (FA.cons (rfl) (FA.nil))),HM,E,S.pick [] (by decide),⟨rfl,rfl⟩⟩
 ·skip
  replace H:=elimR H
  replace H:=elimL H
  refine ZZ fn27 (ZH.con k M a0 A1 c1 a1 (Sum.inr (Sum.inl t7)) hr1 ht5) (Γ1:=[]) (Γ2:=[_]) S rfl rfl ?_
  rintro _ w49 M50 Γ' hM51 E' S ⟨b14,A16,c17,b19,A21,c22,A24,c25,b27,A29,c30,A32,c33,A35,c36,A38,c39,vs41,A43,c44,A46,c47,rfl,hs18,hm42,rfl⟩
  replace hg0:=gup hg0 hM51
  replace hg1:=gup hg1 hM51
  replace HM:=Hp.le_trans HM hM51
  replace hr2:=SlR.mono hr2 hM51
  replace E:=E.trans E'
  replace S:St w49 M50 F [_,_,_,_,_,_,_,_,_,_,_,_]:=S
  refine W_v (.tuple #[pt b14 0,.bool true]) (QC rfl) rfl (W_v (pt b14 0) (QQ rfl rfl) rfl (W_v (.bool true) (QQ rfl rfl) rfl (W_v (pt b14 0) (QD rfl) rfl (W_v (.bool true) (QD rfl) rfl (QB (tn (QE (QE (QA (W_v (.bool true) (QC rfl) rfl (W_v (.bool false) (Yx (b:=true) rfl) rfl (QB (tn (QJ rfl (Qg ?_)))))))))))))))
  refine tn (QE (QE (QA (W_v (.slice A2 a2.length c2) (QC rfl) rfl (W_v (vI (a2.length:Int)) (Qt (n:=a2.length) Tryd.underlying25 rfl) rfl (W_v (vI 0) (QC rfl) rfl (QB (tn ?_))))))))
  obtain ⟨o357,o357h,o357H⟩:=QX H
  refine Ya (fun ρ w'=>∃ (x322:List (List QW)) (x326:List ZL) (x330:List Int) (x334:List Z3) (x338:List QG) (x342:QM) (A323:Option Addr) (c324:Nat) (A327:Option Addr) (c328:Nat) (A331:Option Addr) (c332:Nat) (A335:Option Addr) (c336:Nat) (A339:Option Addr) (c340:Nat) (A343:Option Addr) (c344:Nat) (A346:Option Addr) (c347:Nat) (A349:Option Addr) (c350:Nat) (A352:Option Addr) (c353:Nat) (vs355:List (Str × Value)) (Mj:Hp),.inr (x322,x326,x330,x334,x338,x342) = o357 ∧ Qs ρ [(8,pt b14 0)] ∧ M50.le Mj ∧ Ext w w' ∧ St w' Mj F [QV encS (fun v:Value=>v) A352 vs355,Row QP 122 (.slice A349 x342.txs.length c350) x342.txs,QV (Value.int .i64) (Value.int .i64) A346 x342.many,QV QH (Value.int .i64) A343 x342.names,Row QK 55 (.slice A339 x338.length c340) x338,Row Qx 161 (.slice A335 x334.length c336) x334,Row (rInt .i64) 3 (.slice A331 x330.length c332) x330,Row Q0 69 (.slice A327 x326.length c328) x326,Blk b14 (.cells #[.slice A323 x322.length c324,pt b19 0,pt b27 0,.slice A327 x326.length c328,.slice A331 x330.length c332] 107 (0,0)),Blk b19 (.cells #[.slice A335 x334.length c336,.slice A339 x338.length c340] 144 (0,0)),B95 b27 x342 A343 A346 A349 c350 A352] ∧ SlR (rSl ZV) Mj (.slice A323 x322.length c324) x322 ∧ YP Qm Mj x342.rows vs355) ?_ ?_
  ·skip
   refine Y0 (fun n ρ w'=>∃ (x232:Int) (x233:List (List QW)) (x237:List ZL) (x241:List Int) (x245:List Z3) (x249:List QG) (x253:QM) (A234:Option Addr) (c235:Nat) (A238:Option Addr) (c239:Nat) (A242:Option Addr) (c243:Nat) (A246:Option Addr) (c247:Nat) (A250:Option Addr) (c251:Nat) (A254:Option Addr) (c255:Nat) (A257:Option Addr) (c258:Nat) (A260:Option Addr) (c261:Nat) (A263:Option Addr) (c264:Nat) (vs266:List (Str × Value)) (Mj:Hp),Y1 a2 n x232 x233 x237 x241 x245 x249 x253 = some o357 ∧ Qs ρ [(8,pt b14 0),(20,.slice A2 a2.length c2),(21,vI (a2.length:Int)),(22,vI x232)] ∧ M50.le Mj ∧ Ext w w' ∧ St w' Mj F [QV encS (fun v:Value=>v) A263 vs266,Row QP 122 (.slice A260 x253.txs.length c261) x253.txs,QV (Value.int .i64) (Value.int .i64) A257 x253.many,QV QH (Value.int .i64) A254 x253.names,Row QK 55 (.slice A250 x249.length c251) x249,Row Qx 161 (.slice A246 x245.length c247) x245,Row (rInt .i64) 3 (.slice A242 x241.length c243) x241,Row Q0 69 (.slice A238 x237.length c239) x237,Blk b14 (.cells #[.slice A234 x233.length c235,pt b19 0,pt b27 0,.slice A238 x237.length c239,.slice A242 x241.length c243] 107 (0,0)),Blk b19 (.cells #[.slice A246 x245.length c247,.slice A250 x249.length c251] 144 (0,0)),B95 b27 x253 A254 A257 A260 c261 A263] ∧ SlR (rSl ZV) Mj (.slice A234 x233.length c235) x233 ∧ YP Qm Mj x253.rows vs266) k ?_ ?_
   ·skip
    exact ⟨(0:Int),t7.programs,t7.done,t7.last,t7.r.tasks,t7.r.l,t7.m,A16,c17,A43,c44,A46,c47,A21,c22,A24,c25,A29,c30,A32,c33,A35,c36,A38,c39,vs41,M50,o357h,⟨rfl,rfl,rfl,rfl,trivial⟩,(Hp.le_refl M50),E,S.pick [8,7,6,5,3,2,10,9,0,1,4] (by decide),hs18,hm42⟩
   ·intro n
    rintro ρ w358 ⟨x232,x233,x237,x241,x245,x249,x253,A234,c235,A238,c239,A242,c243,A246,c247,A250,c251,A254,c255,A257,c258,A260,c261,A263,c264,vs266,M359,H,hρ,hM360,E,S,hs236,hm267⟩
    rw [QN hρ]
    replace hg0:=gup hg0 hM360
    replace hg1:=gup hg1 hM360
    replace HM:=Hp.le_trans HM hM360
    replace hr2:=SlR.mono hr2 hM360
    cases n with
    | zero=>cases H
    | succ k =>
     rw [Y1.eq_2] at H
     refine QE (QA (W_v (.bool (decide (x232 < (a2.length:Int)))) (QT rfl rfl rfl rfl) rfl (QB (tn (QE ?_)))))
     rcases Zh H with ⟨hb361,H⟩ | ⟨hb361,H⟩
     ·refine QL (congrArg Value.bool hb361) ?_
      refine Qg (tn (QE ?_))
      refine Z0 ?_
      refine QE (QA (W_v (vI x232) (QC rfl) rfl ?_))
      obtain ⟨⟨p362,p363⟩,H⟩:=Zt H
      obtain ⟨b364,o365,cs366,_,_,ee371,hb367,vs368,hR369,hc370⟩:=SlW.at' hr2 p362 p363
      obtain ⟨v375,hs374,rfl⟩:=hR369
      obtain ⟨A372,c373,rfl,_⟩:=hs374.form
      refine W_v (.pointer (some ⟨b364,o365 + x232.toNat * 7,none⟩)) (Qe Tryd.underlying25 ty55 (slA ee371) rfl p362 p363) rfl (W_v (.agg #[vU ((rd a2 x232).What),vI ((rd a2 x232).Task),vI ((rd a2 x232).Call),vI ((rd a2 x232).Answer.Err),.bool ((rd a2 x232).Answer.Found),vS ((rd a2 x232).Answer.Value),.slice A372 ((rd a2 x232).Answer.Pairs).length c373]) (Qh (S.frz hb367) ty55 rfl (XC hc370 0 rfl) rfl rfl) rfl ?_)
      refine Zu S cz5 ty55 rfl rfl ?_
      intro b376 w377 E' S
      replace E:=E.trans E'
      refine W_v (vI x232) (QD rfl) rfl ?_
      refine Q5 S 0 rfl ty55 rfl rfl [vU ((rd a2 x232).What),vI ((rd a2 x232).Task),vI ((rd a2 x232).Call),vI ((rd a2 x232).Answer.Err),.bool ((rd a2 x232).Answer.Found),vS ((rd a2 x232).Answer.Value),.slice A372 ((rd a2 x232).Answer.Pairs).length c373] rfl rfl rfl #[vU ((rd a2 x232).What),vI ((rd a2 x232).Task),vI ((rd a2 x232).Call),vI ((rd a2 x232).Answer.Err),.bool ((rd a2 x232).Answer.Found),vS ((rd a2 x232).Answer.Value),.slice A372 ((rd a2 x232).Answer.Pairs).length c373] (by as_aux_lemma=>kernel_rfl) rfl ?_
      intro w379 E' S
      replace E:=E.trans E'
      refine QB (tn (QE (QA (W_v (pt b14 0) (QC rfl) rfl (W_v (vI x232) (QC rfl) rfl (W_v (.agg #[vU ((rd a2 x232).What),vI ((rd a2 x232).Task),vI ((rd a2 x232).Call),vI ((rd a2 x232).Answer.Err),.bool ((rd a2 x232).Answer.Found),vS ((rd a2 x232).Answer.Value),.slice A372 ((rd a2 x232).Answer.Pairs).length c373]) (Qh (S.blk 0 rfl) ty55 rfl (QI rfl) rfl rfl) rfl ?_))))))
      obtain ⟨t380,ht381,H⟩:=QX H
      replace S:St w379 M359 F [_,_,_,_,_,_,_,_,_,_,_,_]:=S.pick [9,10,6,5,11,4,3,2,1,8,7,0] (by decide)
      refine ZZ fn53 (ZA.con k M359 A234 c235 A246 c247 A250 c251 A254 c255 A257 c258 A260 c261 A263 c264 vs266 A238 c239 A242 c243 (⟨x233,(⟨x245,x249⟩:Qb),x253,x237,x241⟩:ZX) x232 A372 c373 (rd a2 x232) b19 b27 b14 t380 hs236 hm267 hs374 hg0 hg1 ht381) (Γ1:=[_,_,_,_,_,_,_,_,_,_,_]) (Γ2:=[_]) S rfl rfl ?_
      rintro _ w411 M412 Γ' hM413 E' S ⟨A382,c383,A385,c386,A388,c389,A391,c392,A394,c395,A397,c398,A400,c401,vs403,A405,c406,A408,c409,rfl,hs384,hm404,rfl⟩
      replace HM:=Hp.le_trans HM hM413
      replace hM360:=Hp.le_trans hM360 hM413
      replace E:=E.trans E'
      replace S:St w411 M412 F [_,_,_,_,_,_,_,_,_,_,_,_]:=S
      refine W_v (.bool (t380.1 == (4:Int))) (QT rfl rfl rfl rfl) rfl (QB (tn ?_))
      rcases Zh H with ⟨hb414,H⟩ | ⟨hb414,H⟩
      ·refine QL (congrArg Value.bool hb414) ?_
       refine QE (QA (W_v (.pointer none) (QD rfl) rfl (W_v (vI 4) (QD rfl) rfl (QB (tn ?_)))))
       refine QY ?_
       refine br (tr (tr (br (tr (tr (?_))))))
       obtain rfl:=Option.some.inj H
       have H:=o357H
       replace H:=elimL H
       obtain rfl:=Option.some.inj H
       exact ⟨_,_,_,fun w1 e1=>QO (vs:=[.pointer none,vI 4]) (FA.cons (rfl) (FA.cons (rfl) (FA.nil))),HM,E,S.pick [] (by decide),⟨rfl,rfl⟩⟩
      refine QJ (congrArg Value.bool hb414) (Qg (bn (tn (QA (W_v (vI (IntKind.i64.wrap (x232 + (1:Int)))) (QT rfl rfl rfl rfl) rfl (W_v (vI (IntKind.i64.wrap (x232 + (1:Int)))) (QC rfl) rfl (QB (tn ?_))))))))
      exact ⟨k,Nat.lt_succ_self k,⟨(IntKind.i64.wrap (x232 + (1:Int))),t380.2.programs,t380.2.done,t380.2.last,t380.2.r.tasks,t380.2.r.l,t380.2.m,A382,c383,A405,c406,A408,c409,A385,c386,A388,c389,A391,c392,A394,c395,A397,c398,A400,c401,vs403,M412,H,⟨rfl,rfl,rfl,rfl,trivial⟩,hM360,E,S.pick [8,7,6,5,3,2,10,9,0,1,4] (by decide),hs384,hm404⟩⟩
     refine QJ (congrArg Value.bool hb361) ?_
     refine Yo ?_
     refine tx (tx (bsm (?_)))
     refine tn ?_
     exact ⟨x233,x237,x241,x245,x249,x253,A234,c235,A238,c239,A242,c243,A246,c247,A250,c251,A254,c255,A257,c258,A260,c261,A263,c264,vs266,M359,Option.some.inj H,⟨rfl,trivial⟩,hM360,E,S.pick [0,1,2,3,4,5,6,7,8,9,10] (by decide),hs236,hm267⟩
  rintro ρ w415 ⟨x322,x326,x330,x334,x338,x342,A323,c324,A327,c328,A331,c332,A335,c336,A339,c340,A343,c344,A346,c347,A349,c350,A352,c353,vs355,M416,rfl,hρ,hM417,E,S,hs325,hm356⟩
  rw [QN hρ]
  replace HM:=Hp.le_trans HM hM417
  have H:=o357H
  replace H:=elimR H
  refine tn ?_
  as_aux_lemma =>
  refine QE (QA (W_v (pt b14 0) (QC rfl) rfl (W_v (pt b14 0) (QD rfl) rfl (W_v (vI 0) (QD rfl) rfl (QB (tn ?_))))))
  refine QY ?_
  obtain rfl:=Option.some.inj H
  exact ⟨_,_,_,fun w1 e1=>QO (vs:=[pt b14 0,vI 0]) (FA.cons (rfl) (FA.cons (rfl) (FA.nil))),HM,E,S.pick [8,9,5,4,10,3,2,1,0,7,6] (by decide),⟨b14,A323,c324,b19,A335,c336,A339,c340,b27,A343,c344,A346,c347,A349,c350,A352,c353,vs355,A327,c328,A331,c332,rfl,hs325,hm356,rfl⟩⟩
 ·skip
  replace H:=elimR H
  replace H:=elimR H
  replace H:=elimL H
  refine ZZ fn27 (ZH.con k M a0 A1 c1 a1 (Sum.inr (Sum.inr (Sum.inl t8))) hr1 ht5) (Γ1:=[]) (Γ2:=[_]) S rfl rfl ?_
  rintro _ w445 M446 Γ' hM447 E' S ⟨b418,A420,c421,b423,A425,c426,A428,c429,A431,c432,A434,c435,vs437,A439,c440,A442,c443,rfl,hs422,hm438,rfl⟩
  replace HM:=Hp.le_trans HM hM447
  replace E:=E.trans E'
  replace S:St w445 M446 F [_,_,_,_,_,_,_,_,_]:=S
  refine W_v (.tuple #[pt b418 0,.bool false]) (QC rfl) rfl (W_v (pt b418 0) (QQ rfl rfl) rfl (W_v (.bool false) (QQ rfl rfl) rfl (W_v (pt b418 0) (QD rfl) rfl (W_v (.bool false) (QD rfl) rfl (QB (tn (QE (QE (QA (W_v (.bool false) (QC rfl) rfl (W_v (.bool true) (Yx (b:=false) rfl) rfl (QB (tn (QL rfl (QE ?_)))))))))))))))
  refine QA (W_v (.pointer none) (QD rfl) rfl (W_v (vI 1) (QD rfl) rfl (QB (tn ?_))))
  refine QY ?_
  refine tr (?_)
  obtain rfl:=Option.some.inj H
  exact ⟨_,_,_,fun w1 e1=>QO (vs:=[.pointer none,vI 1]) (FA.cons (rfl) (FA.cons (rfl) (FA.nil))),HM,E,S.pick [] (by decide),⟨rfl,rfl⟩⟩
 ·skip
  replace H:=elimR H
  replace H:=elimR H
  replace H:=elimR H
  replace H:=elimL H
  refine ZZ fn27 (ZH.con k M a0 A1 c1 a1 (Sum.inr (Sum.inr (Sum.inr (Sum.inl t9)))) hr1 ht5) (Γ1:=[]) (Γ2:=[_]) S rfl rfl ?_
  rintro _ w459 M460 Γ' hM461 E' S ⟨b448,A450,c451,A453,c454,A456,c457,rfl,hs452,rfl⟩
  replace HM:=Hp.le_trans HM hM461
  replace E:=E.trans E'
  replace S:St w459 M460 F [_,_,_,_]:=S
  refine W_v (.tuple #[pt b448 0,.bool false]) (QC rfl) rfl (W_v (pt b448 0) (QQ rfl rfl) rfl (W_v (.bool false) (QQ rfl rfl) rfl (W_v (pt b448 0) (QD rfl) rfl (W_v (.bool false) (QD rfl) rfl (QB (tn (QE (QE (QA (W_v (.bool false) (QC rfl) rfl (W_v (.bool true) (Yx (b:=false) rfl) rfl (QB (tn (QL rfl (QE ?_)))))))))))))))
  refine QA (W_v (.pointer none) (QD rfl) rfl (W_v (vI 1) (QD rfl) rfl (QB (tn ?_))))
  refine QY ?_
  refine tr (?_)
  obtain rfl:=Option.some.inj H
  exact ⟨_,_,_,fun w1 e1=>QO (vs:=[.pointer none,vI 1]) (FA.cons (rfl) (FA.cons (rfl) (FA.nil))),HM,E,S.pick [] (by decide),⟨rfl,rfl⟩⟩
 ·skip
  replace H:=elimR H
  replace H:=elimR H
  replace H:=elimR H
  replace H:=elimR H
  refine ZZ fn27 (ZH.con k M a0 A1 c1 a1 (Sum.inr (Sum.inr (Sum.inr (Sum.inr t10)))) hr1 ht5) (Γ1:=[]) (Γ2:=[_]) S rfl rfl ?_
  rintro _ w481 M482 Γ' hM483 E' S ⟨b462,A464,c465,b467,A469,c470,A472,c473,A475,c476,A478,c479,rfl,hs466,rfl⟩
  replace HM:=Hp.le_trans HM hM483
  replace E:=E.trans E'
  replace S:St w481 M482 F [_,_,_,_,_,_,_]:=S
  refine W_v (.tuple #[pt b462 0,.bool false]) (QC rfl) rfl (W_v (pt b462 0) (QQ rfl rfl) rfl (W_v (.bool false) (QQ rfl rfl) rfl (W_v (pt b462 0) (QD rfl) rfl (W_v (.bool false) (QD rfl) rfl (QB (tn (QE (QE (QA (W_v (.bool false) (QC rfl) rfl (W_v (.bool true) (Yx (b:=false) rfl) rfl (QB (tn (QL rfl (QE ?_)))))))))))))))
  refine QA (W_v (.pointer none) (QD rfl) rfl (W_v (vI 1) (QD rfl) rfl (QB (tn ?_))))
  refine QY ?_
  refine tr (?_)
  obtain rfl:=Option.some.inj H
  exact ⟨_,_,_,fun w1 e1=>QO (vs:=[.pointer none,vI 1]) (FA.cons (rfl) (FA.cons (rfl) (FA.nil))),HM,E,S.pick [] (by decide),⟨rfl,rfl⟩⟩
def YT (k:Nat) (a0:QM):Option (QM) :=
 (Option.bind (Zk k a0.txs) (fun t35=>some (⟨⟨a0.c.Tasks,a0.c.Active,a0.c.Keys,a0.c.Depth,a0.c.TS,a0.c.KeyLen,a0.c.ValLen,a0.c.Fan⟩,a0.names,a0.many,t35,a0.rows,a0.clock,a0.floor⟩:QM)))
theorem YT.mono {k:Nat} {a0:QM}:OLe (YT k a0) (YT (k + 1) a0):=by
 unfold YT
 have m1:=@Zk.mono
 exact mo
theorem YT.con (k:Nat) (M:Hp) (A0_8:Option Addr) (c0_8:Nat) (A0_9:Option Addr) (c0_9:Nat) (A0_10:Option Addr) (c0_10:Nat) (A0_11:Option Addr) (c0_11:Nat) (vs0_11:List (Str × Value)) (a0:QM) (bo0:Nat) (r:QM) (hm0_11:YP Qm M a0.rows vs0_11) (h:YT k a0 = some r):Con Tryd.prog 37 #[pt bo0 0] M [B95 bo0 a0 A0_8 A0_9 A0_10 c0_10 A0_11,QV QH (Value.int .i64) A0_8 a0.names,QV (Value.int .i64) (Value.int .i64) A0_9 a0.many,Row QP 122 (.slice A0_10 a0.txs.length c0_10) a0.txs,QV encS (fun v:Value=>v) A0_11 vs0_11] (fun v M' Γ'=>∃ (bq1:Nat) (Aq3:Option Addr) (cq4:Nat) (Aq6:Option Addr) (cq7:Nat) (Aq9:Option Addr) (cq10:Nat) (Aq12:Option Addr) (cq13:Nat) (vsq15:List (Str × Value)),v = pt bq1 0 ∧ YP Qm M' r.rows vsq15 ∧ Γ' = [B95 bq1 r Aq3 Aq6 Aq9 cq10 Aq12,QV QH (Value.int .i64) Aq3 r.names,QV (Value.int .i64) (Value.int .i64) Aq6 r.many,Row QP 122 (.slice Aq9 r.txs.length cq10) r.txs,QV encS (fun v:Value=>v) Aq12 vsq15,B95 bo0 a0 A0_8 A0_9 A0_10 c0_10 A0_11,QV QH (Value.int .i64) A0_8 a0.names,QV (Value.int .i64) (Value.int .i64) A0_9 a0.many,Row QP 122 (.slice A0_10 a0.txs.length c0_10) a0.txs,QV encS (fun v:Value=>v) A0_11 vs0_11]):=by
 refine Qa Tryd.func37 rfl Tryd.ntmps37 Tryd.results37 rfl ?_
 intro w F rn S hrn
 have E:=Ext.refl w
 have HM:=Hp.le_refl M
 have H:=h
 unfold YT at H
 refine QE (QA (W_v (.pointer none) (QD rfl) rfl (QB (tn (QE (QE (QA (W_v (pt bo0 0) (QC rfl) rfl (W_v (.bool false) (Xd (r:=false) rfl rfl (Xu Tryd.underlying39)) rfl (QB (tn (QJ rfl (Qg (tn (QE ?_)))))))))))))))
 refine QA (W_v (pt bo0 0) (QC rfl) rfl (W_v (pt bo0 0) (Qy rfl) rfl (W_v (.agg #[vI a0.c.Tasks,vI a0.c.Active,vI a0.c.Keys,vI a0.c.Depth,vI a0.c.TS,vI a0.c.KeyLen,vI a0.c.ValLen,vI a0.c.Fan,.map (mb A0_8),.map (mb A0_9),.slice A0_10 a0.txs.length c0_10,.map (mb A0_11),vI a0.clock,vI a0.floor]) (Qh (S.blk 0 rfl) ty95 rfl (QI rfl) rfl rfl) rfl ?_)))
 refine Zu S #[vI 0,vI 0,vI 0,vI 0,vI 0,vI 0,vI 0,vI 0,.map none,.map none,.slice none 0 0,.map none,vI 0,vI 0] ty95 rfl rfl ?_
 intro b1 w2 E' S
 replace E:=E.trans E'
 refine Q5 S 0 rfl ty95 rfl rfl [vI a0.c.Tasks,vI a0.c.Active,vI a0.c.Keys,vI a0.c.Depth,vI a0.c.TS,vI a0.c.KeyLen,vI a0.c.ValLen,vI a0.c.Fan,.map (mb A0_8),.map (mb A0_9),.slice A0_10 a0.txs.length c0_10,.map (mb A0_11),vI a0.clock,vI a0.floor] rfl rfl rfl #[vI a0.c.Tasks,vI a0.c.Active,vI a0.c.Keys,vI a0.c.Depth,vI a0.c.TS,vI a0.c.KeyLen,vI a0.c.ValLen,vI a0.c.Fan,.map (mb A0_8),.map (mb A0_9),.slice A0_10 a0.txs.length c0_10,.map (mb A0_11),vI a0.clock,vI a0.floor] (by as_aux_lemma=>kernel_rfl) rfl ?_
 intro w4 E' S
 replace E:=E.trans E'
 refine QB (tn (QE ?_))
 refine Ql (S:=fun w'=>∃ Mx,M.le Mx ∧ St w' Mx F [B95 b1 a0 A0_8 A0_9 A0_10 c0_10 A0_11,B95 bo0 a0 A0_8 A0_9 A0_10 c0_10 A0_11,QV QH (Value.int .i64) A0_8 a0.names,QV (Value.int .i64) (Value.int .i64) A0_9 a0.many,Row QP 122 (.slice A0_10 a0.txs.length c0_10) a0.txs,QV encS (fun v:Value=>v) A0_11 vs0_11]) (L:=21) mixed ?_
 intro w24 hw25 E'
 replace S:=S.heap hw25
 replace E:=E.trans E'
 have D1:∃ Mx,Hp.le M Mx ∧ St _ Mx F [_,_,_,_,_,_]:=⟨_,Hp.le_refl _,S.pick [0,1,2,3,4,5] (by decide)⟩
 refine Wt 0 rfl rfl rfl (pt bo0 0) rfl (fun w' h'=>QC rfl) D1 (Wt 1 rfl rfl rfl (pt bo0 0) rfl (fun w' h'=>Qy rfl) D1 (Wt 2 rfl rfl rfl (pt bo0 8) rfl (fun w' h'=>QF (o:=0) (off:=8) Tryd.underlying95 rfl ty90 rfl rfl) D1 (Wt 3 rfl rfl rfl (.map (mb A0_8)) rfl (fun w' h'=>QR (Qj h' 1 rfl) ty90 rfl rfl) D1 (Wt 5 rfl rfl rfl (pt bo0 0) rfl (fun w' h'=>QC rfl) D1 (Wt 6 rfl rfl rfl (pt bo0 0) rfl (fun w' h'=>Qy rfl) D1 (Wt 7 rfl rfl rfl (pt bo0 9) rfl (fun w' h'=>QF (o:=0) (off:=9) Tryd.underlying95 rfl ty91 rfl rfl) D1 (Wt 8 rfl rfl rfl (.map (mb A0_9)) rfl (fun w' h'=>QR (Qj h' 1 rfl) ty91 rfl rfl) D1 (Wt 10 rfl rfl rfl (pt bo0 0) rfl (fun w' h'=>QC rfl) D1 (Wt 11 rfl rfl rfl (pt bo0 0) rfl (fun w' h'=>Qy rfl) D1 (Wt 12 rfl rfl rfl (pt bo0 11) rfl (fun w' h'=>QF (o:=0) (off:=11) Tryd.underlying95 rfl ty92 rfl rfl) D1 (Wt 13 rfl rfl rfl (.map (mb A0_11)) rfl (fun w' h'=>QR (Qj h' 1 rfl) ty92 rfl rfl) D1 (Wt 15 rfl rfl rfl (pt bo0 0) rfl (fun w' h'=>QC rfl) D1 (Wt 16 rfl rfl rfl (pt bo0 0) rfl (fun w' h'=>Qy rfl) D1 (Wt 17 rfl rfl rfl (pt bo0 10) rfl (fun w' h'=>QF (o:=0) (off:=10) Tryd.underlying95 rfl ty93 rfl rfl) D1 (Wt 18 rfl rfl rfl (.slice A0_10 a0.txs.length c0_10) rfl (fun w' h'=>QR (Qj h' 1 rfl) ty93 rfl rfl) D1 ?_)))))))))))))))
 refine Wo 4 rfl ?_
 replace S:St w24 M F [_,_,_,_,_,_]:=S.pick [2,0,1,3,4,5] (by decide)
 refine Z2 fn55 (maps_Clone_90.con M A0_8 a0.names) (Γ2:=[_,_,_,_,_]) S rfl rfl (by rintro _ _ _ ⟨_,_,rfl⟩; exact (QS ZS (QS ZS Qd))) ?_
 rintro _ w27 _ Γ' E' S ⟨b26,rfl,rfl⟩
 replace E:=E.trans E'
 replace S:St w27 M F [_,_,_,_,_,_,_]:=S
 refine QB (YC ⟨.inr ⟨M,Hp.le_refl M,(S.pick [2,3,1,4,5,6] (by decide))⟩,?_⟩)
 refine Wo 9 rfl ?_
 replace S:St w27 M F [_,_,_,_,_,_,_]:=S.pick [4,0,1,2,3,5,6] (by decide)
 refine Z2 fn56 (maps_Clone_91.con M A0_9 a0.many) (Γ2:=[_,_,_,_,_,_]) S rfl rfl (by rintro _ _ _ ⟨_,_,rfl⟩; exact (QS ZS (QS ZS Qd))) ?_
 rintro _ w30 _ Γ' E' S ⟨b29,rfl,rfl⟩
 replace E:=E.trans E'
 replace S:St w30 M F [_,_,_,_,_,_,_,_]:=S
 refine QB (YC ⟨.inr ⟨M,Hp.le_refl M,(S.pick [4,5,3,1,6,7] (by decide))⟩,?_⟩)
 refine Wo 14 rfl ?_
 replace S:St w30 M F [_,_,_,_,_,_,_,_]:=S.pick [7,0,1,2,3,4,5,6] (by decide)
 refine Z2 fn57 (maps_Clone_92.con M A0_11 vs0_11) (Γ2:=[_,_,_,_,_,_,_]) S rfl rfl (by rintro _ _ _ ⟨_,_,rfl⟩; exact (QS ZS (QS ZS Qd))) ?_
 rintro _ w33 _ Γ' E' S ⟨b32,rfl,rfl⟩
 replace E:=E.trans E'
 replace S:St w33 M F [_,_,_,_,_,_,_,_,_]:=S
 refine QB (YC ⟨.inr ⟨M,Hp.le_refl M,(S.pick [6,7,5,3,8,1] (by decide))⟩,?_⟩)
 refine Wo 19 rfl ?_
 replace S:St w33 M F [_,_,_,_,_,_,_,_,_]:=S.pick [8,0,1,2,3,4,5,6,7] (by decide)
 obtain ⟨t35,ht36,H⟩:=QX H
 refine XX 1 fn58 (fun h9 hs9 hd9=>Zk.con k _ A0_10 c0_10 a0.txs t35 (Sats.row hs9 hd9 0 rfl) ht36) S rfl rfl (by rintro _ _ _ ⟨_,_,_,rfl⟩; exact (QS (Yb (fun _ _ _ _ h=>h)) Qd)) ?_
 rintro _ w40 _ Γ' E' S ⟨A37,c38,rfl,rfl⟩
 replace E:=E.trans E'
 refine QB (YC ⟨.inr ⟨M,Hp.le_refl M,(S.pick [8,9,7,5,1,3] (by decide))⟩,?_⟩)
 refine Wt 20 rfl rfl rfl (pt b1 8) rfl (fun w' h'=>QF (o:=0) (off:=8) Tryd.underlying95 rfl ty90 rfl rfl) (⟨M,Hp.le_refl M,(S.pick [8,9,7,5,1,3] (by decide))⟩) ?_
 refine Wo 21 rfl ?_
 refine Q5 S 8 rfl ty90 rfl rfl [.map (mb (some ⟨b26,0,none⟩))] rfl rfl rfl #[vI a0.c.Tasks,vI a0.c.Active,vI a0.c.Keys,vI a0.c.Depth,vI a0.c.TS,vI a0.c.KeyLen,vI a0.c.ValLen,vI a0.c.Fan,.map (mb (some ⟨b26,0,none⟩)),.map (mb A0_9),.slice A0_10 a0.txs.length c0_10,.map (mb A0_11),vI a0.clock,vI a0.floor] rfl rfl ?_
 intro w41 E' S
 replace E:=E.trans E'
 refine QB (YC ⟨.inl (by decide),?_⟩)
 refine Wo 22 rfl ?_
 refine W_v (pt b1 9) (QF (o:=0) (off:=9) Tryd.underlying95 rfl ty91 rfl rfl) rfl ?_
 refine QB (YC ⟨.inl (by decide),?_⟩)
 refine Wo 23 rfl ?_
 refine Q5 S 8 rfl ty91 rfl rfl [.map (mb (some ⟨b29,0,none⟩))] rfl rfl rfl #[vI a0.c.Tasks,vI a0.c.Active,vI a0.c.Keys,vI a0.c.Depth,vI a0.c.TS,vI a0.c.KeyLen,vI a0.c.ValLen,vI a0.c.Fan,.map (mb (some ⟨b26,0,none⟩)),.map (mb (some ⟨b29,0,none⟩)),.slice A0_10 a0.txs.length c0_10,.map (mb A0_11),vI a0.clock,vI a0.floor] rfl rfl ?_
 intro w42 E' S
 replace E:=E.trans E'
 refine QB (YC ⟨.inl (by decide),?_⟩)
 refine Wo 24 rfl ?_
 refine W_v (pt b1 11) (QF (o:=0) (off:=11) Tryd.underlying95 rfl ty92 rfl rfl) rfl ?_
 refine QB (YC ⟨.inl (by decide),?_⟩)
 refine Wo 25 rfl ?_
 refine Q5 S 8 rfl ty92 rfl rfl [.map (mb (some ⟨b32,0,none⟩))] rfl rfl rfl #[vI a0.c.Tasks,vI a0.c.Active,vI a0.c.Keys,vI a0.c.Depth,vI a0.c.TS,vI a0.c.KeyLen,vI a0.c.ValLen,vI a0.c.Fan,.map (mb (some ⟨b26,0,none⟩)),.map (mb (some ⟨b29,0,none⟩)),.slice A0_10 a0.txs.length c0_10,.map (mb (some ⟨b32,0,none⟩)),vI a0.clock,vI a0.floor] rfl rfl ?_
 intro w43 E' S
 replace E:=E.trans E'
 refine QB (YC ⟨.inl (by decide),?_⟩)
 refine Wo 26 rfl ?_
 refine W_v (pt b1 10) (QF (o:=0) (off:=10) Tryd.underlying95 rfl ty93 rfl rfl) rfl ?_
 refine QB (YC ⟨.inl (by decide),?_⟩)
 refine Wo 27 rfl ?_
 refine Q5 S 8 rfl ty93 rfl rfl [.slice A37 t35.length c38] rfl rfl rfl #[vI a0.c.Tasks,vI a0.c.Active,vI a0.c.Keys,vI a0.c.Depth,vI a0.c.TS,vI a0.c.KeyLen,vI a0.c.ValLen,vI a0.c.Fan,.map (mb (some ⟨b26,0,none⟩)),.map (mb (some ⟨b29,0,none⟩)),.slice A37 t35.length c38,.map (mb (some ⟨b32,0,none⟩)),vI a0.clock,vI a0.floor] rfl rfl ?_
 intro w44 E' S
 replace E:=E.trans E'
 refine QB (YC ⟨.inl (by decide),?_⟩)
 refine Wz ?_
 refine tn ?_
 as_aux_lemma =>
 refine QE (QA (W_v (pt b1 0) (QD rfl) rfl (QB (tn ?_))))
 refine QY ?_
 obtain rfl:=Option.some.inj H
 exact ⟨_,_,_,fun w1 e1=>QO (vs:=[pt b1 0]) (FA.cons (rfl) (FA.nil)),HM,E,S.pick [8,6,4,0,2,9,7,5,1,3] (by decide),⟨b1,(some ⟨b26,0,none⟩),0,(some ⟨b29,0,none⟩),0,A37,c38,(some ⟨b32,0,none⟩),0,vs0_11,rfl,hm0_11,rfl⟩⟩
def Y8 (k:Nat) (a0:QG) (ac_0:Int) (ac_1:Int):Option (Bool) :=
 some (((a0.What == (3:Int)) && (a0.Task == ac_0)) && (a0.Call == ac_1))
theorem Y8.mono {k:Nat} {a0:QG} {ac_0:Int} {ac_1:Int}:OLe (Y8 k a0 ac_0 ac_1) (Y8 (k + 1) a0 ac_0 ac_1):=by
 unfold Y8
 exact mo
theorem Y8.con (k:Nat) (M:Hp) (A0_0:Option Addr) (c0_0:Nat) (a0:QG) (ac_0:Int) (ac_1:Int) (bc_0:Nat) (bc_1:Nat) (r:Bool) (hr0_0:SlR Qr M (.slice A0_0 a0.Answer.Pairs.length c0_0) a0.Answer.Pairs) (h:Y8 k a0 ac_0 ac_1 = some r):Con Tryd.prog 34 #[.agg #[vU a0.What,vI a0.Task,vI a0.Call,vI a0.Answer.Err,.bool a0.Answer.Found,vS a0.Answer.Value,.slice A0_0 a0.Answer.Pairs.length c0_0],pt bc_0 0,pt bc_1 0] M [Blk bc_0 (.cells #[vI ac_0] 3 (0,0)),Blk bc_1 (.cells #[vI ac_1] 3 (0,0))] (fun v M' Γ'=>v = .bool r ∧ Γ' = [Blk bc_0 (.cells #[vI ac_0] 3 (0,0)),Blk bc_1 (.cells #[vI ac_1] 3 (0,0))]):=by
 refine Qa Tryd.func34 rfl Tryd.ntmps34 Tryd.results34 rfl ?_
 intro w F rn S hrn
 have E:=Ext.refl w
 have HM:=Hp.le_refl M
 have H:=h
 unfold Y8 at H
 refine QE (QA ?_)
 refine YO S #[vU a0.What,vI a0.Task,vI a0.Call,vI a0.Answer.Err,.bool a0.Answer.Found,vS a0.Answer.Value,.slice A0_0 a0.Answer.Pairs.length c0_0] rfl rfl rfl ?_
 intro b1 w2 E' S
 replace E:=E.trans E'
 refine W_v (.bool false) (QD rfl) rfl (QB (tn (QE (QA (W_v (pt b1 0) (QF (o:=0) (off:=0) Tryd.underlying55 rfl ty5 rfl rfl) rfl (W_v (vU a0.What) (QR (S.blk 0 rfl) ty5 rfl rfl) rfl (W_v (.bool (a0.What == (3:Int))) (QT rfl rfl rfl rfl) rfl (W_v (.bool (a0.What == (3:Int))) (QC rfl) rfl ?_))))))))
 refine ZI 5 (fun ρ w'=>Qs ρ [(2,pt bc_1 0),(3,pt b1 0),(13,.bool ((a0.What == (3:Int)) && (a0.Task == ac_0)))] ∧ w2 = w') ?_ ?_
 ·rcases Qw (a0.What == (3:Int)) with hb4 | hb4
  ·skip
   refine Qk (skT hb4) rfl (Qk (skT hb4) rfl (Qk (skT hb4) rfl (Qk (skT hb4) rfl (W_v (.bool false) (QZ (k:=false) (congrArg Value.bool hb4) rfl) rfl (QB ?_)))))
   exact ⟨⟨rfl,rfl,(by first | rfl | (rw [hb4]; rfl) | (simp only [hb4]; rfl)),trivial⟩,rfl⟩
  ·skip
   refine QU (congrArg some hb4) (W_v (pt b1 1) (QF (o:=0) (off:=1) Tryd.underlying55 rfl ty3 rfl rfl) rfl (QU (congrArg some hb4) (W_v (vI a0.Task) (QR (S.blk 0 rfl) ty3 rfl rfl) rfl (QU (congrArg some hb4) (W_v (vI ac_0) (QR (S.blk 1 rfl) ty3 rfl rfl) rfl (QU (congrArg some hb4) (W_v (.bool (a0.Task == ac_0)) (QT rfl rfl rfl rfl) rfl (W_v (.bool (a0.Task == ac_0)) (QZ (k:=true) (congrArg Value.bool hb4) rfl) rfl (QB ?_)))))))))
   exact ⟨⟨rfl,rfl,(by first | rfl | (rw [hb4]; rfl) | (simp only [hb4]; rfl)),trivial⟩,rfl⟩
 rintro ρ _ ⟨hρ,rfl⟩
 rw [QN hρ]
 refine W_v (.bool ((a0.What == (3:Int)) && (a0.Task == ac_0))) (QC rfl) rfl ?_
 refine ZI 5 (fun ρ w'=>Qs ρ [(19,.bool (((a0.What == (3:Int)) && (a0.Task == ac_0)) && (a0.Call == ac_1)))] ∧ w2 = w') ?_ ?_
 ·rcases Qw ((a0.What == (3:Int)) && (a0.Task == ac_0)) with hb5 | hb5
  ·skip
   refine Qk (skT hb5) rfl (Qk (skT hb5) rfl (Qk (skT hb5) rfl (Qk (skT hb5) rfl (W_v (.bool false) (QZ (k:=false) (congrArg Value.bool hb5) rfl) rfl (QB ?_)))))
   exact ⟨⟨(by first | rfl | (rw [hb5]; rfl) | (simp only [hb5]; rfl)),trivial⟩,rfl⟩
  ·skip
   refine QU (congrArg some hb5) (W_v (pt b1 2) (QF (o:=0) (off:=2) Tryd.underlying55 rfl ty3 rfl rfl) rfl (QU (congrArg some hb5) (W_v (vI a0.Call) (QR (S.blk 0 rfl) ty3 rfl rfl) rfl (QU (congrArg some hb5) (W_v (vI ac_1) (QR (S.blk 2 rfl) ty3 rfl rfl) rfl (QU (congrArg some hb5) (W_v (.bool (a0.Call == ac_1)) (QT rfl rfl rfl rfl) rfl (W_v (.bool (a0.Call == ac_1)) (QZ (k:=true) (congrArg Value.bool hb5) rfl) rfl (QB ?_)))))))))
   exact ⟨⟨(by first | rfl | (rw [hb5]; rfl) | (simp only [hb5]; rfl)),trivial⟩,rfl⟩
 rintro ρ _ ⟨hρ,rfl⟩
 rw [QN hρ]
 refine W_v (.bool (((a0.What == (3:Int)) && (a0.Task == ac_0)) && (a0.Call == ac_1))) (QD rfl) rfl (QB (tn ?_))
 refine QY ?_
 obtain rfl:=Option.some.inj H
 exact ⟨_,_,_,fun w1 e1=>QO (vs:=[.bool (((a0.What == (3:Int)) && (a0.Task == ac_0)) && (a0.Call == ac_1))]) (FA.cons (rfl) (FA.nil)),HM,E,S.pick [1,2] (by decide),⟨rfl,rfl⟩⟩
def Q4 (a0:(List QG)) (a1_0:Int) (a1_1:Int):Nat → Int → Option ((Int) ⊕ (Unit))
 | 0,_=>none
 | k + 1,x45=>(if (decide (x45 < (a0.length:Int))) = true then (if 0 ≤ x45 ∧ x45 < (a0.length:Int) then (Option.bind (Y8 k (rd a0 x45) a1_0 a1_1) (fun t84=>(if t84 = true then some (.inl x45) else Q4 a0 a1_0 a1_1 k (IntKind.i64.wrap (x45 + (1:Int)))))) else none) else some (.inr ()))
theorem Q4.mono {a0:(List QG)} {a1_0:Int} {a1_1:Int}:∀ {kl:Nat} {x0},OLe (Q4 a0 a1_0 a1_1 kl x0) (Q4 a0 a1_0 a1_1 (kl + 1) x0):=by
 intro kl
 induction kl with
 | zero=>intros; exact OLe.none
 | succ kl ih =>
  intros
  rw [Q4.eq_2,Q4.eq_2]
  have m1:=@Y8.mono
  exact mo
def ZB (k:Nat) (a0:(List QG)) (a1_0:Int) (a1_1:Int):Option (Int) :=
 (Option.bind (Q4 a0 a1_0 a1_1 k (0:Int)) (fun o67o=>Sum.elim (fun r'=>some r') (fun _=>some (-1:Int)) o67o))
theorem ZB.mono {k:Nat} {a0:(List QG)} {a1_0:Int} {a1_1:Int}:OLe (ZB k a0 a1_0 a1_1) (ZB (k + 1) a0 a1_0 a1_1):=by
 unfold ZB
 have m1:=@Q4.mono
 exact mo
theorem ZB.con (k:Nat) (M:Hp) (A0:Option Addr) (c0:Nat) (a0:(List QG)) (a1_0:Int) (a1_1:Int) (b1_0:Nat) (b1_1:Nat) (r:Int) (hr0:SlR QK M (.slice A0 a0.length c0) a0) (h:ZB k a0 a1_0 a1_1 = some r):Con Tryd.prog 33 #[.slice A0 a0.length c0,.func (.func 34) #[] #[pt b1_0 0,pt b1_1 0]] M [Blk b1_0 (.cells #[vI a1_0] 3 (0,0)),Blk b1_1 (.cells #[vI a1_1] 3 (0,0))] (fun v M' Γ'=>v = vI r ∧ Γ' = [Blk b1_0 (.cells #[vI a1_0] 3 (0,0)),Blk b1_1 (.cells #[vI a1_1] 3 (0,0))]):=by
 refine Qa Tryd.func33 rfl Tryd.ntmps33 Tryd.results33 rfl ?_
 intro w F rn S hrn
 have E:=Ext.refl w
 have HM:=Hp.le_refl M
 have H:=h
 unfold ZB at H
 refine QE (QA (W_v (vI 0) (QD rfl) rfl (QB (tn (QE (QE (QA (W_v (.slice A0 a0.length c0) (QC rfl) rfl (W_v (vI (a0.length:Int)) (Qt (n:=a0.length) Tryd.underlying25 rfl) rfl (W_v (vI 0) (QC rfl) rfl (QB (tn ?_))))))))))))
 obtain ⟨o67,o67h,o67H⟩:=QX H
 refine Ya (fun ρ w'=>.inr () = o67 ∧ Qs ρ [] ∧ Ext w w' ∧ St w' M F [Blk b1_0 (.cells #[vI a1_0] 3 (0,0)),Blk b1_1 (.cells #[vI a1_1] 3 (0,0))]) ?_ ?_
 ·skip
  refine Y0 (fun n ρ w'=>∃ (x45:Int),Q4 a0 a1_0 a1_1 n x45 = some o67 ∧ Qs ρ [(0,.slice A0 a0.length c0),(1,.func (.func 34) #[] #[pt b1_0 0,pt b1_1 0]),(7,vI (a0.length:Int)),(8,vI x45)] ∧ Ext w w' ∧ St w' M F [Blk b1_0 (.cells #[vI a1_0] 3 (0,0)),Blk b1_1 (.cells #[vI a1_1] 3 (0,0))]) k ?_ ?_
  ·skip
   exact ⟨(0:Int),o67h,⟨rfl,rfl,rfl,rfl,trivial⟩,E,S.pick [0,1] (by decide)⟩
  ·intro n
   rintro ρ w68 ⟨x45,H,hρ,E,S⟩
   rw [QN hρ]
   cases n with
   | zero=>cases H
   | succ k =>
    rw [Q4.eq_2] at H
    refine QE (QA (W_v (.bool (decide (x45 < (a0.length:Int)))) (QT rfl rfl rfl rfl) rfl (QB (tn (QE ?_)))))
    rcases Zh H with ⟨hb69,H⟩ | ⟨hb69,H⟩
    ·refine QL (congrArg Value.bool hb69) ?_
     refine Qg (tn (QE ?_))
     refine Z0 ?_
     refine QE (QA (W_v (vI x45) (QC rfl) rfl (W_v (vI x45) (QD rfl) rfl (QB (tn (QE (QA (W_v (.func (.func 34) #[] #[pt b1_0 0,pt b1_1 0]) (QC rfl) rfl (W_v (.slice A0 a0.length c0) (QC rfl) rfl (W_v (vI x45) (QC rfl) rfl ?_))))))))))
     obtain ⟨⟨p70,p71⟩,H⟩:=Zt H
     obtain ⟨b72,o73,cs74,_,_,ee79,hb75,vs76,hR77,hc78⟩:=SlW.at' hr0 p70 p71
     obtain ⟨v83,hs82,rfl⟩:=hR77
     obtain ⟨A80,c81,rfl,_⟩:=hs82.form
     refine W_v (.pointer (some ⟨b72,o73 + x45.toNat * 7,none⟩)) (Qe Tryd.underlying25 ty55 (slA ee79) rfl p70 p71) rfl (W_v (.agg #[vU ((rd a0 x45).What),vI ((rd a0 x45).Task),vI ((rd a0 x45).Call),vI ((rd a0 x45).Answer.Err),.bool ((rd a0 x45).Answer.Found),vS ((rd a0 x45).Answer.Value),.slice A80 ((rd a0 x45).Answer.Pairs).length c81]) (Qh (S.frz hb75) ty55 rfl (XC hc78 0 rfl) rfl rfl) rfl ?_)
     obtain ⟨t84,ht85,H⟩:=QX H
     refine Xl (fs:=[]) (cap:=[pt b1_0 0,pt b1_1 0]) fn34 rfl (Y8.con k M A80 c81 (rd a0 x45) a1_0 a1_1 b1_0 b1_1 t84 hs82 ht85) (Γ1:=[_,_]) (Γ2:=[]) S rfl rfl (by rintro _ _ _ ⟨rfl,rfl⟩; exact (QS ZQ (QS ZQ Qd))) ?_
     rintro _ w86 _ Γ' E' S ⟨rfl,rfl⟩
     replace E:=E.trans E'
     replace S:St w86 M F [_,_]:=S
     refine QB (tn ?_)
     rcases Zh H with ⟨hb89,H⟩ | ⟨hb89,H⟩
     ·refine QL (congrArg Value.bool hb89) ?_
      refine QE (QA (W_v (vI x45) (QC rfl) rfl (W_v (vI x45) (QD rfl) rfl (QB (tn ?_)))))
      refine QY ?_
      refine br (tr (tr (br (tr (tr (?_))))))
      obtain rfl:=Option.some.inj H
      have H:=o67H
      replace H:=elimL H
      obtain rfl:=Option.some.inj H
      exact ⟨_,_,_,fun w1 e1=>QO (vs:=[vI x45]) (FA.cons (rfl) (FA.nil)),HM,E,S.pick [0,1] (by decide),⟨rfl,rfl⟩⟩
     refine QJ (congrArg Value.bool hb89) (Qg (bn (tn (QA (W_v (vI (IntKind.i64.wrap (x45 + (1:Int)))) (QT rfl rfl rfl rfl) rfl (W_v (vI (IntKind.i64.wrap (x45 + (1:Int)))) (QC rfl) rfl (QB (tn ?_))))))))
     exact ⟨k,Nat.lt_succ_self k,⟨(IntKind.i64.wrap (x45 + (1:Int))),H,⟨rfl,rfl,rfl,rfl,trivial⟩,E,S.pick [0,1] (by decide)⟩⟩
    refine QJ (congrArg Value.bool hb69) ?_
    refine Yo ?_
    refine tx (tx (bsm (?_)))
    refine tn ?_
    exact ⟨Option.some.inj H,trivial,E,S.pick [0,1] (by decide)⟩
 rintro ρ w90 ⟨rfl,hρ,E,S⟩
 rw [QN hρ]
 have H:=o67H
 replace H:=elimR H
 refine tn ?_
 as_aux_lemma =>
 refine QE (QA (W_v (vI (-1)) (QD rfl) rfl (QB (tn ?_))))
 refine QY ?_
 obtain rfl:=Option.some.inj H
 exact ⟨_,_,_,fun w1 e1=>QO (vs:=[vI (-1)]) (FA.cons (rfl) (FA.nil)),HM,E,S.pick [0,1] (by decide),⟨rfl,rfl⟩⟩
def XP (k:Nat) (a0:Int) (a1:Int) (ac_0:(List QG)):Option (Qf × Bool) :=
 (Option.bind (ZB k ac_0 a0 a1) (fun t10=>(if (decide (t10 < (0:Int))) = true then some (cz7,false) else (if 0 ≤ t10 ∧ t10 < (ac_0.length:Int) then some ((rd ac_0 t10).Answer,true) else none))))
theorem XP.mono {k:Nat} {a0:Int} {a1:Int} {ac_0:(List QG)}:OLe (XP k a0 a1 ac_0) (XP (k + 1) a0 a1 ac_0):=by
 unfold XP
 have m1:=@ZB.mono
 exact mo
theorem XP.con (k:Nat) (M:Hp) (a0:Int) (a1:Int) (Ac_0:Option Addr) (cc_0:Nat) (ac_0:(List QG)) (bc_0:Nat) (r:Qf × Bool) (hrc_0:SlR QK M (.slice Ac_0 ac_0.length cc_0) ac_0) (h:XP k a0 a1 ac_0 = some r):Con Tryd.prog 32 #[vI a0,vI a1,pt bc_0 0] M [Blk bc_0 (.cells #[.slice Ac_0 ac_0.length cc_0] 25 (0,0))] (fun v M' Γ'=>∃ (Aq1:Option Addr) (cq2:Nat),v = .tuple #[.agg #[vI r.1.Err,.bool r.1.Found,vS r.1.Value,.slice Aq1 r.1.Pairs.length cq2],.bool r.2] ∧ SlR Qr M' (.slice Aq1 r.1.Pairs.length cq2) r.1.Pairs ∧ Γ' = [Blk bc_0 (.cells #[.slice Ac_0 ac_0.length cc_0] 25 (0,0))]):=by
 refine Qa Tryd.func32 rfl Tryd.ntmps32 Tryd.results32 rfl ?_
 intro w F rn S hrn
 have E:=Ext.refl w
 have HM:=Hp.le_refl M
 have H:=h
 unfold XP at H
 refine QE (QA ?_)
 refine YO S #[vI a0] rfl rfl rfl ?_
 intro b1 w2 E' S
 replace E:=E.trans E'
 refine YO S #[vI a1] rfl rfl rfl ?_
 intro b4 w5 E' S
 replace E:=E.trans E'
 refine Zu S cz13 ty34 rfl rfl ?_
 intro b7 w8 E' S
 replace E:=E.trans E'
 refine W_v (.bool false) (QD rfl) rfl (QB (tn (QE (QA (W_v (.slice Ac_0 ac_0.length cc_0) (QR (S.blk 3 rfl) ty25 rfl rfl) rfl (W_v (.func (.func 34) #[] #[pt b1 0,pt b4 0]) (Xz rfl) rfl ?_))))))
 obtain ⟨t10,ht11,H⟩:=QX H
 replace S:St w8 M F [_,_,_,_]:=S.pick [2,1,0,3] (by decide)
 refine Z2 fn33 (ZB.con k M Ac_0 cc_0 ac_0 a0 a1 b1 b4 t10 hrc_0 ht11) (Γ1:=[_,_]) (Γ2:=[_,_]) S rfl rfl (by rintro _ _ _ ⟨rfl,rfl⟩; exact (QS ZQ (QS ZQ Qd))) ?_
 rintro _ w12 _ Γ' E' S ⟨rfl,rfl⟩
 replace E:=E.trans E'
 replace S:St w12 M F [_,_,_,_]:=S
 refine W_v (vI t10) (QD rfl) rfl (QB (tn (QE (QE (QA (W_v (vI t10) (QC rfl) rfl (W_v (.bool (decide (t10 < (0:Int)))) (QT rfl rfl rfl rfl) rfl (QB (tn ?_)))))))))
 rcases Zh H with ⟨hb15,H⟩ | ⟨hb15,H⟩
 ·refine QL (congrArg Value.bool hb15) ?_
  refine QE (QA (W_v (.agg cz13) (ZN (pl:=[(0,1),(1,1),(2,1),(3,1)]) cz13 Tryd.underlying34 ty34 (by as_aux_lemma=>kernel_rfl) rfl (by as_aux_lemma=>kernel_rfl)) rfl ?_))
  refine Q5 S 2 rfl ty34 rfl rfl [vI 0,.bool false,vS ([]:Str),.slice none 0 0] rfl rfl rfl cz13 rfl rfl ?_
  intro w16 E' S
  replace E:=E.trans E'
  refine W_v (.bool false) (QD rfl) rfl (QB (tn ?_))
  refine QY ?_
  refine tr (?_)
  obtain rfl:=Option.some.inj H
  exact ⟨_,_,_,fun w1 e1=>QO (vs:=[.agg cz13,.bool false]) (FA.cons (⟨_,rfl,Qv ty34 ((S.of_eq e1).blk 2 rfl) (QI rfl) rfl (by decide)⟩) (FA.cons (rfl) (FA.nil))),HM,E,S.pick [3] (by decide),⟨none,0,rfl,SlW.nil _ _,rfl⟩⟩
 refine QJ (congrArg Value.bool hb15) (Qg (tn ?_))
 as_aux_lemma =>
 refine QE (QA (W_v (.slice Ac_0 ac_0.length cc_0) (QR (S.blk 3 rfl) ty25 rfl rfl) rfl (W_v (vI t10) (QC rfl) rfl ?_)))
 obtain ⟨⟨p17,p18⟩,H⟩:=Zt H
 obtain ⟨b19,o20,cs21,_,_,ee26,hb22,vs23,hR24,hc25⟩:=SlW.at' hrc_0 p17 p18
 obtain ⟨v30,hs29,rfl⟩:=hR24
 obtain ⟨A27,c28,rfl,_⟩:=hs29.form
 refine W_v (.pointer (some ⟨b19,o20 + t10.toNat * 7,none⟩)) (Qe Tryd.underlying25 ty55 (slA ee26) rfl p17 p18) rfl (W_v (.pointer (some ⟨b19,o20 + t10.toNat * 7 + 3,none⟩)) (QF (o:=o20 + t10.toNat * 7) (off:=3) Tryd.underlying55 rfl ty34 rfl rfl) rfl (W_v (.agg #[vI ((rd ac_0 t10).Answer.Err),.bool ((rd ac_0 t10).Answer.Found),vS ((rd ac_0 t10).Answer.Value),.slice A27 ((rd ac_0 t10).Answer.Pairs).length c28]) (Qh (S.frz hb22) ty34 rfl (XC hc25 3 rfl) rfl rfl) rfl ?_))
 refine Q5 S 2 rfl ty34 rfl rfl [vI ((rd ac_0 t10).Answer.Err),.bool ((rd ac_0 t10).Answer.Found),vS ((rd ac_0 t10).Answer.Value),.slice A27 ((rd ac_0 t10).Answer.Pairs).length c28] rfl rfl rfl #[vI ((rd ac_0 t10).Answer.Err),.bool ((rd ac_0 t10).Answer.Found),vS ((rd ac_0 t10).Answer.Value),.slice A27 ((rd ac_0 t10).Answer.Pairs).length c28] rfl rfl ?_
 intro w31 E' S
 replace E:=E.trans E'
 refine W_v (.bool true) (QD rfl) rfl (QB (tn ?_))
 refine QY ?_
 obtain rfl:=Option.some.inj H
 exact ⟨_,_,_,fun w1 e1=>QO (vs:=[.agg #[vI ((rd ac_0 t10).Answer.Err),.bool ((rd ac_0 t10).Answer.Found),vS ((rd ac_0 t10).Answer.Value),.slice A27 ((rd ac_0 t10).Answer.Pairs).length c28],.bool true]) (FA.cons (⟨_,rfl,Qv ty34 ((S.of_eq e1).blk 2 rfl) (QI rfl) rfl (by decide)⟩) (FA.cons (rfl) (FA.nil))),HM,E,S.pick [3] (by decide),⟨A27,c28,rfl,hs29,rfl⟩⟩
def ZG (a0:Int) (a1:(List Int)) (a2:QM) (ac_0:(List QG)) (ac_2:(List (List QW))) (rec:Int → (List Int) → QM → (List QG) → (List (List QW)) → Option (Bool)):Nat → Int → Option ((Bool) ⊕ (Unit))
 | 0,_=>none
 | k + 1,x349=>(if (decide (x349 < (a1.length:Int))) = true then (if 0 ≤ x349 ∧ x349 < (a1.length:Int) then (if (decide ((rd a1 x349) < (0:Int))) = true then ZG a0 a1 a2 ac_0 ac_2 rec k (IntKind.i64.wrap (x349 + (1:Int))) else (Option.bind (YT k a2) (fun t502=>(if 0 ≤ x349 ∧ x349 < (ac_2.length:Int) then (if 0 ≤ (rd a1 x349) ∧ (rd a1 x349) < ((rd ac_2 x349).length:Int) then (Option.bind (Zb k t502 x349 (rd (rd ac_2 x349) (rd a1 x349))) (fun t547=>(Option.bind (XP k x349 (rd a1 x349) ac_0) (fun t573=>(Option.bind (α:=Bool) (if t573.2 = true then (Option.bind (Y4 k t547.1 t573.1) (fun t594=>some ((!t594)))) else some (false)) (fun x592=>(if x592 = true then ZG a0 a1 a2 ac_0 ac_2 rec k (IntKind.i64.wrap (x349 + (1:Int))) else (Option.bind (YA k a1) (fun t599=>(if 0 ≤ x349 ∧ x349 < (t599.length:Int) then (Option.bind (α:=List Int) (some (List.set t599 x349.toNat (-1:Int))) (fun x616=>(Option.bind (rec a0 x616 t547.2 ac_0 ac_2) (fun t620=>(if t620 = true then some (.inl true) else ZG a0 a1 a2 ac_0 ac_2 rec k (IntKind.i64.wrap (x349 + (1:Int)))))))) else none)))))))))) else none) else none)))) else none) else some (.inr ()))
theorem ZG.mono {a0:Int} {a1:(List Int)} {a2:QM} {ac_0:(List QG)} {ac_2:(List (List QW))} {rec rec':Int → (List Int) → QM → (List QG) → (List (List QW)) → Option (Bool)} (hrec:∀ x0 x1 x2 x3 x4,OLe (rec x0 x1 x2 x3 x4) (rec' x0 x1 x2 x3 x4)):∀ {kl:Nat} {x0},OLe (ZG a0 a1 a2 ac_0 ac_2 rec kl x0) (ZG a0 a1 a2 ac_0 ac_2 rec' (kl + 1) x0):=by
 intro kl
 induction kl with
 | zero=>intros; exact OLe.none
 | succ kl ih =>
  intros
  rw [ZG.eq_2,ZG.eq_2]
  have m1:=@YT.mono
  have m2:=@Zb.mono
  have m3:=@Y4.mono
  have m4:=@XP.mono
  have m5:=@YA.mono
  exact mo
def ZU (k:Nat) (rec:Int → (List Int) → QM → (List QG) → (List (List QW)) → Option (Bool)) (a0:Int) (a1:(List Int)) (a2:QM) (ac_0:(List QG)) (ac_2:(List (List QW))):Option (Bool) :=
 (if (a0 == (ac_0.length:Int)) = true then some true else (if 0 ≤ a0 ∧ a0 < (ac_0.length:Int) then (if ((rd ac_0 a0).What == (1:Int)) = true then (Option.bind (YA k a1) (fun t21=>(if 0 ≤ (rd ac_0 a0).Task ∧ (rd ac_0 a0).Task < (t21.length:Int) then (Option.bind (α:=List Int) (some (List.set t21 ((rd ac_0 a0).Task).toNat ((rd ac_0 a0).Call))) (fun x38=>(Option.bind (rec (IntKind.i64.wrap (a0 + (1:Int))) x38 a2 ac_0 ac_2) (fun t42=>some t42)))) else none))) else (if 0 ≤ (rd ac_0 a0).Task ∧ (rd ac_0 a0).Task < (a1.length:Int) then (if ((rd a1 ((rd ac_0 a0).Task)) != (rd ac_0 a0).Call) = true then (Option.bind (rec (IntKind.i64.wrap (a0 + (1:Int))) a1 a2 ac_0 ac_2) (fun t70=>some t70)) else (Option.bind (ZG a0 a1 a2 ac_0 ac_2 rec k (0:Int)) (fun o486o=>Sum.elim (fun r'=>some r') (fun _=>some false) o486o))) else none)) else none))
theorem ZU.mono {k:Nat} {rec rec':Int → (List Int) → QM → (List QG) → (List (List QW)) → Option (Bool)} (hrec:∀ x0 x1 x2 x3 x4,OLe (rec x0 x1 x2 x3 x4) (rec' x0 x1 x2 x3 x4)) {a0:Int} {a1:(List Int)} {a2:QM} {ac_0:(List QG)} {ac_2:(List (List QW))}:OLe (ZU k rec a0 a1 a2 ac_0 ac_2) (ZU (k + 1) rec' a0 a1 a2 ac_0 ac_2):=by
 unfold ZU
 repeat' (first | with_reducible exact OLe.none | with_reducible exact OLe.some | with_reducible refine OLe.ite ?_ ?_ | with_reducible refine OLe.bind ?_ (fun _=>?_) | exact hrec _ _ _ _ _ | exact ZG.mono hrec | with_reducible exact YA.mono | refine OLe.bind ?_ (fun _=>?_) | refine OLe.ite ?_ ?_ | refine OLe.elim (fun _=>?_) (fun _=>?_) | split)
theorem ZU.con (k:Nat) (M:Hp) (a0:Int) (A1:Option Addr) (c1:Nat) (a1:(List Int)) (A2_8:Option Addr) (c2_8:Nat) (A2_9:Option Addr) (c2_9:Nat) (A2_10:Option Addr) (c2_10:Nat) (A2_11:Option Addr) (c2_11:Nat) (vs2_11:List (Str × Value)) (a2:QM) (Ac_0:Option Addr) (cc_0:Nat) (ac_0:(List QG)) (Ac_2:Option Addr) (cc_2:Nat) (ac_2:(List (List QW))) (bo2:Nat) (bc_0:Nat) (bc_1:Nat) (bc_2:Nat) (bc_3:Nat) (r:Bool) (hr1:SlR (rInt .i64) M (.slice A1 a1.length c1) a1) (hm2_11:YP Qm M a2.rows vs2_11) (hrc_0:SlR QK M (.slice Ac_0 ac_0.length cc_0) ac_0) (hrc_2:SlR (rSl ZV) M (.slice Ac_2 ac_2.length cc_2) ac_2) (hg0:∃ gt fr,M 0 = some (.cells cz1 gt fr)) (hg1:∃ gt fr,M 1 = some (.cells cz3 gt fr)) (rec:Int → (List Int) → QM → (List QG) → (List (List QW)) → Option (Bool)) (hrec:∀ (M:Hp) (a0:Int) (A1:Option Addr) (c1:Nat) (a1:(List Int)) (A2_8:Option Addr) (c2_8:Nat) (A2_9:Option Addr) (c2_9:Nat) (A2_10:Option Addr) (c2_10:Nat) (A2_11:Option Addr) (c2_11:Nat) (vs2_11:List (Str × Value)) (a2:QM) (Ac_0:Option Addr) (cc_0:Nat) (ac_0:(List QG)) (Ac_2:Option Addr) (cc_2:Nat) (ac_2:(List (List QW))) (bo2:Nat) (bc_0:Nat) (bc_1:Nat) (bc_2:Nat) (bc_3:Nat) (r:Bool) (hr1:SlR (rInt .i64) M (.slice A1 a1.length c1) a1) (hm2_11:YP Qm M a2.rows vs2_11) (hrc_0:SlR QK M (.slice Ac_0 ac_0.length cc_0) ac_0) (hrc_2:SlR (rSl ZV) M (.slice Ac_2 ac_2.length cc_2) ac_2) (hg0:∃ gt fr,M 0 = some (.cells cz1 gt fr)) (hg1:∃ gt fr,M 1 = some (.cells cz3 gt fr)) (h:rec a0 a1 a2 ac_0 ac_2 = some r),Con Tryd.prog 35 #[vI a0,.slice A1 a1.length c1,pt bo2 0,pt bc_0 0,pt bc_1 0,pt bc_2 0,pt bc_3 0] M [B95 bo2 a2 A2_8 A2_9 A2_10 c2_10 A2_11,QV QH (Value.int .i64) A2_8 a2.names,QV (Value.int .i64) (Value.int .i64) A2_9 a2.many,Row QP 122 (.slice A2_10 a2.txs.length c2_10) a2.txs,QV encS (fun v:Value=>v) A2_11 vs2_11,Blk bc_0 (.cells #[.slice Ac_0 ac_0.length cc_0] 25 (0,0)),Blk bc_1 (.cells #[.func (.func 35) #[] #[pt bc_0 0,pt bc_1 0,pt bc_2 0,pt bc_3 0]] 82 (0,0)),Blk bc_2 (.cells #[.slice Ac_2 ac_2.length cc_2] 24 (0,0)),Blk bc_3 (.cells #[.func (.func 32) #[] #[pt bc_0 0]] 81 (0,0))] (fun v M' Γ'=>v = .bool r ∧ Γ' = [B95 bo2 a2 A2_8 A2_9 A2_10 c2_10 A2_11,QV QH (Value.int .i64) A2_8 a2.names,QV (Value.int .i64) (Value.int .i64) A2_9 a2.many,Row QP 122 (.slice A2_10 a2.txs.length c2_10) a2.txs,QV encS (fun v:Value=>v) A2_11 vs2_11,Blk bc_0 (.cells #[.slice Ac_0 ac_0.length cc_0] 25 (0,0)),Blk bc_1 (.cells #[.func (.func 35) #[] #[pt bc_0 0,pt bc_1 0,pt bc_2 0,pt bc_3 0]] 82 (0,0)),Blk bc_2 (.cells #[.slice Ac_2 ac_2.length cc_2] 24 (0,0)),Blk bc_3 (.cells #[.func (.func 32) #[] #[pt bc_0 0]] 81 (0,0))])) (h:ZU k rec a0 a1 a2 ac_0 ac_2 = some r):Con Tryd.prog 35 #[vI a0,.slice A1 a1.length c1,pt bo2 0,pt bc_0 0,pt bc_1 0,pt bc_2 0,pt bc_3 0] M [B95 bo2 a2 A2_8 A2_9 A2_10 c2_10 A2_11,QV QH (Value.int .i64) A2_8 a2.names,QV (Value.int .i64) (Value.int .i64) A2_9 a2.many,Row QP 122 (.slice A2_10 a2.txs.length c2_10) a2.txs,QV encS (fun v:Value=>v) A2_11 vs2_11,Blk bc_0 (.cells #[.slice Ac_0 ac_0.length cc_0] 25 (0,0)),Blk bc_1 (.cells #[.func (.func 35) #[] #[pt bc_0 0,pt bc_1 0,pt bc_2 0,pt bc_3 0]] 82 (0,0)),Blk bc_2 (.cells #[.slice Ac_2 ac_2.length cc_2] 24 (0,0)),Blk bc_3 (.cells #[.func (.func 32) #[] #[pt bc_0 0]] 81 (0,0))] (fun v M' Γ'=>v = .bool r ∧ Γ' = [B95 bo2 a2 A2_8 A2_9 A2_10 c2_10 A2_11,QV QH (Value.int .i64) A2_8 a2.names,QV (Value.int .i64) (Value.int .i64) A2_9 a2.many,Row QP 122 (.slice A2_10 a2.txs.length c2_10) a2.txs,QV encS (fun v:Value=>v) A2_11 vs2_11,Blk bc_0 (.cells #[.slice Ac_0 ac_0.length cc_0] 25 (0,0)),Blk bc_1 (.cells #[.func (.func 35) #[] #[pt bc_0 0,pt bc_1 0,pt bc_2 0,pt bc_3 0]] 82 (0,0)),Blk bc_2 (.cells #[.slice Ac_2 ac_2.length cc_2] 24 (0,0)),Blk bc_3 (.cells #[.func (.func 32) #[] #[pt bc_0 0]] 81 (0,0))]):=by
 refine Qa Tryd.func35 rfl Tryd.ntmps35 Tryd.results35 rfl ?_
 intro w F rn S hrn
 have E:=Ext.refl w
 have HM:=Hp.le_refl M
 have H:=h
 unfold ZU at H
 refine QE (QA (W_v (.bool false) (QD rfl) rfl (QB (tn (QE (QE (QA (W_v (vI a0) (QC rfl) rfl (W_v (.slice Ac_0 ac_0.length cc_0) (QR (S.blk 5 rfl) ty25 rfl rfl) rfl (W_v (vI (ac_0.length:Int)) (Qt (n:=ac_0.length) Tryd.underlying25 rfl) rfl (W_v (.bool (a0 == (ac_0.length:Int))) (QT rfl rfl rfl rfl) rfl (QB (tn ?_)))))))))))))
 rcases Zh H with ⟨hb1,H⟩ | ⟨hb1,H⟩
 ·refine QL (congrArg Value.bool hb1) ?_
  refine QE (QA (W_v (.bool true) (QD rfl) rfl (QB (tn ?_))))
  refine QY ?_
  refine tr (?_)
  obtain rfl:=Option.some.inj H
  exact ⟨_,_,_,fun w1 e1=>QO (vs:=[.bool true]) (FA.cons (rfl) (FA.nil)),HM,E,S.pick [0,1,2,3,4,5,6,7,8] (by decide),⟨rfl,rfl⟩⟩
 refine QJ (congrArg Value.bool hb1) (Qg (tn (QE (QA (W_v (.slice Ac_0 ac_0.length cc_0) (QR (S.blk 5 rfl) ty25 rfl rfl) rfl (W_v (vI a0) (QC rfl) rfl ?_))))))
 obtain ⟨⟨p2,p3⟩,H⟩:=Zt H
 obtain ⟨b4,o5,cs6,_,_,ee11,hb7,vs8,hR9,hc10⟩:=SlW.at' hrc_0 p2 p3
 obtain ⟨v15,hs14,rfl⟩:=hR9
 obtain ⟨A12,c13,rfl,_⟩:=hs14.form
 refine W_v (.pointer (some ⟨b4,o5 + a0.toNat * 7,none⟩)) (Qe Tryd.underlying25 ty55 (slA ee11) rfl p2 p3) rfl (W_v (.agg #[vU ((rd ac_0 a0).What),vI ((rd ac_0 a0).Task),vI ((rd ac_0 a0).Call),vI ((rd ac_0 a0).Answer.Err),.bool ((rd ac_0 a0).Answer.Found),vS ((rd ac_0 a0).Answer.Value),.slice A12 ((rd ac_0 a0).Answer.Pairs).length c13]) (Qh (S.frz hb7) ty55 rfl (XC hc10 0 rfl) rfl rfl) rfl ?_)
 refine Zu S cz5 ty55 rfl rfl ?_
 intro b16 w17 E' S
 replace E:=E.trans E'
 refine Q5 S 0 rfl ty55 rfl rfl [vU ((rd ac_0 a0).What),vI ((rd ac_0 a0).Task),vI ((rd ac_0 a0).Call),vI ((rd ac_0 a0).Answer.Err),.bool ((rd ac_0 a0).Answer.Found),vS ((rd ac_0 a0).Answer.Value),.slice A12 ((rd ac_0 a0).Answer.Pairs).length c13] rfl rfl rfl #[vU ((rd ac_0 a0).What),vI ((rd ac_0 a0).Task),vI ((rd ac_0 a0).Call),vI ((rd ac_0 a0).Answer.Err),.bool ((rd ac_0 a0).Answer.Found),vS ((rd ac_0 a0).Answer.Value),.slice A12 ((rd ac_0 a0).Answer.Pairs).length c13] (by as_aux_lemma=>kernel_rfl) rfl ?_
 intro w19 E' S
 replace E:=E.trans E'
 refine QB (tn ?_)
 as_aux_lemma =>
 refine QE (QE (QA (W_v (pt b16 0) (QF (o:=0) (off:=0) Tryd.underlying55 rfl ty5 rfl rfl) rfl (W_v (vU ((rd ac_0 a0).What)) (QR (S.blk 0 rfl) ty5 rfl rfl) rfl (W_v (.bool ((rd ac_0 a0).What == (1:Int))) (QT rfl rfl rfl rfl) rfl (QB (tn ?_)))))))
 rcases Zh H with ⟨hb20,H⟩ | ⟨hb20,H⟩
 ·refine QL (congrArg Value.bool hb20) ?_
  refine QE (QA (W_v (.slice A1 a1.length c1) (QC rfl) rfl ?_))
  obtain ⟨t21,ht22,H⟩:=QX H
  refine YJ fn36 (YA.con k M A1 c1 a1 t21 hr1 ht22) S rfl rfl (by rintro _ _ _ ⟨_,_,_,rfl⟩; exact (QS (Yb (fun _ _ _ _ h=>h)) Qd)) ?_
  rintro _ w26 _ Γ' E' S ⟨A23,c24,rfl,rfl⟩
  replace E:=E.trans E'
  refine W_v (.slice A23 t21.length c24) (QD rfl) rfl (QB (tn (QE (QA (W_v (.slice A23 t21.length c24) (QC rfl) rfl (W_v (pt b16 1) (QF (o:=0) (off:=1) Tryd.underlying55 rfl ty3 rfl rfl) rfl (W_v (vI ((rd ac_0 a0).Task)) (QR (S.blk 1 rfl) ty3 rfl rfl) rfl (W_v (pt b16 2) (QF (o:=0) (off:=2) Tryd.underlying55 rfl ty3 rfl rfl) rfl (W_v (vI ((rd ac_0 a0).Call)) (QR (S.blk 1 rfl) ty3 rfl rfl) rfl ?_)))))))))
  obtain ⟨⟨p27,p28⟩,H⟩:=Zt H
  obtain ⟨b29,o30,cs31,_,_,ee36,hb32,vs33,hR34,hc35⟩:=SlW.at' (S.row_read 0 rfl) p27 p28
  obtain rfl:vs33 = _:=hR34
  refine W_v (.pointer (some ⟨b29,o30 + ((rd ac_0 a0).Task).toNat * 1,none⟩)) (Qe Tryd.underlying36 ty3 (slA ee36) rfl p27 p28) rfl ?_
  obtain ⟨x38,he39,H⟩:=QX H
  replace he39:=Option.some.inj he39
  refine XE S 0 rfl rfl ee36 (by first | exact p27 | simpa using p27) (by first | exact p28 | simpa using p28) 0 ty3 rfl rfl [vI ((rd ac_0 a0).Call)] rfl rfl rfl rfl ((rd ac_0 a0).Call) (by rintro _ rfl; rfl) he39 ?_
  intro w37 E' S
  replace E:=E.trans E'
  have hs40:Value.slice A23 t21.length c24 = Value.slice A23 x38.length c24:=by rw [← he39,List.length_set]
  try unfold B55 at S
  try unfold B95 at S
  try rw [hs40] at S
  try rw [hs40]
  have p41:(rd ac_0 a0).Task < (x38.length:Int):=by rw [← he39,List.length_set]; exact p28
  refine QB (tn (QE (QA (W_v (.func (.func 35) #[] #[pt bc_0 0,pt bc_1 0,pt bc_2 0,pt bc_3 0]) (QR (S.blk 8 rfl) ty82 rfl rfl) rfl (W_v (vI a0) (QC rfl) rfl (W_v (vI (IntKind.i64.wrap (a0 + (1:Int)))) (QT rfl rfl rfl rfl) rfl (W_v (.slice A23 x38.length c24) (QC rfl) rfl (W_v (pt bo2 0) (QC rfl) rfl ?_))))))))
  obtain ⟨t42,ht43,H⟩:=QX H
  replace S:St w37 M F [_,_,_,_,_,_,_,_,_,_,_]:=S.pick [0,2,3,4,5,6,7,8,9,10,1] (by decide)
  refine V8 (fs:=[]) (cap:=[pt bc_0 0,pt bc_1 0,pt bc_2 0,pt bc_3 0]) fn35 rfl (fun h9 hs9 hd9=>hrec _ (IntKind.i64.wrap (a0 + (1:Int))) A23 c24 x38 A2_8 c2_8 A2_9 c2_9 A2_10 c2_10 A2_11 c2_11 vs2_11 a2 Ac_0 cc_0 ac_0 Ac_2 cc_2 ac_2 bo2 bc_0 bc_1 bc_2 bc_3 t42 (Sats.row hs9 hd9 0 rfl) (YP.mono hm2_11 (Hp.le_union_left _ _)) (SlR.mono hrc_0 (Hp.le_union_left _ _)) (SlR.mono hrc_2 (Hp.le_union_left _ _)) (let ⟨gt,fr,h8⟩:=hg0; ⟨gt,fr,Hp.le_union_left _ _ _ _ h8⟩) (let ⟨gt,fr,h8⟩:=hg1; ⟨gt,fr,Hp.le_union_left _ _ _ _ h8⟩) ht43) (Δ:=[Row (rInt .i64) 3 (.slice A23 x38.length c24) x38]) (Γ1:=[_,_,_,_,_,_,_,_,_]) (Γ2:=[_]) S rfl rfl (by rintro _ _ _ ⟨rfl,rfl⟩; exact (QS ZQ (QS ZS (QS ZS (QS (Yb (fun _ _ _ _ h=>h)) (QS ZS (QS ZQ (QS ZQ (QS ZQ (QS ZQ Qd)))))))))) ?_
  rintro _ w44 _ Γ' E' S ⟨rfl,rfl⟩
  replace E:=E.trans E'
  replace S:St w44 M F [_,_,_,_,_,_,_,_,_,_,_]:=S
  refine W_v (.bool t42) (QD rfl) rfl (QB (tn ?_))
  refine QY ?_
  refine tr (?_)
  obtain rfl:=Option.some.inj H
  exact ⟨_,_,_,fun w1 e1=>QO (vs:=[.bool t42]) (FA.cons (rfl) (FA.nil)),HM,E,S.pick [0,1,2,3,4,5,6,7,8] (by decide),⟨rfl,rfl⟩⟩
 refine QJ (congrArg Value.bool hb20) (Qg (tn ?_))
 as_aux_lemma =>
 refine QE (QE ?_)
 refine Ql (S:=fun w'=>∃ Mx,M.le Mx ∧ St w' Mx F [B55 b16 (rd ac_0 a0) A12 c13,B95 bo2 a2 A2_8 A2_9 A2_10 c2_10 A2_11,QV QH (Value.int .i64) A2_8 a2.names,QV (Value.int .i64) (Value.int .i64) A2_9 a2.many,Row QP 122 (.slice A2_10 a2.txs.length c2_10) a2.txs,QV encS (fun v:Value=>v) A2_11 vs2_11,Blk bc_0 (.cells #[.slice Ac_0 ac_0.length cc_0] 25 (0,0)),Blk bc_1 (.cells #[.func (.func 35) #[] #[pt bc_0 0,pt bc_1 0,pt bc_2 0,pt bc_3 0]] 82 (0,0)),Blk bc_2 (.cells #[.slice Ac_2 ac_2.length cc_2] 24 (0,0)),Blk bc_3 (.cells #[.func (.func 32) #[] #[pt bc_0 0]] 81 (0,0))]) (L:=8) mixed ?_
 intro w57 hw58 E'
 replace S:=S.heap hw58
 replace E:=E.trans E'
 have D1:∃ Mx,Hp.le M Mx ∧ St _ Mx F [_,_,_,_,_,_,_,_,_,_]:=⟨_,Hp.le_refl _,S.pick [0,1,2,3,4,5,6,7,8,9] (by decide)⟩
 refine Wt 0 rfl rfl rfl (.slice A1 a1.length c1) rfl (fun w' h'=>QC rfl) D1 (Wt 1 rfl rfl rfl (pt b16 1) rfl (fun w' h'=>QF (o:=0) (off:=1) Tryd.underlying55 rfl ty3 rfl rfl) D1 (Wt 2 rfl rfl rfl (vI ((rd ac_0 a0).Task)) rfl (fun w' h'=>QR (Qj h' 0 rfl) ty3 rfl rfl) D1 ?_))
 obtain ⟨⟨p59,p60⟩,H⟩:=Zt H
 obtain ⟨b61,o62,cs63,_,_,ee68,hb64,vs65,hR66,hc67⟩:=SlW.at' hr1 p59 p60
 obtain rfl:vs65 = _:=hR66
 refine Wt 3 rfl rfl rfl (.pointer (some ⟨b61,o62 + ((rd ac_0 a0).Task).toNat * 1,none⟩)) rfl (fun w' h'=>Qe Tryd.underlying36 ty3 (slA ee68) rfl p59 p60) D1 (Wt 4 rfl rfl rfl (vI (rd a1 ((rd ac_0 a0).Task))) rfl (fun w' h'=>QR (Y5 h' hb64) ty3 rfl (hc67 0 _ rfl)) D1 (Wt 5 rfl rfl rfl (pt b16 2) rfl (fun w' h'=>QF (o:=0) (off:=2) Tryd.underlying55 rfl ty3 rfl rfl) D1 (Wt 6 rfl rfl rfl (vI ((rd ac_0 a0).Call)) rfl (fun w' h'=>QR (Qj h' 0 rfl) ty3 rfl rfl) D1 (Wt 7 rfl rfl rfl (.bool ((rd a1 ((rd ac_0 a0).Task)) != (rd ac_0 a0).Call)) rfl (fun w' h'=>QT rfl rfl rfl rfl) D1 ?_))))
 refine Wz ?_
 refine tn ?_
 rcases Zh H with ⟨hb69,H⟩ | ⟨hb69,H⟩
 ·refine QL (congrArg Value.bool hb69) ?_
  refine QE (QA (W_v (.func (.func 35) #[] #[pt bc_0 0,pt bc_1 0,pt bc_2 0,pt bc_3 0]) (QR (S.blk 7 rfl) ty82 rfl rfl) rfl (W_v (vI a0) (QC rfl) rfl (W_v (vI (IntKind.i64.wrap (a0 + (1:Int)))) (QT rfl rfl rfl rfl) rfl (W_v (.slice A1 a1.length c1) (QC rfl) rfl (W_v (pt bo2 0) (QC rfl) rfl ?_))))))
  obtain ⟨t70,ht71,H⟩:=QX H
  replace S:St w57 M F [_,_,_,_,_,_,_,_,_,_]:=S.pick [1,2,3,4,5,6,7,8,9,0] (by decide)
  refine Xl (fs:=[]) (cap:=[pt bc_0 0,pt bc_1 0,pt bc_2 0,pt bc_3 0]) fn35 rfl (hrec M (IntKind.i64.wrap (a0 + (1:Int))) A1 c1 a1 A2_8 c2_8 A2_9 c2_9 A2_10 c2_10 A2_11 c2_11 vs2_11 a2 Ac_0 cc_0 ac_0 Ac_2 cc_2 ac_2 bo2 bc_0 bc_1 bc_2 bc_3 t70 hr1 hm2_11 hrc_0 hrc_2 hg0 hg1 ht71) (Γ1:=[_,_,_,_,_,_,_,_,_]) (Γ2:=[_]) S rfl rfl (by rintro _ _ _ ⟨rfl,rfl⟩; exact (QS ZQ (QS ZS (QS ZS (QS (Yb (fun _ _ _ _ h=>h)) (QS ZS (QS ZQ (QS ZQ (QS ZQ (QS ZQ Qd)))))))))) ?_
  rintro _ w72 _ Γ' E' S ⟨rfl,rfl⟩
  replace E:=E.trans E'
  replace S:St w72 M F [_,_,_,_,_,_,_,_,_,_]:=S
  refine W_v (.bool t70) (QD rfl) rfl (QB (tn ?_))
  refine QY ?_
  refine tr (?_)
  obtain rfl:=Option.some.inj H
  exact ⟨_,_,_,fun w1 e1=>QO (vs:=[.bool t70]) (FA.cons (rfl) (FA.nil)),HM,E,S.pick [0,1,2,3,4,5,6,7,8] (by decide),⟨rfl,rfl⟩⟩
 refine QJ (congrArg Value.bool hb69) (Qg (tn ?_))
 as_aux_lemma =>
 refine QE (QE (QA (W_v (.slice A1 a1.length c1) (QC rfl) rfl (W_v (vI (a1.length:Int)) (Qt (n:=a1.length) Tryd.underlying36 rfl) rfl (W_v (vI 0) (QC rfl) rfl (QB (tn ?_)))))))
 obtain ⟨o486,o486h,o486H⟩:=QX H
 refine Ya (fun ρ w'=>∃ (Mj:Hp),.inr () = o486 ∧ Qs ρ [] ∧ M.le Mj ∧ Ext w w' ∧ St w' Mj F [B95 bo2 a2 A2_8 A2_9 A2_10 c2_10 A2_11,QV QH (Value.int .i64) A2_8 a2.names,QV (Value.int .i64) (Value.int .i64) A2_9 a2.many,Row QP 122 (.slice A2_10 a2.txs.length c2_10) a2.txs,QV encS (fun v:Value=>v) A2_11 vs2_11,Blk bc_0 (.cells #[.slice Ac_0 ac_0.length cc_0] 25 (0,0)),Blk bc_1 (.cells #[.func (.func 35) #[] #[pt bc_0 0,pt bc_1 0,pt bc_2 0,pt bc_3 0]] 82 (0,0)),Blk bc_2 (.cells #[.slice Ac_2 ac_2.length cc_2] 24 (0,0)),Blk bc_3 (.cells #[.func (.func 32) #[] #[pt bc_0 0]] 81 (0,0))]) ?_ ?_
 ·skip
  refine Y0 (fun n ρ w'=>∃ (x349:Int) (Mj:Hp),ZG a0 a1 a2 ac_0 ac_2 rec n x349 = some o486 ∧ Qs ρ [(0,vI a0),(1,.slice A1 a1.length c1),(2,pt bo2 0),(4,pt bc_1 0),(5,pt bc_2 0),(6,pt bc_3 0),(59,.slice A1 a1.length c1),(60,vI (a1.length:Int)),(61,vI x349)] ∧ M.le Mj ∧ Ext w w' ∧ St w' Mj F [B95 bo2 a2 A2_8 A2_9 A2_10 c2_10 A2_11,QV QH (Value.int .i64) A2_8 a2.names,QV (Value.int .i64) (Value.int .i64) A2_9 a2.many,Row QP 122 (.slice A2_10 a2.txs.length c2_10) a2.txs,QV encS (fun v:Value=>v) A2_11 vs2_11,Blk bc_0 (.cells #[.slice Ac_0 ac_0.length cc_0] 25 (0,0)),Blk bc_1 (.cells #[.func (.func 35) #[] #[pt bc_0 0,pt bc_1 0,pt bc_2 0,pt bc_3 0]] 82 (0,0)),Blk bc_2 (.cells #[.slice Ac_2 ac_2.length cc_2] 24 (0,0)),Blk bc_3 (.cells #[.func (.func 32) #[] #[pt bc_0 0]] 81 (0,0))]) k ?_ ?_
  ·skip
   exact ⟨(0:Int),M,o486h,⟨rfl,rfl,rfl,rfl,rfl,rfl,rfl,rfl,rfl,trivial⟩,(Hp.le_refl M),E,S.pick [1,2,3,4,5,6,7,8,9] (by decide)⟩
  ·intro n
   rintro ρ w487 ⟨x349,M488,H,hρ,hM489,E,S⟩
   rw [QN hρ]
   replace hg0:=gup hg0 hM489
   replace hg1:=gup hg1 hM489
   replace HM:=Hp.le_trans HM hM489
   replace hr1:=SlR.mono hr1 hM489
   replace hm2_11:=YP.mono hm2_11 hM489
   replace hrc_0:=SlR.mono hrc_0 hM489
   replace hrc_2:=SlR.mono hrc_2 hM489
   cases n with
   | zero=>cases H
   | succ k =>
    rw [ZG.eq_2] at H
    refine QE (QA (W_v (.bool (decide (x349 < (a1.length:Int)))) (QT rfl rfl rfl rfl) rfl (QB (tn (QE ?_)))))
    rcases Zh H with ⟨hb490,H⟩ | ⟨hb490,H⟩
    ·refine QL (congrArg Value.bool hb490) ?_
     refine Qg (tn (QE ?_))
     refine Z0 ?_
     refine QE (QA (W_v (vI x349) (QC rfl) rfl ?_))
     obtain ⟨⟨p491,p492⟩,H⟩:=Zt H
     obtain ⟨b493,o494,cs495,_,_,ee500,hb496,vs497,hR498,hc499⟩:=SlW.at' hr1 p491 p492
     obtain rfl:vs497 = _:=hR498
     refine W_v (.pointer (some ⟨b493,o494 + x349.toNat * 1,none⟩)) (Qe Tryd.underlying36 ty3 (slA ee500) rfl p491 p492) rfl (W_v (vI (rd a1 x349)) (QR (S.frz hb496) ty3 rfl (hc499 0 _ rfl)) rfl (W_v (vI x349) (QD rfl) rfl (W_v (vI (rd a1 x349)) (QD rfl) rfl (QB (tn (QE (QE (QA (W_v (vI (rd a1 x349)) (QC rfl) rfl (W_v (.bool (decide ((rd a1 x349) < (0:Int)))) (QT rfl rfl rfl rfl) rfl (QB (tn ?_))))))))))))
     rcases Zh H with ⟨hb501,H⟩ | ⟨hb501,H⟩
     ·refine QL (congrArg Value.bool hb501) ?_
      refine Yo ?_
      refine tx (bsm (?_))
      refine tn (QA (W_v (vI (IntKind.i64.wrap (x349 + (1:Int)))) (QT rfl rfl rfl rfl) rfl (W_v (vI (IntKind.i64.wrap (x349 + (1:Int)))) (QC rfl) rfl (QB (tn ?_)))))
      exact ⟨k,Nat.lt_succ_self k,⟨(IntKind.i64.wrap (x349 + (1:Int))),M488,H,⟨rfl,rfl,rfl,rfl,rfl,rfl,rfl,rfl,rfl,trivial⟩,hM489,E,S.pick [0,1,2,3,4,5,6,7,8] (by decide)⟩⟩
     refine QJ (congrArg Value.bool hb501) (Qg (tn (QE (QA (W_v (pt bo2 0) (QC rfl) rfl ?_)))))
     obtain ⟨t502,ht503,H⟩:=QX H
     refine ZZ fn37 (YT.con k M488 A2_8 c2_8 A2_9 c2_9 A2_10 c2_10 A2_11 c2_11 vs2_11 a2 bo2 t502 hm2_11 ht503) (Γ1:=[_,_,_,_,_]) (Γ2:=[_,_,_,_]) S rfl rfl ?_
     rintro _ w520 M521 Γ' hM522 E' S ⟨b504,A506,c507,A509,c510,A512,c513,A515,c516,vs518,rfl,hm519,rfl⟩
     replace hg0:=gup hg0 hM522
     replace hg1:=gup hg1 hM522
     replace HM:=Hp.le_trans HM hM522
     replace hM489:=Hp.le_trans hM489 hM522
     replace hr1:=SlR.mono hr1 hM522
     replace hrc_0:=SlR.mono hrc_0 hM522
     replace hrc_2:=SlR.mono hrc_2 hM522
     replace E:=E.trans E'
     replace S:St w520 M521 F [_,_,_,_,_,_,_,_,_,_,_,_,_,_]:=S
     refine W_v (pt b504 0) (QD rfl) rfl (QB (tn ?_))
     as_aux_lemma =>
     refine QE (QA (W_v (pt b504 0) (QC rfl) rfl (W_v (vI x349) (QC rfl) rfl (W_v (.slice Ac_2 ac_2.length cc_2) (QR (S.blk 12 rfl) ty24 rfl rfl) rfl (W_v (vI x349) (QC rfl) rfl ?_)))))
     obtain ⟨⟨p523,p524⟩,H⟩:=Zt H
     obtain ⟨b525,o526,cs527,_,_,ee532,hb528,vs529,hR530,hc531⟩:=SlW.at' hrc_2 p523 p524
     obtain ⟨v536,hs535,rfl⟩:=hR530
     obtain ⟨A533,c534,rfl,_⟩:=hs535.form
     refine W_v (.pointer (some ⟨b525,o526 + x349.toNat * 1,none⟩)) (Qe Tryd.underlying24 ty44 (slA ee532) rfl p523 p524) rfl (W_v (.slice A533 (rd ac_2 x349).length c534) (QR (S.frz hb528) ty44 rfl (hc531 0 _ rfl)) rfl (W_v (vI (rd a1 x349)) (QC rfl) rfl ?_))
     obtain ⟨⟨p537,p538⟩,H⟩:=Zt H
     obtain ⟨b539,o540,cs541,_,_,ee546,hb542,vs543,hR544,hc545⟩:=SlW.at' hs535 p537 p538
     obtain rfl:vs543 = _:=hR544
     refine W_v (.pointer (some ⟨b539,o540 + (rd a1 x349).toNat * 7,none⟩)) (Qe Tryd.underlying44 ty47 (slA ee546) rfl p537 p538) rfl (W_v (.agg #[vU ((rd (rd ac_2 x349) (rd a1 x349)).Kind),vI ((rd (rd ac_2 x349) (rd a1 x349)).Tx),vS ((rd (rd ac_2 x349) (rd a1 x349)).Key),vS ((rd (rd ac_2 x349) (rd a1 x349)).End),vS ((rd (rd ac_2 x349) (rd a1 x349)).Value),vI ((rd (rd ac_2 x349) (rd a1 x349)).Limit),vU ((rd (rd ac_2 x349) (rd a1 x349)).Engine)]) (Qh (S.frz hb542) ty47 rfl (XC hc545 0 rfl) rfl rfl) rfl ?_)
     obtain ⟨t547,ht548,H⟩:=QX H
     refine ZZ fn15 (Zb.con k M521 A506 c507 A509 c510 A512 c513 A515 c516 vs518 t502 x349 (rd (rd ac_2 x349) (rd a1 x349)) b504 t547 hm519 hg0 hg1 ht548) (Γ1:=[_,_,_,_,_]) (Γ2:=[_,_,_,_,_,_,_,_,_]) S rfl rfl ?_
     rintro _ w566 M567 Γ' hM568 E' S ⟨A549,c550,A552,c553,A555,c556,A558,c559,A561,c562,vs564,rfl,hm565,rfl⟩
     replace hg0:=gup hg0 hM568
     replace hg1:=gup hg1 hM568
     replace HM:=Hp.le_trans HM hM568
     replace hM489:=Hp.le_trans hM489 hM568
     replace hr1:=SlR.mono hr1 hM568
     replace hrc_0:=SlR.mono hrc_0 hM568
     replace hrc_2:=SlR.mono hrc_2 hM568
     replace E:=E.trans E'
     replace S:St w566 M567 F [_,_,_,_,_,_,_,_,_,_,_,_,_,_,_]:=S
     refine Zu S cz13 ty34 rfl rfl ?_
     intro b569 w570 E' S
     replace E:=E.trans E'
     refine Q5 S 0 rfl ty34 rfl rfl [vI t547.1.Err,.bool t547.1.Found,vS t547.1.Value,.slice A549 t547.1.Pairs.length c550] rfl rfl rfl #[vI t547.1.Err,.bool t547.1.Found,vS t547.1.Value,.slice A549 t547.1.Pairs.length c550] rfl rfl ?_
     intro w572 E' S
     replace E:=E.trans E'
     refine QB (tn ?_)
     as_aux_lemma =>
     refine QE (QE (QA (W_v (.func (.func 32) #[] #[pt bc_0 0]) (QR (S.blk 15 rfl) ty81 rfl rfl) rfl (W_v (vI x349) (QC rfl) rfl (W_v (vI (rd a1 x349)) (QC rfl) rfl ?_)))))
     obtain ⟨t573,ht574,H⟩:=QX H
     replace S:St w572 M567 F [_,_,_,_,_,_,_,_,_,_,_,_,_,_,_,_]:=S.pick [12,0,1,2,3,4,5,6,7,8,9,10,11,13,14,15] (by decide)
     refine X7 (fs:=[]) (cap:=[pt bc_0 0]) fn32 rfl (XP.con k M567 x349 (rd a1 x349) Ac_0 cc_0 ac_0 bc_0 t573 hrc_0 ht574) (Γ1:=[_]) (Γ2:=[_,_,_,_,_,_,_,_,_,_,_,_,_,_,_]) S rfl rfl ?_
     rintro _ w578 M579 Γ' hM580 E' S ⟨A575,c576,rfl,hs577,rfl⟩
     replace hg0:=gup hg0 hM580
     replace hg1:=gup hg1 hM580
     replace HM:=Hp.le_trans HM hM580
     replace hM489:=Hp.le_trans hM489 hM580
     replace hr1:=SlR.mono hr1 hM580
     replace hrc_0:=SlR.mono hrc_0 hM580
     replace hrc_2:=SlR.mono hrc_2 hM580
     replace hm565:=YP.mono hm565 hM580
     replace E:=E.trans E'
     replace S:St w578 M579 F [_,_,_,_,_,_,_,_,_,_,_,_,_,_,_,_]:=S
     refine W_v (.tuple #[.agg #[vI t573.1.Err,.bool t573.1.Found,vS t573.1.Value,.slice A575 t573.1.Pairs.length c576],.bool t573.2]) (QC rfl) rfl (W_v (.agg #[vI t573.1.Err,.bool t573.1.Found,vS t573.1.Value,.slice A575 t573.1.Pairs.length c576]) (QQ rfl rfl) rfl (W_v (.bool t573.2) (QQ rfl rfl) rfl ?_))
     refine Zu S cz13 ty34 rfl rfl ?_
     intro b581 w582 E' S
     replace E:=E.trans E'
     refine Q5 S 0 rfl ty34 rfl rfl [vI t573.1.Err,.bool t573.1.Found,vS t573.1.Value,.slice A575 t573.1.Pairs.length c576] rfl rfl rfl #[vI t573.1.Err,.bool t573.1.Found,vS t573.1.Value,.slice A575 t573.1.Pairs.length c576] rfl rfl ?_
     intro w584 E' S
     replace E:=E.trans E'
     refine W_v (.bool t573.2) (QD rfl) rfl (QB (tn (QE (QA (W_v (.bool t573.2) (QC rfl) rfl (W_v (.bool t573.2) (QC rfl) rfl ?_))))))
     obtain ⟨o593,o593h,o593H⟩:=QX H
     refine ZI 5 (fun ρ w'=>∃ (x592:Bool),(x592) = o593 ∧ Qs ρ [(0,vI a0),(1,.slice A1 a1.length c1),(2,pt bo2 0),(4,pt bc_1 0),(5,pt bc_2 0),(6,pt bc_3 0),(13,vI x349),(15,pt b504 0),(59,.slice A1 a1.length c1),(60,vI (a1.length:Int)),(61,vI x349),(93,.bool x592)] ∧ Ext w w' ∧ St w' M579 F [Blk bc_0 (.cells #[.slice Ac_0 ac_0.length cc_0] 25 (0,0)),B95 b504 t547.2 A552 A555 A558 c559 A561,QV QH (Value.int .i64) A552 t547.2.names,QV (Value.int .i64) (Value.int .i64) A555 t547.2.many,Row QP 122 (.slice A558 t547.2.txs.length c559) t547.2.txs,QV encS (fun v:Value=>v) A561 vs564,B95 bo2 a2 A2_8 A2_9 A2_10 c2_10 A2_11,QV QH (Value.int .i64) A2_8 a2.names,QV (Value.int .i64) (Value.int .i64) A2_9 a2.many,Row QP 122 (.slice A2_10 a2.txs.length c2_10) a2.txs,QV encS (fun v:Value=>v) A2_11 vs2_11,Blk bc_1 (.cells #[.func (.func 35) #[] #[pt bc_0 0,pt bc_1 0,pt bc_2 0,pt bc_3 0]] 82 (0,0)),Blk bc_2 (.cells #[.slice Ac_2 ac_2.length cc_2] 24 (0,0)),Blk bc_3 (.cells #[.func (.func 32) #[] #[pt bc_0 0]] 81 (0,0))]) ?_ ?_
     ·have H:=o593h
      rcases Zh H with ⟨hb591,H⟩ | ⟨hb591,H⟩
      ·skip
       refine QU (congrArg some hb591) (W_v (.agg #[vI t547.1.Err,.bool t547.1.Found,vS t547.1.Value,.slice A549 t547.1.Pairs.length c550]) (Qh (S.blk 2 rfl) ty34 rfl (QI rfl) rfl rfl) rfl (QU (congrArg some hb591) (W_v (.agg #[vI t573.1.Err,.bool t573.1.Found,vS t573.1.Value,.slice A575 t573.1.Pairs.length c576]) (Qh (S.blk 0 rfl) ty34 rfl (QI rfl) rfl rfl) rfl (QU (congrArg some hb591) ?_))))
       replace S:St w584 M579 F [_,_,_,_,_,_,_,_,_,_,_,_,_,_,_,_,_]:=S.pick [3,0,1,2,4,5,6,7,8,9,10,11,12,13,14,15,16] (by decide)
       obtain ⟨t594,ht595,H⟩:=QX H
       refine XX 1 fn12 (fun h9 hs9 hd9=>Y4.con k _ A549 c550 t547.1 A575 c576 t573.1 t594 (Sats.row hs9 hd9 0 rfl) (SlR.mono hs577 (Hp.le_union_left _ _)) ht595) S rfl rfl (by rintro _ _ _ ⟨_,rfl⟩; exact Qd) ?_
       rintro _ w596 _ Γ' E' S ⟨rfl,rfl⟩
       replace E:=E.trans E'
       refine QU (congrArg some hb591) (W_v (.bool (!t594)) (Yx (b:=t594) rfl) rfl (W_v (.bool (!t594)) (QZ (k:=true) (congrArg Value.bool hb591) rfl) rfl (QB ?_)))
       exact ⟨(!t594),Option.some.inj H,⟨rfl,rfl,rfl,rfl,rfl,rfl,rfl,rfl,rfl,rfl,rfl,rfl,trivial⟩,E,S.pick [2,4,5,6,7,8,9,10,11,12,13,14,15,16] (by decide)⟩
      ·skip
       refine Qk (skT hb591) rfl (Qk (skT hb591) rfl (Qk (skT hb591) rfl (Qk (skT hb591) rfl (W_v (.bool false) (QZ (k:=false) (congrArg Value.bool hb591) rfl) rfl (QB ?_)))))
       exact ⟨false,Option.some.inj H,⟨rfl,rfl,rfl,rfl,rfl,rfl,rfl,rfl,rfl,rfl,rfl,rfl,trivial⟩,E,S.pick [1,4,5,6,7,8,9,10,11,12,13,14,15,16] (by decide)⟩
     as_aux_lemma =>
     rintro ρ w597 ⟨x592,rfl,hρ,E,S⟩
     rw [QN hρ]
     have H:=o593H
     refine QB (tn ?_)
     rcases Zh H with ⟨hb598,H⟩ | ⟨hb598,H⟩
     ·refine QL (congrArg Value.bool hb598) ?_
      refine Yo ?_
      refine tx (bsm (?_))
      refine tn (QA (W_v (vI (IntKind.i64.wrap (x349 + (1:Int)))) (QT rfl rfl rfl rfl) rfl (W_v (vI (IntKind.i64.wrap (x349 + (1:Int)))) (QC rfl) rfl (QB (tn ?_)))))
      exact ⟨k,Nat.lt_succ_self k,⟨(IntKind.i64.wrap (x349 + (1:Int))),M579,H,⟨rfl,rfl,rfl,rfl,rfl,rfl,rfl,rfl,rfl,trivial⟩,hM489,E,S.pick [6,7,8,9,10,0,11,12,13] (by decide)⟩⟩
     refine QJ (congrArg Value.bool hb598) (Qg (tn (QE (QA (W_v (.slice A1 a1.length c1) (QC rfl) rfl ?_)))))
     obtain ⟨t599,ht600,H⟩:=QX H
     refine YJ fn36 (YA.con k M579 A1 c1 a1 t599 hr1 ht600) S rfl rfl (by rintro _ _ _ ⟨_,_,_,rfl⟩; exact (QS (Yb (fun _ _ _ _ h=>h)) Qd)) ?_
     rintro _ w604 _ Γ' E' S ⟨A601,c602,rfl,rfl⟩
     replace E:=E.trans E'
     refine W_v (.slice A601 t599.length c602) (QD rfl) rfl (QB (tn (QE (QA (W_v (.slice A601 t599.length c602) (QC rfl) rfl (W_v (vI x349) (QC rfl) rfl ?_))))))
     obtain ⟨⟨p605,p606⟩,H⟩:=Zt H
     obtain ⟨b607,o608,cs609,_,_,ee614,hb610,vs611,hR612,hc613⟩:=SlW.at' (S.row_read 0 rfl) p605 p606
     obtain rfl:vs611 = _:=hR612
     refine W_v (.pointer (some ⟨b607,o608 + x349.toNat * 1,none⟩)) (Qe Tryd.underlying36 ty3 (slA ee614) rfl p605 p606) rfl ?_
     obtain ⟨x616,he617,H⟩:=QX H
     replace he617:=Option.some.inj he617
     refine XE S 0 rfl rfl ee614 (by first | exact p605 | simpa using p605) (by first | exact p606 | simpa using p606) 0 ty3 rfl rfl [vI (-1)] rfl rfl rfl rfl (-1:Int) (by rintro _ rfl; rfl) he617 ?_
     intro w615 E' S
     replace E:=E.trans E'
     have hs618:Value.slice A601 t599.length c602 = Value.slice A601 x616.length c602:=by rw [← he617,List.length_set]
     try unfold B95 at S
     try rw [hs618] at S
     try rw [hs618]
     have p619:x349 < (x616.length:Int):=by rw [← he617,List.length_set]; exact p606
     refine QB (tn ?_)
     as_aux_lemma =>
     refine QE (QA (W_v (.func (.func 35) #[] #[pt bc_0 0,pt bc_1 0,pt bc_2 0,pt bc_3 0]) (QR (S.blk 12 rfl) ty82 rfl rfl) rfl (W_v (vI a0) (QC rfl) rfl (W_v (.slice A601 x616.length c602) (QC rfl) rfl (W_v (pt b504 0) (QC rfl) rfl ?_)))))
     obtain ⟨t620,ht621,H⟩:=QX H
     replace S:St w615 M579 F [_,_,_,_,_,_,_,_,_,_,_,_,_,_,_]:=S.pick [0,2,3,4,5,6,1,12,13,14,7,8,9,10,11] (by decide)
     refine V8 (fs:=[]) (cap:=[pt bc_0 0,pt bc_1 0,pt bc_2 0,pt bc_3 0]) fn35 rfl (fun h9 hs9 hd9=>hrec _ a0 A601 c602 x616 A552 c553 A555 c556 A558 c559 A561 c562 vs564 t547.2 Ac_0 cc_0 ac_0 Ac_2 cc_2 ac_2 b504 bc_0 bc_1 bc_2 bc_3 t620 (Sats.row hs9 hd9 0 rfl) (YP.mono hm565 (Hp.le_union_left _ _)) (SlR.mono hrc_0 (Hp.le_union_left _ _)) (SlR.mono hrc_2 (Hp.le_union_left _ _)) (let ⟨gt,fr,h8⟩:=hg0; ⟨gt,fr,Hp.le_union_left _ _ _ _ h8⟩) (let ⟨gt,fr,h8⟩:=hg1; ⟨gt,fr,Hp.le_union_left _ _ _ _ h8⟩) ht621) (Δ:=[Row (rInt .i64) 3 (.slice A601 x616.length c602) x616]) (Γ1:=[_,_,_,_,_,_,_,_,_]) (Γ2:=[_,_,_,_,_]) S rfl rfl (by rintro _ _ _ ⟨rfl,rfl⟩; exact (QS ZQ (QS ZS (QS ZS (QS (Yb (fun _ _ _ _ h=>h)) (QS ZS (QS ZQ (QS ZQ (QS ZQ (QS ZQ Qd)))))))))) ?_
     rintro _ w622 _ Γ' E' S ⟨rfl,rfl⟩
     replace E:=E.trans E'
     replace S:St w622 M579 F [_,_,_,_,_,_,_,_,_,_,_,_,_,_,_]:=S
     refine QB (tn ?_)
     rcases Zh H with ⟨hb625,H⟩ | ⟨hb625,H⟩
     ·refine QL (congrArg Value.bool hb625) ?_
      refine QE (QA (W_v (.bool true) (QD rfl) rfl (QB (tn ?_))))
      refine QY ?_
      refine br (tr (tr (br (tr (tr (?_))))))
      obtain rfl:=Option.some.inj H
      have H:=o486H
      replace H:=elimL H
      obtain rfl:=Option.some.inj H
      exact ⟨_,_,_,fun w1 e1=>QO (vs:=[.bool true]) (FA.cons (rfl) (FA.nil)),HM,E,S.pick [10,11,12,13,14,5,6,7,8] (by decide),⟨rfl,rfl⟩⟩
     refine QJ (congrArg Value.bool hb625) (Qg (bn (tn (QA (W_v (vI (IntKind.i64.wrap (x349 + (1:Int)))) (QT rfl rfl rfl rfl) rfl (W_v (vI (IntKind.i64.wrap (x349 + (1:Int)))) (QC rfl) rfl (QB (tn ?_))))))))
     exact ⟨k,Nat.lt_succ_self k,⟨(IntKind.i64.wrap (x349 + (1:Int))),M579,H,⟨rfl,rfl,rfl,rfl,rfl,rfl,rfl,rfl,rfl,trivial⟩,hM489,E,S.pick [10,11,12,13,14,5,6,7,8] (by decide)⟩⟩
    refine QJ (congrArg Value.bool hb490) ?_
    refine Yo ?_
    refine tx (tx (bsm (?_)))
    refine tn ?_
    exact ⟨M488,Option.some.inj H,trivial,hM489,E,S.pick [0,1,2,3,4,5,6,7,8] (by decide)⟩
 rintro ρ w626 ⟨M627,rfl,hρ,hM628,E,S⟩
 rw [QN hρ]
 replace HM:=Hp.le_trans HM hM628
 have H:=o486H
 replace H:=elimR H
 refine tn ?_
 as_aux_lemma =>
 refine QE (QA (W_v (.bool false) (QD rfl) rfl (QB (tn ?_))))
 refine QY ?_
 obtain rfl:=Option.some.inj H
 exact ⟨_,_,_,fun w1 e1=>QO (vs:=[.bool false]) (FA.cons (rfl) (FA.nil)),HM,E,S.pick [0,1,2,3,4,5,6,7,8] (by decide),⟨rfl,rfl⟩⟩
def Zf (k:Nat):Nat → Int → (List Int) → QM → (List QG) → (List (List QW)) → Option (Bool)
 | 0,_,_,_,_,_=>none
 | n + 1,a0,a1,a2,ac_0,ac_2=>ZU k (Zf k n) a0 a1 a2 ac_0 ac_2
theorem Zf.mono {k:Nat}:∀ {n:Nat} {a0 a1 a2 a3 a4},OLe (Zf k n a0 a1 a2 a3 a4) (Zf (k + 1) (n + 1) a0 a1 a2 a3 a4):=by
 intro n
 induction n with
 | zero=>intros; exact OLe.none
 | succ n ih=>intro a0 a1 a2 a3 a4; exact ZU.mono (fun _ _ _ _ _=>ih)
theorem Zf.con (k:Nat):∀ (n:Nat) (M:Hp) (a0:Int) (A1:Option Addr) (c1:Nat) (a1:(List Int)) (A2_8:Option Addr) (c2_8:Nat) (A2_9:Option Addr) (c2_9:Nat) (A2_10:Option Addr) (c2_10:Nat) (A2_11:Option Addr) (c2_11:Nat) (vs2_11:List (Str × Value)) (a2:QM) (Ac_0:Option Addr) (cc_0:Nat) (ac_0:(List QG)) (Ac_2:Option Addr) (cc_2:Nat) (ac_2:(List (List QW))) (bo2:Nat) (bc_0:Nat) (bc_1:Nat) (bc_2:Nat) (bc_3:Nat) (r:Bool) (hr1:SlR (rInt .i64) M (.slice A1 a1.length c1) a1) (hm2_11:YP Qm M a2.rows vs2_11) (hrc_0:SlR QK M (.slice Ac_0 ac_0.length cc_0) ac_0) (hrc_2:SlR (rSl ZV) M (.slice Ac_2 ac_2.length cc_2) ac_2) (hg0:∃ gt fr,M 0 = some (.cells cz1 gt fr)) (hg1:∃ gt fr,M 1 = some (.cells cz3 gt fr)) (h:Zf k n a0 a1 a2 ac_0 ac_2 = some r),Con Tryd.prog 35 #[vI a0,.slice A1 a1.length c1,pt bo2 0,pt bc_0 0,pt bc_1 0,pt bc_2 0,pt bc_3 0] M [B95 bo2 a2 A2_8 A2_9 A2_10 c2_10 A2_11,QV QH (Value.int .i64) A2_8 a2.names,QV (Value.int .i64) (Value.int .i64) A2_9 a2.many,Row QP 122 (.slice A2_10 a2.txs.length c2_10) a2.txs,QV encS (fun v:Value=>v) A2_11 vs2_11,Blk bc_0 (.cells #[.slice Ac_0 ac_0.length cc_0] 25 (0,0)),Blk bc_1 (.cells #[.func (.func 35) #[] #[pt bc_0 0,pt bc_1 0,pt bc_2 0,pt bc_3 0]] 82 (0,0)),Blk bc_2 (.cells #[.slice Ac_2 ac_2.length cc_2] 24 (0,0)),Blk bc_3 (.cells #[.func (.func 32) #[] #[pt bc_0 0]] 81 (0,0))] (fun v M' Γ'=>v = .bool r ∧ Γ' = [B95 bo2 a2 A2_8 A2_9 A2_10 c2_10 A2_11,QV QH (Value.int .i64) A2_8 a2.names,QV (Value.int .i64) (Value.int .i64) A2_9 a2.many,Row QP 122 (.slice A2_10 a2.txs.length c2_10) a2.txs,QV encS (fun v:Value=>v) A2_11 vs2_11,Blk bc_0 (.cells #[.slice Ac_0 ac_0.length cc_0] 25 (0,0)),Blk bc_1 (.cells #[.func (.func 35) #[] #[pt bc_0 0,pt bc_1 0,pt bc_2 0,pt bc_3 0]] 82 (0,0)),Blk bc_2 (.cells #[.slice Ac_2 ac_2.length cc_2] 24 (0,0)),Blk bc_3 (.cells #[.func (.func 32) #[] #[pt bc_0 0]] 81 (0,0))]):=by
 intro n
 induction n with
 | zero=>intro M a0 A1 c1 a1 A2_8 c2_8 A2_9 c2_9 A2_10 c2_10 A2_11 c2_11 vs2_11 a2 Ac_0 cc_0 ac_0 Ac_2 cc_2 ac_2 bo2 bc_0 bc_1 bc_2 bc_3 r hr1 hm2_11 hrc_0 hrc_2 hg0 hg1 h; cases h
 | succ n ih=>intro M a0 A1 c1 a1 A2_8 c2_8 A2_9 c2_9 A2_10 c2_10 A2_11 c2_11 vs2_11 a2 Ac_0 cc_0 ac_0 Ac_2 cc_2 ac_2 bo2 bc_0 bc_1 bc_2 bc_3 r hr1 hm2_11 hrc_0 hrc_2 hg0 hg1 h; exact ZU.con k M a0 A1 c1 a1 A2_8 c2_8 A2_9 c2_9 A2_10 c2_10 A2_11 c2_11 vs2_11 a2 Ac_0 cc_0 ac_0 Ac_2 cc_2 ac_2 bo2 bc_0 bc_1 bc_2 bc_3 r hr1 hm2_11 hrc_0 hrc_2 hg0 hg1 _ ih h
def Zv (k:Nat) (a0:Int) (a1:(List Int)) (a2:QM) (ac_0:(List QG)) (ac_2:(List (List QW))):Option (Bool):=Zf k k a0 a1 a2 ac_0 ac_2
theorem Zv.mono {k:Nat} {a0 a1 a2 a3 a4}:OLe (Zv k a0 a1 a2 a3 a4) (Zv (k + 1) a0 a1 a2 a3 a4):=Zf.mono
theorem Zv.con (k:Nat) (M:Hp) (a0:Int) (A1:Option Addr) (c1:Nat) (a1:(List Int)) (A2_8:Option Addr) (c2_8:Nat) (A2_9:Option Addr) (c2_9:Nat) (A2_10:Option Addr) (c2_10:Nat) (A2_11:Option Addr) (c2_11:Nat) (vs2_11:List (Str × Value)) (a2:QM) (Ac_0:Option Addr) (cc_0:Nat) (ac_0:(List QG)) (Ac_2:Option Addr) (cc_2:Nat) (ac_2:(List (List QW))) (bo2:Nat) (bc_0:Nat) (bc_1:Nat) (bc_2:Nat) (bc_3:Nat) (r:Bool) (hr1:SlR (rInt .i64) M (.slice A1 a1.length c1) a1) (hm2_11:YP Qm M a2.rows vs2_11) (hrc_0:SlR QK M (.slice Ac_0 ac_0.length cc_0) ac_0) (hrc_2:SlR (rSl ZV) M (.slice Ac_2 ac_2.length cc_2) ac_2) (hg0:∃ gt fr,M 0 = some (.cells cz1 gt fr)) (hg1:∃ gt fr,M 1 = some (.cells cz3 gt fr)) (h:Zv k a0 a1 a2 ac_0 ac_2 = some r):Con Tryd.prog 35 #[vI a0,.slice A1 a1.length c1,pt bo2 0,pt bc_0 0,pt bc_1 0,pt bc_2 0,pt bc_3 0] M [B95 bo2 a2 A2_8 A2_9 A2_10 c2_10 A2_11,QV QH (Value.int .i64) A2_8 a2.names,QV (Value.int .i64) (Value.int .i64) A2_9 a2.many,Row QP 122 (.slice A2_10 a2.txs.length c2_10) a2.txs,QV encS (fun v:Value=>v) A2_11 vs2_11,Blk bc_0 (.cells #[.slice Ac_0 ac_0.length cc_0] 25 (0,0)),Blk bc_1 (.cells #[.func (.func 35) #[] #[pt bc_0 0,pt bc_1 0,pt bc_2 0,pt bc_3 0]] 82 (0,0)),Blk bc_2 (.cells #[.slice Ac_2 ac_2.length cc_2] 24 (0,0)),Blk bc_3 (.cells #[.func (.func 32) #[] #[pt bc_0 0]] 81 (0,0))] (fun v M' Γ'=>v = .bool r ∧ Γ' = [B95 bo2 a2 A2_8 A2_9 A2_10 c2_10 A2_11,QV QH (Value.int .i64) A2_8 a2.names,QV (Value.int .i64) (Value.int .i64) A2_9 a2.many,Row QP 122 (.slice A2_10 a2.txs.length c2_10) a2.txs,QV encS (fun v:Value=>v) A2_11 vs2_11,Blk bc_0 (.cells #[.slice Ac_0 ac_0.length cc_0] 25 (0,0)),Blk bc_1 (.cells #[.func (.func 35) #[] #[pt bc_0 0,pt bc_1 0,pt bc_2 0,pt bc_3 0]] 82 (0,0)),Blk bc_2 (.cells #[.slice Ac_2 ac_2.length cc_2] 24 (0,0)),Blk bc_3 (.cells #[.func (.func 32) #[] #[pt bc_0 0]] 81 (0,0))]):=Zf.con k k M a0 A1 c1 a1 A2_8 c2_8 A2_9 c2_9 A2_10 c2_10 A2_11 c2_11 vs2_11 a2 Ac_0 cc_0 ac_0 Ac_2 cc_2 ac_2 bo2 bc_0 bc_1 bc_2 bc_3 r hr1 hm2_11 hrc_0 hrc_2 hg0 hg1 h
end Go.Proofs.YtnjbjpaiepefoaaDoor
