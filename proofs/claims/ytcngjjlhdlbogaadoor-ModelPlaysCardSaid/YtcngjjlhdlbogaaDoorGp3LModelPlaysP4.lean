import Derived.Test.YtcngjjlhdlbogaaDoorGp3B
import Derived.Test.YtcngjjlhdlbogaaDoorGp3LModelPlaysP1
import Derived.Test.YtcngjjlhdlbogaaDoorGp3LModelPlaysP2
import Derived.Test.YtcngjjlhdlbogaaDoorGp3LModelPlaysP3
namespace Go.Proofs.YtcngjjlhdlbogaaDoor
open Go
set_option linter.unusedVariables false
set_option linter.unusedSimpArgs false
set_option maxHeartbeats 80000000
set_option maxRecDepth 100000
def Zl (k:Nat) (a0:QH) (a1:Int) (a2:Str) (a3:Str) (a4:Bool):Option (Qc×QH) :=
 (Option.bind (Zk k a0 a2) (fun t4=>(Option.bind (α:=Bool) (if (t4.Has&&(t4.I.Writer != a1))=true then some (true) else (if 0≤(IntKind.i64.wrap (a1 - (1:Int)))∧(IntKind.i64.wrap (a1 - (1:Int))) < (a0.T.length:Int) then (Option.bind (Yl k t4.L ((rd a0.T (IntKind.i64.wrap (a1 - (1:Int)))).Snapshot)) (fun t76=>some (t76))) else none)) (fun x64=>(if x64=true then some (cz6,a0) else (Option.bind (ZD k a0 a1 t4) (fun t83=>(if (a4&&(!t83.2))=true then some (cz8,a0) else (if ((!t4.Has)&&((((t4.L.length:Int)==(0:Int))&&(decide ((a0.L.length:Int)≥a0.C.Keys)))||(decide ((t4.L.length:Int)≥a0.C.Depth))))=true then some (cz5,a0) else (Option.bind (ZC k a0 (⟨t4.Key,t4.L,true,⟨a1,(0:Int),a4,a3⟩⟩:QR)) (fun t109=>some ((⟨(0:Int),a4,([]:Str),([]:List Qf)⟩:Qc),t109))))))))))))
theorem Zl.mono {k:Nat} {a0:QH} {a1:Int} {a2:Str} {a3:Str} {a4:Bool}:OLe (Zl k a0 a1 a2 a3 a4) (Zl (k+1) a0 a1 a2 a3 a4):=by
 unfold Zl
 have m1:=@Yl.mono
 have m2:=@Zk.mono
 have m3:=@ZD.mono
 have m4:=@ZC.mono
 exact mo
theorem Zl.con (k:Nat) (M:Hp) (A0_8:Option Addr) (c0_8:Nat) (A0_9:Option Addr) (c0_9:Nat) (a0:QH) (a1:Int) (a2:Str) (a3:Str) (a4:Bool) (bo0:Nat) (r:Qc×QH) (hr0_8:SlR QY M (.slice A0_8 a0.T.length c0_8) a0.T) (hr0_9:SlR QU M (.slice A0_9 a0.L.length c0_9) a0.L) (h:Zl k a0 a1 a2 a3 a4=some r):Con Tryd.prog 62 #[pt bo0 0,vI a1,vS a2,vS a3,.bool a4] M [B121 bo0 a0 A0_8 c0_8 A0_9 c0_9] (fun v M' Γ'=>∃ (Aq1:Option Addr) (cq2:Nat) (Aq4:Option Addr) (cq5:Nat) (Aq7:Option Addr) (cq8:Nat),v=.agg #[vI r.1.Err,.bool r.1.Found,vS r.1.Value,.slice Aq1 r.1.Pairs.length cq2]∧SlR QY M' (.slice Aq4 r.2.T.length cq5) r.2.T∧SlR QU M' (.slice Aq7 r.2.L.length cq8) r.2.L∧Γ'=[Row Qm 87 (.slice Aq1 r.1.Pairs.length cq2) r.1.Pairs,B121 bo0 r.2 Aq4 cq5 Aq7 cq8]):=by
 refine Qt Tryd.func62 rfl Tryd.ntmps62 Tryd.results62 rfl ?_
 intro w F rn S hrn
 have E:=Ext.refl w
 have HM:=Hp.le_refl M
 have H:=h
 unfold Zl at H
 refine QE (QA ?_)
 refine Zo S cz14 ty43 rfl rfl ?_
 intro b1 w2 E' S
 replace E:=E.trans E'
 refine QB (tn (QE (QA (W_v (pt bo0 0) (QD rfl) rfl (W_v (vS a2) (QD rfl) rfl ?_)))))
 obtain ⟨t4,ht5,H⟩:=QW H
 replace S:St w2 M F [_,_]:=S.pick [1,0] (by decide)
 refine Yc fn61 (Zk.con k M A0_8 c0_8 A0_9 c0_9 a0 a2 bo0 t4 hr0_8 hr0_9 ht5) (Γ1:=[_]) (Γ2:=[_]) S rfl rfl ?_
 rintro _ w9 M10 Γ' hM11 E' S ⟨A6,c7,rfl,hs8,rfl⟩
 replace HM:=Hp.le_trans HM hM11
 replace hr0_8:=SlR.mono hr0_8 hM11
 replace hr0_9:=SlR.mono hr0_9 hM11
 replace E:=E.trans E'
 replace S:St w9 M10 F [_,_]:=S
 refine Zo S cz3 ty127 rfl rfl ?_
 intro b12 w13 E' S
 replace E:=E.trans E'
 refine Qx S 0 rfl ty127 rfl rfl [vS t4.Key,.slice A6 t4.L.length c7,.bool t4.Has,vI t4.I.Writer,vI t4.I.TS,.bool t4.I.Tomb,vS t4.I.Value] rfl rfl rfl #[vS t4.Key,.slice A6 t4.L.length c7,.bool t4.Has,vI t4.I.Writer,vI t4.I.TS,.bool t4.I.Tomb,vS t4.I.Value] (by as_aux_lemma=>kernel_rfl) rfl ?_
 intro w15 E' S
 replace E:=E.trans E'
 refine QB (tn (QE (QE ?_)))
 refine Q0 (S:=fun w'=>∃ Mx,M10.le Mx∧St w' Mx F [B127 b12 t4 A6 c7,B121 bo0 a0 A0_8 c0_8 A0_9 c0_9,Blk b1 (.cells cz14 43 (0,0))]) (L:=23) mixed ?_
 intro w47 hw48 E'
 replace S:=S.heap hw48
 replace E:=E.trans E'
 have D1:∃ Mx,Hp.le M10 Mx∧St _ Mx F [_,_,_]:=⟨_,Hp.le_refl _,S.pick [0,1,2] (by decide)⟩
 refine Wt 0 rfl rfl rfl (pt b12 2) rfl (fun w' h'=>QC (o:=0) (off:=2) Tryd.underlying127 rfl ty4 rfl rfl) D1 (Wt 1 rfl rfl rfl (.bool t4.Has) rfl (fun w' h'=>QO (Qp h' 0 rfl) ty4 rfl rfl) D1 (Wt 2 rfl rfl rfl (.bool t4.Has) rfl (fun w' h'=>QD rfl) D1 ?_))
 refine YD (fun ρ w'=>Qi ρ [(0,pt bo0 0),(1,vI a1),(3,vS a3),(4,.bool a4),(10,pt b1 0),(11,pt b12 0),(25,.bool (t4.Has&&(t4.I.Writer != a1)))]∧w47=w') 14 (Ls 23 [0,1,2,3,4,5,6,7,8]) ?_ ?_
 rotate_left
 ·intro hrest
  rcases ZX t4.Has with hb49 | hb49
  ·skip
   have D2:∃ Mx,Hp.le M10 Mx∧St _ Mx F [_,_,_]:=⟨_,Hp.le_refl _,S.pick [0,1,2] (by decide)⟩
   refine WtN 3 rfl rfl rfl rfl (skT hb49) D2 (WtN 4 rfl rfl rfl rfl (skT hb49) D2 (WtN 5 rfl rfl rfl rfl (skT hb49) D2 (WtN 6 rfl rfl rfl rfl (skT hb49) D2 (WtN 7 rfl rfl rfl rfl (skT hb49) D2 (Wt 8 rfl rfl rfl (.bool false) rfl (fun w' h'=>QV (k:=false) (congrArg Value.bool hb49) rfl) D2 ?_)))))
   exact hrest _ _ ⟨⟨rfl,rfl,rfl,rfl,rfl,rfl,(by first | rfl | (rw [hb49];rfl) | (simp only [hb49];rfl)),trivial⟩,rfl⟩
  ·skip
   have D3:∃ Mx,Hp.le M10 Mx∧St _ Mx F [_,_,_]:=⟨_,Hp.le_refl _,S.pick [0,1,2] (by decide)⟩
   refine WtY 3 rfl rfl rfl (pt b12 3) rfl (congrArg some hb49) (fun w' h'=>QC (o:=0) (off:=3) Tryd.underlying127 rfl ty61 rfl rfl) D3 (WtY 4 rfl rfl rfl (pt b12 3) rfl (congrArg some hb49) (fun w' h'=>QC (o:=3) (off:=0) Tryd.underlying61 rfl ty3 rfl rfl) D3 (WtY 5 rfl rfl rfl (vI t4.I.Writer) rfl (congrArg some hb49) (fun w' h'=>QO (Qp h' 0 rfl) ty3 rfl rfl) D3 (WtY 6 rfl rfl rfl (vI a1) rfl (congrArg some hb49) (fun w' h'=>QD rfl) D3 (WtY 7 rfl rfl rfl (.bool (t4.I.Writer != a1)) rfl (congrArg some hb49) (fun w' h'=>Qa rfl rfl rfl rfl) D3 (Wt 8 rfl rfl rfl (.bool (t4.I.Writer != a1)) rfl (fun w' h'=>QV (k:=true) (congrArg Value.bool hb49) rfl) D3 ?_)))))
   exact hrest _ _ ⟨⟨rfl,rfl,rfl,rfl,rfl,rfl,(by first | rfl | (rw [hb49];rfl) | (simp only [hb49];rfl)),trivial⟩,rfl⟩
 rintro ρ _ ⟨hρ,rfl⟩
 rw [QI hρ]
 refine Wt 9 rfl rfl rfl (.bool (t4.Has&&(t4.I.Writer != a1))) rfl (fun w' h'=>QD rfl) (⟨M10,Hp.le_refl M10,(S.pick [0,1,2] (by decide))⟩) ?_
 obtain ⟨o65,o65h,o65H⟩:=QW H
 refine YD (fun ρ w'=>∃ (x64:Bool),(x64)=o65∧Qi ρ [(0,pt bo0 0),(1,vI a1),(3,vS a3),(4,.bool a4),(10,pt b1 0),(11,pt b12 0),(39,.bool x64)]∧Ext w w'∧St w' M10 F [B127 b12 t4 A6 c7,B121 bo0 a0 A0_8 c0_8 A0_9 c0_9,Blk b1 (.cells cz14 43 (0,0))]) 0 (Ls 23 [0,1,2,3,4,5,6,7,8,9,10,11,12,13,14,15,16,17,18,19,20,21,22]) ?_ ?_
 rotate_left
 ·intro hrest
  have H:=o65h
  rcases Zf H with ⟨hb63,H⟩ | ⟨hb63,H⟩
  ·skip
   have D5:∃ Mx,Hp.le M10 Mx∧St _ Mx F [_,_,_]:=⟨_,Hp.le_refl _,S.pick [0,1,2] (by decide)⟩
   refine WtN 10 rfl rfl rfl rfl (skF hb63) D5 (WtN 11 rfl rfl rfl rfl (skF hb63) D5 (WtN 12 rfl rfl rfl rfl (skF hb63) D5 (WtN 13 rfl rfl rfl rfl (skF hb63) D5 (WtN 14 rfl rfl rfl rfl (skF hb63) D5 (WtN 15 rfl rfl rfl rfl (skF hb63) D5 (WtN 16 rfl rfl rfl rfl (skF hb63) D5 (WtN 17 rfl rfl rfl rfl (skF hb63) D5 (WtN 18 rfl rfl rfl rfl (skF hb63) D5 (WtN 19 rfl rfl rfl rfl (skF hb63) D5 (WtN 20 rfl rfl rfl rfl (skF hb63) D5 (WtN 21 rfl rfl rfl rfl (skF hb63) D5 (Wt 22 rfl rfl rfl (.bool true) rfl (fun w' h'=>QV (k:=true) (congrArg Value.bool hb63) rfl) D5 ?_))))))))))))
   exact hrest _ _ ⟨true,Option.some.inj H,⟨rfl,rfl,rfl,rfl,rfl,rfl,rfl,trivial⟩,E,S.pick [0,1,2] (by decide)⟩
  ·skip
   have D6:∃ Mx,Hp.le M10 Mx∧St _ Mx F [_,_,_]:=⟨_,Hp.le_refl _,S.pick [0,1,2] (by decide)⟩
   refine WtY 10 rfl rfl rfl (pt b12 1) rfl (congrArg some hb63) (fun w' h'=>QC (o:=0) (off:=1) Tryd.underlying127 rfl ty65 rfl rfl) D6 (WtY 11 rfl rfl rfl (.slice A6 t4.L.length c7) rfl (congrArg some hb63) (fun w' h'=>QO (Qp h' 0 rfl) ty65 rfl rfl) D6 (WtY 12 rfl rfl rfl (pt bo0 0) rfl (congrArg some hb63) (fun w' h'=>QD rfl) D6 (WtY 13 rfl rfl rfl (pt bo0 0) rfl (congrArg some hb63) (fun w' h'=>Qo rfl) D6 (WtY 14 rfl rfl rfl (pt bo0 8) rfl (congrArg some hb63) (fun w' h'=>QC (o:=0) (off:=8) Tryd.underlying121 rfl ty118 rfl rfl) D6 (WtY 15 rfl rfl rfl (.slice A0_8 a0.T.length c0_8) rfl (congrArg some hb63) (fun w' h'=>QO (Qp h' 1 rfl) ty118 rfl rfl) D6 (WtY 16 rfl rfl rfl (vI a1) rfl (congrArg some hb63) (fun w' h'=>QD rfl) D6 (WtY 17 rfl rfl rfl (vI (IntKind.i64.wrap (a1 - (1:Int)))) rfl (congrArg some hb63) (fun w' h'=>Qa rfl rfl rfl rfl) D6 ?_)))))))
   obtain ⟨⟨p66,p67⟩,H⟩:=Yy H
   obtain ⟨b68,o69,cs70,_,_,ee75,hb71,vs72,hR73,hc74⟩:=SlW.at' hr0_8 p66 p67
   obtain rfl:vs72=_:=hR73
   refine WtY 18 rfl rfl rfl (.pointer (some ⟨b68,o69+(IntKind.i64.wrap (a1 - (1:Int))).toNat*4,none⟩)) rfl (congrArg some hb63) (fun w' h'=>Qy Tryd.underlying118 ty124 (slA ee75) rfl p66 p67) D6 (WtY 19 rfl rfl rfl (.pointer (some ⟨b68,o69+(IntKind.i64.wrap (a1 - (1:Int))).toNat*4+3,none⟩)) rfl (congrArg some hb63) (fun w' h'=>QC (o:=o69+(IntKind.i64.wrap (a1 - (1:Int))).toNat*4) (off:=3) Tryd.underlying124 rfl ty3 rfl rfl) D6 (WtY 20 rfl rfl rfl (vI ((rd a0.T (IntKind.i64.wrap (a1 - (1:Int)))).Snapshot)) rfl (congrArg some hb63) (fun w' h'=>QO (XG h' hb71) ty3 rfl (hc74 3 _ rfl)) D6 ?_))
   refine Wo 21 rfl ?_
   refine QP (congrArg some hb63) ?_
   obtain ⟨t76,ht77,H⟩:=QW H
   refine Zz fn80 (Yl.con k M10 A6 c7 t4.L ((rd a0.T (IntKind.i64.wrap (a1 - (1:Int)))).Snapshot) t76 hs8 ht77) S rfl rfl (by rintro _ _ _ ⟨_,rfl⟩;exact Qd) ?_
   rintro _ w78 _ Γ' E' S ⟨rfl,rfl⟩
   replace E:=E.trans E'
   refine QB (YU ⟨.inr ⟨M10,Hp.le_refl M10,(S.pick [0,1,2] (by decide))⟩,?_⟩)
   refine Wt 22 rfl rfl rfl (.bool t76) rfl (fun w' h'=>QV (k:=false) (congrArg Value.bool hb63) rfl) (⟨M10,Hp.le_refl M10,(S.pick [0,1,2] (by decide))⟩) ?_
   exact hrest _ _ ⟨t76,Option.some.inj H,⟨rfl,rfl,rfl,rfl,rfl,rfl,rfl,trivial⟩,E,S.pick [0,1,2] (by decide)⟩
 rintro ρ w79 ⟨x64,rfl,hρ,E,S⟩
 rw [QI hρ]
 have H:=o65H
 refine Wz ?_
 refine tn ?_
 rcases Zf H with ⟨hb80,H⟩ | ⟨hb80,H⟩
 ·refine QQ (congrArg Value.bool hb80) ?_
  refine QE (QA (W_v (.agg cz12) (Z3 (pl:=[(0,1),(1,1),(2,1),(3,1)]) cz12 Tryd.underlying43 ty43 (by as_aux_lemma=>kernel_rfl) rfl (by as_aux_lemma=>kernel_rfl)) rfl ?_))
  refine Qx S 2 rfl ty43 rfl rfl [vI 33,.bool false,vS ([]:Str),.slice none 0 0] rfl rfl rfl cz12 rfl rfl ?_
  intro w81 E' S
  replace E:=E.trans E'
  refine QB (tn ?_)
  refine Qs ?_
  refine tr (?_)
  obtain rfl:=Option.some.inj H
  replace S:=S.row_nil Qm 87
  exact ⟨_,_,_,fun w1 e1=>QX (vs:=[.agg #[vI 33,.bool false,vS ([]:Str),.slice none ([]:List Qf).length 0]]) (FA.cons (⟨_,rfl,Qn ty43 ((S.of_eq e1).blk 3 rfl) (QM rfl) rfl (by decide)⟩) (FA.nil)),HM,E,S.pick [0,2] (by decide),⟨none,0,A0_8,c0_8,A0_9,c0_9,rfl,hr0_8,hr0_9,rfl⟩⟩
 refine QK (congrArg Value.bool hb80) (Qr (tn ?_))
 as_aux_lemma =>
 refine QE (QA (W_v (pt bo0 0) (QD rfl) rfl (W_v (vI a1) (QD rfl) rfl (W_v (.agg #[vS t4.Key,.slice A6 t4.L.length c7,.bool t4.Has,vI t4.I.Writer,vI t4.I.TS,.bool t4.I.Tomb,vS t4.I.Value]) (ZA (S.blk 0 rfl) ty127 rfl (QM rfl) rfl rfl) rfl ?_))))
 obtain ⟨t83,ht84,H⟩:=QW H
 replace S:St w79 M10 F [_,_,_]:=S.pick [1,0,2] (by decide)
 refine Z5 fn60 (ZD.con k M10 A0_8 c0_8 A0_9 c0_9 a0 a1 A6 c7 t4 bo0 t83 hr0_8 hr0_9 hs8 ht84) (Γ1:=[_]) (Γ2:=[_,_]) S rfl rfl (by rintro _ _ _ ⟨rfl,rfl⟩;exact (QN ZW Qd)) ?_
 rintro _ w85 _ Γ' E' S ⟨rfl,rfl⟩
 replace E:=E.trans E'
 replace S:St w85 M10 F [_,_,_]:=S
 refine W_v (.tuple #[vS t83.1,.bool t83.2]) (QD rfl) rfl (W_v (vS t83.1) (ZB rfl rfl) rfl (W_v (.bool t83.2) (ZB rfl rfl) rfl (W_v (vS t83.1) (QG rfl) rfl (W_v (.bool t83.2) (QG rfl) rfl (QB (tn (QE (QE (QA (W_v (.bool a4) (QD rfl) rfl (W_v (.bool a4) (QD rfl) rfl ?_)))))))))))
 refine ZH 3 (fun ρ w'=>Qi ρ [(0,pt bo0 0),(1,vI a1),(3,vS a3),(4,.bool a4),(10,pt b1 0),(11,pt b12 0),(52,.bool (a4&&(!t83.2)))]∧w85=w') ?_ ?_
 ·rcases ZX a4 with hb88 | hb88
  ·skip
   refine QZ (skT hb88) rfl (QZ (skT hb88) rfl (W_v (.bool false) (QV (k:=false) (congrArg Value.bool hb88) rfl) rfl (QB ?_)))
   exact ⟨⟨rfl,rfl,rfl,rfl,rfl,rfl,(by first | rfl | (rw [hb88];rfl) | (simp only [hb88];rfl)),trivial⟩,rfl⟩
  ·skip
   refine QP (congrArg some hb88) (W_v (.bool t83.2) (QD rfl) rfl (QP (congrArg some hb88) (W_v (.bool (!t83.2)) (Y5 (b:=t83.2) rfl) rfl (W_v (.bool (!t83.2)) (QV (k:=true) (congrArg Value.bool hb88) rfl) rfl (QB ?_)))))
   exact ⟨⟨rfl,rfl,rfl,rfl,rfl,rfl,(by first | rfl | (rw [hb88];rfl) | (simp only [hb88];rfl)),trivial⟩,rfl⟩
 as_aux_lemma =>
 rintro ρ _ ⟨hρ,rfl⟩
 rw [QI hρ]
 refine QB (tn ?_)
 rcases Zf H with ⟨hb89,H⟩ | ⟨hb89,H⟩
 ·refine QQ (congrArg Value.bool hb89) ?_
  refine QE (QA (W_v (.agg cz14) (Z3 (pl:=[(0,1),(1,1),(2,1),(3,1)]) cz14 Tryd.underlying43 ty43 (by as_aux_lemma=>kernel_rfl) rfl (by as_aux_lemma=>kernel_rfl)) rfl ?_))
  refine Qx S 2 rfl ty43 rfl rfl [vI 0,.bool false,vS ([]:Str),.slice none 0 0] rfl rfl rfl cz14 rfl rfl ?_
  intro w90 E' S
  replace E:=E.trans E'
  refine QB (tn ?_)
  refine Qs ?_
  refine tr (?_)
  obtain rfl:=Option.some.inj H
  replace S:=S.row_nil Qm 87
  exact ⟨_,_,_,fun w1 e1=>QX (vs:=[.agg #[vI 0,.bool false,vS ([]:Str),.slice none ([]:List Qf).length 0]]) (FA.cons (⟨_,rfl,Qn ty43 ((S.of_eq e1).blk 3 rfl) (QM rfl) rfl (by decide)⟩) (FA.nil)),HM,E,S.pick [0,1] (by decide),⟨none,0,A0_8,c0_8,A0_9,c0_9,rfl,hr0_8,hr0_9,rfl⟩⟩
 refine QK (congrArg Value.bool hb89) (Qr (tn (QE (QE ?_))))
 refine Q0 (S:=fun w'=>∃ Mx,M10.le Mx∧St w' Mx F [B121 bo0 a0 A0_8 c0_8 A0_9 c0_9,B127 b12 t4 A6 c7,Blk b1 (.cells cz14 43 (0,0))]) (L:=33) mixed ?_
 intro w97 hw98 E'
 replace S:=S.heap hw98
 replace E:=E.trans E'
 have D8:∃ Mx,Hp.le M10 Mx∧St _ Mx F [_,_,_]:=⟨_,Hp.le_refl _,S.pick [0,1,2] (by decide)⟩
 refine Wt 0 rfl rfl rfl (pt b12 2) rfl (fun w' h'=>QC (o:=0) (off:=2) Tryd.underlying127 rfl ty4 rfl rfl) D8 (Wt 1 rfl rfl rfl (.bool t4.Has) rfl (fun w' h'=>QO (Qp h' 1 rfl) ty4 rfl rfl) D8 (Wt 2 rfl rfl rfl (.bool (!t4.Has)) rfl (fun w' h'=>Y5 (b:=t4.Has) rfl) D8 (Wt 3 rfl rfl rfl (.bool (!t4.Has)) rfl (fun w' h'=>QD rfl) D8 ?_)))
 refine YD (fun ρ w'=>Qi ρ [(0,pt bo0 0),(1,vI a1),(3,vS a3),(4,.bool a4),(10,pt b1 0),(11,pt b12 0),(86,.bool ((!t4.Has)&&((((t4.L.length:Int)==(0:Int))&&(decide ((a0.L.length:Int)≥a0.C.Keys)))||(decide ((t4.L.length:Int)≥a0.C.Depth)))))]∧w97=w') 0 (Ls 33 [0,1,2,3,4,5,6,7,8,9,10,11,12,13,14,15,16,17,18,19,20,21,22,23,24,25,26,27,28,29,30,31,32]) ?_ ?_
 rotate_left
 ·intro hrest
  rcases ZX (!t4.Has) with hb101 | hb101
  ·skip
   have D9:∃ Mx,Hp.le M10 Mx∧St _ Mx F [_,_,_]:=⟨_,Hp.le_refl _,S.pick [0,1,2] (by decide)⟩
   refine WtN 4 rfl rfl rfl rfl (skT hb101) D9 (WtN 5 rfl rfl rfl rfl (skT hb101) D9 (WtN 6 rfl rfl rfl rfl (skT hb101) D9 (WtN 7 rfl rfl rfl rfl (skT hb101) D9 (WtN 8 rfl rfl rfl rfl (skT hb101) D9 (WtN 9 rfl rfl rfl rfl (rfl) D9 (WtN 10 rfl rfl rfl rfl (rfl) D9 (WtN 11 rfl rfl rfl rfl (rfl) D9 (WtN 12 rfl rfl rfl rfl (rfl) D9 (WtN 13 rfl rfl rfl rfl (rfl) D9 (WtN 14 rfl rfl rfl rfl (rfl) D9 (WtN 15 rfl rfl rfl rfl (rfl) D9 (WtN 16 rfl rfl rfl rfl (rfl) D9 (WtN 17 rfl rfl rfl rfl (rfl) D9 (WtN 18 rfl rfl rfl rfl (rfl) D9 (WtN 19 rfl rfl rfl rfl (rfl) D9 ?_)))))))))))))))
   refine WtN 20 rfl rfl rfl rfl (skT hb101) D9 (WtN 21 rfl rfl rfl rfl (skT hb101) D9 (WtN 22 rfl rfl rfl rfl (rfl) D9 (WtN 23 rfl rfl rfl rfl (rfl) D9 (WtN 24 rfl rfl rfl rfl (rfl) D9 (WtN 25 rfl rfl rfl rfl (rfl) D9 (WtN 26 rfl rfl rfl rfl (rfl) D9 (WtN 27 rfl rfl rfl rfl (rfl) D9 (WtN 28 rfl rfl rfl rfl (rfl) D9 (WtN 29 rfl rfl rfl rfl (rfl) D9 (WtN 30 rfl rfl rfl rfl (rfl) D9 (WtN 31 rfl rfl rfl rfl (skT hb101) D9 (Wt 32 rfl rfl rfl (.bool false) rfl (fun w' h'=>QV (k:=false) (congrArg Value.bool hb101) rfl) D9 ?_))))))))))))
   exact hrest _ _ ⟨⟨rfl,rfl,rfl,rfl,rfl,rfl,(by first | rfl | (rw [hb101];rfl) | (simp only [hb101];rfl)),trivial⟩,rfl⟩
  ·skip
   have D10:∃ Mx,Hp.le M10 Mx∧St _ Mx F [_,_,_]:=⟨_,Hp.le_refl _,S.pick [0,1,2] (by decide)⟩
   refine WtY 4 rfl rfl rfl (pt b12 1) rfl (congrArg some hb101) (fun w' h'=>QC (o:=0) (off:=1) Tryd.underlying127 rfl ty65 rfl rfl) D10 (WtY 5 rfl rfl rfl (.slice A6 t4.L.length c7) rfl (congrArg some hb101) (fun w' h'=>QO (Qp h' 1 rfl) ty65 rfl rfl) D10 (WtY 6 rfl rfl rfl (vI (t4.L.length:Int)) rfl (congrArg some hb101) (fun w' h'=>Q8 (n:=t4.L.length) Tryd.underlying65 rfl) D10 (WtY 7 rfl rfl rfl (.bool ((t4.L.length:Int)==(0:Int))) rfl (congrArg some hb101) (fun w' h'=>Qa rfl rfl rfl rfl) D10 (WtY 8 rfl rfl rfl (.bool ((t4.L.length:Int)==(0:Int))) rfl (congrArg some hb101) (fun w' h'=>QD rfl) D10 ?_))))
   refine YD (fun ρ w'=>Qi ρ [(0,pt bo0 0),(1,vI a1),(3,vS a3),(4,.bool a4),(10,pt b1 0),(11,pt b12 0),(57,.bool (!t4.Has)),(74,.bool (((t4.L.length:Int)==(0:Int))&&(decide ((a0.L.length:Int)≥a0.C.Keys))))]∧w97=w') 12 (Ls 33 [0,1,2,3,4,5,6,7,8,9,10,11,12,13,14,15,16,17,18,19,20]) ?_ ?_
   rotate_left
   ·intro hrest
    rcases ZX ((t4.L.length:Int)==(0:Int)) with hb102 | hb102
    ·skip
     have D11:∃ Mx,Hp.le M10 Mx∧St _ Mx F [_,_,_]:=⟨_,Hp.le_refl _,S.pick [0,1,2] (by decide)⟩
     refine WtN 9 rfl rfl rfl rfl (skT hb102) D11 (WtN 10 rfl rfl rfl rfl (skT hb102) D11 (WtN 11 rfl rfl rfl rfl (skT hb102) D11 (WtN 12 rfl rfl rfl rfl (skT hb102) D11 (WtN 13 rfl rfl rfl rfl (skT hb102) D11 (WtN 14 rfl rfl rfl rfl (skT hb102) D11 (WtN 15 rfl rfl rfl rfl (skT hb102) D11 (WtN 16 rfl rfl rfl rfl (skT hb102) D11 (WtN 17 rfl rfl rfl rfl (skT hb102) D11 (WtN 18 rfl rfl rfl rfl (skT hb102) D11 (WtN 19 rfl rfl rfl rfl (skT hb102) D11 (WtY 20 rfl rfl rfl (.bool false) rfl (congrArg some hb101) (fun w' h'=>QV (k:=false) (congrArg Value.bool hb102) rfl) D11 ?_)))))))))))
     exact hrest _ _ ⟨⟨rfl,rfl,rfl,rfl,rfl,rfl,rfl,(by first | rfl | (rw [hb102];rfl) | (simp only [hb102];rfl)),trivial⟩,rfl⟩
    ·skip
     have D12:∃ Mx,Hp.le M10 Mx∧St _ Mx F [_,_,_]:=⟨_,Hp.le_refl _,S.pick [0,1,2] (by decide)⟩
     refine WtY 9 rfl rfl rfl (pt bo0 0) rfl (congrArg some hb102) (fun w' h'=>QD rfl) D12 (WtY 10 rfl rfl rfl (pt bo0 0) rfl (congrArg some hb102) (fun w' h'=>Qo rfl) D12 (WtY 11 rfl rfl rfl (pt bo0 9) rfl (congrArg some hb102) (fun w' h'=>QC (o:=0) (off:=9) Tryd.underlying121 rfl ty119 rfl rfl) D12 (WtY 12 rfl rfl rfl (.slice A0_9 a0.L.length c0_9) rfl (congrArg some hb102) (fun w' h'=>QO (Qp h' 0 rfl) ty119 rfl rfl) D12 (WtY 13 rfl rfl rfl (vI (a0.L.length:Int)) rfl (congrArg some hb102) (fun w' h'=>Q8 (n:=a0.L.length) Tryd.underlying119 rfl) D12 (WtY 14 rfl rfl rfl (pt bo0 0) rfl (congrArg some hb102) (fun w' h'=>QD rfl) D12 (WtY 15 rfl rfl rfl (pt bo0 0) rfl (congrArg some hb102) (fun w' h'=>Qo rfl) D12 (WtY 16 rfl rfl rfl (pt bo0 0) rfl (congrArg some hb102) (fun w' h'=>QC (o:=0) (off:=0) Tryd.underlying121 rfl ty23 rfl rfl) D12 (WtY 17 rfl rfl rfl (pt bo0 2) rfl (congrArg some hb102) (fun w' h'=>QC (o:=0) (off:=2) Tryd.underlying23 rfl ty3 rfl rfl) D12 (WtY 18 rfl rfl rfl (vI a0.C.Keys) rfl (congrArg some hb102) (fun w' h'=>QO (Qp h' 0 rfl) ty3 rfl rfl) D12 (WtY 19 rfl rfl rfl (.bool (decide ((a0.L.length:Int)≥a0.C.Keys))) rfl (congrArg some hb102) (fun w' h'=>Qa rfl rfl rfl rfl) D12 (WtY 20 rfl rfl rfl (.bool (decide ((a0.L.length:Int)≥a0.C.Keys))) rfl (congrArg some hb101) (fun w' h'=>QV (k:=true) (congrArg Value.bool hb102) rfl) D12 ?_)))))))))))
     exact hrest _ _ ⟨⟨rfl,rfl,rfl,rfl,rfl,rfl,rfl,(by first | rfl | (rw [hb102];rfl) | (simp only [hb102];rfl)),trivial⟩,rfl⟩
   rintro ρ _ ⟨hρ,rfl⟩
   rw [QI hρ]
   refine WtY 21 rfl rfl rfl (.bool (((t4.L.length:Int)==(0:Int))&&(decide ((a0.L.length:Int)≥a0.C.Keys)))) rfl (congrArg some hb101) (fun w' h'=>QD rfl) (⟨M10,Hp.le_refl M10,(S.pick [0,1,2] (by decide))⟩) ?_
   refine YD (fun ρ w'=>Qi ρ [(0,pt bo0 0),(1,vI a1),(3,vS a3),(4,.bool a4),(10,pt b1 0),(11,pt b12 0),(57,.bool (!t4.Has)),(85,.bool ((((t4.L.length:Int)==(0:Int))&&(decide ((a0.L.length:Int)≥a0.C.Keys)))||(decide ((t4.L.length:Int)≥a0.C.Depth))))]∧w97=w') 1 (Ls 33 [0,1,2,3,4,5,6,7,8,9,10,11,12,13,14,15,16,17,18,19,20,21,22,23,24,25,26,27,28,29,30,31]) ?_ ?_
   rotate_left
   ·intro hrest
    rcases ZX (((t4.L.length:Int)==(0:Int))&&(decide ((a0.L.length:Int)≥a0.C.Keys))) with hb103 | hb103
    ·skip
     have D14:∃ Mx,Hp.le M10 Mx∧St _ Mx F [_,_,_]:=⟨_,Hp.le_refl _,S.pick [0,1,2] (by decide)⟩
     refine WtY 22 rfl rfl rfl (pt b12 1) rfl (congrArg some hb103) (fun w' h'=>QC (o:=0) (off:=1) Tryd.underlying127 rfl ty65 rfl rfl) D14 (WtY 23 rfl rfl rfl (.slice A6 t4.L.length c7) rfl (congrArg some hb103) (fun w' h'=>QO (Qp h' 1 rfl) ty65 rfl rfl) D14 (WtY 24 rfl rfl rfl (vI (t4.L.length:Int)) rfl (congrArg some hb103) (fun w' h'=>Q8 (n:=t4.L.length) Tryd.underlying65 rfl) D14 (WtY 25 rfl rfl rfl (pt bo0 0) rfl (congrArg some hb103) (fun w' h'=>QD rfl) D14 (WtY 26 rfl rfl rfl (pt bo0 0) rfl (congrArg some hb103) (fun w' h'=>Qo rfl) D14 (WtY 27 rfl rfl rfl (pt bo0 0) rfl (congrArg some hb103) (fun w' h'=>QC (o:=0) (off:=0) Tryd.underlying121 rfl ty23 rfl rfl) D14 (WtY 28 rfl rfl rfl (pt bo0 3) rfl (congrArg some hb103) (fun w' h'=>QC (o:=0) (off:=3) Tryd.underlying23 rfl ty3 rfl rfl) D14 (WtY 29 rfl rfl rfl (vI a0.C.Depth) rfl (congrArg some hb103) (fun w' h'=>QO (Qp h' 0 rfl) ty3 rfl rfl) D14 (WtY 30 rfl rfl rfl (.bool (decide ((t4.L.length:Int)≥a0.C.Depth))) rfl (congrArg some hb103) (fun w' h'=>Qa rfl rfl rfl rfl) D14 (WtY 31 rfl rfl rfl (.bool (decide ((t4.L.length:Int)≥a0.C.Depth))) rfl (congrArg some hb101) (fun w' h'=>QV (k:=false) (congrArg Value.bool hb103) rfl) D14 ?_)))))))))
     exact hrest _ _ ⟨⟨rfl,rfl,rfl,rfl,rfl,rfl,rfl,(by first | rfl | (rw [hb103];rfl) | (simp only [hb103];rfl)),trivial⟩,rfl⟩
    ·skip
     have D15:∃ Mx,Hp.le M10 Mx∧St _ Mx F [_,_,_]:=⟨_,Hp.le_refl _,S.pick [0,1,2] (by decide)⟩
     refine WtN 22 rfl rfl rfl rfl (skF hb103) D15 (WtN 23 rfl rfl rfl rfl (skF hb103) D15 (WtN 24 rfl rfl rfl rfl (skF hb103) D15 (WtN 25 rfl rfl rfl rfl (skF hb103) D15 (WtN 26 rfl rfl rfl rfl (skF hb103) D15 (WtN 27 rfl rfl rfl rfl (skF hb103) D15 (WtN 28 rfl rfl rfl rfl (skF hb103) D15 (WtN 29 rfl rfl rfl rfl (skF hb103) D15 (WtN 30 rfl rfl rfl rfl (skF hb103) D15 (WtY 31 rfl rfl rfl (.bool true) rfl (congrArg some hb101) (fun w' h'=>QV (k:=true) (congrArg Value.bool hb103) rfl) D15 ?_)))))))))
     exact hrest _ _ ⟨⟨rfl,rfl,rfl,rfl,rfl,rfl,rfl,(by first | rfl | (rw [hb103];rfl) | (simp only [hb103];rfl)),trivial⟩,rfl⟩
   rintro ρ _ ⟨hρ,rfl⟩
   rw [QI hρ]
   refine Wt 32 rfl rfl rfl (.bool ((((t4.L.length:Int)==(0:Int))&&(decide ((a0.L.length:Int)≥a0.C.Keys)))||(decide ((t4.L.length:Int)≥a0.C.Depth)))) rfl (fun w' h'=>QV (k:=true) (congrArg Value.bool hb101) rfl) (⟨M10,Hp.le_refl M10,(S.pick [0,1,2] (by decide))⟩) ?_
   exact hrest _ _ ⟨⟨rfl,rfl,rfl,rfl,rfl,rfl,(by first | rfl | (rw [hb101];rfl) | (simp only [hb101];rfl)),trivial⟩,rfl⟩
 rintro ρ _ ⟨hρ,rfl⟩
 rw [QI hρ]
 refine Wz ?_
 refine tn ?_
 rcases Zf H with ⟨hb104,H⟩ | ⟨hb104,H⟩
 ·refine QQ (congrArg Value.bool hb104) ?_
  refine QE (QA (W_v (.agg cz11) (Z3 (pl:=[(0,1),(1,1),(2,1),(3,1)]) cz11 Tryd.underlying43 ty43 (by as_aux_lemma=>kernel_rfl) rfl (by as_aux_lemma=>kernel_rfl)) rfl ?_))
  refine Qx S 2 rfl ty43 rfl rfl [vI 34,.bool false,vS ([]:Str),.slice none 0 0] rfl rfl rfl cz11 rfl rfl ?_
  intro w105 E' S
  replace E:=E.trans E'
  refine QB (tn ?_)
  refine Qs ?_
  refine tr (?_)
  obtain rfl:=Option.some.inj H
  replace S:=S.row_nil Qm 87
  exact ⟨_,_,_,fun w1 e1=>QX (vs:=[.agg #[vI 34,.bool false,vS ([]:Str),.slice none ([]:List Qf).length 0]]) (FA.cons (⟨_,rfl,Qn ty43 ((S.of_eq e1).blk 3 rfl) (QM rfl) rfl (by decide)⟩) (FA.nil)),HM,E,S.pick [0,1] (by decide),⟨none,0,A0_8,c0_8,A0_9,c0_9,rfl,hr0_8,hr0_9,rfl⟩⟩
 refine QK (congrArg Value.bool hb104) (Qr (tn ?_))
 as_aux_lemma =>
 refine QE (QA (W_v (pt b12 2) (QC (o:=0) (off:=2) Tryd.underlying127 rfl ty4 rfl rfl) rfl ?_))
 refine Qx S 1 rfl ty4 rfl rfl [.bool true] rfl rfl rfl #[vS t4.Key,.slice A6 t4.L.length c7,.bool true,vI t4.I.Writer,vI t4.I.TS,.bool t4.I.Tomb,vS t4.I.Value] rfl rfl ?_
 intro w107 E' S
 replace E:=E.trans E'
 refine QB (tn (QE (QA (W_v (vI a1) (QD rfl) rfl (W_v (.bool a4) (QD rfl) rfl (W_v (vS a3) (QD rfl) rfl (W_v (.agg #[vI a1,vI 0,.bool a4,vS a3]) (Z3 (pl:=[(0,1),(1,1),(2,1),(3,1)]) #[vI a1,vI 0,.bool a4,vS a3] Tryd.underlying61 ty61 (by as_aux_lemma=>kernel_rfl) rfl (by as_aux_lemma=>kernel_rfl)) rfl (W_v (pt b12 3) (QC (o:=0) (off:=3) Tryd.underlying127 rfl ty61 rfl rfl) rfl ?_))))))))
 refine Qx S 1 rfl ty61 rfl rfl [vI a1,vI 0,.bool a4,vS a3] rfl rfl rfl #[vS t4.Key,.slice A6 t4.L.length c7,.bool true,vI a1,vI 0,.bool a4,vS a3] rfl rfl ?_
 intro w108 E' S
 replace E:=E.trans E'
 refine QB (tn (QE (QA (W_v (pt bo0 0) (QD rfl) rfl (W_v (.agg #[vS t4.Key,.slice A6 t4.L.length c7,.bool true,vI a1,vI 0,.bool a4,vS a3]) (ZA (S.blk 1 rfl) ty127 rfl (QM rfl) rfl rfl) rfl ?_)))))
 obtain ⟨t109,ht110,H⟩:=QW H
 refine Yc fn81 (ZC.con k M10 A0_8 c0_8 A0_9 c0_9 a0 A6 c7 (⟨t4.Key,t4.L,true,⟨a1,(0:Int),a4,a3⟩⟩:QR) bo0 t109 hr0_8 hr0_9 hs8 ht110) (Γ1:=[_]) (Γ2:=[_,_]) S rfl rfl ?_
 rintro _ w117 M118 Γ' hM119 E' S ⟨A111,c112,A114,c115,rfl,hs113,rfl⟩
 replace HM:=Hp.le_trans HM hM119
 replace E:=E.trans E'
 replace S:St w117 M118 F [_,_,_,_]:=S
 refine QB (tn (QE (QA (W_v (.bool a4) (QD rfl) rfl (W_v (.agg #[vI 0,.bool a4,vS ([]:Str),.slice none 0 0]) (Z3 (pl:=[(0,1),(1,1),(2,1),(3,1)]) #[vI 0,.bool a4,vS ([]:Str),.slice none 0 0] Tryd.underlying43 ty43 (by as_aux_lemma=>kernel_rfl) rfl (by as_aux_lemma=>kernel_rfl)) rfl ?_)))))
 refine Qx S 3 rfl ty43 rfl rfl [vI 0,.bool a4,vS ([]:Str),.slice none 0 0] rfl rfl rfl #[vI 0,.bool a4,vS ([]:Str),.slice none 0 0] rfl rfl ?_
 intro w120 E' S
 replace E:=E.trans E'
 refine QB (tn ?_)
 refine Qs ?_
 obtain rfl:=Option.some.inj H
 obtain ⟨M121,hM122,hf123,S⟩:=S.row_freeze 1 rfl
 replace HM:=Hp.le_trans HM hM122
 replace hs113:=SlR.mono hs113 hM122
 replace S:=S.row_nil Qm 87
 exact ⟨_,_,_,fun w1 e1=>QX (vs:=[.agg #[vI 0,.bool a4,vS ([]:Str),.slice none ([]:List Qf).length 0]]) (FA.cons (⟨_,rfl,Qn ty43 ((S.of_eq e1).blk 3 rfl) (QM rfl) rfl (by decide)⟩) (FA.nil)),HM,E,S.pick [0,1] (by decide),⟨none,0,A111,c112,A114,c115,rfl,hs113,hf123,rfl⟩⟩
def Zu (a0:QH) (a1:QR):Nat→List QR→Bool→Int→Option ((List QR×Bool))
 | 0,_,_,_=>none
 | k+1,x697,x701,x702=>(if (decide (x702 < (a0.L.length:Int)))=true then (Option.bind (α:=List QR×Bool) (if 0≤x702∧x702 < (a0.L.length:Int) then (Option.bind (Zm k ((rd a0.L x702).Key) a1.Key) (fun t1251=>(Option.bind (α:=List QR×Bool) (if ((decide (t1251≥(0:Int)))&&(!x701))=true then (if x697.length+([a1]:List QR).length≤1599289640401 then some ((x697++([a1]:List QR)),true) else none) else some (x697,x701)) (fun ⟨x1279,x1283⟩=>(Option.bind (α:=List QR) (if (t1251 != (0:Int))=true then (if 0≤x702∧x702 < (a0.L.length:Int) then (if x1279.length+([(rd a0.L x702)]:List QR).length≤1599289640401 then some ((x1279++([(rd a0.L x702)]:List QR))) else none) else none) else some (x1279)) (fun x1350=>some (x1350,x1283))))))) else none) (fun ⟨x1212,x1216⟩=>Zu a0 a1 k x1212 x1216 (IntKind.i64.wrap (x702+(1:Int))))) else some (x697,x701))
theorem Zu.mono {a0:QH} {a1:QR}:∀ {kl:Nat} {x0 x1 x2},OLe (Zu a0 a1 kl x0 x1 x2) (Zu a0 a1 (kl+1) x0 x1 x2):=by
 intro kl
 induction kl with
 | zero=>intros;exact OLe.none
 | succ kl ih =>
  intros
  rw [Zu.eq_2,Zu.eq_2]
  have m1:=@Zm.mono
  exact mo
def Z2 (k:Nat) (a0:QH) (a1:QR):Option (QH) :=
 (Option.bind (Zu a0 a1 k ([]:List QR) (((a1.L.length:Int)==(0:Int))&&(!a1.Has)) (0:Int)) (fun ⟨x1039,x1043⟩=>(Option.bind (α:=List QR) (if (!x1043)=true then (if x1039.length+([a1]:List QR).length≤1599289640401 then some ((x1039++([a1]:List QR))) else none) else some (x1039)) (fun x1408=>some (⟨⟨a0.C.Tasks,a0.C.Active,a0.C.Keys,a0.C.Depth,a0.C.TS,a0.C.KeyLen,a0.C.ValLen,a0.C.Fan⟩,a0.T,x1408,a0.Time,a0.Low⟩:QH)))))
theorem Z2.mono {k:Nat} {a0:QH} {a1:QR}:OLe (Z2 k a0 a1) (Z2 (k+1) a0 a1):=by
 unfold Z2
 have m1:=@Zu.mono
 exact mo
theorem Z2.con (k:Nat) (M:Hp) (A0_8:Option Addr) (c0_8:Nat) (A0_9:Option Addr) (c0_9:Nat) (a0:QH) (A1_0:Option Addr) (c1_0:Nat) (a1:QR) (bo0:Nat) (r:QH) (hr0_9:SlR QU M (.slice A0_9 a0.L.length c0_9) a0.L) (hr1_0:SlR Q4 M (.slice A1_0 a1.L.length c1_0) a1.L) (h:Z2 k a0 a1=some r):Con Tryd.prog 81 #[pt bo0 0,.agg #[vS a1.Key,.slice A1_0 a1.L.length c1_0,.bool a1.Has,vI a1.I.Writer,vI a1.I.TS,.bool a1.I.Tomb,vS a1.I.Value]] M [B121 bo0 a0 A0_8 c0_8 A0_9 c0_9,Row QY 124 (.slice A0_8 a0.T.length c0_8) a0.T] (fun v M' Γ'=>∃ (Aq1:Option Addr) (cq2:Nat) (Aq4:Option Addr) (cq5:Nat),v=.tuple #[]∧Γ'=[B121 bo0 r Aq1 cq2 Aq4 cq5,Row QY 124 (.slice Aq1 r.T.length cq2) r.T,Row QU 127 (.slice Aq4 r.L.length cq5) r.L]):=by
 refine Qt Tryd.func81 rfl Tryd.ntmps81 Tryd.results81 rfl ?_
 intro w F rn S hrn
 have E:=Ext.refl w
 have HM:=Hp.le_refl M
 have H:=h
 unfold Z2 at H
 refine QE (QA ?_)
 refine Y8 S #[vS a1.Key,.slice A1_0 a1.L.length c1_0,.bool a1.Has,vI a1.I.Writer,vI a1.I.TS,.bool a1.I.Tomb,vS a1.I.Value] rfl rfl rfl ?_
 intro b1 w2 E' S
 replace E:=E.trans E'
 refine QB (tn (QE (QA (W_v (.slice none 0 0) (QG rfl) rfl (QB (tn (QE (QA (W_v (pt b1 1) (QC (o:=0) (off:=1) Tryd.underlying127 rfl ty65 rfl rfl) rfl (W_v (.slice A1_0 a1.L.length c1_0) (QO (S.blk 0 rfl) ty65 rfl rfl) rfl (W_v (vI (a1.L.length:Int)) (Q8 (n:=a1.L.length) Tryd.underlying65 rfl) rfl (W_v (.bool ((a1.L.length:Int)==(0:Int))) (Qa rfl rfl rfl rfl) rfl (W_v (.bool ((a1.L.length:Int)==(0:Int))) (QD rfl) rfl ?_)))))))))))))
 refine ZH 4 (fun ρ w'=>Qi ρ [(0,pt bo0 0),(3,pt b1 0),(4,.slice none 0 0),(16,.bool (((a1.L.length:Int)==(0:Int))&&(!a1.Has)))]∧w2=w') ?_ ?_
 ·rcases ZX ((a1.L.length:Int)==(0:Int)) with hb4 | hb4
  ·skip
   refine QZ (skT hb4) rfl (QZ (skT hb4) rfl (QZ (skT hb4) rfl (W_v (.bool false) (QV (k:=false) (congrArg Value.bool hb4) rfl) rfl (QB ?_))))
   exact ⟨⟨rfl,rfl,rfl,(by first | rfl | (rw [hb4];rfl) | (simp only [hb4];rfl)),trivial⟩,rfl⟩
  ·skip
   refine QP (congrArg some hb4) (W_v (pt b1 2) (QC (o:=0) (off:=2) Tryd.underlying127 rfl ty4 rfl rfl) rfl (QP (congrArg some hb4) (W_v (.bool a1.Has) (QO (S.blk 0 rfl) ty4 rfl rfl) rfl (QP (congrArg some hb4) (W_v (.bool (!a1.Has)) (Y5 (b:=a1.Has) rfl) rfl (W_v (.bool (!a1.Has)) (QV (k:=true) (congrArg Value.bool hb4) rfl) rfl (QB ?_)))))))
   exact ⟨⟨rfl,rfl,rfl,(by first | rfl | (rw [hb4];rfl) | (simp only [hb4];rfl)),trivial⟩,rfl⟩
 as_aux_lemma =>
 rintro ρ _ ⟨hρ,rfl⟩
 rw [QI hρ]
 refine W_v (.bool (((a1.L.length:Int)==(0:Int))&&(!a1.Has))) (QG rfl) rfl (QB (tn (QE (QE (QA (W_v (vI 0) (QG rfl) rfl (QB (tn ?_))))))))
 obtain ⟨o1044,o1044h,o1044H⟩:=QW H
 refine Yj (fun ρ w'=>∃ (x1039:List QR) (x1043:Bool) (A1040:Option Addr) (c1041:Nat),(x1039,x1043)=o1044∧Qi ρ [(0,pt bo0 0),(3,pt b1 0),(4,.slice A1040 x1039.length c1041),(5,.bool x1043)]∧Ext w w'∧St w' M F [Row QU 127 (.slice A1040 x1039.length c1041) x1039,B127 b1 a1 A1_0 c1_0,B121 bo0 a0 A0_8 c0_8 A0_9 c0_9,Row QY 124 (.slice A0_8 a0.T.length c0_8) a0.T]) ?_ ?_
 ·skip
  refine Y3 (fun n ρ w'=>∃ (x697:List QR) (x701:Bool) (x702:Int) (A698:Option Addr) (c699:Nat),Zu a0 a1 n x697 x701 x702=some o1044∧Qi ρ [(0,pt bo0 0),(3,pt b1 0),(4,.slice A698 x697.length c699),(5,.bool x701),(6,vI x702)]∧Ext w w'∧St w' M F [Row QU 127 (.slice A698 x697.length c699) x697,B127 b1 a1 A1_0 c1_0,B121 bo0 a0 A0_8 c0_8 A0_9 c0_9,Row QY 124 (.slice A0_8 a0.T.length c0_8) a0.T]) k ?_ ?_
  ·skip
   replace S:=S.row_nil QU 127
   exact ⟨([]:List QR),(((a1.L.length:Int)==(0:Int))&&(!a1.Has)),(0:Int),none,0,o1044h,⟨rfl,rfl,rfl,rfl,rfl,trivial⟩,E,S.pick [0,1,2,3] (by decide)⟩
  ·intro n
   rintro ρ w1046 ⟨x697,x701,x702,A698,c699,H,hρ,E,S⟩
   rw [QI hρ]
   cases n with
   | zero=>cases H
   | succ k =>
    rw [Zu.eq_2] at H
    refine QE (QE (QA (W_v (vI x702) (QD rfl) rfl (W_v (pt bo0 0) (QD rfl) rfl (W_v (pt bo0 0) (Qo rfl) rfl (W_v (pt bo0 9) (QC (o:=0) (off:=9) Tryd.underlying121 rfl ty119 rfl rfl) rfl (W_v (.slice A0_9 a0.L.length c0_9) (QO (S.blk 2 rfl) ty119 rfl rfl) rfl (W_v (vI (a0.L.length:Int)) (Q8 (n:=a0.L.length) Tryd.underlying119 rfl) rfl (W_v (.bool (decide (x702 < (a0.L.length:Int)))) (Qa rfl rfl rfl rfl) rfl (QB (tn ?_)))))))))))
    rcases Zf H with ⟨hb1047,H⟩ | ⟨hb1047,H⟩
    ·refine QQ (congrArg Value.bool hb1047) ?_
     refine Qr (tn (QE ?_))
     obtain ⟨o1217,o1217h,o1217H⟩:=QW H
     refine Y7 (fun ρ w'=>∃ (x1212:List QR) (x1216:Bool) (A1213:Option Addr) (c1214:Nat),(x1212,x1216)=o1217∧Qi ρ [(0,pt bo0 0),(3,pt b1 0),(4,.slice A1213 x1212.length c1214),(5,.bool x1216),(6,vI x702)]∧Ext w w'∧St w' M F [Row QU 127 (.slice A1213 x1212.length c1214) x1212,B127 b1 a1 A1_0 c1_0,B121 bo0 a0 A0_8 c0_8 A0_9 c0_9,Row QY 124 (.slice A0_8 a0.T.length c0_8) a0.T]) ?_ ?_
     ·as_aux_lemma =>
       clear o1217H
       have H:=o1217h
       refine YP ?_
       refine QE ?_
       refine Q0 (S:=fun w'=>∃ Mx,M.le Mx∧St w' Mx F [Row QU 127 (.slice A698 x697.length c699) x697,B127 b1 a1 A1_0 c1_0,B121 bo0 a0 A0_8 c0_8 A0_9 c0_9,Row QY 124 (.slice A0_8 a0.T.length c0_8) a0.T]) (L:=12) mixed ?_
       intro w1235 hw1236 E'
       replace S:=S.heap hw1236
       replace E:=E.trans E'
       have D1:∃ Mx,Hp.le M Mx∧St _ Mx F [_,_,_,_]:=⟨_,Hp.le_refl _,S.pick [0,1,2,3] (by decide)⟩
       refine Wt 0 rfl rfl rfl (pt bo0 0) rfl (fun w' h'=>QD rfl) D1 (Wt 1 rfl rfl rfl (pt bo0 0) rfl (fun w' h'=>Qo rfl) D1 (Wt 2 rfl rfl rfl (pt bo0 9) rfl (fun w' h'=>QC (o:=0) (off:=9) Tryd.underlying121 rfl ty119 rfl rfl) D1 (Wt 3 rfl rfl rfl (.slice A0_9 a0.L.length c0_9) rfl (fun w' h'=>QO (Qp h' 2 rfl) ty119 rfl rfl) D1 (Wt 4 rfl rfl rfl (vI x702) rfl (fun w' h'=>QD rfl) D1 ?_))))
       obtain ⟨⟨p1237,p1238⟩,H⟩:=Yy H
       obtain ⟨b1239,o1240,cs1241,_,_,ee1246,hb1242,vs1243,hR1244,hc1245⟩:=SlW.at' hr0_9 p1237 p1238
       obtain ⟨v1250,hs1249,rfl⟩:=hR1244
       obtain ⟨A1247,c1248,rfl,_⟩:=hs1249.form
       refine Wt 5 rfl rfl rfl (.pointer (some ⟨b1239,o1240+x702.toNat*7,none⟩)) rfl (fun w' h'=>Qy Tryd.underlying119 ty127 (slA ee1246) rfl p1237 p1238) D1 (Wt 6 rfl rfl rfl (.pointer (some ⟨b1239,o1240+x702.toNat*7,none⟩)) rfl (fun w' h'=>QC (o:=o1240+x702.toNat*7) (off:=0) Tryd.underlying127 rfl ty9 rfl rfl) D1 (Wt 7 rfl rfl rfl (vS ((rd a0.L x702).Key)) rfl (fun w' h'=>QO (XG h' hb1242) ty9 rfl (hc1245 0 _ rfl)) D1 (Wt 8 rfl rfl rfl (pt b1 0) rfl (fun w' h'=>QC (o:=0) (off:=0) Tryd.underlying127 rfl ty9 rfl rfl) D1 (Wt 9 rfl rfl rfl (vS a1.Key) rfl (fun w' h'=>QO (Qp h' 1 rfl) ty9 rfl rfl) D1 ?_))))
       refine Wo 10 rfl ?_
       obtain ⟨t1251,ht1252,H⟩:=QW H
       refine Zz fn69 (Zm.con k M ((rd a0.L x702).Key) a1.Key t1251  ht1252) S rfl rfl (by rintro _ _ _ ⟨_,rfl⟩;exact Qd) ?_
       rintro _ w1253 _ Γ' E' S ⟨rfl,rfl⟩
       replace E:=E.trans E'
       refine QB (YU ⟨.inr ⟨M,Hp.le_refl M,(S.pick [0,1,2,3] (by decide))⟩,?_⟩)
       refine Wt 11 rfl rfl rfl (vI t1251) rfl (fun w' h'=>QG rfl) (⟨M,Hp.le_refl M,(S.pick [0,1,2,3] (by decide))⟩) ?_
       refine Wz ?_
       refine tn (QE (QE (QA (W_v (vI t1251) (QD rfl) rfl (W_v (.bool (decide (t1251≥(0:Int)))) (Qa rfl rfl rfl rfl) rfl (W_v (.bool (decide (t1251≥(0:Int)))) (QD rfl) rfl ?_))))))
       refine ZH 3 (fun ρ w'=>Qi ρ [(0,pt bo0 0),(3,pt b1 0),(4,.slice A698 x697.length c699),(5,.bool x701),(6,vI x702),(7,vI t1251),(42,.bool ((decide (t1251≥(0:Int)))&&(!x701)))]∧w1253=w') ?_ ?_
       ·rcases ZX (decide (t1251≥(0:Int))) with hb1254 | hb1254
        ·skip
         refine QZ (skT hb1254) rfl (QZ (skT hb1254) rfl (W_v (.bool false) (QV (k:=false) (congrArg Value.bool hb1254) rfl) rfl (QB ?_)))
         exact ⟨⟨rfl,rfl,rfl,rfl,rfl,rfl,(by first | rfl | (rw [hb1254];rfl) | (simp only [hb1254];rfl)),trivial⟩,rfl⟩
        ·skip
         refine QP (congrArg some hb1254) (W_v (.bool x701) (QD rfl) rfl (QP (congrArg some hb1254) (W_v (.bool (!x701)) (Y5 (b:=x701) rfl) rfl (W_v (.bool (!x701)) (QV (k:=true) (congrArg Value.bool hb1254) rfl) rfl (QB ?_)))))
         exact ⟨⟨rfl,rfl,rfl,rfl,rfl,rfl,(by first | rfl | (rw [hb1254];rfl) | (simp only [hb1254];rfl)),trivial⟩,rfl⟩
       as_aux_lemma =>
       rintro ρ _ ⟨hρ,rfl⟩
       rw [QI hρ]
       refine QB (tn ?_)
       obtain ⟨o1284,o1284h,o1284H⟩:=QW H
       refine Y7 (fun ρ w'=>∃ (x1279:List QR) (x1283:Bool) (A1280:Option Addr) (c1281:Nat),(x1279,x1283)=o1284∧Qi ρ [(0,pt bo0 0),(3,pt b1 0),(4,.slice A1280 x1279.length c1281),(5,.bool x1283),(6,vI x702),(7,vI t1251)]∧Ext w w'∧St w' M F [Row QU 127 (.slice A1280 x1279.length c1281) x1279,B127 b1 a1 A1_0 c1_0,B121 bo0 a0 A0_8 c0_8 A0_9 c0_9,Row QY 124 (.slice A0_8 a0.T.length c0_8) a0.T]) ?_ ?_
       ·clear o1284H
        have H:=o1284h
        rcases Zf H with ⟨hb1285,H⟩ | ⟨hb1285,H⟩
        ·refine QQ (congrArg Value.bool hb1285) ?_
         refine QE (QA (W_v (.slice A698 x697.length c699) (QD rfl) rfl (W_v (.agg #[vS a1.Key,.slice A1_0 a1.L.length c1_0,.bool a1.Has,vI a1.I.Writer,vI a1.I.TS,.bool a1.I.Tomb,vS a1.I.Value]) (ZA (S.blk 1 rfl) ty127 rfl (QM rfl) rfl rfl) rfl ?_)))
         refine XE S #[vS a1.Key,.slice A1_0 a1.L.length c1_0,.bool a1.Has,vI a1.I.Writer,vI a1.I.TS,.bool a1.I.Tomb,vS a1.I.Value] Tryd.underlying119 ty127 rfl rfl cz3 (by as_aux_lemma=>kernel_rfl) (by as_aux_lemma=>kernel_rfl) rfl ?_
         intro b1286 w1287 E' S
         replace E:=E.trans E'
         replace S:=S.blk_row (r:=QU) (l:=([a1]:List QR)) 0 rfl 1 (Nat.le_refl 1) rfl (Cells.cons (vs:=[vS a1.Key,.slice A1_0 a1.L.length c1_0,.bool a1.Has,vI a1.I.Writer,vI a1.I.TS,.bool a1.I.Tomb,vS a1.I.Value]) (⟨_,hr1_0,rfl⟩) Cells.nil)
         obtain ⟨p1289,H⟩:=Yy H
         obtain ⟨src1290,hs1291,hC1292⟩:=Y1 (P:=Tryd.prog) (ρ:=QU) (l:=([a1]:List QR)) (S.row_read 0 rfl) (by decide)
         refine XL S 1 rfl rfl rfl Tryd.underlying119 (.inl Tryd.underlying119) ty127 rfl (by decide) (by decide) hs1291 hC1292 rfl (by omega) rfl ?_
         intro v1293 w1294 E' S
         replace E:=E.trans E'
         obtain ⟨A1295,c1296,rfl,_⟩:=(S.row_read 1 rfl).form
         refine W_v (.slice A1295 (x697++([a1]:List QR)).length c1296) (QG rfl) rfl (QB (tn (QA (W_v (.bool true) (QG rfl) rfl (QB (tn ?_))))))
         exact ⟨(x697++([a1]:List QR)),true,A1295,c1296,Option.some.inj H,⟨rfl,rfl,rfl,rfl,rfl,rfl,trivial⟩,E,S.pick [1,2,3,4] (by decide)⟩
        refine QK (congrArg Value.bool hb1285) (Qr (tn ?_))
        exact ⟨x697,x701,A698,c699,Option.some.inj H,⟨rfl,rfl,rfl,rfl,rfl,rfl,trivial⟩,E,S.pick [0,1,2,3] (by decide)⟩
       as_aux_lemma =>
       rintro ρ w1297 ⟨x1279,x1283,A1280,c1281,rfl,hρ,E,S⟩
       rw [QI hρ]
       have H:=o1284H
       refine tn (QE (QA (W_v (vI t1251) (QD rfl) rfl (W_v (.bool (t1251 != (0:Int))) (Qa rfl rfl rfl rfl) rfl (QB (tn ?_))))))
       obtain ⟨o1354,o1354h,o1354H⟩:=QW H
       refine Y7 (fun ρ w'=>∃ (x1350:List QR) (A1351:Option Addr) (c1352:Nat),(x1350)=o1354∧Qi ρ [(0,pt bo0 0),(3,pt b1 0),(4,.slice A1351 x1350.length c1352),(5,.bool x1283),(6,vI x702)]∧Ext w w'∧St w' M F [Row QU 127 (.slice A1351 x1350.length c1352) x1350,B127 b1 a1 A1_0 c1_0,B121 bo0 a0 A0_8 c0_8 A0_9 c0_9,Row QY 124 (.slice A0_8 a0.T.length c0_8) a0.T]) ?_ ?_
       ·clear o1354H
        have H:=o1354h
        rcases Zf H with ⟨hb1355,H⟩ | ⟨hb1355,H⟩
        ·refine QQ (congrArg Value.bool hb1355) ?_
         refine QA (W_v (.slice A1280 x1279.length c1281) (QD rfl) rfl (W_v (pt bo0 0) (QD rfl) rfl (W_v (pt bo0 0) (Qo rfl) rfl (W_v (pt bo0 9) (QC (o:=0) (off:=9) Tryd.underlying121 rfl ty119 rfl rfl) rfl (W_v (.slice A0_9 a0.L.length c0_9) (QO (S.blk 2 rfl) ty119 rfl rfl) rfl (W_v (vI x702) (QD rfl) rfl ?_))))))
         obtain ⟨⟨p1356,p1357⟩,H⟩:=Yy H
         obtain ⟨b1358,o1359,cs1360,_,_,ee1365,hb1361,vs1362,hR1363,hc1364⟩:=SlW.at' hr0_9 p1356 p1357
         obtain ⟨v1369,hs1368,rfl⟩:=hR1363
         obtain ⟨A1366,c1367,rfl,_⟩:=hs1368.form
         refine W_v (.pointer (some ⟨b1358,o1359+x702.toNat*7,none⟩)) (Qy Tryd.underlying119 ty127 (slA ee1365) rfl p1356 p1357) rfl (W_v (.agg #[vS ((rd a0.L x702).Key),.slice A1366 ((rd a0.L x702).L).length c1367,.bool ((rd a0.L x702).Has),vI ((rd a0.L x702).I.Writer),vI ((rd a0.L x702).I.TS),.bool ((rd a0.L x702).I.Tomb),vS ((rd a0.L x702).I.Value)]) (ZA (S.frz hb1361) ty127 rfl (Xa hc1364 0 rfl) rfl rfl) rfl ?_)
         refine XE S #[vS ((rd a0.L x702).Key),.slice A1366 ((rd a0.L x702).L).length c1367,.bool ((rd a0.L x702).Has),vI ((rd a0.L x702).I.Writer),vI ((rd a0.L x702).I.TS),.bool ((rd a0.L x702).I.Tomb),vS ((rd a0.L x702).I.Value)] Tryd.underlying119 ty127 rfl rfl cz3 (by as_aux_lemma=>kernel_rfl) (by as_aux_lemma=>kernel_rfl) rfl ?_
         intro b1370 w1371 E' S
         replace E:=E.trans E'
         replace S:=S.blk_row (r:=QU) (l:=([(rd a0.L x702)]:List QR)) 0 rfl 1 (Nat.le_refl 1) rfl (Cells.cons (vs:=[vS ((rd a0.L x702).Key),.slice A1366 ((rd a0.L x702).L).length c1367,.bool ((rd a0.L x702).Has),vI ((rd a0.L x702).I.Writer),vI ((rd a0.L x702).I.TS),.bool ((rd a0.L x702).I.Tomb),vS ((rd a0.L x702).I.Value)]) (⟨_,hs1368,rfl⟩) Cells.nil)
         obtain ⟨p1373,H⟩:=Yy H
         obtain ⟨src1374,hs1375,hC1376⟩:=Y1 (P:=Tryd.prog) (ρ:=QU) (l:=([(rd a0.L x702)]:List QR)) (S.row_read 0 rfl) (by decide)
         refine XL S 1 rfl rfl rfl Tryd.underlying119 (.inl Tryd.underlying119) ty127 rfl (by decide) (by decide) hs1375 hC1376 rfl (by omega) rfl ?_
         intro v1377 w1378 E' S
         replace E:=E.trans E'
         obtain ⟨A1379,c1380,rfl,_⟩:=(S.row_read 1 rfl).form
         refine W_v (.slice A1379 (x1279++([(rd a0.L x702)]:List QR)).length c1380) (QG rfl) rfl (QB (tn ?_))
         exact ⟨(x1279++([(rd a0.L x702)]:List QR)),A1379,c1380,Option.some.inj H,⟨rfl,rfl,rfl,rfl,rfl,trivial⟩,E,S.pick [1,2,3,4] (by decide)⟩
        refine QK (congrArg Value.bool hb1355) (Qr (tn ?_))
        exact ⟨x1279,A1280,c1281,Option.some.inj H,⟨rfl,rfl,rfl,rfl,rfl,trivial⟩,E,S.pick [0,1,2,3] (by decide)⟩
       rintro ρ w1381 ⟨x1350,A1351,c1352,rfl,hρ,E,S⟩
       rw [QI hρ]
       have H:=o1354H
       refine bn (tn ?_)
       exact ⟨x1350,x1283,A1351,c1352,Option.some.inj H,⟨rfl,rfl,rfl,rfl,rfl,trivial⟩,E,S.pick [0,1,2,3] (by decide)⟩
     rintro ρ w1382 ⟨x1212,x1216,A1213,c1214,rfl,hρ,E,S⟩
     rw [QI hρ]
     have H:=o1217H
     refine tn (QA (W_v (vI x702) (QD rfl) rfl (W_v (vI (IntKind.i64.wrap (x702+(1:Int)))) (Qa rfl rfl rfl rfl) rfl (W_v (vI (IntKind.i64.wrap (x702+(1:Int)))) (QG rfl) rfl (QB (tn ?_))))))
     exact ⟨k,Nat.lt_succ_self k,⟨x1212,x1216,(IntKind.i64.wrap (x702+(1:Int))),A1213,c1214,H,⟨rfl,rfl,rfl,rfl,rfl,trivial⟩,E,S.pick [0,1,2,3] (by decide)⟩⟩
    refine QK (congrArg Value.bool hb1047) ?_
    refine Y0 ?_
    refine tx (tx (bsm (?_)))
    refine tn ?_
    exact ⟨x697,x701,A698,c699,Option.some.inj H,⟨rfl,rfl,rfl,rfl,trivial⟩,E,S.pick [0,1,2,3] (by decide)⟩
 rintro ρ w1383 ⟨x1039,x1043,A1040,c1041,rfl,hρ,E,S⟩
 rw [QI hρ]
 have H:=o1044H
 refine tn ?_
 as_aux_lemma =>
 refine QE (QE (QA (W_v (.bool x1043) (QD rfl) rfl (W_v (.bool (!x1043)) (Y5 (b:=x1043) rfl) rfl (QB (tn ?_))))))
 obtain ⟨o1412,o1412h,o1412H⟩:=QW H
 refine Y7 (fun ρ w'=>∃ (x1408:List QR) (A1409:Option Addr) (c1410:Nat),(x1408)=o1412∧Qi ρ [(0,pt bo0 0),(4,.slice A1409 x1408.length c1410)]∧Ext w w'∧St w' M F [Row QU 127 (.slice A1409 x1408.length c1410) x1408,B121 bo0 a0 A0_8 c0_8 A0_9 c0_9,Row QY 124 (.slice A0_8 a0.T.length c0_8) a0.T]) ?_ ?_
 ·clear o1412H
  have H:=o1412h
  rcases Zf H with ⟨hb1413,H⟩ | ⟨hb1413,H⟩
  ·refine QQ (congrArg Value.bool hb1413) ?_
   refine QA (W_v (.slice A1040 x1039.length c1041) (QD rfl) rfl (W_v (.agg #[vS a1.Key,.slice A1_0 a1.L.length c1_0,.bool a1.Has,vI a1.I.Writer,vI a1.I.TS,.bool a1.I.Tomb,vS a1.I.Value]) (ZA (S.blk 1 rfl) ty127 rfl (QM rfl) rfl rfl) rfl ?_))
   refine XE S #[vS a1.Key,.slice A1_0 a1.L.length c1_0,.bool a1.Has,vI a1.I.Writer,vI a1.I.TS,.bool a1.I.Tomb,vS a1.I.Value] Tryd.underlying119 ty127 rfl rfl cz3 (by as_aux_lemma=>kernel_rfl) (by as_aux_lemma=>kernel_rfl) rfl ?_
   intro b1414 w1415 E' S
   replace E:=E.trans E'
   replace S:=S.blk_row (r:=QU) (l:=([a1]:List QR)) 0 rfl 1 (Nat.le_refl 1) rfl (Cells.cons (vs:=[vS a1.Key,.slice A1_0 a1.L.length c1_0,.bool a1.Has,vI a1.I.Writer,vI a1.I.TS,.bool a1.I.Tomb,vS a1.I.Value]) (⟨_,hr1_0,rfl⟩) Cells.nil)
   obtain ⟨p1417,H⟩:=Yy H
   obtain ⟨src1418,hs1419,hC1420⟩:=Y1 (P:=Tryd.prog) (ρ:=QU) (l:=([a1]:List QR)) (S.row_read 0 rfl) (by decide)
   refine XL S 1 rfl rfl rfl Tryd.underlying119 (.inl Tryd.underlying119) ty127 rfl (by decide) (by decide) hs1419 hC1420 rfl (by omega) rfl ?_
   intro v1421 w1422 E' S
   replace E:=E.trans E'
   obtain ⟨A1423,c1424,rfl,_⟩:=(S.row_read 1 rfl).form
   refine W_v (.slice A1423 (x1039++([a1]:List QR)).length c1424) (QG rfl) rfl (QB (tn ?_))
   exact ⟨(x1039++([a1]:List QR)),A1423,c1424,Option.some.inj H,⟨rfl,rfl,trivial⟩,E,S.pick [1,3,4] (by decide)⟩
  refine QK (congrArg Value.bool hb1413) (Qr (tn ?_))
  exact ⟨x1039,A1040,c1041,Option.some.inj H,⟨rfl,rfl,trivial⟩,E,S.pick [0,2,3] (by decide)⟩
 rintro ρ w1425 ⟨x1408,A1409,c1410,rfl,hρ,E,S⟩
 rw [QI hρ]
 have H:=o1412H
 refine tn (QA (W_v (pt bo0 0) (QD rfl) rfl (W_v (.slice A1409 x1408.length c1410) (QD rfl) rfl (W_v (pt bo0 0) (Qo rfl) rfl (W_v (pt bo0 9) (QC (o:=0) (off:=9) Tryd.underlying121 rfl ty119 rfl rfl) rfl ?_)))))
 refine Qx S 1 rfl ty119 rfl rfl [.slice A1409 x1408.length c1410] rfl rfl rfl #[vI a0.C.Tasks,vI a0.C.Active,vI a0.C.Keys,vI a0.C.Depth,vI a0.C.TS,vI a0.C.KeyLen,vI a0.C.ValLen,vI a0.C.Fan,.slice A0_8 a0.T.length c0_8,.slice A1409 x1408.length c1410,vI a0.Time,vI a0.Low] rfl rfl ?_
 intro w1426 E' S
 replace E:=E.trans E'
 refine QB ?_
 obtain rfl:=Option.some.inj H
 exact ⟨_,_,_,fun w1 e1=>QX (vs:=[]) (FA.nil),HM,E,S.pick [1,2,0] (by decide),⟨A0_8,c0_8,A1409,c1410,rfl,rfl⟩⟩
def Zg (a0:QH) (a1:Int) (a3:Int):Nat→Int→QH→Option ((QH))
 | 0,_,_=>none
 | k+1,x444,x445=>(if (decide (x444 < (a0.L.length:Int)))=true then (Option.bind (α:=QH) (if 0≤x444∧x444 < (a0.L.length:Int) then (if ((!((rd a0.L x444).Has))||((rd a0.L x444).I.Writer != a1))=true then some (x445) else (Option.bind (α:=List QS×Int) (if (decide (a3 > (0:Int)))=true then (if ([(⟨(rd a0.L x444).I.Writer,a3,(rd a0.L x444).I.Tomb,(rd a0.L x444).I.Value⟩:QS)]:List QS).length+((rd a0.L x444).L).length≤3518437208883 then some ((([(⟨(rd a0.L x444).I.Writer,a3,(rd a0.L x444).I.Tomb,(rd a0.L x444).I.Value⟩:QS)]:List QS)++(rd a0.L x444).L),a3) else none) else some ((rd a0.L x444).L,(rd a0.L x444).I.TS)) (fun ⟨x819,x823⟩=>(Option.bind (Z2 k x445 (⟨(rd a0.L x444).Key,x819,false,⟨(0:Int),(0:Int),false,([]:Str)⟩⟩:QR)) (fun t846=>some (t846)))))) else none) (fun x761=>Zg a0 a1 a3 k (IntKind.i64.wrap (x444+(1:Int))) x761)) else some (x445))
theorem Zg.mono {a0:QH} {a1:Int} {a3:Int}:∀ {kl:Nat} {x0 x1},OLe (Zg a0 a1 a3 kl x0 x1) (Zg a0 a1 a3 (kl+1) x0 x1):=by
 intro kl
 induction kl with
 | zero=>intros;exact OLe.none
 | succ kl ih =>
  intros
  rw [Zg.eq_2,Zg.eq_2]
  have m1:=@Z2.mono
  exact mo
def Q7 (k:Nat) (a0:QH) (a1:Int) (a2:Int) (a3:Int):Option (QH) :=
 (if ([]:List Qj).length+a0.T.length≤4398046511104 then (if 0≤(IntKind.i64.wrap (a1 - (1:Int)))∧(IntKind.i64.wrap (a1 - (1:Int))) < ((([]:List Qj)++a0.T).length:Int) then (Option.bind (α:=List Qj) (some (List.set (([]:List Qj)++a0.T) (IntKind.i64.wrap (a1 - (1:Int))).toNat (⟨(rd (([]:List Qj)++a0.T) (IntKind.i64.wrap (a1 - (1:Int)))).Task,(rd (([]:List Qj)++a0.T) (IntKind.i64.wrap (a1 - (1:Int)))).N,a2,(rd (([]:List Qj)++a0.T) (IntKind.i64.wrap (a1 - (1:Int)))).Snapshot⟩:Qj))) (fun x24=>(Option.bind (Zg a0 a1 a3 k (0:Int) (⟨⟨a0.C.Tasks,a0.C.Active,a0.C.Keys,a0.C.Depth,a0.C.TS,a0.C.KeyLen,a0.C.ValLen,a0.C.Fan⟩,x24,a0.L,a0.Time,a0.Low⟩:QH)) (fun x652=>some x652)))) else none) else none)
theorem Q7.mono {k:Nat} {a0:QH} {a1:Int} {a2:Int} {a3:Int}:OLe (Q7 k a0 a1 a2 a3) (Q7 (k+1) a0 a1 a2 a3):=by
 unfold Q7
 have m1:=@Zg.mono
 exact mo
theorem Q7.con (k:Nat) (M:Hp) (A0_8:Option Addr) (c0_8:Nat) (A0_9:Option Addr) (c0_9:Nat) (a0:QH) (a1:Int) (a2:Int) (a3:Int) (bo0:Nat) (r:QH) (hr0_8:SlR QY M (.slice A0_8 a0.T.length c0_8) a0.T) (hr0_9:SlR QU M (.slice A0_9 a0.L.length c0_9) a0.L) (h:Q7 k a0 a1 a2 a3=some r):Con Tryd.prog 64 #[pt bo0 0,vI a1,vU a2,vI a3] M [B121 bo0 a0 A0_8 c0_8 A0_9 c0_9] (fun v M' Γ'=>∃ (Aq1:Option Addr) (cq2:Nat) (Aq4:Option Addr) (cq5:Nat),v=.tuple #[]∧SlR QU M' (.slice Aq4 r.L.length cq5) r.L∧Γ'=[B121 bo0 r Aq1 cq2 Aq4 cq5,Row QY 124 (.slice Aq1 r.T.length cq2) r.T]):=by
 refine Qt Tryd.func64 rfl Tryd.ntmps64 Tryd.results64 rfl ?_
 intro w F rn S hrn
 have E:=Ext.refl w
 have HM:=Hp.le_refl M
 have H:=h
 unfold Q7 at H
 refine QE (QA (W_v (pt bo0 0) (QD rfl) rfl ?_))
 refine XE S #[] Tryd.underlying118 ty124 rfl rfl #[] (by as_aux_lemma=>kernel_rfl) (by as_aux_lemma=>kernel_rfl) rfl ?_
 intro b1 w2 E' S
 replace E:=E.trans E'
 replace S:=S.blk_row (r:=QY) (l:=([]:List Qj)) 0 rfl 0 (Nat.le_refl 0) rfl Cells.nil
 refine W_v (pt bo0 0) (QD rfl) rfl (W_v (pt bo0 0) (Qo rfl) rfl (W_v (pt bo0 8) (QC (o:=0) (off:=8) Tryd.underlying121 rfl ty118 rfl rfl) rfl (W_v (.slice A0_8 a0.T.length c0_8) (QO (S.blk 1 rfl) ty118 rfl rfl) rfl ?_)))
 obtain ⟨p4,H⟩:=Yy H
 obtain ⟨src5,hs6,hC7⟩:=Y1 (P:=Tryd.prog) (ρ:=QY) (l:=a0.T) (SlR.world hr0_8 S) (by decide)
 refine XL S 0 rfl rfl rfl Tryd.underlying118 (.inl Tryd.underlying118) ty124 rfl (by decide) (by decide) hs6 hC7 rfl (by omega) rfl ?_
 intro v8 w9 E' S
 replace E:=E.trans E'
 obtain ⟨A10,c11,rfl,_⟩:=(S.row_read 0 rfl).form
 refine W_v (pt bo0 0) (Qo rfl) rfl (W_v (pt bo0 8) (QC (o:=0) (off:=8) Tryd.underlying121 rfl ty118 rfl rfl) rfl ?_)
 refine Qx S 1 rfl ty118 rfl rfl [.slice A10 (([]:List Qj)++a0.T).length c11] rfl rfl rfl #[vI a0.C.Tasks,vI a0.C.Active,vI a0.C.Keys,vI a0.C.Depth,vI a0.C.TS,vI a0.C.KeyLen,vI a0.C.ValLen,vI a0.C.Fan,.slice A10 (([]:List Qj)++a0.T).length c11,.slice A0_9 a0.L.length c0_9,vI a0.Time,vI a0.Low] rfl rfl ?_
 intro w12 E' S
 replace E:=E.trans E'
 refine QB (tn (QE (QA (W_v (pt bo0 0) (QD rfl) rfl (W_v (pt bo0 0) (Qo rfl) rfl (W_v (pt bo0 8) (QC (o:=0) (off:=8) Tryd.underlying121 rfl ty118 rfl rfl) rfl (W_v (.slice A10 (([]:List Qj)++a0.T).length c11) (QO (S.blk 1 rfl) ty118 rfl rfl) rfl (W_v (vI a1) (QD rfl) rfl (W_v (vI (IntKind.i64.wrap (a1 - (1:Int)))) (Qa rfl rfl rfl rfl) rfl (W_v (vU a2) (QD rfl) rfl ?_))))))))))
 obtain ⟨⟨p13,p14⟩,H⟩:=Yy H
 obtain ⟨b15,o16,cs17,_,_,ee22,hb18,vs19,hR20,hc21⟩:=SlW.at' (S.row_read 0 rfl) p13 p14
 obtain rfl:vs19=_:=hR20
 refine W_v (.pointer (some ⟨b15,o16+(IntKind.i64.wrap (a1 - (1:Int))).toNat*4,none⟩)) (Qy Tryd.underlying118 ty124 (slA ee22) rfl p13 p14) rfl (W_v (.pointer (some ⟨b15,o16+(IntKind.i64.wrap (a1 - (1:Int))).toNat*4+2,none⟩)) (QC (o:=o16+(IntKind.i64.wrap (a1 - (1:Int))).toNat*4) (off:=2) Tryd.underlying124 rfl ty5 rfl rfl) rfl ?_)
 obtain ⟨x24,he25,H⟩:=QW H
 replace he25:=Option.some.inj he25
 refine X6 S 0 rfl rfl ee22 (by first | exact p13 | simpa using p13) (by first | exact p14 | simpa using p14) 2 ty5 rfl rfl [vU a2] rfl rfl rfl rfl (⟨(rd (([]:List Qj)++a0.T) (IntKind.i64.wrap (a1 - (1:Int)))).Task,(rd (([]:List Qj)++a0.T) (IntKind.i64.wrap (a1 - (1:Int)))).N,a2,(rd (([]:List Qj)++a0.T) (IntKind.i64.wrap (a1 - (1:Int)))).Snapshot⟩:Qj) (by rintro _ rfl;rfl) he25 ?_
 intro w23 E' S
 replace E:=E.trans E'
 have hs26:Value.slice A10 (([]:List Qj)++a0.T).length c11=Value.slice A10 x24.length c11:=by rw [← he25,List.length_set]
 try rw [hs26] at S
 try rw [hs26]
 have p27:(IntKind.i64.wrap (a1 - (1:Int))) < (x24.length:Int):=by rw [← he25,List.length_set];exact p14
 refine QB (tn ?_)
 as_aux_lemma =>
 refine QE (QA (W_v (pt bo0 0) (QD rfl) rfl (W_v (pt bo0 0) (Qo rfl) rfl (W_v (pt bo0 9) (QC (o:=0) (off:=9) Tryd.underlying121 rfl ty119 rfl rfl) rfl (W_v (.slice A0_9 a0.L.length c0_9) (QO (S.blk 1 rfl) ty119 rfl rfl) rfl (W_v (.slice A0_9 a0.L.length c0_9) (QG rfl) rfl (QB (tn (QE (QA (W_v (vI 0) (QG rfl) rfl (QB (tn ?_)))))))))))))
 obtain ⟨o659,o659h,o659H⟩:=QW H
 refine Yj (fun ρ w'=>∃ (x652:QH) (A653:Option Addr) (c654:Nat) (A656:Option Addr) (c657:Nat) (Mj:Hp),(x652)=o659∧Qi ρ []∧M.le Mj∧Ext w w'∧St w' Mj F [Row QY 124 (.slice A653 x652.T.length c654) x652.T,B121 bo0 x652 A653 c654 A656 c657]∧SlR QU Mj (.slice A656 x652.L.length c657) x652.L) ?_ ?_
 ·skip
  refine Y3 (fun n ρ w'=>∃ (x444:Int) (x445:QH) (A446:Option Addr) (c447:Nat) (A449:Option Addr) (c450:Nat) (Mj:Hp),Zg a0 a1 a3 n x444 x445=some o659∧Qi ρ [(0,pt bo0 0),(1,vI a1),(3,vI a3),(8,.slice A0_9 a0.L.length c0_9),(9,vI x444)]∧M.le Mj∧Ext w w'∧St w' Mj F [Row QY 124 (.slice A446 x445.T.length c447) x445.T,B121 bo0 x445 A446 c447 A449 c450]∧SlR QU Mj (.slice A449 x445.L.length c450) x445.L) k ?_ ?_
  ·skip
   exact ⟨(0:Int),(⟨⟨a0.C.Tasks,a0.C.Active,a0.C.Keys,a0.C.Depth,a0.C.TS,a0.C.KeyLen,a0.C.ValLen,a0.C.Fan⟩,x24,a0.L,a0.Time,a0.Low⟩:QH),A10,c11,A0_9,c0_9,M,o659h,⟨rfl,rfl,rfl,rfl,rfl,trivial⟩,(Hp.le_refl M),E,S.pick [0,1] (by decide),hr0_9⟩
  ·intro n
   rintro ρ w660 ⟨x444,x445,A446,c447,A449,c450,M661,H,hρ,hM662,E,S,hs451⟩
   rw [QI hρ]
   replace HM:=Hp.le_trans HM hM662
   replace hr0_9:=SlR.mono hr0_9 hM662
   cases n with
   | zero=>cases H
   | succ k =>
    rw [Zg.eq_2] at H
    refine QE (QE (QA (W_v (vI x444) (QD rfl) rfl (W_v (.slice A0_9 a0.L.length c0_9) (QD rfl) rfl (W_v (vI (a0.L.length:Int)) (Q8 (n:=a0.L.length) Tryd.underlying119 rfl) rfl (W_v (.bool (decide (x444 < (a0.L.length:Int)))) (Qa rfl rfl rfl rfl) rfl (QB (tn ?_))))))))
    rcases Zf H with ⟨hb663,H⟩ | ⟨hb663,H⟩
    ·refine QQ (congrArg Value.bool hb663) ?_
     refine Qr (tn (QE ?_))
     obtain ⟨o768,o768h,o768H⟩:=QW H
     refine Y7 (fun ρ w'=>∃ (x761:QH) (A762:Option Addr) (c763:Nat) (A765:Option Addr) (c766:Nat) (Mj:Hp),(x761)=o768∧Qi ρ [(0,pt bo0 0),(1,vI a1),(3,vI a3),(8,.slice A0_9 a0.L.length c0_9),(9,vI x444)]∧M661.le Mj∧Ext w w'∧St w' Mj F [Row QY 124 (.slice A762 x761.T.length c763) x761.T,B121 bo0 x761 A762 c763 A765 c766]∧SlR QU Mj (.slice A765 x761.L.length c766) x761.L) ?_ ?_
     ·as_aux_lemma =>
       clear o768H
       have H:=o768h
       have LE769:=Hp.le_refl M661
       refine YP ?_
       refine QE (QA (W_v (.slice A0_9 a0.L.length c0_9) (QD rfl) rfl (W_v (vI x444) (QD rfl) rfl ?_)))
       obtain ⟨⟨p770,p771⟩,H⟩:=Yy H
       obtain ⟨b772,o773,cs774,_,_,ee779,hb775,vs776,hR777,hc778⟩:=SlW.at' hr0_9 p770 p771
       obtain ⟨v783,hs782,rfl⟩:=hR777
       obtain ⟨A780,c781,rfl,_⟩:=hs782.form
       refine W_v (.pointer (some ⟨b772,o773+x444.toNat*7,none⟩)) (Qy Tryd.underlying119 ty127 (slA ee779) rfl p770 p771) rfl (W_v (.agg #[vS ((rd a0.L x444).Key),.slice A780 ((rd a0.L x444).L).length c781,.bool ((rd a0.L x444).Has),vI ((rd a0.L x444).I.Writer),vI ((rd a0.L x444).I.TS),.bool ((rd a0.L x444).I.Tomb),vS ((rd a0.L x444).I.Value)]) (ZA (S.frz hb775) ty127 rfl (Xa hc778 0 rfl) rfl rfl) rfl ?_)
       refine Zo S cz3 ty127 rfl rfl ?_
       intro b784 w785 E' S
       replace E:=E.trans E'
       refine Qx S 0 rfl ty127 rfl rfl [vS ((rd a0.L x444).Key),.slice A780 ((rd a0.L x444).L).length c781,.bool ((rd a0.L x444).Has),vI ((rd a0.L x444).I.Writer),vI ((rd a0.L x444).I.TS),.bool ((rd a0.L x444).I.Tomb),vS ((rd a0.L x444).I.Value)] rfl rfl rfl #[vS ((rd a0.L x444).Key),.slice A780 ((rd a0.L x444).L).length c781,.bool ((rd a0.L x444).Has),vI ((rd a0.L x444).I.Writer),vI ((rd a0.L x444).I.TS),.bool ((rd a0.L x444).I.Tomb),vS ((rd a0.L x444).I.Value)] (by as_aux_lemma=>kernel_rfl) rfl ?_
       intro w787 E' S
       replace E:=E.trans E'
       refine QB (tn (QE (QE (QA (W_v (pt b784 2) (QC (o:=0) (off:=2) Tryd.underlying127 rfl ty4 rfl rfl) rfl (W_v (.bool ((rd a0.L x444).Has)) (QO (S.blk 0 rfl) ty4 rfl rfl) rfl (W_v (.bool (!((rd a0.L x444).Has))) (Y5 (b:=((rd a0.L x444).Has)) rfl) rfl (W_v (.bool (!((rd a0.L x444).Has))) (QD rfl) rfl ?_))))))))
       refine ZH 6 (fun ρ w'=>Qi ρ [(0,pt bo0 0),(1,vI a1),(3,vI a3),(8,.slice A0_9 a0.L.length c0_9),(9,vI x444),(10,pt b784 0),(52,.bool ((!((rd a0.L x444).Has))||((rd a0.L x444).I.Writer != a1)))]∧w787=w') ?_ ?_
       ·rcases ZX (!((rd a0.L x444).Has)) with hb788 | hb788
        ·skip
         refine QP (congrArg some hb788) (W_v (pt b784 3) (QC (o:=0) (off:=3) Tryd.underlying127 rfl ty61 rfl rfl) rfl (QP (congrArg some hb788) (W_v (pt b784 3) (QC (o:=3) (off:=0) Tryd.underlying61 rfl ty3 rfl rfl) rfl (QP (congrArg some hb788) (W_v (vI ((rd a0.L x444).I.Writer)) (QO (S.blk 0 rfl) ty3 rfl rfl) rfl (QP (congrArg some hb788) (W_v (vI a1) (QD rfl) rfl (QP (congrArg some hb788) (W_v (.bool ((rd a0.L x444).I.Writer != a1)) (Qa rfl rfl rfl rfl) rfl (W_v (.bool ((rd a0.L x444).I.Writer != a1)) (QV (k:=false) (congrArg Value.bool hb788) rfl) rfl (QB ?_)))))))))))
         exact ⟨⟨rfl,rfl,rfl,rfl,rfl,rfl,(by first | rfl | (rw [hb788];rfl) | (simp only [hb788];rfl)),trivial⟩,rfl⟩
        ·skip
         refine QZ (skF hb788) rfl (QZ (skF hb788) rfl (QZ (skF hb788) rfl (QZ (skF hb788) rfl (QZ (skF hb788) rfl (W_v (.bool true) (QV (k:=true) (congrArg Value.bool hb788) rfl) rfl (QB ?_))))))
         exact ⟨⟨rfl,rfl,rfl,rfl,rfl,rfl,(by first | rfl | (rw [hb788];rfl) | (simp only [hb788];rfl)),trivial⟩,rfl⟩
       as_aux_lemma =>
       rintro ρ _ ⟨hρ,rfl⟩
       rw [QI hρ]
       refine QB (tn ?_)
       rcases Zf H with ⟨hb789,H⟩ | ⟨hb789,H⟩
       ·refine QQ (congrArg Value.bool hb789) ?_
        refine Y0 ?_
        refine tx (bsm (?_))
        refine tn ?_
        exact ⟨x445,A446,c447,A449,c450,M661,Option.some.inj H,⟨rfl,rfl,rfl,rfl,rfl,trivial⟩,(Hp.le_refl M661),E,S.pick [1,2] (by decide),hs451⟩
       refine QK (congrArg Value.bool hb789) (Qr (tn (QE (QA (W_v (pt b784 2) (QC (o:=0) (off:=2) Tryd.underlying127 rfl ty4 rfl rfl) rfl ?_)))))
       refine Qx S 0 rfl ty4 rfl rfl [.bool false] rfl rfl rfl #[vS ((rd a0.L x444).Key),.slice A780 ((rd a0.L x444).L).length c781,.bool false,vI ((rd a0.L x444).I.Writer),vI ((rd a0.L x444).I.TS),.bool ((rd a0.L x444).I.Tomb),vS ((rd a0.L x444).I.Value)] rfl rfl ?_
       intro w790 E' S
       replace E:=E.trans E'
       refine QB (tn (QE (QE (QA (W_v (vI a3) (QD rfl) rfl (W_v (.bool (decide (a3 > (0:Int)))) (Qa rfl rfl rfl rfl) rfl (QB (tn ?_))))))))
       obtain ⟨o824,o824h,o824H⟩:=QW H
       refine Y7 (fun ρ w'=>∃ (x819:List QS) (x823:Int) (A820:Option Addr) (c821:Nat) (Mj:Hp),(x819,x823)=o824∧Qi ρ [(0,pt bo0 0),(1,vI a1),(3,vI a3),(8,.slice A0_9 a0.L.length c0_9),(9,vI x444),(10,pt b784 0)]∧M661.le Mj∧Ext w w'∧St w' Mj F [Blk b784 (.cells #[vS ((rd a0.L x444).Key),.slice A820 x819.length c821,.bool false,vI ((rd a0.L x444).I.Writer),vI x823,.bool ((rd a0.L x444).I.Tomb),vS ((rd a0.L x444).I.Value)] 127 (0,0)),Row QY 124 (.slice A446 x445.T.length c447) x445.T,B121 bo0 x445 A446 c447 A449 c450]∧SlR Q4 Mj (.slice A820 x819.length c821) x819) ?_ ?_
       ·as_aux_lemma =>
         clear o824H
         have H:=o824h
         rcases Zf H with ⟨hb825,H⟩ | ⟨hb825,H⟩
         ·refine QQ (congrArg Value.bool hb825) ?_
          refine QE (QA (W_v (vI a3) (QD rfl) rfl (W_v (pt b784 3) (QC (o:=0) (off:=3) Tryd.underlying127 rfl ty61 rfl rfl) rfl (W_v (pt b784 4) (QC (o:=3) (off:=1) Tryd.underlying61 rfl ty3 rfl rfl) rfl ?_))))
          refine Qx S 0 rfl ty3 rfl rfl [vI a3] rfl rfl rfl #[vS ((rd a0.L x444).Key),.slice A780 ((rd a0.L x444).L).length c781,.bool false,vI ((rd a0.L x444).I.Writer),vI a3,.bool ((rd a0.L x444).I.Tomb),vS ((rd a0.L x444).I.Value)] rfl rfl ?_
          intro w826 E' S
          replace E:=E.trans E'
          refine QB (tn (QA (W_v (pt b784 3) (QC (o:=0) (off:=3) Tryd.underlying127 rfl ty61 rfl rfl) rfl (W_v (.agg #[vI ((rd a0.L x444).I.Writer),vI a3,.bool ((rd a0.L x444).I.Tomb),vS ((rd a0.L x444).I.Value)]) (ZA (S.blk 0 rfl) ty61 rfl (QM rfl) rfl rfl) rfl ?_))))
          refine XE S #[vI ((rd a0.L x444).I.Writer),vI a3,.bool ((rd a0.L x444).I.Tomb),vS ((rd a0.L x444).I.Value)] Tryd.underlying65 ty61 rfl rfl cz16 (by as_aux_lemma=>kernel_rfl) (by as_aux_lemma=>kernel_rfl) rfl ?_
          intro b827 w828 E' S
          replace E:=E.trans E'
          replace S:=S.blk_row (r:=Q4) (l:=([(⟨(rd a0.L x444).I.Writer,a3,(rd a0.L x444).I.Tomb,(rd a0.L x444).I.Value⟩:QS)]:List QS)) 0 rfl 1 (Nat.le_refl 1) rfl (Cells.cons (vs:=[vI ((rd a0.L x444).I.Writer),vI a3,.bool ((rd a0.L x444).I.Tomb),vS ((rd a0.L x444).I.Value)]) (rfl) Cells.nil)
          refine W_v (pt b784 1) (QC (o:=0) (off:=1) Tryd.underlying127 rfl ty65 rfl rfl) rfl (W_v (.slice A780 ((rd a0.L x444).L).length c781) (QO (S.blk 1 rfl) ty65 rfl rfl) rfl ?_)
          obtain ⟨p830,H⟩:=Yy H
          obtain ⟨src831,hs832,hC833⟩:=Y1 (P:=Tryd.prog) (ρ:=Q4) (l:=(rd a0.L x444).L) (SlR.world hs782 S) (by decide)
          refine XL S 0 rfl rfl rfl Tryd.underlying65 (.inl Tryd.underlying65) ty61 rfl (by decide) (by decide) hs832 hC833 rfl (by omega) rfl ?_
          intro v834 w835 E' S
          replace E:=E.trans E'
          obtain ⟨A836,c837,rfl,_⟩:=(S.row_read 0 rfl).form
          refine W_v (pt b784 1) (QC (o:=0) (off:=1) Tryd.underlying127 rfl ty65 rfl rfl) rfl ?_
          refine Qx S 1 rfl ty65 rfl rfl [.slice A836 (([(⟨(rd a0.L x444).I.Writer,a3,(rd a0.L x444).I.Tomb,(rd a0.L x444).I.Value⟩:QS)]:List QS)++(rd a0.L x444).L).length c837] rfl rfl rfl #[vS ((rd a0.L x444).Key),.slice A836 (([(⟨(rd a0.L x444).I.Writer,a3,(rd a0.L x444).I.Tomb,(rd a0.L x444).I.Value⟩:QS)]:List QS)++(rd a0.L x444).L).length c837,.bool false,vI ((rd a0.L x444).I.Writer),vI a3,.bool ((rd a0.L x444).I.Tomb),vS ((rd a0.L x444).I.Value)] rfl rfl ?_
          intro w838 E' S
          replace E:=E.trans E'
          refine QB (tn ?_)
          obtain ⟨M839,hM840,hf841,S⟩:=S.row_freeze 0 rfl
          replace HM:=Hp.le_trans HM hM840
          replace LE769:=Hp.le_trans LE769 hM840
          exact ⟨(([(⟨(rd a0.L x444).I.Writer,a3,(rd a0.L x444).I.Tomb,(rd a0.L x444).I.Value⟩:QS)]:List QS)++(rd a0.L x444).L),a3,A836,c837,M839,Option.some.inj H,⟨rfl,rfl,rfl,rfl,rfl,rfl,trivial⟩,LE769,E,S.pick [0,1,2] (by decide),hf841⟩
         refine QK (congrArg Value.bool hb825) (Qr (tn ?_))
         exact ⟨((rd a0.L x444).L),((rd a0.L x444).I.TS),A780,c781,M661,Option.some.inj H,⟨rfl,rfl,rfl,rfl,rfl,rfl,trivial⟩,(Hp.le_refl M661),E,S.pick [0,1,2] (by decide),hs782⟩
       as_aux_lemma =>
       rintro ρ w842 ⟨x819,x823,A820,c821,M843,rfl,hρ,hM844,E,S,hs822⟩
       rw [QI hρ]
       replace HM:=Hp.le_trans HM hM844
       replace hs451:=SlR.mono hs451 hM844
       have H:=o824H
       refine tn (QE (QA (W_v (.agg cz16) (Z3 (pl:=[(0,1),(1,1),(2,1),(3,1)]) cz16 Tryd.underlying61 ty61 (by as_aux_lemma=>kernel_rfl) rfl (by as_aux_lemma=>kernel_rfl)) rfl (W_v (pt b784 3) (QC (o:=0) (off:=3) Tryd.underlying127 rfl ty61 rfl rfl) rfl ?_))))
       refine Qx S 0 rfl ty61 rfl rfl [vI 0,vI 0,.bool false,vS ([]:Str)] rfl rfl rfl #[vS ((rd a0.L x444).Key),.slice A820 x819.length c821,.bool false,vI 0,vI 0,.bool false,vS ([]:Str)] rfl rfl ?_
       intro w845 E' S
       replace E:=E.trans E'
       refine QB (tn (QA (W_v (pt bo0 0) (QD rfl) rfl (W_v (.agg #[vS ((rd a0.L x444).Key),.slice A820 x819.length c821,.bool false,vI 0,vI 0,.bool false,vS ([]:Str)]) (ZA (S.blk 0 rfl) ty127 rfl (QM rfl) rfl rfl) rfl ?_))))
       obtain ⟨t846,ht847,H⟩:=QW H
       replace S:St w845 M843 F [_,_,_]:=S.pick [2,1,0] (by decide)
       refine Yc fn81 (Z2.con k M843 A446 c447 A449 c450 x445 A820 c821 (⟨(rd a0.L x444).Key,x819,false,⟨(0:Int),(0:Int),false,([]:Str)⟩⟩:QR) bo0 t846 hs451 hs822 ht847) (Γ1:=[_,_]) (Γ2:=[_]) S rfl rfl ?_
       rintro _ w854 M855 Γ' hM856 E' S ⟨A848,c849,A851,c852,rfl,rfl⟩
       replace HM:=Hp.le_trans HM hM856
       replace hM844:=Hp.le_trans hM844 hM856
       replace E:=E.trans E'
       replace S:St w854 M855 F [_,_,_,_]:=S
       refine QB (bn (tn ?_))
       obtain ⟨M857,hM858,hf859,S⟩:=S.row_freeze 2 rfl
       replace HM:=Hp.le_trans HM hM858
       replace hM844:=Hp.le_trans hM844 hM858
       exact ⟨t846,A848,c849,A851,c852,M857,Option.some.inj H,⟨rfl,rfl,rfl,rfl,rfl,trivial⟩,hM844,E,S.pick [1,0] (by decide),hf859⟩
     rintro ρ w860 ⟨x761,A762,c763,A765,c766,M861,rfl,hρ,hM862,E,S,hs767⟩
     rw [QI hρ]
     replace HM:=Hp.le_trans HM hM862
     replace hM662:=Hp.le_trans hM662 hM862
     have H:=o768H
     refine tn (QA (W_v (vI x444) (QD rfl) rfl (W_v (vI (IntKind.i64.wrap (x444+(1:Int)))) (Qa rfl rfl rfl rfl) rfl (W_v (vI (IntKind.i64.wrap (x444+(1:Int)))) (QG rfl) rfl (QB (tn ?_))))))
     exact ⟨k,Nat.lt_succ_self k,⟨(IntKind.i64.wrap (x444+(1:Int))),x761,A762,c763,A765,c766,M861,H,⟨rfl,rfl,rfl,rfl,rfl,trivial⟩,hM662,E,S.pick [0,1] (by decide),hs767⟩⟩
    refine QK (congrArg Value.bool hb663) ?_
    refine Y0 ?_
    refine tx (tx (bsm (?_)))
    refine tn ?_
    exact ⟨x445,A446,c447,A449,c450,M661,Option.some.inj H,trivial,hM662,E,S.pick [0,1] (by decide),hs451⟩
 rintro ρ w863 ⟨x652,A653,c654,A656,c657,M864,rfl,hρ,hM865,E,S,hs658⟩
 rw [QI hρ]
 replace HM:=Hp.le_trans HM hM865
 have H:=o659H
 obtain rfl:=Option.some.inj H
 exact ⟨_,_,_,fun w1 e1=>QX (vs:=[]) (FA.nil),HM,E,S.pick [1,0] (by decide),⟨A653,c654,A656,c657,rfl,hs658,rfl⟩⟩
def ZI (a0:QH) (a1:Int):Nat→Bool→Int→Option ((Bool))
 | 0,_,_=>none
 | k+1,x254,x255=>(if (decide (x255 < (a0.L.length:Int)))=true then (Option.bind (α:=Bool) (if x254=true then some (true) else (if 0≤x255∧x255 < (a0.L.length:Int) then (Option.bind (α:=Bool) (if (rd a0.L x255).Has=true then (if 0≤x255∧x255 < (a0.L.length:Int) then some (((rd a0.L x255).I.Writer==a1)) else none) else some (false)) (fun x611=>some (x611))) else none)) (fun x566=>ZI a0 a1 k x566 (IntKind.i64.wrap (x255+(1:Int))))) else some (x254))
theorem ZI.mono {a0:QH} {a1:Int}:∀ {kl:Nat} {x0 x1},OLe (ZI a0 a1 kl x0 x1) (ZI a0 a1 (kl+1) x0 x1):=by
 intro kl
 induction kl with
 | zero=>intros;exact OLe.none
 | succ kl ih =>
  intros
  rw [ZI.eq_2,ZI.eq_2]
  exact mo
def Zv (k:Nat) (a0:QH) (a1:Int):Option (Qc×QH) :=
 (Option.bind (ZI a0 a1 k false (0:Int)) (fun x441=>(if (!x441)=true then (Option.bind (Q7 k a0 a1 (3:Int) (0:Int)) (fun t631=>some (cz8,t631))) else (if (a0.Time==a0.C.TS)=true then (Option.bind (Q7 k a0 a1 (4:Int) (0:Int)) (fun t647=>some (cz7,t647))) else (Option.bind (Q7 k (⟨⟨a0.C.Tasks,a0.C.Active,a0.C.Keys,a0.C.Depth,a0.C.TS,a0.C.KeyLen,a0.C.ValLen,a0.C.Fan⟩,a0.T,a0.L,(IntKind.i64.wrap (a0.Time+(1:Int))),a0.Low⟩:QH) a1 (3:Int) (IntKind.i64.wrap (a0.Time+(1:Int)))) (fun t661=>some (cz8,t661)))))))
theorem Zv.mono {k:Nat} {a0:QH} {a1:Int}:OLe (Zv k a0 a1) (Zv (k+1) a0 a1):=by
 unfold Zv
 have m1:=@ZI.mono
 have m2:=@Q7.mono
 exact mo
theorem Zv.con (k:Nat) (M:Hp) (A0_8:Option Addr) (c0_8:Nat) (A0_9:Option Addr) (c0_9:Nat) (a0:QH) (a1:Int) (bo0:Nat) (r:Qc×QH) (hr0_8:SlR QY M (.slice A0_8 a0.T.length c0_8) a0.T) (hr0_9:SlR QU M (.slice A0_9 a0.L.length c0_9) a0.L) (h:Zv k a0 a1=some r):Con Tryd.prog 63 #[pt bo0 0,vI a1] M [B121 bo0 a0 A0_8 c0_8 A0_9 c0_9] (fun v M' Γ'=>∃ (Aq1:Option Addr) (cq2:Nat) (Aq4:Option Addr) (cq5:Nat) (Aq7:Option Addr) (cq8:Nat),v=.agg #[vI r.1.Err,.bool r.1.Found,vS r.1.Value,.slice Aq1 r.1.Pairs.length cq2]∧SlR QU M' (.slice Aq7 r.2.L.length cq8) r.2.L∧Γ'=[Row Qm 87 (.slice Aq1 r.1.Pairs.length cq2) r.1.Pairs,B121 bo0 r.2 Aq4 cq5 Aq7 cq8,Row QY 124 (.slice Aq4 r.2.T.length cq5) r.2.T]):=by
 refine Qt Tryd.func63 rfl Tryd.ntmps63 Tryd.results63 rfl ?_
 intro w F rn S hrn
 have E:=Ext.refl w
 have HM:=Hp.le_refl M
 have H:=h
 unfold Zv at H
 refine QE (QA ?_)
 refine Zo S cz14 ty43 rfl rfl ?_
 intro b1 w2 E' S
 replace E:=E.trans E'
 refine QB (tn (QE (QA (W_v (.bool false) (QG rfl) rfl (QB (tn (QE (QE (QA (W_v (vI 0) (QG rfl) rfl (QB (tn ?_))))))))))))
 obtain ⟨o442,o442h,o442H⟩:=QW H
 refine Yj (fun ρ w'=>∃ (x441:Bool),(x441)=o442∧Qi ρ [(0,pt bo0 0),(1,vI a1),(4,pt b1 0),(5,.bool x441)]∧Ext w w'∧St w' M F [Blk b1 (.cells cz14 43 (0,0)),B121 bo0 a0 A0_8 c0_8 A0_9 c0_9]) ?_ ?_
 ·skip
  refine Y3 (fun n ρ w'=>∃ (x254:Bool) (x255:Int),ZI a0 a1 n x254 x255=some o442∧Qi ρ [(0,pt bo0 0),(1,vI a1),(4,pt b1 0),(5,.bool x254),(6,vI x255)]∧Ext w w'∧St w' M F [Blk b1 (.cells cz14 43 (0,0)),B121 bo0 a0 A0_8 c0_8 A0_9 c0_9]) k ?_ ?_
  ·skip
   exact ⟨false,(0:Int),o442h,⟨rfl,rfl,rfl,rfl,rfl,trivial⟩,E,S.pick [0,1] (by decide)⟩
  ·intro n
   rintro ρ w443 ⟨x254,x255,H,hρ,E,S⟩
   rw [QI hρ]
   cases n with
   | zero=>cases H
   | succ k =>
    rw [ZI.eq_2] at H
    refine QE (QE (QA (W_v (vI x255) (QD rfl) rfl (W_v (pt bo0 0) (QD rfl) rfl (W_v (pt bo0 0) (Qo rfl) rfl (W_v (pt bo0 9) (QC (o:=0) (off:=9) Tryd.underlying121 rfl ty119 rfl rfl) rfl (W_v (.slice A0_9 a0.L.length c0_9) (QO (S.blk 1 rfl) ty119 rfl rfl) rfl (W_v (vI (a0.L.length:Int)) (Q8 (n:=a0.L.length) Tryd.underlying119 rfl) rfl (W_v (.bool (decide (x255 < (a0.L.length:Int)))) (Qa rfl rfl rfl rfl) rfl (QB (tn ?_)))))))))))
    rcases Zf H with ⟨hb444,H⟩ | ⟨hb444,H⟩
    ·refine QQ (congrArg Value.bool hb444) ?_
     refine Qr (tn (QE ?_))
     refine YP ?_
     refine QA (W_v (.bool x254) (QD rfl) rfl (W_v (.bool x254) (QD rfl) rfl ?_))
     obtain ⟨o567,o567h,o567H⟩:=QW H
     refine ZH 22 (fun ρ w'=>∃ (x566:Bool),(x566)=o567∧Qi ρ [(0,pt bo0 0),(1,vI a1),(4,pt b1 0),(6,vI x255),(39,.bool x566)]∧Ext w w'∧St w' M F [Blk b1 (.cells cz14 43 (0,0)),B121 bo0 a0 A0_8 c0_8 A0_9 c0_9]) ?_ ?_
     ·as_aux_lemma =>
       have H:=o567h
       rcases Zf H with ⟨hb565,H⟩ | ⟨hb565,H⟩
       ·skip
        refine QZ (skF hb565) rfl (QZ (skF hb565) rfl (QZ (skF hb565) rfl (QZ (skF hb565) rfl (QZ (skF hb565) rfl (QZ (skF hb565) rfl (QZ (skF hb565) rfl (QZ (skF hb565) rfl (QZ (skF hb565) rfl (QZ (rfl) rfl (QZ (rfl) rfl (QZ (rfl) rfl (QZ (rfl) rfl (QZ (rfl) rfl (QZ (rfl) rfl (QZ (rfl) rfl ?_)))))))))))))))
        refine QZ (rfl) rfl (QZ (rfl) rfl (QZ (rfl) rfl (QZ (rfl) rfl (QZ (skF hb565) rfl (W_v (.bool true) (QV (k:=true) (congrArg Value.bool hb565) rfl) rfl (QB ?_))))))
        exact ⟨true,Option.some.inj H,⟨rfl,rfl,rfl,rfl,rfl,trivial⟩,E,S.pick [0,1] (by decide)⟩
       ·skip
        refine QP (congrArg some hb565) (W_v (pt bo0 0) (QD rfl) rfl (QP (congrArg some hb565) (W_v (pt bo0 0) (Qo rfl) rfl (QP (congrArg some hb565) (W_v (pt bo0 9) (QC (o:=0) (off:=9) Tryd.underlying121 rfl ty119 rfl rfl) rfl (QP (congrArg some hb565) (W_v (.slice A0_9 a0.L.length c0_9) (QO (S.blk 1 rfl) ty119 rfl rfl) rfl (QP (congrArg some hb565) (W_v (vI x255) (QD rfl) rfl (QP (congrArg some hb565) ?_))))))))))
        obtain ⟨⟨p568,p569⟩,H⟩:=Yy H
        obtain ⟨b570,o571,cs572,_,_,ee577,hb573,vs574,hR575,hc576⟩:=SlW.at' hr0_9 p568 p569
        obtain ⟨v581,hs580,rfl⟩:=hR575
        obtain ⟨A578,c579,rfl,_⟩:=hs580.form
        refine W_v (.pointer (some ⟨b570,o571+x255.toNat*7,none⟩)) (Qy Tryd.underlying119 ty127 (slA ee577) rfl p568 p569) rfl (QP (congrArg some hb565) (W_v (.pointer (some ⟨b570,o571+x255.toNat*7+2,none⟩)) (QC (o:=o571+x255.toNat*7) (off:=2) Tryd.underlying127 rfl ty4 rfl rfl) rfl (QP (congrArg some hb565) (W_v (.bool ((rd a0.L x255).Has)) (QO (S.frz hb573) ty4 rfl (hc576 2 _ rfl)) rfl (QP (congrArg some hb565) (W_v (.bool ((rd a0.L x255).Has)) (QD rfl) rfl ?_))))))
        obtain ⟨o612,o612h,o612H⟩:=QW H
        refine ZH 12 (fun ρ w'=>∃ (x611:Bool),(x611)=o612∧Qi ρ [(0,pt bo0 0),(1,vI a1),(4,pt b1 0),(6,vI x255),(17,.bool x254),(18,pt bo0 0),(19,pt bo0 0),(20,pt bo0 9),(21,.slice A0_9 a0.L.length c0_9),(22,vI x255),(23,.pointer (some ⟨b570,o571+x255.toNat*7,none⟩)),(24,.pointer (some ⟨b570,o571+x255.toNat*7+2,none⟩)),(25,.bool ((rd a0.L x255).Has)),(26,.bool ((rd a0.L x255).Has)),(38,.bool x611)]∧Ext w w'∧St w' M F [Blk b1 (.cells cz14 43 (0,0)),B121 bo0 a0 A0_8 c0_8 A0_9 c0_9]) ?_ ?_
        ·as_aux_lemma =>
          have H:=o612h
          rcases Zf H with ⟨hb610,H⟩ | ⟨hb610,H⟩
          ·skip
           refine QP (congrArg some hb610) (W_v (pt bo0 0) (QD rfl) rfl (QP (congrArg some hb610) (W_v (pt bo0 0) (Qo rfl) rfl (QP (congrArg some hb610) (W_v (pt bo0 9) (QC (o:=0) (off:=9) Tryd.underlying121 rfl ty119 rfl rfl) rfl (QP (congrArg some hb610) (W_v (.slice A0_9 a0.L.length c0_9) (QO (S.blk 1 rfl) ty119 rfl rfl) rfl (QP (congrArg some hb610) (W_v (vI x255) (QD rfl) rfl (QP (congrArg some hb610) ?_))))))))))
           obtain ⟨⟨p613,p614⟩,H⟩:=Yy H
           obtain ⟨b615,o616,cs617,_,_,ee622,hb618,vs619,hR620,hc621⟩:=SlW.at' hr0_9 p613 p614
           obtain ⟨v626,hs625,rfl⟩:=hR620
           obtain ⟨A623,c624,rfl,_⟩:=hs625.form
           refine W_v (.pointer (some ⟨b615,o616+x255.toNat*7,none⟩)) (Qy Tryd.underlying119 ty127 (slA ee622) rfl p613 p614) rfl (QP (congrArg some hb610) (W_v (.pointer (some ⟨b615,o616+x255.toNat*7+3,none⟩)) (QC (o:=o616+x255.toNat*7) (off:=3) Tryd.underlying127 rfl ty61 rfl rfl) rfl (QP (congrArg some hb610) (W_v (.pointer (some ⟨b615,o616+x255.toNat*7+3,none⟩)) (QC (o:=o616+x255.toNat*7+3) (off:=0) Tryd.underlying61 rfl ty3 rfl rfl) rfl (QP (congrArg some hb610) (W_v (vI ((rd a0.L x255).I.Writer)) (QO (S.frz hb618) ty3 rfl (hc621 3 _ rfl)) rfl (QP (congrArg some hb610) (W_v (vI a1) (QD rfl) rfl (QP (congrArg some hb610) (W_v (.bool ((rd a0.L x255).I.Writer==a1)) (Qa rfl rfl rfl rfl) rfl (QP (congrArg some hb565) (W_v (.bool ((rd a0.L x255).I.Writer==a1)) (QV (k:=true) (congrArg Value.bool hb610) rfl) rfl (QB ?_)))))))))))))
           exact ⟨((rd a0.L x255).I.Writer==a1),Option.some.inj H,⟨rfl,rfl,rfl,rfl,rfl,rfl,rfl,rfl,rfl,rfl,rfl,rfl,rfl,rfl,rfl,trivial⟩,E,S.pick [0,1] (by decide)⟩
          ·skip
           refine QZ (skT hb610) rfl (QZ (skT hb610) rfl (QZ (skT hb610) rfl (QZ (skT hb610) rfl (QZ (skT hb610) rfl (QZ (skT hb610) rfl (QZ (skT hb610) rfl (QZ (skT hb610) rfl (QZ (skT hb610) rfl (QZ (skT hb610) rfl (QZ (skT hb610) rfl (QP (congrArg some hb565) (W_v (.bool false) (QV (k:=false) (congrArg Value.bool hb610) rfl) rfl (QB ?_)))))))))))))
           exact ⟨false,Option.some.inj H,⟨rfl,rfl,rfl,rfl,rfl,rfl,rfl,rfl,rfl,rfl,rfl,rfl,rfl,rfl,rfl,trivial⟩,E,S.pick [0,1] (by decide)⟩
        rintro ρ w627 ⟨x611,rfl,hρ,E,S⟩
        rw [QI hρ]
        have H:=o612H
        refine W_v (.bool x611) (QV (k:=false) (congrArg Value.bool hb565) rfl) rfl (QB ?_)
        exact ⟨x611,Option.some.inj H,⟨rfl,rfl,rfl,rfl,rfl,trivial⟩,E,S.pick [0,1] (by decide)⟩
     rintro ρ w628 ⟨x566,rfl,hρ,E,S⟩
     rw [QI hρ]
     have H:=o567H
     refine W_v (.bool x566) (QG rfl) rfl (QB (bn (tn (QA (W_v (vI x255) (QD rfl) rfl (W_v (vI (IntKind.i64.wrap (x255+(1:Int)))) (Qa rfl rfl rfl rfl) rfl (W_v (vI (IntKind.i64.wrap (x255+(1:Int)))) (QG rfl) rfl (QB (tn ?_)))))))))
     exact ⟨k,Nat.lt_succ_self k,⟨x566,(IntKind.i64.wrap (x255+(1:Int))),H,⟨rfl,rfl,rfl,rfl,rfl,trivial⟩,E,S.pick [0,1] (by decide)⟩⟩
    refine QK (congrArg Value.bool hb444) ?_
    refine Y0 ?_
    refine tx (tx (bsm (?_)))
    refine tn ?_
    exact ⟨x254,Option.some.inj H,⟨rfl,rfl,rfl,rfl,trivial⟩,E,S.pick [0,1] (by decide)⟩
 rintro ρ w629 ⟨x441,rfl,hρ,E,S⟩
 rw [QI hρ]
 have H:=o442H
 refine tn ?_
 as_aux_lemma =>
 refine QE (QE (QA (W_v (.bool x441) (QD rfl) rfl (W_v (.bool (!x441)) (Y5 (b:=x441) rfl) rfl (QB (tn ?_))))))
 rcases Zf H with ⟨hb630,H⟩ | ⟨hb630,H⟩
 ·refine QQ (congrArg Value.bool hb630) ?_
  refine QE (QA (W_v (pt bo0 0) (QD rfl) rfl (W_v (vI a1) (QD rfl) rfl ?_)))
  obtain ⟨t631,ht632,H⟩:=QW H
  replace S:St w629 M F [_,_]:=S.pick [1,0] (by decide)
  refine Yc fn64 (Q7.con k M A0_8 c0_8 A0_9 c0_9 a0 a1 (3:Int) (0:Int) bo0 t631 hr0_8 hr0_9 ht632) (Γ1:=[_]) (Γ2:=[_]) S rfl rfl ?_
  rintro _ w639 M640 Γ' hM641 E' S ⟨A633,c634,A636,c637,rfl,hs638,rfl⟩
  replace HM:=Hp.le_trans HM hM641
  replace E:=E.trans E'
  replace S:St w639 M640 F [_,_,_]:=S
  refine QB (tn (QE (QA (W_v (.agg cz14) (Z3 (pl:=[(0,1),(1,1),(2,1),(3,1)]) cz14 Tryd.underlying43 ty43 (by as_aux_lemma=>kernel_rfl) rfl (by as_aux_lemma=>kernel_rfl)) rfl ?_))))
  refine Qx S 2 rfl ty43 rfl rfl [vI 0,.bool false,vS ([]:Str),.slice none 0 0] rfl rfl rfl cz14 rfl rfl ?_
  intro w642 E' S
  replace E:=E.trans E'
  refine QB (tn ?_)
  refine Qs ?_
  refine tr (?_)
  obtain rfl:=Option.some.inj H
  replace S:=S.row_nil Qm 87
  exact ⟨_,_,_,fun w1 e1=>QX (vs:=[.agg #[vI 0,.bool false,vS ([]:Str),.slice none ([]:List Qf).length 0]]) (FA.cons (⟨_,rfl,Qn ty43 ((S.of_eq e1).blk 3 rfl) (QM rfl) rfl (by decide)⟩) (FA.nil)),HM,E,S.pick [0,1,2] (by decide),⟨none,0,A633,c634,A636,c637,rfl,hs638,rfl⟩⟩
 refine QK (congrArg Value.bool hb630) (Qr (tn (QE (QE ?_))))
 refine Q0 (S:=fun w'=>∃ Mx,M.le Mx∧St w' Mx F [Blk b1 (.cells cz14 43 (0,0)),B121 bo0 a0 A0_8 c0_8 A0_9 c0_9]) (L:=10) mixed ?_
 intro w644 hw645 E'
 replace S:=S.heap hw645
 replace E:=E.trans E'
 have D1:∃ Mx,Hp.le M Mx∧St _ Mx F [_,_]:=⟨_,Hp.le_refl _,S.pick [0,1] (by decide)⟩
 refine Wt 0 rfl rfl rfl (pt bo0 0) rfl (fun w' h'=>QD rfl) D1 (Wt 1 rfl rfl rfl (pt bo0 0) rfl (fun w' h'=>Qo rfl) D1 (Wt 2 rfl rfl rfl (pt bo0 10) rfl (fun w' h'=>QC (o:=0) (off:=10) Tryd.underlying121 rfl ty3 rfl rfl) D1 (Wt 3 rfl rfl rfl (vI a0.Time) rfl (fun w' h'=>QO (Qp h' 1 rfl) ty3 rfl rfl) D1 (Wt 4 rfl rfl rfl (pt bo0 0) rfl (fun w' h'=>QD rfl) D1 (Wt 5 rfl rfl rfl (pt bo0 0) rfl (fun w' h'=>Qo rfl) D1 (Wt 6 rfl rfl rfl (pt bo0 0) rfl (fun w' h'=>QC (o:=0) (off:=0) Tryd.underlying121 rfl ty23 rfl rfl) D1 (Wt 7 rfl rfl rfl (pt bo0 4) rfl (fun w' h'=>QC (o:=0) (off:=4) Tryd.underlying23 rfl ty3 rfl rfl) D1 (Wt 8 rfl rfl rfl (vI a0.C.TS) rfl (fun w' h'=>QO (Qp h' 1 rfl) ty3 rfl rfl) D1 (Wt 9 rfl rfl rfl (.bool (a0.Time==a0.C.TS)) rfl (fun w' h'=>Qa rfl rfl rfl rfl) D1 ?_)))))))))
 refine Wz ?_
 refine tn ?_
 rcases Zf H with ⟨hb646,H⟩ | ⟨hb646,H⟩
 ·refine QQ (congrArg Value.bool hb646) ?_
  refine QE (QA (W_v (pt bo0 0) (QD rfl) rfl (W_v (vI a1) (QD rfl) rfl ?_)))
  obtain ⟨t647,ht648,H⟩:=QW H
  replace S:St w644 M F [_,_]:=S.pick [1,0] (by decide)
  refine Yc fn64 (Q7.con k M A0_8 c0_8 A0_9 c0_9 a0 a1 (4:Int) (0:Int) bo0 t647 hr0_8 hr0_9 ht648) (Γ1:=[_]) (Γ2:=[_]) S rfl rfl ?_
  rintro _ w655 M656 Γ' hM657 E' S ⟨A649,c650,A652,c653,rfl,hs654,rfl⟩
  replace HM:=Hp.le_trans HM hM657
  replace E:=E.trans E'
  replace S:St w655 M656 F [_,_,_]:=S
  refine QB (tn (QE (QA (W_v (.agg cz13) (Z3 (pl:=[(0,1),(1,1),(2,1),(3,1)]) cz13 Tryd.underlying43 ty43 (by as_aux_lemma=>kernel_rfl) rfl (by as_aux_lemma=>kernel_rfl)) rfl ?_))))
  refine Qx S 2 rfl ty43 rfl rfl [vI 35,.bool false,vS ([]:Str),.slice none 0 0] rfl rfl rfl cz13 rfl rfl ?_
  intro w658 E' S
  replace E:=E.trans E'
  refine QB (tn ?_)
  refine Qs ?_
  refine tr (?_)
  obtain rfl:=Option.some.inj H
  replace S:=S.row_nil Qm 87
  exact ⟨_,_,_,fun w1 e1=>QX (vs:=[.agg #[vI 35,.bool false,vS ([]:Str),.slice none ([]:List Qf).length 0]]) (FA.cons (⟨_,rfl,Qn ty43 ((S.of_eq e1).blk 3 rfl) (QM rfl) rfl (by decide)⟩) (FA.nil)),HM,E,S.pick [0,1,2] (by decide),⟨none,0,A649,c650,A652,c653,rfl,hs654,rfl⟩⟩
 refine QK (congrArg Value.bool hb646) (Qr (tn ?_))
 as_aux_lemma =>
 refine QE (QA (W_v (pt bo0 0) (QD rfl) rfl (W_v (pt bo0 0) (Qo rfl) rfl (W_v (pt bo0 10) (QC (o:=0) (off:=10) Tryd.underlying121 rfl ty3 rfl rfl) rfl (W_v (vI a0.Time) (QO (S.blk 1 rfl) ty3 rfl rfl) rfl (W_v (vI (IntKind.i64.wrap (a0.Time+(1:Int)))) (Qa rfl rfl rfl rfl) rfl (W_v (pt bo0 0) (Qo rfl) rfl (W_v (pt bo0 10) (QC (o:=0) (off:=10) Tryd.underlying121 rfl ty3 rfl rfl) rfl ?_))))))))
 refine Qx S 1 rfl ty3 rfl rfl [vI (IntKind.i64.wrap (a0.Time+(1:Int)))] rfl rfl rfl #[vI a0.C.Tasks,vI a0.C.Active,vI a0.C.Keys,vI a0.C.Depth,vI a0.C.TS,vI a0.C.KeyLen,vI a0.C.ValLen,vI a0.C.Fan,.slice A0_8 a0.T.length c0_8,.slice A0_9 a0.L.length c0_9,vI (IntKind.i64.wrap (a0.Time+(1:Int))),vI a0.Low] rfl rfl ?_
 intro w660 E' S
 replace E:=E.trans E'
 refine QB (tn (QE (QA (W_v (pt bo0 0) (QD rfl) rfl (W_v (vI a1) (QD rfl) rfl (W_v (pt bo0 0) (QD rfl) rfl (W_v (pt bo0 0) (Qo rfl) rfl (W_v (pt bo0 10) (QC (o:=0) (off:=10) Tryd.underlying121 rfl ty3 rfl rfl) rfl (W_v (vI (IntKind.i64.wrap (a0.Time+(1:Int)))) (QO (S.blk 1 rfl) ty3 rfl rfl) rfl ?_)))))))))
 obtain ⟨t661,ht662,H⟩:=QW H
 replace S:St w660 M F [_,_]:=S.pick [1,0] (by decide)
 refine Yc fn64 (Q7.con k M A0_8 c0_8 A0_9 c0_9 (⟨⟨a0.C.Tasks,a0.C.Active,a0.C.Keys,a0.C.Depth,a0.C.TS,a0.C.KeyLen,a0.C.ValLen,a0.C.Fan⟩,a0.T,a0.L,(IntKind.i64.wrap (a0.Time+(1:Int))),a0.Low⟩:QH) a1 (3:Int) (IntKind.i64.wrap (a0.Time+(1:Int))) bo0 t661 hr0_8 hr0_9 ht662) (Γ1:=[_]) (Γ2:=[_]) S rfl rfl ?_
 rintro _ w669 M670 Γ' hM671 E' S ⟨A663,c664,A666,c667,rfl,hs668,rfl⟩
 replace HM:=Hp.le_trans HM hM671
 replace E:=E.trans E'
 replace S:St w669 M670 F [_,_,_]:=S
 refine QB (tn (QE (QA (W_v (.agg cz14) (Z3 (pl:=[(0,1),(1,1),(2,1),(3,1)]) cz14 Tryd.underlying43 ty43 (by as_aux_lemma=>kernel_rfl) rfl (by as_aux_lemma=>kernel_rfl)) rfl ?_))))
 refine Qx S 2 rfl ty43 rfl rfl [vI 0,.bool false,vS ([]:Str),.slice none 0 0] rfl rfl rfl cz14 rfl rfl ?_
 intro w672 E' S
 replace E:=E.trans E'
 refine QB (tn ?_)
 refine Qs ?_
 obtain rfl:=Option.some.inj H
 replace S:=S.row_nil Qm 87
 exact ⟨_,_,_,fun w1 e1=>QX (vs:=[.agg #[vI 0,.bool false,vS ([]:Str),.slice none ([]:List Qf).length 0]]) (FA.cons (⟨_,rfl,Qn ty43 ((S.of_eq e1).blk 3 rfl) (QM rfl) rfl (by decide)⟩) (FA.nil)),HM,E,S.pick [0,1,2] (by decide),⟨none,0,A663,c664,A666,c667,rfl,hs668,rfl⟩⟩
def ZO (a0:QH):Nat→Int→QH→Option ((QH))
 | 0,_,_=>none
 | k+1,x1014,x1015=>(if (decide (x1014 < (a0.L.length:Int)))=true then (if 0≤x1014∧x1014 < (a0.L.length:Int) then (Option.bind (Yw k ((rd a0.L x1014).L) x1015.Low) (fun t1110=>(Option.bind (ZC k x1015 (⟨(rd a0.L x1014).Key,t1110,(rd a0.L x1014).Has,⟨(rd a0.L x1014).I.Writer,(rd a0.L x1014).I.TS,(rd a0.L x1014).I.Tomb,(rd a0.L x1014).I.Value⟩⟩:QR)) (fun t1120=>ZO a0 k (IntKind.i64.wrap (x1014+(1:Int))) t1120)))) else none) else some (x1015))
theorem ZO.mono {a0:QH}:∀ {kl:Nat} {x0 x1},OLe (ZO a0 kl x0 x1) (ZO a0 (kl+1) x0 x1):=by
 intro kl
 induction kl with
 | zero=>intros;exact OLe.none
 | succ kl ih =>
  intros
  rw [ZO.eq_2,ZO.eq_2]
  have m1:=@Yw.mono
  have m2:=@ZC.mono
  exact mo
def ZP (a0:QH):Nat→Int→Int→Option ((Int))
 | 0,_,_=>none
 | k+1,x450,x451=>(if (decide (x450 < (a0.T.length:Int)))=true then (Option.bind (α:=Int) (if 0≤x450∧x450 < (a0.T.length:Int) then (Option.bind (α:=Bool) (if ((rd a0.T x450).State==(1:Int))=true then (if 0≤x450∧x450 < (a0.T.length:Int) then some ((decide ((rd a0.T x450).Snapshot < x451))) else none) else some (false)) (fun x846=>(Option.bind (α:=Int) (if x846=true then (if 0≤x450∧x450 < (a0.T.length:Int) then some ((rd a0.T x450).Snapshot) else none) else some (x451)) (fun x883=>some (x883))))) else none) (fun x787=>ZP a0 k (IntKind.i64.wrap (x450+(1:Int))) x787)) else some (x451))
theorem ZP.mono {a0:QH}:∀ {kl:Nat} {x0 x1},OLe (ZP a0 kl x0 x1) (ZP a0 (kl+1) x0 x1):=by
 intro kl
 induction kl with
 | zero=>intros;exact OLe.none
 | succ kl ih =>
  intros
  rw [ZP.eq_2,ZP.eq_2]
  exact mo
def Zn (k:Nat) (a0:QH):Option (QH) :=
 (Option.bind (ZP a0 k (0:Int) a0.Time) (fun x674=>(Option.bind (ZO a0 k (0:Int) (⟨⟨a0.C.Tasks,a0.C.Active,a0.C.Keys,a0.C.Depth,a0.C.TS,a0.C.KeyLen,a0.C.ValLen,a0.C.Fan⟩,a0.T,a0.L,a0.Time,x674⟩:QH)) (fun x1071=>some x1071))))
theorem Zn.mono {k:Nat} {a0:QH}:OLe (Zn k a0) (Zn (k+1) a0):=by
 unfold Zn
 have m1:=@ZP.mono
 have m2:=@ZO.mono
 exact mo
theorem Zn.con (k:Nat) (M:Hp) (A0_8:Option Addr) (c0_8:Nat) (A0_9:Option Addr) (c0_9:Nat) (a0:QH) (bo0:Nat) (r:QH) (hr0_8:SlR QY M (.slice A0_8 a0.T.length c0_8) a0.T) (hr0_9:SlR QU M (.slice A0_9 a0.L.length c0_9) a0.L) (h:Zn k a0=some r):Con Tryd.prog 65 #[pt bo0 0] M [B121 bo0 a0 A0_8 c0_8 A0_9 c0_9] (fun v M' Γ'=>∃ (Aq1:Option Addr) (cq2:Nat) (Aq4:Option Addr) (cq5:Nat),v=.tuple #[]∧SlR QY M' (.slice Aq1 r.T.length cq2) r.T∧SlR QU M' (.slice Aq4 r.L.length cq5) r.L∧Γ'=[B121 bo0 r Aq1 cq2 Aq4 cq5]):=by
 refine Qt Tryd.func65 rfl Tryd.ntmps65 Tryd.results65 rfl ?_
 intro w F rn S hrn
 have E:=Ext.refl w
 have HM:=Hp.le_refl M
 have H:=h
 unfold Zn at H
 refine QE (QA (W_v (pt bo0 0) (QD rfl) rfl (W_v (pt bo0 0) (QD rfl) rfl (W_v (pt bo0 0) (Qo rfl) rfl (W_v (pt bo0 10) (QC (o:=0) (off:=10) Tryd.underlying121 rfl ty3 rfl rfl) rfl (W_v (vI a0.Time) (QO (S.blk 0 rfl) ty3 rfl rfl) rfl (W_v (pt bo0 0) (Qo rfl) rfl (W_v (pt bo0 11) (QC (o:=0) (off:=11) Tryd.underlying121 rfl ty3 rfl rfl) rfl ?_))))))))
 refine Qx S 0 rfl ty3 rfl rfl [vI a0.Time] rfl rfl rfl #[vI a0.C.Tasks,vI a0.C.Active,vI a0.C.Keys,vI a0.C.Depth,vI a0.C.TS,vI a0.C.KeyLen,vI a0.C.ValLen,vI a0.C.Fan,.slice A0_8 a0.T.length c0_8,.slice A0_9 a0.L.length c0_9,vI a0.Time,vI a0.Time] rfl rfl ?_
 intro w1 E' S
 replace E:=E.trans E'
 refine QB (tn (QE (QE (QA (W_v (vI 0) (QG rfl) rfl (QB (tn ?_)))))))
 obtain ⟨o675,o675h,o675H⟩:=QW H
 refine Yj (fun ρ w'=>∃ (x674:Int),(x674)=o675∧Qi ρ [(0,pt bo0 0)]∧Ext w w'∧St w' M F [Blk bo0 (.cells #[vI a0.C.Tasks,vI a0.C.Active,vI a0.C.Keys,vI a0.C.Depth,vI a0.C.TS,vI a0.C.KeyLen,vI a0.C.ValLen,vI a0.C.Fan,.slice A0_8 a0.T.length c0_8,.slice A0_9 a0.L.length c0_9,vI a0.Time,vI x674] 121 (0,0))]) ?_ ?_
 ·skip
  refine Y3 (fun n ρ w'=>∃ (x450:Int) (x451:Int),ZP a0 n x450 x451=some o675∧Qi ρ [(0,pt bo0 0),(2,vI x450)]∧Ext w w'∧St w' M F [Blk bo0 (.cells #[vI a0.C.Tasks,vI a0.C.Active,vI a0.C.Keys,vI a0.C.Depth,vI a0.C.TS,vI a0.C.KeyLen,vI a0.C.ValLen,vI a0.C.Fan,.slice A0_8 a0.T.length c0_8,.slice A0_9 a0.L.length c0_9,vI a0.Time,vI x451] 121 (0,0))]) k ?_ ?_
  ·skip
   exact ⟨(0:Int),a0.Time,o675h,⟨rfl,rfl,trivial⟩,E,S.pick [0] (by decide)⟩
  ·intro n
   rintro ρ w676 ⟨x450,x451,H,hρ,E,S⟩
   rw [QI hρ]
   cases n with
   | zero=>cases H
   | succ k =>
    rw [ZP.eq_2] at H
    refine QE (QE (QA (W_v (vI x450) (QD rfl) rfl (W_v (pt bo0 0) (QD rfl) rfl (W_v (pt bo0 0) (Qo rfl) rfl (W_v (pt bo0 8) (QC (o:=0) (off:=8) Tryd.underlying121 rfl ty118 rfl rfl) rfl (W_v (.slice A0_8 a0.T.length c0_8) (QO (S.blk 0 rfl) ty118 rfl rfl) rfl (W_v (vI (a0.T.length:Int)) (Q8 (n:=a0.T.length) Tryd.underlying118 rfl) rfl (W_v (.bool (decide (x450 < (a0.T.length:Int)))) (Qa rfl rfl rfl rfl) rfl (QB (tn ?_)))))))))))
    rcases Zf H with ⟨hb677,H⟩ | ⟨hb677,H⟩
    ·refine QQ (congrArg Value.bool hb677) ?_
     refine Qr (tn (QE ?_))
     obtain ⟨o788,o788h,o788H⟩:=QW H
     refine Y7 (fun ρ w'=>∃ (x787:Int),(x787)=o788∧Qi ρ [(0,pt bo0 0),(2,vI x450)]∧Ext w w'∧St w' M F [Blk bo0 (.cells #[vI a0.C.Tasks,vI a0.C.Active,vI a0.C.Keys,vI a0.C.Depth,vI a0.C.TS,vI a0.C.KeyLen,vI a0.C.ValLen,vI a0.C.Fan,.slice A0_8 a0.T.length c0_8,.slice A0_9 a0.L.length c0_9,vI a0.Time,vI x787] 121 (0,0))]) ?_ ?_
     ·as_aux_lemma =>
       clear o788H
       have H:=o788h
       refine YP ?_
       refine QE ?_
       refine Q0 (S:=fun w'=>∃ Mx,M.le Mx∧St w' Mx F [Blk bo0 (.cells #[vI a0.C.Tasks,vI a0.C.Active,vI a0.C.Keys,vI a0.C.Depth,vI a0.C.TS,vI a0.C.KeyLen,vI a0.C.ValLen,vI a0.C.Fan,.slice A0_8 a0.T.length c0_8,.slice A0_9 a0.L.length c0_9,vI a0.Time,vI x451] 121 (0,0))]) (L:=24) mixed ?_
       intro w823 hw824 E'
       replace S:=S.heap hw824
       replace E:=E.trans E'
       have D1:∃ Mx,Hp.le M Mx∧St _ Mx F [_]:=⟨_,Hp.le_refl _,S.pick [0] (by decide)⟩
       refine Wt 0 rfl rfl rfl (pt bo0 0) rfl (fun w' h'=>QD rfl) D1 (Wt 1 rfl rfl rfl (pt bo0 0) rfl (fun w' h'=>Qo rfl) D1 (Wt 2 rfl rfl rfl (pt bo0 8) rfl (fun w' h'=>QC (o:=0) (off:=8) Tryd.underlying121 rfl ty118 rfl rfl) D1 (Wt 3 rfl rfl rfl (.slice A0_8 a0.T.length c0_8) rfl (fun w' h'=>QO (Qp h' 0 rfl) ty118 rfl rfl) D1 (Wt 4 rfl rfl rfl (vI x450) rfl (fun w' h'=>QD rfl) D1 ?_))))
       obtain ⟨⟨p825,p826⟩,H⟩:=Yy H
       obtain ⟨b827,o828,cs829,_,_,ee834,hb830,vs831,hR832,hc833⟩:=SlW.at' hr0_8 p825 p826
       obtain rfl:vs831=_:=hR832
       refine Wt 5 rfl rfl rfl (.pointer (some ⟨b827,o828+x450.toNat*4,none⟩)) rfl (fun w' h'=>Qy Tryd.underlying118 ty124 (slA ee834) rfl p825 p826) D1 (Wt 6 rfl rfl rfl (.pointer (some ⟨b827,o828+x450.toNat*4+2,none⟩)) rfl (fun w' h'=>QC (o:=o828+x450.toNat*4) (off:=2) Tryd.underlying124 rfl ty5 rfl rfl) D1 (Wt 7 rfl rfl rfl (vU ((rd a0.T x450).State)) rfl (fun w' h'=>QO (XG h' hb830) ty5 rfl (hc833 2 _ rfl)) D1 (Wt 8 rfl rfl rfl (.bool ((rd a0.T x450).State==(1:Int))) rfl (fun w' h'=>Qa rfl rfl rfl rfl) D1 (Wt 9 rfl rfl rfl (.bool ((rd a0.T x450).State==(1:Int))) rfl (fun w' h'=>QD rfl) D1 ?_))))
       obtain ⟨o847,o847h,o847H⟩:=QW H
       refine YD (fun ρ w'=>∃ (x846:Bool),(x846)=o847∧Qi ρ [(0,pt bo0 0),(2,vI x450),(45,.bool x846)]∧Ext w w'∧St w' M F [Blk bo0 (.cells #[vI a0.C.Tasks,vI a0.C.Active,vI a0.C.Keys,vI a0.C.Depth,vI a0.C.TS,vI a0.C.KeyLen,vI a0.C.ValLen,vI a0.C.Fan,.slice A0_8 a0.T.length c0_8,.slice A0_9 a0.L.length c0_9,vI a0.Time,vI x451] 121 (0,0))]) 0 (Ls 24 [0,1,2,3,4,5,6,7,8,9,10,11,12,13,14,15,16,17,18,19,20,21,22,23]) ?_ ?_
       rotate_left
       ·intro hrest
        have H:=o847h
        rcases Zf H with ⟨hb845,H⟩ | ⟨hb845,H⟩
        ·skip
         have D2:∃ Mx,Hp.le M Mx∧St _ Mx F [_]:=⟨_,Hp.le_refl _,S.pick [0] (by decide)⟩
         refine WtY 10 rfl rfl rfl (pt bo0 0) rfl (congrArg some hb845) (fun w' h'=>QD rfl) D2 (WtY 11 rfl rfl rfl (pt bo0 0) rfl (congrArg some hb845) (fun w' h'=>Qo rfl) D2 (WtY 12 rfl rfl rfl (pt bo0 8) rfl (congrArg some hb845) (fun w' h'=>QC (o:=0) (off:=8) Tryd.underlying121 rfl ty118 rfl rfl) D2 (WtY 13 rfl rfl rfl (.slice A0_8 a0.T.length c0_8) rfl (congrArg some hb845) (fun w' h'=>QO (Qp h' 0 rfl) ty118 rfl rfl) D2 (WtY 14 rfl rfl rfl (vI x450) rfl (congrArg some hb845) (fun w' h'=>QD rfl) D2 ?_))))
         obtain ⟨⟨p848,p849⟩,H⟩:=Yy H
         obtain ⟨b850,o851,cs852,_,_,ee857,hb853,vs854,hR855,hc856⟩:=SlW.at' hr0_8 p848 p849
         obtain rfl:vs854=_:=hR855
         refine WtY 15 rfl rfl rfl (.pointer (some ⟨b850,o851+x450.toNat*4,none⟩)) rfl (congrArg some hb845) (fun w' h'=>Qy Tryd.underlying118 ty124 (slA ee857) rfl p848 p849) D2 (WtY 16 rfl rfl rfl (.pointer (some ⟨b850,o851+x450.toNat*4+3,none⟩)) rfl (congrArg some hb845) (fun w' h'=>QC (o:=o851+x450.toNat*4) (off:=3) Tryd.underlying124 rfl ty3 rfl rfl) D2 (WtY 17 rfl rfl rfl (vI ((rd a0.T x450).Snapshot)) rfl (congrArg some hb845) (fun w' h'=>QO (XG h' hb853) ty3 rfl (hc856 3 _ rfl)) D2 (WtY 18 rfl rfl rfl (pt bo0 0) rfl (congrArg some hb845) (fun w' h'=>QD rfl) D2 (WtY 19 rfl rfl rfl (pt bo0 0) rfl (congrArg some hb845) (fun w' h'=>Qo rfl) D2 (WtY 20 rfl rfl rfl (pt bo0 11) rfl (congrArg some hb845) (fun w' h'=>QC (o:=0) (off:=11) Tryd.underlying121 rfl ty3 rfl rfl) D2 (WtY 21 rfl rfl rfl (vI x451) rfl (congrArg some hb845) (fun w' h'=>QO (Qp h' 0 rfl) ty3 rfl rfl) D2 (WtY 22 rfl rfl rfl (.bool (decide ((rd a0.T x450).Snapshot < x451))) rfl (congrArg some hb845) (fun w' h'=>Qa rfl rfl rfl rfl) D2 (Wt 23 rfl rfl rfl (.bool (decide ((rd a0.T x450).Snapshot < x451))) rfl (fun w' h'=>QV (k:=true) (congrArg Value.bool hb845) rfl) D2 ?_))))))))
         exact hrest _ _ ⟨(decide ((rd a0.T x450).Snapshot < x451)),Option.some.inj H,⟨rfl,rfl,rfl,trivial⟩,E,S.pick [0] (by decide)⟩
        ·skip
         have D3:∃ Mx,Hp.le M Mx∧St _ Mx F [_]:=⟨_,Hp.le_refl _,S.pick [0] (by decide)⟩
         refine WtN 10 rfl rfl rfl rfl (skT hb845) D3 (WtN 11 rfl rfl rfl rfl (skT hb845) D3 (WtN 12 rfl rfl rfl rfl (skT hb845) D3 (WtN 13 rfl rfl rfl rfl (skT hb845) D3 (WtN 14 rfl rfl rfl rfl (skT hb845) D3 (WtN 15 rfl rfl rfl rfl (skT hb845) D3 (WtN 16 rfl rfl rfl rfl (skT hb845) D3 (WtN 17 rfl rfl rfl rfl (skT hb845) D3 (WtN 18 rfl rfl rfl rfl (skT hb845) D3 (WtN 19 rfl rfl rfl rfl (skT hb845) D3 (WtN 20 rfl rfl rfl rfl (skT hb845) D3 (WtN 21 rfl rfl rfl rfl (skT hb845) D3 (WtN 22 rfl rfl rfl rfl (skT hb845) D3 (Wt 23 rfl rfl rfl (.bool false) rfl (fun w' h'=>QV (k:=false) (congrArg Value.bool hb845) rfl) D3 ?_)))))))))))))
         exact hrest _ _ ⟨false,Option.some.inj H,⟨rfl,rfl,rfl,trivial⟩,E,S.pick [0] (by decide)⟩
       rintro ρ w858 ⟨x846,rfl,hρ,E,S⟩
       rw [QI hρ]
       have H:=o847H
       refine Wz ?_
       refine tn ?_
       obtain ⟨o884,o884h,o884H⟩:=QW H
       refine Y7 (fun ρ w'=>∃ (x883:Int),(x883)=o884∧Qi ρ [(0,pt bo0 0),(2,vI x450)]∧Ext w w'∧St w' M F [Blk bo0 (.cells #[vI a0.C.Tasks,vI a0.C.Active,vI a0.C.Keys,vI a0.C.Depth,vI a0.C.TS,vI a0.C.KeyLen,vI a0.C.ValLen,vI a0.C.Fan,.slice A0_8 a0.T.length c0_8,.slice A0_9 a0.L.length c0_9,vI a0.Time,vI x883] 121 (0,0))]) ?_ ?_
       ·clear o884H
        have H:=o884h
        rcases Zf H with ⟨hb885,H⟩ | ⟨hb885,H⟩
        ·refine QQ (congrArg Value.bool hb885) ?_
         refine QA (W_v (pt bo0 0) (QD rfl) rfl (W_v (pt bo0 0) (QD rfl) rfl (W_v (pt bo0 0) (Qo rfl) rfl (W_v (pt bo0 8) (QC (o:=0) (off:=8) Tryd.underlying121 rfl ty118 rfl rfl) rfl (W_v (.slice A0_8 a0.T.length c0_8) (QO (S.blk 0 rfl) ty118 rfl rfl) rfl (W_v (vI x450) (QD rfl) rfl ?_))))))
         obtain ⟨⟨p886,p887⟩,H⟩:=Yy H
         obtain ⟨b888,o889,cs890,_,_,ee895,hb891,vs892,hR893,hc894⟩:=SlW.at' hr0_8 p886 p887
         obtain rfl:vs892=_:=hR893
         refine W_v (.pointer (some ⟨b888,o889+x450.toNat*4,none⟩)) (Qy Tryd.underlying118 ty124 (slA ee895) rfl p886 p887) rfl (W_v (.pointer (some ⟨b888,o889+x450.toNat*4+3,none⟩)) (QC (o:=o889+x450.toNat*4) (off:=3) Tryd.underlying124 rfl ty3 rfl rfl) rfl (W_v (vI ((rd a0.T x450).Snapshot)) (QO (S.frz hb891) ty3 rfl (hc894 3 _ rfl)) rfl (W_v (pt bo0 0) (Qo rfl) rfl (W_v (pt bo0 11) (QC (o:=0) (off:=11) Tryd.underlying121 rfl ty3 rfl rfl) rfl ?_))))
         refine Qx S 0 rfl ty3 rfl rfl [vI ((rd a0.T x450).Snapshot)] rfl rfl rfl #[vI a0.C.Tasks,vI a0.C.Active,vI a0.C.Keys,vI a0.C.Depth,vI a0.C.TS,vI a0.C.KeyLen,vI a0.C.ValLen,vI a0.C.Fan,.slice A0_8 a0.T.length c0_8,.slice A0_9 a0.L.length c0_9,vI a0.Time,vI ((rd a0.T x450).Snapshot)] rfl rfl ?_
         intro w896 E' S
         replace E:=E.trans E'
         refine QB (tn ?_)
         exact ⟨((rd a0.T x450).Snapshot),Option.some.inj H,⟨rfl,rfl,trivial⟩,E,S.pick [0] (by decide)⟩
        refine QK (congrArg Value.bool hb885) (Qr (tn ?_))
        exact ⟨x451,Option.some.inj H,⟨rfl,rfl,trivial⟩,E,S.pick [0] (by decide)⟩
       rintro ρ w897 ⟨x883,rfl,hρ,E,S⟩
       rw [QI hρ]
       have H:=o884H
       refine bn (tn ?_)
       exact ⟨x883,Option.some.inj H,⟨rfl,rfl,trivial⟩,E,S.pick [0] (by decide)⟩
     rintro ρ w898 ⟨x787,rfl,hρ,E,S⟩
     rw [QI hρ]
     have H:=o788H
     refine tn (QA (W_v (vI x450) (QD rfl) rfl (W_v (vI (IntKind.i64.wrap (x450+(1:Int)))) (Qa rfl rfl rfl rfl) rfl (W_v (vI (IntKind.i64.wrap (x450+(1:Int)))) (QG rfl) rfl (QB (tn ?_))))))
     exact ⟨k,Nat.lt_succ_self k,⟨(IntKind.i64.wrap (x450+(1:Int))),x787,H,⟨rfl,rfl,trivial⟩,E,S.pick [0] (by decide)⟩⟩
    refine QK (congrArg Value.bool hb677) ?_
    refine Y0 ?_
    refine tx (tx (bsm (?_)))
    refine tn ?_
    exact ⟨x451,Option.some.inj H,⟨rfl,trivial⟩,E,S.pick [0] (by decide)⟩
 rintro ρ w899 ⟨x674,rfl,hρ,E,S⟩
 rw [QI hρ]
 have H:=o675H
 refine tn ?_
 as_aux_lemma =>
 refine QE (QA (W_v (pt bo0 0) (QD rfl) rfl (W_v (pt bo0 0) (Qo rfl) rfl (W_v (pt bo0 9) (QC (o:=0) (off:=9) Tryd.underlying121 rfl ty119 rfl rfl) rfl (W_v (.slice A0_9 a0.L.length c0_9) (QO (S.blk 0 rfl) ty119 rfl rfl) rfl (W_v (.slice A0_9 a0.L.length c0_9) (QG rfl) rfl (QB (tn (QE (QA (W_v (vI 0) (QG rfl) rfl (QB (tn ?_)))))))))))))
 obtain ⟨o1078,o1078h,o1078H⟩:=QW H
 refine Yj (fun ρ w'=>∃ (x1071:QH) (A1072:Option Addr) (c1073:Nat) (A1075:Option Addr) (c1076:Nat) (Mj:Hp),(x1071)=o1078∧Qi ρ []∧M.le Mj∧Ext w w'∧St w' Mj F [B121 bo0 x1071 A1072 c1073 A1075 c1076]∧SlR QY Mj (.slice A1072 x1071.T.length c1073) x1071.T∧SlR QU Mj (.slice A1075 x1071.L.length c1076) x1071.L) ?_ ?_
 ·skip
  refine Y3 (fun n ρ w'=>∃ (x1014:Int) (x1015:QH) (A1016:Option Addr) (c1017:Nat) (A1019:Option Addr) (c1020:Nat) (Mj:Hp),ZO a0 n x1014 x1015=some o1078∧Qi ρ [(0,pt bo0 0),(3,.slice A0_9 a0.L.length c0_9),(4,vI x1014)]∧M.le Mj∧Ext w w'∧St w' Mj F [B121 bo0 x1015 A1016 c1017 A1019 c1020]∧SlR QY Mj (.slice A1016 x1015.T.length c1017) x1015.T∧SlR QU Mj (.slice A1019 x1015.L.length c1020) x1015.L) k ?_ ?_
  ·skip
   exact ⟨(0:Int),(⟨⟨a0.C.Tasks,a0.C.Active,a0.C.Keys,a0.C.Depth,a0.C.TS,a0.C.KeyLen,a0.C.ValLen,a0.C.Fan⟩,a0.T,a0.L,a0.Time,x674⟩:QH),A0_8,c0_8,A0_9,c0_9,M,o1078h,⟨rfl,rfl,rfl,trivial⟩,(Hp.le_refl M),E,S.pick [0] (by decide),hr0_8,hr0_9⟩
  ·intro n
   rintro ρ w1079 ⟨x1014,x1015,A1016,c1017,A1019,c1020,M1080,H,hρ,hM1081,E,S,hs1018,hs1021⟩
   rw [QI hρ]
   replace HM:=Hp.le_trans HM hM1081
   replace hr0_9:=SlR.mono hr0_9 hM1081
   cases n with
   | zero=>cases H
   | succ k =>
    rw [ZO.eq_2] at H
    refine QE (QE (QA (W_v (vI x1014) (QD rfl) rfl (W_v (.slice A0_9 a0.L.length c0_9) (QD rfl) rfl (W_v (vI (a0.L.length:Int)) (Q8 (n:=a0.L.length) Tryd.underlying119 rfl) rfl (W_v (.bool (decide (x1014 < (a0.L.length:Int)))) (Qa rfl rfl rfl rfl) rfl (QB (tn ?_))))))))
    rcases Zf H with ⟨hb1082,H⟩ | ⟨hb1082,H⟩
    ·refine QQ (congrArg Value.bool hb1082) ?_
     refine Qr (tn (QE ?_))
     refine YP ?_
     refine QE (QA (W_v (.slice A0_9 a0.L.length c0_9) (QD rfl) rfl (W_v (vI x1014) (QD rfl) rfl ?_)))
     obtain ⟨⟨p1083,p1084⟩,H⟩:=Yy H
     obtain ⟨b1085,o1086,cs1087,_,_,ee1092,hb1088,vs1089,hR1090,hc1091⟩:=SlW.at' hr0_9 p1083 p1084
     obtain ⟨v1096,hs1095,rfl⟩:=hR1090
     obtain ⟨A1093,c1094,rfl,_⟩:=hs1095.form
     refine W_v (.pointer (some ⟨b1085,o1086+x1014.toNat*7,none⟩)) (Qy Tryd.underlying119 ty127 (slA ee1092) rfl p1083 p1084) rfl (W_v (.agg #[vS ((rd a0.L x1014).Key),.slice A1093 ((rd a0.L x1014).L).length c1094,.bool ((rd a0.L x1014).Has),vI ((rd a0.L x1014).I.Writer),vI ((rd a0.L x1014).I.TS),.bool ((rd a0.L x1014).I.Tomb),vS ((rd a0.L x1014).I.Value)]) (ZA (S.frz hb1088) ty127 rfl (Xa hc1091 0 rfl) rfl rfl) rfl ?_)
     refine Zo S cz3 ty127 rfl rfl ?_
     intro b1097 w1098 E' S
     replace E:=E.trans E'
     refine Qx S 0 rfl ty127 rfl rfl [vS ((rd a0.L x1014).Key),.slice A1093 ((rd a0.L x1014).L).length c1094,.bool ((rd a0.L x1014).Has),vI ((rd a0.L x1014).I.Writer),vI ((rd a0.L x1014).I.TS),.bool ((rd a0.L x1014).I.Tomb),vS ((rd a0.L x1014).I.Value)] rfl rfl rfl #[vS ((rd a0.L x1014).Key),.slice A1093 ((rd a0.L x1014).L).length c1094,.bool ((rd a0.L x1014).Has),vI ((rd a0.L x1014).I.Writer),vI ((rd a0.L x1014).I.TS),.bool ((rd a0.L x1014).I.Tomb),vS ((rd a0.L x1014).I.Value)] (by as_aux_lemma=>kernel_rfl) rfl ?_
     intro w1100 E' S
     replace E:=E.trans E'
     refine QB (tn (QE ?_))
     refine Q0 (S:=fun w'=>∃ Mx,M1080.le Mx∧St w' Mx F [B127 b1097 (rd a0.L x1014) A1093 c1094,B121 bo0 x1015 A1016 c1017 A1019 c1020]) (L:=8) mixed ?_
     intro w1108 hw1109 E'
     replace S:=S.heap hw1109
     replace E:=E.trans E'
     have D4:∃ Mx,Hp.le M1080 Mx∧St _ Mx F [_,_]:=⟨_,Hp.le_refl _,S.pick [0,1] (by decide)⟩
     refine Wt 0 rfl rfl rfl (pt b1097 1) rfl (fun w' h'=>QC (o:=0) (off:=1) Tryd.underlying127 rfl ty65 rfl rfl) D4 (Wt 1 rfl rfl rfl (.slice A1093 ((rd a0.L x1014).L).length c1094) rfl (fun w' h'=>QO (Qp h' 0 rfl) ty65 rfl rfl) D4 (Wt 2 rfl rfl rfl (pt bo0 0) rfl (fun w' h'=>QD rfl) D4 (Wt 3 rfl rfl rfl (pt bo0 0) rfl (fun w' h'=>Qo rfl) D4 (Wt 4 rfl rfl rfl (pt bo0 11) rfl (fun w' h'=>QC (o:=0) (off:=11) Tryd.underlying121 rfl ty3 rfl rfl) D4 (Wt 5 rfl rfl rfl (vI x1015.Low) rfl (fun w' h'=>QO (Qp h' 1 rfl) ty3 rfl rfl) D4 ?_)))))
     refine Wo 6 rfl ?_
     obtain ⟨t1110,ht1111,H⟩:=QW H
     refine Zz fn82 (Yw.con k M1080 A1093 c1094 ((rd a0.L x1014).L) x1015.Low t1110 hs1095 ht1111) S rfl rfl (by rintro _ _ _ ⟨_,_,_,rfl⟩;exact (QN (YI (fun _ _ _ _ h=>h)) Qd)) ?_
     rintro _ w1115 _ Γ' E' S ⟨A1112,c1113,rfl,rfl⟩
     replace E:=E.trans E'
     refine QB (YU ⟨.inr ⟨M1080,Hp.le_refl M1080,(S.pick [1,2] (by decide))⟩,?_⟩)
     refine Wt 7 rfl rfl rfl (pt b1097 1) rfl (fun w' h'=>QC (o:=0) (off:=1) Tryd.underlying127 rfl ty65 rfl rfl) (⟨M1080,Hp.le_refl M1080,(S.pick [1,2] (by decide))⟩) ?_
     refine Wo 8 rfl ?_
     refine Qx S 1 rfl ty65 rfl rfl [.slice A1112 t1110.length c1113] rfl rfl rfl #[vS ((rd a0.L x1014).Key),.slice A1112 t1110.length c1113,.bool ((rd a0.L x1014).Has),vI ((rd a0.L x1014).I.Writer),vI ((rd a0.L x1014).I.TS),.bool ((rd a0.L x1014).I.Tomb),vS ((rd a0.L x1014).I.Value)] rfl rfl ?_
     intro w1116 E' S
     replace E:=E.trans E'
     refine QB (YU ⟨.inl (by decide),?_⟩)
     refine Wz ?_
     refine tn (QA (W_v (pt bo0 0) (QD rfl) rfl (W_v (.agg #[vS ((rd a0.L x1014).Key),.slice A1112 t1110.length c1113,.bool ((rd a0.L x1014).Has),vI ((rd a0.L x1014).I.Writer),vI ((rd a0.L x1014).I.TS),.bool ((rd a0.L x1014).I.Tomb),vS ((rd a0.L x1014).I.Value)]) (ZA (S.blk 1 rfl) ty127 rfl (QM rfl) rfl rfl) rfl ?_)))
     obtain ⟨M1117,hM1118,hf1119,S⟩:=S.row_freeze 0 rfl
     replace HM:=Hp.le_trans HM hM1118
     replace hM1081:=Hp.le_trans hM1081 hM1118
     replace hs1018:=SlR.mono hs1018 hM1118
     replace hs1021:=SlR.mono hs1021 hM1118
     obtain ⟨t1120,ht1121,H⟩:=QW H
     replace S:St w1116 M1117 F [_,_]:=S.pick [1,0] (by decide)
     refine Yc fn81 (ZC.con k M1117 A1016 c1017 A1019 c1020 x1015 A1112 c1113 (⟨(rd a0.L x1014).Key,t1110,(rd a0.L x1014).Has,⟨(rd a0.L x1014).I.Writer,(rd a0.L x1014).I.TS,(rd a0.L x1014).I.Tomb,(rd a0.L x1014).I.Value⟩⟩:QR) bo0 t1120 hs1018 hs1021 hf1119 ht1121) (Γ1:=[_]) (Γ2:=[_]) S rfl rfl ?_
     rintro _ w1128 M1129 Γ' hM1130 E' S ⟨A1122,c1123,A1125,c1126,rfl,hs1124,rfl⟩
     replace HM:=Hp.le_trans HM hM1130
     replace hM1081:=Hp.le_trans hM1081 hM1130
     replace E:=E.trans E'
     replace S:St w1128 M1129 F [_,_,_]:=S
     refine QB (bn (tn (QA (W_v (vI x1014) (QD rfl) rfl (W_v (vI (IntKind.i64.wrap (x1014+(1:Int)))) (Qa rfl rfl rfl rfl) rfl (W_v (vI (IntKind.i64.wrap (x1014+(1:Int)))) (QG rfl) rfl (QB (tn ?_))))))))
     obtain ⟨M1131,hM1132,hf1133,S⟩:=S.row_freeze 1 rfl
     replace HM:=Hp.le_trans HM hM1132
     replace hM1081:=Hp.le_trans hM1081 hM1132
     replace hs1124:=SlR.mono hs1124 hM1132
     exact ⟨k,Nat.lt_succ_self k,⟨(IntKind.i64.wrap (x1014+(1:Int))),t1120,A1122,c1123,A1125,c1126,M1131,H,⟨rfl,rfl,rfl,trivial⟩,hM1081,E,S.pick [0] (by decide),hs1124,hf1133⟩⟩
    refine QK (congrArg Value.bool hb1082) ?_
    refine Y0 ?_
    refine tx (tx (bsm (?_)))
    refine tn ?_
    exact ⟨x1015,A1016,c1017,A1019,c1020,M1080,Option.some.inj H,trivial,hM1081,E,S.pick [0] (by decide),hs1018,hs1021⟩
 rintro ρ w1134 ⟨x1071,A1072,c1073,A1075,c1076,M1135,rfl,hρ,hM1136,E,S,hs1074,hs1077⟩
 rw [QI hρ]
 replace HM:=Hp.le_trans HM hM1136
 have H:=o1078H
 obtain rfl:=Option.some.inj H
 exact ⟨_,_,_,fun w1 e1=>QX (vs:=[]) (FA.nil),HM,E,S.pick [0] (by decide),⟨A1072,c1073,A1075,c1076,rfl,hs1074,hs1077,rfl⟩⟩
def ZV (a0:QH) (a1:Int):Nat→Int→Int→Option ((Int))
 | 0,_,_=>none
 | k+1,x112,x113=>(if (decide (x113 < (a0.T.length:Int)))=true then (Option.bind (α:=Int) (if 0≤x113∧x113 < (a0.T.length:Int) then (Option.bind (α:=Int) (if ((rd a0.T x113).Task==a1)=true then some ((IntKind.i64.wrap (x112+(1:Int)))) else some (x112)) (fun x184=>some (x184))) else none) (fun x170=>ZV a0 a1 k x170 (IntKind.i64.wrap (x113+(1:Int))))) else some (x112))
theorem ZV.mono {a0:QH} {a1:Int}:∀ {kl:Nat} {x0 x1},OLe (ZV a0 a1 kl x0 x1) (ZV a0 a1 (kl+1) x0 x1):=by
 intro kl
 induction kl with
 | zero=>intros;exact OLe.none
 | succ kl ih =>
  intros
  rw [ZV.eq_2,ZV.eq_2]
  exact mo
def ZU (a0:QH) (a2:ZE) (t15:Int×Int×Int):Nat→List Qf→Int→Option ((List Qf))
 | 0,_,_=>none
 | k+1,x1373,x1377=>(if ((decide (x1377 < (a0.L.length:Int)))&&(decide ((x1373.length:Int) < a2.Limit)))=true then (Option.bind (α:=List Qf) (if 0≤x1377∧x1377 < (a0.L.length:Int) then (Option.bind (ZD k a0 t15.1 (rd a0.L x1377)) (fun t1957=>(Option.bind (α:=Bool) (if t1957.2=true then (if 0≤x1377∧x1377 < (a0.L.length:Int) then (Option.bind (Yi k ((rd a0.L x1377).Key) a2.Key a2.End) (fun t2036=>some (t2036))) else none) else some (false)) (fun x2020=>(Option.bind (α:=List Qf) (if x2020=true then (if 0≤x1377∧x1377 < (a0.L.length:Int) then (if x1373.length+([(⟨((rd a0.L x1377).Key),t1957.1⟩:Qf)]:List Qf).length≤4398046511104 then some ((x1373++([(⟨((rd a0.L x1377).Key),t1957.1⟩:Qf)]:List Qf))) else none) else none) else some (x1373)) (fun x2092=>some (x2092))))))) else none) (fun x1938=>ZU a0 a2 t15 k x1938 (IntKind.i64.wrap (x1377+(1:Int))))) else some (x1373))
theorem ZU.mono {a0:QH} {a2:ZE} {t15:Int×Int×Int}:∀ {kl:Nat} {x0 x1},OLe (ZU a0 a2 t15 kl x0 x1) (ZU a0 a2 t15 (kl+1) x0 x1):=by
 intro kl
 induction kl with
 | zero=>intros;exact OLe.none
 | succ kl ih =>
  intros
  rw [ZU.eq_2,ZU.eq_2]
  have m1:=@Yi.mono
  have m2:=@ZD.mono
  exact mo
def Qe (k:Nat) (a0:QH) (a1:Int) (a2:ZE):Option (Qc×QH) :=
 (Option.bind (Q6 k a0 a1 a2) (fun t7=>(if (t7 != (0:Int))=true then some ((⟨t7,false,([]:Str),([]:List Qf)⟩:Qc),a0) else (Option.bind (ZF k a0 a1 a2.Tx) (fun t15=>(if (a2.Kind==(1:Int))=true then (Option.bind (ZM k a0) (fun t28=>(if (decide (t28≥a0.C.Active))=true then some (cz5,a0) else (Option.bind (ZV a0 a1 k (1:Int) (0:Int)) (fun x150=>(Option.bind (α:=List Qj×List Qj) (if ([]:List Qj).length+a0.T.length≤4398046511104 then some ((([]:List Qj)++a0.T),([(⟨a1,x150,(1:Int),(a0.Time)⟩:Qj)]:List Qj)) else none) (fun ⟨x426,x430⟩=>(if x426.length+x430.length≤4398046511104 then some (cz8,(⟨⟨a0.C.Tasks,a0.C.Active,a0.C.Keys,a0.C.Depth,a0.C.TS,a0.C.KeyLen,a0.C.ValLen,a0.C.Fan⟩,(x426++x430),a0.L,a0.Time,a0.Low⟩:QH)) else none)))))))) else (if (a2.Kind==(2:Int))=true then (Option.bind (Zk k a0 a2.Key) (fun t564=>(Option.bind (ZD k a0 t15.1 t564) (fun t572=>(if t572.2=true then some ((⟨(0:Int),true,t572.1,([]:List Qf)⟩:Qc),a0) else some (cz8,a0)))))) else (if (a2.Kind==(3:Int))=true then (Option.bind (Zl k a0 t15.1 a2.Key a2.Value false) (fun t583=>some (t583.1,t583.2))) else (if (a2.Kind==(4:Int))=true then (Option.bind (Zl k a0 t15.1 a2.Key ([]:Str) true) (fun t599=>some (t599.1,t599.2))) else (if (a2.Kind==(5:Int))=true then (Option.bind (ZU a0 a2 t15 k ([]:List Qf) (0:Int)) (fun x1748=>some ((⟨(0:Int),false,([]:Str),x1748⟩:Qc),a0))) else (if (a2.Kind==(6:Int))=true then (Option.bind (Zv k a0 t15.1) (fun t2128=>some (t2128.1,t2128.2))) else (Option.bind (α:=QH) (if (a2.Kind==(7:Int))=true then (Option.bind (Q7 k a0 t15.1 (4:Int) (0:Int)) (fun t2276=>some (t2276))) else (Option.bind (α:=QH) (if (a2.Kind==(8:Int))=true then (Option.bind (Zn k a0) (fun t2323=>some (t2323))) else some (a0)) (fun x2314=>some (x2314)))) (fun x2266=>some (cz8,x2266))))))))))))))
theorem Qe.mono {k:Nat} {a0:QH} {a1:Int} {a2:ZE}:OLe (Qe k a0 a1 a2) (Qe (k+1) a0 a1 a2):=by
 unfold Qe
 have m1:=@ZM.mono
 have m2:=@ZV.mono
 have m3:=@ZU.mono
 have m4:=@Q6.mono
 have m5:=@ZF.mono
 have m6:=@Zv.mono
 have m7:=@Q7.mono
 have m8:=@Zk.mono
 have m9:=@ZD.mono
 have m10:=@Zn.mono
 have m11:=@Zl.mono
 exact mo
theorem Qe.con (k:Nat) (M:Hp) (A0_8:Option Addr) (c0_8:Nat) (A0_9:Option Addr) (c0_9:Nat) (a0:QH) (a1:Int) (a2:ZE) (bo0:Nat) (r:Qc×QH) (hr0_8:SlR QY M (.slice A0_8 a0.T.length c0_8) a0.T) (hr0_9:SlR QU M (.slice A0_9 a0.L.length c0_9) a0.L) (h:Qe k a0 a1 a2=some r):Con Tryd.prog 38 #[pt bo0 0,vI a1,.agg #[vU a2.Kind,vI a2.Tx,vS a2.Key,vS a2.End,vS a2.Value,vI a2.Limit,vU a2.Engine]] M [B121 bo0 a0 A0_8 c0_8 A0_9 c0_9] (fun v M' Γ'=>∃ (Aq1:Option Addr) (cq2:Nat) (Aq4:Option Addr) (cq5:Nat) (Aq7:Option Addr) (cq8:Nat),v=.agg #[vI r.1.Err,.bool r.1.Found,vS r.1.Value,.slice Aq1 r.1.Pairs.length cq2]∧SlR QY M' (.slice Aq4 r.2.T.length cq5) r.2.T∧SlR QU M' (.slice Aq7 r.2.L.length cq8) r.2.L∧Γ'=[Row Qm 87 (.slice Aq1 r.1.Pairs.length cq2) r.1.Pairs,B121 bo0 r.2 Aq4 cq5 Aq7 cq8]):=by
 refine Qt Tryd.func38 rfl Tryd.ntmps38 Tryd.results38 rfl ?_
 intro w F rn S hrn
 have E:=Ext.refl w
 have HM:=Hp.le_refl M
 have H:=h
 unfold Qe at H
 refine QE (QA ?_)
 refine Y8 S #[vU a2.Kind,vI a2.Tx,vS a2.Key,vS a2.End,vS a2.Value,vI a2.Limit,vU a2.Engine] rfl rfl rfl ?_
 intro b1 w2 E' S
 replace E:=E.trans E'
 refine Zo S cz14 ty43 rfl rfl ?_
 intro b4 w5 E' S
 replace E:=E.trans E'
 refine QB (tn (QE (QA (W_v (pt bo0 0) (QD rfl) rfl (W_v (vI a1) (QD rfl) rfl (W_v (.agg #[vU a2.Kind,vI a2.Tx,vS a2.Key,vS a2.End,vS a2.Value,vI a2.Limit,vU a2.Engine]) (ZA (S.blk 1 rfl) ty37 rfl (QM rfl) rfl rfl) rfl ?_))))))
 obtain ⟨t7,ht8,H⟩:=QW H
 replace S:St w5 M F [_,_,_]:=S.pick [2,0,1] (by decide)
 refine Z5 fn37 (Q6.con k M A0_8 c0_8 A0_9 c0_9 a0 a1 a2 bo0 t7 hr0_8 hr0_9 ht8) (Γ1:=[_]) (Γ2:=[_,_]) S rfl rfl (by rintro _ _ _ ⟨rfl,rfl⟩;exact (QN ZW Qd)) ?_
 rintro _ w9 _ Γ' E' S ⟨rfl,rfl⟩
 replace E:=E.trans E'
 replace S:St w9 M F [_,_,_]:=S
 refine W_v (vI t7) (QG rfl) rfl (QB (tn (QE (QE (QA (W_v (vI t7) (QD rfl) rfl (W_v (.bool (t7 != (0:Int))) (Qa rfl rfl rfl rfl) rfl (QB (tn ?_)))))))))
 rcases Zf H with ⟨hb12,H⟩ | ⟨hb12,H⟩
 ·refine QQ (congrArg Value.bool hb12) ?_
  refine QE (QA (W_v (vI t7) (QD rfl) rfl (W_v (.agg #[vI t7,.bool false,vS ([]:Str),.slice none 0 0]) (Z3 (pl:=[(0,1),(1,1),(2,1),(3,1)]) #[vI t7,.bool false,vS ([]:Str),.slice none 0 0] Tryd.underlying43 ty43 (by as_aux_lemma=>kernel_rfl) rfl (by as_aux_lemma=>kernel_rfl)) rfl ?_)))
  refine Qx S 1 rfl ty43 rfl rfl [vI t7,.bool false,vS ([]:Str),.slice none 0 0] rfl rfl rfl #[vI t7,.bool false,vS ([]:Str),.slice none 0 0] rfl rfl ?_
  intro w13 E' S
  replace E:=E.trans E'
  refine QB (tn ?_)
  refine Qs ?_
  refine tr (?_)
  obtain rfl:=Option.some.inj H
  replace S:=S.row_nil Qm 87
  exact ⟨_,_,_,fun w1 e1=>QX (vs:=[.agg #[vI t7,.bool false,vS ([]:Str),.slice none ([]:List Qf).length 0]]) (FA.cons (⟨_,rfl,Qn ty43 ((S.of_eq e1).blk 2 rfl) (QM rfl) rfl (by decide)⟩) (FA.nil)),HM,E,S.pick [0,1] (by decide),⟨none,0,A0_8,c0_8,A0_9,c0_9,rfl,hr0_8,hr0_9,rfl⟩⟩
 refine QK (congrArg Value.bool hb12) (Qr (tn ?_))
 as_aux_lemma =>
 refine QE (QA (W_v (pt bo0 0) (QD rfl) rfl (W_v (vI a1) (QD rfl) rfl (W_v (pt b1 1) (QC (o:=0) (off:=1) Tryd.underlying37 rfl ty3 rfl rfl) rfl (W_v (vI a2.Tx) (QO (S.blk 2 rfl) ty3 rfl rfl) rfl ?_)))))
 obtain ⟨t15,ht16,H⟩:=QW H
 refine Z5 fn55 (ZF.con k M A0_8 c0_8 A0_9 c0_9 a0 a1 a2.Tx bo0 t15 hr0_8 hr0_9 ht16) (Γ1:=[_]) (Γ2:=[_,_]) S rfl rfl (by rintro _ _ _ ⟨rfl,rfl⟩;exact (QN ZW Qd)) ?_
 rintro _ w17 _ Γ' E' S ⟨rfl,rfl⟩
 replace E:=E.trans E'
 replace S:St w17 M F [_,_,_]:=S
 refine W_v (.tuple #[vI t15.1,vU t15.2.1,vI t15.2.2]) (QD rfl) rfl (W_v (vI t15.1) (ZB rfl rfl) rfl (W_v (vU t15.2.1) (ZB rfl rfl) rfl (W_v (vI t15.2.2) (ZB rfl rfl) rfl (W_v (vI t15.1) (QG rfl) rfl (W_v (vU t15.2.1) (QG rfl) rfl (W_v (vI t15.2.2) (QG rfl) rfl (QB (tn (QE (QE (QA (W_v (pt b1 0) (QC (o:=0) (off:=0) Tryd.underlying37 rfl ty5 rfl rfl) rfl (W_v (vU a2.Kind) (QO (S.blk 2 rfl) ty5 rfl rfl) rfl (QB (tn ?_)))))))))))))))
 refine YP ?_
 refine QE (QA (W_v (.bool (a2.Kind==(1:Int))) (Qa rfl rfl rfl rfl) rfl (W_v (.bool (a2.Kind==(1:Int))) (QG rfl) rfl (QB (tn ?_)))))
 rcases Zf H with ⟨hb20,H⟩ | ⟨hb20,H⟩
 ·refine QQ (congrArg Value.bool hb20) ?_
  refine QE (QE ?_)
  refine Q0 (S:=fun w'=>∃ Mx,M.le Mx∧St w' Mx F [B121 bo0 a0 A0_8 c0_8 A0_9 c0_9,Blk b4 (.cells cz14 43 (0,0)),B37 b1 a2]) (L:=8) mixed ?_
  intro w26 hw27 E'
  replace S:=S.heap hw27
  replace E:=E.trans E'
  have D1:∃ Mx,Hp.le M Mx∧St _ Mx F [_,_,_]:=⟨_,Hp.le_refl _,S.pick [0,1,2] (by decide)⟩
  refine Wt 0 rfl rfl rfl (pt bo0 0) rfl (fun w' h'=>QD rfl) D1 (Wt 2 rfl rfl rfl (pt bo0 0) rfl (fun w' h'=>QD rfl) D1 (Wt 3 rfl rfl rfl (pt bo0 0) rfl (fun w' h'=>Qo rfl) D1 (Wt 4 rfl rfl rfl (pt bo0 0) rfl (fun w' h'=>QC (o:=0) (off:=0) Tryd.underlying121 rfl ty23 rfl rfl) D1 (Wt 5 rfl rfl rfl (pt bo0 1) rfl (fun w' h'=>QC (o:=0) (off:=1) Tryd.underlying23 rfl ty3 rfl rfl) D1 (Wt 6 rfl rfl rfl (vI a0.C.Active) rfl (fun w' h'=>QO (Qp h' 0 rfl) ty3 rfl rfl) D1 ?_)))))
  refine Wo 1 rfl ?_
  obtain ⟨t28,ht29,H⟩:=QW H
  refine Z5 fn59 (ZM.con k M A0_8 c0_8 A0_9 c0_9 a0 bo0 t28 hr0_8 hr0_9 ht29) (Γ1:=[_]) (Γ2:=[_,_]) S rfl rfl (by rintro _ _ _ ⟨rfl,rfl⟩;exact (QN ZW Qd)) ?_
  rintro _ w30 _ Γ' E' S ⟨rfl,rfl⟩
  replace E:=E.trans E'
  replace S:St w30 M F [_,_,_]:=S
  refine QB (YU ⟨.inr ⟨M,Hp.le_refl M,(S.pick [0,1,2] (by decide))⟩,?_⟩)
  refine Wt 7 rfl rfl rfl (.bool (decide (t28≥a0.C.Active))) rfl (fun w' h'=>Qa rfl rfl rfl rfl) (⟨M,Hp.le_refl M,(S.pick [0,1,2] (by decide))⟩) ?_
  refine Wz ?_
  refine tn ?_
  rcases Zf H with ⟨hb33,H⟩ | ⟨hb33,H⟩
  ·refine QQ (congrArg Value.bool hb33) ?_
   refine QE (QA (W_v (.agg cz11) (Z3 (pl:=[(0,1),(1,1),(2,1),(3,1)]) cz11 Tryd.underlying43 ty43 (by as_aux_lemma=>kernel_rfl) rfl (by as_aux_lemma=>kernel_rfl)) rfl ?_))
   refine Qx S 1 rfl ty43 rfl rfl [vI 34,.bool false,vS ([]:Str),.slice none 0 0] rfl rfl rfl cz11 rfl rfl ?_
   intro w34 E' S
   replace E:=E.trans E'
   refine QB (tn ?_)
   refine Qs ?_
   refine tr (br (tr (?_)))
   obtain rfl:=Option.some.inj H
   replace S:=S.row_nil Qm 87
   exact ⟨_,_,_,fun w1 e1=>QX (vs:=[.agg #[vI 34,.bool false,vS ([]:Str),.slice none ([]:List Qf).length 0]]) (FA.cons (⟨_,rfl,Qn ty43 ((S.of_eq e1).blk 2 rfl) (QM rfl) rfl (by decide)⟩) (FA.nil)),HM,E,S.pick [0,1] (by decide),⟨none,0,A0_8,c0_8,A0_9,c0_9,rfl,hr0_8,hr0_9,rfl⟩⟩
  refine QK (congrArg Value.bool hb33) (Qr (tn (QE (QA (W_v (vI 1) (QG rfl) rfl (QB (tn ?_)))))))
  as_aux_lemma =>
  refine QE (QE (QA (W_v (vI 0) (QG rfl) rfl (QB (tn ?_)))))
  obtain ⟨o151,o151h,o151H⟩:=QW H
  refine Yj (fun ρ w'=>∃ (x150:Int),(x150)=o151∧Qi ρ [(0,pt bo0 0),(1,vI a1),(6,pt b4 0),(11,vI x150)]∧Ext w w'∧St w' M F [B121 bo0 a0 A0_8 c0_8 A0_9 c0_9,Blk b4 (.cells cz14 43 (0,0))]) ?_ ?_
  ·skip
   refine Y3 (fun n ρ w'=>∃ (x112:Int) (x113:Int),ZV a0 a1 n x112 x113=some o151∧Qi ρ [(0,pt bo0 0),(1,vI a1),(6,pt b4 0),(11,vI x112),(12,vI x113)]∧Ext w w'∧St w' M F [B121 bo0 a0 A0_8 c0_8 A0_9 c0_9,Blk b4 (.cells cz14 43 (0,0))]) k ?_ ?_
   ·skip
    exact ⟨(1:Int),(0:Int),o151h,⟨rfl,rfl,rfl,rfl,rfl,trivial⟩,E,S.pick [0,1] (by decide)⟩
   ·intro n
    rintro ρ w152 ⟨x112,x113,H,hρ,E,S⟩
    rw [QI hρ]
    cases n with
    | zero=>cases H
    | succ k =>
     rw [ZV.eq_2] at H
     refine QE (QE (QA (W_v (vI x113) (QD rfl) rfl (W_v (pt bo0 0) (QD rfl) rfl (W_v (pt bo0 0) (Qo rfl) rfl (W_v (pt bo0 8) (QC (o:=0) (off:=8) Tryd.underlying121 rfl ty118 rfl rfl) rfl (W_v (.slice A0_8 a0.T.length c0_8) (QO (S.blk 0 rfl) ty118 rfl rfl) rfl (W_v (vI (a0.T.length:Int)) (Q8 (n:=a0.T.length) Tryd.underlying118 rfl) rfl (W_v (.bool (decide (x113 < (a0.T.length:Int)))) (Qa rfl rfl rfl rfl) rfl (QB (tn ?_)))))))))))
     rcases Zf H with ⟨hb153,H⟩ | ⟨hb153,H⟩
     ·refine QQ (congrArg Value.bool hb153) ?_
      refine Qr (tn (QE ?_))
      obtain ⟨o171,o171h,o171H⟩:=QW H
      refine Y7 (fun ρ w'=>∃ (x170:Int),(x170)=o171∧Qi ρ [(0,pt bo0 0),(1,vI a1),(6,pt b4 0),(11,vI x170),(12,vI x113)]∧Ext w w'∧St w' M F [B121 bo0 a0 A0_8 c0_8 A0_9 c0_9,Blk b4 (.cells cz14 43 (0,0))]) ?_ ?_
      ·as_aux_lemma =>
        clear o171H
        have H:=o171h
        refine YP ?_
        refine QE (QA (W_v (pt bo0 0) (QD rfl) rfl (W_v (pt bo0 0) (Qo rfl) rfl (W_v (pt bo0 8) (QC (o:=0) (off:=8) Tryd.underlying121 rfl ty118 rfl rfl) rfl (W_v (.slice A0_8 a0.T.length c0_8) (QO (S.blk 0 rfl) ty118 rfl rfl) rfl (W_v (vI x113) (QD rfl) rfl ?_))))))
        obtain ⟨⟨p172,p173⟩,H⟩:=Yy H
        obtain ⟨b174,o175,cs176,_,_,ee181,hb177,vs178,hR179,hc180⟩:=SlW.at' hr0_8 p172 p173
        obtain rfl:vs178=_:=hR179
        refine W_v (.pointer (some ⟨b174,o175+x113.toNat*4,none⟩)) (Qy Tryd.underlying118 ty124 (slA ee181) rfl p172 p173) rfl (W_v (.pointer (some ⟨b174,o175+x113.toNat*4,none⟩)) (QC (o:=o175+x113.toNat*4) (off:=0) Tryd.underlying124 rfl ty3 rfl rfl) rfl (W_v (vI ((rd a0.T x113).Task)) (QO (S.frz hb177) ty3 rfl (hc180 0 _ rfl)) rfl (W_v (vI a1) (QD rfl) rfl (W_v (.bool ((rd a0.T x113).Task==a1)) (Qa rfl rfl rfl rfl) rfl (QB (tn ?_))))))
        obtain ⟨o185,o185h,o185H⟩:=QW H
        refine Y7 (fun ρ w'=>∃ (x184:Int),(x184)=o185∧Qi ρ [(0,pt bo0 0),(1,vI a1),(6,pt b4 0),(11,vI x184),(12,vI x113)]∧Ext w w'∧St w' M F [B121 bo0 a0 A0_8 c0_8 A0_9 c0_9,Blk b4 (.cells cz14 43 (0,0))]) ?_ ?_
        ·clear o185H
         have H:=o185h
         rcases Zf H with ⟨hb186,H⟩ | ⟨hb186,H⟩
         ·refine QQ (congrArg Value.bool hb186) ?_
          refine QA (W_v (vI x112) (QD rfl) rfl (W_v (vI (IntKind.i64.wrap (x112+(1:Int)))) (Qa rfl rfl rfl rfl) rfl (W_v (vI (IntKind.i64.wrap (x112+(1:Int)))) (QG rfl) rfl (QB (tn ?_)))))
          exact ⟨(IntKind.i64.wrap (x112+(1:Int))),Option.some.inj H,⟨rfl,rfl,rfl,rfl,rfl,trivial⟩,E,S.pick [0,1] (by decide)⟩
         refine QK (congrArg Value.bool hb186) (Qr (tn ?_))
         exact ⟨x112,Option.some.inj H,⟨rfl,rfl,rfl,rfl,rfl,trivial⟩,E,S.pick [0,1] (by decide)⟩
        rintro ρ w187 ⟨x184,rfl,hρ,E,S⟩
        rw [QI hρ]
        have H:=o185H
        refine bn (tn ?_)
        exact ⟨x184,Option.some.inj H,⟨rfl,rfl,rfl,rfl,rfl,trivial⟩,E,S.pick [0,1] (by decide)⟩
      rintro ρ w188 ⟨x170,rfl,hρ,E,S⟩
      rw [QI hρ]
      have H:=o171H
      refine tn (QA (W_v (vI x113) (QD rfl) rfl (W_v (vI (IntKind.i64.wrap (x113+(1:Int)))) (Qa rfl rfl rfl rfl) rfl (W_v (vI (IntKind.i64.wrap (x113+(1:Int)))) (QG rfl) rfl (QB (tn ?_))))))
      exact ⟨k,Nat.lt_succ_self k,⟨x170,(IntKind.i64.wrap (x113+(1:Int))),H,⟨rfl,rfl,rfl,rfl,rfl,trivial⟩,E,S.pick [0,1] (by decide)⟩⟩
     refine QK (congrArg Value.bool hb153) ?_
     refine Y0 ?_
     refine tx (tx (bsm (?_)))
     refine tn ?_
     exact ⟨x112,Option.some.inj H,⟨rfl,rfl,rfl,rfl,trivial⟩,E,S.pick [0,1] (by decide)⟩
  rintro ρ w189 ⟨x150,rfl,hρ,E,S⟩
  rw [QI hρ]
  have H:=o151H
  refine tn ?_
  refine Q0 (S:=fun w'=>∃ Mx,M.le Mx∧St w' Mx F [B121 bo0 a0 A0_8 c0_8 A0_9 c0_9,Blk b4 (.cells cz14 43 (0,0))]) (L:=18) mixed ?_
  intro w373 hw374 E'
  replace S:=S.heap hw374
  replace E:=E.trans E'
  have D3:∃ Mx,Hp.le M Mx∧St _ Mx F [_,_]:=⟨_,Hp.le_refl _,S.pick [0,1] (by decide)⟩
  refine Wt 0 rfl rfl rfl (pt bo0 0) rfl (fun w' h'=>QD rfl) D3 (Wt 2 rfl rfl rfl (pt bo0 0) rfl (fun w' h'=>QD rfl) D3 (Wt 3 rfl rfl rfl (pt bo0 0) rfl (fun w' h'=>Qo rfl) D3 (Wt 4 rfl rfl rfl (pt bo0 8) rfl (fun w' h'=>QC (o:=0) (off:=8) Tryd.underlying121 rfl ty118 rfl rfl) D3 (Wt 5 rfl rfl rfl (.slice A0_8 a0.T.length c0_8) rfl (fun w' h'=>QO (Qp h' 0 rfl) ty118 rfl rfl) D3 (Wt 7 rfl rfl rfl (vI a1) rfl (fun w' h'=>QD rfl) D3 (Wt 8 rfl rfl rfl (vI x150) rfl (fun w' h'=>QD rfl) D3 (Wt 9 rfl rfl rfl (pt bo0 0) rfl (fun w' h'=>QD rfl) D3 (Wt 10 rfl rfl rfl (pt bo0 0) rfl (fun w' h'=>Qo rfl) D3 (Wt 11 rfl rfl rfl (pt bo0 10) rfl (fun w' h'=>QC (o:=0) (off:=10) Tryd.underlying121 rfl ty3 rfl rfl) D3 (Wt 12 rfl rfl rfl (vI a0.Time) rfl (fun w' h'=>QO (Qp h' 0 rfl) ty3 rfl rfl) D3 (Wt 13 rfl rfl rfl (.agg #[vI a1,vI x150,vU 1,vI (a0.Time)]) rfl (fun w' h'=>Z3 (pl:=[(0,1),(1,1),(2,1),(3,1)]) #[vI a1,vI x150,vU 1,vI (a0.Time)] Tryd.underlying124 ty124 (by as_aux_lemma=>kernel_rfl) rfl (by as_aux_lemma=>kernel_rfl)) D3 ?_)))))))))))
  obtain ⟨o506,o506h,o506H⟩:=QW H
  refine YD (fun ρ w'=>∃ (x426:List Qj) (x430:List Qj) (A427:Option Addr) (c428:Nat) (A431:Option Addr) (c432:Nat),(x426,x430)=o506∧Qi ρ [(6,pt b4 0),(70,pt bo0 0),(76,.slice A427 x426.length c428),(84,.slice A431 x430.length c432)]∧Ext w w'∧St w' M F [Row QY 124 (.slice A431 x430.length c432) x430,Row QY 124 (.slice A427 x426.length c428) x426,B121 bo0 a0 A0_8 c0_8 A0_9 c0_9,Blk b4 (.cells cz14 43 (0,0))]) 4 (Ls 19 [0,1,2,3,4,5,6,7,8,9,10,11,12,13,14]) ?_ ?_
  rotate_left
  ·intro hq512
   refine YD (fun ρ w'=>∃ (x410:List Qj) (x414:List Qj) (A411:Option Addr) (c412:Nat) (A415:Option Addr) (c416:Nat),(if x410.length+a0.T.length≤4398046511104 then some ((x410++a0.T),x414) else none)=some o506∧Qi ρ [(6,pt b4 0),(70,pt bo0 0),(71,.slice A411 x410.length c412),(75,.slice A0_8 a0.T.length c0_8),(84,.slice A415 x414.length c416)]∧Ext w w'∧St w' M F [Row QY 124 (.slice A415 x414.length c416) x414,Row QY 124 (.slice A411 x410.length c412) x410,B121 bo0 a0 A0_8 c0_8 A0_9 c0_9,Blk b4 (.cells cz14 43 (0,0))]) 5 (Ls 19 [0,1,2,3,4,5,7,8,9,10,11,12,13,14]) ?_ ?_
   ·clear o506h
    rintro ρ w513 ⟨x410,x414,A411,c412,A415,c416,H,hρ,E,S⟩
    rw [QI hρ]
    refine Wo 6 rfl ?_
    obtain ⟨p514,H⟩:=Yy H
    obtain ⟨src515,hs516,hC517⟩:=Y1 (P:=Tryd.prog) (ρ:=QY) (l:=a0.T) (SlR.world hr0_8 S) (by decide)
    refine XL S 1 rfl rfl rfl Tryd.underlying118 (.inl Tryd.underlying118) ty124 rfl (by decide) (by decide) hs516 hC517 rfl (by omega) rfl ?_
    intro v518 w519 E' S
    replace E:=E.trans E'
    obtain ⟨A520,c521,rfl,_⟩:=(S.row_read 1 rfl).form
    refine QB (YU ⟨.inr ⟨M,Hp.le_refl M,(S.pick [2,3] (by decide))⟩,?_⟩)
    exact hq512 _ _ ⟨(x410++a0.T),x414,A520,c521,A415,c416,Option.some.inj H,⟨rfl,rfl,rfl,rfl,trivial⟩,E,S.pick [0,1,2,3] (by decide)⟩
   intro hq511
   refine YD (fun ρ w'=>∃ (x403:List Qj) (A404:Option Addr) (c405:Nat),some (x403,([(⟨a1,x150,(1:Int),(a0.Time)⟩:Qj)]:List Qj))=some o506∧Qi ρ [(6,pt b4 0),(70,pt bo0 0),(76,.slice A404 x403.length c405),(83,.agg #[vI a1,vI x150,vU 1,vI (a0.Time)])]∧Ext w w'∧St w' M F [Row QY 124 (.slice A404 x403.length c405) x403,B121 bo0 a0 A0_8 c0_8 A0_9 c0_9,Blk b4 (.cells cz14 43 (0,0))]) 5 (Ls 19 [0,1,2,3,4,5,6,7,8,9,10,11,12,13]) ?_ ?_
   ·clear o506h
    rintro ρ w522 ⟨x403,A404,c405,H,hρ,E,S⟩
    rw [QI hρ]
    refine Wo 14 rfl ?_
    refine XE S #[vI a1,vI x150,vU 1,vI (a0.Time)] Tryd.underlying118 ty124 rfl rfl cz19 (by as_aux_lemma=>kernel_rfl) (by as_aux_lemma=>kernel_rfl) rfl ?_
    intro b523 w524 E' S
    replace E:=E.trans E'
    replace S:=S.blk_row (r:=QY) (l:=([(⟨a1,x150,(1:Int),(a0.Time)⟩:Qj)]:List Qj)) 0 rfl 1 (Nat.le_refl 1) rfl (Cells.cons (vs:=[vI a1,vI x150,vU 1,vI (a0.Time)]) (rfl) Cells.nil)
    refine QB (YU ⟨.inr ⟨M,Hp.le_refl M,(S.pick [2,3] (by decide))⟩,?_⟩)
    exact hq512 _ _ ⟨x403,([(⟨a1,x150,(1:Int),(a0.Time)⟩:Qj)]:List Qj),A404,c405,(some ⟨b523,0,none⟩),1,Option.some.inj H,⟨rfl,rfl,rfl,rfl,trivial⟩,E,S.pick [0,1,2,3] (by decide)⟩
   intro hq510
   refine YD (fun ρ w'=>∃ (x396:List Qj) (A397:Option Addr) (c398:Nat),(if ([]:List Qj).length+a0.T.length≤4398046511104 then some ((([]:List Qj)++a0.T),x396) else none)=some o506∧Qi ρ [(6,pt b4 0),(70,pt bo0 0),(75,.slice A0_8 a0.T.length c0_8),(84,.slice A397 x396.length c398)]∧Ext w w'∧St w' M F [Row QY 124 (.slice A397 x396.length c398) x396,B121 bo0 a0 A0_8 c0_8 A0_9 c0_9,Blk b4 (.cells cz14 43 (0,0))]) 6 (Ls 19 [0,2,3,4,5,7,8,9,10,11,12,13,14]) ?_ ?_
   ·clear o506h
    rintro ρ w526 ⟨x396,A397,c398,H,hρ,E,S⟩
    rw [QI hρ]
    refine Wo 1 rfl ?_
    refine XE S #[] Tryd.underlying118 ty124 rfl rfl #[] (by as_aux_lemma=>kernel_rfl) (by as_aux_lemma=>kernel_rfl) rfl ?_
    intro b527 w528 E' S
    replace E:=E.trans E'
    replace S:=S.blk_row (r:=QY) (l:=([]:List Qj)) 0 rfl 0 (Nat.le_refl 0) rfl Cells.nil
    refine QB (YU ⟨.inr ⟨M,Hp.le_refl M,(S.pick [2,3] (by decide))⟩,?_⟩)
    exact hq511 _ _ ⟨([]:List Qj),x396,(some ⟨b527,0,none⟩),0,A397,c398,H,⟨rfl,rfl,rfl,rfl,rfl,trivial⟩,E,S.pick [1,0,2,3] (by decide)⟩
   intro hq509
   refine YD (fun ρ w'=>∃ (x381:List Qj) (A382:Option Addr) (c383:Nat),(if x381.length+a0.T.length≤4398046511104 then some ((x381++a0.T),([(⟨a1,x150,(1:Int),(a0.Time)⟩:Qj)]:List Qj)) else none)=some o506∧Qi ρ [(6,pt b4 0),(70,pt bo0 0),(71,.slice A382 x381.length c383),(75,.slice A0_8 a0.T.length c0_8),(83,.agg #[vI a1,vI x150,vU 1,vI (a0.Time)])]∧Ext w w'∧St w' M F [Row QY 124 (.slice A382 x381.length c383) x381,B121 bo0 a0 A0_8 c0_8 A0_9 c0_9,Blk b4 (.cells cz14 43 (0,0))]) 6 (Ls 19 [0,1,2,3,4,5,7,8,9,10,11,12,13]) ?_ ?_
   ·clear o506h
    rintro ρ w530 ⟨x381,A382,c383,H,hρ,E,S⟩
    rw [QI hρ]
    refine XK (rs:=[6,14]) (by kernel_rfl) (by decide) ?_
    simp only [List.forall_mem_cons,List.not_mem_nil,false_implies,implies_true,and_true]
    refine ⟨?_,?_⟩
    ·refine ⟨_,rfl,?_⟩
     obtain ⟨p531,H⟩:=Yy H
     obtain ⟨src532,hs533,hC534⟩:=Y1 (P:=Tryd.prog) (ρ:=QY) (l:=a0.T) (SlR.world hr0_8 S) (by decide)
     refine XL S 0 rfl rfl rfl Tryd.underlying118 (.inl Tryd.underlying118) ty124 rfl (by decide) (by decide) hs533 hC534 rfl (by omega) rfl ?_
     intro v535 w536 E' S
     replace E:=E.trans E'
     obtain ⟨A537,c538,rfl,_⟩:=(S.row_read 0 rfl).form
     refine QB (YU ⟨.inr ⟨M,Hp.le_refl M,(S.pick [1,2] (by decide))⟩,?_⟩)
     exact hq510 _ _ ⟨(x381++a0.T),A537,c538,H,⟨rfl,rfl,rfl,rfl,trivial⟩,E,S.pick [0,1,2] (by decide)⟩
    ·refine ⟨_,rfl,?_⟩
     refine XE S #[vI a1,vI x150,vU 1,vI (a0.Time)] Tryd.underlying118 ty124 rfl rfl cz19 (by as_aux_lemma=>kernel_rfl) (by as_aux_lemma=>kernel_rfl) rfl ?_
     intro b539 w540 E' S
     replace E:=E.trans E'
     replace S:=S.blk_row (r:=QY) (l:=([(⟨a1,x150,(1:Int),(a0.Time)⟩:Qj)]:List Qj)) 0 rfl 1 (Nat.le_refl 1) rfl (Cells.cons (vs:=[vI a1,vI x150,vU 1,vI (a0.Time)]) (rfl) Cells.nil)
     refine QB (YU ⟨.inr ⟨M,Hp.le_refl M,(S.pick [2,3] (by decide))⟩,?_⟩)
     exact hq511 _ _ ⟨x381,([(⟨a1,x150,(1:Int),(a0.Time)⟩:Qj)]:List Qj),A382,c383,(some ⟨b539,0,none⟩),1,H,⟨rfl,rfl,rfl,rfl,rfl,trivial⟩,E,S.pick [0,1,2,3] (by decide)⟩
   intro hq508
   have H:=o506h
   refine XK (rs:=[1,14]) (by kernel_rfl) (by decide) ?_
   simp only [List.forall_mem_cons,List.not_mem_nil,false_implies,implies_true,and_true]
   refine ⟨?_,?_⟩
   ·refine ⟨_,rfl,?_⟩
    refine XE S #[] Tryd.underlying118 ty124 rfl rfl #[] (by as_aux_lemma=>kernel_rfl) (by as_aux_lemma=>kernel_rfl) rfl ?_
    intro b542 w543 E' S
    replace E:=E.trans E'
    replace S:=S.blk_row (r:=QY) (l:=([]:List Qj)) 0 rfl 0 (Nat.le_refl 0) rfl Cells.nil
    refine QB (YU ⟨.inr ⟨M,Hp.le_refl M,(S.pick [1,2] (by decide))⟩,?_⟩)
    exact hq508 _ _ ⟨([]:List Qj),(some ⟨b542,0,none⟩),0,H,⟨rfl,rfl,rfl,rfl,rfl,trivial⟩,E,S.pick [0,1,2] (by decide)⟩
   ·refine ⟨_,rfl,?_⟩
    refine XE S #[vI a1,vI x150,vU 1,vI (a0.Time)] Tryd.underlying118 ty124 rfl rfl cz19 (by as_aux_lemma=>kernel_rfl) (by as_aux_lemma=>kernel_rfl) rfl ?_
    intro b545 w546 E' S
    replace E:=E.trans E'
    replace S:=S.blk_row (r:=QY) (l:=([(⟨a1,x150,(1:Int),(a0.Time)⟩:Qj)]:List Qj)) 0 rfl 1 (Nat.le_refl 1) rfl (Cells.cons (vs:=[vI a1,vI x150,vU 1,vI (a0.Time)]) (rfl) Cells.nil)
    refine QB (YU ⟨.inr ⟨M,Hp.le_refl M,(S.pick [1,2] (by decide))⟩,?_⟩)
    exact hq509 _ _ ⟨([(⟨a1,x150,(1:Int),(a0.Time)⟩:Qj)]:List Qj),(some ⟨b545,0,none⟩),1,H,⟨rfl,rfl,rfl,rfl,trivial⟩,E,S.pick [0,1,2] (by decide)⟩
  rintro ρ w548 ⟨x426,x430,A427,c428,A431,c432,rfl,hρ,E,S⟩
  rw [QI hρ]
  have H:=o506H
  refine Wo 15 rfl ?_
  obtain ⟨p549,H⟩:=Yy H
  obtain ⟨src550,hs551,hC552⟩:=Y1 (P:=Tryd.prog) (ρ:=QY) (l:=x430) (S.row_read 0 rfl) (by decide)
  refine XL S 1 rfl rfl rfl Tryd.underlying118 (.inl Tryd.underlying118) ty124 rfl (by decide) (by decide) hs551 hC552 rfl (by omega) rfl ?_
  intro v553 w554 E' S
  replace E:=E.trans E'
  obtain ⟨A555,c556,rfl,_⟩:=(S.row_read 1 rfl).form
  refine QB (YU ⟨.inr ⟨M,Hp.le_refl M,(S.pick [2,3] (by decide))⟩,?_⟩)
  have D4:∃ Mx,Hp.le M Mx∧St _ Mx F [_,_]:=⟨_,Hp.le_refl _,S.pick [2,3] (by decide)⟩
  refine Wt 16 rfl rfl rfl (pt bo0 0) rfl (fun w' h'=>Qo rfl) D4 (Wt 17 rfl rfl rfl (pt bo0 8) rfl (fun w' h'=>QC (o:=0) (off:=8) Tryd.underlying121 rfl ty118 rfl rfl) D4 ?_)
  refine Wo 18 rfl ?_
  refine Qx S 2 rfl ty118 rfl rfl [.slice A555 (x426++x430).length c556] rfl rfl rfl #[vI a0.C.Tasks,vI a0.C.Active,vI a0.C.Keys,vI a0.C.Depth,vI a0.C.TS,vI a0.C.KeyLen,vI a0.C.ValLen,vI a0.C.Fan,.slice A555 (x426++x430).length c556,.slice A0_9 a0.L.length c0_9,vI a0.Time,vI a0.Low] rfl rfl ?_
  intro w557 E' S
  replace E:=E.trans E'
  refine QB (YU ⟨.inl (by decide),?_⟩)
  refine Wz ?_
  refine bn (tn ?_)
  as_aux_lemma =>
  refine QE (QA (W_v (.agg cz14) (Z3 (pl:=[(0,1),(1,1),(2,1),(3,1)]) cz14 Tryd.underlying43 ty43 (by as_aux_lemma=>kernel_rfl) rfl (by as_aux_lemma=>kernel_rfl)) rfl ?_))
  refine Qx S 3 rfl ty43 rfl rfl [vI 0,.bool false,vS ([]:Str),.slice none 0 0] rfl rfl rfl cz14 rfl rfl ?_
  intro w558 E' S
  replace E:=E.trans E'
  refine QB (tn ?_)
  refine Qs ?_
  obtain rfl:=Option.some.inj H
  obtain ⟨M559,hM560,hf561,S⟩:=S.row_freeze 1 rfl
  replace HM:=Hp.le_trans HM hM560
  replace hr0_9:=SlR.mono hr0_9 hM560
  replace S:=S.row_nil Qm 87
  exact ⟨_,_,_,fun w1 e1=>QX (vs:=[.agg #[vI 0,.bool false,vS ([]:Str),.slice none ([]:List Qf).length 0]]) (FA.cons (⟨_,rfl,Qn ty43 ((S.of_eq e1).blk 3 rfl) (QM rfl) rfl (by decide)⟩) (FA.nil)),HM,E,S.pick [0,2] (by decide),⟨none,0,A555,c556,A0_9,c0_9,rfl,hf561,hr0_9,rfl⟩⟩
 refine QK (congrArg Value.bool hb20) ?_
 as_aux_lemma =>
 refine QE (QA (W_v (.bool (a2.Kind==(2:Int))) (Qa rfl rfl rfl rfl) rfl (W_v (.bool (a2.Kind==(2:Int))) (QG rfl) rfl (QB (tn ?_)))))
 rcases Zf H with ⟨hb563,H⟩ | ⟨hb563,H⟩
 ·refine QQ (congrArg Value.bool hb563) ?_
  refine QE (QA (W_v (pt bo0 0) (QD rfl) rfl (W_v (vI t15.1) (QD rfl) rfl (W_v (pt bo0 0) (QD rfl) rfl (W_v (pt b1 2) (QC (o:=0) (off:=2) Tryd.underlying37 rfl ty9 rfl rfl) rfl (W_v (vS a2.Key) (QO (S.blk 2 rfl) ty9 rfl rfl) rfl ?_))))))
  obtain ⟨t564,ht565,H⟩:=QW H
  refine Yc fn61 (Zk.con k M A0_8 c0_8 A0_9 c0_9 a0 a2.Key bo0 t564 hr0_8 hr0_9 ht565) (Γ1:=[_]) (Γ2:=[_,_]) S rfl rfl ?_
  rintro _ w569 M570 Γ' hM571 E' S ⟨A566,c567,rfl,hs568,rfl⟩
  replace HM:=Hp.le_trans HM hM571
  replace hr0_8:=SlR.mono hr0_8 hM571
  replace hr0_9:=SlR.mono hr0_9 hM571
  replace E:=E.trans E'
  replace S:St w569 M570 F [_,_,_]:=S
  obtain ⟨t572,ht573,H⟩:=QW H
  refine Z5 fn60 (ZD.con k M570 A0_8 c0_8 A0_9 c0_9 a0 t15.1 A566 c567 t564 bo0 t572 hr0_8 hr0_9 hs568 ht573) (Γ1:=[_]) (Γ2:=[_,_]) S rfl rfl (by rintro _ _ _ ⟨rfl,rfl⟩;exact (QN ZW Qd)) ?_
  rintro _ w574 _ Γ' E' S ⟨rfl,rfl⟩
  replace E:=E.trans E'
  replace S:St w574 M570 F [_,_,_]:=S
  refine W_v (.tuple #[vS t572.1,.bool t572.2]) (QD rfl) rfl (W_v (vS t572.1) (ZB rfl rfl) rfl (W_v (.bool t572.2) (ZB rfl rfl) rfl (W_v (vS t572.1) (QG rfl) rfl (W_v (.bool t572.2) (QG rfl) rfl (QB (tn (QE (QA (W_v (.bool t572.2) (QD rfl) rfl (QB (tn ?_)))))))))))
  rcases Zf H with ⟨hb577,H⟩ | ⟨hb577,H⟩
  ·refine QQ (congrArg Value.bool hb577) ?_
   refine QE (QA (W_v (vS t572.1) (QD rfl) rfl (W_v (.agg #[vI 0,.bool true,vS t572.1,.slice none 0 0]) (Z3 (pl:=[(0,1),(1,1),(2,1),(3,1)]) #[vI 0,.bool true,vS t572.1,.slice none 0 0] Tryd.underlying43 ty43 (by as_aux_lemma=>kernel_rfl) rfl (by as_aux_lemma=>kernel_rfl)) rfl ?_)))
   refine Qx S 1 rfl ty43 rfl rfl [vI 0,.bool true,vS t572.1,.slice none 0 0] rfl rfl rfl #[vI 0,.bool true,vS t572.1,.slice none 0 0] rfl rfl ?_
   intro w578 E' S
   replace E:=E.trans E'
   refine QB (tn ?_)
   refine Qs ?_
   refine br (tr (?_))
   obtain rfl:=Option.some.inj H
   replace S:=S.row_nil Qm 87
   exact ⟨_,_,_,fun w1 e1=>QX (vs:=[.agg #[vI 0,.bool true,vS t572.1,.slice none ([]:List Qf).length 0]]) (FA.cons (⟨_,rfl,Qn ty43 ((S.of_eq e1).blk 2 rfl) (QM rfl) rfl (by decide)⟩) (FA.nil)),HM,E,S.pick [0,1] (by decide),⟨none,0,A0_8,c0_8,A0_9,c0_9,rfl,hr0_8,hr0_9,rfl⟩⟩
  refine QK (congrArg Value.bool hb577) (Qr (bn (tn (QE (QA (W_v (.agg cz14) (Z3 (pl:=[(0,1),(1,1),(2,1),(3,1)]) cz14 Tryd.underlying43 ty43 (by as_aux_lemma=>kernel_rfl) rfl (by as_aux_lemma=>kernel_rfl)) rfl ?_))))))
  refine Qx S 1 rfl ty43 rfl rfl [vI 0,.bool false,vS ([]:Str),.slice none 0 0] rfl rfl rfl cz14 rfl rfl ?_
  intro w580 E' S
  replace E:=E.trans E'
  refine QB (tn ?_)
  refine Qs ?_
  obtain rfl:=Option.some.inj H
  replace S:=S.row_nil Qm 87
  exact ⟨_,_,_,fun w1 e1=>QX (vs:=[.agg #[vI 0,.bool false,vS ([]:Str),.slice none ([]:List Qf).length 0]]) (FA.cons (⟨_,rfl,Qn ty43 ((S.of_eq e1).blk 2 rfl) (QM rfl) rfl (by decide)⟩) (FA.nil)),HM,E,S.pick [0,1] (by decide),⟨none,0,A0_8,c0_8,A0_9,c0_9,rfl,hr0_8,hr0_9,rfl⟩⟩
 refine QK (congrArg Value.bool hb563) ?_
 as_aux_lemma =>
 refine QE (QA (W_v (.bool (a2.Kind==(3:Int))) (Qa rfl rfl rfl rfl) rfl (W_v (.bool (a2.Kind==(3:Int))) (QG rfl) rfl (QB (tn ?_)))))
 rcases Zf H with ⟨hb582,H⟩ | ⟨hb582,H⟩
 ·refine QQ (congrArg Value.bool hb582) ?_
  refine QE (QA (W_v (pt bo0 0) (QD rfl) rfl (W_v (vI t15.1) (QD rfl) rfl (W_v (pt b1 2) (QC (o:=0) (off:=2) Tryd.underlying37 rfl ty9 rfl rfl) rfl (W_v (vS a2.Key) (QO (S.blk 2 rfl) ty9 rfl rfl) rfl (W_v (pt b1 4) (QC (o:=0) (off:=4) Tryd.underlying37 rfl ty9 rfl rfl) rfl (W_v (vS a2.Value) (QO (S.blk 2 rfl) ty9 rfl rfl) rfl ?_)))))))
  obtain ⟨t583,ht584,H⟩:=QW H
  refine Yc fn62 (Zl.con k M A0_8 c0_8 A0_9 c0_9 a0 t15.1 a2.Key a2.Value false bo0 t583 hr0_8 hr0_9 ht584) (Γ1:=[_]) (Γ2:=[_,_]) S rfl rfl ?_
  rintro _ w594 M595 Γ' hM596 E' S ⟨A585,c586,A588,c589,A591,c592,rfl,hs590,hs593,rfl⟩
  replace HM:=Hp.le_trans HM hM596
  replace E:=E.trans E'
  replace S:St w594 M595 F [_,_,_,_]:=S
  refine Qx S 2 rfl ty43 rfl rfl [vI t583.1.Err,.bool t583.1.Found,vS t583.1.Value,.slice A585 t583.1.Pairs.length c586] rfl rfl rfl #[vI t583.1.Err,.bool t583.1.Found,vS t583.1.Value,.slice A585 t583.1.Pairs.length c586] rfl rfl ?_
  intro w597 E' S
  replace E:=E.trans E'
  refine QB (tn ?_)
  refine Qs ?_
  refine br (tr (?_))
  obtain rfl:=Option.some.inj H
  exact ⟨_,_,_,fun w1 e1=>QX (vs:=[.agg #[vI t583.1.Err,.bool t583.1.Found,vS t583.1.Value,.slice A585 t583.1.Pairs.length c586]]) (FA.cons (⟨_,rfl,Qn ty43 ((S.of_eq e1).blk 2 rfl) (QM rfl) rfl (by decide)⟩) (FA.nil)),HM,E,S.pick [0,1] (by decide),⟨A585,c586,A588,c589,A591,c592,rfl,hs590,hs593,rfl⟩⟩
 refine QK (congrArg Value.bool hb582) (QE (QA (W_v (.bool (a2.Kind==(4:Int))) (Qa rfl rfl rfl rfl) rfl (W_v (.bool (a2.Kind==(4:Int))) (QG rfl) rfl (QB (tn ?_))))))
 rcases Zf H with ⟨hb598,H⟩ | ⟨hb598,H⟩
 ·refine QQ (congrArg Value.bool hb598) ?_
  refine QE (QA (W_v (pt bo0 0) (QD rfl) rfl (W_v (vI t15.1) (QD rfl) rfl (W_v (pt b1 2) (QC (o:=0) (off:=2) Tryd.underlying37 rfl ty9 rfl rfl) rfl (W_v (vS a2.Key) (QO (S.blk 2 rfl) ty9 rfl rfl) rfl ?_)))))
  obtain ⟨t599,ht600,H⟩:=QW H
  refine Yc fn62 (Zl.con k M A0_8 c0_8 A0_9 c0_9 a0 t15.1 a2.Key ([]:Str) true bo0 t599 hr0_8 hr0_9 ht600) (Γ1:=[_]) (Γ2:=[_,_]) S rfl rfl ?_
  rintro _ w610 M611 Γ' hM612 E' S ⟨A601,c602,A604,c605,A607,c608,rfl,hs606,hs609,rfl⟩
  replace HM:=Hp.le_trans HM hM612
  replace E:=E.trans E'
  replace S:St w610 M611 F [_,_,_,_]:=S
  refine Qx S 2 rfl ty43 rfl rfl [vI t599.1.Err,.bool t599.1.Found,vS t599.1.Value,.slice A601 t599.1.Pairs.length c602] rfl rfl rfl #[vI t599.1.Err,.bool t599.1.Found,vS t599.1.Value,.slice A601 t599.1.Pairs.length c602] rfl rfl ?_
  intro w613 E' S
  replace E:=E.trans E'
  refine QB (tn ?_)
  refine Qs ?_
  refine br (tr (?_))
  obtain rfl:=Option.some.inj H
  exact ⟨_,_,_,fun w1 e1=>QX (vs:=[.agg #[vI t599.1.Err,.bool t599.1.Found,vS t599.1.Value,.slice A601 t599.1.Pairs.length c602]]) (FA.cons (⟨_,rfl,Qn ty43 ((S.of_eq e1).blk 2 rfl) (QM rfl) rfl (by decide)⟩) (FA.nil)),HM,E,S.pick [0,1] (by decide),⟨A601,c602,A604,c605,A607,c608,rfl,hs606,hs609,rfl⟩⟩
 refine QK (congrArg Value.bool hb598) ?_
 as_aux_lemma =>
 refine QE (QA (W_v (.bool (a2.Kind==(5:Int))) (Qa rfl rfl rfl rfl) rfl (W_v (.bool (a2.Kind==(5:Int))) (QG rfl) rfl (QB (tn ?_)))))
 rcases Zf H with ⟨hb614,H⟩ | ⟨hb614,H⟩
 ·refine QQ (congrArg Value.bool hb614) ?_
  refine QE (QA (W_v (.slice none 0 0) (QG rfl) rfl (QB (tn (QE (QE (QA (W_v (vI 0) (QG rfl) rfl (QB (tn ?_))))))))))
  obtain ⟨o1752,o1752h,o1752H⟩:=QW H
  refine Yj (fun ρ w'=>∃ (x1748:List Qf) (A1749:Option Addr) (c1750:Nat),(x1748)=o1752∧Qi ρ [(6,pt b4 0),(15,.slice A1749 x1748.length c1750)]∧Ext w w'∧St w' M F [Row Qm 87 (.slice A1749 x1748.length c1750) x1748,B121 bo0 a0 A0_8 c0_8 A0_9 c0_9,Blk b4 (.cells cz14 43 (0,0))]) ?_ ?_
  ·skip
   refine Y3 (fun n ρ w'=>∃ (x1373:List Qf) (x1377:Int) (A1374:Option Addr) (c1375:Nat),ZU a0 a2 t15 n x1373 x1377=some o1752∧Qi ρ [(0,pt bo0 0),(5,pt b1 0),(6,pt b4 0),(8,vI t15.1),(15,.slice A1374 x1373.length c1375),(16,vI x1377)]∧Ext w w'∧St w' M F [Row Qm 87 (.slice A1374 x1373.length c1375) x1373,B121 bo0 a0 A0_8 c0_8 A0_9 c0_9,Blk b4 (.cells cz14 43 (0,0)),B37 b1 a2]) k ?_ ?_
   ·skip
    replace S:=S.row_nil Qm 87
    exact ⟨([]:List Qf),(0:Int),none,0,o1752h,⟨rfl,rfl,rfl,rfl,rfl,rfl,trivial⟩,E,S.pick [0,1,2,3] (by decide)⟩
   ·intro n
    rintro ρ w1754 ⟨x1373,x1377,A1374,c1375,H,hρ,E,S⟩
    rw [QI hρ]
    cases n with
    | zero=>cases H
    | succ k =>
     rw [ZU.eq_2] at H
     refine QE (QE (QA (W_v (vI x1377) (QD rfl) rfl (W_v (pt bo0 0) (QD rfl) rfl (W_v (pt bo0 0) (Qo rfl) rfl (W_v (pt bo0 9) (QC (o:=0) (off:=9) Tryd.underlying121 rfl ty119 rfl rfl) rfl (W_v (.slice A0_9 a0.L.length c0_9) (QO (S.blk 1 rfl) ty119 rfl rfl) rfl (W_v (vI (a0.L.length:Int)) (Q8 (n:=a0.L.length) Tryd.underlying119 rfl) rfl (W_v (.bool (decide (x1377 < (a0.L.length:Int)))) (Qa rfl rfl rfl rfl) rfl (W_v (.bool (decide (x1377 < (a0.L.length:Int)))) (QD rfl) rfl ?_))))))))))
     refine ZH 6 (fun ρ w'=>Qi ρ [(0,pt bo0 0),(5,pt b1 0),(6,pt b4 0),(8,vI t15.1),(15,.slice A1374 x1373.length c1375),(16,vI x1377),(134,.bool ((decide (x1377 < (a0.L.length:Int)))&&(decide ((x1373.length:Int) < a2.Limit))))]∧w1754=w') ?_ ?_
     ·rcases ZX (decide (x1377 < (a0.L.length:Int))) with hb1755 | hb1755
      ·skip
       refine QZ (skT hb1755) rfl (QZ (skT hb1755) rfl (QZ (skT hb1755) rfl (QZ (skT hb1755) rfl (QZ (skT hb1755) rfl (W_v (.bool false) (QV (k:=false) (congrArg Value.bool hb1755) rfl) rfl (QB ?_))))))
       exact ⟨⟨rfl,rfl,rfl,rfl,rfl,rfl,(by first | rfl | (rw [hb1755];rfl) | (simp only [hb1755];rfl)),trivial⟩,rfl⟩
      ·skip
       refine QP (congrArg some hb1755) (W_v (.slice A1374 x1373.length c1375) (QD rfl) rfl (QP (congrArg some hb1755) (W_v (vI (x1373.length:Int)) (Q8 (n:=x1373.length) Tryd.underlying41 rfl) rfl (QP (congrArg some hb1755) (W_v (pt b1 5) (QC (o:=0) (off:=5) Tryd.underlying37 rfl ty3 rfl rfl) rfl (QP (congrArg some hb1755) (W_v (vI a2.Limit) (QO (S.blk 3 rfl) ty3 rfl rfl) rfl (QP (congrArg some hb1755) (W_v (.bool (decide ((x1373.length:Int) < a2.Limit))) (Qa rfl rfl rfl rfl) rfl (W_v (.bool (decide ((x1373.length:Int) < a2.Limit))) (QV (k:=true) (congrArg Value.bool hb1755) rfl) rfl (QB ?_)))))))))))
       exact ⟨⟨rfl,rfl,rfl,rfl,rfl,rfl,(by first | rfl | (rw [hb1755];rfl) | (simp only [hb1755];rfl)),trivial⟩,rfl⟩
     as_aux_lemma =>
     rintro ρ _ ⟨hρ,rfl⟩
     rw [QI hρ]
     refine QB (tn ?_)
     rcases Zf H with ⟨hb1756,H⟩ | ⟨hb1756,H⟩
     ·refine QQ (congrArg Value.bool hb1756) ?_
      refine Qr (tn (QE ?_))
      obtain ⟨o1942,o1942h,o1942H⟩:=QW H
      refine Y7 (fun ρ w'=>∃ (x1938:List Qf) (A1939:Option Addr) (c1940:Nat),(x1938)=o1942∧Qi ρ [(0,pt bo0 0),(5,pt b1 0),(6,pt b4 0),(8,vI t15.1),(15,.slice A1939 x1938.length c1940),(16,vI x1377)]∧Ext w w'∧St w' M F [Row Qm 87 (.slice A1939 x1938.length c1940) x1938,B121 bo0 a0 A0_8 c0_8 A0_9 c0_9,Blk b4 (.cells cz14 43 (0,0)),B37 b1 a2]) ?_ ?_
      ·as_aux_lemma =>
        clear o1942H
        have H:=o1942h
        refine YP ?_
        refine QE (QA (W_v (pt bo0 0) (QD rfl) rfl (W_v (vI t15.1) (QD rfl) rfl (W_v (pt bo0 0) (QD rfl) rfl (W_v (pt bo0 0) (Qo rfl) rfl (W_v (pt bo0 9) (QC (o:=0) (off:=9) Tryd.underlying121 rfl ty119 rfl rfl) rfl (W_v (.slice A0_9 a0.L.length c0_9) (QO (S.blk 1 rfl) ty119 rfl rfl) rfl (W_v (vI x1377) (QD rfl) rfl ?_))))))))
        obtain ⟨⟨p1943,p1944⟩,H⟩:=Yy H
        obtain ⟨b1945,o1946,cs1947,_,_,ee1952,hb1948,vs1949,hR1950,hc1951⟩:=SlW.at' hr0_9 p1943 p1944
        obtain ⟨v1956,hs1955,rfl⟩:=hR1950
        obtain ⟨A1953,c1954,rfl,_⟩:=hs1955.form
        refine W_v (.pointer (some ⟨b1945,o1946+x1377.toNat*7,none⟩)) (Qy Tryd.underlying119 ty127 (slA ee1952) rfl p1943 p1944) rfl (W_v (.agg #[vS ((rd a0.L x1377).Key),.slice A1953 ((rd a0.L x1377).L).length c1954,.bool ((rd a0.L x1377).Has),vI ((rd a0.L x1377).I.Writer),vI ((rd a0.L x1377).I.TS),.bool ((rd a0.L x1377).I.Tomb),vS ((rd a0.L x1377).I.Value)]) (ZA (S.frz hb1948) ty127 rfl (Xa hc1951 0 rfl) rfl rfl) rfl ?_)
        obtain ⟨t1957,ht1958,H⟩:=QW H
        replace S:St w1754 M F [_,_,_,_]:=S.pick [1,0,2,3] (by decide)
        refine Z5 fn60 (ZD.con k M A0_8 c0_8 A0_9 c0_9 a0 t15.1 A1953 c1954 (rd a0.L x1377) bo0 t1957 hr0_8 hr0_9 hs1955 ht1958) (Γ1:=[_]) (Γ2:=[_,_,_]) S rfl rfl (by rintro _ _ _ ⟨rfl,rfl⟩;exact (QN ZW Qd)) ?_
        rintro _ w1959 _ Γ' E' S ⟨rfl,rfl⟩
        replace E:=E.trans E'
        replace S:St w1959 M F [_,_,_,_]:=S
        refine W_v (.tuple #[vS t1957.1,.bool t1957.2]) (QD rfl) rfl (W_v (vS t1957.1) (ZB rfl rfl) rfl (W_v (.bool t1957.2) (ZB rfl rfl) rfl (W_v (vS t1957.1) (QG rfl) rfl (W_v (.bool t1957.2) (QG rfl) rfl (QB (tn (QE ?_)))))))
        refine Q0 (S:=fun w'=>∃ Mx,M.le Mx∧St w' Mx F [B121 bo0 a0 A0_8 c0_8 A0_9 c0_9,Row Qm 87 (.slice A1374 x1373.length c1375) x1373,Blk b4 (.cells cz14 43 (0,0)),B37 b1 a2]) (L:=16) mixed ?_
        intro w2000 hw2001 E'
        replace S:=S.heap hw2001
        replace E:=E.trans E'
        have D5:∃ Mx,Hp.le M Mx∧St _ Mx F [_,_,_,_]:=⟨_,Hp.le_refl _,S.pick [0,1,2,3] (by decide)⟩
        refine Wt 0 rfl rfl rfl (.bool t1957.2) rfl (fun w' h'=>QD rfl) D5 (Wt 1 rfl rfl rfl (.bool t1957.2) rfl (fun w' h'=>QD rfl) D5 ?_)
        obtain ⟨o2021,o2021h,o2021H⟩:=QW H
        refine YD (fun ρ w'=>∃ (x2020:Bool),(x2020)=o2021∧Qi ρ [(0,pt bo0 0),(5,pt b1 0),(6,pt b4 0),(8,vI t15.1),(15,.slice A1374 x1373.length c1375),(16,vI x1377),(17,vS t1957.1),(165,.bool x2020)]∧Ext w w'∧St w' M F [B121 bo0 a0 A0_8 c0_8 A0_9 c0_9,Row Qm 87 (.slice A1374 x1373.length c1375) x1373,Blk b4 (.cells cz14 43 (0,0)),B37 b1 a2]) 0 (Ls 16 [0,1,2,3,4,5,6,7,8,9,10,11,12,13,14,15]) ?_ ?_
        rotate_left
        ·intro hrest
         have H:=o2021h
         rcases Zf H with ⟨hb2019,H⟩ | ⟨hb2019,H⟩
         ·skip
          have D6:∃ Mx,Hp.le M Mx∧St _ Mx F [_,_,_,_]:=⟨_,Hp.le_refl _,S.pick [0,1,2,3] (by decide)⟩
          refine WtY 2 rfl rfl rfl (pt bo0 0) rfl (congrArg some hb2019) (fun w' h'=>QD rfl) D6 (WtY 3 rfl rfl rfl (pt bo0 0) rfl (congrArg some hb2019) (fun w' h'=>Qo rfl) D6 (WtY 4 rfl rfl rfl (pt bo0 9) rfl (congrArg some hb2019) (fun w' h'=>QC (o:=0) (off:=9) Tryd.underlying121 rfl ty119 rfl rfl) D6 (WtY 5 rfl rfl rfl (.slice A0_9 a0.L.length c0_9) rfl (congrArg some hb2019) (fun w' h'=>QO (Qp h' 0 rfl) ty119 rfl rfl) D6 (WtY 6 rfl rfl rfl (vI x1377) rfl (congrArg some hb2019) (fun w' h'=>QD rfl) D6 ?_))))
          obtain ⟨⟨p2022,p2023⟩,H⟩:=Yy H
          obtain ⟨b2024,o2025,cs2026,_,_,ee2031,hb2027,vs2028,hR2029,hc2030⟩:=SlW.at' hr0_9 p2022 p2023
          obtain ⟨v2035,hs2034,rfl⟩:=hR2029
          obtain ⟨A2032,c2033,rfl,_⟩:=hs2034.form
          refine WtY 7 rfl rfl rfl (.pointer (some ⟨b2024,o2025+x1377.toNat*7,none⟩)) rfl (congrArg some hb2019) (fun w' h'=>Qy Tryd.underlying119 ty127 (slA ee2031) rfl p2022 p2023) D6 (WtY 8 rfl rfl rfl (.pointer (some ⟨b2024,o2025+x1377.toNat*7,none⟩)) rfl (congrArg some hb2019) (fun w' h'=>QC (o:=o2025+x1377.toNat*7) (off:=0) Tryd.underlying127 rfl ty9 rfl rfl) D6 (WtY 9 rfl rfl rfl (vS ((rd a0.L x1377).Key)) rfl (congrArg some hb2019) (fun w' h'=>QO (XG h' hb2027) ty9 rfl (hc2030 0 _ rfl)) D6 (WtY 10 rfl rfl rfl (pt b1 2) rfl (congrArg some hb2019) (fun w' h'=>QC (o:=0) (off:=2) Tryd.underlying37 rfl ty9 rfl rfl) D6 (WtY 11 rfl rfl rfl (vS a2.Key) rfl (congrArg some hb2019) (fun w' h'=>QO (Qp h' 3 rfl) ty9 rfl rfl) D6 (WtY 12 rfl rfl rfl (pt b1 3) rfl (congrArg some hb2019) (fun w' h'=>QC (o:=0) (off:=3) Tryd.underlying37 rfl ty9 rfl rfl) D6 (WtY 13 rfl rfl rfl (vS a2.End) rfl (congrArg some hb2019) (fun w' h'=>QO (Qp h' 3 rfl) ty9 rfl rfl) D6 ?_))))))
          refine Wo 14 rfl ?_
          refine QP (congrArg some hb2019) ?_
          obtain ⟨t2036,ht2037,H⟩:=QW H
          refine Zz fn42 (Yi.con k M ((rd a0.L x1377).Key) a2.Key a2.End t2036  ht2037) S rfl rfl (by rintro _ _ _ ⟨_,rfl⟩;exact Qd) ?_
          rintro _ w2038 _ Γ' E' S ⟨rfl,rfl⟩
          replace E:=E.trans E'
          refine QB (YU ⟨.inr ⟨M,Hp.le_refl M,(S.pick [0,1,2,3] (by decide))⟩,?_⟩)
          refine Wt 15 rfl rfl rfl (.bool t2036) rfl (fun w' h'=>QV (k:=true) (congrArg Value.bool hb2019) rfl) (⟨M,Hp.le_refl M,(S.pick [0,1,2,3] (by decide))⟩) ?_
          exact hrest _ _ ⟨t2036,Option.some.inj H,⟨rfl,rfl,rfl,rfl,rfl,rfl,rfl,rfl,trivial⟩,E,S.pick [0,1,2,3] (by decide)⟩
         ·skip
          have D8:∃ Mx,Hp.le M Mx∧St _ Mx F [_,_,_,_]:=⟨_,Hp.le_refl _,S.pick [0,1,2,3] (by decide)⟩
          refine WtN 2 rfl rfl rfl rfl (skT hb2019) D8 (WtN 3 rfl rfl rfl rfl (skT hb2019) D8 (WtN 4 rfl rfl rfl rfl (skT hb2019) D8 (WtN 5 rfl rfl rfl rfl (skT hb2019) D8 (WtN 6 rfl rfl rfl rfl (skT hb2019) D8 (WtN 7 rfl rfl rfl rfl (skT hb2019) D8 (WtN 8 rfl rfl rfl rfl (skT hb2019) D8 (WtN 9 rfl rfl rfl rfl (skT hb2019) D8 (WtN 10 rfl rfl rfl rfl (skT hb2019) D8 (WtN 11 rfl rfl rfl rfl (skT hb2019) D8 (WtN 12 rfl rfl rfl rfl (skT hb2019) D8 (WtN 13 rfl rfl rfl rfl (skT hb2019) D8 (WtN 14 rfl rfl rfl rfl (skT hb2019) D8 (Wt 15 rfl rfl rfl (.bool false) rfl (fun w' h'=>QV (k:=false) (congrArg Value.bool hb2019) rfl) D8 ?_)))))))))))))
          exact hrest _ _ ⟨false,Option.some.inj H,⟨rfl,rfl,rfl,rfl,rfl,rfl,rfl,rfl,trivial⟩,E,S.pick [0,1,2,3] (by decide)⟩
        rintro ρ w2039 ⟨x2020,rfl,hρ,E,S⟩
        rw [QI hρ]
        have H:=o2021H
        refine Wz ?_
        refine tn ?_
        obtain ⟨o2096,o2096h,o2096H⟩:=QW H
        refine Y7 (fun ρ w'=>∃ (x2092:List Qf) (A2093:Option Addr) (c2094:Nat),(x2092)=o2096∧Qi ρ [(0,pt bo0 0),(5,pt b1 0),(6,pt b4 0),(8,vI t15.1),(15,.slice A2093 x2092.length c2094),(16,vI x1377)]∧Ext w w'∧St w' M F [Row Qm 87 (.slice A2093 x2092.length c2094) x2092,B121 bo0 a0 A0_8 c0_8 A0_9 c0_9,Blk b4 (.cells cz14 43 (0,0)),B37 b1 a2]) ?_ ?_
        ·clear o2096H
         have H:=o2096h
         rcases Zf H with ⟨hb2097,H⟩ | ⟨hb2097,H⟩
         ·refine QQ (congrArg Value.bool hb2097) ?_
          refine QA (W_v (.slice A1374 x1373.length c1375) (QD rfl) rfl (W_v (pt bo0 0) (QD rfl) rfl (W_v (pt bo0 0) (Qo rfl) rfl (W_v (pt bo0 9) (QC (o:=0) (off:=9) Tryd.underlying121 rfl ty119 rfl rfl) rfl (W_v (.slice A0_9 a0.L.length c0_9) (QO (S.blk 0 rfl) ty119 rfl rfl) rfl (W_v (vI x1377) (QD rfl) rfl ?_))))))
          obtain ⟨⟨p2098,p2099⟩,H⟩:=Yy H
          obtain ⟨b2100,o2101,cs2102,_,_,ee2107,hb2103,vs2104,hR2105,hc2106⟩:=SlW.at' hr0_9 p2098 p2099
          obtain ⟨v2111,hs2110,rfl⟩:=hR2105
          obtain ⟨A2108,c2109,rfl,_⟩:=hs2110.form
          refine W_v (.pointer (some ⟨b2100,o2101+x1377.toNat*7,none⟩)) (Qy Tryd.underlying119 ty127 (slA ee2107) rfl p2098 p2099) rfl (W_v (.pointer (some ⟨b2100,o2101+x1377.toNat*7,none⟩)) (QC (o:=o2101+x1377.toNat*7) (off:=0) Tryd.underlying127 rfl ty9 rfl rfl) rfl (W_v (vS ((rd a0.L x1377).Key)) (QO (S.frz hb2103) ty9 rfl (hc2106 0 _ rfl)) rfl (W_v (vS t1957.1) (QD rfl) rfl (W_v (.agg #[vS ((rd a0.L x1377).Key),vS t1957.1]) (Z3 (pl:=[(0,1),(1,1)]) #[vS ((rd a0.L x1377).Key),vS t1957.1] Tryd.underlying87 ty87 (by as_aux_lemma=>kernel_rfl) rfl (by as_aux_lemma=>kernel_rfl)) rfl ?_))))
          refine XE S #[vS ((rd a0.L x1377).Key),vS t1957.1] Tryd.underlying41 ty87 rfl rfl #[vS ([]:Str),vS ([]:Str)] (by as_aux_lemma=>kernel_rfl) (by as_aux_lemma=>kernel_rfl) rfl ?_
          intro b2112 w2113 E' S
          replace E:=E.trans E'
          replace S:=S.blk_row (r:=Qm) (l:=([(⟨((rd a0.L x1377).Key),t1957.1⟩:Qf)]:List Qf)) 0 rfl 1 (Nat.le_refl 1) rfl (Cells.cons (vs:=[vS ((rd a0.L x1377).Key),vS t1957.1]) (rfl) Cells.nil)
          obtain ⟨p2115,H⟩:=Yy H
          obtain ⟨src2116,hs2117,hC2118⟩:=Y1 (P:=Tryd.prog) (ρ:=Qm) (l:=([(⟨((rd a0.L x1377).Key),t1957.1⟩:Qf)]:List Qf)) (S.row_read 0 rfl) (by decide)
          refine XL S 2 rfl rfl rfl Tryd.underlying41 (.inl Tryd.underlying41) ty87 rfl (by decide) (by decide) hs2117 hC2118 rfl (by omega) rfl ?_
          intro v2119 w2120 E' S
          replace E:=E.trans E'
          obtain ⟨A2121,c2122,rfl,_⟩:=(S.row_read 2 rfl).form
          refine W_v (.slice A2121 (x1373++([(⟨((rd a0.L x1377).Key),t1957.1⟩:Qf)]:List Qf)).length c2122) (QG rfl) rfl (QB (tn ?_))
          exact ⟨(x1373++([(⟨((rd a0.L x1377).Key),t1957.1⟩:Qf)]:List Qf)),A2121,c2122,Option.some.inj H,⟨rfl,rfl,rfl,rfl,rfl,rfl,trivial⟩,E,S.pick [2,1,3,4] (by decide)⟩
         refine QK (congrArg Value.bool hb2097) (Qr (tn ?_))
         exact ⟨x1373,A1374,c1375,Option.some.inj H,⟨rfl,rfl,rfl,rfl,rfl,rfl,trivial⟩,E,S.pick [1,0,2,3] (by decide)⟩
        rintro ρ w2123 ⟨x2092,A2093,c2094,rfl,hρ,E,S⟩
        rw [QI hρ]
        have H:=o2096H
        refine bn (tn ?_)
        exact ⟨x2092,A2093,c2094,Option.some.inj H,⟨rfl,rfl,rfl,rfl,rfl,rfl,trivial⟩,E,S.pick [0,1,2,3] (by decide)⟩
      rintro ρ w2124 ⟨x1938,A1939,c1940,rfl,hρ,E,S⟩
      rw [QI hρ]
      have H:=o1942H
      refine tn (QA (W_v (vI x1377) (QD rfl) rfl (W_v (vI (IntKind.i64.wrap (x1377+(1:Int)))) (Qa rfl rfl rfl rfl) rfl (W_v (vI (IntKind.i64.wrap (x1377+(1:Int)))) (QG rfl) rfl (QB (tn ?_))))))
      exact ⟨k,Nat.lt_succ_self k,⟨x1938,(IntKind.i64.wrap (x1377+(1:Int))),A1939,c1940,H,⟨rfl,rfl,rfl,rfl,rfl,rfl,trivial⟩,E,S.pick [0,1,2,3] (by decide)⟩⟩
     refine QK (congrArg Value.bool hb1756) ?_
     refine Y0 ?_
     refine tx (tx (bsm (?_)))
     refine tn ?_
     exact ⟨x1373,A1374,c1375,Option.some.inj H,⟨rfl,rfl,trivial⟩,E,S.pick [0,1,2] (by decide)⟩
  rintro ρ w2125 ⟨x1748,A1749,c1750,rfl,hρ,E,S⟩
  rw [QI hρ]
  have H:=o1752H
  refine tn ?_
  as_aux_lemma =>
  refine QE (QA (W_v (.slice A1749 x1748.length c1750) (QD rfl) rfl (W_v (.agg #[vI 0,.bool false,vS ([]:Str),.slice A1749 x1748.length c1750]) (Z3 (pl:=[(0,1),(1,1),(2,1),(3,1)]) #[vI 0,.bool false,vS ([]:Str),.slice A1749 x1748.length c1750] Tryd.underlying43 ty43 (by as_aux_lemma=>kernel_rfl) rfl (by as_aux_lemma=>kernel_rfl)) rfl ?_)))
  refine Qx S 2 rfl ty43 rfl rfl [vI 0,.bool false,vS ([]:Str),.slice A1749 x1748.length c1750] rfl rfl rfl #[vI 0,.bool false,vS ([]:Str),.slice A1749 x1748.length c1750] rfl rfl ?_
  intro w2126 E' S
  replace E:=E.trans E'
  refine QB (tn ?_)
  refine Qs ?_
  refine br (tr (?_))
  obtain rfl:=Option.some.inj H
  exact ⟨_,_,_,fun w1 e1=>QX (vs:=[.agg #[vI 0,.bool false,vS ([]:Str),.slice A1749 x1748.length c1750]]) (FA.cons (⟨_,rfl,Qn ty43 ((S.of_eq e1).blk 2 rfl) (QM rfl) rfl (by decide)⟩) (FA.nil)),HM,E,S.pick [0,1] (by decide),⟨A1749,c1750,A0_8,c0_8,A0_9,c0_9,rfl,hr0_8,hr0_9,rfl⟩⟩
 refine QK (congrArg Value.bool hb614) ?_
 as_aux_lemma =>
 refine QE (QA (W_v (.bool (a2.Kind==(6:Int))) (Qa rfl rfl rfl rfl) rfl (W_v (.bool (a2.Kind==(6:Int))) (QG rfl) rfl (QB (tn ?_)))))
 rcases Zf H with ⟨hb2127,H⟩ | ⟨hb2127,H⟩
 ·refine QQ (congrArg Value.bool hb2127) ?_
  refine QE (QA (W_v (pt bo0 0) (QD rfl) rfl (W_v (vI t15.1) (QD rfl) rfl ?_)))
  obtain ⟨t2128,ht2129,H⟩:=QW H
  refine Yc fn63 (Zv.con k M A0_8 c0_8 A0_9 c0_9 a0 t15.1 bo0 t2128 hr0_8 hr0_9 ht2129) (Γ1:=[_]) (Γ2:=[_,_]) S rfl rfl ?_
  rintro _ w2139 M2140 Γ' hM2141 E' S ⟨A2130,c2131,A2133,c2134,A2136,c2137,rfl,hs2138,rfl⟩
  replace HM:=Hp.le_trans HM hM2141
  replace E:=E.trans E'
  replace S:St w2139 M2140 F [_,_,_,_,_]:=S
  refine Qx S 3 rfl ty43 rfl rfl [vI t2128.1.Err,.bool t2128.1.Found,vS t2128.1.Value,.slice A2130 t2128.1.Pairs.length c2131] rfl rfl rfl #[vI t2128.1.Err,.bool t2128.1.Found,vS t2128.1.Value,.slice A2130 t2128.1.Pairs.length c2131] rfl rfl ?_
  intro w2142 E' S
  replace E:=E.trans E'
  refine QB (tn ?_)
  refine Qs ?_
  refine br (tr (?_))
  obtain rfl:=Option.some.inj H
  obtain ⟨M2143,hM2144,hf2145,S⟩:=S.row_freeze 2 rfl
  replace HM:=Hp.le_trans HM hM2144
  replace hs2138:=SlR.mono hs2138 hM2144
  exact ⟨_,_,_,fun w1 e1=>QX (vs:=[.agg #[vI t2128.1.Err,.bool t2128.1.Found,vS t2128.1.Value,.slice A2130 t2128.1.Pairs.length c2131]]) (FA.cons (⟨_,rfl,Qn ty43 ((S.of_eq e1).blk 2 rfl) (QM rfl) rfl (by decide)⟩) (FA.nil)),HM,E,S.pick [0,1] (by decide),⟨A2130,c2131,A2133,c2134,A2136,c2137,rfl,hf2145,hs2138,rfl⟩⟩
 refine QK (congrArg Value.bool hb2127) (QE (QA (W_v (.bool (a2.Kind==(7:Int))) (Qa rfl rfl rfl rfl) rfl (W_v (.bool (a2.Kind==(7:Int))) (QG rfl) rfl (QB (tn ?_))))))
 obtain ⟨o2273,o2273h,o2273H⟩:=QW H
 refine Y7 (fun ρ w'=>∃ (x2266:QH) (A2267:Option Addr) (c2268:Nat) (A2270:Option Addr) (c2271:Nat) (Mj:Hp),(x2266)=o2273∧Qi ρ [(6,pt b4 0)]∧M.le Mj∧Ext w w'∧St w' Mj F [B121 bo0 x2266 A2267 c2268 A2270 c2271,Blk b4 (.cells cz14 43 (0,0))]∧SlR QY Mj (.slice A2267 x2266.T.length c2268) x2266.T∧SlR QU Mj (.slice A2270 x2266.L.length c2271) x2266.L) ?_ ?_
 ·as_aux_lemma =>
   clear o2273H
   have H:=o2273h
   have LE2274:=Hp.le_refl M
   rcases Zf H with ⟨hb2275,H⟩ | ⟨hb2275,H⟩
   ·refine QQ (congrArg Value.bool hb2275) ?_
    refine QA (W_v (pt bo0 0) (QD rfl) rfl (W_v (vI t15.1) (QD rfl) rfl ?_))
    obtain ⟨t2276,ht2277,H⟩:=QW H
    refine Yc fn64 (Q7.con k M A0_8 c0_8 A0_9 c0_9 a0 t15.1 (4:Int) (0:Int) bo0 t2276 hr0_8 hr0_9 ht2277) (Γ1:=[_]) (Γ2:=[_,_]) S rfl rfl ?_
    rintro _ w2284 M2285 Γ' hM2286 E' S ⟨A2278,c2279,A2281,c2282,rfl,hs2283,rfl⟩
    replace HM:=Hp.le_trans HM hM2286
    replace LE2274:=Hp.le_trans LE2274 hM2286
    replace E:=E.trans E'
    replace S:St w2284 M2285 F [_,_,_,_]:=S
    refine QB (tn ?_)
    obtain ⟨M2287,hM2288,hf2289,S⟩:=S.row_freeze 1 rfl
    replace HM:=Hp.le_trans HM hM2288
    replace LE2274:=Hp.le_trans LE2274 hM2288
    replace hs2283:=SlR.mono hs2283 hM2288
    exact ⟨t2276,A2278,c2279,A2281,c2282,M2287,Option.some.inj H,⟨rfl,trivial⟩,LE2274,E,S.pick [0,1] (by decide),hf2289,hs2283⟩
   refine QK (congrArg Value.bool hb2275) (QE (QA (W_v (.bool (a2.Kind==(8:Int))) (Qa rfl rfl rfl rfl) rfl (W_v (.bool (a2.Kind==(8:Int))) (QG rfl) rfl (QB (tn ?_))))))
   obtain ⟨o2321,o2321h,o2321H⟩:=QW H
   refine Y7 (fun ρ w'=>∃ (x2314:QH) (A2315:Option Addr) (c2316:Nat) (A2318:Option Addr) (c2319:Nat) (Mj:Hp),(x2314)=o2321∧Qi ρ [(6,pt b4 0)]∧M.le Mj∧Ext w w'∧St w' Mj F [B121 bo0 x2314 A2315 c2316 A2318 c2319,Blk b4 (.cells cz14 43 (0,0))]∧SlR QY Mj (.slice A2315 x2314.T.length c2316) x2314.T∧SlR QU Mj (.slice A2318 x2314.L.length c2319) x2314.L) ?_ ?_
   ·clear o2321H
    have H:=o2321h
    rcases Zf H with ⟨hb2322,H⟩ | ⟨hb2322,H⟩
    ·refine QQ (congrArg Value.bool hb2322) ?_
     refine QA (W_v (pt bo0 0) (QD rfl) rfl ?_)
     obtain ⟨t2323,ht2324,H⟩:=QW H
     refine Yc fn65 (Zn.con k M A0_8 c0_8 A0_9 c0_9 a0 bo0 t2323 hr0_8 hr0_9 ht2324) (Γ1:=[_]) (Γ2:=[_,_]) S rfl rfl ?_
     rintro _ w2331 M2332 Γ' hM2333 E' S ⟨A2325,c2326,A2328,c2329,rfl,hs2327,hs2330,rfl⟩
     replace HM:=Hp.le_trans HM hM2333
     replace LE2274:=Hp.le_trans LE2274 hM2333
     replace E:=E.trans E'
     replace S:St w2331 M2332 F [_,_,_]:=S
     refine QB (tn ?_)
     exact ⟨t2323,A2325,c2326,A2328,c2329,M2332,Option.some.inj H,⟨rfl,trivial⟩,LE2274,E,S.pick [0,1] (by decide),hs2327,hs2330⟩
    refine QK (congrArg Value.bool hb2322) (Qr (tn ?_))
    exact ⟨a0,A0_8,c0_8,A0_9,c0_9,M,Option.some.inj H,⟨rfl,trivial⟩,(Hp.le_refl M),E,S.pick [0,1] (by decide),hr0_8,hr0_9⟩
   rintro ρ w2334 ⟨x2314,A2315,c2316,A2318,c2319,M2335,rfl,hρ,hM2336,E,S,hs2317,hs2320⟩
   rw [QI hρ]
   replace HM:=Hp.le_trans HM hM2336
   have H:=o2321H
   refine tn ?_
   exact ⟨x2314,A2315,c2316,A2318,c2319,M2335,Option.some.inj H,⟨rfl,trivial⟩,hM2336,E,S.pick [0,1] (by decide),hs2317,hs2320⟩
 rintro ρ w2337 ⟨x2266,A2267,c2268,A2270,c2271,M2338,rfl,hρ,hM2339,E,S,hs2269,hs2272⟩
 rw [QI hρ]
 replace HM:=Hp.le_trans HM hM2339
 have H:=o2273H
 refine bn (tn ?_)
 as_aux_lemma =>
 refine QE (QA (W_v (.agg cz14) (Z3 (pl:=[(0,1),(1,1),(2,1),(3,1)]) cz14 Tryd.underlying43 ty43 (by as_aux_lemma=>kernel_rfl) rfl (by as_aux_lemma=>kernel_rfl)) rfl ?_))
 refine Qx S 1 rfl ty43 rfl rfl [vI 0,.bool false,vS ([]:Str),.slice none 0 0] rfl rfl rfl cz14 rfl rfl ?_
 intro w2340 E' S
 replace E:=E.trans E'
 refine QB (tn ?_)
 refine Qs ?_
 obtain rfl:=Option.some.inj H
 replace S:=S.row_nil Qm 87
 exact ⟨_,_,_,fun w1 e1=>QX (vs:=[.agg #[vI 0,.bool false,vS ([]:Str),.slice none ([]:List Qf).length 0]]) (FA.cons (⟨_,rfl,Qn ty43 ((S.of_eq e1).blk 2 rfl) (QM rfl) rfl (by decide)⟩) (FA.nil)),HM,E,S.pick [0,1] (by decide),⟨none,0,A2267,c2268,A2270,c2271,rfl,hs2269,hs2272,rfl⟩⟩
def Ze (a0:QJ) (t1:(List Str)):Nat→Int→Int→Option ((Int))
 | 0,_,_=>none
 | k+1,x95,x96=>(if (decide (x96 < (t1.length:Int)))=true then (if 0≤x96∧x96 < (t1.length:Int) then Ze a0 t1 k (IntKind.i64.wrap (x95+(IntKind.i64.wrap (((((mget a0.rows (rd t1 x96)).getD cz18).l).length:Int)+(imin (1:Int) (((mget a0.rows (rd t1 x96)).getD cz18).intent.Writer)))))) (IntKind.i64.wrap (x96+(1:Int))) else none) else some (x95))
theorem Ze.mono {a0:QJ} {t1:(List Str)}:∀ {kl:Nat} {x0 x1},OLe (Ze a0 t1 kl x0 x1) (Ze a0 t1 (kl+1) x0 x1):=by
 intro kl
 induction kl with
 | zero=>intros;exact OLe.none
 | succ kl ih =>
  intros
  rw [Ze.eq_2,Ze.eq_2]
  exact mo
def YO (k:Nat) (a0:QJ):Option (Int) :=
 (Option.bind (ZR k a0) (fun t1=>(Option.bind (Ze a0 t1 k (0:Int) (0:Int)) (fun x138=>some x138))))
theorem YO.mono {k:Nat} {a0:QJ}:OLe (YO k a0) (YO (k+1) a0):=by
 unfold YO
 have m1:=@ZR.mono
 have m2:=@Ze.mono
 exact mo
theorem YO.con (k:Nat) (M:Hp) (A0_8:Option Addr) (c0_8:Nat) (A0_9:Option Addr) (c0_9:Nat) (A0_10:Option Addr) (c0_10:Nat) (A0_11:Option Addr) (c0_11:Nat) (vs0_11:List (Str×Value)) (a0:QJ) (bo0:Nat) (r:Int) (hm0_11:YV Qk M a0.rows vs0_11) (h:YO k a0=some r):Con Tryd.prog 22 #[pt bo0 0] M [B94 bo0 a0 A0_8 A0_9 A0_10 c0_10 A0_11,QT QF (Value.int .i64) A0_8 a0.names,QT (Value.int .i64) (Value.int .i64) A0_9 a0.many,Row QL 99 (.slice A0_10 a0.txs.length c0_10) a0.txs,QT encS (fun v:Value=>v) A0_11 vs0_11] (fun v M' Γ'=>v=vI r∧Γ'=[B94 bo0 a0 A0_8 A0_9 A0_10 c0_10 A0_11,QT QF (Value.int .i64) A0_8 a0.names,QT (Value.int .i64) (Value.int .i64) A0_9 a0.many,Row QL 99 (.slice A0_10 a0.txs.length c0_10) a0.txs,QT encS (fun v:Value=>v) A0_11 vs0_11]):=by
 refine Qt Tryd.func22 rfl Tryd.ntmps22 Tryd.results22 rfl ?_
 intro w F rn S hrn
 have E:=Ext.refl w
 have HM:=Hp.le_refl M
 have H:=h
 unfold YO at H
 refine QE (QA (W_v (vI 0) (QG rfl) rfl (QB (tn (QE (QA (W_v (vI 0) (QG rfl) rfl (QB (tn (QE (QE (QA (W_v (pt bo0 0) (QD rfl) rfl ?_)))))))))))))
 obtain ⟨t1,ht2,H⟩:=QW H
 refine Z5 fn27 (ZR.con k M A0_8 c0_8 A0_9 c0_9 A0_10 c0_10 A0_11 c0_11 vs0_11 a0 bo0 t1 hm0_11 ht2) (Γ1:=[_,_,_,_,_]) (Γ2:=[]) S rfl rfl (by rintro _ _ _ ⟨_,_,rfl,rfl⟩;exact (QN (YI (fun _ _ _ _ h=>h)) (QN ZW (QN Qu (QN Qu (QN (YI (fun _ _ _ _ h=>h)) (QN Qu Qd))))))) ?_
 rintro _ w6 _ Γ' E' S ⟨A3,c4,rfl,rfl⟩
 replace E:=E.trans E'
 replace S:St w6 M F [_,_,_,_,_,_]:=S
 refine W_v (vI (t1.length:Int)) (Q8 (n:=t1.length) Tryd.underlying67 rfl) rfl (W_v (vI 0) (QD rfl) rfl (QB (tn ?_)))
 obtain ⟨o139,o139h,o139H⟩:=QW H
 refine Yj (fun ρ w'=>∃ (x138:Int),(x138)=o139∧Qi ρ [(3,vI x138)]∧Ext w w'∧St w' M F [B94 bo0 a0 A0_8 A0_9 A0_10 c0_10 A0_11,QT QF (Value.int .i64) A0_8 a0.names,QT (Value.int .i64) (Value.int .i64) A0_9 a0.many,Row QL 99 (.slice A0_10 a0.txs.length c0_10) a0.txs,QT encS (fun v:Value=>v) A0_11 vs0_11]) ?_ ?_
 ·skip
  refine Y3 (fun n ρ w'=>∃ (x95:Int) (x96:Int),Ze a0 t1 n x95 x96=some o139∧Qi ρ [(0,pt bo0 0),(3,vI x95),(7,.slice A3 t1.length c4),(8,vI (t1.length:Int)),(9,vI x96)]∧Ext w w'∧St w' M F [Row rStr 9 (.slice A3 t1.length c4) t1,B94 bo0 a0 A0_8 A0_9 A0_10 c0_10 A0_11,QT QF (Value.int .i64) A0_8 a0.names,QT (Value.int .i64) (Value.int .i64) A0_9 a0.many,Row QL 99 (.slice A0_10 a0.txs.length c0_10) a0.txs,QT encS (fun v:Value=>v) A0_11 vs0_11]) k ?_ ?_
  ·skip
   exact ⟨(0:Int),(0:Int),o139h,⟨rfl,rfl,rfl,rfl,rfl,trivial⟩,E,S.pick [0,1,2,3,4,5] (by decide)⟩
  ·intro n
   rintro ρ w140 ⟨x95,x96,H,hρ,E,S⟩
   rw [QI hρ]
   cases n with
   | zero=>cases H
   | succ k =>
    rw [Ze.eq_2] at H
    refine QE (QA (W_v (.bool (decide (x96 < (t1.length:Int)))) (Qa rfl rfl rfl rfl) rfl (QB (tn (QE ?_)))))
    rcases Zf H with ⟨hb141,H⟩ | ⟨hb141,H⟩
    ·refine QQ (congrArg Value.bool hb141) ?_
     refine Qr (tn (QE ?_))
     refine YP ?_
     refine QE (QA ?_)
     obtain ⟨⟨p142,p143⟩,H⟩:=Yy H
     obtain ⟨b144,o145,cs146,_,_,ee151,hb147,vs148,hR149,hc150⟩:=SlW.at' (S.row_read 0 rfl) p142 p143
     obtain rfl:vs148=_:=hR149
     refine W_v (.pointer (some ⟨b144,o145+x96.toNat*1,none⟩)) (Qy Tryd.underlying67 ty9 (slA ee151) rfl p142 p143) rfl (W_v (vS (rd t1 x96)) (QO (Hp.of_get hb147) ty9 rfl (hc150 0 _ rfl)) rfl (W_v (vS (rd t1 x96)) (QG rfl) rfl (QB (tn ?_))))
     refine Q0 (S:=fun w'=>∃ Mx,M.le Mx∧St w' Mx F [Row rStr 9 (.slice A3 t1.length c4) t1,B94 bo0 a0 A0_8 A0_9 A0_10 c0_10 A0_11,QT QF (Value.int .i64) A0_8 a0.names,QT (Value.int .i64) (Value.int .i64) A0_9 a0.many,Row QL 99 (.slice A0_10 a0.txs.length c0_10) a0.txs,QT encS (fun v:Value=>v) A0_11 vs0_11]) (L:=21) mixed ?_
     intro w166 hw167 E'
     replace S:=S.heap hw167
     replace E:=E.trans E'
     have D1:∃ Mx,Hp.le M Mx∧St _ Mx F [_,_,_,_,_,_]:=⟨_,Hp.le_refl _,S.pick [0,1,2,3,4,5] (by decide)⟩
     refine Wt 0 rfl rfl rfl (vI x95) rfl (fun w' h'=>QD rfl) D1 (Wt 1 rfl rfl rfl (pt bo0 0) rfl (fun w' h'=>QD rfl) D1 (Wt 2 rfl rfl rfl (pt bo0 0) rfl (fun w' h'=>Qo rfl) D1 (Wt 3 rfl rfl rfl (pt bo0 11) rfl (fun w' h'=>QC (o:=0) (off:=11) Tryd.underlying94 rfl ty91 rfl rfl) D1 (Wt 4 rfl rfl rfl (.map (mb A0_11)) rfl (fun w' h'=>QO (Qp h' 1 rfl) ty91 rfl rfl) D1 (Wt 5 rfl rfl rfl (vS (rd t1 x96)) rfl (fun w' h'=>QD rfl) D1 ?_)))))
     obtain ⟨cs168,hR169,he170⟩:=hm0_11.get (rd t1 x96) (z:=cz18) (zc:=[.slice none 0 0,vI 0,vI 0,.bool false,vS ([]:Str)]) ⟨_,SlW.nil _ _,rfl⟩
     obtain ⟨v174,hs173,rfl⟩:=hR169
     obtain ⟨A171,c172,rfl,_⟩:=hs173.form
     refine Wt 6 rfl rfl rfl (.agg #[.slice A171 (((mget a0.rows (rd t1 x96)).getD cz18).l).length c172,vI (((mget a0.rows (rd t1 x96)).getD cz18).intent.Writer),vI (((mget a0.rows (rd t1 x96)).getD cz18).intent.TS),.bool (((mget a0.rows (rd t1 x96)).getD cz18).intent.Tomb),vS (((mget a0.rows (rd t1 x96)).getD cz18).intent.Value)]) rfl (fun w' h'=>Exists.elim h' fun Mx h9=>(Eq.trans (Xj h9.2 5 rfl Tryd.underlying91 key9 (Value.agg cz9) (fun _=>ty101.zero) (rd t1 x96) rfl rfl) (by rw [show (mget vs0_11 (rd t1 x96)).getD (Value.agg cz9)=_ from he170]))) D1 (Wt 7 rfl rfl rfl (.slice A171 (((mget a0.rows (rd t1 x96)).getD cz18).l).length c172) rfl (fun w' h'=>Un Tryd.underlying101 rfl rfl ty65 rfl) D1 (Wt 8 rfl rfl rfl (vI ((((mget a0.rows (rd t1 x96)).getD cz18).l).length:Int)) rfl (fun w' h'=>Q8 (n:=(((mget a0.rows (rd t1 x96)).getD cz18).l).length) Tryd.underlying65 rfl) D1 (Wt 9 rfl rfl rfl (pt bo0 0) rfl (fun w' h'=>QD rfl) D1 (Wt 10 rfl rfl rfl (pt bo0 0) rfl (fun w' h'=>Qo rfl) D1 (Wt 11 rfl rfl rfl (pt bo0 11) rfl (fun w' h'=>QC (o:=0) (off:=11) Tryd.underlying94 rfl ty91 rfl rfl) D1 (Wt 12 rfl rfl rfl (.map (mb A0_11)) rfl (fun w' h'=>QO (Qp h' 1 rfl) ty91 rfl rfl) D1 (Wt 13 rfl rfl rfl (vS (rd t1 x96)) rfl (fun w' h'=>QD rfl) D1 ?_)))))))
     obtain ⟨cs175,hR176,he177⟩:=hm0_11.get (rd t1 x96) (z:=cz18) (zc:=[.slice none 0 0,vI 0,vI 0,.bool false,vS ([]:Str)]) ⟨_,SlW.nil _ _,rfl⟩
     obtain ⟨v181,hs180,rfl⟩:=hR176
     obtain ⟨A178,c179,rfl,_⟩:=hs180.form
     refine Wt 14 rfl rfl rfl (.agg #[.slice A178 (((mget a0.rows (rd t1 x96)).getD cz18).l).length c179,vI (((mget a0.rows (rd t1 x96)).getD cz18).intent.Writer),vI (((mget a0.rows (rd t1 x96)).getD cz18).intent.TS),.bool (((mget a0.rows (rd t1 x96)).getD cz18).intent.Tomb),vS (((mget a0.rows (rd t1 x96)).getD cz18).intent.Value)]) rfl (fun w' h'=>Exists.elim h' fun Mx h9=>(Eq.trans (Xj h9.2 5 rfl Tryd.underlying91 key9 (Value.agg cz9) (fun _=>ty101.zero) (rd t1 x96) rfl rfl) (by rw [show (mget vs0_11 (rd t1 x96)).getD (Value.agg cz9)=_ from he177]))) D1 (Wt 15 rfl rfl rfl (.agg #[vI (((mget a0.rows (rd t1 x96)).getD cz18).intent.Writer),vI (((mget a0.rows (rd t1 x96)).getD cz18).intent.TS),.bool (((mget a0.rows (rd t1 x96)).getD cz18).intent.Tomb),vS (((mget a0.rows (rd t1 x96)).getD cz18).intent.Value)]) rfl (fun w' h'=>UA Tryd.underlying101 rfl rfl ty61 rfl) D1 (Wt 16 rfl rfl rfl (vI (((mget a0.rows (rd t1 x96)).getD cz18).intent.Writer)) rfl (fun w' h'=>Un Tryd.underlying61 rfl rfl ty3 rfl) D1 (Wt 17 rfl rfl rfl (vI (imin (1:Int) (((mget a0.rows (rd t1 x96)).getD cz18).intent.Writer))) rfl (fun w' h'=>V9 rfl rfl) D1 (Wt 18 rfl rfl rfl (vI (IntKind.i64.wrap (((((mget a0.rows (rd t1 x96)).getD cz18).l).length:Int)+(imin (1:Int) (((mget a0.rows (rd t1 x96)).getD cz18).intent.Writer))))) rfl (fun w' h'=>Qa rfl rfl rfl rfl) D1 (Wt 19 rfl rfl rfl (vI (IntKind.i64.wrap (x95+(IntKind.i64.wrap (((((mget a0.rows (rd t1 x96)).getD cz18).l).length:Int)+(imin (1:Int) (((mget a0.rows (rd t1 x96)).getD cz18).intent.Writer))))))) rfl (fun w' h'=>Qa rfl rfl rfl rfl) D1 (Wt 20 rfl rfl rfl (vI (IntKind.i64.wrap (x95+(IntKind.i64.wrap (((((mget a0.rows (rd t1 x96)).getD cz18).l).length:Int)+(imin (1:Int) (((mget a0.rows (rd t1 x96)).getD cz18).intent.Writer))))))) rfl (fun w' h'=>QG rfl) D1 ?_))))))
     refine Wz ?_
     refine bn (tn (QA (W_v (vI (IntKind.i64.wrap (x96+(1:Int)))) (Qa rfl rfl rfl rfl) rfl (W_v (vI (IntKind.i64.wrap (x96+(1:Int)))) (QD rfl) rfl (QB (tn ?_))))))
     exact ⟨k,Nat.lt_succ_self k,⟨(IntKind.i64.wrap (x95+(IntKind.i64.wrap (((((mget a0.rows (rd t1 x96)).getD cz18).l).length:Int)+(imin (1:Int) (((mget a0.rows (rd t1 x96)).getD cz18).intent.Writer)))))),(IntKind.i64.wrap (x96+(1:Int))),H,⟨rfl,rfl,rfl,rfl,rfl,trivial⟩,E,S.pick [0,1,2,3,4,5] (by decide)⟩⟩
    refine QK (congrArg Value.bool hb141) ?_
    refine Y0 ?_
    refine tx (tx (bsm (?_)))
    refine tn ?_
    exact ⟨x95,Option.some.inj H,⟨rfl,trivial⟩,E,S.pick [1,2,3,4,5] (by decide)⟩
 rintro ρ w182 ⟨x138,rfl,hρ,E,S⟩
 rw [QI hρ]
 have H:=o139H
 refine tn ?_
 as_aux_lemma =>
 refine QE (QA (W_v (vI x138) (QD rfl) rfl (W_v (vI x138) (QG rfl) rfl (QB (tn ?_)))))
 refine Qs ?_
 obtain rfl:=Option.some.inj H
 exact ⟨_,_,_,fun w1 e1=>QX (vs:=[vI x138]) (FA.cons (rfl) (FA.nil)),HM,E,S.pick [0,1,2,3,4] (by decide),⟨rfl,rfl⟩⟩
end Go.Proofs.YtcngjjlhdlbogaaDoor
